/- Duties: a grant that is added can be revoked, needless grants change no right, and roles with mixed duties have both rights. Conditions: bytes are bytes. -/
import Derived.Test.YtobkmdnplcmndaaBFnDuties
set_option linter.unusedVariables false
set_option linter.unusedSectionVars false
set_option linter.unusedSimpArgs false
set_option maxRecDepth 4000
namespace Go.Ab.P
open Go.Ab
def rN (r : T_Role.ty) : List UInt8 := r.1
def rU (r : T_Role.ty) : List (List UInt8) := r.2.1
def gR (g : Zaa.ty) : List UInt8 := g.1
def gO (g : Zaa.ty) : List UInt8 := g.2.1
def gA (g : Zaa.ty) : Int := g.2.2.1
theorem g_eta (g : Zaa.ty) : g = (gR g,gO g,gA g,()) := rfl
def fz (rs : List T_Role.ty) (n : List UInt8) : Nat → Nat → Option Nat
 | 0,_ => none
 | k + 1,i => match rs[i]? with
   | some r => if rN r = n then some i else fz rs n k (i + 1)
   | none => none
def fnd (rs : List T_Role.ty) (n : List UInt8) : Option Nat := fz rs n rs.length 0
def pos : Option Nat → Int
 | some j => (j : Int)
 | none => -1
theorem pos_ge (o : Option Nat) : (0 ≤ pos o ↔ o.isSome = true) ∧ (pos o < 0 ↔ o.isSome = false) := by
 cases o with
 | none => simp [pos]
 | some j => simp [pos]
theorem Z1c (rs : List T_Role.ty) (n : List UInt8) (hl : rs.length ≤ 1048576) : ∀ (k i : Nat),i + k = rs.length → Zgz rs n i = some (pos (fz rs n k i)) ∧ Zam rs n rs.length i = some (pos (fz rs n k i))
 | 0,i,h => by
   have h1 : ¬ (i : Int) < (rs.length : Int) := by omega
   rw [Zmh,Zbg]
   simp [h1,fz,pos]
 | k + 1,i,h => by
   have hi : i < rs.length := by omega
   have h1 : (i : Int) < (rs.length : Int) := by omega
   obtain ⟨ih1,ih2⟩ := Z1c rs n hl k (i + 1) (by omega)
   rw [Zmh,Zbg]
   simp only [h1,decide_true,if_true,Int.natCast_nonneg,Int.toNat_natCast,List.getElem?_eq_getElem hi,Option.bind_some,wsucc (show i < 4611686018427387904 by omega),ih1,ih2,Zx1,fz,rN,beq_iff_eq]
   by_cases c : rs[i].1 = n <;> simp [c,pos]
theorem Zjo {rs : List T_Role.ty} (hl : rs.length ≤ 1048576) (n : List UInt8) : Zcp rs n = some (pos (fnd rs n)) ∧ Zfi rs n = some (pos (fnd rs n)) := by
 have h := Z1c rs n hl rs.length 0 (by omega)
 rw [Zyt,Z0a,Zdo]
 refine ⟨h.1,?_⟩
 rw [show (0 : Int) = ((0 : Nat) : Int) from rfl,h.2]; rfl
theorem Z5j {rs : List T_Role.ty} {n : List UInt8} : ∀ {k i j : Nat},fz rs n k i = some j → i ≤ j ∧ ∃ r,rs[j]? = some r ∧ rN r = n
 | 0,_,_,h => by cases h
 | k + 1,i,j,h => by
   rw [fz] at h
   split at h
   ·rename_i r hr
    split at h
    ·rename_i e
     cases h; exact ⟨Nat.le_refl _,r,hr,e⟩
    ·obtain ⟨a,b⟩ := Z5j h; exact ⟨by omega,b⟩
   ·cases h
theorem Z5k {rs : List T_Role.ty} {n : List UInt8} : ∀ {k i : Nat},i + k = rs.length → fz rs n k i = none → ∀ j r,i ≤ j → rs[j]? = some r → rN r ≠ n
 | 0,i,h,_,j,r,hj,hr => by rw [List.getElem?_eq_none (by omega)] at hr; cases hr
 | k + 1,i,h,hf,j,r,hj,hr => by
   rw [fz,List.getElem?_eq_getElem (show i < rs.length by omega)] at hf
   simp only at hf
   split at hf
   ·cases hf
   ·rename_i e
    rcases Nat.eq_or_lt_of_le hj with rfl | hj
    ·rw [List.getElem?_eq_getElem (show i < rs.length by omega)] at hr
     cases hr; exact e
    ·exact Z5k (by omega) hf j r hj hr
theorem Zel {rs : List T_Role.ty} {n : List UInt8} {j : Nat} (h : fnd rs n = some j) : j < rs.length ∧ ∃ r,rs[j]? = some r ∧ rN r = n := by
 obtain ⟨_,r,hr,e⟩ := Z5j h
 refine ⟨?_,r,hr,e⟩
 rcases Nat.lt_or_ge j rs.length with h | h
 ·exact h
 ·rw [List.getElem?_eq_none h] at hr; cases hr
theorem Z70 {rs : List T_Role.ty} {n : List UInt8} (h : fnd rs n = none) {r : T_Role.ty} (hr : r ∈ rs) : rN r ≠ n := by
 obtain ⟨j,hj⟩ := List.mem_iff_getElem?.1 hr
 exact Z5k (by omega) h j r (Nat.zero_le _) hj
def Ups (rs : List T_Role.ty) : Prop := rs.Pairwise fun a b => rN a < rN b
theorem Ups.one {rs : List T_Role.ty} (h : Ups rs) {i j : Nat} {a b : T_Role.ty} (ha : rs[i]? = some a) (hb : rs[j]? = some b) (e : rN a = rN b) : i = j := by
 have hi : i < rs.length := (List.getElem?_eq_some_iff.1 ha).1
 have hj : j < rs.length := (List.getElem?_eq_some_iff.1 hb).1
 have ha' : rs[i] = a := (List.getElem?_eq_some_iff.1 ha).2
 have hb' : rs[j] = b := (List.getElem?_eq_some_iff.1 hb).2
 rcases Nat.lt_trichotomy i j with c | c | c
 ·have := (List.pairwise_iff_getElem.1 h) i j hi hj c
  rw [ha',hb',e] at this; exact absurd this (List.lt_irrefl _)
 ·exact c
 ·have := (List.pairwise_iff_getElem.1 h) j i hj hi c
  rw [ha',hb',e] at this; exact absurd this (List.lt_irrefl _)
theorem Ups.fnd {rs : List T_Role.ty} (h : Ups rs) {j : Nat} {r : T_Role.ty} (hr : rs[j]? = some r) : fnd rs (rN r) = some j := by
 cases hf : P.fnd rs (rN r) with
 | none => exact absurd rfl (Z70 hf (List.mem_of_getElem? hr))
 | some i =>
   obtain ⟨_,q,hq,e⟩ := Zel hf
   rw [h.one hq hr e]
def Ed (rs : List T_Role.ty) (i j : Nat) : Prop := ∃ r,rs[i]? = some r ∧ ∃ u,u ∈ rU r ∧ fnd rs u = some j
inductive Rch (rs : List T_Role.ty) (a : Nat) : Nat → Prop
 | one {j : Nat} : Ed rs a j → Rch rs a j
 | more {i j : Nat} : Rch rs a i → Ed rs i j → Rch rs a j
def Clo (rs : List T_Role.ty) : Prop := ∀ r,r ∈ rs → (rU r).length ≤ 1048576 ∧ ∀ u,u ∈ rU r → ∃ j,fnd rs u = some j
def set1 (rs : List T_Role.ty) (o : List Bool) (u : List UInt8) : List Bool := match fnd rs u with
 | some j => o.set j true
 | none => o
def rowS (rs : List T_Role.ty) (o : List Bool) (us : List (List UInt8)) : List Bool := us.foldl (set1 rs) o
theorem Z81 {o : List Bool} {i j : Nat} (h : o[i]? = some true) : (o.set j true)[i]? = some true := by
 rw [List.getElem?_set]
 by_cases c : j = i
 ·subst c
  rw [if_pos rfl,if_pos (List.getElem?_eq_some_iff.1 h).1]
 ·rw [if_neg c]; exact h
theorem Z22 (rs : List T_Role.ty) (o : List Bool) (u : List UInt8) : (set1 rs o u).length = o.length := by
 unfold set1; split <;> simp
theorem Z1a {rs : List T_Role.ty} {o : List Bool} {u : List UInt8} {i : Nat} (h : o[i]? = some true) : (set1 rs o u)[i]? = some true := by
 unfold set1; split
 ·exact Z81 h
 ·exact h
theorem Z5a : ∀ (o : List Bool) (j : Nat),o.set j true = o ∨ o.count true < (o.set j true).count true
 | [],j => .inl (by simp)
 | b :: o,0 => by cases b <;> simp
 | b :: o,j + 1 => by
   rcases Z5a o j with h | h
   ·left; rw [List.set_cons_succ,h]
   ·right; rw [List.set_cons_succ,List.count_cons,List.count_cons]; omega
theorem Z0p {rs : List T_Role.ty} : ∀ (us : List (List UInt8)) (o : List Bool),o.length = rs.length → (rowS rs o us).length = rs.length ∧ (∀ j : Nat,o[j]? = some true → (rowS rs o us)[j]? = some true) ∧ (∀ u,u ∈ us → ∀ j,fnd rs u = some j → (rowS rs o us)[j]? = some true) ∧
 (∀ j : Nat,(rowS rs o us)[j]? = some true → o[j]? = some true ∨ ∃ u,u ∈ us ∧ fnd rs u = some j) ∧ (rowS rs o us = o ∨ o.count true < (rowS rs o us).count true)
 | [],o,h => ⟨h,fun _ h => h,fun u hu => (by cases hu),fun j h => .inl h,.inl rfl⟩
 | u :: us,o,h => by
   obtain ⟨a1,a2,a3,a4,a5⟩ := Z0p us (set1 rs o u) (by rw [Z22]; exact h)
   have e : rowS rs o (u :: us) = rowS rs (set1 rs o u) us := rfl
   rw [e]
   refine ⟨a1,fun j hj => a2 j (Z1a hj),fun v hv j hj => ?_,fun j hj => ?_,?_⟩
   ·rcases List.mem_cons.1 hv with rfl | hv
    ·refine a2 j ?_
     have hjl := (Zel hj).1
     simp only [set1,hj]
     rw [List.getElem?_set,if_pos rfl,if_pos (by omega)]
    ·exact a3 v hv j hj
   ·rcases a4 j hj with h4 | ⟨v,hv,hf⟩
    ·cases hf : fnd rs u with
     | none => simp only [set1,hf] at h4; exact .inl h4
     | some i =>
       simp only [set1,hf] at h4
       rw [List.getElem?_set] at h4
       by_cases c : i = j
       ·subst c; exact .inr ⟨u,List.mem_cons_self,hf⟩
       ·rw [if_neg c] at h4; exact .inl h4
    ·exact .inr ⟨v,List.mem_cons_of_mem _ hv,hf⟩
   ·have hs : set1 rs o u = o ∨ o.count true < (set1 rs o u).count true := by
     unfold set1; split
     ·exact Z5a _ _
     ·exact .inl rfl
    rcases hs with hs | hs
    ·rw [hs] at a5 ⊢; exact a5
    ·rcases a5 with h5 | h5
     ·rw [h5]; exact .inr hs
     ·exact .inr (by omega)
theorem Z2r {rs : List T_Role.ty} (hl : rs.length ≤ 1048576) (hC : Clo rs) (a t i : Nat) {r : T_Role.ty} (hr : rs[i]? = some r) : ∀ (m k : Nat) (o : List Bool),k + m = (rU r).length → o.length = rs.length →
 Zem rs a rs.length t i k o = Zds rs a rs.length t ((i + 1 : Nat) : Int) (if i = a ∨ o[i]? = some true then rowS rs o ((rU r).drop k) else o)
 | 0,k,o,h,ho => by
   have h1 : ¬ (k : Int) < ((rU r).length : Int) := by omega
   have hi : i < rs.length := (List.getElem?_eq_some_iff.1 hr).1
   rw [Zkw,List.drop_eq_nil_of_le (by omega)]
   have h1' : ¬ (k : Int) < (r.2.1.length : Int) := h1
   simp only [Int.natCast_nonneg,decide_true,if_true,Int.toNat_natCast,hr,Option.bind_some,h1',decide_false,Bool.false_eq_true,if_false,wsucc (show i < 4611686018427387904 by omega)]
   congr 1
   split <;> rfl
 | m + 1,k,o,h,ho => by
   have hk : k < (rU r).length := by omega
   have h1 : (k : Int) < (r.2.1.length : Int) := by show (k : Int) < ((rU r).length : Int); omega
   have hi : i < rs.length := (List.getElem?_eq_some_iff.1 hr).1
   have hi2 : (i : Int) < (rs.length : Int) := by omega
   obtain ⟨hul,hcl⟩ := hC r (List.mem_of_getElem? hr)
   obtain ⟨j,hj⟩ := hcl _ (List.getElem_mem hk)
   have hjl := (Zel hj).1
   have hjl2 : (j : Int) < (rs.length : Int) := by omega
   have hp3 : Zgi rs a rs.length t i k o = Zem rs a rs.length t i ((k + 1 : Nat) : Int) (set1 rs o (rU r)[k]) := by
    rw [Zun]
    have hu : r.2.1[k]? = some (rU r)[k] := List.getElem?_eq_getElem hk
    simp only [Int.natCast_nonneg,decide_true,if_true,Int.toNat_natCast,hr,Option.bind_some,hu,(Zjo hl _).1,hj,pos,hjl2,Bool.and_self,List.getElem?_eq_getElem (show j < o.length by omega),wsucc (show k < 4611686018427387904 by omega),set1]
   have ih := Z2r hl hC a t i hr m (k + 1) (set1 rs o (rU r)[k]) (by omega) (by rw [Z22]; exact ho)
   have hd : rowS rs o ((rU r).drop k) = rowS rs (set1 rs o (rU r)[k]) ((rU r).drop (k + 1)) := by
    rw [List.drop_eq_getElem_cons hk]; rfl
   rw [Zkw]
   simp only [Int.natCast_nonneg,decide_true,if_true,Int.toNat_natCast,hr,Option.bind_some,h1,hi2,Bool.and_self,List.getElem?_eq_getElem (show i < o.length by omega),hp3,ih]
   by_cases c : i = a
   ·have c1 : ((i : Int) == (a : Int)) = true := by simp [c]
    have c2 : (i = a ∨ (set1 rs o (rU r)[k])[i]? = some true) := .inl c
    have c3 : (i = a ∨ some o[i] = some true) := .inl c
    rw [if_pos c1,if_pos c2,if_pos c3,hd]
   ·have c1 : ¬ ((i : Int) == (a : Int)) = true := by simp; omega
    rw [if_neg c1]
    cases hb : o[i]'(by omega) with
    | true =>
      have ho2 : o[i]? = some true := by rw [List.getElem?_eq_getElem (show i < o.length by omega),hb]
      have c2 : (i = a ∨ (set1 rs o (rU r)[k])[i]? = some true) := .inr (Z1a ho2)
      rw [if_pos rfl,if_pos c2,if_pos (.inr rfl),hd]
    | false =>
      rw [if_neg (by simp),if_neg (by simp [c]),wsucc (show i < 4611686018427387904 by omega)]
def Cl (rs : List T_Role.ty) (a : Nat) (o : List Bool) (i : Nat) : Prop := ∀ i',i' < i → (i' = a ∨ o[i']? = some true) → ∀ r,rs[i']? = some r → ∀ u,u ∈ rU r → ∀ j,fnd rs u = some j → o[j]? = some true
def Snd (rs : List T_Role.ty) (a : Nat) (o : List Bool) : Prop := o.length = rs.length ∧ ∀ j : Nat,o[j]? = some true → Rch rs a j
theorem Z85 {rs : List T_Role.ty} {a i : Nat} {o : List Bool} (ho : o.length = rs.length) (h : Cl rs a o rs.length) (hi : i < rs.length) (c : i = a ∨ o[i]? = some true) {r : T_Role.ty} (hr : rs[i]? = some r) : rowS rs o (rU r) = o := by
 obtain ⟨a1,a2,a3,a4,a5⟩ := Z0p (rU r) o ho
 apply List.ext_getElem?
 intro j
 rcases Nat.lt_or_ge j rs.length with hjl | hjl
 ·have e1 := List.getElem?_eq_getElem (l := rowS rs o (rU r)) (i := j) (by omega)
  have e2 := List.getElem?_eq_getElem (l := o) (i := j) (by omega)
  cases h1 : (rowS rs o (rU r))[j]'(by omega) with
  | true =>
    rw [h1] at e1
    rcases a4 j e1 with h4 | ⟨u,hu,hf⟩
    ·rw [e1,h4]
    ·rw [e1,h i hi c _ hr u hu j hf]
  | false =>
    cases h2 : o[j]'(by omega) with
    | true =>
      rw [h2] at e2
      rw [a2 j e2] at e1
      rw [h1] at e1; cases e1
    | false => rw [e1,e2,h1,h2]
 ·rw [List.getElem?_eq_none (by omega),List.getElem?_eq_none (by omega)]
theorem Zxn {rs : List T_Role.ty} (hl : rs.length ≤ 1048576) (hC : Clo rs) (a t : Nat) : ∀ (m i : Nat) (o : List Bool),i + m = rs.length → t < rs.length → Snd rs a o → (Cl rs a o rs.length ∨ t + 1 ≤ o.count true ∨ t ≤ o.count true ∧ Cl rs a o i) →
 ∃ o',Zds rs a rs.length t i o = Zen rs a rs.length ((t + 1 : Nat) : Int) o' ∧ Snd rs a o' ∧ (Cl rs a o' rs.length ∨ t + 1 ≤ o'.count true)
 | 0,i,o,h,ht,hs,hc => by
   have h1 : ¬ (i : Int) < (rs.length : Int) := by omega
   rw [Zk8]
   simp only [h1,decide_false,Bool.false_eq_true,if_false,wsucc (show t < 4611686018427387904 by omega)]
   refine ⟨o,rfl,hs,?_⟩
   rcases hc with h | h | ⟨_,h⟩
   ·exact .inl h
   ·exact .inr h
   ·rw [show i = rs.length by omega] at h; exact .inl h
 | m + 1,i,o,h,ht,hs,hc => by
   have hi : i < rs.length := by omega
   have h1 : (i : Int) < (rs.length : Int) := by omega
   have hr : rs[i]? = some rs[i] := List.getElem?_eq_getElem hi
   rw [Zk8]
   simp only [h1,decide_true,if_true]
   have hp := Z2r hl hC a t i hr (rU rs[i]).length 0 o (by omega) hs.1
   rw [show ((0 : Nat) : Int) = 0 from rfl,List.drop_zero] at hp
   rw [hp]
   obtain ⟨a1,a2,a3,a4,a5⟩ := Z0p (rU rs[i]) o hs.1
   by_cases c : i = a ∨ o[i]? = some true
   ·rw [if_pos c]
    have hs' : Snd rs a (rowS rs o (rU rs[i])) := ⟨a1,fun j hj => by
     rcases a4 j hj with h4 | ⟨u,hu,hf⟩
     ·exact hs.2 j h4
     ·rcases c with rfl | c
      ·exact .one ⟨_,hr,u,hu,hf⟩
      ·exact .more (hs.2 i c) ⟨_,hr,u,hu,hf⟩⟩
    refine Zxn hl hC a t m (i + 1) _ (by omega) ht hs' ?_
    rcases a5 with a5 | a5
    ·rw [a5] at a3 ⊢
     rcases hc with h | h | ⟨h,h'⟩
     ·exact .inl h
     ·exact .inr (.inl h)
     ·refine .inr (.inr ⟨h,fun i' hi' hci r' hr' u hu j hj => ?_⟩)
      rcases Nat.lt_or_ge i' i with hlt | hge
      ·exact h' i' hlt hci r' hr' u hu j hj
      ·obtain rfl : i' = i := by omega
       rw [hr] at hr'; cases hr'
       exact a3 u hu j hj
    ·rcases hc with h | h | ⟨h,h'⟩
     ·rw [Z85 hs.1 h hi c hr] at a5; exact absurd a5 (Nat.lt_irrefl _)
     ·exact .inr (.inl (by omega))
     ·exact .inr (.inl (by omega))
   ·rw [if_neg c]
    refine Zxn hl hC a t m (i + 1) o (by omega) ht hs ?_
    rcases hc with h | h | ⟨h,h'⟩
    ·exact .inl h
    ·exact .inr (.inl h)
    ·refine .inr (.inr ⟨h,fun i' hi' hci r' hr' u hu j hj => ?_⟩)
     rcases Nat.lt_or_ge i' i with hlt | hge
     ·exact h' i' hlt hci r' hr' u hu j hj
     ·obtain rfl : i' = i := by omega
      exact absurd hci c
theorem Z1i : ∀ (o : List Bool),o.length ≤ o.count true → ∀ j,j < o.length → o[j]? = some true
 | [],_,j,hj => absurd hj (Nat.not_lt_zero _)
 | b :: o,h,j,hj => by
   have hle : o.count true ≤ o.length := List.count_le_length
   rw [List.length_cons,List.count_cons] at h
   cases b with
   | false => simp at h; omega
   | true =>
     cases j with
     | zero => rfl
     | succ j =>
       rw [List.getElem?_cons_succ]
       exact Z1i o (by simpa using h) j (by simpa using hj)
theorem Z20 {rs : List T_Role.ty} (hl : rs.length ≤ 1048576) (hC : Clo rs) (a : Nat) : ∀ (m t : Nat) (o : List Bool),t + m = rs.length → Snd rs a o → (Cl rs a o rs.length ∨ t ≤ o.count true) →
 ∃ o',Zen rs a rs.length t o = some o' ∧ Snd rs a o' ∧ Cl rs a o' rs.length
 | 0,t,o,h,hs,hc => by
   have h1 : ¬ (t : Int) < (rs.length : Int) := by omega
   rw [Zlh]
   simp only [h1,decide_false,Bool.false_eq_true,if_false]
   refine ⟨o,by rw [← hs.1,List.take_length],hs,?_⟩
   rcases hc with hc | hc
   ·exact hc
   ·intro i' hi' _ r' hr' u hu j hj
    have := hs.1
    exact Z1i o (by omega) j (by have := (Zel hj).1; omega)
 | m + 1,t,o,h,hs,hc => by
   have h1 : (t : Int) < (rs.length : Int) := by omega
   rw [Zlh]
   simp only [h1,decide_true,if_true]
   obtain ⟨o1,e,hs1,hc1⟩ := Zxn hl hC a t rs.length 0 o (by omega) (by omega) hs (hc.imp id fun h => .inr ⟨h,fun i' hi' => absurd hi' (Nat.not_lt_zero _)⟩)
   rw [show ((0 : Nat) : Int) = 0 from rfl] at e
   rw [e]
   exact Z20 hl hC a m (t + 1) o1 (by omega) hs1 hc1
theorem Z08 {rs : List T_Role.ty} (hl : rs.length ≤ 1048576) (hC : Clo rs) {a : Nat} (ha : a < rs.length) : ∃ o,Ziy rs a = some o ∧ o.length = rs.length ∧ ∀ j : Nat,o[j]? = some true ↔ Rch rs a j := by
 have hlim : rs.length < lim := by unfold lim; omega
 have h0 : Snd rs a (List.replicate rs.length false) := ⟨List.length_replicate,fun j hj => by
  obtain ⟨hlt,e⟩ := List.getElem?_eq_some_iff.1 hj
  rw [List.getElem_replicate] at e; cases e⟩
 obtain ⟨o,e,hs,hc⟩ := Z20 hl hC a rs.length 0 _ (by omega) h0 (.inr (Nat.zero_le _))
 refine ⟨o,?_,hs.1,fun j => ⟨hs.2 j,fun hj => ?_⟩⟩
 ·rw [Zw5]
  rw [show ((0 : Nat) : Int) = 0 from rfl] at e
  simp only [Int.natCast_nonneg,decide_true,Int.le_refl,Bool.and_self,Int.toNat_natCast,hlim,if_true,List.length_replicate]
  exact e
 ·induction hj with
  | one h =>
    obtain ⟨r,hr,u,hu,hf⟩ := h
    exact hc a ha (.inl rfl) r hr u hu _ hf
  | more h1 h2 ih =>
    obtain ⟨r,hr,u,hu,hf⟩ := h2
    exact hc _ (List.getElem?_eq_some_iff.1 hr).1 (.inr ih) r hr u hu _ hf
theorem Zzd {l : List (List UInt8)} (hl : l.length ≤ 1048576) (a : List UInt8) : ∀ (n i : Nat),i + n = l.length → ∃ z : Int,Zb5 l a l.length i = some z ∧ (0 ≤ z ↔ a ∈ l.drop i)
 | 0,i,h => by
   have h1 : ¬ (i : Int) < (l.length : Int) := by omega
   rw [Zdx]
   simp only [h1,decide_false,Bool.false_eq_true,if_false]
   refine ⟨-1,rfl,?_⟩
   rw [List.drop_eq_nil_of_le (by omega)]; simp
 | n + 1,i,h => by
   have hi : i < l.length := by omega
   have h1 : (i : Int) < (l.length : Int) := by omega
   rw [Zdx]
   simp only [h1,decide_true,if_true,Int.natCast_nonneg,Int.toNat_natCast,List.getElem?_eq_getElem hi,Option.bind_some,wsucc (show i < 4611686018427387904 by omega)]
   rw [List.drop_eq_getElem_cons hi]
   by_cases c : a = l[i]
   ·rw [if_pos (by simpa using c)]
    exact ⟨i,rfl,by rw [List.mem_cons]; exact ⟨fun _ => .inl c,fun _ => by omega⟩⟩
   ·rw [if_neg (by simpa using c)]
    obtain ⟨z,e,hz⟩ := Zzd hl a n (i + 1) (by omega)
    exact ⟨z,e,by rw [hz,List.mem_cons]; exact ⟨.inr,fun h => h.resolve_left c⟩⟩
theorem Zma {l : List (List UInt8)} (hl : l.length ≤ 1048576) (a : List UInt8) : Zac l a = some (decide (a ∈ l)) := by
 obtain ⟨z,e,hz⟩ := Zzd hl a l.length 0 (by omega)
 have e0 : Zdm l a = some z := by rw [Zjf]; exact e
 rw [List.drop_zero] at hz
 rw [Zhq,e0,Option.bind_some]
 congr 1
 rw [decide_eq_decide]; exact hz
theorem Zwy {l : List (List UInt8)} (hl : l.length ≤ 1048576) (a : List UInt8) : ∀ (n i : Nat),i + n = l.length → Zfk l a i = some (decide (a ∈ l.drop i))
 | 0,i,h => by
   have h1 : ¬ (i : Int) < (l.length : Int) := by omega
   rw [Zjw,List.drop_eq_nil_of_le (by omega)]
   simp [h1]
 | n + 1,i,h => by
   have hi : i < l.length := by omega
   have h1 : (i : Int) < (l.length : Int) := by omega
   rw [Zjw,List.drop_eq_getElem_cons hi]
   simp only [h1,decide_true,if_true,Int.natCast_nonneg,Int.toNat_natCast,List.getElem?_eq_getElem hi,Option.bind_some,wsucc (show i < 4611686018427387904 by omega),Zwy hl a n (i + 1) (by omega)]
   by_cases c : l[i] = a
   ·rw [if_pos (by simpa using c)]; simp [c]
   ·rw [if_neg (by simpa using c)]
    have e : (a ∈ l[i] :: l.drop (i + 1)) ↔ a ∈ l.drop (i + 1) := by rw [List.mem_cons]; exact ⟨fun h => h.resolve_left fun e => c e.symm,.inr⟩
    rw [decide_eq_decide.2 e]
theorem Z6s {l : List (List UInt8)} (hl : l.length ≤ 1048576) (a : List UInt8) : Zlq l a = some (decide (a ∈ l)) := by
 rw [Zwh]
 exact Zwy hl a l.length 0 (by omega)
theorem Zvl {α : Type} [DecidableEq α] : ∀ {l m : List α},l.Nodup → (∀ x,x ∈ l → x ∈ m) → l.length ≤ m.length
 | [],_,_,_ => Nat.zero_le _
 | a :: l,m,h,hs => by
   obtain ⟨h1,h2⟩ := List.nodup_cons.1 h
   have ha := hs a List.mem_cons_self
   have := Zvl (l := l) (m := m.erase a) h2 fun x hx => (List.mem_erase_of_ne (a := x) (b := a) (fun e => h1 (by rw [← e]; exact hx))).2 (hs x (List.mem_cons_of_mem _ hx))
   rw [List.length_erase_of_mem ha] at this
   have := List.length_pos_of_mem ha
   rw [List.length_cons]; omega
theorem Rch.nm {rs : List T_Role.ty} {a i : Nat} (h : Rch rs a i) : ∃ u,fnd rs u = some i := by
 cases h with
 | one h => obtain ⟨_,_,u,_,hf⟩ := h; exact ⟨u,hf⟩
 | more _ h => obtain ⟨_,_,u,_,hf⟩ := h; exact ⟨u,hf⟩
theorem Z0i {rs : List T_Role.ty} {u v : List UInt8} {j : Nat} (hu : fnd rs u = some j) (hv : fnd rs v = some j) : u = v := by
 obtain ⟨_,r,hr,e⟩ := Zel hu
 obtain ⟨_,q,hq,e'⟩ := Zel hv
 rw [hr] at hq; cases hq
 rw [← e,← e']
def Dn (rs : List T_Role.ty) (names : List (List UInt8)) (u : List UInt8) : Prop := ∀ i,fnd rs u = some i → ∀ r,rs[i]? = some r → ∀ v,v ∈ rU r → v ∈ names
structure WI (rs : List T_Role.ty) (a : Nat) (nm : List UInt8) (names work : List (List UInt8)) : Prop where
 nd : names.Nodup
 sn : ∀ u,u ∈ names → ∃ j,fnd rs u = some j ∧ Rch rs a j
 wk : ∀ u,u ∈ work → u = nm ∨ u ∈ names
 dn : ∀ u,u = nm ∨ u ∈ names → u ∈ work ∨ Dn rs names u
theorem sn_len {rs : List T_Role.ty} {a : Nat} {names : List (List UInt8)} (nd : names.Nodup) (sn : ∀ u,u ∈ names → ∃ j,fnd rs u = some j ∧ Rch rs a j) : names.length ≤ rs.length := by
 have := Zvl (m := rs.map rN) nd fun u hu => by
  obtain ⟨j,hj,_⟩ := sn u hu
  obtain ⟨_,r,hr,e⟩ := Zel hj
  exact List.mem_map.2 ⟨r,List.mem_of_getElem? hr,e⟩
 rwa [List.length_map] at this
theorem Zvz {rs : List T_Role.ty} (hl : rs.length ≤ 1048576) (hC : Clo rs) {a : Nat} {nm x : List UInt8} {i : Nat} {r : T_Role.ty} (hx : fnd rs x = some i) (hr : rs[i]? = some r) (hxR : i = a ∨ Rch rs a i) :
 ∀ (m k : Nat) (names work : List (List UInt8)),k + m = (rU r).length → names.Nodup → (∀ u,u ∈ names → ∃ j,fnd rs u = some j ∧ Rch rs a j) → (∀ u,u ∈ work → u = nm ∨ u ∈ names) → (∀ u,u = nm ∨ u ∈ names → u ∈ work ∨ u = x ∨ Dn rs names u) →
 (∀ k' v,k' < k → (rU r)[k']? = some v → v ∈ names) → 2 * (rs.length - names.length) + work.length ≤ 3000000 →
 ∃ names' work',Zex rs work.length (rU r) (rU r).length k names work = Zez rs work'.length names' work' ∧ WI rs a nm names' work' ∧ 2 * (rs.length - names'.length) + work'.length ≤ 2 * (rs.length - names.length) + work.length
 | 0,k,names,work,h,nd,sn,wk,dn,hk,hm => by
   have h1 : ¬ (k : Int) < ((rU r).length : Int) := by omega
   rw [Zoj]
   simp only [h1,decide_false,Bool.false_eq_true,if_false,List.take_length]
   refine ⟨names,work,rfl,⟨nd,sn,wk,fun u hu => ?_⟩,Nat.le_refl _⟩
   rcases dn u hu with h | rfl | h
   ·exact .inl h
   ·refine .inr fun i' hi' r' hr' v hv => ?_
    rw [hx] at hi'; cases hi'
    rw [hr] at hr'; cases hr'
    obtain ⟨k',hk'⟩ := List.mem_iff_getElem?.1 hv
    refine hk k' v ?_ hk'
    have := (List.getElem?_eq_some_iff.1 hk').1
    omega
   ·exact .inr h
 | m + 1,k,names,work,h,nd,sn,wk,dn,hk,hm => by
   have hkl : k < (rU r).length := by omega
   have h1 : (k : Int) < ((rU r).length : Int) := by omega
   have hnl := sn_len nd sn
   obtain ⟨hul,hcl⟩ := hC r (List.mem_of_getElem? hr)
   rw [Zoj]
   simp only [h1,decide_true,if_true,Int.natCast_nonneg,Int.toNat_natCast,List.getElem?_eq_getElem hkl,Option.bind_some,List.take_length,Zma (show names.length ≤ 1048576 by omega),wsucc (show k < 4611686018427387904 by omega)]
   obtain ⟨j,hj⟩ := hcl _ (List.getElem_mem hkl)
   have hRj : Rch rs a j := by
    have e : Ed rs i j := ⟨r,hr,_,List.getElem_mem hkl,hj⟩
    rcases hxR with rfl | hxR
    ·exact .one e
    ·exact .more hxR e
   by_cases c : (rU r)[k] ∈ names
   ·simp only [c,decide_true,Bool.not_true,Bool.false_eq_true,if_false]
    refine Zvz hl hC hx hr hxR m (k + 1) names work (by omega) nd sn wk dn (fun k' v hk' hv => ?_) hm
    rcases Nat.lt_or_ge k' k with hlt | hge
    ·exact hk k' v hlt hv
    ·obtain rfl : k' = k := by omega
     rw [List.getElem?_eq_getElem hkl] at hv
     cases hv; exact c
   ·have e1 : names.length + 1 < lim := by unfold lim; omega
    have e2 : work.length + 1 < lim := by unfold lim; omega
    simp only [c,decide_false,Bool.not_false,if_true,e1,e2,decide_true]
    have nd' : (names ++ [(rU r)[k]]).Nodup := by
     rw [List.nodup_append]
     refine ⟨nd,by simp,fun u hu v hv e => ?_⟩
     rw [List.mem_singleton] at hv
     subst e; subst hv; exact c hu
    have sn' : ∀ u,u ∈ names ++ [(rU r)[k]] → ∃ j,fnd rs u = some j ∧ Rch rs a j := fun u hu => by
     rcases List.mem_append.1 hu with hu | hu
     ·exact sn u hu
     ·rw [List.mem_singleton] at hu; subst hu; exact ⟨j,hj,hRj⟩
    have hnl' := sn_len nd' sn'
    rw [List.length_append,List.length_singleton] at hnl'
    have hmm : 2 * (rs.length - (names ++ [(rU r)[k]]).length) + (work ++ [(rU r)[k]]).length ≤ 2 * (rs.length - names.length) + work.length := by
     rw [List.length_append,List.length_append,List.length_singleton]; omega
    obtain ⟨names',work',e,hw,hle⟩ := Zvz (nm := nm) hl hC hx hr hxR m (k + 1) (names ++ [(rU r)[k]]) (work ++ [(rU r)[k]]) (by omega) nd' sn' (fun u hu => by
     rcases List.mem_append.1 hu with hu | hu
     ·exact (wk u hu).imp id fun h => List.mem_append_left _ h
     ·exact .inr (List.mem_append_right _ hu)) (fun u hu => by
     have dn1 : u = nm ∨ u ∈ names → u ∈ work ++ [(rU r)[k]] ∨ u = x ∨ Dn rs (names ++ [(rU r)[k]]) u := fun hu => by
      rcases dn u hu with h | h | h
      ·exact .inl (List.mem_append_left _ h)
      ·exact .inr (.inl h)
      ·exact .inr (.inr fun i' hi' r' hr' v hv => List.mem_append_left _ (h i' hi' r' hr' v hv))
     rcases hu with hu | hu
     ·exact dn1 (.inl hu)
     ·rcases List.mem_append.1 hu with hu | hu
      ·exact dn1 (.inr hu)
      ·exact .inl (List.mem_append_right _ hu)) (fun k' v hk' hv => by
     rcases Nat.lt_or_ge k' k with hlt | hge
     ·exact List.mem_append_left _ (hk k' v hlt hv)
     ·obtain rfl : k' = k := by omega
      rw [List.getElem?_eq_getElem hkl] at hv
      cases hv; exact List.mem_append_right _ (List.mem_singleton_self _)) (by omega)
    exact ⟨names',work',e,hw,by omega⟩
theorem Z0y {rs : List T_Role.ty} (hl : rs.length ≤ 1048576) (hC : Clo rs) {a : Nat} {nm : List UInt8} (hnm : fnd rs nm = some a) : ∀ (M : Nat) (names work : List (List UInt8)),2 * (rs.length - names.length) + work.length ≤ M → M ≤ 3000000 → WI rs a nm names work →
 ∃ names',Zez rs work.length names work = some (lessP names') ∧ WI rs a nm names' [] ∧ names'.length ≤ rs.length
 | M,names,[],hm,hM,hw => by
   have hnl := sn_len hw.nd hw.sn
   rw [Zo4]
   simp only [List.length_nil,Int.natCast_zero,show ¬ ((0 : Int) > 0) by omega,decide_false,Bool.false_eq_true,if_false,decide_true,if_true,Z28 names (by omega),Option.bind_some,List.take_length]
   exact ⟨names,rfl,hw,hnl⟩
 | 0,names,x :: work,hm,hM,hw => by simp at hm
 | M + 1,names,x :: work,hm,hM,hw => by
   rw [List.length_cons] at hm
   obtain ⟨i,hi,hR⟩ : ∃ i,fnd rs x = some i ∧ (i = a ∨ Rch rs a i) := by
    rcases hw.wk x List.mem_cons_self with rfl | hx
    ·exact ⟨a,hnm,.inl rfl⟩
    ·obtain ⟨j,hj,hR⟩ := hw.sn x hx; exact ⟨j,hj,.inr hR⟩
   obtain ⟨hil,r,hr,_⟩ := Zel hi
   have h1 : ((x :: work).length : Int) > 0 := by rw [List.length_cons]; omega
   have h2 : (0 : Int) < ((x :: work).length : Int) := h1
   have h3 : (1 : Int) ≤ ((x :: work).length : Int) := by rw [List.length_cons]; omega
   have h4 : (0 : Int) ≤ (i : Int) := by omega
   obtain ⟨names',work',e,hw',hle⟩ := Zvz (nm := nm) hl hC hi hr hR (rU r).length 0 names work (by omega) hw.nd hw.sn (fun u hu => hw.wk u (List.mem_cons_of_mem _ hu)) (fun u hu => by
    rcases hw.dn u hu with h | h
    ·rcases List.mem_cons.1 h with h | h
     ·exact .inr (.inl h)
     ·exact .inl h
    ·exact .inr (.inr h)) (fun k' v hk' => absurd hk' (Nat.not_lt_zero _)) (by omega)
   obtain ⟨n2,e2,hw2,hl2⟩ := Z0y hl hC hnm M names' work' (by omega) (by omega) hw'
   refine ⟨n2,?_,hw2,hl2⟩
   rw [Zo4]
   simp only [h1,h2,h3,h4,decide_true,if_true,List.getElem?_cons_zero,Option.bind_some,(Zjo hl x).2,hi,pos,Int.toNat_natCast,hr]
   have e' : Zex rs work.length r.2.1 r.2.1.length 0 names work = Zez rs work'.length names' work' := e
   have hd : ((x :: work).drop 1).take ((x :: work).length - 1) = work := by simp
   have hn : (x :: work).length - 1 = work.length := by simp
   rw [hd,hn,e',e2]
theorem Z0w {rs : List T_Role.ty} (hl : rs.length ≤ 1048576) (hC : Clo rs) {a : Nat} {nm : List UInt8} (hnm : fnd rs nm = some a) :
 ∃ ys,Zbl rs nm = some ys ∧ ys.length ≤ rs.length ∧ ∀ u,u ∈ ys ↔ ∃ j,fnd rs u = some j ∧ Rch rs a j := by
 obtain ⟨names,e,hw,hn⟩ := Z0y hl hC hnm (2 * rs.length + 1) [] [nm] (by simp) (by omega) ⟨List.nodup_nil,fun u hu => (by cases hu),fun u hu => .inl (List.mem_singleton.1 hu),fun u hu => by
  rcases hu with rfl | hu
  ·exact .inl (List.mem_singleton_self _)
  ·cases hu⟩
 refine ⟨lessP names,by rw [Z16]; exact e,Nat.le_trans (Z89 _) hn,fun u => ?_⟩
 rw [(Z03 names).2.2]
 have dn : ∀ u,u = nm ∨ u ∈ names → Dn rs names u := fun u hu => (hw.dn u hu).resolve_left fun h => (by cases h)
 have key : ∀ j,Rch rs a j → ∀ u,fnd rs u = some j → u ∈ names := by
  intro j hR
  induction hR with
  | one h =>
    intro u hj
    obtain ⟨r,hr,v,hv,hf⟩ := h
    rw [Z0i hj hf]
    exact dn nm (.inl rfl) a hnm r hr v hv
  | more h1 h2 ih =>
    intro u hj
    obtain ⟨r,hr,v,hv,hf⟩ := h2
    obtain ⟨w,hwi⟩ := h1.nm
    rw [Z0i hj hf]
    exact dn w (.inr (ih w hwi)) _ hwi r hr v hv
 exact ⟨hw.sn u,fun ⟨j,hj,hR⟩ => key j hR u hj⟩
def rAt (rs : List T_Role.ty) (i : Nat) : T_Role.ty := (rs[i]?).getD ([],[],())
def uAt (us : List (List UInt8)) (k : Nat) : List UInt8 := (us[k]?).getD []
def gAt (gs : List Zaa.ty) (i : Nat) : Zaa.ty := (gs[i]?).getD ([],[],0,())
theorem Zcm {rs : List T_Role.ty} {i : Nat} (h : i < rs.length) : rs[i]? = some (rAt rs i) := by simp [rAt,List.getElem?_eq_getElem h]
theorem Zv5 {us : List (List UInt8)} {k : Nat} (h : k < us.length) : us[k]? = some (uAt us k) := by simp [uAt,List.getElem?_eq_getElem h]
theorem Zco {gs : List Zaa.ty} {i : Nat} (h : i < gs.length) : gs[i]? = some (gAt gs i) := by simp [gAt,List.getElem?_eq_getElem h]
theorem Zry {rs : List T_Role.ty} {i : Nat} (h : i < rs.length) : rAt rs i ∈ rs := List.mem_of_getElem? (Zcm h)
theorem Ze0 {gs : List Zaa.ty} {i : Nat} (h : i < gs.length) : gAt gs i ∈ gs := List.mem_of_getElem? (Zco h)
theorem wpred {i : Nat} (h : 0 < i) (h2 : i < 4611686018427387904) : IntKind.i64.wrap ((i : Int) - 1) = ((i - 1 : Nat) : Int) := by rw [w64 (by omega) (by omega)]; omega
theorem Zjq {n : Nat} {c : Nat → Bool} : (List.range' 0 n).all c = true ↔ ∀ i,i < n → c i = true := by
 rw [List.all_eq_true]
 constructor
 ·intro h i hi; exact h i (by rw [List.mem_range'_1]; omega)
 ·intro h i hi; exact h i (by rw [List.mem_range'_1] at hi; omega)
theorem Zs2 (x y : List UInt8) : (!Op.bytesLess x y) = !decide (x < y) := by rw [Proofs.bytesLess_eq]
def uc (rs : List T_Role.ty) (us : List (List UInt8)) (k : Nat) : Bool := (fnd rs (uAt us k)).isSome && (k == 0 || decide (uAt us (k - 1) < uAt us k))
def ucs (rs : List T_Role.ty) (us : List (List UInt8)) : Bool := (List.range' 0 us.length).all (uc rs us)
def rc (rs : List T_Role.ty) (i : Nat) : Bool := isName (rN (rAt rs i)) && ((i == 0 || decide (rN (rAt rs (i - 1)) < rN (rAt rs i))) && ucs rs (rU (rAt rs i)))
open Classical in
noncomputable def nc (rs : List T_Role.ty) (i : Nat) : Bool := decide (¬ Rch rs i i)
noncomputable def roV (rs : List T_Role.ty) : Bool := (List.range' 0 rs.length).all (rc rs) && ((List.range' 0 rs.length).all (nc rs) && decide (rs.length ≤ 12))
structure Sz (rs : List T_Role.ty) : Prop where
 len : rs.length ≤ 1000
 nm : ∀ r,r ∈ rs → (rN r).length ≤ 1048576
 us : ∀ r,r ∈ rs → (rU r).length ≤ 1048576
theorem Z7z {rs : List T_Role.ty} (hz : Sz rs) {i : Nat} (hi : i < rs.length) : Zci rs i 0 = if ucs rs (rU (rAt rs i)) then Zb4 rs ((i + 1 : Nat) : Int) else some false := by
 have hul := hz.us _ (Zry hi)
 have hl : rs.length ≤ 1048576 := by have := hz.len; omega
 have key := idxLoop (rU (rAt rs i)).length (uc rs (rU (rAt rs i))) (fun k => Zci rs i k) (some false) (Zb4 rs ((i + 1 : Nat) : Int)) (fun k hk => ?_) ?_ (rU (rAt rs i)).length 0 (by omega)
 ·exact key
 ·have h1 : (k : Int) < ((rAt rs i).2.1.length : Int) := by show (k : Int) < ((rU (rAt rs i)).length : Int); omega
  have hu : (rAt rs i).2.1[k]? = some (uAt (rU (rAt rs i)) k) := Zv5 hk
  show Zci rs i k = _
  rw [Zk1]
  simp only [Int.natCast_nonneg,decide_true,if_true,Int.toNat_natCast,Zcm hi,Option.bind_some,h1,hu,(Zjo hl _).1,wsucc (show k < 4611686018427387904 by omega)]
  unfold uc
  by_cases c : pos (fnd rs (uAt (rU (rAt rs i)) k)) < 0
  ·have := (pos_ge _).2.1 c
   simp [c,this]
  ·have h2 : (fnd rs (uAt (rU (rAt rs i)) k)).isSome = true := (pos_ge _).1.1 (by omega)
   simp only [c,decide_false,Bool.false_eq_true,if_false,h2,Bool.true_and]
   by_cases h0 : k = 0
   ·subst h0; simp
   ·have hp : (k : Int) > 0 := by omega
    have h3 : (rAt rs i).2.1[k - 1]? = some (uAt (rU (rAt rs i)) (k - 1)) := Zv5 (us := rU (rAt rs i)) (by omega)
    have h4 : (k == 0) = false := by simp [h0]
    simp only [hp,decide_true,if_true,wpred (show 0 < k by omega) (show k < 4611686018427387904 by omega),Int.natCast_nonneg,Int.toNat_natCast,h3,Option.bind_some,Zs2,h4,Bool.false_or]
    by_cases hlt : uAt (rU (rAt rs i)) (k - 1) < uAt (rU (rAt rs i)) k <;> simp [hlt]
 ·have h1 : ¬ ((rU (rAt rs i)).length : Int) < ((rAt rs i).2.1.length : Int) := by show ¬ ((rU (rAt rs i)).length : Int) < ((rU (rAt rs i)).length : Int); omega
  show Zci rs i _ = _
  rw [Zk1]
  simp only [Int.natCast_nonneg,decide_true,if_true,Int.toNat_natCast,Zcm hi,Option.bind_some,h1,decide_false,Bool.false_eq_true,if_false,wsucc (show i < 4611686018427387904 by omega)]
theorem Z7k {rs : List T_Role.ty} (hz : Sz rs) {i : Nat} (hi : i < rs.length) (x : List UInt8) : Zbc rs rs rs.length i (rU (rAt rs i)) (rU (rAt rs i)).length 0 x (rU (rAt rs i)) = if ucs rs (rU (rAt rs i)) then Zbf rs rs rs.length ((i + 1 : Nat) : Int) else some false := by
 have hul := hz.us _ (Zry hi)
 have hl : rs.length ≤ 1048576 := by have := hz.len; omega
 have key := idxLoop (rU (rAt rs i)).length (uc rs (rU (rAt rs i))) (fun k => Zbc rs rs rs.length i (rU (rAt rs i)) (rU (rAt rs i)).length k x (rU (rAt rs i))) (some false) (Zbf rs rs rs.length ((i + 1 : Nat) : Int)) (fun k hk => ?_) ?_ (rU (rAt rs i)).length 0 (by omega)
 ·exact key
 ·have h1 : (k : Int) < ((rU (rAt rs i)).length : Int) := by omega
  have hu : (rU (rAt rs i))[k]? = some (uAt (rU (rAt rs i)) k) := Zv5 hk
  show Zbc rs rs rs.length i (rU (rAt rs i)) (rU (rAt rs i)).length k x (rU (rAt rs i)) = _
  rw [Zjl]
  simp only [Int.natCast_nonneg,decide_true,if_true,Int.toNat_natCast,Option.bind_some,h1,hu,(Zjo hl _).2,wsucc (show k < 4611686018427387904 by omega)]
  unfold uc
  by_cases h0 : k = 0
  ·subst h0
   by_cases c : pos (fnd rs (uAt (rU (rAt rs i)) 0)) < 0
   ·have := (pos_ge _).2.1 c
    simp [c,this]
   ·have h2 : (fnd rs (uAt (rU (rAt rs i)) 0)).isSome = true := (pos_ge _).1.1 (by omega)
    simp [c,h2]
  ·have hp : (k : Int) > 0 := by omega
   have h3 : (rU (rAt rs i))[k - 1]? = some (uAt (rU (rAt rs i)) (k - 1)) := Zv5 (us := rU (rAt rs i)) (by omega)
   have h4 : (k == 0) = false := by simp [h0]
   simp only [hp,decide_true,if_true,wpred (show 0 < k by omega) (show k < 4611686018427387904 by omega),Int.natCast_nonneg,Int.toNat_natCast,h3,Option.bind_some,Zs2,h4,Bool.false_or]
   by_cases c : pos (fnd rs (uAt (rU (rAt rs i)) k)) < 0
   ·have := (pos_ge _).2.1 c
    by_cases hlt : uAt (rU (rAt rs i)) (k - 1) < uAt (rU (rAt rs i)) k <;> simp [c,this,hlt]
   ·have h2 : (fnd rs (uAt (rU (rAt rs i)) k)).isSome = true := (pos_ge _).1.1 (by omega)
    by_cases hlt : uAt (rU (rAt rs i)) (k - 1) < uAt (rU (rAt rs i)) k <;> simp [c,h2,hlt]
 ·have h1 : ¬ ((rU (rAt rs i)).length : Int) < ((rU (rAt rs i)).length : Int) := by omega
  show Zbc rs rs rs.length i (rU (rAt rs i)) (rU (rAt rs i)).length _ x (rU (rAt rs i)) = _
  rw [Zjl]
  simp only [h1,decide_false,Bool.false_eq_true,if_false,wsucc (show i < 4611686018427387904 by have := hz.len; omega)]
theorem Z7i {rs : List T_Role.ty} (hz : Sz rs) : Zb4 rs 0 = if (List.range' 0 rs.length).all (rc rs) then Zck rs 0 else some false := by
 have hl := hz.len
 refine idxLoop rs.length (rc rs) (fun i => Zb4 rs i) (some false) _ (fun i hi => ?_) ?_ rs.length 0 (by omega)
 ·have h1 : (i : Int) < (rs.length : Int) := by omega
  have hn := Zqo (rAt rs i).1 (by have := hz.nm _ (Zry hi); have h : (rAt rs i).1.length ≤ 1048576 := this; omega)
  show Zb4 rs i = _
  rw [Zkx]
  simp only [h1,Int.natCast_nonneg,decide_true,if_true,Int.toNat_natCast,Zcm hi,Option.bind_some,hn,Zua,Z7z hz hi]
  unfold rc
  show (if (!isName (rN (rAt rs i))) = true then _ else _) = _
  cases hnm : isName (rN (rAt rs i)) with
  | false => simp
  | true =>
    simp only [Bool.not_true,Bool.false_eq_true,if_false,Bool.true_and]
    by_cases h0 : i = 0
    ·subst h0; simp
    ·have hp : (i : Int) > 0 := by omega
     have h4 : (i == 0) = false := by simp [h0]
     simp only [hp,decide_true,if_true,wpred (show 0 < i by omega) (show i < 4611686018427387904 by omega),Int.natCast_nonneg,Int.toNat_natCast,Zcm (show i - 1 < rs.length by omega),Option.bind_some,Zs2,h4,Bool.false_or]
     have e1 : (rAt rs (i - 1)).1 = rN (rAt rs (i - 1)) := rfl
     have e2 : (rAt rs i).1 = rN (rAt rs i) := rfl
     rw [e1,e2]
     by_cases hlt : rN (rAt rs (i - 1)) < rN (rAt rs i) <;> simp [hlt]
 ·have h1 : ¬ (rs.length : Int) < (rs.length : Int) := by omega
  show Zb4 rs _ = _
  rw [Zkx]
  simp only [h1,decide_false,Bool.false_eq_true,if_false]
theorem Z7j {rs : List T_Role.ty} (hz : Sz rs) : Zbf rs rs rs.length 0 = if (List.range' 0 rs.length).all (rc rs) then Zb0 rs rs rs.length 0 else some false := by
 have hl := hz.len
 refine idxLoop rs.length (rc rs) (fun i => Zbf rs rs rs.length i) (some false) _ (fun i hi => ?_) ?_ rs.length 0 (by omega)
 ·have h1 : (i : Int) < (rs.length : Int) := by omega
  have hn := Zsa (rAt rs i).1 (by have := hz.nm _ (Zry hi); have h : (rAt rs i).1.length ≤ 1048576 := this; omega)
  have h3 := Z7k hz hi (rAt rs i).1
  have h3' : Zbc rs rs rs.length i (rAt rs i).2.1 (rAt rs i).2.1.length 0 (rAt rs i).1 (rAt rs i).2.1 = _ := h3
  show Zbf rs rs rs.length i = _
  rw [Zjp]
  simp only [h1,Int.natCast_nonneg,decide_true,if_true,Int.toNat_natCast,Zcm hi,Option.bind_some,hn,Zrx,h3']
  unfold rc
  show (if (!isName (rN (rAt rs i))) = true then _ else _) = _
  cases hnm : isName (rN (rAt rs i)) with
  | false => simp
  | true =>
    simp only [Bool.not_true,Bool.false_eq_true,if_false,Bool.true_and]
    by_cases h0 : i = 0
    ·subst h0; simp
    ·have hp : (i : Int) > 0 := by omega
     have h4 : (i == 0) = false := by simp [h0]
     simp only [hp,decide_true,if_true,wpred (show 0 < i by omega) (show i < 4611686018427387904 by omega),Int.natCast_nonneg,Int.toNat_natCast,Zcm (show i - 1 < rs.length by omega),Option.bind_some,Zs2,h4,Bool.false_or]
     have e1 : (rAt rs (i - 1)).1 = rN (rAt rs (i - 1)) := rfl
     have e2 : (rAt rs i).1 = rN (rAt rs i) := rfl
     rw [e1,e2]
     by_cases hlt : rN (rAt rs (i - 1)) < rN (rAt rs i) <;> simp [hlt]
 ·have h1 : ¬ (rs.length : Int) < (rs.length : Int) := by omega
  show Zbf rs rs rs.length _ = _
  rw [Zjp]
  simp only [h1,decide_false,Bool.false_eq_true,if_false]
theorem rc_up {rs : List T_Role.ty} (h : (List.range' 0 rs.length).all (rc rs) = true) : Ups rs := by
 have h := Zjq.1 h
 have step : ∀ j i,i < j → j < rs.length → rN (rAt rs i) < rN (rAt rs j) := by
  intro j
  induction j with
  | zero => intro i hi; exact absurd hi (Nat.not_lt_zero _)
  | succ j ih =>
    intro i hi hj
    have := h (j + 1) hj
    simp only [rc,Bool.and_eq_true,Bool.or_eq_true,decide_eq_true_eq,Nat.add_sub_cancel] at this
    have h1 : rN (rAt rs j) < rN (rAt rs (j + 1)) := by
     rcases this.2.1 with h | h
     ·simp at h
     ·exact h
    rcases Nat.lt_or_ge i j with hlt | hge
    ·exact List.lt_trans (ih i hlt (by omega)) h1
    ·rw [show i = j by omega]; exact h1
 refine List.pairwise_iff_getElem.2 fun i j hi hj hij => ?_
 have := step j i hij hj
 simpa [rAt,List.getElem?_eq_getElem hi,List.getElem?_eq_getElem hj] using this
theorem rc_clo {rs : List T_Role.ty} (hz : Sz rs) (h : (List.range' 0 rs.length).all (rc rs) = true) : Clo rs := by
 intro r hr
 refine ⟨hz.us r hr,fun u hu => ?_⟩
 obtain ⟨i,hi⟩ := List.mem_iff_getElem?.1 hr
 have hil := (List.getElem?_eq_some_iff.1 hi).1
 have he : rAt rs i = r := by simp [rAt,hi]
 have h1 := Zjq.1 h i hil
 simp only [rc,Bool.and_eq_true] at h1
 obtain ⟨k,hk⟩ := List.mem_iff_getElem?.1 hu
 have hkl := (List.getElem?_eq_some_iff.1 hk).1
 have h2 := h1.2.2
 rw [he] at h2
 have h3 := Zjq.1 h2 k hkl
 simp only [uc,Bool.and_eq_true] at h3
 have hu2 : uAt (rU r) k = u := by simp [uAt,hk]
 rw [hu2] at h3
 exact Option.isSome_iff_exists.1 h3.1
theorem Z8z {rs : List T_Role.ty} (hz : Sz rs) (hU : Ups rs) (hC : Clo rs) : (Zck rs 0 = if (List.range' 0 rs.length).all (nc rs) then some true else some false) ∧
 Zb0 rs rs rs.length 0 = if (List.range' 0 rs.length).all (nc rs) then some (decide ((rs.length : Int) ≤ 12)) else some false := by
 have hl := hz.len
 have hl' : rs.length ≤ 1048576 := by omega
 constructor
 ·refine idxLoop rs.length (nc rs) (fun i => Zck rs i) (some false) _ (fun i hi => ?_) ?_ rs.length 0 (by omega)
  ·have h1 : (i : Int) < (rs.length : Int) := by omega
   obtain ⟨o,e,hol,hoj⟩ := Z08 hl' hC hi
   show Zck rs i = _
   rw [Zlj]
   have ho := List.getElem?_eq_getElem (l := o) (i := i) (by omega)
   simp only [h1,Int.natCast_nonneg,decide_true,if_true,Int.toNat_natCast,e,Option.bind_some,ho,wsucc (show i < 4611686018427387904 by omega)]
   unfold nc
   by_cases c : Rch rs i i
   ·have : o[i]'(by omega) = true := by have := (hoj i).2 c; rw [ho] at this; exact Option.some.inj this
    simp [c,this]
   ·have : o[i]'(by omega) = false := by
     cases hb : o[i]'(by omega) with
     | false => rfl
     | true => exact absurd ((hoj i).1 (by rw [ho,hb])) c
    simp [c,this]
  ·have h1 : ¬ (rs.length : Int) < (rs.length : Int) := by omega
   show Zck rs _ = _
   rw [Zlj]
   simp only [h1,decide_false,Bool.false_eq_true,if_false]
 ·refine idxLoop rs.length (nc rs) (fun i => Zb0 rs rs rs.length i) (some false) _ (fun i hi => ?_) ?_ rs.length 0 (by omega)
  ·have h1 : (i : Int) < (rs.length : Int) := by omega
   have hf := hU.fnd (Zcm hi)
   obtain ⟨ys,e,hyl,hym⟩ := Z0w hl' hC hf
   have e' : Zbl rs (rAt rs i).1 = some ys := e
   show Zb0 rs rs rs.length i = _
   rw [Zjm]
   simp only [h1,Int.natCast_nonneg,decide_true,if_true,Int.toNat_natCast,Zcm hi,e',Option.bind_some,Zma (show ys.length ≤ 1048576 by omega),wsucc (show i < 4611686018427387904 by omega)]
   unfold nc
   have hiff : (rAt rs i).1 ∈ ys ↔ Rch rs i i := by
    refine (hym _).trans ⟨fun ⟨j,hj,hR⟩ => ?_,fun hR => ⟨i,hf,hR⟩⟩
    have hj' : fnd rs (rN (rAt rs i)) = some j := hj
    rw [hf] at hj'; cases hj'; exact hR
   by_cases c : Rch rs i i
   ·simp [c,hiff.2 c]
   ·have : ¬ (rAt rs i).1 ∈ ys := fun h => c (hiff.1 h)
    simp [c,this]
  ·have h1 : ¬ (rs.length : Int) < (rs.length : Int) := by omega
   show Zb0 rs rs rs.length _ = _
   rw [Zjm,Zrf]
   simp only [h1,decide_false,Bool.false_eq_true,if_false,Option.bind_some]
theorem Z3c {rs : List T_Role.ty} (hz : Sz rs) : Znl rs = some (roV rs) ∧ Zkf rs = some (roV rs) := by
 have hd : decide ((rs.length : Int) ≤ 12) = decide (rs.length ≤ 12) := by rw [decide_eq_decide]; omega
 rw [Zx5,Zvv,Z7i hz,Z7j hz]
 unfold roV
 by_cases c : (List.range' 0 rs.length).all (rc rs) = true
 ·obtain ⟨e1,e2⟩ := Z8z hz (rc_up c) (rc_clo hz c)
  rw [e1,e2]
  simp only [c,if_true,Bool.true_and,hd]
  by_cases h12 : rs.length ≤ 12
  ·have h : ¬ ((rs.length : Int) > 12) := by omega
   simp only [h,h12,decide_false,decide_true,Bool.false_eq_true,if_false,Bool.and_true]
   cases (List.range' 0 rs.length).all (nc rs) <;> simp
  ·have h : (rs.length : Int) > 12 := by omega
   simp only [h,h12,decide_false,decide_true,if_true,Bool.and_false]
   cases (List.range' 0 rs.length).all (nc rs) <;> simp
 ·simp only [c,if_false,Bool.false_and]
  refine ⟨?_,rfl⟩
  split <;> rfl
theorem Z0l : ∀ (x y : List UInt8),(Lib.compareBytes x y < 0 ↔ x < y) ∧ (Lib.compareBytes x y = 0 ↔ x = y)
 | [],[] => by simp [Lib.compareBytes]
 | [],_ :: _ => by simp [Lib.compareBytes]
 | _ :: _,[] => by simp [Lib.compareBytes]
 | a :: x,b :: y => by
   have IH := Z0l x y
   rw [Lib.compareBytes,List.cons_lt_cons_iff,List.cons.injEq]
   by_cases c1 : a < b
   ·have hne : a ≠ b := fun e => by subst e; exact absurd c1 (UInt8.lt_irrefl a)
    simp [c1,hne]
   ·by_cases c2 : b < a
    ·have hne : a ≠ b := fun e => by subst e; exact absurd c2 (UInt8.lt_irrefl a)
     simp [c1,c2,hne]
    ·have he : a = b := UInt8.le_antisymm (UInt8.not_lt.1 c2) (UInt8.not_lt.1 c1)
     simp [c1,c2,he,IH.1,IH.2]
def Lt3 (a b : Zaa.ty) : Prop := gR a < gR b ∨ gR a = gR b ∧ (gO a < gO b ∨ gO a = gO b ∧ gA a < gA b)
instance (a b : Zaa.ty) : Decidable (Lt3 a b) := by unfold Lt3; infer_instance
theorem g_ext {a b : Zaa.ty} (h1 : gR a = gR b) (h2 : gO a = gO b) (h3 : gA a = gA b) : a = b := by rw [g_eta a,g_eta b,h1,h2,h3]
theorem Zyx (a : Zaa.ty) : ¬ Lt3 a a := by
 rintro (h | ⟨_,h | ⟨_,h⟩⟩)
 ·exact List.lt_irrefl _ h
 ·exact List.lt_irrefl _ h
 ·exact absurd h (Int.lt_irrefl _)
theorem Zm5 {a b c : Zaa.ty} (h : Lt3 a b) (h' : Lt3 b c) : Lt3 a c := by
 rcases h with h | ⟨e,h⟩
 ·rcases h' with h' | ⟨e',_⟩
  ·exact .inl (List.lt_trans h h')
  ·exact .inl (e' ▸ h)
 ·rcases h' with h' | ⟨e',h'⟩
  ·exact .inl (e ▸ h')
  ·refine .inr ⟨e.trans e',?_⟩
   rcases h with h | ⟨f,h⟩
   ·rcases h' with h' | ⟨f',_⟩
    ·exact .inl (List.lt_trans h h')
    ·exact .inl (f' ▸ h)
   ·rcases h' with h' | ⟨f',h'⟩
    ·exact .inl (f ▸ h')
    ·exact .inr ⟨f.trans f',Int.lt_trans h h'⟩
theorem Z1j (a b : Zaa.ty) : Zhy a b = some (decide (Lt3 a b)) := by
 rw [Zv7]
 show (if (!(gR a == gR b)) = true then some (Op.bytesLess (gR a) (gR b)) else if (!(gO a == gO b)) = true then some (Op.bytesLess (gO a) (gO b)) else some (decide (gA a < gA b))) = _
 rw [Proofs.bytesLess_eq,Proofs.bytesLess_eq]
 unfold Lt3
 by_cases c : gR a = gR b
 ·by_cases d : gO a = gO b
  ·simp [c,d,List.lt_irrefl]
  ·simp [c,d,List.lt_irrefl]
 ·simp [c]
theorem Zj0 (a b : Zaa.ty) (ha : -1000 ≤ gA a ∧ gA a ≤ 1000) (hb : -1000 ≤ gA b ∧ gA b ≤ 1000) : ∃ z : Int,Zcf a b = some z ∧ (z < 0 ↔ Lt3 a b) ∧ (z = 0 ↔ a = b) := by
 rw [Zr1,Zmz,Zmz]
 show ∃ z : Int,((some (Lib.compareBytes (gR a) (gR b))).bind fun x1 => if (x1 != 0) = true then some x1 else (some (Lib.compareBytes (gO a) (gO b))).bind fun x2 => if (x2 != 0) = true then some x2 else some (IntKind.i64.wrap (gA a - gA b))) = some z ∧ _
 have hR := Z0l (gR a) (gR b)
 have hO := Z0l (gO a) (gO b)
 rw [Option.bind_some]
 unfold Lt3
 by_cases c : gR a = gR b
 ·have h0 := hR.2.2 c
  rw [h0]
  simp only [bne_self_eq_false,Bool.false_eq_true,if_false,Option.bind_some]
  by_cases d : gO a = gO b
  ·have h1 := hO.2.2 d
   rw [h1]
   simp only [bne_self_eq_false,Bool.false_eq_true,if_false]
   refine ⟨_,rfl,?_⟩
   rw [w64 (by omega) (by omega)]
   constructor
   ·constructor
    ·intro h; exact .inr ⟨c,.inr ⟨d,by omega⟩⟩
    ·rintro (h | ⟨_,h | ⟨_,h⟩⟩)
     ·rw [c] at h; exact absurd h (List.lt_irrefl _)
     ·rw [d] at h; exact absurd h (List.lt_irrefl _)
     ·omega
   ·constructor
    ·intro h; exact g_ext c d (by omega)
    ·intro h; subst h; omega
  ·have h1 : ¬ Lib.compareBytes (gO a) (gO b) = 0 := fun h => d (hO.2.1 h)
   rw [if_pos (by simpa using h1)]
   refine ⟨_,rfl,?_,fun h => absurd h h1,fun h => absurd (by rw [h]) d⟩
   rw [hO.1]
   constructor
   ·intro h; exact .inr ⟨c,.inl h⟩
   ·rintro (h | ⟨_,h | ⟨h,_⟩⟩)
    ·rw [c] at h; exact absurd h (List.lt_irrefl _)
    ·exact h
    ·exact absurd h d
 ·have h1 : ¬ Lib.compareBytes (gR a) (gR b) = 0 := fun h => c (hR.2.1 h)
  rw [if_pos (by simpa using h1)]
  refine ⟨_,rfl,?_,fun h => absurd h h1,fun h => absurd (by rw [h]) c⟩
  rw [hR.1]
  constructor
  ·intro h; exact .inl h
  ·rintro (h | ⟨h,_⟩)
   ·exact h
   ·exact absurd h c
def gc (rs : List T_Role.ty) (g : Zaa.ty) : Bool := (fnd rs (gR g)).isSome && (isName (gO g) && (decide (1 ≤ gA g) && decide (gA g ≤ 3)))
theorem Zql {rs : List T_Role.ty} (hz : Sz rs) (g : Zaa.ty) (ho : (gO g).length ≤ 1048576) : Zmd rs g = some (gc rs g) ∧ Zkd rs g = some (gc rs g) := by
 have hl : rs.length ≤ 1048576 := by have := hz.len; omega
 have e1 : Zg8 g.2.1 = some (isName (gO g)) := Zqo (gO g) (by omega)
 have e2 : Zip g.2.1 = some (isName (gO g)) := Zsa (gO g) (by omega)
 have e3 : Zcp rs g.1 = some (pos (fnd rs (gR g))) := (Zjo hl (gR g)).1
 have e4 : Zfi rs g.1 = some (pos (fnd rs (gR g))) := (Zjo hl (gR g)).2
 rw [Zzs,Zzg,e1,e2,e3,e4,Zn5,Ztr,Zx7,Zzw]
 simp only [Option.bind_some]
 unfold gc
 by_cases c : 0 ≤ pos (fnd rs (gR g))
 ·have c1 := (pos_ge _).1.1 c
  simp only [ge_iff_le,c,c1,decide_true,if_true,Bool.true_and]
  cases isName (gO g)
  ·simp
  ·simp only [if_true,Bool.true_and]
   show (((if decide (1 ≤ gA g) = true then some (decide (gA g ≤ 3)) else some false).bind fun x1 => some x1).bind fun x3 => some x3) = _ ∧ (((if decide (1 ≤ gA g) = true then some (decide (gA g ≤ 3)) else some false).bind fun x1 => some x1).bind fun x3 => some x3) = _
   by_cases d : 1 ≤ gA g <;> simp [d]
 ·have c1 := (pos_ge _).2.1 (show pos (fnd rs (gR g)) < 0 by omega)
  simp [c,c1]
def gcs (rs : List T_Role.ty) (gs : List Zaa.ty) (i : Nat) : Bool := gc rs (gAt gs i) && (i == 0 || decide (Lt3 (gAt gs (i - 1)) (gAt gs i)))
noncomputable def vG (rs : List T_Role.ty) (gs : List Zaa.ty) : Bool := roV rs && (decide (gs.length ≤ 48) && (List.range' 0 gs.length).all (gcs rs gs))
structure Gz (gs : List Zaa.ty) : Prop where
 len : gs.length ≤ 1000
 ob : ∀ g,g ∈ gs → (gO g).length ≤ 1048576
 ac : ∀ g,g ∈ gs → -1000 ≤ gA g ∧ gA g ≤ 1000
theorem Zhl {rs : List T_Role.ty} {gs : List Zaa.ty} (hz : Sz rs) (hg : Gz gs) : Zh1 rs gs = some (vG rs gs) ∧ Zdq rs gs = some (vG rs gs) := by
 have hl := hg.len
 have L1 : Zdk rs gs 0 = if (List.range' 0 gs.length).all (gcs rs gs) then some true else some false := by
  refine idxLoop gs.length (gcs rs gs) (fun i => Zdk rs gs i) (some false) _ (fun i hi => ?_) ?_ gs.length 0 (by omega)
  ·have h1 : (i : Int) < (gs.length : Int) := by omega
   show Zdk rs gs i = _
   rw [Zpj]
   simp only [h1,Int.natCast_nonneg,decide_true,if_true,Int.toNat_natCast,Zco hi,Option.bind_some,(Zql hz _ (hg.ob _ (Ze0 hi))).1,wsucc (show i < 4611686018427387904 by omega)]
   unfold gcs
   cases gc rs (gAt gs i) with
   | false => simp
   | true =>
     simp only [Bool.not_true,Bool.false_eq_true,if_false,Bool.true_and]
     by_cases h0 : i = 0
     ·subst h0; simp
     ·have hp : (i : Int) > 0 := by omega
      have h4 : (i == 0) = false := by simp [h0]
      simp only [hp,decide_true,if_true,wpred (show 0 < i by omega) (show i < 4611686018427387904 by omega),Int.natCast_nonneg,Int.toNat_natCast,Zco (show i - 1 < gs.length by omega),Option.bind_some,Z1j,h4,Bool.false_or]
      by_cases hlt : Lt3 (gAt gs (i - 1)) (gAt gs i) <;> simp [hlt]
  ·have h1 : ¬ (gs.length : Int) < (gs.length : Int) := by omega
   show Zdk rs gs _ = _
   rw [Zpj]
   simp only [h1,decide_false,Bool.false_eq_true,if_false]
 have L2 : Zbk rs gs gs gs.length 0 = if (List.range' 0 gs.length).all (gcs rs gs) then some true else some false := by
  refine idxLoop gs.length (gcs rs gs) (fun i => Zbk rs gs gs gs.length i) (some false) _ (fun i hi => ?_) ?_ gs.length 0 (by omega)
  ·have h1 : (i : Int) < (gs.length : Int) := by omega
   show Zbk rs gs gs gs.length i = _
   rw [Zio]
   simp only [h1,Int.natCast_nonneg,decide_true,if_true,Int.toNat_natCast,Zco hi,Option.bind_some,(Zql hz _ (hg.ob _ (Ze0 hi))).2,wsucc (show i < 4611686018427387904 by omega)]
   unfold gcs
   cases gc rs (gAt gs i) with
   | false => simp
   | true =>
     simp only [Bool.not_true,Bool.false_eq_true,if_false,Bool.true_and]
     by_cases h0 : i = 0
     ·subst h0; simp
     ·have hp : (i : Int) > 0 := by omega
      have h4 : (i == 0) = false := by simp [h0]
      obtain ⟨z,e,h5,_⟩ := Zj0 (gAt gs (i - 1)) (gAt gs i) (hg.ac _ (Ze0 (by omega))) (hg.ac _ (Ze0 hi))
      simp only [hp,decide_true,if_true,wpred (show 0 < i by omega) (show i < 4611686018427387904 by omega),Int.natCast_nonneg,Int.toNat_natCast,Zco (show i - 1 < gs.length by omega),Option.bind_some,e,h4,Bool.false_or]
      by_cases hlt : Lt3 (gAt gs (i - 1)) (gAt gs i)
      ·have : ¬ z ≥ 0 := by have := h5.2 hlt; omega
       simp [hlt,this]
      ·have : z ≥ 0 := by
        rcases (by omega : z < 0 ∨ z ≥ 0) with h | h
        ·exact absurd (h5.1 h) hlt
        ·exact h
       simp [hlt,this]
  ·have h1 : ¬ (gs.length : Int) < (gs.length : Int) := by omega
   show Zbk rs gs gs gs.length _ = _
   rw [Zio]
   simp only [h1,decide_false,Bool.false_eq_true,if_false]
 rw [Z17,Zt6,(Z3c hz).1,(Z3c hz).2,Zrf,Zxe,Zra,L1,L2]
 simp only [Option.bind_some]
 unfold vG
 cases roV rs with
 | false => simp
 | true =>
   simp only [Bool.not_true,Bool.false_eq_true,if_false,Bool.true_and]
   by_cases h48 : gs.length ≤ 48
   ·have h1 : ¬ ((gs.length : Int) > 48) := by omega
    have h2 : (gs.length : Int) ≤ 48 := by omega
    simp only [h1,h2,h48,decide_false,decide_true,Bool.not_true,Bool.false_eq_true,if_false,Bool.true_and]
    cases (List.range' 0 gs.length).all (gcs rs gs) <;> simp
   ·have h1 : (gs.length : Int) > 48 := by omega
    have h2 : ¬ (gs.length : Int) ≤ 48 := by omega
    simp [h1,h2,h48]
theorem Z84 {gs : List Zaa.ty} (h : ∀ i,0 < i → i < gs.length → Lt3 (gAt gs (i - 1)) (gAt gs i)) : gs.Pairwise Lt3 := by
 have step : ∀ j i,i < j → j < gs.length → Lt3 (gAt gs i) (gAt gs j) := by
  intro j
  induction j with
  | zero => intro i hi; exact absurd hi (Nat.not_lt_zero _)
  | succ j ih =>
    intro i hi hj
    have h1 := h (j + 1) (by omega) hj
    rw [Nat.add_sub_cancel] at h1
    rcases Nat.lt_or_ge i j with hlt | hge
    ·exact Zm5 (ih i hlt (by omega)) h1
    ·rw [show i = j by omega]; exact h1
 refine List.pairwise_iff_getElem.2 fun i j hi hj hij => ?_
 have := step j i hij hj
 simpa [gAt,List.getElem?_eq_getElem hi,List.getElem?_eq_getElem hj] using this
theorem vG_iff (rs : List T_Role.ty) (gs : List Zaa.ty) : vG rs gs = true ↔ roV rs = true ∧ gs.length ≤ 48 ∧ (∀ g,g ∈ gs → gc rs g = true) ∧ gs.Pairwise Lt3 := by
 unfold vG
 rw [Bool.and_eq_true,Bool.and_eq_true,decide_eq_true_eq,Zjq]
 constructor
 ·rintro ⟨h1,h2,h3⟩
  refine ⟨h1,h2,fun g hg => ?_,Z84 fun i hi hil => ?_⟩
  ·obtain ⟨i,hi⟩ := List.mem_iff_getElem?.1 hg
   have := h3 i (List.getElem?_eq_some_iff.1 hi).1
   simp only [gcs,Bool.and_eq_true] at this
   have he : gAt gs i = g := by simp [gAt,hi]
   rw [he] at this; exact this.1
  ·have := h3 i hil
   simp only [gcs,Bool.and_eq_true,Bool.or_eq_true,beq_iff_eq,decide_eq_true_eq] at this
   rcases this.2 with h | h
   ·omega
   ·exact h
 ·rintro ⟨h1,h2,h3,h4⟩
  refine ⟨h1,h2,fun i hi => ?_⟩
  simp only [gcs,Bool.and_eq_true,Bool.or_eq_true,beq_iff_eq,decide_eq_true_eq]
  refine ⟨h3 _ (Ze0 hi),?_⟩
  by_cases h0 : i = 0
  ·exact .inl h0
  ·right
   have := List.pairwise_iff_getElem.1 h4 (i - 1) i (by omega) hi (by omega)
   simpa [gAt,List.getElem?_eq_getElem hi,List.getElem?_eq_getElem (show i - 1 < gs.length by omega)] using this
structure Vd (rs : List T_Role.ty) (gs : List Zaa.ty) : Prop where
 v : vG rs gs = true
 sz : Sz rs
 gz : Gz gs
 up : Ups rs
 cl : Clo rs
 l48 : gs.length ≤ 48
 ok : ∀ g,g ∈ gs → (∃ j,fnd rs (gR g) = some j) ∧ isName (gO g) = true ∧ 1 ≤ gA g ∧ gA g ≤ 3
 gu : gs.Pairwise Lt3
theorem vd_of {rs : List T_Role.ty} {gs : List Zaa.ty} (hz : Sz rs) (hg : Gz gs) (h : vG rs gs = true) : Vd rs gs := by
 obtain ⟨h1,h2,h3,h4⟩ := (vG_iff rs gs).1 h
 have h5 := h1
 unfold roV at h5
 rw [Bool.and_eq_true] at h5
 refine ⟨h,hz,hg,rc_up h5.1,rc_clo hz h5.1,h2,fun g hgm => ?_,h4⟩
 have := h3 g hgm
 simp only [gc,Bool.and_eq_true,decide_eq_true_eq] at this
 exact ⟨Option.isSome_iff_exists.1 this.1,this.2⟩
theorem Vd.sub {rs : List T_Role.ty} {gs hs : List Zaa.ty} (V : Vd rs gs) (h : hs.Sublist gs) : Vd rs hs := by
 obtain ⟨h1,h2,h3,h4⟩ := (vG_iff rs gs).1 V.v
 have hle := h.length_le
 exact vd_of V.sz ⟨by have := V.gz.len; omega,fun g hg => V.gz.ob g (h.subset hg),fun g hg => V.gz.ac g (h.subset hg)⟩ ((vG_iff rs hs).2 ⟨h1,by omega,fun g hg => h3 g (h.subset hg),h4.sublist h⟩)
def May (rs : List T_Role.ty) (gs : List Zaa.ty) (a : Nat) (o : List UInt8) (act : Int) : Prop := ∃ g,g ∈ gs ∧ (∃ j,fnd rs (gR g) = some j ∧ (j = a ∨ Rch rs a j)) ∧ gO g = o ∧ act ≤ gA g
def hit (out : List Bool) (rs : List T_Role.ty) (gs : List Zaa.ty) (a : Nat) (o : List UInt8) (act : Int) (i : Nat) : Bool :=
 (match fnd rs (gR (gAt gs i)) with | some j => j == a || (out[j]?).getD false | none => false) && (decide (gO (gAt gs i) = o) && decide (act ≤ gA (gAt gs i)))
theorem Z9i {rs : List T_Role.ty} {gs : List Zaa.ty} (V : Vd rs gs) {a : Nat} (ha : a < rs.length) (o : List UInt8) (act : Int) : ∃ b,Zre rs gs a o act = some b ∧ (b = true ↔ May rs gs a o act) := by
 have hl := V.gz.len
 have hl2 : rs.length ≤ 1048576 := by have := V.sz.len; omega
 obtain ⟨out,e,hol,hoj⟩ := Z08 hl2 V.cl ha
 have L : Zbt rs gs a o act out 0 = if (List.range' 0 gs.length).all (fun i => !hit out rs gs a o act i) then some false else some true := by
  refine idxLoop gs.length (fun i => !hit out rs gs a o act i) (fun i => Zbt rs gs a o act out i) (some true) _ (fun i hi => ?_) ?_ gs.length 0 (by omega)
  ·have h1 : (i : Int) < (gs.length : Int) := by omega
   obtain ⟨⟨j,hj⟩,_⟩ := V.ok _ (Ze0 hi)
   have hjl := (Zel hj).1
   have e1 : Zcp rs (gAt gs i).1 = some (pos (fnd rs (gR (gAt gs i)))) := (Zjo hl2 _).1
   show Zbt rs gs a o act out i = _
   rw [Znq]
   simp only [h1,Int.natCast_nonneg,decide_true,if_true,Int.toNat_natCast,Zco hi,Option.bind_some,e1,hj,pos,wsucc (show i < 4611686018427387904 by omega),List.getElem?_eq_getElem (show j < out.length by omega)]
   have hh : hit out rs gs a o act i = ((j == a || out[j]'(by omega)) && (decide (gO (gAt gs i) = o) && decide (act ≤ gA (gAt gs i)))) := by
    unfold hit
    rw [hj]
    simp only [List.getElem?_eq_getElem (show j < out.length by omega),Option.getD_some]
   rw [hh]
   have eo : ((gAt gs i).2.1 == o) = decide (gO (gAt gs i) = o) := by rw [Bool.eq_iff_iff,beq_iff_eq,decide_eq_true_eq]; rfl
   have ea : decide ((gAt gs i).2.2.1 ≥ act) = decide (act ≤ gA (gAt gs i)) := rfl
   rw [eo,ea]
   by_cases c : j = a
   ·have c1 : ((j : Int) == (a : Int)) = true := by simp [c]
    have c2 : (j == a) = true := by simp [c]
    rw [if_pos c1,c2,Bool.true_or,Bool.true_and]
    by_cases d1 : gO (gAt gs i) = o <;> by_cases d2 : act ≤ gA (gAt gs i) <;> simp [d1,d2]
   ·have c1 : ¬ ((j : Int) == (a : Int)) = true := by simp; omega
    have c2 : (j == a) = false := by simp [c]
    rw [if_neg c1,c2,Bool.false_or]
    by_cases d0 : out[j]'(by omega) = true
    ·rw [if_pos d0,d0,Bool.true_and]
     by_cases d1 : gO (gAt gs i) = o <;> by_cases d2 : act ≤ gA (gAt gs i) <;> simp [d1,d2]
    ·have d0' : out[j]'(by omega) = false := by simpa using d0
     rw [if_neg d0,d0',Bool.false_and]; rfl
  ·have h1 : ¬ (gs.length : Int) < (gs.length : Int) := by omega
   show Zbt rs gs a o act out _ = _
   rw [Znq]
   simp only [h1,decide_false,Bool.false_eq_true,if_false]
 rw [Zz2,e,Option.bind_some,L]
 by_cases c : (List.range' 0 gs.length).all (fun i => !hit out rs gs a o act i) = true
 ·rw [if_pos c]
  refine ⟨false,rfl,fun h => (by cases h),fun h => ?_⟩
  exfalso
  obtain ⟨g,hg,⟨j,hj,hR⟩,h1,h2⟩ := h
  obtain ⟨i,hi⟩ := List.mem_iff_getElem?.1 hg
  have he : gAt gs i = g := by simp [gAt,hi]
  have := Zjq.1 c i (List.getElem?_eq_some_iff.1 hi).1
  simp only [hit,he,hj,h1,h2,decide_true,Bool.and_true,Bool.not_eq_true',Bool.or_eq_false_iff,beq_eq_false_iff_ne] at this
  rcases hR with h | h
  ·exact this.1 h
  ·rw [(hoj j).2 h] at this; simp at this
 ·rw [if_neg c]
  refine ⟨true,rfl,fun _ => ?_,fun _ => rfl⟩
  have hc : ∃ i,i < gs.length ∧ hit out rs gs a o act i = true := by
   apply Classical.byContradiction
   intro hn
   refine c (Zjq.2 fun i hi => ?_)
   cases hh : hit out rs gs a o act i with
   | false => rfl
   | true => exact absurd ⟨i,hi,hh⟩ hn
  obtain ⟨i,hi,hh⟩ := hc
  simp only [hit,Bool.and_eq_true,decide_eq_true_eq] at hh
  obtain ⟨⟨j,hj⟩,_⟩ := V.ok _ (Ze0 hi)
  rw [hj] at hh
  simp only [Bool.or_eq_true,beq_iff_eq] at hh
  refine ⟨_,Ze0 hi,⟨j,hj,hh.1.imp id fun h => (hoj j).1 ?_⟩,hh.2.1,hh.2.2⟩
  cases hb : out[j]? with
  | none => rw [hb] at h; cases h
  | some b => rw [hb] at h; rw [show b = true from h]
theorem Zl6 {rs : List T_Role.ty} {gs : List Zaa.ty} (V : Vd rs gs) (nm o : List UInt8) (act : Int) : ∃ b,Zay rs gs nm o act = some b ∧ (b = true ↔ ∃ a,fnd rs nm = some a ∧ 1 ≤ act ∧ act ≤ 3 ∧ May rs gs a o act) := by
 have hl2 : rs.length ≤ 1048576 := by have := V.sz.len; omega
 rw [Zt2,(Zhl V.sz V.gz).1,V.v,Zrc,(Zjo hl2 nm).1,Zn5,Ztr]
 simp only [Option.bind_some,Bool.not_true,Bool.false_eq_true,if_false]
 cases hf : fnd rs nm with
 | none =>
   rw [if_pos (by simp [pos])]
   exact ⟨false,rfl,fun h => (by cases h),fun ⟨a,h,_⟩ => (by cases h)⟩
 | some a =>
   have ha := (Zel hf).1
   have hna : ¬ pos (some a) < 0 := by simp [pos]
   rw [if_neg (by simpa using hna)]
   obtain ⟨b,e,hb⟩ := Z9i V ha o act
   by_cases c1 : 1 ≤ act
   ·by_cases c2 : act ≤ 3
    ·simp only [ge_iff_le,c1,c2,decide_true,if_true,Option.bind_some,Bool.not_true,Bool.false_eq_true,if_false,pos,e]
     exact ⟨b,rfl,fun h => ⟨a,rfl,trivial,trivial,hb.1 h⟩,fun ⟨a',h,_,_,h2⟩ => by cases h; exact hb.2 h2⟩
    ·simp only [ge_iff_le,c1,c2,decide_true,decide_false,if_true,Option.bind_some,Bool.not_false]
     exact ⟨false,rfl,fun h => (by cases h),fun ⟨_,_,_,h,_⟩ => absurd h id⟩
   ·simp only [ge_iff_le,c1,decide_false,Bool.false_eq_true,if_false,Option.bind_some,Bool.not_false,if_true]
    exact ⟨false,rfl,fun h => (by cases h),fun ⟨_,_,h,_⟩ => absurd h id⟩
theorem Z98 {S : List (List UInt8 × Int)} (h : S.Nodup) (p : List UInt8 × Int) : (insR S p).Nodup ∧ ∀ q,q ∈ insR S p ↔ q ∈ S ∨ q = p := by
 unfold insR
 by_cases c : p ∈ S
 ·rw [if_pos c]
  refine ⟨h,fun q => ⟨.inl,fun hq => hq.elim id fun e => e ▸ c⟩⟩
 ·rw [if_neg c]
  refine ⟨?_,fun q => by rw [List.mem_append,List.mem_singleton]⟩
  rw [List.nodup_append]
  refine ⟨h,by simp,fun u hu v hv e => ?_⟩
  rw [List.mem_singleton] at hv
  subst hv; subst e; exact c hu
theorem Z3u (o : List UInt8) : ∀ (n : Nat) (a : Int) (S : List (List UInt8 × Int)),S.Nodup → (actsR o n a S).Nodup ∧ ∀ q,q ∈ actsR o n a S ↔ q ∈ S ∨ q.1 = o ∧ a ≤ q.2 ∧ q.2 < a + n
 | 0,a,S,h => ⟨h,fun q => ⟨.inl,fun hq => hq.elim id fun ⟨_,h1,h2⟩ => by omega⟩⟩
 | n + 1,a,S,h => by
   obtain ⟨h1,h2⟩ := Z98 h (o,a)
   obtain ⟨h3,h4⟩ := Z3u o n (a + 1) (insR S (o,a)) h1
   refine ⟨h3,fun q => ?_⟩
   show q ∈ actsR o n (a + 1) (insR S (o,a)) ↔ _
   rw [h4,h2]
   constructor
   ·rintro ((h | rfl) | ⟨e,h5,h6⟩)
    ·exact .inl h
    ·exact .inr ⟨rfl,Int.le_refl _,by omega⟩
    ·exact .inr ⟨e,by omega,by omega⟩
   ·rintro (h | ⟨e,h5,h6⟩)
    ·exact .inl (.inl h)
    ·rcases (by omega : a < q.2 ∨ q.2 ≤ a) with hlt | hge
     ·exact .inr ⟨e,by omega,by omega⟩
     ·refine .inl (.inr ?_)
      have : q.2 = a := by omega
      rw [← e,← this]
theorem rtG_ok {ns : List (List UInt8)} (hn : ns.length ≤ 1048576) : ∀ (gs : List Zaa.ty) (S : List (List UInt8 × Int)),(∀ g,g ∈ gs → (gO g).length ≤ 1048576 ∧ gA g ≤ 1000) → S.Nodup →
 ∃ T,rtG Zac ns gs S = some T ∧ T.Nodup ∧ ∀ q,q ∈ T ↔ q ∈ S ∨ ∃ g,g ∈ gs ∧ gR g ∈ ns ∧ q.1 = gO g ∧ 1 ≤ q.2 ∧ q.2 ≤ gA g
 | [],S,_,h => ⟨S,rfl,h,fun q => ⟨.inl,fun hq => hq.elim id fun ⟨_,hg,_⟩ => (by cases hg)⟩⟩
 | g :: gs,S,hb,h => by
   obtain ⟨b1,b2⟩ := hb g List.mem_cons_self
   have e : rtG Zac ns (g :: gs) S = rtG Zac ns gs (if decide (gR g ∈ ns) = true then actsR (gO g) (gA g).toNat 1 S else S) := by
    rw [rtG,if_pos ⟨b1,b2⟩]
    have : Zac ns g.1 = some (decide (gR g ∈ ns)) := Zma hn _
    rw [this]; rfl
   rw [e]
   by_cases c : gR g ∈ ns
   ·rw [if_pos (by simpa using c)]
    obtain ⟨h1,h2⟩ := Z3u (gO g) (gA g).toNat 1 S h
    obtain ⟨T,e1,h3,h4⟩ := rtG_ok hn gs _ (fun x hx => hb x (List.mem_cons_of_mem _ hx)) h1
    refine ⟨T,e1,h3,fun q => ?_⟩
    rw [h4,h2]
    constructor
    ·rintro ((h | ⟨e,h5,h6⟩) | ⟨x,hx,h5⟩)
     ·exact .inl h
     ·exact .inr ⟨g,List.mem_cons_self,c,e,h5,by omega⟩
     ·exact .inr ⟨x,List.mem_cons_of_mem _ hx,h5⟩
    ·rintro (h | ⟨x,hx,h5,e',h6,h7⟩)
     ·exact .inl (.inl h)
     ·rcases List.mem_cons.1 hx with rfl | hx
      ·exact .inl (.inr ⟨e',h6,by omega⟩)
      ·exact .inr ⟨x,hx,h5,e',h6,h7⟩
   ·rw [if_neg (by simpa using c)]
    obtain ⟨T,e1,h3,h4⟩ := rtG_ok hn gs S (fun x hx => hb x (List.mem_cons_of_mem _ hx)) h
    refine ⟨T,e1,h3,fun q => ?_⟩
    rw [h4]
    constructor
    ·rintro (h | ⟨x,hx,h5⟩)
     ·exact .inl h
     ·exact .inr ⟨x,List.mem_cons_of_mem _ hx,h5⟩
    ·rintro (h | ⟨x,hx,h5,h6⟩)
     ·exact .inl h
     ·rcases List.mem_cons.1 hx with rfl | hx
      ·exact absurd h5 c
      ·exact .inr ⟨x,hx,h5,h6⟩
theorem Zmr {rs : List T_Role.ty} {gs : List Zaa.ty} (V : Vd rs gs) {nm : List UInt8} {a : Nat} (hf : fnd rs nm = some a) : ∃ S,rtF Zbl Zac rs gs nm = some S ∧ S.Nodup ∧ ∀ p,p ∈ S ↔ 1 ≤ p.2 ∧ May rs gs a p.1 p.2 := by
 have hl := V.gz.len
 have hl2 : rs.length ≤ 1000 := V.sz.len
 obtain ⟨ys,e,hyl,hym⟩ := Z0w (show rs.length ≤ 1048576 by omega) V.cl hf
 obtain ⟨T,e2,h1,h2⟩ := rtG_ok (ns := ys ++ [nm]) (by simp; omega) gs [] (fun g hg => ⟨V.gz.ob g hg,(V.gz.ac g hg).2⟩) List.nodup_nil
 refine ⟨T,?_,h1,fun p => ?_⟩
 ·rw [rtF,if_pos hl,e]
  show (if ys.length ≤ 1000000 then _ else _) = _
  rw [if_pos (by omega)]; exact e2
 ·rw [h2]
  have hn : ∀ x,x ∈ ys ++ [nm] ↔ ∃ j,fnd rs x = some j ∧ (j = a ∨ Rch rs a j) := fun x => by
   rw [List.mem_append,List.mem_singleton,hym]
   constructor
   ·rintro (⟨j,hj,hR⟩ | rfl)
    ·exact ⟨j,hj,.inr hR⟩
    ·exact ⟨a,hf,.inl rfl⟩
   ·rintro ⟨j,hj,rfl | hR⟩
    ·exact .inr (Z0i hj hf)
    ·exact .inl ⟨j,hj,hR⟩
  constructor
  ·rintro (h | ⟨g,hg,h3,h4,h5,h6⟩)
   ·cases h
   ·exact ⟨h5,g,hg,(hn _).1 h3,h4.symm,h6⟩
  ·rintro ⟨h5,g,hg,h3,h4,h6⟩
   exact .inr ⟨g,hg,(hn _).2 h3,h4.symm,h5,h6⟩
def PQ (L : Nat) (out : List (List UInt8 × List (List UInt8))) : Prop := ∀ p,p ∈ out → p.1.length ≤ 20 ∧ p.2.length ≤ L
theorem PQ.nm {L : Nat} {out : List (List UInt8 × List (List UInt8))} (h : PQ L out) (k : Nat) : (nmAt out k).length ≤ 20 ∧ (unAt out k).length ≤ L := by
 unfold nmAt unAt
 cases hk : out[k]? with
 | none => simp
 | some p => exact h p (List.mem_of_getElem? hk)
theorem PQ.set {L : Nat} {out : List (List UInt8 × List (List UInt8))} (h : PQ L out) (i : Nat) {p : List UInt8 × List (List UInt8)} {M : Nat} (hM : L ≤ M) (hp : p.1.length ≤ 20 ∧ p.2.length ≤ M) : PQ M (out.set i p) := fun q hq => by
 rcases List.mem_or_eq_of_mem_set hq with hq | rfl
 ·have := h q hq; exact ⟨this.1,by omega⟩
 ·exact hp
theorem PQ.up {L M : Nat} {out : List (List UInt8 × List (List UInt8))} (h : PQ L out) (hM : L ≤ M) : PQ M out := fun q hq => ⟨(h q hq).1,by have := (h q hq).2; omega⟩
theorem Zs7 : ∀ (ns : List (List UInt8)) (x : Zab.ty) (out : List (List UInt8 × List (List UInt8))) (c : Int),SrcOk x c → c + 2 * (ns.length : Int) ≤ 1000000 → PQ 0 out → (∀ n,n ∈ ns → n.length ≤ 20) →
 ∃ x' out',drNames Zcc ns x out = some (x',out') ∧ SrcOk x' (c + 2 * (ns.length : Int)) ∧ out'.length ≤ out.length + ns.length ∧ PQ 0 out'
 | [],x,out,c,hs,hc,h,hn => ⟨x,out,rfl,hs.up (by simp),by simp,h⟩
 | n :: ns,x,out,c,hs,hc,h,hn => by
   rw [List.length_cons] at hc ⊢
   obtain ⟨b,x1,e,k⟩ := one_ok hs (by omega) 5 (by omega)
   rw [drNames,e,Option.bind_some]
   have hns := fun m hm => hn m (List.mem_cons_of_mem _ hm)
   cases b with
   | true =>
     obtain ⟨x',out',e',k',hl,hq⟩ := Zs7 ns x1 out (c + 2) k (by omega) h hns
     exact ⟨x',out',e',k'.up (by omega),by omega,hq⟩
   | false =>
     obtain ⟨x',out',e',k',hl,hq⟩ := Zs7 ns x1 (out ++ [(n,[])]) (c + 2) k (by omega) (fun p hp => by
      rcases List.mem_append.1 hp with hp | hp
      ·exact h p hp
      ·rw [List.mem_singleton] at hp; subst hp; exact ⟨hn n List.mem_cons_self,by simp⟩) hns
     rw [List.length_append,List.length_singleton] at hl
     exact ⟨x',out',e',k'.up (by omega),by omega,hq⟩
theorem Zzu (i : Nat) : ∀ (m k : Nat) (x : Zab.ty) (out : List (List UInt8 × List (List UInt8))) (c : Int) (L : Nat),SrcOk x c → c + 2 * (m : Int) ≤ 1000000 → PQ L out →
 ∃ x' out',drIn Zcc i m k x out = some (x',out') ∧ SrcOk x' (c + 2 * (m : Int)) ∧ out'.length = out.length ∧ PQ (L + m) out'
 | 0,k,x,out,c,L,hs,hc,h => ⟨x,out,rfl,hs.up (by simp),rfl,h⟩
 | m + 1,k,x,out,c,L,hs,hc,h => by
   obtain ⟨b,x1,e,k1⟩ := one_ok hs (by omega) 3 (by omega)
   rw [drIn,e,Option.bind_some]
   cases b with
   | false =>
     obtain ⟨x',out',e',k',hl,hq⟩ := Zzu i m (k + 1) x1 out (c + 2) L k1 (by omega) h
     exact ⟨x',out',e',k'.up (by omega),hl,hq.up (by omega)⟩
   | true =>
     have hq1 : PQ (L + 1) (out.set i (nmAt out i,unAt out i ++ [nmAt out k])) := h.set i (by omega) ⟨(h.nm i).1,by have := (h.nm i).2; simp; omega⟩
     obtain ⟨x',out',e',k',hl,hq⟩ := Zzu i m (k + 1) x1 _ (c + 2) (L + 1) k1 (by omega) hq1
     exact ⟨x',out',e',k'.up (by omega),by rw [hl,List.length_set],hq.up (by omega)⟩
theorem Z2g : ∀ (m i : Nat) (x : Zab.ty) (out : List (List UInt8 × List (List UInt8))) (c : Int) (L : Nat),SrcOk x c → out.length ≤ 5 → c + 20 * (m : Int) ≤ 1000000 → PQ L out →
 ∃ x' out',drOut Zcc m i x out = some (x',out') ∧ SrcOk x' (c + 20 * (m : Int)) ∧ out'.length = out.length ∧ PQ (L + 5 * m) out'
 | 0,i,x,out,c,L,hs,hl,hc,h => ⟨x,out,rfl,hs.up (by simp),rfl,h⟩
 | m + 1,i,x,out,c,L,hs,hl,hc,h => by
   obtain ⟨x1,out1,e,k1,hl1,hq1⟩ := Zzu i (out.length - (i + 1)) (i + 1) x out c L hs (by omega) h
   rw [drOut,e,Option.bind_some]
   obtain ⟨x',out',e',k',hl',hq'⟩ := Z2g m (i + 1) x1 out1 _ _ (k1.up (d := c + 20) (by omega)) (by omega) (by omega) hq1
   exact ⟨x',out',e',k'.up (by omega),by omega,hq'.up (by omega)⟩
theorem drF_ok {s : Zab.ty} (hs : SrcOk s 0) : ∃ x ys,drF Zcc Zax Zch Zcl s = some (x,ys) ∧ SrcOk x 1000 ∧ ys.length ≤ 13 ∧ PQ 100 ys := by
 obtain ⟨x1,o1,e1,k1,l1,q1⟩ := Zs7 rlNames s [] 0 hs (by decide) (fun p hp => (by cases hp)) (by decide)
 have hr : rlNames.length = 5 := rfl
 rw [hr] at l1 k1
 have l1' : o1.length ≤ 5 := by simpa using l1
 obtain ⟨x2,o2,e2,k2,l2,q2⟩ := Z2g o1.length 0 x1 o1 _ 0 k1 l1' (by omega) q1
 obtain ⟨c,x3,e3,k3,c0,c1⟩ := Zgm k2 (by omega) 24 (by omega)
 have k3' := k3.up (d := 200) (by omega)
 have q2' : PQ 25 o2 := q2.up (by omega)
 unfold drF
 rw [e1,Option.bind_some,e2,Option.bind_some,e3,Option.bind_some]
 simp only
 by_cases h0 : c = 0
 ·rw [if_pos h0]
  refine ⟨_,_,rfl,k3'.up (by omega),?_,?_⟩
  ·split
   ·rw [List.length_set]; omega
   ·omega
  ·split
   ·exact q2'.set _ (by omega) ⟨(q2'.nm _).1,by simp⟩
   ·exact q2'.up (by omega)
 ·rw [if_neg h0]
  by_cases h1 : c = 1
  ·rw [if_pos h1]
   by_cases hp : 0 < o2.length
   ·rw [if_pos hp]
    obtain ⟨j,x4,e4,k4,j0,j1⟩ := Zgm k3' (by omega) (o2.length : Int) (by omega)
    rw [e4,Option.bind_some]
    rw [if_pos (show 0 ≤ j ∧ j < (o2.length : Int) from ⟨j0,by omega⟩)]
    obtain ⟨t,x5,e5,k5,ht⟩ := Zv4 k4 (by omega) [[122,122],[97,103,101,110,116],[118,97,114,110,105,115,104,101,114]] (by decide) (by decide)
    rw [e5,Option.bind_some]
    refine ⟨_,_,rfl,k5.up (by omega),by rw [List.length_set]; omega,q2'.set _ (by omega) ⟨(q2'.nm _).1,by simp⟩⟩
   ·rw [if_neg hp]
    exact ⟨_,_,rfl,k3'.up (by omega),by omega,q2'.up (by omega)⟩
  ·rw [if_neg h1]
   by_cases h2 : c = 2
   ·rw [if_pos h2]
    obtain ⟨q,x4,e4,k4,hq⟩ := Zxo k3' (by omega) [12,13] (by decide) (by decide)
    have hq' : q = 12 ∨ q = 13 := by simpa using hq
    rw [e4,Option.bind_some]
    rw [if_pos (show 0 ≤ q ∧ q ≤ 100 by omega)]
    refine ⟨_,_,rfl,k4.up (by omega),by simp; omega,fun p hp => ?_⟩
    obtain ⟨k,_,rfl⟩ := List.mem_map.1 hp
    simp
   ·rw [if_neg h2]
    exact ⟨_,_,rfl,k3'.up (by omega),by omega,q2'.up (by omega)⟩
theorem Z5t {s : Zab.ty} (hs : SrcOk s 0) : ∃ rs x,Zih s = some (rs,x) ∧ SrcOk x 1000 ∧ rs.length ≤ 13 ∧ Sz rs := by
 obtain ⟨x,ys,e,k,hl,hq⟩ := drF_ok hs
 refine ⟨ys.map toRole,x,by rw [Zsr,e]; rfl,k,by simpa using hl,by simp; omega,fun r hr => ?_,fun r hr => ?_⟩
 ·obtain ⟨p,hp,rfl⟩ := List.mem_map.1 hr
  have := (hq p hp).1
  show p.1.length ≤ _
  omega
 ·obtain ⟨p,hp,rfl⟩ := List.mem_map.1 hr
  have := (hq p hp).2
  show p.2.length ≤ _
  omega
def Gk (g : Zaa.ty) : Prop := (gO g).length ≤ 20 ∧ 0 ≤ gA g ∧ gA g ≤ 4
theorem Zpy {s : Zab.ty} {c : Int} (hs : SrcOk s c) (hc : c ≤ 1000000) {rs : List T_Role.ty} (hl : rs.length ≤ 13) : ∃ g x,Zc4 s rs = some (g,x) ∧ SrcOk x (c + 20) ∧ Gk g := by
 obtain ⟨o,s1,e1,k1,ho⟩ := Zv4 hs (by omega) [[98,111,119],[112,108,97,116,101],[115,116,111,99,107]] (by decide) (by decide)
 have ho' : o.length ≤ 20 := (by decide : ∀ t,t ∈ [[98,111,119],[112,108,97,116,101],[115,116,111,99,107]] → (t : List UInt8).length ≤ 20) o ho
 have e1' : Zg9 s = some (o,s1) := by
  rw [Zr3,e1,Option.bind_some]
 obtain ⟨a,s2,e2,k2,a0,a1⟩ := Zgm k1 (by omega) 3 (by omega)
 have ha : IntKind.i64.wrap (1 + a) = 1 + a := w64 (by omega) (by omega)
 have fin : ∀ (s3 : Zab.ty) (r : List UInt8),SrcOk s3 (c + 10) → ∃ g x,Ze3 s3.1 s3.2.1 s3.2.2.1 [] [] 0 r o (1 + a) = some (g,x) ∧ SrcOk x (c + 20) ∧ Gk g := fun s3 r k3 => by
  obtain ⟨q,s4,e4,k4,q0,q1⟩ := Zgm k3 (by omega) 24 (by omega)
  obtain ⟨u,s5,e5,k5,hu⟩ := Zxo k4 (by omega) [0,4] (by decide) (by decide)
  obtain ⟨v,s6,e6,k6,hv⟩ := Zv4 k4 (by omega) [[122,122],[]] (by decide) (by decide)
  obtain ⟨z,s7,e7,k7,hz⟩ := Zv4 k4 (by omega) [[],[66]] (by decide) (by decide)
  have hu' : u = 0 ∨ u = 4 := by simpa using hu
  have hz' : z.length ≤ 20 := (by decide : ∀ t,t ∈ [[],[66]] → (t : List UInt8).length ≤ 20) z hz
  rw [Zrv]
  simp only [Zdg,e4,e5,e6,e7,Option.bind_some]
  split
  ·refine ⟨_,_,rfl,k5.up (by omega),ho',?_,?_⟩
   ·show (0 : Int) ≤ u; omega
   ·show (u : Int) ≤ 4; omega
  ·split
   ·refine ⟨_,_,rfl,k6.up (by omega),ho',?_,?_⟩
    ·show (0 : Int) ≤ 1 + a; omega
    ·show (1 + a : Int) ≤ 4; omega
   ·split
    ·refine ⟨_,_,rfl,k7.up (by omega),hz',?_,?_⟩
     ·show (0 : Int) ≤ 1 + a; omega
     ·show (1 + a : Int) ≤ 4; omega
    ·refine ⟨_,_,rfl,k4.up (by omega),ho',?_,?_⟩
     ·show (0 : Int) ≤ 1 + a; omega
     ·show (1 + a : Int) ≤ 4; omega
 rw [Zu1]
 simp only [e1',Zdg,e2,Option.bind_some,ha]
 by_cases hp : (rs.length : Int) > 0
 ·obtain ⟨j,s3,e3,k3,j0,j1⟩ := Zgm k2 (by omega) (rs.length : Int) (by omega)
  have hj : j.toNat < rs.length := by omega
  simp only [hp,decide_true,if_true,e3,Option.bind_some,j0,List.getElem?_eq_getElem hj]
  exact fin s3 _ (k3.up (by omega))
 ·simp only [hp,decide_false,Bool.false_eq_true,if_false]
  exact fin s2 _ (k2.up (by omega))
def Gks (gs : List Zaa.ty) (L : Nat) : Prop := gs.length ≤ L ∧ ∀ g,g ∈ gs → Gk g
theorem Gks.gz {gs : List Zaa.ty} {L : Nat} (h : Gks gs L) (hL : L ≤ 1000) : Gz gs := ⟨by have := h.1; omega,fun g hg => by have := (h.2 g hg).1; omega,fun g hg => by have := (h.2 g hg).2; omega⟩
theorem Gks.add {gs : List Zaa.ty} {L : Nat} (h : Gks gs L) {g : Zaa.ty} (hg : Gk g) : Gks (gs ++ [g]) (L + 1) := ⟨by have := h.1; simp; omega,fun x hx => by
 rcases List.mem_append.1 hx with hx | hx
 ·exact h.2 x hx
 ·rw [List.mem_singleton] at hx; subst hx; exact hg⟩
theorem Z4v {gs : List Zaa.ty} (hl : gs.length ≤ 1000) (r o : List UInt8) (a : Int) : ∀ (k i : Nat),i + k = gs.length → ∃ j : Nat,i ≤ j ∧ j ≤ gs.length ∧ Zfz gs i r o a = Zga gs j r o a
 | 0,i,h => by
   have h1 : ¬ (i : Int) < (gs.length : Int) := by omega
   rw [Zk2]
   simp only [h1,decide_false,Bool.false_eq_true,if_false]
   exact ⟨i,Nat.le_refl _,by omega,rfl⟩
 | k + 1,i,h => by
   have h1 : (i : Int) < (gs.length : Int) := by omega
   obtain ⟨j,j0,j1,e⟩ := Z4v hl r o a k (i + 1) (by omega)
   rw [Zk2]
   simp only [h1,Int.natCast_nonneg,decide_true,if_true,Int.toNat_natCast,Zco (show i < gs.length by omega),Option.bind_some,Z1j,wsucc (show i < 4611686018427387904 by omega),e]
   split
   ·exact ⟨j,by omega,j1,rfl⟩
   ·exact ⟨i,Nat.le_refl _,by omega,rfl⟩
theorem Zaam {rs : List T_Role.ty} (hz : Sz rs) {gs : List Zaa.ty} {L : Nat} (hg : Gks gs L) (hL : L ≤ 900) {g : Zaa.ty} (hk : Gk g) : ∃ out c,Zi1 rs gs g = some (out,c) ∧ (c = 0 → Gks out (L + 1)) := by
 have hgz := hg.gz (by omega)
 have hl := hg.1
 rw [Zx9,(Zhl hz hgz).1,Option.bind_some]
 cases vG rs gs with
 | false => exact ⟨_,_,rfl,fun h => (by cases h)⟩
 | true =>
   simp only [Bool.not_true,Bool.false_eq_true,if_false]
   rw [(Zql hz g (by have := hk.1; omega)).1,Option.bind_some]
   cases gc rs g with
   | false => exact ⟨_,_,rfl,fun h => (by cases h)⟩
   | true =>
     simp only [Bool.not_true,Bool.false_eq_true,if_false]
     obtain ⟨j,_,j1,e⟩ := Z4v (show gs.length ≤ 1000 by omega) g.1 g.2.1 g.2.2.1 gs.length 0 (by omega)
     rw [show ((0 : Nat) : Int) = 0 from rfl] at e
     rw [e]
     have p2 : ∃ out c,Zgg gs j g.1 g.2.1 g.2.2.1 = some (out,c) ∧ (c = 0 → Gks out (L + 1)) := by
      rw [Zup]
      by_cases h48 : ((gs.length : Int) == 48) = true
      ·rw [if_pos h48]; exact ⟨_,_,rfl,fun h => (by cases h)⟩
      ·rw [if_neg h48]
       have hj : (j : Int) ≤ (gs.length : Int) := by omega
       have l1 : 0 + (gs.take j).length < lim := by unfold lim; simp; omega
       have l2 : ([] ++ gs.take j).length + 1 < lim := by unfold lim; simp; omega
       have l3 : ((([] ++ gs.take j).take ([] ++ gs.take j).length) ++ [(g.1,g.2.1,g.2.2.1,())]).length + (gs.drop j).length < lim := by unfold lim; simp; omega
       simp only [hj,Int.natCast_nonneg,decide_true,Bool.and_self,if_true,Int.toNat_natCast,l1,l2,l3]
       refine ⟨_,_,rfl,fun _ => ⟨by simp; omega,fun x hx => ?_⟩⟩
       simp only [List.nil_append,List.take_length] at hx
       rcases List.mem_append.1 hx with hx | hx
       ·rcases List.mem_append.1 hx with hx | hx
        ·exact hg.2 x (List.mem_of_mem_take hx)
        ·rw [List.mem_singleton] at hx; subst hx; exact hk
       ·exact hg.2 x (List.mem_of_mem_drop hx)
     rw [Ztx]
     by_cases hlt : (j : Int) < (gs.length : Int)
     ·simp only [hlt,Int.natCast_nonneg,decide_true,if_true,Int.toNat_natCast,Zco (show j < gs.length by omega),Option.bind_some]
      split
      ·exact ⟨_,_,rfl,fun h => (by cases h)⟩
      ·exact p2
     ·simp only [hlt,decide_false,Bool.false_eq_true,if_false]; exact p2
theorem Z40 {rs : List T_Role.ty} {s : Zab.ty} {n : Int} (hn : n ≤ 49) : ∀ (k i : Nat) (gs : List Zaa.ty),(i : Int) + k = n → Gks gs i → ∃ out,Zg0 rs n i s.1 s.2.1 s.2.2.1 gs = some (rs,out,s) ∧ Gks out 49
 | 0,i,gs,h,hg => by
   have h1 : ¬ (i : Int) < n := by omega
   rw [Zmy]
   simp only [h1,decide_false,Bool.false_eq_true,if_false,List.take_length,Zdg]
   exact ⟨gs,rfl,by have := hg.1; omega,hg.2⟩
 | k + 1,i,gs,h,hg => by
   have h1 : (i : Int) < n := by omega
   rw [Zmy]
   simp only [h1,decide_true,if_true]
   by_cases hp : (rs.length : Int) > 0
   ·simp only [hp,decide_true,if_true]
    have h0 : rs[0]? = some (rAt rs 0) := Zcm (by omega)
    have l2 : gs.length + 1 < lim := by have := hg.1; unfold lim; omega
    rw [Zu3,h0,Option.bind_some]
    split
    ·rw [if_pos (decide_eq_true l2),List.take_length,wsucc (show i < 4611686018427387904 by omega)]
     refine Z40 hn k (i + 1) _ (by omega) (hg.add ⟨by simp [gO],?_,?_⟩)
     ·show (0 : Int) ≤ IntKind.i64.wrap (1 + ((i : Int).tmod 3))
      rw [Zhu (by omega),w64 (by omega) (by omega)]; omega
     ·show IntKind.i64.wrap (1 + ((i : Int).tmod 3)) ≤ 4
      rw [Zhu (by omega),w64 (by omega) (by omega)]; omega
    ·rename_i hne
     exact absurd (by simp [strMax]) hne
   ·simp only [hp,decide_false,Bool.false_eq_true,if_false,List.take_length,Zdg]
    exact ⟨gs,rfl,by have := hg.1; omega,hg.2⟩
theorem Z0n {rs : List T_Role.ty} (hz : Sz rs) (hl : rs.length ≤ 13) : ∀ (k : Nat) (s : Zab.ty) (gs : List Zaa.ty) (c : Int) (L : Nat),SrcOk s c → c + 20 * (k : Int) ≤ 10000 → Gks gs L → L + k ≤ 40 →
 ∃ out s',Ze6 rs k s.1 s.2.1 s.2.2.1 gs = some (rs,out,s') ∧ SrcOk s' 20000 ∧ Gks out 49
 | 0,s,gs,c,L,hs,hc,hg,hL => by
   have h1 : ¬ (((0 : Nat) : Int) > 0) := by omega
   obtain ⟨q,s1,e1,k1,q0,q1⟩ := Zgm hs (by omega) 20 (by omega)
   rw [Zmn]
   simp only [h1,decide_false,Bool.false_eq_true,if_false,Zdg,e1,Option.bind_some]
   have hgl := hg.1
   split
   ·obtain ⟨g,s2,e2,k2,hk⟩ := Zpy k1 (by omega) hl
    have l2 : gs.length + 1 < lim := by unfold lim; omega
    simp only [e2,Option.bind_some,l2,decide_true,if_true,List.take_length,Zdg]
    refine ⟨_,s2,rfl,k2.up (by omega),?_⟩
    have h9 : Gks (gs ++ [(g.1,g.2.1,g.2.2.1,())]) (L + 1) := hg.add hk
    exact ⟨by have := h9.1; omega,h9.2⟩
   ·split
    ·obtain ⟨n,s2,e2,k2,hn⟩ := Zxo k1 (by omega) [48,49] (by decide) (by decide)
     have hn' : n = 48 ∨ n = 49 := by simpa using hn
     simp only [e2,Option.bind_some]
     obtain ⟨out,e3,hk⟩ := Z40 (rs := rs) (s := s2) (n := n) (by omega) n.toNat 0 [] (by omega) ⟨by simp,fun x hx => (by cases hx)⟩
     exact ⟨out,s2,e3,k2.up (by omega),hk⟩
    ·rw [List.take_length]
     exact ⟨gs,s1,rfl,k1.up (by omega),by omega,hg.2⟩
 | k + 1,s,gs,c,L,hs,hc,hg,hL => by
   have h1 : (((k + 1 : Nat) : Int) > 0) := by omega
   obtain ⟨g,s1,e1,k1,hk⟩ := Zpy hs (by omega) hl
   obtain ⟨out,cd,e2,h2⟩ := Zaam hz hg (by omega) hk
   have hw : IntKind.i64.wrap (((k + 1 : Nat) : Int) - 1) = (k : Int) := by rw [w64 (by omega) (by omega)]; omega
   have e2' : Zi1 rs gs (g.1,g.2.1,g.2.2.1,()) = some (out,cd) := e2
   rw [Zmn]
   simp only [h1,decide_true,if_true,Zdg,e1,Option.bind_some,List.take_length,e2',hw]
   by_cases h0 : cd = 0
   ·rw [if_pos (by simpa using h0)]
    exact Z0n hz hl k s1 out (c + 20) (L + 1) k1 (by omega) (h2 h0) (by omega)
   ·rw [if_neg (by simpa using h0)]
    exact Z0n hz hl k s1 gs (c + 20) (L + 1) k1 (by omega) ⟨by have := hg.1; omega,hg.2⟩ (by omega)
theorem Z46 {s : Zab.ty} (hs : SrcOk s 0) : ∃ rs gs s',Zko s = some (rs,gs,s') ∧ SrcOk s' 20000 ∧ rs.length ≤ 13 ∧ Sz rs ∧ Gks gs 49 := by
 obtain ⟨rs,s1,e1,k1,hl,hz⟩ := Z5t hs
 obtain ⟨q,s2,e2,k2,q0,q1⟩ := Zgm k1 (by omega) 9 (by omega)
 obtain ⟨gs,s3,e3,k3,hg⟩ := Z0n hz hl q.toNat s2 [] _ 0 k2 (by omega) ⟨by simp,fun x hx => (by cases hx)⟩ (by omega)
 refine ⟨rs,gs,s3,?_,k3,hl,hz,hg⟩
 rw [Zzl]
 simp only [e1,Option.bind_some,Zdg,e2]
 rw [show ((q.toNat : Nat) : Int) = q by omega] at e3
 exact e3
theorem Z8v (code : List Int) (h1 : ∀ x,x ∈ code → 0 ≤ x ∧ x ≤ 255) (h2 : code.length ≤ 1048576) : ∃ rs gs g,Zh6 code = some (rs,gs,g) ∧ Sz rs ∧ rs.length ≤ 13 ∧ Gks gs 49 ∧ Gk g := by
 obtain ⟨s,e,k⟩ := Z4r code h1 h2
 obtain ⟨rs,gs,s1,e1,k1,hl,hz,hg⟩ := Z46 k
 have p1 : ∀ s2 : Zab.ty,SrcOk s2 20100 → ∃ g,Zd5 rs [] [] 0 gs s2.1 s2.2.1 s2.2.2.1 = some (rs,gs,g) ∧ Gk g := fun s2 k2 => by
  obtain ⟨g,s3,e3,k3,hk⟩ := Zpy k2 (by omega) hl
  rw [Zp3]
  simp only [Zdg,e3,Option.bind_some,List.take_length]
  exact ⟨_,rfl,hk⟩
 rw [Zsg]
 simp only [e,e1,Option.bind_some,Zdg]
 by_cases hp : (gs.length : Int) > 0
 ·obtain ⟨b,s2,e2,k2⟩ := one_ok k1 (by omega) 8 (by omega)
  simp only [hp,decide_true,if_true,e2,Option.bind_some]
  cases b with
  | true =>
    have hp' : (0 : Int) < (gs.length : Int) := hp
    have h0 : gs[0]? = some (gAt gs 0) := Zco (by omega)
    rw [if_pos rfl,Zp0]
    simp only [hp',decide_true,if_true,h0,Option.bind_some,List.take_length]
    exact ⟨rs,gs,gAt gs 0,rfl,hz,hl,hg,hg.2 _ (Ze0 (by omega))⟩
  | false =>
    obtain ⟨g,e3,hk⟩ := p1 s2 (k2.up (by omega))
    exact ⟨rs,gs,g,e3,hz,hl,hg,hk⟩
 ·obtain ⟨g,e3,hk⟩ := p1 s1 (k1.up (by omega))
  simp only [hp,decide_false,Bool.false_eq_true,if_false]
  exact ⟨rs,gs,g,e3,hz,hl,hg,hk⟩
theorem Z6g (code : List Int) (h1 : ∀ x,x ∈ code → 0 ≤ x ∧ x ≤ 255) (h2 : code.length ≤ 1048576) : ∃ rs gs g g',Zgh code = some (rs,gs,g,g') ∧ Sz rs ∧ rs.length ≤ 13 ∧ Gks gs 49 ∧ Gk g ∧ Gk g' := by
 obtain ⟨s,e,k⟩ := Z4r code h1 h2
 obtain ⟨rs,gs,s1,e1,k1,hl,hz,hg⟩ := Z46 k
 obtain ⟨g,s2,e2,k2,hk⟩ := Zpy k1 (by omega) hl
 obtain ⟨g',s3,e3,k3,hk'⟩ := Zpy k2 (by omega) hl
 refine ⟨rs,gs,g,g',?_,hz,hl,hg,hk,hk'⟩
 rw [Zp4]
 simp only [e,e1,e2,e3,Option.bind_some,Zdg,List.take_length]
theorem lt_tri (a b : List UInt8) : a < b ∨ a = b ∨ b < a := by
 by_cases h1 : a < b
 ·exact .inl h1
 ·by_cases h2 : b < a
  ·exact .inr (.inr h2)
  ·exact .inr (.inl (List.le_antisymm (List.not_lt.1 h2) (List.not_lt.1 h1)))
theorem Z9r (a b : Zaa.ty) : Lt3 a b ∨ a = b ∨ Lt3 b a := by
 rcases lt_tri (gR a) (gR b) with h | h | h
 ·exact .inl (.inl h)
 ·rcases lt_tri (gO a) (gO b) with h' | h' | h'
  ·exact .inl (.inr ⟨h,.inl h'⟩)
  ·rcases Int.lt_trichotomy (gA a) (gA b) with k | k | k
   ·exact .inl (.inr ⟨h,.inr ⟨h',k⟩⟩)
   ·exact .inr (.inl (g_ext h h' k))
   ·exact .inr (.inr (.inr ⟨h.symm,.inr ⟨h'.symm,k⟩⟩))
  ·exact .inr (.inr (.inr ⟨h.symm,.inl h'⟩))
 ·exact .inr (.inr (.inl h))
theorem mid_ok (a b : Nat) (h : a + b ≤ 1048576) : IntKind.i64.wrap (Int.fdiv (IntKind.u64.wrap (IntKind.i64.wrap ((a : Int) + (b : Int)))) (2 ^ (min (1 : Int).toNat IntKind.u64.bits))) = (((a + b) / 2 : Nat) : Int) := by
 have e : (2 : Int) ^ (min (1 : Int).toNat IntKind.u64.bits) = 2 := by decide
 rw [w64 (n := (a : Int) + b) (by omega) (by omega),wu64 (by omega) (by omega),e,Int.fdiv_eq_ediv_of_nonneg _ (by omega),w64 (by omega) (by omega)]
 omega
theorem gup_at {gs : List Zaa.ty} (h : gs.Pairwise Lt3) {i j : Nat} (hij : i < j) (hj : j < gs.length) : Lt3 (gAt gs i) (gAt gs j) := by
 have := List.pairwise_iff_getElem.1 h i j (by omega) hj hij
 simpa [gAt,List.getElem?_eq_getElem hj,List.getElem?_eq_getElem (show i < gs.length by omega)] using this
theorem Z45 {gs : List Zaa.ty} (h : gs.Pairwise Lt3) {i j : Nat} (hi : i < gs.length) (hj : j < gs.length) (e : gAt gs i = gAt gs j) : i = j := by
 rcases Nat.lt_trichotomy i j with c | c | c
 ·have := gup_at h c hj; rw [e] at this; exact absurd this (Zyx _)
 ·exact c
 ·have := gup_at h c hi; rw [e] at this; exact absurd this (Zyx _)
theorem Z0j {gs : List Zaa.ty} (hg : Gz gs) (hp : gs.Pairwise Lt3) {x : Zaa.ty} (hx : -1000 ≤ gA x ∧ gA x ≤ 1000) : ∀ (k lo hi : Nat),hi - lo ≤ k → lo ≤ hi → hi ≤ gs.length → (∀ t,t < lo → Lt3 (gAt gs t) x) → (∀ t,hi ≤ t → t < gs.length → ¬ Lt3 (gAt gs t) x) →
 ∃ (j : Nat) (b : Bool),Zae gs gs.length lo hi x.1 x.2.1 x.2.2.1 = some ((j : Int),b) ∧ j ≤ gs.length ∧ (∀ t,t < j → Lt3 (gAt gs t) x) ∧ (∀ t,j ≤ t → t < gs.length → ¬ Lt3 (gAt gs t) x) ∧ (b = true ↔ j < gs.length ∧ gAt gs j = x)
 | k,lo,hi,hk,hlh,hhn,h1,h2 => by
   have hl := hg.len
   rw [Zbr]
   by_cases c : lo < hi
   ·have c1 : (lo : Int) < (hi : Int) := by omega
    have hm : (lo + hi) / 2 < gs.length := by omega
    obtain ⟨z,e,z1,z2⟩ := Zj0 (gAt gs ((lo + hi) / 2)) x (hg.ac _ (Ze0 hm)) hx
    have e' : Zcf (gAt gs ((lo + hi) / 2)) (x.1,x.2.1,x.2.2.1,()) = some z := e
    simp only [c1,decide_true,if_true,mid_ok lo hi (by omega),Int.natCast_nonneg,Int.toNat_natCast,Zco hm,Option.bind_some,e',wsucc (show (lo + hi) / 2 < 4611686018427387904 by omega)]
    match k,hk with
    | 0,hk => omega
    | k + 1,hk =>
      by_cases cz : z < 0
      ·rw [if_pos (by simpa using cz)]
       refine Z0j hg hp hx k ((lo + hi) / 2 + 1) hi (by omega) (by omega) hhn (fun t ht => ?_) h2
       rcases Nat.lt_or_ge t ((lo + hi) / 2) with hlt | hge
       ·exact Zm5 (gup_at hp hlt hm) (z1.1 cz)
       ·rw [show t = (lo + hi) / 2 by omega]; exact z1.1 cz
      ·rw [if_neg (by simpa using cz)]
       refine Z0j hg hp hx k lo ((lo + hi) / 2) (by omega) (by omega) (by omega) h1 (fun t ht htl hL => cz (z1.2 ?_))
       rcases Nat.eq_or_lt_of_le ht with rfl | hlt
       ·exact hL
       ·exact Zm5 (gup_at hp hlt htl) hL
   ·have c1 : ¬ (lo : Int) < (hi : Int) := by omega
    obtain rfl : lo = hi := by omega
    simp only [c1,decide_false,Bool.false_eq_true,if_false]
    by_cases d : lo < gs.length
    ·have d1 : (lo : Int) < (gs.length : Int) := by omega
     obtain ⟨z,e,z1,z2⟩ := Zj0 (gAt gs lo) x (hg.ac _ (Ze0 d)) hx
     have e' : Zcf (gAt gs lo) (x.1,x.2.1,x.2.2.1,()) = some z := e
     simp only [d1,decide_true,if_true,Int.natCast_nonneg,Int.toNat_natCast,Zco d,Option.bind_some,e']
     exact ⟨lo,_,rfl,hhn,h1,h2,by simp [z2,d]⟩
    ·have d1 : ¬ (lo : Int) < (gs.length : Int) := by omega
     simp only [d1,decide_false,Bool.false_eq_true,if_false]
     exact ⟨lo,false,rfl,hhn,h1,h2,by simp [d]⟩
theorem Zxy {gs : List Zaa.ty} (h : gs.length ≤ 1000) : Zcq gs = some gs := by
 have l1 : gs.length < lim := by unfold lim; omega
 have l2 : 0 + gs.length < lim := by unfold lim; omega
 rw [Zoa]
 simp only [Int.natCast_nonneg,decide_true,Int.toNat_natCast,l1,l2,Bool.and_self,if_true,List.nil_append,List.take_length]
def putG (gs : List Zaa.ty) (j : Nat) (x : Zaa.ty) : List Zaa.ty := gs.take j ++ [x] ++ gs.drop j
def cutG (gs : List Zaa.ty) (q : Nat) : List Zaa.ty := gs.take q ++ gs.drop (q + 1)
theorem Zxi {gs : List Zaa.ty} {j : Nat} {x : Zaa.ty} (hj : j ≤ gs.length) : (putG gs j x).length = gs.length + 1 := by
 unfold putG; simp; omega
theorem Zaao {gs : List Zaa.ty} {j : Nat} {x : Zaa.ty} (hj : j ≤ gs.length) : gAt (putG gs j x) j = x := by
 unfold putG gAt
 rw [List.append_assoc,List.getElem?_append_right (by simp; omega)]
 simp [Nat.min_eq_left hj]
theorem Z73 {gs : List Zaa.ty} {j : Nat} {x : Zaa.ty} (hj : j ≤ gs.length) : cutG (putG gs j x) j = gs := by
 unfold cutG putG
 rw [List.append_assoc,List.take_append_of_le_length (by simp; omega),List.take_take,Nat.min_self]
 have e : (gs.take j ++ ([x] ++ gs.drop j)).drop (j + 1) = gs.drop j := by
  rw [List.drop_append]
  have h1 : (gs.take j).drop (j + 1) = [] := List.drop_eq_nil_of_le (by simp; omega)
  have h2 : j + 1 - (gs.take j).length = 1 := by simp; omega
  rw [h1,h2]; rfl
 rw [e,List.take_append_drop]
theorem Z3s (gs : List Zaa.ty) (q : Nat) : (cutG gs q).Sublist gs := by
 have h : (gs.take q ++ gs.drop (q + 1)).Sublist (gs.take q ++ gs.drop q) := by
  refine List.Sublist.append_left ?_ _
  rw [show gs.drop (q + 1) = (gs.drop q).drop 1 by rw [List.drop_drop]]
  exact List.drop_sublist _ _
 rwa [List.take_append_drop] at h
theorem Zqw {gs : List Zaa.ty} (h : gs.length ≤ 1000) {q : Nat} (hq : q < gs.length) : Za5 gs q ((q + 1 : Nat) : Int) = some (cutG gs q,()) := by
 have e1 : (q : Int) < ((q + 1 : Nat) : Int) := by omega
 have e2 : ((q + 1 : Nat) : Int) ≤ (gs.length : Int) := by omega
 have e3 : gs.length < 1099511627776 := by omega
 rw [Zft]
 simp only [Int.natCast_nonneg,decide_true,e1,e2,e3,Bool.and_self,if_true,Int.toNat_natCast]
 rfl
theorem Z9x {rs : List T_Role.ty} (hz : Sz rs) {gs : List Zaa.ty} (hg : Gks gs 49) {x : Zaa.ty} (hk : Gk x) : ∃ out c,Zi2 rs gs x = some (out,c) ∧ (c = 0 → ∃ j,j ≤ gs.length ∧ out = putG gs j x ∧ Vd rs gs ∧ Vd rs out ∧ gc rs x = true) := by
 have hgz := hg.gz (by omega)
 have hl := hg.1
 rw [Zw0,(Zhl hz hgz).2,Option.bind_some]
 cases hv : vG rs gs with
 | false => exact ⟨_,_,rfl,fun h => (by cases h)⟩
 | true =>
   have V := vd_of hz hgz hv
   simp only [Bool.not_true,Bool.false_eq_true,if_false]
   rw [(Zql hz x (by have := hk.1; omega)).2,Option.bind_some]
   cases hgc : gc rs x with
   | false => exact ⟨_,_,rfl,fun h => (by cases h)⟩
   | true =>
     simp only [Bool.not_true,Bool.false_eq_true,if_false]
     obtain ⟨j,b,e,j1,j2,j3,j4⟩ := Z0j hgz V.gu (x := x) (by have := hk.2; omega) gs.length 0 gs.length (by omega) (by omega) (by omega) (fun t ht => absurd ht (Nat.not_lt_zero _)) (fun t h1 h2 => by omega)
     have e' : Zah gs x () = some ((j : Int),b) := by
      rw [Zb2]; exact e
     rw [e',Option.bind_some]
     cases b with
     | true => exact ⟨_,_,rfl,fun h => (by cases h)⟩
     | false =>
       simp only [Bool.false_eq_true,if_false]
       by_cases h48 : ((gs.length : Int) == 48) = true
       ·rw [if_pos h48]; exact ⟨_,_,rfl,fun h => (by cases h)⟩
       ·rw [if_neg h48,Zxy (by omega),Option.bind_some]
        have hne : gs.length ≠ 48 := fun h => h48 (by simp [h])
        have hins : Zcb gs j [x] = some (putG gs j x,()) := by
         have e1 : (j : Int) ≤ (gs.length : Int) := by omega
         have e2 : gs.length + 1 < 1099511627776 := by omega
         rw [Zfr]
         simp only [List.length_singleton,Int.natCast_nonneg,decide_true,e1,e2,Bool.and_self,if_true,Int.toNat_natCast]
         rfl
        simp only [decide_true,if_true,hins,Option.bind_some,List.take_length]
        refine ⟨_,_,rfl,fun _ => ⟨j,j1,rfl,V,?_,trivial⟩⟩
        obtain ⟨v1,v2,v3,v4⟩ := (vG_iff rs gs).1 hv
        have hlt : ∀ t,j ≤ t → t < gs.length → Lt3 x (gAt gs t) := fun t ht htl => by
         have hx0 : Lt3 x (gAt gs j) := by
          rcases Z9r (gAt gs j) x with h | h | h
          ·exact absurd h (j3 j (Nat.le_refl _) (by omega))
          ·exact absurd (j4.2 ⟨by omega,h⟩) (by simp)
          ·exact h
         rcases Nat.eq_or_lt_of_le ht with rfl | hlt
         ·exact hx0
         ·exact Zm5 hx0 (gup_at V.gu hlt htl)
        have hmem : ∀ g,g ∈ putG gs j x → g ∈ gs ∨ g = x := fun g hgm => by
         unfold putG at hgm
         rcases List.mem_append.1 hgm with h | h
         ·rcases List.mem_append.1 h with h | h
          ·exact .inl (List.mem_of_mem_take h)
          ·exact .inr (List.mem_singleton.1 h)
         ·exact .inl (List.mem_of_mem_drop h)
        refine vd_of hz ⟨by rw [Zxi j1]; omega,fun g hgm => ?_,fun g hgm => ?_⟩ ((vG_iff rs _).2 ⟨v1,by rw [Zxi j1]; omega,fun g hgm => ?_,?_⟩)
        ·rcases hmem g hgm with h | rfl
         ·exact hgz.ob g h
         ·have := hk.1; omega
        ·rcases hmem g hgm with h | rfl
         ·exact hgz.ac g h
         ·have := hk.2; omega
        ·rcases hmem g hgm with h | rfl
         ·exact v3 g h
         ·exact hgc
        ·unfold putG
         rw [List.append_assoc]
         refine List.pairwise_append.2 ⟨V.gu.sublist (List.take_sublist _ _),List.pairwise_append.2 ⟨List.pairwise_singleton _ _,V.gu.sublist (List.drop_sublist _ _),fun a ha b hb => ?_⟩,fun a ha b hb => ?_⟩
         ·rw [List.mem_singleton] at ha; subst ha
          obtain ⟨t,ht⟩ := List.mem_iff_getElem?.1 hb
          rw [List.getElem?_drop] at ht
          have htl := (List.getElem?_eq_some_iff.1 ht).1
          have he : gAt gs (j + t) = b := by simp [gAt,ht]
          rw [← he]; exact hlt _ (by omega) htl
         ·have ha' : Lt3 a x := by
           obtain ⟨t,ht⟩ := List.mem_iff_getElem?.1 ha
           have htl := (List.getElem?_eq_some_iff.1 ht).1
           have htj : t < j := by rw [List.length_take] at htl; omega
           rw [List.getElem?_take,if_pos htj] at ht
           have he : gAt gs t = a := by simp [gAt,ht]
           rw [← he]; exact j2 t htj
          rcases List.mem_append.1 hb with h | h
          ·rw [List.mem_singleton] at h; subst h; exact ha'
          ·obtain ⟨t,ht⟩ := List.mem_iff_getElem?.1 h
           rw [List.getElem?_drop] at ht
           have htl := (List.getElem?_eq_some_iff.1 ht).1
           have he : gAt gs (j + t) = b := by simp [gAt,ht]
           rw [← he]; exact Zm5 ha' (hlt _ (by omega) htl)
theorem Z01 {gs : List Zaa.ty} (hl : gs.length ≤ 1000) (hp : gs.Pairwise Lt3) {q : Nat} (hq : q < gs.length) : ∀ (k i : Nat),i + k = q → Za1 gs gs.length i (gAt gs q).1 (gAt gs q).2.1 (gAt gs q).2.2.1 = some (q : Int)
 | 0,i,h => by
   obtain rfl : i = q := by omega
   have h1 : (i : Int) < (gs.length : Int) := by omega
   rw [Zcu]
   simp only [h1,Int.natCast_nonneg,decide_true,if_true,Int.toNat_natCast,Zco hq,Option.bind_some,beq_self_eq_true,Bool.and_self]
 | k + 1,i,h => by
   have h1 : (i : Int) < (gs.length : Int) := by omega
   rw [Zcu]
   simp only [h1,Int.natCast_nonneg,decide_true,if_true,Int.toNat_natCast,Zco (show i < gs.length by omega),Option.bind_some,wsucc (show i < 4611686018427387904 by omega),Z01 hl hp hq k (i + 1) (by omega)]
   rw [if_neg]
   intro hc
   simp only [Bool.and_eq_true,beq_iff_eq] at hc
   have := Z45 hp hq (show i < gs.length by omega) (g_ext hc.1 hc.2.1 hc.2.2)
   omega
theorem Z50 {rs : List T_Role.ty} {gs : List Zaa.ty} (V : Vd rs gs) {q : Nat} (hq : q < gs.length) : Zgb rs gs (gAt gs q) = some (cutG gs q,0) := by
 have hl := V.gz.len
 have e : Zcd gs (gAt gs q) = some (q : Int) := by
  rw [Zgf]; exact Z01 hl V.gu hq q 0 (by omega)
 have hn : ¬ (q : Int) < 0 := by omega
 rw [Zum,(Zhl V.sz V.gz).2,V.v]
 simp only [Option.bind_some,Bool.not_true,Bool.false_eq_true,if_false,e,hn,decide_false,Zxy hl,decide_true,if_true,wsucc (show q < 4611686018427387904 by omega),Zqw hl hq,List.take_length]
theorem Zu7 {gs : List Zaa.ty} (hl : gs.length ≤ 1000) (hp : gs.Pairwise Lt3) {q : Nat} (hq : q < gs.length) : ∀ (k i : Nat),i + k = q → Zep gs i (gAt gs q).1 (gAt gs q).2.1 (gAt gs q).2.2.1 = some (cutG gs q,0)
 | 0,i,h => by
   obtain rfl : i = q := by omega
   have h1 : (i : Int) < (gs.length : Int) := by omega
   have h2 : (i : Int) ≤ (gs.length : Int) := by omega
   have h3 : ((i + 1 : Nat) : Int) ≤ (gs.length : Int) := by omega
   have l1 : 0 + (gs.take i).length < lim := by unfold lim; simp; omega
   have l2 : (gs.take i).length + (gs.drop (i + 1)).length < lim := by unfold lim; simp; omega
   have ew : Zjx gs i = some (cutG gs i) := by
    rw [Zvu]
    simp only [wsucc (show i < 4611686018427387904 by omega),h2,h3,Int.natCast_nonneg,decide_true,Bool.and_self,if_true,Int.toNat_natCast,l1,l2,List.nil_append,List.take_length]
    rfl
   rw [Ziq]
   simp only [h1,Int.natCast_nonneg,decide_true,if_true,Int.toNat_natCast,Zco hq,Option.bind_some,beq_self_eq_true,Bool.and_self,ew,List.take_length]
 | k + 1,i,h => by
   have h1 : (i : Int) < (gs.length : Int) := by omega
   rw [Ziq]
   simp only [h1,Int.natCast_nonneg,decide_true,if_true,Int.toNat_natCast,Zco (show i < gs.length by omega),Option.bind_some,wsucc (show i < 4611686018427387904 by omega),Zu7 hl hp hq k (i + 1) (by omega)]
   rw [if_neg]
   intro hc
   simp only [Bool.and_eq_true,beq_iff_eq] at hc
   have := Z45 hp (show i < gs.length by omega) hq (g_ext hc.1 hc.2.1 hc.2.2)
   omega
theorem Z5z {rs : List T_Role.ty} {gs : List Zaa.ty} (V : Vd rs gs) {q : Nat} (hq : q < gs.length) : Zjh rs gs (gAt gs q) = some (cutG gs q,0) := by
 rw [Zuh,(Zhl V.sz V.gz).1,V.v]
 simp only [Option.bind_some,Bool.not_true,Bool.false_eq_true,if_false]
 exact Zu7 V.gz.len V.gu hq q 0 (by omega)
noncomputable def rl (rs : List T_Role.ty) (gs : List Zaa.ty) (i : Nat) : Nat := ((rtF Zbl Zac rs gs (rN (rAt rs i))).getD []).length
theorem Z0x {rs : List T_Role.ty} {gs hs : List Zaa.ty} (V : Vd rs gs) (W : Vd rs hs) : ∀ (k i : Nat),i + k = rs.length → ∃ z : Int,Zaj rs rs gs hs rs.length i = some z ∧ (z < 0 → ∀ t,i ≤ t → t < rs.length → rl rs gs t = rl rs hs t)
 | 0,i,h => by
   have h1 : ¬ (i : Int) < (rs.length : Int) := by omega
   rw [Za6]
   simp only [h1,decide_false,Bool.false_eq_true,if_false]
   exact ⟨-1,rfl,fun _ t h1 h2 => by omega⟩
 | k + 1,i,h => by
   have hl := V.sz.len
   have hi : i < rs.length := by omega
   have h1 : (i : Int) < (rs.length : Int) := by omega
   obtain ⟨S,eS,_⟩ := Zmr V (V.up.fnd (Zcm hi))
   obtain ⟨T,eT,_⟩ := Zmr W (V.up.fnd (Zcm hi))
   have e1 : Zid (rAt rs i) rs gs hs = some ((S.length : Int) != (T.length : Int)) := by
    rw [Zsw,cmpF]
    show (rtF Zbl Zac rs gs (rN (rAt rs i))).bind _ = _
    rw [eS,Option.bind_some]
    show (rtF Zbl Zac rs hs (rN (rAt rs i))).bind _ = _
    rw [eT,Option.bind_some]
   rw [Za6]
   simp only [h1,Int.natCast_nonneg,decide_true,if_true,Int.toNat_natCast,Zcm hi,Option.bind_some,e1,wsucc (show i < 4611686018427387904 by omega)]
   by_cases c : ((S.length : Int) != (T.length : Int)) = true
   ·rw [if_pos c]
    exact ⟨i,rfl,fun h => by omega⟩
   ·rw [if_neg c]
    obtain ⟨z,e,hz⟩ := Z0x V W k (i + 1) (by omega)
    refine ⟨z,e,fun hz0 t ht htl => ?_⟩
    rcases Nat.eq_or_lt_of_le ht with rfl | hlt
    ·have hST : S.length = T.length := by
      simp only [bne_iff_ne,ne_eq,Decidable.not_not] at c; omega
     unfold rl
     rw [eS,eT]; exact hST
    ·exact hz hz0 t hlt htl
theorem Zaaj {rs : List T_Role.ty} {gs hs : List Zaa.ty} (V : Vd rs gs) (hsub : hs.Sublist gs) : ∃ b,Zju rs gs hs = some b ∧ (b = true → ∀ a,a < rs.length → ∀ o act,1 ≤ act → May rs gs a o act → May rs hs a o act) := by
 have W := V.sub hsub
 obtain ⟨z,e,hz⟩ := Z0x V W rs.length 0 (by omega)
 have e' : Zal rs (rs,gs,hs,()) = some z := by
  rw [Zc5]; exact e
 rw [Zva,Zcv]
 show ∃ b,((((Zal rs (rs,gs,hs,())).bind fun x1 => some (decide (x1 ≥ 0))).bind fun x1 => some (!x1))) = some b ∧ _
 rw [e',Option.bind_some,Option.bind_some]
 refine ⟨_,rfl,fun hb a ha o act hact hM => ?_⟩
 have hz0 : z < 0 := by simp only [Bool.not_eq_true',decide_eq_false_iff_not] at hb; omega
 have hr := hz hz0 a (Nat.zero_le _) ha
 obtain ⟨S,eS,nS,mS⟩ := Zmr V (V.up.fnd (Zcm ha))
 obtain ⟨T,eT,nT,mT⟩ := Zmr W (V.up.fnd (Zcm ha))
 unfold rl at hr
 rw [eS,eT] at hr
 have hr' : S.length = T.length := hr
 have hTS : ∀ p,p ∈ T → p ∈ S := fun p hp => by
  obtain ⟨h1,g,hg,h2⟩ := (mT p).1 hp
  exact (mS p).2 ⟨h1,g,hsub.subset hg,h2⟩
 have hp : (o,act) ∈ S := (mS (o,act)).2 ⟨hact,hM⟩
 have hpT : (o,act) ∈ T := by
  apply Classical.byContradiction
  intro hn
  have h1 := Zvl (l := T) (m := S.erase (o,act)) nT fun p hpT => (List.mem_erase_of_ne (a := p) (b := (o,act)) (fun e => hn (by rw [← e]; exact hpT))).2 (hTS p hpT)
  rw [List.length_erase_of_mem hp] at h1
  have := List.length_pos_of_mem hp
  omega
 exact ((mT _).1 hpT).2
def Eqv (rs : List T_Role.ty) (gs : List Zaa.ty) (q : Nat) : Prop := ∀ a,a < rs.length → ∀ o act,1 ≤ act → May rs gs a o act → May rs (cutG gs q) a o act
structure Nd (rs : List T_Role.ty) (gs : List Zaa.ty) (i : Nat) (out : List Int) : Prop where
 el : ∀ z,z ∈ out → ∃ q : Nat,z = (q : Int) ∧ q < i ∧ Eqv rs gs q
 up : out.Pairwise (· < ·)
 len : out.length ≤ i
theorem Zm9 {rs : List T_Role.ty} {gs : List Zaa.ty} (V : Vd rs gs) : ∀ (k i : Nat) (out : List Int),i + k = gs.length → Nd rs gs i out → ∃ out',Zct rs gs gs.length i out = some (out',0) ∧ Nd rs gs gs.length out'
 | 0,i,out,h,hN => by
   have h1 : ¬ (i : Int) < (gs.length : Int) := by omega
   rw [Zgu]
   simp only [h1,decide_false,Bool.false_eq_true,if_false,List.take_length]
   rw [show gs.length = i by omega]
   exact ⟨out,rfl,hN⟩
 | k + 1,i,out,h,hN => by
   have hl := V.gz.len
   have h1 : (i : Int) < (gs.length : Int) := by omega
   obtain ⟨b,e,hb⟩ := Zaaj V (Z3s gs i)
   have lo : out.length + 1 < lim := by have := hN.len; unfold lim; omega
   rw [Zgu]
   simp only [h1,decide_true,if_true,Zxy hl,Option.bind_some,wsucc (show i < 4611686018427387904 by omega),Zqw hl (show i < gs.length by omega),e,lo,List.take_length]
   have hup : Nd rs gs (i + 1) out := ⟨fun z hz => by
    obtain ⟨q,h1,h2,h3⟩ := hN.el z hz
    exact ⟨q,h1,by omega,h3⟩,hN.up,by have := hN.len; omega⟩
   cases b with
   | false =>
     simp only [Bool.false_eq_true,if_false]
     exact Zm9 V k (i + 1) out (by omega) hup
   | true =>
     simp only [if_true]
     refine Zm9 V k (i + 1) _ (by omega) ⟨fun z hz => ?_,?_,by have := hN.len; simp; omega⟩
     ·rcases List.mem_append.1 hz with hz | hz
      ·exact hup.el z hz
      ·rw [List.mem_singleton] at hz
       exact ⟨i,hz,by omega,hb rfl⟩
     ·refine List.pairwise_append.2 ⟨hN.up,List.pairwise_singleton _ _,fun x hx y hy => ?_⟩
      rw [List.mem_singleton] at hy; subst hy
      obtain ⟨q,h1,h2,_⟩ := hN.el x hx
      omega
theorem Z36 {rs : List T_Role.ty} {gs : List Zaa.ty} (V : Vd rs gs) : ∃ out,Zgr rs gs = some (out,0) ∧ Nd rs gs gs.length out := by
 rw [Zrj,(Zhl V.sz V.gz).2,V.v]
 simp only [Option.bind_some,Bool.not_true,Bool.false_eq_true,if_false]
 exact Zm9 V gs.length 0 [] (by omega) ⟨fun z hz => (by cases hz),List.Pairwise.nil,by simp⟩
theorem Zy9 {l : List Int} {n : Nat} (hl : l.length ≤ 1000) (h1 : ∀ z,z ∈ l → ∃ q : Nat,z = (q : Int) ∧ q < n) (h2 : l.Pairwise (· < ·)) : ∀ (k i : Nat),i + k = l.length → Zeg l n i = some true
 | 0,i,h => by
   have h3 : ¬ (i : Int) < (l.length : Int) := by omega
   rw [Zld]; simp [h3]
 | k + 1,i,h => by
   have hi : i < l.length := by omega
   have h3 : (i : Int) < (l.length : Int) := by omega
   obtain ⟨q,e,hq⟩ := h1 _ (List.getElem_mem hi)
   have a1 : ¬ l[i] < 0 := by omega
   have a2 : ¬ l[i] ≥ (n : Int) := by omega
   rw [Zld]
   simp only [h3,Int.natCast_nonneg,decide_true,if_true,Int.toNat_natCast,List.getElem?_eq_getElem hi,Option.bind_some,a1,a2,decide_false,Bool.false_eq_true,if_false,wsucc (show i < 4611686018427387904 by omega),Zy9 hl h1 h2 k (i + 1) (by omega)]
   by_cases h0 : i = 0
   ·subst h0; simp
   ·have hp : (i : Int) > 0 := by omega
    have h4 := List.pairwise_iff_getElem.1 h2 (i - 1) i (by omega) hi (by omega)
    have a3 : ¬ l[i - 1]'(by omega) ≥ l[i] := by omega
    simp only [hp,decide_true,if_true,wpred (show 0 < i by omega) (show i < 4611686018427387904 by omega),Int.natCast_nonneg,Int.toNat_natCast,List.getElem?_eq_getElem (show i - 1 < l.length by omega),Option.bind_some,a3,decide_false,Bool.false_eq_true,if_false]
theorem Z44 {rs : List T_Role.ty} {gs : List Zaa.ty} (V : Vd rs gs) (v1 : List Int) {out : List Int} (hN : Nd rs gs gs.length out) {t : Nat} (ht : t < out.length) {q : Nat} (hq : out[t]? = some (q : Int)) (hql : q < gs.length) (hE : Eqv rs gs q) :
 ∀ (k i : Nat),i + k = rs.length → Zd8 v1 rs gs t i out (cutG gs q) = Zeh v1 rs gs ((t + 1 : Nat) : Int) out
 | 0,i,h => by
   have hN1 := hN.len
   have hg := V.gz.len
   have h1 : ¬ (i : Int) < (rs.length : Int) := by omega
   rw [Zlb]
   simp only [h1,decide_false,Bool.false_eq_true,if_false,wsucc (show t < 4611686018427387904 by omega)]
 | k + 1,i,h => by
   have hN1 := hN.len
   have hg := V.gz.len
   have hr := V.sz.len
   have h1 : (i : Int) < (rs.length : Int) := by omega
   have h2 : (t : Int) < (out.length : Int) := by omega
   have hi : i < rs.length := by omega
   obtain ⟨b,e,hb⟩ := Zl6 (V.sub (Z3s gs q)) (rN (rAt rs i)) (gO (gAt gs q)) (gA (gAt gs q))
   obtain ⟨b2,e2,hb2⟩ := Zl6 V (rN (rAt rs i)) (gO (gAt gs q)) (gA (gAt gs q))
   have e' : Zay rs (cutG gs q) (rAt rs i).1 (gAt gs q).2.1 (gAt gs q).2.2.1 = some b := e
   have e2' : Zay rs gs (rAt rs i).1 (gAt gs q).2.1 (gAt gs q).2.2.1 = some b2 := e2
   rw [Zlb]
   simp only [h1,h2,Int.natCast_nonneg,decide_true,if_true,Bool.and_self,Int.toNat_natCast,Zcm hi,hq,Zco hql,Option.bind_some,List.take_length,e',e2',wsucc (show i < 4611686018427387904 by omega),Z44 V v1 hN ht hq hql hE k (i + 1) (by omega)]
   cases b with
   | true => simp
   | false =>
     cases b2 with
     | false => simp
     | true =>
       exfalso
       obtain ⟨a,ha,h3,h4,hM⟩ := hb2.1 rfl
       have := hb.2 ⟨a,ha,h3,h4,hE a (Zel ha).1 _ _ h3 hM⟩
       cases this
theorem Z5g {rs : List T_Role.ty} {gs : List Zaa.ty} (V : Vd rs gs) (v1 : List Int) {out : List Int} (hN : Nd rs gs gs.length out) : ∀ (k t : Nat),t + k = out.length → Zeh v1 rs gs t out = Zeo v1
 | 0,t,h => by
   have h1 : ¬ (t : Int) < (out.length : Int) := by omega
   rw [Zll]
   simp only [h1,decide_false,Bool.false_eq_true,if_false]
 | k + 1,t,h => by
   have ht : t < out.length := by omega
   have h1 : (t : Int) < (out.length : Int) := by omega
   obtain ⟨q,hq,hql,hE⟩ := hN.el _ (List.getElem_mem ht)
   have hq' : out[t]? = some (q : Int) := by rw [List.getElem?_eq_getElem ht,hq]
   have h8 := Z44 V v1 hN ht hq' hql hE rs.length 0 (by omega)
   rw [show ((0 : Nat) : Int) = 0 from rfl] at h8
   rw [Zll]
   simp only [h1,Int.natCast_nonneg,decide_true,if_true,Bool.and_self,Int.toNat_natCast,hq',Zco hql,Option.bind_some,Z5z V hql,bne_self_eq_false,Bool.false_eq_true,if_false,h8]
   exact Z5g V v1 hN k (t + 1) (by omega)
def Has (rs : List T_Role.ty) (gs : List Zaa.ty) (n : List UInt8) (p : List UInt8 × Int) : Prop := ∃ a,fnd rs n = some a ∧ 1 ≤ p.2 ∧ May rs gs a p.1 p.2
theorem rwG_ok {rs : List T_Role.ty} {gs : List Zaa.ty} (V : Vd rs gs) (ps : List (List UInt8 × Int)) : ∀ (l : List T_Role.ty) (out : List (List UInt8)),(∀ r,r ∈ l → r ∈ rs) → ∃ ys,rwG Zbl Zac rs gs ps l out = some ys ∧ ys.length ≤ out.length + l.length ∧
 ∀ n,n ∈ ys ↔ n ∈ out ∨ ∃ r,r ∈ l ∧ rN r = n ∧ ∀ p,p ∈ ps → Has rs gs n p
 | [],out,_ => ⟨out,rfl,by simp,fun n => ⟨.inl,fun h => h.elim id fun ⟨_,h,_⟩ => (by cases h)⟩⟩
 | r :: l,out,hr => by
   obtain ⟨i,hi⟩ := List.mem_iff_getElem?.1 (hr r List.mem_cons_self)
   have hf := V.up.fnd hi
   obtain ⟨S,eS,nS,mS⟩ := Zmr V hf
   have hiff : (ps.all fun p => decide (p ∈ S)) = true ↔ ∀ p,p ∈ ps → Has rs gs (rN r) p := by
    rw [List.all_eq_true]
    constructor
    ·intro h p hp
     have := (mS p).1 (by simpa using h p hp)
     exact ⟨i,hf,this⟩
    ·intro h p hp
     obtain ⟨a,ha,h2⟩ := h p hp
     rw [hf] at ha; cases ha
     simpa using (mS p).2 h2
   have e : rwG Zbl Zac rs gs ps (r :: l) out = rwG Zbl Zac rs gs ps l (if (ps.all fun p => decide (p ∈ S)) = true then out ++ [rN r] else out) := by
    rw [rwG]
    show (rtF Zbl Zac rs gs (rN r)).bind _ = _
    rw [eS]; rfl
   rw [e]
   obtain ⟨ys,e1,h1,h2⟩ := rwG_ok V ps l (if (ps.all fun p => decide (p ∈ S)) = true then out ++ [rN r] else out) (fun x hx => hr x (List.mem_cons_of_mem _ hx))
   refine ⟨ys,e1,?_,fun n => ?_⟩
   ·rw [List.length_cons]
    by_cases c : (ps.all fun p => decide (p ∈ S)) = true
    ·rw [if_pos c] at h1; simp at h1; omega
    ·rw [if_neg c] at h1; omega
   ·rw [h2]
    by_cases c : (ps.all fun p => decide (p ∈ S)) = true
    ·rw [if_pos c,List.mem_append,List.mem_singleton]
     constructor
     ·rintro ((h | rfl) | ⟨x,hx,h3⟩)
      ·exact .inl h
      ·exact .inr ⟨r,List.mem_cons_self,rfl,hiff.1 c⟩
      ·exact .inr ⟨x,List.mem_cons_of_mem _ hx,h3⟩
     ·rintro (h | ⟨x,hx,h3,h4⟩)
      ·exact .inl (.inl h)
      ·rcases List.mem_cons.1 hx with rfl | hx
       ·exact .inl (.inr h3.symm)
       ·exact .inr ⟨x,hx,h3,h4⟩
    ·rw [if_neg c]
     constructor
     ·rintro (h | ⟨x,hx,h3⟩)
      ·exact .inl h
      ·exact .inr ⟨x,List.mem_cons_of_mem _ hx,h3⟩
     ·rintro (h | ⟨x,hx,h3,h4⟩)
      ·exact .inl h
      ·rcases List.mem_cons.1 hx with rfl | hx
       ·exact absurd (hiff.2 (by rw [h3]; exact h4)) c
       ·exact .inr ⟨x,hx,h3,h4⟩
theorem Z2p {rs : List T_Role.ty} {gs : List Zaa.ty} (V : Vd rs gs) (ps : List Zp5.ty) (hl : ps.length ≤ 1000) (hp : ∀ p,p ∈ ps → List.length (α := UInt8) p.1 ≤ 1048576 ∧ (-1000000 : Int) ≤ p.2.1 ∧ (p.2.1 : Int) ≤ 1000000) :
 ∃ ys,Zh3 rs gs ps = some ys ∧ ys.length ≤ 1000 ∧ ∀ n,n ∈ ys ↔ ∃ r,r ∈ rs ∧ rN r = n ∧ ∀ p,p ∈ ps → Has rs gs n (rightP p) := by
 obtain ⟨ys,e,h1,h2⟩ := rwG_ok V (ps.map rightP) rs [] (fun r hr => hr)
 have hr := V.sz.len
 refine ⟨ys,?_,by simp at h1; omega,fun n => ?_⟩
 ·have hc : (ps.all fun x => decide (x.1.length ≤ 1048576 ∧ -1000000 ≤ x.2.1 ∧ x.2.1 ≤ 1000000)) = true := by
   rw [List.all_eq_true]
   intro p hpm
   exact decide_eq_true (hp p hpm)
  rw [Zwd,rwF,if_pos ⟨hr,hl,hc⟩]
  exact e
 ·rw [h2]
  constructor
  ·rintro (h | ⟨r,hr,h3,h4⟩)
   ·cases h
   ·exact ⟨r,hr,h3,fun p hp => h4 _ (List.mem_map_of_mem hp)⟩
  ·rintro ⟨r,hr,h3,h4⟩
   refine .inr ⟨r,hr,h3,fun p hp => ?_⟩
   obtain ⟨p',hp',rfl⟩ := List.mem_map.1 hp
   exact h4 p' hp'
theorem Zaan {rs : List T_Role.ty} {gs : List Zaa.ty} (V : Vd rs gs) {a : Nat} {o : List UInt8} {act : Int} (h : May rs gs a o act) : act ≤ 3 := by
 obtain ⟨g,hg,_,_,h1⟩ := h
 have := (V.ok g hg).2.2.2
 omega
theorem Zwv {rs : List T_Role.ty} {gs : List Zaa.ty} (V : Vd rs gs) (nm o : List UInt8) (act : Int) : ∃ b,Zay rs gs nm o act = some b ∧ (b = true ↔ Has rs gs nm (o,act)) := by
 obtain ⟨b,e,hb⟩ := Zl6 V nm o act
 refine ⟨b,e,hb.trans ⟨fun ⟨a,h1,h2,_,h3⟩ => ⟨a,h1,h2,h3⟩,fun ⟨a,h1,h2,h3⟩ => ⟨a,h1,h2,Zaan V h3,h3⟩⟩⟩
theorem Z4w {rs : List T_Role.ty} {gs : List Zaa.ty} (V : Vd rs gs) (x y : Zaa.ty) {ys : List (List UInt8)} (hl : ys.length ≤ 1000) (hy : ∀ n,n ∈ ys ↔ ∃ r,r ∈ rs ∧ rN r = n ∧ Has rs gs n (gO x,gA x) ∧ Has rs gs n (gO y,gA y)) :
 ∀ (k i : Nat),i + k = rs.length → Zgd rs gs ys i x.1 x.2.1 x.2.2.1 y.1 y.2.1 y.2.2.1 = some true
 | 0,i,h => by
   have h1 : ¬ (i : Int) < (rs.length : Int) := by omega
   rw [Zli]; simp [h1]
 | k + 1,i,h => by
   have hr := V.sz.len
   have hi : i < rs.length := by omega
   have h1 : (i : Int) < (rs.length : Int) := by omega
   obtain ⟨b,e,hb⟩ := Zwv V (rN (rAt rs i)) (gO x) (gA x)
   obtain ⟨d,e2,hd⟩ := Zwv V (rN (rAt rs i)) (gO y) (gA y)
   have e' : Zay rs gs (rAt rs i).1 x.2.1 x.2.2.1 = some b := e
   have e2' : Zay rs gs (rAt rs i).1 y.2.1 y.2.2.1 = some d := e2
   have p6 : ∀ z : Bool,(z = true ↔ b = true ∧ d = true) → Zf0 rs gs ys i z x.1 x.2.1 x.2.2.1 y.1 y.2.1 y.2.2.1 = some true := fun z hz => by
    have hin : decide ((rAt rs i).1 ∈ ys) = z := by
     rw [Bool.eq_iff_iff,decide_eq_true_eq,hz,hb,hd]
     refine (hy _).trans ⟨fun ⟨r,_,_,h⟩ => h,fun h => ⟨rAt rs i,Zry hi,rfl,h⟩⟩
    rw [Zuc]
    simp only [Int.natCast_nonneg,decide_true,if_true,Int.toNat_natCast,Zcm hi,Option.bind_some,Z6s (show ys.length ≤ 1048576 by omega),hin,beq_self_eq_true,Bool.not_true,Bool.false_eq_true,if_false,wsucc (show i < 4611686018427387904 by omega)]
    exact Z4w V x y hl hy k (i + 1) (by omega)
   rw [Zli]
   simp only [h1,Int.natCast_nonneg,decide_true,if_true,Int.toNat_natCast,Zcm hi,Option.bind_some,e',e2']
   cases b with
   | false => simp only [Bool.false_eq_true,if_false]; exact p6 false (by simp)
   | true => simp only [if_true]; exact p6 d (by simp)
theorem p2_ok (v1 : List Int) (h1 : ∀ x,x ∈ v1 → 0 ≤ x ∧ x ≤ 255) (h2 : v1.length ≤ 1048576) : Zeo v1 = some true := by
 obtain ⟨rs,gs,x,y,e,hz,hl,hg,hx,hy⟩ := Z6g v1 h1 h2
 have hgz := hg.gz (by omega)
 have em : Zf3 rs gs x y = (some (vG rs gs)).bind fun x1 => if (!x1) = true then some ([],1) else (Zh3 rs gs [(x.2.1,x.2.2.1,()),(y.2.1,y.2.2.1,())]).bind fun x2 => some (x2,0) := by
  rw [Zt0,(Zhl hz hgz).2]
 rw [Option.bind_some] at em
 rw [Ztz]
 simp only [e,Option.bind_some,List.take_length]
 have em' : Zf3 rs gs (x.1,x.2.1,x.2.2.1,()) (y.1,y.2.1,y.2.2.1,()) = _ := em
 rw [em']
 cases hv : vG rs gs with
 | false => rfl
 | true =>
   have V := vd_of hz hgz hv
   simp only [Bool.not_true,Bool.false_eq_true,if_false]
   obtain ⟨ys,e2,h3,h4⟩ := Z2p V [(x.2.1,x.2.2.1,()),(y.2.1,y.2.2.1,())] (by simp) (fun p hp => by
    have : p = (gO x,gA x,()) ∨ p = (gO y,gA y,()) := by simp only [List.mem_cons,List.not_mem_nil,or_false] at hp; exact hp
    obtain ⟨a1,a2,a3⟩ := hx
    obtain ⟨b1,b2,b3⟩ := hy
    rcases this with rfl | rfl
    ·refine ⟨by show (gO x).length ≤ _; omega,by show (-1000000 : Int) ≤ gA x; omega,by show gA x ≤ 1000000; omega⟩
    ·refine ⟨by show (gO y).length ≤ _; omega,by show (-1000000 : Int) ≤ gA y; omega,by show gA y ≤ 1000000; omega⟩)
   rw [e2]
   simp only [Option.bind_some,bne_self_eq_false,Bool.false_eq_true,if_false]
   refine Z4w V x y h3 (fun n => (h4 n).trans ?_) rs.length 0 (by omega)
   constructor
   ·rintro ⟨r,hr,hn,h5⟩
    exact ⟨r,hr,hn,h5 _ List.mem_cons_self,h5 _ (List.mem_cons_of_mem _ List.mem_cons_self)⟩
   ·rintro ⟨r,hr,hn,h5,h6⟩
    refine ⟨r,hr,hn,fun p hp => ?_⟩
    have : p = (gO x,gA x,()) ∨ p = (gO y,gA y,()) := by simp only [List.mem_cons,List.not_mem_nil,or_false] at hp; exact hp
    rcases this with rfl | rfl
    ·exact h5
    ·exact h6
theorem Z5b (v1 : List Int) (rs : List T_Role.ty) {gs next : List Zaa.ty} (hl : gs.length ≤ 1000) : ∀ (k i : Nat),i + k = gs.length → Zd7 v1 rs gs next gs i = Zd7 v1 rs gs next gs gs.length
 | 0,i,h => by rw [show i = gs.length by omega]
 | k + 1,i,h => by
   have h1 : (i : Int) < (gs.length : Int) := by omega
   rw [Zlk]
   simp only [h1,Int.natCast_nonneg,decide_true,if_true,Int.toNat_natCast,Zco (show i < gs.length by omega),Option.bind_some,beq_self_eq_true,Bool.and_self,Bool.not_true,Bool.false_eq_true,if_false,wsucc (show i < 4611686018427387904 by omega)]
   exact Z5b v1 rs hl k (i + 1) (by omega)
theorem Z0d {l : List Int} (h : l.length ≤ 1048576) : Zhe l = some false := by
 rw [Zq3]
 have : ¬ ((l.length : Int) > 1048576) := by omega
 simp [this]
theorem Z4t {l : List Int} (h : ¬ l.length ≤ 1048576) : Zhe l = some true := by
 rw [Zq3]
 have : (l.length : Int) > 1048576 := by omega
 simp [this]
theorem laws_FnDuties_true (a0 a1 : List Int) (h0 : ET.wf (.one (.sl (.one (.int .u8)))) a0) (h1 : ET.wf (.one (.sl (.one (.int .u8)))) a1) : Ztv a0 a1 = some true := by
 have b0 := Z2q h0
 have b1 := Z2q h1
 rw [Zxv]
 by_cases l0 : a0.length ≤ 1048576
 rotate_left
 ·rw [Z4t l0]; rfl
 by_cases l1 : a1.length ≤ 1048576
 rotate_left
 ·rw [Z0d l0,Z4t l1]; rfl
 rw [Z0d l0,Z0d l1]
 simp only [Option.bind_some,Bool.false_eq_true,if_false]
 have hp2 := p2_ok a1 b1 l1
 obtain ⟨rs,gs,x,e,hz,hl,hg,hx⟩ := Z8v a0 b0 l0
 obtain ⟨next,c,e2,hc⟩ := Z9x hz hg hx
 have e2' : Zi2 rs gs (x.1,x.2.1,x.2.2.1,()) = some (next,c) := e2
 rw [Zud]
 simp only [e,Option.bind_some,List.take_length,e2']
 by_cases h0 : c = 0
 ·obtain ⟨j,hj,rfl,V,W,hgc⟩ := hc h0
  rw [if_pos (by simpa using h0)]
  have hlen := Zxi (gs := gs) (x := x) hj
  have hat := Zaao (gs := gs) (x := x) hj
  have hgl := V.gz.len
  have er : Zgb rs (putG gs j x) (x.1,x.2.1,x.2.2.1,()) = some (gs,0) := by
   have := Z50 W (q := j) (by omega)
   rw [hat,Z73 hj] at this
   exact this
  have ev : Zjb rs (putG gs j x) = some true := by
   rw [Ztw,(Zhl W.sz W.gz).1,W.v]; rfl
  obtain ⟨b,ea,hb⟩ := Zl6 W (gR x) (gO x) (gA x)
  have hbt : b = true := by
   refine hb.2 ?_
   have hg2 := hgc
   simp only [gc,Bool.and_eq_true,decide_eq_true_eq] at hg2
   obtain ⟨a,ha⟩ := Option.isSome_iff_exists.1 hg2.1
   refine ⟨a,ha,hg2.2.2.1,hg2.2.2.2,x,?_,⟨a,ha,.inl rfl⟩,rfl,Int.le_refl _⟩
   have hm := Ze0 (gs := putG gs j x) (i := j) (by omega)
   rw [hat] at hm
   exact hm
  subst hbt
  have ea' : Zay rs (putG gs j x) x.1 x.2.1 x.2.2.1 = some true := ea
  have hw : IntKind.i64.wrap ((gs.length : Int) + 1) = ((putG gs j x).length : Int) := by rw [wsucc (show gs.length < 4611686018427387904 by omega),hlen]
  simp only [er,ev,ea',Option.bind_some,Bool.not_true,Bool.false_eq_true,if_false,hw,bne_self_eq_false]
  obtain ⟨out,en,hN⟩ := Z36 W
  have hW := W.gz.len
  have hNl := hN.len
  have e3 := Z5b a1 rs (next := putG gs j x) hgl gs.length 0 (by omega)
  rw [show ((0 : Nat) : Int) = 0 from rfl] at e3
  have h1 : ¬ (gs.length : Int) < (gs.length : Int) := by omega
  have er2 : Zni out (putG gs j x).length = some true := by
   rw [Zxp]
   have hol : out.length ≤ 1000 := Nat.le_trans hNl hW
   exact Zy9 (l := out) (n := (putG gs j x).length) hol (fun z hz => by obtain ⟨q,h1,h2,_⟩ := hN.el z hz; exact ⟨q,h1,h2⟩) hN.up out.length 0 (Nat.zero_add _)
  have e7 := Z5g W a1 hN out.length 0 (Nat.zero_add _)
  rw [show ((0 : Nat) : Int) = 0 from rfl] at e7
  rw [Zue,e3,Zlk]
  simp only [h1,decide_false,Bool.false_eq_true,if_false,en,Option.bind_some,bne_self_eq_false,List.take_length,er2,Bool.not_true,Zt7,e7,hp2]
 ·rw [if_neg (by simpa using h0)]; exact hp2
end Go.Ab.P
