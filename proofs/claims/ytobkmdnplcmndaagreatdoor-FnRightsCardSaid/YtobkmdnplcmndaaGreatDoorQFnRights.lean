/- Rights: a role has all rights of the roles under it, rights to change include those to read, and those who may are told. Conditions: bytes are bytes. -/
import Derived.Test.YtobkmdnplcmndaaGreatDoorBFnRights
set_option linter.unusedVariables false
set_option linter.unusedSectionVars false
set_option linter.unusedSimpArgs false
set_option maxRecDepth 4000
namespace Go.Ab.P
open Go.Ab
def rN (r : T_Role.ty) : List UInt8 := r.1
def rU (r : T_Role.ty) : List (List UInt8) := r.2.1
def gR (g : Zaa.ty) : List UInt8 := g.1
def gO (g : Zaa.ty) : List UInt8 := g.2.1
def gA (g : Zaa.ty) : Int := g.2.2.1
theorem g_eta (g : Zaa.ty) : g = (gR g,gO g,gA g,()) := rfl
def fz (rs : List T_Role.ty) (n : List UInt8) : Nat → Nat → Option Nat
 | 0,_ => none
 | k + 1,i => match rs[i]? with
   | some r => if rN r = n then some i else fz rs n k (i + 1)
   | none => none
def fnd (rs : List T_Role.ty) (n : List UInt8) : Option Nat := fz rs n rs.length 0
def pos : Option Nat → Int
 | some j => (j : Int)
 | none => -1
theorem pos_ge (o : Option Nat) : (0 ≤ pos o ↔ o.isSome = true) ∧ (pos o < 0 ↔ o.isSome = false) := by
 cases o with
 | none => simp [pos]
 | some j => simp [pos]
theorem Zy7 (rs : List T_Role.ty) (n : List UInt8) (hl : rs.length ≤ 1048576) : ∀ (k i : Nat),i + k = rs.length → Ze6 rs n i = some (pos (fz rs n k i)) ∧ Zag rs n rs.length i = some (pos (fz rs n k i))
 | 0,i,h => by
   have h1 : ¬ (i : Int) < (rs.length : Int) := by omega
   rw [Zkd,Zat]
   simp [h1,fz,pos]
 | k + 1,i,h => by
   have hi : i < rs.length := by omega
   have h1 : (i : Int) < (rs.length : Int) := by omega
   obtain ⟨ih1,ih2⟩ := Zy7 rs n hl k (i + 1) (by omega)
   rw [Zkd,Zat]
   simp only [h1,decide_true,if_true,Int.natCast_nonneg,Int.toNat_natCast,List.getElem?_eq_getElem hi,Option.bind_some,wsucc (show i < 4611686018427387904 by omega),ih1,ih2,Zvb,fz,rN,beq_iff_eq]
   by_cases c : rs[i].1 = n <;> simp [c,pos]
theorem Zfx {rs : List T_Role.ty} (hl : rs.length ≤ 1048576) (n : List UInt8) : Zd6 rs n = some (pos (fnd rs n)) ∧ Zbl rs n = some (pos (fnd rs n)) := by
 have h := Zy7 rs n hl rs.length 0 (by omega)
 rw [Zv7,Zx8,Zca]
 refine ⟨h.1,?_⟩
 rw [show (0 : Int) = ((0 : Nat) : Int) from rfl,h.2]; rfl
theorem Z22 {rs : List T_Role.ty} {n : List UInt8} : ∀ {k i j : Nat},fz rs n k i = some j → i ≤ j ∧ ∃ r,rs[j]? = some r ∧ rN r = n
 | 0,_,_,h => by cases h
 | k + 1,i,j,h => by
   rw [fz] at h
   split at h
   ·rename_i r hr
    split at h
    ·rename_i e
     cases h; exact ⟨Nat.le_refl _,r,hr,e⟩
    ·obtain ⟨a,b⟩ := Z22 h; exact ⟨by omega,b⟩
   ·cases h
theorem Z3e {rs : List T_Role.ty} {n : List UInt8} : ∀ {k i : Nat},i + k = rs.length → fz rs n k i = none → ∀ j r,i ≤ j → rs[j]? = some r → rN r ≠ n
 | 0,i,h,_,j,r,hj,hr => by rw [List.getElem?_eq_none (by omega)] at hr; cases hr
 | k + 1,i,h,hf,j,r,hj,hr => by
   rw [fz,List.getElem?_eq_getElem (show i < rs.length by omega)] at hf
   simp only at hf
   split at hf
   ·cases hf
   ·rename_i e
    rcases Nat.eq_or_lt_of_le hj with rfl | hj
    ·rw [List.getElem?_eq_getElem (show i < rs.length by omega)] at hr
     cases hr; exact e
    ·exact Z3e (by omega) hf j r hj hr
theorem Zeg {rs : List T_Role.ty} {n : List UInt8} {j : Nat} (h : fnd rs n = some j) : j < rs.length ∧ ∃ r,rs[j]? = some r ∧ rN r = n := by
 obtain ⟨_,r,hr,e⟩ := Z22 h
 refine ⟨?_,r,hr,e⟩
 rcases Nat.lt_or_ge j rs.length with h | h
 ·exact h
 ·rw [List.getElem?_eq_none h] at hr; cases hr
theorem Z65 {rs : List T_Role.ty} {n : List UInt8} (h : fnd rs n = none) {r : T_Role.ty} (hr : r ∈ rs) : rN r ≠ n := by
 obtain ⟨j,hj⟩ := List.mem_iff_getElem?.1 hr
 exact Z3e (by omega) h j r (Nat.zero_le _) hj
def Ups (rs : List T_Role.ty) : Prop := rs.Pairwise fun a b => rN a < rN b
theorem Ups.one {rs : List T_Role.ty} (h : Ups rs) {i j : Nat} {a b : T_Role.ty} (ha : rs[i]? = some a) (hb : rs[j]? = some b) (e : rN a = rN b) : i = j := by
 have hi : i < rs.length := (List.getElem?_eq_some_iff.1 ha).1
 have hj : j < rs.length := (List.getElem?_eq_some_iff.1 hb).1
 have ha' : rs[i] = a := (List.getElem?_eq_some_iff.1 ha).2
 have hb' : rs[j] = b := (List.getElem?_eq_some_iff.1 hb).2
 rcases Nat.lt_trichotomy i j with c | c | c
 ·have := (List.pairwise_iff_getElem.1 h) i j hi hj c
  rw [ha',hb',e] at this; exact absurd this (List.lt_irrefl _)
 ·exact c
 ·have := (List.pairwise_iff_getElem.1 h) j i hj hi c
  rw [ha',hb',e] at this; exact absurd this (List.lt_irrefl _)
theorem Ups.fnd {rs : List T_Role.ty} (h : Ups rs) {j : Nat} {r : T_Role.ty} (hr : rs[j]? = some r) : fnd rs (rN r) = some j := by
 cases hf : P.fnd rs (rN r) with
 | none => exact absurd rfl (Z65 hf (List.mem_of_getElem? hr))
 | some i =>
   obtain ⟨_,q,hq,e⟩ := Zeg hf
   rw [h.one hq hr e]
def Ed (rs : List T_Role.ty) (i j : Nat) : Prop := ∃ r,rs[i]? = some r ∧ ∃ u,u ∈ rU r ∧ fnd rs u = some j
inductive Rch (rs : List T_Role.ty) (a : Nat) : Nat → Prop
 | one {j : Nat} : Ed rs a j → Rch rs a j
 | more {i j : Nat} : Rch rs a i → Ed rs i j → Rch rs a j
def Clo (rs : List T_Role.ty) : Prop := ∀ r,r ∈ rs → (rU r).length ≤ 1048576 ∧ ∀ u,u ∈ rU r → ∃ j,fnd rs u = some j
def set1 (rs : List T_Role.ty) (o : List Bool) (u : List UInt8) : List Bool := match fnd rs u with
 | some j => o.set j true
 | none => o
def rowS (rs : List T_Role.ty) (o : List Bool) (us : List (List UInt8)) : List Bool := us.foldl (set1 rs) o
theorem Z61 {o : List Bool} {i j : Nat} (h : o[i]? = some true) : (o.set j true)[i]? = some true := by
 rw [List.getElem?_set]
 by_cases c : j = i
 ·subst c
  rw [if_pos rfl,if_pos (List.getElem?_eq_some_iff.1 h).1]
 ·rw [if_neg c]; exact h
theorem Z1e (rs : List T_Role.ty) (o : List Bool) (u : List UInt8) : (set1 rs o u).length = o.length := by
 unfold set1; split <;> simp
theorem Zzo {rs : List T_Role.ty} {o : List Bool} {u : List UInt8} {i : Nat} (h : o[i]? = some true) : (set1 rs o u)[i]? = some true := by
 unfold set1; split
 ·exact Z61 h
 ·exact h
theorem Z3g : ∀ (o : List Bool) (j : Nat),o.set j true = o ∨ o.count true < (o.set j true).count true
 | [],j => .inl (by simp)
 | b :: o,0 => by cases b <;> simp
 | b :: o,j + 1 => by
   rcases Z3g o j with h | h
   ·left; rw [List.set_cons_succ,h]
   ·right; rw [List.set_cons_succ,List.count_cons,List.count_cons]; omega
theorem Zxl {rs : List T_Role.ty} : ∀ (us : List (List UInt8)) (o : List Bool),o.length = rs.length → (rowS rs o us).length = rs.length ∧ (∀ j : Nat,o[j]? = some true → (rowS rs o us)[j]? = some true) ∧ (∀ u,u ∈ us → ∀ j,fnd rs u = some j → (rowS rs o us)[j]? = some true) ∧
 (∀ j : Nat,(rowS rs o us)[j]? = some true → o[j]? = some true ∨ ∃ u,u ∈ us ∧ fnd rs u = some j) ∧ (rowS rs o us = o ∨ o.count true < (rowS rs o us).count true)
 | [],o,h => ⟨h,fun _ h => h,fun u hu => (by cases hu),fun j h => .inl h,.inl rfl⟩
 | u :: us,o,h => by
   obtain ⟨a1,a2,a3,a4,a5⟩ := Zxl us (set1 rs o u) (by rw [Z1e]; exact h)
   have e : rowS rs o (u :: us) = rowS rs (set1 rs o u) us := rfl
   rw [e]
   refine ⟨a1,fun j hj => a2 j (Zzo hj),fun v hv j hj => ?_,fun j hj => ?_,?_⟩
   ·rcases List.mem_cons.1 hv with rfl | hv
    ·refine a2 j ?_
     have hjl := (Zeg hj).1
     simp only [set1,hj]
     rw [List.getElem?_set,if_pos rfl,if_pos (by omega)]
    ·exact a3 v hv j hj
   ·rcases a4 j hj with h4 | ⟨v,hv,hf⟩
    ·cases hf : fnd rs u with
     | none => simp only [set1,hf] at h4; exact .inl h4
     | some i =>
       simp only [set1,hf] at h4
       rw [List.getElem?_set] at h4
       by_cases c : i = j
       ·subst c; exact .inr ⟨u,List.mem_cons_self,hf⟩
       ·rw [if_neg c] at h4; exact .inl h4
    ·exact .inr ⟨v,List.mem_cons_of_mem _ hv,hf⟩
   ·have hs : set1 rs o u = o ∨ o.count true < (set1 rs o u).count true := by
     unfold set1; split
     ·exact Z3g _ _
     ·exact .inl rfl
    rcases hs with hs | hs
    ·rw [hs] at a5 ⊢; exact a5
    ·rcases a5 with h5 | h5
     ·rw [h5]; exact .inr hs
     ·exact .inr (by omega)
theorem Z1t {rs : List T_Role.ty} (hl : rs.length ≤ 1048576) (hC : Clo rs) (a t i : Nat) {r : T_Role.ty} (hr : rs[i]? = some r) : ∀ (m k : Nat) (o : List Bool),k + m = (rU r).length → o.length = rs.length →
 Zcx rs a rs.length t i k o = Zb6 rs a rs.length t ((i + 1 : Nat) : Int) (if i = a ∨ o[i]? = some true then rowS rs o ((rU r).drop k) else o)
 | 0,k,o,h,ho => by
   have h1 : ¬ (k : Int) < ((rU r).length : Int) := by omega
   have hi : i < rs.length := (List.getElem?_eq_some_iff.1 hr).1
   rw [Zi4,List.drop_eq_nil_of_le (by omega)]
   have h1' : ¬ (k : Int) < (r.2.1.length : Int) := h1
   simp only [Int.natCast_nonneg,decide_true,if_true,Int.toNat_natCast,hr,Option.bind_some,h1',decide_false,Bool.false_eq_true,if_false,wsucc (show i < 4611686018427387904 by omega)]
   congr 1
   split <;> rfl
 | m + 1,k,o,h,ho => by
   have hk : k < (rU r).length := by omega
   have h1 : (k : Int) < (r.2.1.length : Int) := by show (k : Int) < ((rU r).length : Int); omega
   have hi : i < rs.length := (List.getElem?_eq_some_iff.1 hr).1
   have hi2 : (i : Int) < (rs.length : Int) := by omega
   obtain ⟨hul,hcl⟩ := hC r (List.mem_of_getElem? hr)
   obtain ⟨j,hj⟩ := hcl _ (List.getElem_mem hk)
   have hjl := (Zeg hj).1
   have hjl2 : (j : Int) < (rs.length : Int) := by omega
   have hp3 : Zel rs a rs.length t i k o = Zcx rs a rs.length t i ((k + 1 : Nat) : Int) (set1 rs o (rU r)[k]) := by
    rw [Zr3]
    have hu : r.2.1[k]? = some (rU r)[k] := List.getElem?_eq_getElem hk
    simp only [Int.natCast_nonneg,decide_true,if_true,Int.toNat_natCast,hr,Option.bind_some,hu,(Zfx hl _).1,hj,pos,hjl2,Bool.and_self,List.getElem?_eq_getElem (show j < o.length by omega),wsucc (show k < 4611686018427387904 by omega),set1]
   have ih := Z1t hl hC a t i hr m (k + 1) (set1 rs o (rU r)[k]) (by omega) (by rw [Z1e]; exact ho)
   have hd : rowS rs o ((rU r).drop k) = rowS rs (set1 rs o (rU r)[k]) ((rU r).drop (k + 1)) := by
    rw [List.drop_eq_getElem_cons hk]; rfl
   rw [Zi4]
   simp only [Int.natCast_nonneg,decide_true,if_true,Int.toNat_natCast,hr,Option.bind_some,h1,hi2,Bool.and_self,List.getElem?_eq_getElem (show i < o.length by omega),hp3,ih]
   by_cases c : i = a
   ·have c1 : ((i : Int) == (a : Int)) = true := by simp [c]
    have c2 : (i = a ∨ (set1 rs o (rU r)[k])[i]? = some true) := .inl c
    have c3 : (i = a ∨ some o[i] = some true) := .inl c
    rw [if_pos c1,if_pos c2,if_pos c3,hd]
   ·have c1 : ¬ ((i : Int) == (a : Int)) = true := by simp; omega
    rw [if_neg c1]
    cases hb : o[i]'(by omega) with
    | true =>
      have ho2 : o[i]? = some true := by rw [List.getElem?_eq_getElem (show i < o.length by omega),hb]
      have c2 : (i = a ∨ (set1 rs o (rU r)[k])[i]? = some true) := .inr (Zzo ho2)
      rw [if_pos rfl,if_pos c2,if_pos (.inr rfl),hd]
    | false =>
      rw [if_neg (by simp),if_neg (by simp [c]),wsucc (show i < 4611686018427387904 by omega)]
def Cl (rs : List T_Role.ty) (a : Nat) (o : List Bool) (i : Nat) : Prop := ∀ i',i' < i → (i' = a ∨ o[i']? = some true) → ∀ r,rs[i']? = some r → ∀ u,u ∈ rU r → ∀ j,fnd rs u = some j → o[j]? = some true
def Snd (rs : List T_Role.ty) (a : Nat) (o : List Bool) : Prop := o.length = rs.length ∧ ∀ j : Nat,o[j]? = some true → Rch rs a j
theorem Z7e {rs : List T_Role.ty} {a i : Nat} {o : List Bool} (ho : o.length = rs.length) (h : Cl rs a o rs.length) (hi : i < rs.length) (c : i = a ∨ o[i]? = some true) {r : T_Role.ty} (hr : rs[i]? = some r) : rowS rs o (rU r) = o := by
 obtain ⟨a1,a2,a3,a4,a5⟩ := Zxl (rU r) o ho
 apply List.ext_getElem?
 intro j
 rcases Nat.lt_or_ge j rs.length with hjl | hjl
 ·have e1 := List.getElem?_eq_getElem (l := rowS rs o (rU r)) (i := j) (by omega)
  have e2 := List.getElem?_eq_getElem (l := o) (i := j) (by omega)
  cases h1 : (rowS rs o (rU r))[j]'(by omega) with
  | true =>
    rw [h1] at e1
    rcases a4 j e1 with h4 | ⟨u,hu,hf⟩
    ·rw [e1,h4]
    ·rw [e1,h i hi c _ hr u hu j hf]
  | false =>
    cases h2 : o[j]'(by omega) with
    | true =>
      rw [h2] at e2
      rw [a2 j e2] at e1
      rw [h1] at e1; cases e1
    | false => rw [e1,e2,h1,h2]
 ·rw [List.getElem?_eq_none (by omega),List.getElem?_eq_none (by omega)]
theorem Zv4 {rs : List T_Role.ty} (hl : rs.length ≤ 1048576) (hC : Clo rs) (a t : Nat) : ∀ (m i : Nat) (o : List Bool),i + m = rs.length → t < rs.length → Snd rs a o → (Cl rs a o rs.length ∨ t + 1 ≤ o.count true ∨ t ≤ o.count true ∧ Cl rs a o i) →
 ∃ o',Zb6 rs a rs.length t i o = Zc2 rs a rs.length ((t + 1 : Nat) : Int) o' ∧ Snd rs a o' ∧ (Cl rs a o' rs.length ∨ t + 1 ≤ o'.count true)
 | 0,i,o,h,ht,hs,hc => by
   have h1 : ¬ (i : Int) < (rs.length : Int) := by omega
   rw [Zja]
   simp only [h1,decide_false,Bool.false_eq_true,if_false,wsucc (show t < 4611686018427387904 by omega)]
   refine ⟨o,rfl,hs,?_⟩
   rcases hc with h | h | ⟨_,h⟩
   ·exact .inl h
   ·exact .inr h
   ·rw [show i = rs.length by omega] at h; exact .inl h
 | m + 1,i,o,h,ht,hs,hc => by
   have hi : i < rs.length := by omega
   have h1 : (i : Int) < (rs.length : Int) := by omega
   have hr : rs[i]? = some rs[i] := List.getElem?_eq_getElem hi
   rw [Zja]
   simp only [h1,decide_true,if_true]
   have hp := Z1t hl hC a t i hr (rU rs[i]).length 0 o (by omega) hs.1
   rw [show ((0 : Nat) : Int) = 0 from rfl,List.drop_zero] at hp
   rw [hp]
   obtain ⟨a1,a2,a3,a4,a5⟩ := Zxl (rU rs[i]) o hs.1
   by_cases c : i = a ∨ o[i]? = some true
   ·rw [if_pos c]
    have hs' : Snd rs a (rowS rs o (rU rs[i])) := ⟨a1,fun j hj => by
     rcases a4 j hj with h4 | ⟨u,hu,hf⟩
     ·exact hs.2 j h4
     ·rcases c with rfl | c
      ·exact .one ⟨_,hr,u,hu,hf⟩
      ·exact .more (hs.2 i c) ⟨_,hr,u,hu,hf⟩⟩
    refine Zv4 hl hC a t m (i + 1) _ (by omega) ht hs' ?_
    rcases a5 with a5 | a5
    ·rw [a5] at a3 ⊢
     rcases hc with h | h | ⟨h,h'⟩
     ·exact .inl h
     ·exact .inr (.inl h)
     ·refine .inr (.inr ⟨h,fun i' hi' hci r' hr' u hu j hj => ?_⟩)
      rcases Nat.lt_or_ge i' i with hlt | hge
      ·exact h' i' hlt hci r' hr' u hu j hj
      ·obtain rfl : i' = i := by omega
       rw [hr] at hr'; cases hr'
       exact a3 u hu j hj
    ·rcases hc with h | h | ⟨h,h'⟩
     ·rw [Z7e hs.1 h hi c hr] at a5; exact absurd a5 (Nat.lt_irrefl _)
     ·exact .inr (.inl (by omega))
     ·exact .inr (.inl (by omega))
   ·rw [if_neg c]
    refine Zv4 hl hC a t m (i + 1) o (by omega) ht hs ?_
    rcases hc with h | h | ⟨h,h'⟩
    ·exact .inl h
    ·exact .inr (.inl h)
    ·refine .inr (.inr ⟨h,fun i' hi' hci r' hr' u hu j hj => ?_⟩)
     rcases Nat.lt_or_ge i' i with hlt | hge
     ·exact h' i' hlt hci r' hr' u hu j hj
     ·obtain rfl : i' = i := by omega
      exact absurd hci c
theorem Zze : ∀ (o : List Bool),o.length ≤ o.count true → ∀ j,j < o.length → o[j]? = some true
 | [],_,j,hj => absurd hj (Nat.not_lt_zero _)
 | b :: o,h,j,hj => by
   have hle : o.count true ≤ o.length := List.count_le_length
   rw [List.length_cons,List.count_cons] at h
   cases b with
   | false => simp at h; omega
   | true =>
     cases j with
     | zero => rfl
     | succ j =>
       rw [List.getElem?_cons_succ]
       exact Zze o (by simpa using h) j (by simpa using hj)
theorem Z1v {rs : List T_Role.ty} (hl : rs.length ≤ 1048576) (hC : Clo rs) (a : Nat) : ∀ (m t : Nat) (o : List Bool),t + m = rs.length → Snd rs a o → (Cl rs a o rs.length ∨ t ≤ o.count true) →
 ∃ o',Zc2 rs a rs.length t o = some o' ∧ Snd rs a o' ∧ Cl rs a o' rs.length
 | 0,t,o,h,hs,hc => by
   have h1 : ¬ (t : Int) < (rs.length : Int) := by omega
   rw [Zi9]
   simp only [h1,decide_false,Bool.false_eq_true,if_false]
   refine ⟨o,by rw [← hs.1,List.take_length],hs,?_⟩
   rcases hc with hc | hc
   ·exact hc
   ·intro i' hi' _ r' hr' u hu j hj
    have := hs.1
    exact Zze o (by omega) j (by have := (Zeg hj).1; omega)
 | m + 1,t,o,h,hs,hc => by
   have h1 : (t : Int) < (rs.length : Int) := by omega
   rw [Zi9]
   simp only [h1,decide_true,if_true]
   obtain ⟨o1,e,hs1,hc1⟩ := Zv4 hl hC a t rs.length 0 o (by omega) (by omega) hs (hc.imp id fun h => .inr ⟨h,fun i' hi' => absurd hi' (Nat.not_lt_zero _)⟩)
   rw [show ((0 : Nat) : Int) = 0 from rfl] at e
   rw [e]
   exact Z1v hl hC a m (t + 1) o1 (by omega) hs1 hc1
theorem Z5w {rs : List T_Role.ty} (hl : rs.length ≤ 1048576) (hC : Clo rs) {a : Nat} (ha : a < rs.length) : ∃ o,Zlf rs a = some o ∧ o.length = rs.length ∧ ∀ j : Nat,o[j]? = some true ↔ Rch rs a j := by
 have hlim : rs.length < lim := by unfold lim; omega
 have h0 : Snd rs a (List.replicate rs.length false) := ⟨List.length_replicate,fun j hj => by
  obtain ⟨hlt,e⟩ := List.getElem?_eq_some_iff.1 hj
  rw [List.getElem_replicate] at e; cases e⟩
 obtain ⟨o,e,hs,hc⟩ := Z1v hl hC a rs.length 0 _ (by omega) h0 (.inr (Nat.zero_le _))
 refine ⟨o,?_,hs.1,fun j => ⟨hs.2 j,fun hj => ?_⟩⟩
 ·rw [Zvs]
  rw [show ((0 : Nat) : Int) = 0 from rfl] at e
  simp only [Int.natCast_nonneg,decide_true,Int.le_refl,Bool.and_self,Int.toNat_natCast,hlim,if_true,List.length_replicate]
  exact e
 ·induction hj with
  | one h =>
    obtain ⟨r,hr,u,hu,hf⟩ := h
    exact hc a ha (.inl rfl) r hr u hu _ hf
  | more h1 h2 ih =>
    obtain ⟨r,hr,u,hu,hf⟩ := h2
    exact hc _ (List.getElem?_eq_some_iff.1 hr).1 (.inr ih) r hr u hu _ hf
theorem Zwn {l : List (List UInt8)} (hl : l.length ≤ 1048576) (a : List UInt8) : ∀ (n i : Nat),i + n = l.length → ∃ z : Int,Zba l a l.length i = some z ∧ (0 ≤ z ↔ a ∈ l.drop i)
 | 0,i,h => by
   have h1 : ¬ (i : Int) < (l.length : Int) := by omega
   rw [Zci]
   simp only [h1,decide_false,Bool.false_eq_true,if_false]
   refine ⟨-1,rfl,?_⟩
   rw [List.drop_eq_nil_of_le (by omega)]; simp
 | n + 1,i,h => by
   have hi : i < l.length := by omega
   have h1 : (i : Int) < (l.length : Int) := by omega
   rw [Zci]
   simp only [h1,decide_true,if_true,Int.natCast_nonneg,Int.toNat_natCast,List.getElem?_eq_getElem hi,Option.bind_some,wsucc (show i < 4611686018427387904 by omega)]
   rw [List.drop_eq_getElem_cons hi]
   by_cases c : a = l[i]
   ·rw [if_pos (by simpa using c)]
    exact ⟨i,rfl,by rw [List.mem_cons]; exact ⟨fun _ => .inl c,fun _ => by omega⟩⟩
   ·rw [if_neg (by simpa using c)]
    obtain ⟨z,e,hz⟩ := Zwn hl a n (i + 1) (by omega)
    exact ⟨z,e,by rw [hz,List.mem_cons]; exact ⟨.inr,fun h => h.resolve_left c⟩⟩
theorem Zj6 {l : List (List UInt8)} (hl : l.length ≤ 1048576) (a : List UInt8) : Zab l a = some (decide (a ∈ l)) := by
 obtain ⟨z,e,hz⟩ := Zwn hl a l.length 0 (by omega)
 have e0 : Zb2 l a = some z := by rw [Zhk]; exact e
 rw [List.drop_zero] at hz
 rw [Zf9,e0,Option.bind_some]
 congr 1
 rw [decide_eq_decide]; exact hz
theorem Zun {l : List (List UInt8)} (hl : l.length ≤ 1048576) (a : List UInt8) : ∀ (n i : Nat),i + n = l.length → Zd5 l a i = some (decide (a ∈ l.drop i))
 | 0,i,h => by
   have h1 : ¬ (i : Int) < (l.length : Int) := by omega
   rw [Zh5,List.drop_eq_nil_of_le (by omega)]
   simp [h1]
 | n + 1,i,h => by
   have hi : i < l.length := by omega
   have h1 : (i : Int) < (l.length : Int) := by omega
   rw [Zh5,List.drop_eq_getElem_cons hi]
   simp only [h1,decide_true,if_true,Int.natCast_nonneg,Int.toNat_natCast,List.getElem?_eq_getElem hi,Option.bind_some,wsucc (show i < 4611686018427387904 by omega),Zun hl a n (i + 1) (by omega)]
   by_cases c : l[i] = a
   ·rw [if_pos (by simpa using c)]; simp [c]
   ·rw [if_neg (by simpa using c)]
    have e : (a ∈ l[i] :: l.drop (i + 1)) ↔ a ∈ l.drop (i + 1) := by rw [List.mem_cons]; exact ⟨fun h => h.resolve_left fun e => c e.symm,.inr⟩
    rw [decide_eq_decide.2 e]
theorem Zop {l : List (List UInt8)} (hl : l.length ≤ 1048576) (a : List UInt8) : Zcw l a = some (decide (a ∈ l)) := by
 rw [Zub]
 exact Zun hl a l.length 0 (by omega)
theorem Zzi {α : Type} [DecidableEq α] : ∀ {l m : List α},l.Nodup → (∀ x,x ∈ l → x ∈ m) → l.length ≤ m.length
 | [],_,_,_ => Nat.zero_le _
 | a :: l,m,h,hs => by
   obtain ⟨h1,h2⟩ := List.nodup_cons.1 h
   have ha := hs a List.mem_cons_self
   have := Zzi (l := l) (m := m.erase a) h2 fun x hx => (List.mem_erase_of_ne (a := x) (b := a) (fun e => h1 (by rw [← e]; exact hx))).2 (hs x (List.mem_cons_of_mem _ hx))
   rw [List.length_erase_of_mem ha] at this
   have := List.length_pos_of_mem ha
   rw [List.length_cons]; omega
theorem Rch.nm {rs : List T_Role.ty} {a i : Nat} (h : Rch rs a i) : ∃ u,fnd rs u = some i := by
 cases h with
 | one h => obtain ⟨_,_,u,_,hf⟩ := h; exact ⟨u,hf⟩
 | more _ h => obtain ⟨_,_,u,_,hf⟩ := h; exact ⟨u,hf⟩
theorem Zyf {rs : List T_Role.ty} {u v : List UInt8} {j : Nat} (hu : fnd rs u = some j) (hv : fnd rs v = some j) : u = v := by
 obtain ⟨_,r,hr,e⟩ := Zeg hu
 obtain ⟨_,q,hq,e'⟩ := Zeg hv
 rw [hr] at hq; cases hq
 rw [← e,← e']
def Dn (rs : List T_Role.ty) (names : List (List UInt8)) (u : List UInt8) : Prop := ∀ i,fnd rs u = some i → ∀ r,rs[i]? = some r → ∀ v,v ∈ rU r → v ∈ names
structure WI (rs : List T_Role.ty) (a : Nat) (nm : List UInt8) (names work : List (List UInt8)) : Prop where
 nd : names.Nodup
 sn : ∀ u,u ∈ names → ∃ j,fnd rs u = some j ∧ Rch rs a j
 wk : ∀ u,u ∈ work → u = nm ∨ u ∈ names
 dn : ∀ u,u = nm ∨ u ∈ names → u ∈ work ∨ Dn rs names u
theorem sn_len {rs : List T_Role.ty} {a : Nat} {names : List (List UInt8)} (nd : names.Nodup) (sn : ∀ u,u ∈ names → ∃ j,fnd rs u = some j ∧ Rch rs a j) : names.length ≤ rs.length := by
 have := Zzi (m := rs.map rN) nd fun u hu => by
  obtain ⟨j,hj,_⟩ := sn u hu
  obtain ⟨_,r,hr,e⟩ := Zeg hj
  exact List.mem_map.2 ⟨r,List.mem_of_getElem? hr,e⟩
 rwa [List.length_map] at this
theorem Zs3 {rs : List T_Role.ty} (hl : rs.length ≤ 1048576) (hC : Clo rs) {a : Nat} {nm x : List UInt8} {i : Nat} {r : T_Role.ty} (hx : fnd rs x = some i) (hr : rs[i]? = some r) (hxR : i = a ∨ Rch rs a i) :
 ∀ (m k : Nat) (names work : List (List UInt8)),k + m = (rU r).length → names.Nodup → (∀ u,u ∈ names → ∃ j,fnd rs u = some j ∧ Rch rs a j) → (∀ u,u ∈ work → u = nm ∨ u ∈ names) → (∀ u,u = nm ∨ u ∈ names → u ∈ work ∨ u = x ∨ Dn rs names u) →
 (∀ k' v,k' < k → (rU r)[k']? = some v → v ∈ names) → 2 * (rs.length - names.length) + work.length ≤ 3000000 →
 ∃ names' work',Zdn rs work.length (rU r) (rU r).length k names work = Zdj rs work'.length names' work' ∧ WI rs a nm names' work' ∧ 2 * (rs.length - names'.length) + work'.length ≤ 2 * (rs.length - names.length) + work.length
 | 0,k,names,work,h,nd,sn,wk,dn,hk,hm => by
   have h1 : ¬ (k : Int) < ((rU r).length : Int) := by omega
   rw [Znr]
   simp only [h1,decide_false,Bool.false_eq_true,if_false,List.take_length]
   refine ⟨names,work,rfl,⟨nd,sn,wk,fun u hu => ?_⟩,Nat.le_refl _⟩
   rcases dn u hu with h | rfl | h
   ·exact .inl h
   ·refine .inr fun i' hi' r' hr' v hv => ?_
    rw [hx] at hi'; cases hi'
    rw [hr] at hr'; cases hr'
    obtain ⟨k',hk'⟩ := List.mem_iff_getElem?.1 hv
    refine hk k' v ?_ hk'
    have := (List.getElem?_eq_some_iff.1 hk').1
    omega
   ·exact .inr h
 | m + 1,k,names,work,h,nd,sn,wk,dn,hk,hm => by
   have hkl : k < (rU r).length := by omega
   have h1 : (k : Int) < ((rU r).length : Int) := by omega
   have hnl := sn_len nd sn
   obtain ⟨hul,hcl⟩ := hC r (List.mem_of_getElem? hr)
   rw [Znr]
   simp only [h1,decide_true,if_true,Int.natCast_nonneg,Int.toNat_natCast,List.getElem?_eq_getElem hkl,Option.bind_some,List.take_length,Zj6 (show names.length ≤ 1048576 by omega),wsucc (show k < 4611686018427387904 by omega)]
   obtain ⟨j,hj⟩ := hcl _ (List.getElem_mem hkl)
   have hRj : Rch rs a j := by
    have e : Ed rs i j := ⟨r,hr,_,List.getElem_mem hkl,hj⟩
    rcases hxR with rfl | hxR
    ·exact .one e
    ·exact .more hxR e
   by_cases c : (rU r)[k] ∈ names
   ·simp only [c,decide_true,Bool.not_true,Bool.false_eq_true,if_false]
    refine Zs3 hl hC hx hr hxR m (k + 1) names work (by omega) nd sn wk dn (fun k' v hk' hv => ?_) hm
    rcases Nat.lt_or_ge k' k with hlt | hge
    ·exact hk k' v hlt hv
    ·obtain rfl : k' = k := by omega
     rw [List.getElem?_eq_getElem hkl] at hv
     cases hv; exact c
   ·have e1 : names.length + 1 < lim := by unfold lim; omega
    have e2 : work.length + 1 < lim := by unfold lim; omega
    simp only [c,decide_false,Bool.not_false,if_true,e1,e2,decide_true]
    have nd' : (names ++ [(rU r)[k]]).Nodup := by
     rw [List.nodup_append]
     refine ⟨nd,by simp,fun u hu v hv e => ?_⟩
     rw [List.mem_singleton] at hv
     subst e; subst hv; exact c hu
    have sn' : ∀ u,u ∈ names ++ [(rU r)[k]] → ∃ j,fnd rs u = some j ∧ Rch rs a j := fun u hu => by
     rcases List.mem_append.1 hu with hu | hu
     ·exact sn u hu
     ·rw [List.mem_singleton] at hu; subst hu; exact ⟨j,hj,hRj⟩
    have hnl' := sn_len nd' sn'
    rw [List.length_append,List.length_singleton] at hnl'
    have hmm : 2 * (rs.length - (names ++ [(rU r)[k]]).length) + (work ++ [(rU r)[k]]).length ≤ 2 * (rs.length - names.length) + work.length := by
     rw [List.length_append,List.length_append,List.length_singleton]; omega
    obtain ⟨names',work',e,hw,hle⟩ := Zs3 (nm := nm) hl hC hx hr hxR m (k + 1) (names ++ [(rU r)[k]]) (work ++ [(rU r)[k]]) (by omega) nd' sn' (fun u hu => by
     rcases List.mem_append.1 hu with hu | hu
     ·exact (wk u hu).imp id fun h => List.mem_append_left _ h
     ·exact .inr (List.mem_append_right _ hu)) (fun u hu => by
     have dn1 : u = nm ∨ u ∈ names → u ∈ work ++ [(rU r)[k]] ∨ u = x ∨ Dn rs (names ++ [(rU r)[k]]) u := fun hu => by
      rcases dn u hu with h | h | h
      ·exact .inl (List.mem_append_left _ h)
      ·exact .inr (.inl h)
      ·exact .inr (.inr fun i' hi' r' hr' v hv => List.mem_append_left _ (h i' hi' r' hr' v hv))
     rcases hu with hu | hu
     ·exact dn1 (.inl hu)
     ·rcases List.mem_append.1 hu with hu | hu
      ·exact dn1 (.inr hu)
      ·exact .inl (List.mem_append_right _ hu)) (fun k' v hk' hv => by
     rcases Nat.lt_or_ge k' k with hlt | hge
     ·exact List.mem_append_left _ (hk k' v hlt hv)
     ·obtain rfl : k' = k := by omega
      rw [List.getElem?_eq_getElem hkl] at hv
      cases hv; exact List.mem_append_right _ (List.mem_singleton_self _)) (by omega)
    exact ⟨names',work',e,hw,by omega⟩
theorem Zzm {rs : List T_Role.ty} (hl : rs.length ≤ 1048576) (hC : Clo rs) {a : Nat} {nm : List UInt8} (hnm : fnd rs nm = some a) : ∀ (M : Nat) (names work : List (List UInt8)),2 * (rs.length - names.length) + work.length ≤ M → M ≤ 3000000 → WI rs a nm names work →
 ∃ names',Zdj rs work.length names work = some (lessP names') ∧ WI rs a nm names' [] ∧ names'.length ≤ rs.length
 | M,names,[],hm,hM,hw => by
   have hnl := sn_len hw.nd hw.sn
   rw [Zmt]
   simp only [List.length_nil,Int.natCast_zero,show ¬ ((0 : Int) > 0) by omega,decide_false,Bool.false_eq_true,if_false,decide_true,if_true,Z06 names (by omega),Option.bind_some,List.take_length]
   exact ⟨names,rfl,hw,hnl⟩
 | 0,names,x :: work,hm,hM,hw => by simp at hm
 | M + 1,names,x :: work,hm,hM,hw => by
   rw [List.length_cons] at hm
   obtain ⟨i,hi,hR⟩ : ∃ i,fnd rs x = some i ∧ (i = a ∨ Rch rs a i) := by
    rcases hw.wk x List.mem_cons_self with rfl | hx
    ·exact ⟨a,hnm,.inl rfl⟩
    ·obtain ⟨j,hj,hR⟩ := hw.sn x hx; exact ⟨j,hj,.inr hR⟩
   obtain ⟨hil,r,hr,_⟩ := Zeg hi
   have h1 : ((x :: work).length : Int) > 0 := by rw [List.length_cons]; omega
   have h2 : (0 : Int) < ((x :: work).length : Int) := h1
   have h3 : (1 : Int) ≤ ((x :: work).length : Int) := by rw [List.length_cons]; omega
   have h4 : (0 : Int) ≤ (i : Int) := by omega
   obtain ⟨names',work',e,hw',hle⟩ := Zs3 (nm := nm) hl hC hi hr hR (rU r).length 0 names work (by omega) hw.nd hw.sn (fun u hu => hw.wk u (List.mem_cons_of_mem _ hu)) (fun u hu => by
    rcases hw.dn u hu with h | h
    ·rcases List.mem_cons.1 h with h | h
     ·exact .inr (.inl h)
     ·exact .inl h
    ·exact .inr (.inr h)) (fun k' v hk' => absurd hk' (Nat.not_lt_zero _)) (by omega)
   obtain ⟨n2,e2,hw2,hl2⟩ := Zzm hl hC hnm M names' work' (by omega) (by omega) hw'
   refine ⟨n2,?_,hw2,hl2⟩
   rw [Zmt]
   simp only [h1,h2,h3,h4,decide_true,if_true,List.getElem?_cons_zero,Option.bind_some,(Zfx hl x).2,hi,pos,Int.toNat_natCast,hr]
   have e' : Zdn rs work.length r.2.1 r.2.1.length 0 names work = Zdj rs work'.length names' work' := e
   have hd : ((x :: work).drop 1).take ((x :: work).length - 1) = work := by simp
   have hn : (x :: work).length - 1 = work.length := by simp
   rw [hd,hn,e',e2]
theorem Zsp {rs : List T_Role.ty} (hl : rs.length ≤ 1048576) (hC : Clo rs) {a : Nat} {nm : List UInt8} (hnm : fnd rs nm = some a) :
 ∃ ys,Zan rs nm = some ys ∧ ys.length ≤ rs.length ∧ ∀ u,u ∈ ys ↔ ∃ j,fnd rs u = some j ∧ Rch rs a j := by
 obtain ⟨names,e,hw,hn⟩ := Zzm hl hC hnm (2 * rs.length + 1) [] [nm] (by simp) (by omega) ⟨List.nodup_nil,fun u hu => (by cases hu),fun u hu => .inl (List.mem_singleton.1 hu),fun u hu => by
  rcases hu with rfl | hu
  ·exact .inl (List.mem_singleton_self _)
  ·cases hu⟩
 refine ⟨lessP names,by rw [Zzt]; exact e,Nat.le_trans (Z6r _) hn,fun u => ?_⟩
 rw [(Zy2 names).2.2]
 have dn : ∀ u,u = nm ∨ u ∈ names → Dn rs names u := fun u hu => (hw.dn u hu).resolve_left fun h => (by cases h)
 have key : ∀ j,Rch rs a j → ∀ u,fnd rs u = some j → u ∈ names := by
  intro j hR
  induction hR with
  | one h =>
    intro u hj
    obtain ⟨r,hr,v,hv,hf⟩ := h
    rw [Zyf hj hf]
    exact dn nm (.inl rfl) a hnm r hr v hv
  | more h1 h2 ih =>
    intro u hj
    obtain ⟨r,hr,v,hv,hf⟩ := h2
    obtain ⟨w,hwi⟩ := h1.nm
    rw [Zyf hj hf]
    exact dn w (.inr (ih w hwi)) _ hwi r hr v hv
 exact ⟨hw.sn u,fun ⟨j,hj,hR⟩ => key j hR u hj⟩
def rAt (rs : List T_Role.ty) (i : Nat) : T_Role.ty := (rs[i]?).getD ([],[],())
def uAt (us : List (List UInt8)) (k : Nat) : List UInt8 := (us[k]?).getD []
def gAt (gs : List Zaa.ty) (i : Nat) : Zaa.ty := (gs[i]?).getD ([],[],0,())
theorem Zch {rs : List T_Role.ty} {i : Nat} (h : i < rs.length) : rs[i]? = some (rAt rs i) := by simp [rAt,List.getElem?_eq_getElem h]
theorem Ztr {us : List (List UInt8)} {k : Nat} (h : k < us.length) : us[k]? = some (uAt us k) := by simp [uAt,List.getElem?_eq_getElem h]
theorem Zdk {gs : List Zaa.ty} {i : Nat} (h : i < gs.length) : gs[i]? = some (gAt gs i) := by simp [gAt,List.getElem?_eq_getElem h]
theorem Zo9 {rs : List T_Role.ty} {i : Nat} (h : i < rs.length) : rAt rs i ∈ rs := List.mem_of_getElem? (Zch h)
theorem Zht {gs : List Zaa.ty} {i : Nat} (h : i < gs.length) : gAt gs i ∈ gs := List.mem_of_getElem? (Zdk h)
theorem wpred {i : Nat} (h : 0 < i) (h2 : i < 4611686018427387904) : IntKind.i64.wrap ((i : Int) - 1) = ((i - 1 : Nat) : Int) := by rw [w64 (by omega) (by omega)]; omega
theorem Zhw {n : Nat} {c : Nat → Bool} : (List.range' 0 n).all c = true ↔ ∀ i,i < n → c i = true := by
 rw [List.all_eq_true]
 constructor
 ·intro h i hi; exact h i (by rw [List.mem_range'_1]; omega)
 ·intro h i hi; exact h i (by rw [List.mem_range'_1] at hi; omega)
theorem Zp0 (x y : List UInt8) : (!Op.bytesLess x y) = !decide (x < y) := by rw [Proofs.bytesLess_eq]
def uc (rs : List T_Role.ty) (us : List (List UInt8)) (k : Nat) : Bool := (fnd rs (uAt us k)).isSome && (k == 0 || decide (uAt us (k - 1) < uAt us k))
def ucs (rs : List T_Role.ty) (us : List (List UInt8)) : Bool := (List.range' 0 us.length).all (uc rs us)
def rc (rs : List T_Role.ty) (i : Nat) : Bool := isName (rN (rAt rs i)) && ((i == 0 || decide (rN (rAt rs (i - 1)) < rN (rAt rs i))) && ucs rs (rU (rAt rs i)))
open Classical in
noncomputable def nc (rs : List T_Role.ty) (i : Nat) : Bool := decide (¬ Rch rs i i)
noncomputable def roV (rs : List T_Role.ty) : Bool := (List.range' 0 rs.length).all (rc rs) && ((List.range' 0 rs.length).all (nc rs) && decide (rs.length ≤ 12))
structure Sz (rs : List T_Role.ty) : Prop where
 len : rs.length ≤ 1000
 nm : ∀ r,r ∈ rs → (rN r).length ≤ 1048576
 us : ∀ r,r ∈ rs → (rU r).length ≤ 1048576
theorem Z45 {rs : List T_Role.ty} (hz : Sz rs) {i : Nat} (hi : i < rs.length) : Zbh rs i 0 = if ucs rs (rU (rAt rs i)) then Zbc rs ((i + 1 : Nat) : Int) else some false := by
 have hul := hz.us _ (Zo9 hi)
 have hl : rs.length ≤ 1048576 := by have := hz.len; omega
 have key := idxLoop (rU (rAt rs i)).length (uc rs (rU (rAt rs i))) (fun k => Zbh rs i k) (some false) (Zbc rs ((i + 1 : Nat) : Int)) (fun k hk => ?_) ?_ (rU (rAt rs i)).length 0 (by omega)
 ·exact key
 ·have h1 : (k : Int) < ((rAt rs i).2.1.length : Int) := by show (k : Int) < ((rU (rAt rs i)).length : Int); omega
  have hu : (rAt rs i).2.1[k]? = some (uAt (rU (rAt rs i)) k) := Ztr hk
  show Zbh rs i k = _
  rw [Zje]
  simp only [Int.natCast_nonneg,decide_true,if_true,Int.toNat_natCast,Zch hi,Option.bind_some,h1,hu,(Zfx hl _).1,wsucc (show k < 4611686018427387904 by omega)]
  unfold uc
  by_cases c : pos (fnd rs (uAt (rU (rAt rs i)) k)) < 0
  ·have := (pos_ge _).2.1 c
   simp [c,this]
  ·have h2 : (fnd rs (uAt (rU (rAt rs i)) k)).isSome = true := (pos_ge _).1.1 (by omega)
   simp only [c,decide_false,Bool.false_eq_true,if_false,h2,Bool.true_and]
   by_cases h0 : k = 0
   ·subst h0; simp
   ·have hp : (k : Int) > 0 := by omega
    have h3 : (rAt rs i).2.1[k - 1]? = some (uAt (rU (rAt rs i)) (k - 1)) := Ztr (us := rU (rAt rs i)) (by omega)
    have h4 : (k == 0) = false := by simp [h0]
    simp only [hp,decide_true,if_true,wpred (show 0 < k by omega) (show k < 4611686018427387904 by omega),Int.natCast_nonneg,Int.toNat_natCast,h3,Option.bind_some,Zp0,h4,Bool.false_or]
    by_cases hlt : uAt (rU (rAt rs i)) (k - 1) < uAt (rU (rAt rs i)) k <;> simp [hlt]
 ·have h1 : ¬ ((rU (rAt rs i)).length : Int) < ((rAt rs i).2.1.length : Int) := by show ¬ ((rU (rAt rs i)).length : Int) < ((rU (rAt rs i)).length : Int); omega
  show Zbh rs i _ = _
  rw [Zje]
  simp only [Int.natCast_nonneg,decide_true,if_true,Int.toNat_natCast,Zch hi,Option.bind_some,h1,decide_false,Bool.false_eq_true,if_false,wsucc (show i < 4611686018427387904 by omega)]
theorem Z5e {rs : List T_Role.ty} (hz : Sz rs) {i : Nat} (hi : i < rs.length) (x : List UInt8) : Zaq rs rs rs.length i (rU (rAt rs i)) (rU (rAt rs i)).length 0 x (rU (rAt rs i)) = if ucs rs (rU (rAt rs i)) then Zar rs rs rs.length ((i + 1 : Nat) : Int) else some false := by
 have hul := hz.us _ (Zo9 hi)
 have hl : rs.length ≤ 1048576 := by have := hz.len; omega
 have key := idxLoop (rU (rAt rs i)).length (uc rs (rU (rAt rs i))) (fun k => Zaq rs rs rs.length i (rU (rAt rs i)) (rU (rAt rs i)).length k x (rU (rAt rs i))) (some false) (Zar rs rs rs.length ((i + 1 : Nat) : Int)) (fun k hk => ?_) ?_ (rU (rAt rs i)).length 0 (by omega)
 ·exact key
 ·have h1 : (k : Int) < ((rU (rAt rs i)).length : Int) := by omega
  have hu : (rU (rAt rs i))[k]? = some (uAt (rU (rAt rs i)) k) := Ztr hk
  show Zaq rs rs rs.length i (rU (rAt rs i)) (rU (rAt rs i)).length k x (rU (rAt rs i)) = _
  rw [Zhr]
  simp only [Int.natCast_nonneg,decide_true,if_true,Int.toNat_natCast,Option.bind_some,h1,hu,(Zfx hl _).2,wsucc (show k < 4611686018427387904 by omega)]
  unfold uc
  by_cases h0 : k = 0
  ·subst h0
   by_cases c : pos (fnd rs (uAt (rU (rAt rs i)) 0)) < 0
   ·have := (pos_ge _).2.1 c
    simp [c,this]
   ·have h2 : (fnd rs (uAt (rU (rAt rs i)) 0)).isSome = true := (pos_ge _).1.1 (by omega)
    simp [c,h2]
  ·have hp : (k : Int) > 0 := by omega
   have h3 : (rU (rAt rs i))[k - 1]? = some (uAt (rU (rAt rs i)) (k - 1)) := Ztr (us := rU (rAt rs i)) (by omega)
   have h4 : (k == 0) = false := by simp [h0]
   simp only [hp,decide_true,if_true,wpred (show 0 < k by omega) (show k < 4611686018427387904 by omega),Int.natCast_nonneg,Int.toNat_natCast,h3,Option.bind_some,Zp0,h4,Bool.false_or]
   by_cases c : pos (fnd rs (uAt (rU (rAt rs i)) k)) < 0
   ·have := (pos_ge _).2.1 c
    by_cases hlt : uAt (rU (rAt rs i)) (k - 1) < uAt (rU (rAt rs i)) k <;> simp [c,this,hlt]
   ·have h2 : (fnd rs (uAt (rU (rAt rs i)) k)).isSome = true := (pos_ge _).1.1 (by omega)
    by_cases hlt : uAt (rU (rAt rs i)) (k - 1) < uAt (rU (rAt rs i)) k <;> simp [c,h2,hlt]
 ·have h1 : ¬ ((rU (rAt rs i)).length : Int) < ((rU (rAt rs i)).length : Int) := by omega
  show Zaq rs rs rs.length i (rU (rAt rs i)) (rU (rAt rs i)).length _ x (rU (rAt rs i)) = _
  rw [Zhr]
  simp only [h1,decide_false,Bool.false_eq_true,if_false,wsucc (show i < 4611686018427387904 by have := hz.len; omega)]
theorem Z5g {rs : List T_Role.ty} (hz : Sz rs) : Zbc rs 0 = if (List.range' 0 rs.length).all (rc rs) then Zbg rs 0 else some false := by
 have hl := hz.len
 refine idxLoop rs.length (rc rs) (fun i => Zbc rs i) (some false) _ (fun i hi => ?_) ?_ rs.length 0 (by omega)
 ·have h1 : (i : Int) < (rs.length : Int) := by omega
  have hn := Zoq (rAt rs i).1 (by have := hz.nm _ (Zo9 hi); have h : (rAt rs i).1.length ≤ 1048576 := this; omega)
  show Zbc rs i = _
  rw [Zi6]
  simp only [h1,Int.natCast_nonneg,decide_true,if_true,Int.toNat_natCast,Zch hi,Option.bind_some,hn,Zrx,Z45 hz hi]
  unfold rc
  show (if (!isName (rN (rAt rs i))) = true then _ else _) = _
  cases hnm : isName (rN (rAt rs i)) with
  | false => simp
  | true =>
    simp only [Bool.not_true,Bool.false_eq_true,if_false,Bool.true_and]
    by_cases h0 : i = 0
    ·subst h0; simp
    ·have hp : (i : Int) > 0 := by omega
     have h4 : (i == 0) = false := by simp [h0]
     simp only [hp,decide_true,if_true,wpred (show 0 < i by omega) (show i < 4611686018427387904 by omega),Int.natCast_nonneg,Int.toNat_natCast,Zch (show i - 1 < rs.length by omega),Option.bind_some,Zp0,h4,Bool.false_or]
     have e1 : (rAt rs (i - 1)).1 = rN (rAt rs (i - 1)) := rfl
     have e2 : (rAt rs i).1 = rN (rAt rs i) := rfl
     rw [e1,e2]
     by_cases hlt : rN (rAt rs (i - 1)) < rN (rAt rs i) <;> simp [hlt]
 ·have h1 : ¬ (rs.length : Int) < (rs.length : Int) := by omega
  show Zbc rs _ = _
  rw [Zi6]
  simp only [h1,decide_false,Bool.false_eq_true,if_false]
theorem Z5c {rs : List T_Role.ty} (hz : Sz rs) : Zar rs rs rs.length 0 = if (List.range' 0 rs.length).all (rc rs) then Za8 rs rs rs.length 0 else some false := by
 have hl := hz.len
 refine idxLoop rs.length (rc rs) (fun i => Zar rs rs rs.length i) (some false) _ (fun i hi => ?_) ?_ rs.length 0 (by omega)
 ·have h1 : (i : Int) < (rs.length : Int) := by omega
  have hn := Zf3 (rAt rs i).1 (by have := hz.nm _ (Zo9 hi); have h : (rAt rs i).1.length ≤ 1048576 := this; omega)
  have h3 := Z5e hz hi (rAt rs i).1
  have h3' : Zaq rs rs rs.length i (rAt rs i).2.1 (rAt rs i).2.1.length 0 (rAt rs i).1 (rAt rs i).2.1 = _ := h3
  show Zar rs rs rs.length i = _
  rw [Zhx]
  simp only [h1,Int.natCast_nonneg,decide_true,if_true,Int.toNat_natCast,Zch hi,Option.bind_some,hn,Zpm,h3']
  unfold rc
  show (if (!isName (rN (rAt rs i))) = true then _ else _) = _
  cases hnm : isName (rN (rAt rs i)) with
  | false => simp
  | true =>
    simp only [Bool.not_true,Bool.false_eq_true,if_false,Bool.true_and]
    by_cases h0 : i = 0
    ·subst h0; simp
    ·have hp : (i : Int) > 0 := by omega
     have h4 : (i == 0) = false := by simp [h0]
     simp only [hp,decide_true,if_true,wpred (show 0 < i by omega) (show i < 4611686018427387904 by omega),Int.natCast_nonneg,Int.toNat_natCast,Zch (show i - 1 < rs.length by omega),Option.bind_some,Zp0,h4,Bool.false_or]
     have e1 : (rAt rs (i - 1)).1 = rN (rAt rs (i - 1)) := rfl
     have e2 : (rAt rs i).1 = rN (rAt rs i) := rfl
     rw [e1,e2]
     by_cases hlt : rN (rAt rs (i - 1)) < rN (rAt rs i) <;> simp [hlt]
 ·have h1 : ¬ (rs.length : Int) < (rs.length : Int) := by omega
  show Zar rs rs rs.length _ = _
  rw [Zhx]
  simp only [h1,decide_false,Bool.false_eq_true,if_false]
theorem rc_up {rs : List T_Role.ty} (h : (List.range' 0 rs.length).all (rc rs) = true) : Ups rs := by
 have h := Zhw.1 h
 have step : ∀ j i,i < j → j < rs.length → rN (rAt rs i) < rN (rAt rs j) := by
  intro j
  induction j with
  | zero => intro i hi; exact absurd hi (Nat.not_lt_zero _)
  | succ j ih =>
    intro i hi hj
    have := h (j + 1) hj
    simp only [rc,Bool.and_eq_true,Bool.or_eq_true,decide_eq_true_eq,Nat.add_sub_cancel] at this
    have h1 : rN (rAt rs j) < rN (rAt rs (j + 1)) := by
     rcases this.2.1 with h | h
     ·simp at h
     ·exact h
    rcases Nat.lt_or_ge i j with hlt | hge
    ·exact List.lt_trans (ih i hlt (by omega)) h1
    ·rw [show i = j by omega]; exact h1
 refine List.pairwise_iff_getElem.2 fun i j hi hj hij => ?_
 have := step j i hij hj
 simpa [rAt,List.getElem?_eq_getElem hi,List.getElem?_eq_getElem hj] using this
theorem rc_clo {rs : List T_Role.ty} (hz : Sz rs) (h : (List.range' 0 rs.length).all (rc rs) = true) : Clo rs := by
 intro r hr
 refine ⟨hz.us r hr,fun u hu => ?_⟩
 obtain ⟨i,hi⟩ := List.mem_iff_getElem?.1 hr
 have hil := (List.getElem?_eq_some_iff.1 hi).1
 have he : rAt rs i = r := by simp [rAt,hi]
 have h1 := Zhw.1 h i hil
 simp only [rc,Bool.and_eq_true] at h1
 obtain ⟨k,hk⟩ := List.mem_iff_getElem?.1 hu
 have hkl := (List.getElem?_eq_some_iff.1 hk).1
 have h2 := h1.2.2
 rw [he] at h2
 have h3 := Zhw.1 h2 k hkl
 simp only [uc,Bool.and_eq_true] at h3
 have hu2 : uAt (rU r) k = u := by simp [uAt,hk]
 rw [hu2] at h3
 exact Option.isSome_iff_exists.1 h3.1
theorem Z6z {rs : List T_Role.ty} (hz : Sz rs) (hU : Ups rs) (hC : Clo rs) : (Zbg rs 0 = if (List.range' 0 rs.length).all (nc rs) then some true else some false) ∧
 Za8 rs rs rs.length 0 = if (List.range' 0 rs.length).all (nc rs) then some (decide ((rs.length : Int) ≤ 12)) else some false := by
 have hl := hz.len
 have hl' : rs.length ≤ 1048576 := by omega
 constructor
 ·refine idxLoop rs.length (nc rs) (fun i => Zbg rs i) (some false) _ (fun i hi => ?_) ?_ rs.length 0 (by omega)
  ·have h1 : (i : Int) < (rs.length : Int) := by omega
   obtain ⟨o,e,hol,hoj⟩ := Z5w hl' hC hi
   show Zbg rs i = _
   rw [Zix]
   have ho := List.getElem?_eq_getElem (l := o) (i := i) (by omega)
   simp only [h1,Int.natCast_nonneg,decide_true,if_true,Int.toNat_natCast,e,Option.bind_some,ho,wsucc (show i < 4611686018427387904 by omega)]
   unfold nc
   by_cases c : Rch rs i i
   ·have : o[i]'(by omega) = true := by have := (hoj i).2 c; rw [ho] at this; exact Option.some.inj this
    simp [c,this]
   ·have : o[i]'(by omega) = false := by
     cases hb : o[i]'(by omega) with
     | false => rfl
     | true => exact absurd ((hoj i).1 (by rw [ho,hb])) c
    simp [c,this]
  ·have h1 : ¬ (rs.length : Int) < (rs.length : Int) := by omega
   show Zbg rs _ = _
   rw [Zix]
   simp only [h1,decide_false,Bool.false_eq_true,if_false]
 ·refine idxLoop rs.length (nc rs) (fun i => Za8 rs rs rs.length i) (some false) _ (fun i hi => ?_) ?_ rs.length 0 (by omega)
  ·have h1 : (i : Int) < (rs.length : Int) := by omega
   have hf := hU.fnd (Zch hi)
   obtain ⟨ys,e,hyl,hym⟩ := Zsp hl' hC hf
   have e' : Zan rs (rAt rs i).1 = some ys := e
   show Za8 rs rs rs.length i = _
   rw [Zhq]
   simp only [h1,Int.natCast_nonneg,decide_true,if_true,Int.toNat_natCast,Zch hi,e',Option.bind_some,Zj6 (show ys.length ≤ 1048576 by omega),wsucc (show i < 4611686018427387904 by omega)]
   unfold nc
   have hiff : (rAt rs i).1 ∈ ys ↔ Rch rs i i := by
    refine (hym _).trans ⟨fun ⟨j,hj,hR⟩ => ?_,fun hR => ⟨i,hf,hR⟩⟩
    have hj' : fnd rs (rN (rAt rs i)) = some j := hj
    rw [hf] at hj'; cases hj'; exact hR
   by_cases c : Rch rs i i
   ·simp [c,hiff.2 c]
   ·have : ¬ (rAt rs i).1 ∈ ys := fun h => c (hiff.1 h)
    simp [c,this]
  ·have h1 : ¬ (rs.length : Int) < (rs.length : Int) := by omega
   show Za8 rs rs rs.length _ = _
   rw [Zhq,Zoy]
   simp only [h1,decide_false,Bool.false_eq_true,if_false,Option.bind_some]
theorem Zvq {rs : List T_Role.ty} (hz : Sz rs) : Zld rs = some (roV rs) ∧ Zfb rs = some (roV rs) := by
 have hd : decide ((rs.length : Int) ≤ 12) = decide (rs.length ≤ 12) := by rw [decide_eq_decide]; omega
 rw [Zu8,Ztj,Z5g hz,Z5c hz]
 unfold roV
 by_cases c : (List.range' 0 rs.length).all (rc rs) = true
 ·obtain ⟨e1,e2⟩ := Z6z hz (rc_up c) (rc_clo hz c)
  rw [e1,e2]
  simp only [c,if_true,Bool.true_and,hd]
  by_cases h12 : rs.length ≤ 12
  ·have h : ¬ ((rs.length : Int) > 12) := by omega
   simp only [h,h12,decide_false,decide_true,Bool.false_eq_true,if_false,Bool.and_true]
   cases (List.range' 0 rs.length).all (nc rs) <;> simp
  ·have h : (rs.length : Int) > 12 := by omega
   simp only [h,h12,decide_false,decide_true,if_true,Bool.and_false]
   cases (List.range' 0 rs.length).all (nc rs) <;> simp
 ·simp only [c,if_false,Bool.false_and]
  refine ⟨?_,rfl⟩
  split <;> rfl
theorem Zx1 : ∀ (x y : List UInt8),(Lib.compareBytes x y < 0 ↔ x < y) ∧ (Lib.compareBytes x y = 0 ↔ x = y)
 | [],[] => by simp [Lib.compareBytes]
 | [],_ :: _ => by simp [Lib.compareBytes]
 | _ :: _,[] => by simp [Lib.compareBytes]
 | a :: x,b :: y => by
   have IH := Zx1 x y
   rw [Lib.compareBytes,List.cons_lt_cons_iff,List.cons.injEq]
   by_cases c1 : a < b
   ·have hne : a ≠ b := fun e => by subst e; exact absurd c1 (UInt8.lt_irrefl a)
    simp [c1,hne]
   ·by_cases c2 : b < a
    ·have hne : a ≠ b := fun e => by subst e; exact absurd c2 (UInt8.lt_irrefl a)
     simp [c1,c2,hne]
    ·have he : a = b := UInt8.le_antisymm (UInt8.not_lt.1 c2) (UInt8.not_lt.1 c1)
     simp [c1,c2,he,IH.1,IH.2]
def Lt3 (a b : Zaa.ty) : Prop := gR a < gR b ∨ gR a = gR b ∧ (gO a < gO b ∨ gO a = gO b ∧ gA a < gA b)
instance (a b : Zaa.ty) : Decidable (Lt3 a b) := by unfold Lt3; infer_instance
theorem g_ext {a b : Zaa.ty} (h1 : gR a = gR b) (h2 : gO a = gO b) (h3 : gA a = gA b) : a = b := by rw [g_eta a,g_eta b,h1,h2,h3]
theorem Z9j (a : Zaa.ty) : ¬ Lt3 a a := by
 rintro (h | ⟨_,h | ⟨_,h⟩⟩)
 ·exact List.lt_irrefl _ h
 ·exact List.lt_irrefl _ h
 ·exact absurd h (Int.lt_irrefl _)
theorem Z5i {a b c : Zaa.ty} (h : Lt3 a b) (h' : Lt3 b c) : Lt3 a c := by
 rcases h with h | ⟨e,h⟩
 ·rcases h' with h' | ⟨e',_⟩
  ·exact .inl (List.lt_trans h h')
  ·exact .inl (e' ▸ h)
 ·rcases h' with h' | ⟨e',h'⟩
  ·exact .inl (e ▸ h')
  ·refine .inr ⟨e.trans e',?_⟩
   rcases h with h | ⟨f,h⟩
   ·rcases h' with h' | ⟨f',_⟩
    ·exact .inl (List.lt_trans h h')
    ·exact .inl (f' ▸ h)
   ·rcases h' with h' | ⟨f',h'⟩
    ·exact .inl (f ▸ h')
    ·exact .inr ⟨f.trans f',Int.lt_trans h h'⟩
theorem Zyw (a b : Zaa.ty) : Zf7 a b = some (decide (Lt3 a b)) := by
 rw [Zt3]
 show (if (!(gR a == gR b)) = true then some (Op.bytesLess (gR a) (gR b)) else if (!(gO a == gO b)) = true then some (Op.bytesLess (gO a) (gO b)) else some (decide (gA a < gA b))) = _
 rw [Proofs.bytesLess_eq,Proofs.bytesLess_eq]
 unfold Lt3
 by_cases c : gR a = gR b
 ·by_cases d : gO a = gO b
  ·simp [c,d,List.lt_irrefl]
  ·simp [c,d,List.lt_irrefl]
 ·simp [c]
theorem Zqz (a b : Zaa.ty) (ha : -1000 ≤ gA a ∧ gA a ≤ 1000) (hb : -1000 ≤ gA b ∧ gA b ≤ 1000) : ∃ z : Int,Zfr a b = some z ∧ (z < 0 ↔ Lt3 a b) ∧ (z = 0 ↔ a = b) := by
 rw [Zpn,Zkw,Zkw]
 show ∃ z : Int,((some (Lib.compareBytes (gR a) (gR b))).bind fun x1 => if (x1 != 0) = true then some x1 else (some (Lib.compareBytes (gO a) (gO b))).bind fun x2 => if (x2 != 0) = true then some x2 else some (IntKind.i64.wrap (gA a - gA b))) = some z ∧ _
 have hR := Zx1 (gR a) (gR b)
 have hO := Zx1 (gO a) (gO b)
 rw [Option.bind_some]
 unfold Lt3
 by_cases c : gR a = gR b
 ·have h0 := hR.2.2 c
  rw [h0]
  simp only [bne_self_eq_false,Bool.false_eq_true,if_false,Option.bind_some]
  by_cases d : gO a = gO b
  ·have h1 := hO.2.2 d
   rw [h1]
   simp only [bne_self_eq_false,Bool.false_eq_true,if_false]
   refine ⟨_,rfl,?_⟩
   rw [w64 (by omega) (by omega)]
   constructor
   ·constructor
    ·intro h; exact .inr ⟨c,.inr ⟨d,by omega⟩⟩
    ·rintro (h | ⟨_,h | ⟨_,h⟩⟩)
     ·rw [c] at h; exact absurd h (List.lt_irrefl _)
     ·rw [d] at h; exact absurd h (List.lt_irrefl _)
     ·omega
   ·constructor
    ·intro h; exact g_ext c d (by omega)
    ·intro h; subst h; omega
  ·have h1 : ¬ Lib.compareBytes (gO a) (gO b) = 0 := fun h => d (hO.2.1 h)
   rw [if_pos (by simpa using h1)]
   refine ⟨_,rfl,?_,fun h => absurd h h1,fun h => absurd (by rw [h]) d⟩
   rw [hO.1]
   constructor
   ·intro h; exact .inr ⟨c,.inl h⟩
   ·rintro (h | ⟨_,h | ⟨h,_⟩⟩)
    ·rw [c] at h; exact absurd h (List.lt_irrefl _)
    ·exact h
    ·exact absurd h d
 ·have h1 : ¬ Lib.compareBytes (gR a) (gR b) = 0 := fun h => c (hR.2.1 h)
  rw [if_pos (by simpa using h1)]
  refine ⟨_,rfl,?_,fun h => absurd h h1,fun h => absurd (by rw [h]) c⟩
  rw [hR.1]
  constructor
  ·intro h; exact .inl h
  ·rintro (h | ⟨h,_⟩)
   ·exact h
   ·exact absurd h c
def gc (rs : List T_Role.ty) (g : Zaa.ty) : Bool := (fnd rs (gR g)).isSome && (isName (gO g) && (decide (1 ≤ gA g) && decide (gA g ≤ 3)))
theorem Zsx {rs : List T_Role.ty} (hz : Sz rs) (g : Zaa.ty) (ho : (gO g).length ≤ 1048576) : Zj7 rs g = some (gc rs g) ∧ Znc rs g = some (gc rs g) := by
 have hl : rs.length ≤ 1048576 := by have := hz.len; omega
 have e1 : Zfs g.2.1 = some (isName (gO g)) := Zoq (gO g) (by omega)
 have e2 : Zcb g.2.1 = some (isName (gO g)) := Zf3 (gO g) (by omega)
 have e3 : Zd6 rs g.1 = some (pos (fnd rs (gR g))) := (Zfx hl (gR g)).1
 have e4 : Zbl rs g.1 = some (pos (fnd rs (gR g))) := (Zfx hl (gR g)).2
 rw [Zyh,Zxh,e1,e2,e3,e4,Ztx,Zzs,Zg4,Zjz]
 simp only [Option.bind_some]
 unfold gc
 by_cases c : 0 ≤ pos (fnd rs (gR g))
 ·have c1 := (pos_ge _).1.1 c
  simp only [ge_iff_le,c,c1,decide_true,if_true,Bool.true_and]
  cases isName (gO g)
  ·simp
  ·simp only [if_true,Bool.true_and]
   show (((if decide (1 ≤ gA g) = true then some (decide (gA g ≤ 3)) else some false).bind fun x1 => some x1).bind fun x3 => some x3) = _ ∧ (((if decide (1 ≤ gA g) = true then some (decide (gA g ≤ 3)) else some false).bind fun x1 => some x1).bind fun x3 => some x3) = _
   by_cases d : 1 ≤ gA g <;> simp [d]
 ·have c1 := (pos_ge _).2.1 (show pos (fnd rs (gR g)) < 0 by omega)
  simp [c,c1]
def gcs (rs : List T_Role.ty) (gs : List Zaa.ty) (i : Nat) : Bool := gc rs (gAt gs i) && (i == 0 || decide (Lt3 (gAt gs (i - 1)) (gAt gs i)))
noncomputable def vG (rs : List T_Role.ty) (gs : List Zaa.ty) : Bool := roV rs && (decide (gs.length ≤ 48) && (List.range' 0 gs.length).all (gcs rs gs))
structure Gz (gs : List Zaa.ty) : Prop where
 len : gs.length ≤ 1000
 ob : ∀ g,g ∈ gs → (gO g).length ≤ 1048576
 ac : ∀ g,g ∈ gs → -1000 ≤ gA g ∧ gA g ≤ 1000
theorem Zp9 {rs : List T_Role.ty} {gs : List Zaa.ty} (hz : Sz rs) (hg : Gz gs) : Zqn rs gs = some (vG rs gs) ∧ Zbf rs gs = some (vG rs gs) := by
 have hl := hg.len
 have L1 : Zb1 rs gs 0 = if (List.range' 0 gs.length).all (gcs rs gs) then some true else some false := by
  refine idxLoop gs.length (gcs rs gs) (fun i => Zb1 rs gs i) (some false) _ (fun i hi => ?_) ?_ gs.length 0 (by omega)
  ·have h1 : (i : Int) < (gs.length : Int) := by omega
   show Zb1 rs gs i = _
   rw [Zns]
   simp only [h1,Int.natCast_nonneg,decide_true,if_true,Int.toNat_natCast,Zdk hi,Option.bind_some,(Zsx hz _ (hg.ob _ (Zht hi))).1,wsucc (show i < 4611686018427387904 by omega)]
   unfold gcs
   cases gc rs (gAt gs i) with
   | false => simp
   | true =>
     simp only [Bool.not_true,Bool.false_eq_true,if_false,Bool.true_and]
     by_cases h0 : i = 0
     ·subst h0; simp
     ·have hp : (i : Int) > 0 := by omega
      have h4 : (i == 0) = false := by simp [h0]
      simp only [hp,decide_true,if_true,wpred (show 0 < i by omega) (show i < 4611686018427387904 by omega),Int.natCast_nonneg,Int.toNat_natCast,Zdk (show i - 1 < gs.length by omega),Option.bind_some,Zyw,h4,Bool.false_or]
      by_cases hlt : Lt3 (gAt gs (i - 1)) (gAt gs i) <;> simp [hlt]
  ·have h1 : ¬ (gs.length : Int) < (gs.length : Int) := by omega
   show Zb1 rs gs _ = _
   rw [Zns]
   simp only [h1,decide_false,Bool.false_eq_true,if_false]
 have L2 : Zav rs gs gs gs.length 0 = if (List.range' 0 gs.length).all (gcs rs gs) then some true else some false := by
  refine idxLoop gs.length (gcs rs gs) (fun i => Zav rs gs gs gs.length i) (some false) _ (fun i hi => ?_) ?_ gs.length 0 (by omega)
  ·have h1 : (i : Int) < (gs.length : Int) := by omega
   show Zav rs gs gs gs.length i = _
   rw [Zgx]
   simp only [h1,Int.natCast_nonneg,decide_true,if_true,Int.toNat_natCast,Zdk hi,Option.bind_some,(Zsx hz _ (hg.ob _ (Zht hi))).2,wsucc (show i < 4611686018427387904 by omega)]
   unfold gcs
   cases gc rs (gAt gs i) with
   | false => simp
   | true =>
     simp only [Bool.not_true,Bool.false_eq_true,if_false,Bool.true_and]
     by_cases h0 : i = 0
     ·subst h0; simp
     ·have hp : (i : Int) > 0 := by omega
      have h4 : (i == 0) = false := by simp [h0]
      obtain ⟨z,e,h5,_⟩ := Zqz (gAt gs (i - 1)) (gAt gs i) (hg.ac _ (Zht (by omega))) (hg.ac _ (Zht hi))
      simp only [hp,decide_true,if_true,wpred (show 0 < i by omega) (show i < 4611686018427387904 by omega),Int.natCast_nonneg,Int.toNat_natCast,Zdk (show i - 1 < gs.length by omega),Option.bind_some,e,h4,Bool.false_or]
      by_cases hlt : Lt3 (gAt gs (i - 1)) (gAt gs i)
      ·have : ¬ z ≥ 0 := by have := h5.2 hlt; omega
       simp [hlt,this]
      ·have : z ≥ 0 := by
        rcases (by omega : z < 0 ∨ z ≥ 0) with h | h
        ·exact absurd (h5.1 h) hlt
        ·exact h
       simp [hlt,this]
  ·have h1 : ¬ (gs.length : Int) < (gs.length : Int) := by omega
   show Zav rs gs gs gs.length _ = _
   rw [Zgx]
   simp only [h1,decide_false,Bool.false_eq_true,if_false]
 rw [Zzq,Zr5,(Zvq hz).1,(Zvq hz).2,Zoy,Zvr,Zo0,L1,L2]
 simp only [Option.bind_some]
 unfold vG
 cases roV rs with
 | false => simp
 | true =>
   simp only [Bool.not_true,Bool.false_eq_true,if_false,Bool.true_and]
   by_cases h48 : gs.length ≤ 48
   ·have h1 : ¬ ((gs.length : Int) > 48) := by omega
    have h2 : (gs.length : Int) ≤ 48 := by omega
    simp only [h1,h2,h48,decide_false,decide_true,Bool.not_true,Bool.false_eq_true,if_false,Bool.true_and]
    cases (List.range' 0 gs.length).all (gcs rs gs) <;> simp
   ·have h1 : (gs.length : Int) > 48 := by omega
    have h2 : ¬ (gs.length : Int) ≤ 48 := by omega
    simp [h1,h2,h48]
theorem Z7u {gs : List Zaa.ty} (h : ∀ i,0 < i → i < gs.length → Lt3 (gAt gs (i - 1)) (gAt gs i)) : gs.Pairwise Lt3 := by
 have step : ∀ j i,i < j → j < gs.length → Lt3 (gAt gs i) (gAt gs j) := by
  intro j
  induction j with
  | zero => intro i hi; exact absurd hi (Nat.not_lt_zero _)
  | succ j ih =>
    intro i hi hj
    have h1 := h (j + 1) (by omega) hj
    rw [Nat.add_sub_cancel] at h1
    rcases Nat.lt_or_ge i j with hlt | hge
    ·exact Z5i (ih i hlt (by omega)) h1
    ·rw [show i = j by omega]; exact h1
 refine List.pairwise_iff_getElem.2 fun i j hi hj hij => ?_
 have := step j i hij hj
 simpa [gAt,List.getElem?_eq_getElem hi,List.getElem?_eq_getElem hj] using this
theorem vG_iff (rs : List T_Role.ty) (gs : List Zaa.ty) : vG rs gs = true ↔ roV rs = true ∧ gs.length ≤ 48 ∧ (∀ g,g ∈ gs → gc rs g = true) ∧ gs.Pairwise Lt3 := by
 unfold vG
 rw [Bool.and_eq_true,Bool.and_eq_true,decide_eq_true_eq,Zhw]
 constructor
 ·rintro ⟨h1,h2,h3⟩
  refine ⟨h1,h2,fun g hg => ?_,Z7u fun i hi hil => ?_⟩
  ·obtain ⟨i,hi⟩ := List.mem_iff_getElem?.1 hg
   have := h3 i (List.getElem?_eq_some_iff.1 hi).1
   simp only [gcs,Bool.and_eq_true] at this
   have he : gAt gs i = g := by simp [gAt,hi]
   rw [he] at this; exact this.1
  ·have := h3 i hil
   simp only [gcs,Bool.and_eq_true,Bool.or_eq_true,beq_iff_eq,decide_eq_true_eq] at this
   rcases this.2 with h | h
   ·omega
   ·exact h
 ·rintro ⟨h1,h2,h3,h4⟩
  refine ⟨h1,h2,fun i hi => ?_⟩
  simp only [gcs,Bool.and_eq_true,Bool.or_eq_true,beq_iff_eq,decide_eq_true_eq]
  refine ⟨h3 _ (Zht hi),?_⟩
  by_cases h0 : i = 0
  ·exact .inl h0
  ·right
   have := List.pairwise_iff_getElem.1 h4 (i - 1) i (by omega) hi (by omega)
   simpa [gAt,List.getElem?_eq_getElem hi,List.getElem?_eq_getElem (show i - 1 < gs.length by omega)] using this
structure Vd (rs : List T_Role.ty) (gs : List Zaa.ty) : Prop where
 v : vG rs gs = true
 sz : Sz rs
 gz : Gz gs
 up : Ups rs
 cl : Clo rs
 l48 : gs.length ≤ 48
 ok : ∀ g,g ∈ gs → (∃ j,fnd rs (gR g) = some j) ∧ isName (gO g) = true ∧ 1 ≤ gA g ∧ gA g ≤ 3
 gu : gs.Pairwise Lt3
theorem vd_of {rs : List T_Role.ty} {gs : List Zaa.ty} (hz : Sz rs) (hg : Gz gs) (h : vG rs gs = true) : Vd rs gs := by
 obtain ⟨h1,h2,h3,h4⟩ := (vG_iff rs gs).1 h
 have h5 := h1
 unfold roV at h5
 rw [Bool.and_eq_true] at h5
 refine ⟨h,hz,hg,rc_up h5.1,rc_clo hz h5.1,h2,fun g hgm => ?_,h4⟩
 have := h3 g hgm
 simp only [gc,Bool.and_eq_true,decide_eq_true_eq] at this
 exact ⟨Option.isSome_iff_exists.1 this.1,this.2⟩
theorem Vd.sub {rs : List T_Role.ty} {gs hs : List Zaa.ty} (V : Vd rs gs) (h : hs.Sublist gs) : Vd rs hs := by
 obtain ⟨h1,h2,h3,h4⟩ := (vG_iff rs gs).1 V.v
 have hle := h.length_le
 exact vd_of V.sz ⟨by have := V.gz.len; omega,fun g hg => V.gz.ob g (h.subset hg),fun g hg => V.gz.ac g (h.subset hg)⟩ ((vG_iff rs hs).2 ⟨h1,by omega,fun g hg => h3 g (h.subset hg),h4.sublist h⟩)
def May (rs : List T_Role.ty) (gs : List Zaa.ty) (a : Nat) (o : List UInt8) (act : Int) : Prop := ∃ g,g ∈ gs ∧ (∃ j,fnd rs (gR g) = some j ∧ (j = a ∨ Rch rs a j)) ∧ gO g = o ∧ act ≤ gA g
theorem Z72 {S : List (List UInt8 × Int)} (h : S.Nodup) (p : List UInt8 × Int) : (insR S p).Nodup ∧ ∀ q,q ∈ insR S p ↔ q ∈ S ∨ q = p := by
 unfold insR
 by_cases c : p ∈ S
 ·rw [if_pos c]
  refine ⟨h,fun q => ⟨.inl,fun hq => hq.elim id fun e => e ▸ c⟩⟩
 ·rw [if_neg c]
  refine ⟨?_,fun q => by rw [List.mem_append,List.mem_singleton]⟩
  rw [List.nodup_append]
  refine ⟨h,by simp,fun u hu v hv e => ?_⟩
  rw [List.mem_singleton] at hv
  subst hv; subst e; exact c hu
theorem Z1w (o : List UInt8) : ∀ (n : Nat) (a : Int) (S : List (List UInt8 × Int)),S.Nodup → (actsR o n a S).Nodup ∧ ∀ q,q ∈ actsR o n a S ↔ q ∈ S ∨ q.1 = o ∧ a ≤ q.2 ∧ q.2 < a + n
 | 0,a,S,h => ⟨h,fun q => ⟨.inl,fun hq => hq.elim id fun ⟨_,h1,h2⟩ => by omega⟩⟩
 | n + 1,a,S,h => by
   obtain ⟨h1,h2⟩ := Z72 h (o,a)
   obtain ⟨h3,h4⟩ := Z1w o n (a + 1) (insR S (o,a)) h1
   refine ⟨h3,fun q => ?_⟩
   show q ∈ actsR o n (a + 1) (insR S (o,a)) ↔ _
   rw [h4,h2]
   constructor
   ·rintro ((h | rfl) | ⟨e,h5,h6⟩)
    ·exact .inl h
    ·exact .inr ⟨rfl,Int.le_refl _,by omega⟩
    ·exact .inr ⟨e,by omega,by omega⟩
   ·rintro (h | ⟨e,h5,h6⟩)
    ·exact .inl (.inl h)
    ·rcases (by omega : a < q.2 ∨ q.2 ≤ a) with hlt | hge
     ·exact .inr ⟨e,by omega,by omega⟩
     ·refine .inl (.inr ?_)
      have : q.2 = a := by omega
      rw [← e,← this]
theorem rtG_ok {ns : List (List UInt8)} (hn : ns.length ≤ 1048576) : ∀ (gs : List Zaa.ty) (S : List (List UInt8 × Int)),(∀ g,g ∈ gs → (gO g).length ≤ 1048576 ∧ gA g ≤ 1000) → S.Nodup →
 ∃ T,rtG Zab ns gs S = some T ∧ T.Nodup ∧ ∀ q,q ∈ T ↔ q ∈ S ∨ ∃ g,g ∈ gs ∧ gR g ∈ ns ∧ q.1 = gO g ∧ 1 ≤ q.2 ∧ q.2 ≤ gA g
 | [],S,_,h => ⟨S,rfl,h,fun q => ⟨.inl,fun hq => hq.elim id fun ⟨_,hg,_⟩ => (by cases hg)⟩⟩
 | g :: gs,S,hb,h => by
   obtain ⟨b1,b2⟩ := hb g List.mem_cons_self
   have e : rtG Zab ns (g :: gs) S = rtG Zab ns gs (if decide (gR g ∈ ns) = true then actsR (gO g) (gA g).toNat 1 S else S) := by
    rw [rtG,if_pos ⟨b1,b2⟩]
    have : Zab ns g.1 = some (decide (gR g ∈ ns)) := Zj6 hn _
    rw [this]; rfl
   rw [e]
   by_cases c : gR g ∈ ns
   ·rw [if_pos (by simpa using c)]
    obtain ⟨h1,h2⟩ := Z1w (gO g) (gA g).toNat 1 S h
    obtain ⟨T,e1,h3,h4⟩ := rtG_ok hn gs _ (fun x hx => hb x (List.mem_cons_of_mem _ hx)) h1
    refine ⟨T,e1,h3,fun q => ?_⟩
    rw [h4,h2]
    constructor
    ·rintro ((h | ⟨e,h5,h6⟩) | ⟨x,hx,h5⟩)
     ·exact .inl h
     ·exact .inr ⟨g,List.mem_cons_self,c,e,h5,by omega⟩
     ·exact .inr ⟨x,List.mem_cons_of_mem _ hx,h5⟩
    ·rintro (h | ⟨x,hx,h5,e',h6,h7⟩)
     ·exact .inl (.inl h)
     ·rcases List.mem_cons.1 hx with rfl | hx
      ·exact .inl (.inr ⟨e',h6,by omega⟩)
      ·exact .inr ⟨x,hx,h5,e',h6,h7⟩
   ·rw [if_neg (by simpa using c)]
    obtain ⟨T,e1,h3,h4⟩ := rtG_ok hn gs S (fun x hx => hb x (List.mem_cons_of_mem _ hx)) h
    refine ⟨T,e1,h3,fun q => ?_⟩
    rw [h4]
    constructor
    ·rintro (h | ⟨x,hx,h5⟩)
     ·exact .inl h
     ·exact .inr ⟨x,List.mem_cons_of_mem _ hx,h5⟩
    ·rintro (h | ⟨x,hx,h5,h6⟩)
     ·exact .inl h
     ·rcases List.mem_cons.1 hx with rfl | hx
      ·exact absurd h5 c
      ·exact .inr ⟨x,hx,h5,h6⟩
theorem Zk3 {rs : List T_Role.ty} {gs : List Zaa.ty} (V : Vd rs gs) {nm : List UInt8} {a : Nat} (hf : fnd rs nm = some a) : ∃ S,rtF Zan Zab rs gs nm = some S ∧ S.Nodup ∧ ∀ p,p ∈ S ↔ 1 ≤ p.2 ∧ May rs gs a p.1 p.2 := by
 have hl := V.gz.len
 have hl2 : rs.length ≤ 1000 := V.sz.len
 obtain ⟨ys,e,hyl,hym⟩ := Zsp (show rs.length ≤ 1048576 by omega) V.cl hf
 obtain ⟨T,e2,h1,h2⟩ := rtG_ok (ns := ys ++ [nm]) (by simp; omega) gs [] (fun g hg => ⟨V.gz.ob g hg,(V.gz.ac g hg).2⟩) List.nodup_nil
 refine ⟨T,?_,h1,fun p => ?_⟩
 ·rw [rtF,if_pos hl,e]
  show (if ys.length ≤ 1000000 then _ else _) = _
  rw [if_pos (by omega)]; exact e2
 ·rw [h2]
  have hn : ∀ x,x ∈ ys ++ [nm] ↔ ∃ j,fnd rs x = some j ∧ (j = a ∨ Rch rs a j) := fun x => by
   rw [List.mem_append,List.mem_singleton,hym]
   constructor
   ·rintro (⟨j,hj,hR⟩ | rfl)
    ·exact ⟨j,hj,.inr hR⟩
    ·exact ⟨a,hf,.inl rfl⟩
   ·rintro ⟨j,hj,rfl | hR⟩
    ·exact .inr (Zyf hj hf)
    ·exact .inl ⟨j,hj,hR⟩
  constructor
  ·rintro (h | ⟨g,hg,h3,h4,h5,h6⟩)
   ·cases h
   ·exact ⟨h5,g,hg,(hn _).1 h3,h4.symm,h6⟩
  ·rintro ⟨h5,g,hg,h3,h4,h6⟩
   exact .inr ⟨g,hg,(hn _).2 h3,h4.symm,h5,h6⟩
def PQ (L : Nat) (out : List (List UInt8 × List (List UInt8))) : Prop := ∀ p,p ∈ out → p.1.length ≤ 20 ∧ p.2.length ≤ L
theorem PQ.nm {L : Nat} {out : List (List UInt8 × List (List UInt8))} (h : PQ L out) (k : Nat) : (nmAt out k).length ≤ 20 ∧ (unAt out k).length ≤ L := by
 unfold nmAt unAt
 cases hk : out[k]? with
 | none => simp
 | some p => exact h p (List.mem_of_getElem? hk)
theorem PQ.set {L : Nat} {out : List (List UInt8 × List (List UInt8))} (h : PQ L out) (i : Nat) {p : List UInt8 × List (List UInt8)} {M : Nat} (hM : L ≤ M) (hp : p.1.length ≤ 20 ∧ p.2.length ≤ M) : PQ M (out.set i p) := fun q hq => by
 rcases List.mem_or_eq_of_mem_set hq with hq | rfl
 ·have := h q hq; exact ⟨this.1,by omega⟩
 ·exact hp
theorem PQ.up {L M : Nat} {out : List (List UInt8 × List (List UInt8))} (h : PQ L out) (hM : L ≤ M) : PQ M out := fun q hq => ⟨(h q hq).1,by have := (h q hq).2; omega⟩
theorem Zqi : ∀ (ns : List (List UInt8)) (x : Zac.ty) (out : List (List UInt8 × List (List UInt8))) (c : Int),SrcOk x c → c + 2 * (ns.length : Int) ≤ 1000000 → PQ 0 out → (∀ n,n ∈ ns → n.length ≤ 20) →
 ∃ x' out',drNames Zbm ns x out = some (x',out') ∧ SrcOk x' (c + 2 * (ns.length : Int)) ∧ out'.length ≤ out.length + ns.length ∧ PQ 0 out'
 | [],x,out,c,hs,hc,h,hn => ⟨x,out,rfl,hs.up (by simp),by simp,h⟩
 | n :: ns,x,out,c,hs,hc,h,hn => by
   rw [List.length_cons] at hc ⊢
   obtain ⟨b,x1,e,k⟩ := one_ok hs (by omega) 5 (by omega)
   rw [drNames,e,Option.bind_some]
   have hns := fun m hm => hn m (List.mem_cons_of_mem _ hm)
   cases b with
   | true =>
     obtain ⟨x',out',e',k',hl,hq⟩ := Zqi ns x1 out (c + 2) k (by omega) h hns
     exact ⟨x',out',e',k'.up (by omega),by omega,hq⟩
   | false =>
     obtain ⟨x',out',e',k',hl,hq⟩ := Zqi ns x1 (out ++ [(n,[])]) (c + 2) k (by omega) (fun p hp => by
      rcases List.mem_append.1 hp with hp | hp
      ·exact h p hp
      ·rw [List.mem_singleton] at hp; subst hp; exact ⟨hn n List.mem_cons_self,by simp⟩) hns
     rw [List.length_append,List.length_singleton] at hl
     exact ⟨x',out',e',k'.up (by omega),by omega,hq⟩
theorem Zxy (i : Nat) : ∀ (m k : Nat) (x : Zac.ty) (out : List (List UInt8 × List (List UInt8))) (c : Int) (L : Nat),SrcOk x c → c + 2 * (m : Int) ≤ 1000000 → PQ L out →
 ∃ x' out',drIn Zbm i m k x out = some (x',out') ∧ SrcOk x' (c + 2 * (m : Int)) ∧ out'.length = out.length ∧ PQ (L + m) out'
 | 0,k,x,out,c,L,hs,hc,h => ⟨x,out,rfl,hs.up (by simp),rfl,h⟩
 | m + 1,k,x,out,c,L,hs,hc,h => by
   obtain ⟨b,x1,e,k1⟩ := one_ok hs (by omega) 3 (by omega)
   rw [drIn,e,Option.bind_some]
   cases b with
   | false =>
     obtain ⟨x',out',e',k',hl,hq⟩ := Zxy i m (k + 1) x1 out (c + 2) L k1 (by omega) h
     exact ⟨x',out',e',k'.up (by omega),hl,hq.up (by omega)⟩
   | true =>
     have hq1 : PQ (L + 1) (out.set i (nmAt out i,unAt out i ++ [nmAt out k])) := h.set i (by omega) ⟨(h.nm i).1,by have := (h.nm i).2; simp; omega⟩
     obtain ⟨x',out',e',k',hl,hq⟩ := Zxy i m (k + 1) x1 _ (c + 2) (L + 1) k1 (by omega) hq1
     exact ⟨x',out',e',k'.up (by omega),by rw [hl,List.length_set],hq.up (by omega)⟩
theorem Z0q : ∀ (m i : Nat) (x : Zac.ty) (out : List (List UInt8 × List (List UInt8))) (c : Int) (L : Nat),SrcOk x c → out.length ≤ 5 → c + 20 * (m : Int) ≤ 1000000 → PQ L out →
 ∃ x' out',drOut Zbm m i x out = some (x',out') ∧ SrcOk x' (c + 20 * (m : Int)) ∧ out'.length = out.length ∧ PQ (L + 5 * m) out'
 | 0,i,x,out,c,L,hs,hl,hc,h => ⟨x,out,rfl,hs.up (by simp),rfl,h⟩
 | m + 1,i,x,out,c,L,hs,hl,hc,h => by
   obtain ⟨x1,out1,e,k1,hl1,hq1⟩ := Zxy i (out.length - (i + 1)) (i + 1) x out c L hs (by omega) h
   rw [drOut,e,Option.bind_some]
   obtain ⟨x',out',e',k',hl',hq'⟩ := Z0q m (i + 1) x1 out1 _ _ (k1.up (d := c + 20) (by omega)) (by omega) (by omega) hq1
   exact ⟨x',out',e',k'.up (by omega),by omega,hq'.up (by omega)⟩
theorem drF_ok {s : Zac.ty} (hs : SrcOk s 0) : ∃ x ys,drF Zbm Zak Zbb Zbe s = some (x,ys) ∧ SrcOk x 1000 ∧ ys.length ≤ 13 ∧ PQ 100 ys := by
 obtain ⟨x1,o1,e1,k1,l1,q1⟩ := Zqi rlNames s [] 0 hs (by decide) (fun p hp => (by cases hp)) (by decide)
 have hr : rlNames.length = 5 := rfl
 rw [hr] at l1 k1
 have l1' : o1.length ≤ 5 := by simpa using l1
 obtain ⟨x2,o2,e2,k2,l2,q2⟩ := Z0q o1.length 0 x1 o1 _ 0 k1 l1' (by omega) q1
 obtain ⟨c,x3,e3,k3,c0,c1⟩ := Ze1 k2 (by omega) 24 (by omega)
 have k3' := k3.up (d := 200) (by omega)
 have q2' : PQ 25 o2 := q2.up (by omega)
 unfold drF
 rw [e1,Option.bind_some,e2,Option.bind_some,e3,Option.bind_some]
 simp only
 by_cases h0 : c = 0
 ·rw [if_pos h0]
  refine ⟨_,_,rfl,k3'.up (by omega),?_,?_⟩
  ·split
   ·rw [List.length_set]; omega
   ·omega
  ·split
   ·exact q2'.set _ (by omega) ⟨(q2'.nm _).1,by simp⟩
   ·exact q2'.up (by omega)
 ·rw [if_neg h0]
  by_cases h1 : c = 1
  ·rw [if_pos h1]
   by_cases hp : 0 < o2.length
   ·rw [if_pos hp]
    obtain ⟨j,x4,e4,k4,j0,j1⟩ := Ze1 k3' (by omega) (o2.length : Int) (by omega)
    rw [e4,Option.bind_some]
    rw [if_pos (show 0 ≤ j ∧ j < (o2.length : Int) from ⟨j0,by omega⟩)]
    obtain ⟨t,x5,e5,k5,ht⟩ := Zmm k4 (by omega) [[122,122],[97,103,101,110,116],[118,97,114,110,105,115,104,101,114]] (by decide) (by decide)
    rw [e5,Option.bind_some]
    refine ⟨_,_,rfl,k5.up (by omega),by rw [List.length_set]; omega,q2'.set _ (by omega) ⟨(q2'.nm _).1,by simp⟩⟩
   ·rw [if_neg hp]
    exact ⟨_,_,rfl,k3'.up (by omega),by omega,q2'.up (by omega)⟩
  ·rw [if_neg h1]
   by_cases h2 : c = 2
   ·rw [if_pos h2]
    obtain ⟨q,x4,e4,k4,hq⟩ := Zql k3' (by omega) [12,13] (by decide) (by decide)
    have hq' : q = 12 ∨ q = 13 := by simpa using hq
    rw [e4,Option.bind_some]
    rw [if_pos (show 0 ≤ q ∧ q ≤ 100 by omega)]
    refine ⟨_,_,rfl,k4.up (by omega),by simp; omega,fun p hp => ?_⟩
    obtain ⟨k,_,rfl⟩ := List.mem_map.1 hp
    simp
   ·rw [if_neg h2]
    exact ⟨_,_,rfl,k3'.up (by omega),by omega,q2'.up (by omega)⟩
theorem Z4q {s : Zac.ty} (hs : SrcOk s 0) : ∃ rs x,Zgq s = some (rs,x) ∧ SrcOk x 1000 ∧ rs.length ≤ 13 ∧ Sz rs := by
 obtain ⟨x,ys,e,k,hl,hq⟩ := drF_ok hs
 refine ⟨ys.map toRole,x,by rw [Zqj,e]; rfl,k,by simpa using hl,by simp; omega,fun r hr => ?_,fun r hr => ?_⟩
 ·obtain ⟨p,hp,rfl⟩ := List.mem_map.1 hr
  have := (hq p hp).1
  show p.1.length ≤ _
  omega
 ·obtain ⟨p,hp,rfl⟩ := List.mem_map.1 hr
  have := (hq p hp).2
  show p.2.length ≤ _
  omega
def Gk (g : Zaa.ty) : Prop := (gO g).length ≤ 20 ∧ 0 ≤ gA g ∧ gA g ≤ 4
theorem Z1q {s : Zac.ty} {c : Int} (hs : SrcOk s c) (hc : c ≤ 1000000) {rs : List T_Role.ty} (hl : rs.length ≤ 13) : ∃ g x,Ze9 s rs = some (g,x) ∧ SrcOk x (c + 20) ∧ Gk g := by
 obtain ⟨o,s1,e1,k1,ho⟩ := Zmm hs (by omega) [[98,111,119],[112,108,97,116,101],[115,116,111,99,107]] (by decide) (by decide)
 have ho' : o.length ≤ 20 := (by decide : ∀ t,t ∈ [[98,111,119],[112,108,97,116,101],[115,116,111,99,107]] → (t : List UInt8).length ≤ 20) o ho
 have e1' : Zce s = some (o,s1) := by
  rw [Zhs,e1,Option.bind_some]
 obtain ⟨a,s2,e2,k2,a0,a1⟩ := Ze1 k1 (by omega) 3 (by omega)
 have ha : IntKind.i64.wrap (1 + a) = 1 + a := w64 (by omega) (by omega)
 have fin : ∀ (s3 : Zac.ty) (r : List UInt8),SrcOk s3 (c + 10) → ∃ g x,Zdr s3.1 s3.2.1 s3.2.2.1 [] [] 0 r o (1 + a) = some (g,x) ∧ SrcOk x (c + 20) ∧ Gk g := fun s3 r k3 => by
  obtain ⟨q,s4,e4,k4,q0,q1⟩ := Ze1 k3 (by omega) 24 (by omega)
  obtain ⟨u,s5,e5,k5,hu⟩ := Zql k4 (by omega) [0,4] (by decide) (by decide)
  obtain ⟨v,s6,e6,k6,hv⟩ := Zmm k4 (by omega) [[122,122],[]] (by decide) (by decide)
  obtain ⟨z,s7,e7,k7,hz⟩ := Zmm k4 (by omega) [[],[66]] (by decide) (by decide)
  have hu' : u = 0 ∨ u = 4 := by simpa using hu
  have hz' : z.length ≤ 20 := (by decide : ∀ t,t ∈ [[],[66]] → (t : List UInt8).length ≤ 20) z hz
  rw [Zpw]
  simp only [Zb9,e4,e5,e6,e7,Option.bind_some]
  split
  ·refine ⟨_,_,rfl,k5.up (by omega),ho',?_,?_⟩
   ·show (0 : Int) ≤ u; omega
   ·show (u : Int) ≤ 4; omega
  ·split
   ·refine ⟨_,_,rfl,k6.up (by omega),ho',?_,?_⟩
    ·show (0 : Int) ≤ 1 + a; omega
    ·show (1 + a : Int) ≤ 4; omega
   ·split
    ·refine ⟨_,_,rfl,k7.up (by omega),hz',?_,?_⟩
     ·show (0 : Int) ≤ 1 + a; omega
     ·show (1 + a : Int) ≤ 4; omega
    ·refine ⟨_,_,rfl,k4.up (by omega),ho',?_,?_⟩
     ·show (0 : Int) ≤ 1 + a; omega
     ·show (1 + a : Int) ≤ 4; omega
 rw [Zst]
 simp only [e1',Zb9,e2,Option.bind_some,ha]
 by_cases hp : (rs.length : Int) > 0
 ·obtain ⟨j,s3,e3,k3,j0,j1⟩ := Ze1 k2 (by omega) (rs.length : Int) (by omega)
  have hj : j.toNat < rs.length := by omega
  simp only [hp,decide_true,if_true,e3,Option.bind_some,j0,List.getElem?_eq_getElem hj]
  exact fin s3 _ (k3.up (by omega))
 ·simp only [hp,decide_false,Bool.false_eq_true,if_false]
  exact fin s2 _ (k2.up (by omega))
def Gks (gs : List Zaa.ty) (L : Nat) : Prop := gs.length ≤ L ∧ ∀ g,g ∈ gs → Gk g
theorem Gks.gz {gs : List Zaa.ty} {L : Nat} (h : Gks gs L) (hL : L ≤ 1000) : Gz gs := ⟨by have := h.1; omega,fun g hg => by have := (h.2 g hg).1; omega,fun g hg => by have := (h.2 g hg).2; omega⟩
theorem Gks.add {gs : List Zaa.ty} {L : Nat} (h : Gks gs L) {g : Zaa.ty} (hg : Gk g) : Gks (gs ++ [g]) (L + 1) := ⟨by have := h.1; simp; omega,fun x hx => by
 rcases List.mem_append.1 hx with hx | hx
 ·exact h.2 x hx
 ·rw [List.mem_singleton] at hx; subst hx; exact hg⟩
theorem Z29 {gs : List Zaa.ty} (hl : gs.length ≤ 1000) (r o : List UInt8) (a : Int) : ∀ (k i : Nat),i + k = gs.length → ∃ j : Nat,i ≤ j ∧ j ≤ gs.length ∧ Zeo gs i r o a = Zeh gs j r o a
 | 0,i,h => by
   have h1 : ¬ (i : Int) < (gs.length : Int) := by omega
   rw [Zjf]
   simp only [h1,decide_false,Bool.false_eq_true,if_false]
   exact ⟨i,Nat.le_refl _,by omega,rfl⟩
 | k + 1,i,h => by
   have h1 : (i : Int) < (gs.length : Int) := by omega
   obtain ⟨j,j0,j1,e⟩ := Z29 hl r o a k (i + 1) (by omega)
   rw [Zjf]
   simp only [h1,Int.natCast_nonneg,decide_true,if_true,Int.toNat_natCast,Zdk (show i < gs.length by omega),Option.bind_some,Zyw,wsucc (show i < 4611686018427387904 by omega),e]
   split
   ·exact ⟨j,by omega,j1,rfl⟩
   ·exact ⟨i,Nat.le_refl _,by omega,rfl⟩
theorem Z8k {rs : List T_Role.ty} (hz : Sz rs) {gs : List Zaa.ty} {L : Nat} (hg : Gks gs L) (hL : L ≤ 900) {g : Zaa.ty} (hk : Gk g) : ∃ out c,Zg1 rs gs g = some (out,c) ∧ (c = 0 → Gks out (L + 1)) := by
 have hgz := hg.gz (by omega)
 have hl := hg.1
 rw [Zvw,(Zp9 hz hgz).1,Option.bind_some]
 cases vG rs gs with
 | false => exact ⟨_,_,rfl,fun h => (by cases h)⟩
 | true =>
   simp only [Bool.not_true,Bool.false_eq_true,if_false]
   rw [(Zsx hz g (by have := hk.1; omega)).1,Option.bind_some]
   cases gc rs g with
   | false => exact ⟨_,_,rfl,fun h => (by cases h)⟩
   | true =>
     simp only [Bool.not_true,Bool.false_eq_true,if_false]
     obtain ⟨j,_,j1,e⟩ := Z29 (show gs.length ≤ 1000 by omega) g.1 g.2.1 g.2.2.1 gs.length 0 (by omega)
     rw [show ((0 : Nat) : Int) = 0 from rfl] at e
     rw [e]
     have p2 : ∃ out c,Zet gs j g.1 g.2.1 g.2.2.1 = some (out,c) ∧ (c = 0 → Gks out (L + 1)) := by
      rw [Zrl]
      by_cases h48 : ((gs.length : Int) == 48) = true
      ·rw [if_pos h48]; exact ⟨_,_,rfl,fun h => (by cases h)⟩
      ·rw [if_neg h48]
       have hj : (j : Int) ≤ (gs.length : Int) := by omega
       have l1 : 0 + (gs.take j).length < lim := by unfold lim; simp; omega
       have l2 : ([] ++ gs.take j).length + 1 < lim := by unfold lim; simp; omega
       have l3 : ((([] ++ gs.take j).take ([] ++ gs.take j).length) ++ [(g.1,g.2.1,g.2.2.1,())]).length + (gs.drop j).length < lim := by unfold lim; simp; omega
       simp only [hj,Int.natCast_nonneg,decide_true,Bool.and_self,if_true,Int.toNat_natCast,l1,l2,l3]
       refine ⟨_,_,rfl,fun _ => ⟨by simp; omega,fun x hx => ?_⟩⟩
       simp only [List.nil_append,List.take_length] at hx
       rcases List.mem_append.1 hx with hx | hx
       ·rcases List.mem_append.1 hx with hx | hx
        ·exact hg.2 x (List.mem_of_mem_take hx)
        ·rw [List.mem_singleton] at hx; subst hx; exact hk
       ·exact hg.2 x (List.mem_of_mem_drop hx)
     rw [Zr1]
     by_cases hlt : (j : Int) < (gs.length : Int)
     ·simp only [hlt,Int.natCast_nonneg,decide_true,if_true,Int.toNat_natCast,Zdk (show j < gs.length by omega),Option.bind_some]
      split
      ·exact ⟨_,_,rfl,fun h => (by cases h)⟩
      ·exact p2
     ·simp only [hlt,decide_false,Bool.false_eq_true,if_false]; exact p2
theorem Z26 {rs : List T_Role.ty} {s : Zac.ty} {n : Int} (hn : n ≤ 49) : ∀ (k i : Nat) (gs : List Zaa.ty),(i : Int) + k = n → Gks gs i → ∃ out,Zfd rs n i s.1 s.2.1 s.2.2.1 gs = some (rs,out,s) ∧ Gks out 49
 | 0,i,gs,h,hg => by
   have h1 : ¬ (i : Int) < n := by omega
   rw [Zk2]
   simp only [h1,decide_false,Bool.false_eq_true,if_false,List.take_length,Zb9]
   exact ⟨gs,rfl,by have := hg.1; omega,hg.2⟩
 | k + 1,i,gs,h,hg => by
   have h1 : (i : Int) < n := by omega
   rw [Zk2]
   simp only [h1,decide_true,if_true]
   by_cases hp : (rs.length : Int) > 0
   ·simp only [hp,decide_true,if_true]
    have h0 : rs[0]? = some (rAt rs 0) := Zch (by omega)
    have l2 : gs.length + 1 < lim := by have := hg.1; unfold lim; omega
    rw [Zr6,h0,Option.bind_some]
    split
    ·rw [if_pos (decide_eq_true l2),List.take_length,wsucc (show i < 4611686018427387904 by omega)]
     refine Z26 hn k (i + 1) _ (by omega) (hg.add ⟨by simp [gO],?_,?_⟩)
     ·show (0 : Int) ≤ IntKind.i64.wrap (1 + ((i : Int).tmod 3))
      rw [Zgf (by omega),w64 (by omega) (by omega)]; omega
     ·show IntKind.i64.wrap (1 + ((i : Int).tmod 3)) ≤ 4
      rw [Zgf (by omega),w64 (by omega) (by omega)]; omega
    ·rename_i hne
     exact absurd (by simp [strMax]) hne
   ·simp only [hp,decide_false,Bool.false_eq_true,if_false,List.take_length,Zb9]
    exact ⟨gs,rfl,by have := hg.1; omega,hg.2⟩
theorem Zx5 {rs : List T_Role.ty} (hz : Sz rs) (hl : rs.length ≤ 13) : ∀ (k : Nat) (s : Zac.ty) (gs : List Zaa.ty) (c : Int) (L : Nat),SrcOk s c → c + 20 * (k : Int) ≤ 10000 → Gks gs L → L + k ≤ 40 →
 ∃ out s',Zds rs k s.1 s.2.1 s.2.2.1 gs = some (rs,out,s') ∧ SrcOk s' 20000 ∧ Gks out 49
 | 0,s,gs,c,L,hs,hc,hg,hL => by
   have h1 : ¬ (((0 : Nat) : Int) > 0) := by omega
   obtain ⟨q,s1,e1,k1,q0,q1⟩ := Ze1 hs (by omega) 20 (by omega)
   rw [Zkg]
   simp only [h1,decide_false,Bool.false_eq_true,if_false,Zb9,e1,Option.bind_some]
   have hgl := hg.1
   split
   ·obtain ⟨g,s2,e2,k2,hk⟩ := Z1q k1 (by omega) hl
    have l2 : gs.length + 1 < lim := by unfold lim; omega
    simp only [e2,Option.bind_some,l2,decide_true,if_true,List.take_length,Zb9]
    refine ⟨_,s2,rfl,k2.up (by omega),?_⟩
    have h9 : Gks (gs ++ [(g.1,g.2.1,g.2.2.1,())]) (L + 1) := hg.add hk
    exact ⟨by have := h9.1; omega,h9.2⟩
   ·split
    ·obtain ⟨n,s2,e2,k2,hn⟩ := Zql k1 (by omega) [48,49] (by decide) (by decide)
     have hn' : n = 48 ∨ n = 49 := by simpa using hn
     simp only [e2,Option.bind_some]
     obtain ⟨out,e3,hk⟩ := Z26 (rs := rs) (s := s2) (n := n) (by omega) n.toNat 0 [] (by omega) ⟨by simp,fun x hx => (by cases hx)⟩
     exact ⟨out,s2,e3,k2.up (by omega),hk⟩
    ·rw [List.take_length]
     exact ⟨gs,s1,rfl,k1.up (by omega),by omega,hg.2⟩
 | k + 1,s,gs,c,L,hs,hc,hg,hL => by
   have h1 : (((k + 1 : Nat) : Int) > 0) := by omega
   obtain ⟨g,s1,e1,k1,hk⟩ := Z1q hs (by omega) hl
   obtain ⟨out,cd,e2,h2⟩ := Z8k hz hg (by omega) hk
   have hw : IntKind.i64.wrap (((k + 1 : Nat) : Int) - 1) = (k : Int) := by rw [w64 (by omega) (by omega)]; omega
   have e2' : Zg1 rs gs (g.1,g.2.1,g.2.2.1,()) = some (out,cd) := e2
   rw [Zkg]
   simp only [h1,decide_true,if_true,Zb9,e1,Option.bind_some,List.take_length,e2',hw]
   by_cases h0 : cd = 0
   ·rw [if_pos (by simpa using h0)]
    exact Zx5 hz hl k s1 out (c + 20) (L + 1) k1 (by omega) (h2 h0) (by omega)
   ·rw [if_neg (by simpa using h0)]
    exact Zx5 hz hl k s1 gs (c + 20) (L + 1) k1 (by omega) ⟨by have := hg.1; omega,hg.2⟩ (by omega)
theorem Z28 {s : Zac.ty} (hs : SrcOk s 0) : ∃ rs gs s',Ziu s = some (rs,gs,s') ∧ SrcOk s' 20000 ∧ rs.length ≤ 13 ∧ Sz rs ∧ Gks gs 49 := by
 obtain ⟨rs,s1,e1,k1,hl,hz⟩ := Z4q hs
 obtain ⟨q,s2,e2,k2,q0,q1⟩ := Ze1 k1 (by omega) 9 (by omega)
 obtain ⟨gs,s3,e3,k3,hg⟩ := Zx5 hz hl q.toNat s2 [] _ 0 k2 (by omega) ⟨by simp,fun x hx => (by cases hx)⟩ (by omega)
 refine ⟨rs,gs,s3,?_,k3,hl,hz,hg⟩
 rw [Zws]
 simp only [e1,Option.bind_some,Zb9,e2]
 rw [show ((q.toNat : Nat) : Int) = q by omega] at e3
 exact e3
def Has (rs : List T_Role.ty) (gs : List Zaa.ty) (n : List UInt8) (p : List UInt8 × Int) : Prop := ∃ a,fnd rs n = some a ∧ 1 ≤ p.2 ∧ May rs gs a p.1 p.2
theorem rwG_ok {rs : List T_Role.ty} {gs : List Zaa.ty} (V : Vd rs gs) (ps : List (List UInt8 × Int)) : ∀ (l : List T_Role.ty) (out : List (List UInt8)),(∀ r,r ∈ l → r ∈ rs) → ∃ ys,rwG Zan Zab rs gs ps l out = some ys ∧ ys.length ≤ out.length + l.length ∧
 ∀ n,n ∈ ys ↔ n ∈ out ∨ ∃ r,r ∈ l ∧ rN r = n ∧ ∀ p,p ∈ ps → Has rs gs n p
 | [],out,_ => ⟨out,rfl,by simp,fun n => ⟨.inl,fun h => h.elim id fun ⟨_,h,_⟩ => (by cases h)⟩⟩
 | r :: l,out,hr => by
   obtain ⟨i,hi⟩ := List.mem_iff_getElem?.1 (hr r List.mem_cons_self)
   have hf := V.up.fnd hi
   obtain ⟨S,eS,nS,mS⟩ := Zk3 V hf
   have hiff : (ps.all fun p => decide (p ∈ S)) = true ↔ ∀ p,p ∈ ps → Has rs gs (rN r) p := by
    rw [List.all_eq_true]
    constructor
    ·intro h p hp
     have := (mS p).1 (by simpa using h p hp)
     exact ⟨i,hf,this⟩
    ·intro h p hp
     obtain ⟨a,ha,h2⟩ := h p hp
     rw [hf] at ha; cases ha
     simpa using (mS p).2 h2
   have e : rwG Zan Zab rs gs ps (r :: l) out = rwG Zan Zab rs gs ps l (if (ps.all fun p => decide (p ∈ S)) = true then out ++ [rN r] else out) := by
    rw [rwG]
    show (rtF Zan Zab rs gs (rN r)).bind _ = _
    rw [eS]; rfl
   rw [e]
   obtain ⟨ys,e1,h1,h2⟩ := rwG_ok V ps l (if (ps.all fun p => decide (p ∈ S)) = true then out ++ [rN r] else out) (fun x hx => hr x (List.mem_cons_of_mem _ hx))
   refine ⟨ys,e1,?_,fun n => ?_⟩
   ·rw [List.length_cons]
    by_cases c : (ps.all fun p => decide (p ∈ S)) = true
    ·rw [if_pos c] at h1; simp at h1; omega
    ·rw [if_neg c] at h1; omega
   ·rw [h2]
    by_cases c : (ps.all fun p => decide (p ∈ S)) = true
    ·rw [if_pos c,List.mem_append,List.mem_singleton]
     constructor
     ·rintro ((h | rfl) | ⟨x,hx,h3⟩)
      ·exact .inl h
      ·exact .inr ⟨r,List.mem_cons_self,rfl,hiff.1 c⟩
      ·exact .inr ⟨x,List.mem_cons_of_mem _ hx,h3⟩
     ·rintro (h | ⟨x,hx,h3,h4⟩)
      ·exact .inl (.inl h)
      ·rcases List.mem_cons.1 hx with rfl | hx
       ·exact .inl (.inr h3.symm)
       ·exact .inr ⟨x,hx,h3,h4⟩
    ·rw [if_neg c]
     constructor
     ·rintro (h | ⟨x,hx,h3⟩)
      ·exact .inl h
      ·exact .inr ⟨x,List.mem_cons_of_mem _ hx,h3⟩
     ·rintro (h | ⟨x,hx,h3,h4⟩)
      ·exact .inl h
      ·rcases List.mem_cons.1 hx with rfl | hx
       ·exact absurd (hiff.2 (by rw [h3]; exact h4)) c
       ·exact .inr ⟨x,hx,h3,h4⟩
theorem Z1k {rs : List T_Role.ty} {gs : List Zaa.ty} (V : Vd rs gs) (ps : List Zoj.ty) (hl : ps.length ≤ 1000) (hp : ∀ p,p ∈ ps → List.length (α := UInt8) p.1 ≤ 1048576 ∧ (-1000000 : Int) ≤ p.2.1 ∧ (p.2.1 : Int) ≤ 1000000) :
 ∃ ys,Zjv rs gs ps = some ys ∧ ys.length ≤ 1000 ∧ ∀ n,n ∈ ys ↔ ∃ r,r ∈ rs ∧ rN r = n ∧ ∀ p,p ∈ ps → Has rs gs n (rightP p) := by
 obtain ⟨ys,e,h1,h2⟩ := rwG_ok V (ps.map rightP) rs [] (fun r hr => hr)
 have hr := V.sz.len
 refine ⟨ys,?_,by simp at h1; omega,fun n => ?_⟩
 ·have hc : (ps.all fun x => decide (x.1.length ≤ 1048576 ∧ -1000000 ≤ x.2.1 ∧ x.2.1 ≤ 1000000)) = true := by
   rw [List.all_eq_true]
   intro p hpm
   exact decide_eq_true (hp p hpm)
  rw [Zuc,rwF,if_pos ⟨hr,hl,hc⟩]
  exact e
 ·rw [h2]
  constructor
  ·rintro (h | ⟨r,hr,h3,h4⟩)
   ·cases h
   ·exact ⟨r,hr,h3,fun p hp => h4 _ (List.mem_map_of_mem hp)⟩
  ·rintro ⟨r,hr,h3,h4⟩
   refine .inr ⟨r,hr,h3,fun p hp => ?_⟩
   obtain ⟨p',hp',rfl⟩ := List.mem_map.1 hp
   exact h4 p' hp'
theorem Z8i {rs : List T_Role.ty} {gs : List Zaa.ty} (V : Vd rs gs) {a : Nat} {o : List UInt8} {act : Int} (h : May rs gs a o act) : act ≤ 3 := by
 obtain ⟨g,hg,_,_,h1⟩ := h
 have := (V.ok g hg).2.2.2
 omega
theorem Zxw {l : List Int} (h : l.length ≤ 1048576) : Zfp l = some false := by
 rw [Zny]
 have : ¬ ((l.length : Int) > 1048576) := by omega
 simp [this]
theorem Z3j {l : List Int} (h : ¬ l.length ≤ 1048576) : Zfp l = some true := by
 rw [Zny]
 have : (l.length : Int) > 1048576 := by omega
 simp [this]
theorem Z6o (code : List Int) (h1 : ∀ x,x ∈ code → 0 ≤ x ∧ x ≤ 255) (h2 : code.length ≤ 1048576) : ∃ rs gs o a,Zin code = some (rs,gs,o,a) ∧ Sz rs ∧ Gks gs 49 ∧ List.length (α := UInt8) o ≤ 20 ∧ (0 : Int) ≤ a ∧ a ≤ 4 := by
 obtain ⟨s,e,k⟩ := Z2y code h1 h2
 obtain ⟨rs,gs,s1,e1,k1,hl,hz,hg⟩ := Z28 k
 obtain ⟨o,s2,e2,k2,ho⟩ := Zmm k1 (by omega) [[98,111,119],[112,108,97,116,101],[115,116,111,99,107]] (by decide) (by decide)
 have ho' : o.length ≤ 20 := (by decide : ∀ t,t ∈ [[98,111,119],[112,108,97,116,101],[115,116,111,99,107]] → (t : List UInt8).length ≤ 20) o ho
 have e2' : Zce s1 = some (o,s2) := by
  rw [Zhs,e2,Option.bind_some]
 obtain ⟨a,s3,e3,k3,ha⟩ := Zql k2 (by omega) [1,2,3,1,2,3,0,4] (by decide) (by decide)
 have ha' : a = 1 ∨ a = 2 ∨ a = 3 ∨ a = 1 ∨ a = 2 ∨ a = 3 ∨ a = 0 ∨ a = 4 := by simpa using ha
 have e3' : Zft s2 = some (a,s3) := by
  rw [Zph,e3,Option.bind_some]
 refine ⟨rs,gs,o,a,?_,hz,hg,ho',by omega,by omega⟩
 rw [Ztf]
 simp only [e,e1,e2',e3',Option.bind_some,Zb9,List.take_length]
theorem Z2n (code : List Int) (h1 : ∀ x,x ∈ code → 0 ≤ x ∧ x ≤ 255) (h2 : code.length ≤ 1048576) : ∃ rs gs n,Zgp code = some (rs,gs,n) ∧ Sz rs ∧ Gks gs 49 := by
 obtain ⟨s,e,k⟩ := Z2y code h1 h2
 obtain ⟨rs,gs,s1,e1,k1,hl,hz,hg⟩ := Z28 k
 obtain ⟨n,s2,e2,k2,_⟩ := Zmm k1 (by omega) [[97,103,101,110,116],[108,117,116,104,105,101,114],[109,97,107,101,114],[112,117,112,105,108],[118,97,114,110,105,115,104,101,114],[122,122]] (by decide) (by decide)
 have e2' : Zho s1 = some (n,s2) := by
  rw [Zrq,e2,Option.bind_some]
 refine ⟨rs,gs,n,?_,hz,hg⟩
 rw [Zqc]
 simp only [e,e1,e2',Option.bind_some,Zb9,List.take_length]
theorem Zo7 {rs : List T_Role.ty} {gs : List Zaa.ty} (V : Vd rs gs) {nm o : List UInt8} {act : Int} (ho : o.length ≤ 1048576) (ha : -1000000 ≤ act ∧ act ≤ 1000000) : ∃ b,Zbk rs gs nm o act = some b ∧ (b = true ↔ Has rs gs nm (o,act)) := by
 have hl : rs.length ≤ 1048576 := by have := V.sz.len; omega
 have ev : Zbf rs gs = some true := by rw [(Zp9 V.sz V.gz).2,V.v]
 rw [Zrw,iaF,ev,Option.bind_some,if_pos rfl,(Zfx hl nm).2,Option.bind_some]
 cases hf : fnd rs nm with
 | none =>
   rw [if_neg (by simp [pos])]
   exact ⟨false,rfl,fun h => (by cases h),fun ⟨a,h,_⟩ => (by rw [hf] at h; cases h)⟩
 | some a =>
   obtain ⟨S,eS,_,mS⟩ := Zk3 V hf
   rw [if_pos (by simp [pos]),eS,Option.bind_some,if_pos ⟨ho,ha⟩]
   refine ⟨_,rfl,?_⟩
   rw [decide_eq_true_eq,mS]
   refine ⟨fun h => ⟨a,hf,h⟩,fun ⟨a',h,h2⟩ => ?_⟩
   rw [hf] at h; cases h; exact h2
structure Whos (rs : List T_Role.ty) (gs : List Zaa.ty) (o : List UInt8) (act : Int) (ns : List (List UInt8)) : Prop where
 len : ns.length ≤ 1000
 mem : ∀ n,n ∈ ns ↔ ∃ r,r ∈ rs ∧ rN r = n ∧ Has rs gs n (o,act)
theorem who_ok {rs : List T_Role.ty} {gs : List Zaa.ty} (hz : Sz rs) (hg : Gz gs) {o : List UInt8} {act : Int} (ho : o.length ≤ 1048576) (ha : -1000000 ≤ act ∧ act ≤ 1000000) :
 ∃ ns c,Zgy rs gs o act = some (ns,c) ∧ (c = 0 → Vd rs gs ∧ 1 ≤ act ∧ act ≤ 3 ∧ Whos rs gs o act ns) := by
 rw [Zxs,(Zp9 hz hg).2,Option.bind_some,Zg4,Zjz]
 cases hv : vG rs gs with
 | false => exact ⟨_,_,rfl,fun h => (by cases h)⟩
 | true =>
   have V := vd_of hz hg hv
   simp only [Bool.not_true,Bool.false_eq_true,if_false]
   by_cases c1 : 1 ≤ act
   ·by_cases c2 : act ≤ 3
    ·simp only [c1,c2,decide_true,if_true,Option.bind_some,Bool.not_true,Bool.false_eq_true,if_false]
     obtain ⟨ys,e2,h3,h4⟩ := Z1k V [(o,act,())] (by simp) (fun p hp => by
      rw [List.mem_singleton] at hp; subst hp
      exact ⟨ho,ha⟩)
     rw [e2,Option.bind_some]
     refine ⟨_,_,rfl,fun _ => ⟨V,trivial,trivial,h3,fun n => (h4 n).trans ?_⟩⟩
     constructor
     ·rintro ⟨r,hr,hn,h5⟩
      exact ⟨r,hr,hn,h5 _ (List.mem_singleton_self _)⟩
     ·rintro ⟨r,hr,hn,h5⟩
      refine ⟨r,hr,hn,fun p hp => ?_⟩
      rw [List.mem_singleton] at hp; subst hp; exact h5
    ·simp only [c1,c2,decide_true,decide_false,if_true,Option.bind_some,Bool.not_false]
     exact ⟨_,_,rfl,fun h => (by cases h)⟩
   ·simp only [c1,decide_false,Bool.false_eq_true,if_false,Option.bind_some,Bool.not_false,if_true]
    exact ⟨_,_,rfl,fun h => (by cases h)⟩
theorem lrG_ok {rs : List T_Role.ty} {gs : List Zaa.ty} (V : Vd rs gs) : ∀ (ns : List (List UInt8)) (b : List UInt8),(∀ n,n ∈ ns → n ≠ [] ∧ ∃ a,fnd rs n = some a) → (b = [] ∨ ∃ a,fnd rs b = some a) →
 ∃ y,lrG Zan Zab rs gs ns b = some y ∧ (y = b ∨ y ∈ ns) ∧ (y = [] → b = [] ∧ ns = [])
 | [],b,_,_ => ⟨b,rfl,.inl rfl,fun h => ⟨h,rfl⟩⟩
 | n :: ns,b,hn,hb => by
   obtain ⟨n0,a,ha⟩ := hn n List.mem_cons_self
   have hns := fun m hm => hn m (List.mem_cons_of_mem n hm)
   have fin : ∀ x,x = n ∨ x = b → (x = [] → False) → (∃ a,fnd rs x = some a) → ∃ y,lrG Zan Zab rs gs ns x = some y ∧ (y = b ∨ y ∈ n :: ns) ∧ (y = [] → b = [] ∧ n :: ns = []) := fun x hx hx0 hxa => by
    obtain ⟨y,e,h1,h2⟩ := lrG_ok V ns x hns (.inr hxa)
    refine ⟨y,e,?_,fun hy => (hx0 (h2 hy).1).elim⟩
    rcases h1 with rfl | h1
    ·rcases hx with rfl | rfl
     ·exact .inr List.mem_cons_self
     ·exact .inl rfl
    ·exact .inr (List.mem_cons_of_mem _ h1)
   rw [lrG]
   by_cases c : b = []
   ·rw [if_pos c]; exact fin n (.inl rfl) n0 ⟨a,ha⟩
   ·rw [if_neg c]
    obtain ⟨a',ha'⟩ := hb.resolve_left c
    obtain ⟨S,eS,_⟩ := Zk3 V ha
    obtain ⟨T,eT,_⟩ := Zk3 V ha'
    rw [eS,Option.bind_some,eT,Option.bind_some]
    by_cases d : S.length < T.length
    ·rw [if_pos d]; exact fin n (.inl rfl) n0 ⟨a,ha⟩
    ·rw [if_neg d]; exact fin b (.inr rfl) c ⟨a',ha'⟩
theorem Rch.trans {rs : List T_Role.ty} {a i j : Nat} (h1 : Rch rs a i) (h2 : Rch rs i j) : Rch rs a j := by
 induction h2 with
 | one h => exact .more h1 h
 | more _ h ih => exact .more ih h
theorem Zz3 {rs : List T_Role.ty} {gs : List Zaa.ty} (V : Vd rs gs) {i : Nat} (hi : i < rs.length) : ¬ Rch rs i i := by
 have h := ((vG_iff rs gs).1 V.v).1
 unfold roV at h
 rw [Bool.and_eq_true,Bool.and_eq_true] at h
 have := Zhw.1 h.2.1 i hi
 simpa [nc] using this
theorem Z2x {rs : List T_Role.ty} {gs : List Zaa.ty} (V : Vd rs gs) {r : T_Role.ty} (hr : r ∈ rs) : isName (rN r) = true := by
 have h := ((vG_iff rs gs).1 V.v).1
 unfold roV at h
 rw [Bool.and_eq_true] at h
 obtain ⟨i,hi⟩ := List.mem_iff_getElem?.1 hr
 have := Zhw.1 h.1 i (List.getElem?_eq_some_iff.1 hi).1
 have he : rAt rs i = r := by simp [rAt,hi]
 simp only [rc,Bool.and_eq_true,he] at this
 exact this.1
theorem Zyc {rs : List T_Role.ty} {gs : List Zaa.ty} (V : Vd rs gs) {i : Nat} (hi : i < rs.length) : ∃ ys,Zfa rs (rN (rAt rs i)) = some (ys,0) ∧ ys.length ≤ 1000 ∧ ∀ u,u ∈ ys ↔ ∃ j,fnd rs u = some j ∧ Rch rs i j := by
 have hl := V.sz.len
 have hf := V.up.fnd (Zch hi)
 obtain ⟨ys,e,h1,h2⟩ := Zsp (show rs.length ≤ 1048576 by omega) V.cl hf
 have hn : ¬ pos (some i) < 0 := by simp [pos]
 refine ⟨ys,?_,by omega,h2⟩
 rw [Zs4,(Zvq V.sz).2,((vG_iff rs gs).1 V.v).1]
 simp only [Option.bind_some,Bool.not_true,Bool.false_eq_true,if_false,(Zfx (show rs.length ≤ 1048576 by omega) _).2,hf,hn,decide_false,e,List.take_length]
theorem r_p7 {rs : List T_Role.ty} {gs : List Zaa.ty} {o : List UInt8} {act : Int} {ns ys : List (List UInt8)} (v1 : List Int) (w : List UInt8) (c : Int) (i : Nat) (hi : i < 1000) (m : Bool) (hnl : ns.length ≤ 1000) (hyl : ys.length ≤ 1000) (h : m = false → ∀ u,u ∈ ys → u ∉ ns) :
 ∀ (k t : Nat),t + k = ys.length → Zcz v1 rs gs o act ns w c i m ys t = Zbq v1 rs gs o act ns w c ((i + 1 : Nat) : Int)
 | 0,t,ht => by
   have h1 : ¬ (t : Int) < (ys.length : Int) := by omega
   rw [Zi7]
   simp only [h1,decide_false,Bool.false_eq_true,if_false,wsucc (show i < 4611686018427387904 by omega)]
 | k + 1,t,ht => by
   have htl : t < ys.length := by omega
   have h1 : (t : Int) < (ys.length : Int) := by omega
   rw [Zi7]
   simp only [h1,Int.natCast_nonneg,decide_true,if_true,Int.toNat_natCast,List.getElem?_eq_getElem htl,Option.bind_some,Zop (show ns.length ≤ 1048576 by omega),wsucc (show t < 4611686018427387904 by omega),r_p7 v1 w c i hi m hnl hyl h k (t + 1) (by omega)]
   by_cases d : ys[t] ∈ ns
   ·cases m with
    | true => simp [d]
    | false => exact absurd d (h rfl _ (List.getElem_mem htl))
   ·simp [d]
theorem r_p1 {rs : List T_Role.ty} {gs : List Zaa.ty} (V : Vd rs gs) {o : List UInt8} {act : Int} (ho : o.length ≤ 20) (ha : 1 ≤ act ∧ act ≤ 3) {ns : List (List UInt8)} (W : Whos rs gs o act ns) (v1 : List Int) (w : List UInt8) (c : Int) :
 ∀ (k i : Nat),i + k = rs.length → Zbq v1 rs gs o act ns w c i = Zbq v1 rs gs o act ns w c rs.length
 | 0,i,h => by rw [show i = rs.length by omega]
 | k + 1,i,h => by
   have hl := V.sz.len
   have hi : i < rs.length := by omega
   have h1 : (i : Int) < (rs.length : Int) := by omega
   obtain ⟨b,e,hb⟩ := Zo7 V (nm := rN (rAt rs i)) (o := o) (act := act) (by omega) (by omega)
   obtain ⟨d,e2,hd⟩ := Zo7 V (nm := rN (rAt rs i)) (o := o) (act := 1) (by omega) (by omega)
   have e' : Zbk rs gs (rAt rs i).1 o act = some b := e
   have e2' : Zbk rs gs (rAt rs i).1 o 1 = some d := e2
   have hin : decide ((rAt rs i).1 ∈ ns) = b := by
    rw [Bool.eq_iff_iff,decide_eq_true_eq,hb]
    refine (W.mem _).trans ⟨fun ⟨r,_,_,h⟩ => h,fun h => ⟨rAt rs i,Zo9 hi,rfl,h⟩⟩
   obtain ⟨ys,e3,hyl,hym⟩ := Zyc V hi
   have e3' : Zfa rs (rAt rs i).1 = some (ys,0) := e3
   have hf := V.up.fnd (Zch hi)
   have hni : decide ((rAt rs i).1 ∈ ys) = false := by
    rw [decide_eq_false_iff_not]
    intro hm
    obtain ⟨j,hj,hR⟩ := (hym _).1 hm
    have hj' : fnd rs (rN (rAt rs i)) = some j := hj
    rw [hf] at hj'; cases hj'
    exact Zz3 V hi hR
   have h7 : b = false → ∀ u,u ∈ ys → u ∉ ns := fun hb0 u hu hun => by
    obtain ⟨j,hj,hR⟩ := (hym u).1 hu
    obtain ⟨_,_,_,a,ha1,ha2,g,hg,⟨q,hq,hqR⟩,hg2⟩ := (W.mem u).1 hun
    rw [hj] at ha1; cases ha1
    have : b = true := hb.2 ⟨i,hf,ha2,g,hg,⟨q,hq,?_⟩,hg2⟩
    ·rw [hb0] at this; cases this
    ·rcases hqR with rfl | hqR
     ·exact .inr hR
     ·exact .inr (hR.trans hqR)
   have p3 : Zee v1 rs gs o act ns w c i b = Zbq v1 rs gs o act ns w c ((i + 1 : Nat) : Int) := by
    rw [Zrt]
    simp only [Int.natCast_nonneg,decide_true,if_true,Int.toNat_natCast,Zch hi,Option.bind_some,e3',bne_self_eq_false,Bool.false_eq_true,if_false,Zop (show ys.length ≤ 1048576 by omega),hni,Zry]
    exact r_p7 v1 w c i (by omega) b W.len hyl h7 ys.length 0 (by omega)
   have IH := r_p1 V ho ha W v1 w c k (i + 1) (by omega)
   rw [Ziz]
   simp only [h1,Int.natCast_nonneg,decide_true,if_true,Int.toNat_natCast,Zch hi,Option.bind_some,e',e2',Zop (show ns.length ≤ 1048576 by have := W.len; omega),hin,beq_self_eq_true,Bool.not_true,Bool.false_eq_true,if_false,p3,IH]
   cases hbb : b with
   | false => simp
   | true =>
     have hdt : d = true := by
      obtain ⟨a,h2,h3,g,hg,h4,h5,h6⟩ := hb.1 hbb
      exact hd.2 ⟨a,h2,Int.le_refl _,g,hg,h4,h5,by show (1 : Int) ≤ gA g; have : act ≤ gA g := h6; omega⟩
     simp [hdt]
def actN (a : Int) : List UInt8 := if a = 1 then [114,101,97,100] else if a = 2 then [99,104,97,110,103,101] else [114,101,108,101,97,115,101]
theorem Z3p {a : Int} (h : 1 ≤ a ∧ a ≤ 3) : Zii a = some (actN a) ∧ actN a ≠ [] ∧ (32 : UInt8) ∉ actN a ∧ (actN a).length ≤ 10 := by
 have : a = 1 ∨ a = 2 ∨ a = 3 := by omega
 rw [Ztm,Z1o,Z4i]
 rcases this with rfl | rfl | rfl <;> exact ⟨rfl,by decide,by decide,by decide⟩
theorem Z6x {a b : Int} (h : 1 ≤ a ∧ a ≤ 3) (h' : 1 ≤ b ∧ b ≤ 3) (e : actN a = actN b) : a = b := by
 have h1 : a = 1 ∨ a = 2 ∨ a = 3 := by omega
 have h2 : b = 1 ∨ b = 2 ∨ b = 3 := by omega
 rcases h1 with rfl | rfl | rfl <;> rcases h2 with rfl | rfl | rfl <;> first | rfl | (exact absurd e (by decide))
theorem nm_len {s : List UInt8} (h : isName s = true) : s.length ≤ 10 ∧ s ≠ [] := by
 cases s with
 | nil => cases h
 | cons c r =>
   simp only [isName,Bool.and_eq_true,decide_eq_true_eq] at h
   exact ⟨h.2,by simp⟩
theorem Z01 {n o : List UInt8} {a : Int} (hn : isName n = true) (ho : isName o = true) (ha : 1 ≤ a ∧ a ≤ 3) : Zd9 (n,o,a,()) = some (n ++ 32 :: (actN a ++ 32 :: o)) := by
 obtain ⟨n1,n2⟩ := nm_len hn
 obtain ⟨o1,o2⟩ := nm_len ho
 obtain ⟨a1,a2,a3,a4⟩ := Z3p ha
 have e1 : Zcb n = some true := by rw [Zf3 n (by omega),hn]
 have e2 : Zcb o = some true := by rw [Zf3 o (by omega),ho]
 have e3 : Zez a = some true := by
  rw [Zg4,Zjz]
  simp [ha.1,ha.2]
 rw [Zt2]
 simp only [e1,e2,e3,Option.bind_some,Bool.not_true,Bool.false_eq_true,if_false]
 rw [Zp5]
 split
 ·rw [a1,Option.bind_some]
  split
  ·split
   ·split
    ·simp
    ·rename_i h _ _ h2
     exact absurd (by simp [strMax]; omega) h2
   ·rename_i h h2
    exact absurd (by simp [strMax]; omega) h2
  ·rename_i h2
   exact absurd (by simp [strMax]; omega) h2
 ·rename_i h2
  exact absurd (by simp [strMax]; omega) h2
theorem Z4u {n o : List UInt8} {a : Int} (hn : isName n = true) (ho : isName o = true) (ha : 1 ≤ a ∧ a ≤ 3) : Zjq (n ++ 32 :: (actN a ++ 32 :: o)) = some ((n,o,a,()),true) := by
 obtain ⟨n1,n2⟩ := nm_len hn
 obtain ⟨o1,o2⟩ := nm_len ho
 obtain ⟨a1,a2,a3,a4⟩ := Z3p ha
 have hs := Ztv n (actN a) o n2 a2 o2 (Zyp hn (by decide)) a3 (Zyp ho (by decide)) (by omega)
 have step : ∀ b : Int,1 ≤ b ∧ b ≤ 3 → Zcn (n ++ 32 :: (actN a ++ 32 :: o)) b [] [] 0 [n,actN a,o] = if b = a then some ((n,o,a,()),true) else Zcn (n ++ 32 :: (actN a ++ 32 :: o)) (IntKind.i64.wrap (b + 1)) [] [] 0 [n,actN a,o] := fun b hb => by
  have g0 : ([n,actN a,o] : List (List UInt8))[0]? = some n := rfl
  have g2 : ([n,actN a,o] : List (List UInt8))[2]? = some o := rfl
  have l0 : (0 : Int) < (([n,actN a,o] : List (List UInt8)).length : Int) := by simp
  have l2 : (2 : Int) < (([n,actN a,o] : List (List UInt8)).length : Int) := by simp
  rw [Zpz]
  simp only [hb.2,l0,l2,decide_true,if_true,g0,g2,Option.bind_some,Z01 hn ho hb]
  by_cases c : b = a
  ·subst c; simp
  ·rw [if_neg c,if_neg]
   intro h
   have h' : n ++ 32 :: (actN b ++ 32 :: o) = n ++ 32 :: (actN a ++ 32 :: o) := by simpa using h
   have h2 := List.append_cancel_left h'
   simp only [List.cons.injEq,true_and] at h2
   exact c (Z6x hb ha (List.append_cancel_right h2))
 have w1 : IntKind.i64.wrap (1 + 1) = 2 := by decide
 have w2 : IntKind.i64.wrap (2 + 1) = 3 := by decide
 rw [Ztu,hs,Option.bind_some]
 have hl : ¬ ((([n,actN a,o] : List (List UInt8)).length : Int) != 3) = true := by simp
 rw [if_neg hl,step 1 (by omega)]
 by_cases c1 : (1 : Int) = a
 ·rw [if_pos c1]
 ·rw [if_neg c1,w1,step 2 (by omega)]
  by_cases c2 : (2 : Int) = a
  ·rw [if_pos c2]
  ·rw [if_neg c2,w2,step 3 (by omega),if_pos (by omega)]
def sortR (S : List (List UInt8 × Int)) : List (List UInt8 × Int) := S.mergeSort fun p q => !decide (cmpP q p < 0)
theorem Z6f {S : List (List UInt8 × Int)} (h : S.Nodup) : (sortR S).length = S.length ∧ (∀ p,p ∈ sortR S ↔ p ∈ S) ∧ (sortR S).Pairwise fun p q => cmpP p q < 0 := by
 have hp : (sortR S).Perm S := List.mergeSort_perm _ _
 refine ⟨hp.length_eq,fun p => hp.mem_iff,?_⟩
 have hs : (sortR S).Pairwise fun p q => (!decide (cmpP q p < 0)) = true := List.pairwise_mergeSort (fun a b c h1 h2 => by
  simp only [Bool.not_eq_true',decide_eq_false_iff_not] at *
  intro h3
  rcases Zjk a b with k | k | k
  ·exact h2 (Zf8 h3 k)
  ·subst k; exact h2 h3
  ·exact h1 k) (fun a b => by
  simp only [Bool.or_eq_true,Bool.not_eq_true',decide_eq_false_iff_not]
  by_cases k : cmpP b a < 0
  ·right; intro k2; exact Zo4 _ (Zf8 k k2)
  ·left; exact k) S
 have hn : (sortR S).Nodup := hp.nodup_iff.2 h
 refine (hs.and hn).imp fun {p q} ⟨h1,h2⟩ => ?_
 simp only [Bool.not_eq_true',decide_eq_false_iff_not] at h1
 rcases Zjk p q with k | k | k
 ·exact k
 ·exact absurd k h2
 ·exact absurd k h1
structure Rgt (rs : List T_Role.ty) (gs : List Zaa.ty) (nm : List UInt8) (R : List Zaa.ty) : Prop where
 len : R.length ≤ 1000000
 el : ∀ g,g ∈ R → gR g = nm ∧ Has rs gs nm (gO g,gA g)
 up : R.Pairwise fun g h => cmpP (gO g,gA g) (gO h,gA h) < 0
 all : ∀ o a,Has rs gs nm (o,a) → (nm,o,a,()) ∈ R
theorem Zyl (o : List UInt8) : ∀ (n : Nat) (a : Int) (S : List (List UInt8 × Int)),(actsR o n a S).length ≤ S.length + n
 | 0,a,S => Nat.le_refl _
 | n + 1,a,S => by
   have h1 := Zyl o n (a + 1) (insR S (o,a))
   have h2 : (insR S (o,a)).length ≤ S.length + 1 := by unfold insR; split <;> simp
   show (actsR o n (a + 1) (insR S (o,a))).length ≤ _
   omega
theorem Z3n {ns : List (List UInt8)} : ∀ (gs : List Zaa.ty) (S T : List (List UInt8 × Int)),(∀ g,g ∈ gs → gA g ≤ 1000) → rtG Zab ns gs S = some T → T.length ≤ S.length + 1000 * gs.length
 | [],S,T,_,h => by cases h; simp
 | g :: gs,S,T,hb,h => by
   rw [rtG] at h
   split at h
   ·obtain ⟨b,hb1,h1⟩ := Option.bind_eq_some_iff.1 h
    have IH := Z3n gs _ T (fun x hx => hb x (List.mem_cons_of_mem _ hx)) h1
    have hg : gA g ≤ 1000 := hb g List.mem_cons_self
    have hg' : g.2.2.1.toNat ≤ 1000 := by show (gA g).toNat ≤ 1000; omega
    rw [List.length_cons]
    split at IH
    ·have := Zyl g.2.1 g.2.2.1.toNat 1 S
     omega
    ·omega
   ·cases h
theorem Z10 {rs : List T_Role.ty} {gs : List Zaa.ty} (hz : Sz rs) (hg : Gz gs) (nm : List UInt8) : ∃ R c,Zla rs gs nm = some (R,c) ∧ (c ≠ 0 → R = []) ∧ (c = 0 → Vd rs gs ∧ (∃ a,fnd rs nm = some a) ∧ Rgt rs gs nm R) := by
 have hl : rs.length ≤ 1048576 := by have := hz.len; omega
 rw [Zva,roF,(Zp9 hz hg).2,Option.bind_some]
 cases hv : vG rs gs with
 | false => exact ⟨[],1,rfl,fun _ => rfl,fun h => (by cases h)⟩
 | true =>
   have V := vd_of hz hg hv
   rw [if_pos rfl,(Zfx hl nm).2,Option.bind_some]
   cases hf : fnd rs nm with
   | none => exact ⟨[],3,by rw [if_neg (by simp [pos])],fun _ => rfl,fun h => (by cases h)⟩
   | some a =>
     obtain ⟨S,eS,nS,mS⟩ := Zk3 V hf
     have hSl : S.length ≤ 1000000 := by
      have h2 := eS
      rw [rtF] at h2
      split at h2
      ·obtain ⟨ns,_,h3⟩ := Option.bind_eq_some_iff.1 h2
       split at h3
       ·have := Z3n gs [] S (fun g hgm => (hg.ac g hgm).2) h3
        have := V.l48
        simp at *
        omega
       ·cases h3
      ·cases h2
     obtain ⟨s1,s2,s3⟩ := Z6f nS
     refine ⟨(sortR S).map fun p => (nm,p.1,p.2,()),0,?_,fun h => absurd rfl h,fun _ => ⟨V,⟨a,rfl⟩,?_⟩⟩
     ·rw [if_pos (by simp [pos]),eS,Option.bind_some,if_pos hSl]; rfl
     ·refine ⟨by rw [List.length_map]; omega,fun g hgm => ?_,?_,fun o act h => ?_⟩
      ·obtain ⟨p,hp,rfl⟩ := List.mem_map.1 hgm
       exact ⟨rfl,a,hf,(mS p).1 ((s2 p).1 hp)⟩
      ·rw [List.pairwise_map]; exact s3
      ·obtain ⟨a',ha',h2⟩ := h
       rw [hf] at ha'; cases ha'
       exact List.mem_map.2 ⟨(o,act),(s2 _).2 ((mS _).2 h2),rfl⟩
theorem r_p8 {gs R : List Zaa.ty} (nm : List UInt8) (hRl : R.length ≤ 1000000) {i : Nat} (hi : i < gs.length) (hil : gs.length ≤ 1000) : ∀ (k t : Nat) (b : Bool),t + k = R.length → (b = true ∨ gAt gs i ∈ R.drop t) → Zc1 gs nm R i b t = Zb5 gs nm R ((i + 1 : Nat) : Int)
 | 0,t,b,h,hb => by
   have h1 : ¬ (t : Int) < (R.length : Int) := by omega
   rw [List.drop_eq_nil_of_le (by omega)] at hb
   have hb' : b = true := hb.resolve_right (by simp)
   subst hb'
   rw [Zjb]
   simp only [h1,decide_false,Bool.false_eq_true,if_false,Bool.not_true,wsucc (show i < 4611686018427387904 by omega)]
 | k + 1,t,b,h,hb => by
   have ht : t < R.length := by omega
   have h1 : (t : Int) < (R.length : Int) := by omega
   rw [Zjb]
   simp only [h1,Int.natCast_nonneg,decide_true,if_true,Int.toNat_natCast,Zdk ht,Zdk hi,Option.bind_some,wsucc (show t < 4611686018427387904 by omega)]
   cases b with
   | true => simp only [if_true]; exact r_p8 nm hRl hi hil k (t + 1) true (by omega) (.inl rfl)
   | false =>
     simp only [Bool.false_eq_true,if_false]
     refine r_p8 nm hRl hi hil k (t + 1) _ (by omega) ?_
     have hm := hb.resolve_left (by simp)
     rw [List.drop_eq_getElem_cons ht,List.mem_cons] at hm
     rcases hm with hm | hm
     ·left
      have he : gAt R t = gAt gs i := by rw [hm]; simp [gAt,List.getElem?_eq_getElem ht]
      rw [he]; simp
     ·exact .inr hm
theorem r_p6 {rs : List T_Role.ty} {gs R : List Zaa.ty} (V : Vd rs gs) {nm : List UInt8} (hf : ∃ a,fnd rs nm = some a) (G : Rgt rs gs nm R) : ∀ (k i : Nat),i + k = gs.length → Zb5 gs nm R i = some true
 | 0,i,h => by
   have h1 : ¬ (i : Int) < (gs.length : Int) := by omega
   rw [Zi0]; simp [h1]
 | k + 1,i,h => by
   have hl := V.gz.len
   have hi : i < gs.length := by omega
   have h1 : (i : Int) < (gs.length : Int) := by omega
   have IH := r_p6 V hf G k (i + 1) (by omega)
   rw [Zi0]
   simp only [h1,Int.natCast_nonneg,decide_true,if_true,Int.toNat_natCast,Zdk hi,Option.bind_some,wsucc (show i < 4611686018427387904 by omega),IH]
   by_cases c : (gAt gs i).1 = nm
   ·have hc : (!(gAt gs i).1 == nm) = false := by simp [c]
    have hmem : gAt gs i ∈ R := by
     obtain ⟨a,ha⟩ := hf
     obtain ⟨_,_,h3,h4⟩ := V.ok _ (Zht hi)
     have := G.all (gO (gAt gs i)) (gA (gAt gs i)) ⟨a,ha,h3,gAt gs i,Zht hi,⟨a,by rw [← ha]; exact congrArg _ c,.inl rfl⟩,rfl,Int.le_refl _⟩
     have e : gAt gs i = (nm,gO (gAt gs i),gA (gAt gs i),()) := by
      have := g_eta (gAt gs i)
      rw [this]; exact congrArg (fun z => (z,gO (gAt gs i),gA (gAt gs i),())) c
     rw [e]; exact this
    rw [hc,if_neg (by simp)]
    have h8 := r_p8 (gs := gs) (R := R) nm G.len hi hl R.length 0 false (by omega) (.inr (by rw [List.drop_zero]; exact hmem))
    rw [show ((0 : Nat) : Int) = 0 from rfl] at h8
    rw [h8,IH]
   ·have hc : (!(gAt gs i).1 == nm) = true := by simp [c]
    rw [hc,if_pos rfl]
theorem r_p4 {rs : List T_Role.ty} {gs R : List Zaa.ty} (V : Vd rs gs) {nm : List UInt8} (hf : ∃ a,fnd rs nm = some a) (G : Rgt rs gs nm R) : ∀ (k i : Nat),i + k = R.length → Zb7 rs gs nm R i = some true
 | 0,i,h => by
   have h1 : ¬ (i : Int) < (R.length : Int) := by omega
   have h6 := r_p6 V hf G gs.length 0 (by omega)
   rw [show ((0 : Nat) : Int) = 0 from rfl] at h6
   rw [Ziy]
   simp only [h1,decide_false,Bool.false_eq_true,if_false,h6]
 | k + 1,i,h => by
   have hRl := G.len
   have hi : i < R.length := by omega
   have h1 : (i : Int) < (R.length : Int) := by omega
   obtain ⟨hgr,hH⟩ := G.el _ (Zht hi)
   have hac : 1 ≤ gA (gAt R i) ∧ gA (gAt R i) ≤ 3 := by
    obtain ⟨a,_,h2,h3⟩ := hH
    exact ⟨h2,Z8i V h3⟩
   have hon : isName (gO (gAt R i)) = true := by
    obtain ⟨a,_,_,g,hg,_,h3,_⟩ := hH
    have := (V.ok g hg).2.1
    rw [h3] at this; exact this
   have hnn : isName nm = true := by
    obtain ⟨a,ha⟩ := hf
    obtain ⟨_,r,hr,e⟩ := Zeg ha
    rw [← e]; exact Z2x V (List.mem_of_getElem? hr)
   obtain ⟨b,e,hb⟩ := Zo7 V (nm := nm) (o := gO (gAt R i)) (act := gA (gAt R i)) (by have := (nm_len hon).1; omega) (by omega)
   have hbt : b = true := hb.2 hH
   subst hbt
   have eg : gAt R i = (nm,gO (gAt R i),gA (gAt R i),()) := by
    have := g_eta (gAt R i)
    rw [hgr] at this; exact this
   have et : Zd9 (gAt R i) = some (nm ++ 32 :: (actN (gA (gAt R i)) ++ 32 :: gO (gAt R i))) := by
    rw [eg]; exact Z01 hnn hon hac
   have er := Z4u hnn hon hac
   have e' : Zbk rs gs nm (gAt R i).2.1 (gAt R i).2.2.1 = some true := e
   have c1 : ((gAt R i).1 == nm) = true := by rw [show (gAt R i).1 = nm from hgr]; exact beq_self_eq_true _
   have c2 : ((nm == (gAt R i).1) && ((gO (gAt R i) == (gAt R i).2.1) && (gA (gAt R i) == (gAt R i).2.2.1))) = true := by
    have h1 : (nm == (gAt R i).1) = true := by rw [show (gAt R i).1 = nm from hgr]; exact beq_self_eq_true _
    have h2 : (gO (gAt R i) == (gAt R i).2.1) = true := beq_self_eq_true (gO (gAt R i))
    have h3 : (gA (gAt R i) == (gAt R i).2.2.1) = true := beq_self_eq_true (gA (gAt R i))
    rw [h1,h2,h3]; rfl
   have IH := r_p4 V hf G k (i + 1) (by omega)
   rw [Ziy]
   simp only [h1,Int.natCast_nonneg,decide_true,if_true,Int.toNat_natCast,Zdk hi,Option.bind_some,et,er,c1,e',c2,Bool.not_true,Bool.false_eq_true,if_false,wsucc (show i < 4611686018427387904 by omega),IH]
   by_cases h0 : i = 0
   ·subst h0; simp
   ·have hp : (i : Int) > 0 := by omega
    have hup : cmpP (gO (gAt R (i - 1)),gA (gAt R (i - 1))) (gO (gAt R i),gA (gAt R i)) < 0 := by
     have := List.pairwise_iff_getElem.1 G.up (i - 1) i (by omega) hi (by omega)
     simpa [gAt,List.getElem?_eq_getElem hi,List.getElem?_eq_getElem (show i - 1 < R.length by omega)] using this
    rw [Zpe] at hup
    have hup' : gO (gAt R (i - 1)) < gO (gAt R i) ∨ gO (gAt R (i - 1)) = gO (gAt R i) ∧ gA (gAt R (i - 1)) < gA (gAt R i) := hup
    simp only [hp,decide_true,if_true,wpred (show 0 < i by omega) (show i < 4611686018427387904 by omega),Int.natCast_nonneg,Int.toNat_natCast,Zdk (show i - 1 < R.length by omega),Option.bind_some,Proofs.bytesLess_eq]
    show (if (!(decide (gO (gAt R (i - 1)) < gO (gAt R i)) || (gO (gAt R (i - 1)) == gO (gAt R i)))) = true then some false else if (gO (gAt R (i - 1)) == gO (gAt R i)) = true then if decide (gA (gAt R (i - 1)) ≥ gA (gAt R i)) = true then some false else some true else some true) = some true
    rcases hup' with h2 | ⟨h2,h3⟩
    ·have hne : ¬ gO (gAt R (i - 1)) = gO (gAt R i) := fun e => by rw [e] at h2; exact List.lt_irrefl _ h2
     simp [h2,hne]
    ·have h4 : ¬ gA (gAt R (i - 1)) ≥ gA (gAt R i) := by omega
     simp [h2,h4]
theorem r_p2 (v1 : List Int) (h1 : ∀ x,x ∈ v1 → 0 ≤ x ∧ x ≤ 255) (h2 : v1.length ≤ 1048576) : Zdc v1 = some true := by
 obtain ⟨rs,gs,n,e,hz,hg⟩ := Z2n v1 h1 h2
 obtain ⟨R,c,e2,hc1,hc2⟩ := Z10 hz (hg.gz (by omega)) n
 rw [Zrp]
 simp only [e,e2,Option.bind_some,List.take_length]
 by_cases h0 : c = 0
 ·obtain ⟨V,hf,G⟩ := hc2 h0
  rw [if_neg (by simpa using h0)]
  exact r_p4 V hf G R.length 0 (by omega)
 ·rw [if_pos (by simpa using h0),hc1 h0]; rfl
theorem laws_FnRights_true (a0 a1 : List Int) (h0 : ET.wf (.one (.sl (.one (.int .u8)))) a0) (h1 : ET.wf (.one (.sl (.one (.int .u8)))) a1) : Zq5 a0 a1 = some true := by
 have b0 := Z03 h0
 have b1 := Z03 h1
 rw [Zvc]
 by_cases l0 : a0.length ≤ 1048576
 rotate_left
 ·rw [Z3j l0]; rfl
 by_cases l1 : a1.length ≤ 1048576
 rotate_left
 ·rw [Zxw l0,Z3j l1]; rfl
 rw [Zxw l0,Zxw l1]
 simp only [Option.bind_some,Bool.false_eq_true,if_false]
 have hp2 := r_p2 a1 b1 l1
 obtain ⟨rs,gs,o,a,e,hz,hg,ho,a1',a2'⟩ := Z6o a0 b0 l0
 obtain ⟨ns,c,ew,hc⟩ := who_ok hz (hg.gz (by omega)) (o := o) (act := a) (by omega) (by omega)
 by_cases h0 : c = 0
 ·obtain ⟨V,c1,c2,W⟩ := hc h0
  subst h0
  have hns : ∀ n,n ∈ ns → n ≠ [] ∧ ∃ a,fnd rs n = some a := fun n hn => by
   obtain ⟨r,hr,hrn,x,hx,_⟩ := (W.mem n).1 hn
   have := nm_len (Z2x V hr)
   rw [hrn] at this
   exact ⟨this.2,x,hx⟩
  obtain ⟨y,ey,y1,y2⟩ := lrG_ok V ns [] hns (.inl rfl)
  have el : Zfz rs gs o a = some (if y = [] then ([],3) else (y,0)) := by
   rw [Zlx,lrF,ew,Option.bind_some,if_neg (by simp),if_pos W.len,ey,Option.bind_some]
   split <;> rfl
  have hl := r_p1 V ho ⟨c1,c2⟩ W a1 (if y = [] then ([],3) else (y,0) : List UInt8 × Int).1 (if y = [] then ([],3) else (y,0) : List UInt8 × Int).2 rs.length 0 (by omega)
  rw [show ((0 : Nat) : Int) = 0 from rfl] at hl
  have hlt : ¬ (rs.length : Int) < (rs.length : Int) := by omega
  rw [Zi1]
  simp only [e,Option.bind_some,List.take_length,ew,el,beq_self_eq_true,if_true]
  rw [hl,Ziz]
  simp only [hlt,decide_false,Bool.false_eq_true,if_false]
  by_cases hy : y = []
  ·obtain ⟨_,hn0⟩ := y2 hy
   subst hn0
   simp [hy,hp2]
  ·have hyn : y ∈ ns := y1.resolve_left hy
   have hpos : (ns.length : Int) > 0 := by have := List.length_pos_of_mem hyn; omega
   simp only [hy,if_false,beq_self_eq_true,hpos,decide_true,Bool.not_true,Bool.false_eq_true,if_true,Zop (show ns.length ≤ 1048576 by have := W.len; omega),Option.bind_some,hyn,hp2]
 ·have el : ∃ l,Zfz rs gs o a = some l := by
   rw [Zlx,lrF,ew,Option.bind_some,if_pos (by simpa using h0)]
   exact ⟨_,rfl⟩
  obtain ⟨l,el⟩ := el
  rw [Zi1]
  simp only [e,Option.bind_some,List.take_length,ew,el]
  rw [if_neg (by simpa using h0)]; exact hp2
end Go.Ab.P
