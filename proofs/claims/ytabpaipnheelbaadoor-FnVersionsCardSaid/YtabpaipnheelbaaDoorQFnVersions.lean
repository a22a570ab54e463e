/- Versions: changes that lead from one state to another, undoing, and where versions come from. Conditions: bytes are bytes. -/
import Derived.Test.YtabpaipnheelbaaDoorBFnVersions
import Derived.Sort.Walk0
set_option linter.unusedVariables false
set_option linter.unusedSectionVars false
set_option linter.unusedSimpArgs false
set_option maxRecDepth 4000
namespace Go.Ab.P
open Go.Ab
def sN (x : T_Setting.ty) : List UInt8 := x.1
def sV (x : T_Setting.ty) : Int := x.2.1
theorem s_eta (x : T_Setting.ty) : x = (sN x,sV x,()) := rfl
def nms : List (List UInt8) := [[97],[98],[99],[100],[101],[102]]
theorem nms_is : ∀ n,n ∈ nms → isName n = true ∧ n.length = 1 := by decide +kernel
theorem nms_tri : ∀ a,a ∈ nms → ∀ b,b ∈ nms → (a < b ∨ a = b ∨ b < a) ∧ (a < b → nms.idxOf a < nms.idxOf b) ∧ nms.idxOf a < 6 := by decide +kernel
structure Sts (s : List T_Setting.ty) : Prop where
 up : s.Pairwise fun a b => sN a < sN b
 nm : ∀ x,x ∈ s → sN x ∈ nms
 v0 : ∀ x,x ∈ s → 0 ≤ sV x ∧ sV x ≤ 1000
theorem rising_len : ∀ {T : List Nat} {lo m : Nat},T.Pairwise (· < ·) → (∀ t,t ∈ T → lo ≤ t ∧ t < m) → T.length ≤ m - lo
 | [],_,_,_,_ => Nat.zero_le _
 | a :: T,lo,m,h1,h2 => by
   obtain ⟨h3,h4⟩ := List.pairwise_cons.1 h1
   have ha := h2 a List.mem_cons_self
   have := rising_len (T := T) (lo := a + 1) (m := m) h4 fun t ht => ⟨h3 t ht,(h2 t (List.mem_cons_of_mem _ ht)).2⟩
   rw [List.length_cons]; omega
theorem Sts.len {s : List T_Setting.ty} (h : Sts s) : s.length ≤ 6 := by
 have := rising_len (T := s.map fun x => nms.idxOf (sN x)) (lo := 0) (m := 6) (by
  rw [List.pairwise_map]
  refine List.Pairwise.imp_of_mem (fun {a b} ha hb hab => ?_) h.up
  exact (nms_tri _ (h.nm a ha) _ (h.nm b hb)).2.1 hab) fun t ht => by
   obtain ⟨x,hx,rfl⟩ := List.mem_map.1 ht
   exact ⟨Nat.zero_le _,(nms_tri _ (h.nm x hx) _ (h.nm x hx)).2.2⟩
 rw [List.length_map] at this; exact this
theorem Sts.sub {s t : List T_Setting.ty} (h : Sts s) (hs : t.Sublist s) : Sts t :=
 ⟨h.up.sublist hs,fun x hx => h.nm x (hs.subset hx),fun x hx => h.v0 x (hs.subset hx)⟩
def look : List T_Setting.ty → List UInt8 → Option Int
 | [],_ => none
 | x :: s,n => if sN x = n then some (sV x) else look s n
theorem look_none : ∀ {s : List T_Setting.ty} {n : List UInt8},(∀ x,x ∈ s → sN x ≠ n) → look s n = none
 | [],_,_ => rfl
 | x :: s,n,h => by rw [look,if_neg (h x List.mem_cons_self),look_none fun y hy => h y (List.mem_cons_of_mem _ hy)]
theorem look_mem : ∀ {s : List T_Setting.ty} {n : List UInt8} {v : Int},look s n = some v → (n,v,()) ∈ s
 | [],_,_,h => by cases h
 | x :: s,n,v,h => by
   rw [look] at h
   by_cases c : sN x = n
   ·rw [if_pos c] at h
    cases h
    rw [← c]; exact List.mem_cons_self
   ·rw [if_neg c] at h; exact List.mem_cons_of_mem _ (look_mem h)
theorem look_app : ∀ (a b : List T_Setting.ty) (n : List UInt8),look (a ++ b) n = (match look a n with | some v => some v | none => look b n)
 | [],b,n => rfl
 | x :: a,b,n => by
   rw [List.cons_append,look,look,look_app a b n]
   by_cases c : sN x = n
   ·rw [if_pos c,if_pos c]
   ·rw [if_neg c,if_neg c]
theorem lt_ne {a b : List UInt8} (h : a < b) : a ≠ b := fun e => by subst e; exact List.lt_irrefl _ h
theorem Sts.cut {a b : List T_Setting.ty} {x : T_Setting.ty} (h : Sts (a ++ x :: b)) : (∀ y,y ∈ a → sN y < sN x) ∧ (∀ y,y ∈ b → sN x < sN y) := by
 obtain ⟨h1,h2,h3⟩ := List.pairwise_append.1 h.up
 exact ⟨fun y hy => h3 y hy x List.mem_cons_self,fun y hy => (List.pairwise_cons.1 h2).1 y hy⟩
theorem look_at {a b : List T_Setting.ty} {x : T_Setting.ty} (h : Sts (a ++ x :: b)) : look (a ++ x :: b) (sN x) = some (sV x) := by
 rw [look_app,look_none fun y hy => lt_ne (h.cut.1 y hy),look,if_pos rfl]
theorem look_of {s : List T_Setting.ty} (h : Sts s) {x : T_Setting.ty} (hx : x ∈ s) : look s (sN x) = some (sV x) := by
 obtain ⟨a,b,rfl⟩ := List.append_of_mem hx
 exact look_at h
theorem sts_ext : ∀ {s t : List T_Setting.ty},Sts s → Sts t → (∀ n,look s n = look t n) → s = t
 | [],[],_,_,_ => rfl
 | [],y :: t,_,ht,h => by have := h (sN y); rw [look,look,if_pos rfl] at this; cases this
 | x :: s,[],hs,_,h => by have := h (sN x); rw [look,look,if_pos rfl] at this; cases this
 | x :: s,y :: t,hs,ht,h => by
   obtain ⟨u1,u2⟩ := List.pairwise_cons.1 hs.up
   obtain ⟨w1,w2⟩ := List.pairwise_cons.1 ht.up
   have hxy : sN x = sN y := by
    rcases (nms_tri _ (hs.nm x List.mem_cons_self) _ (ht.nm y List.mem_cons_self)).1 with c | c | c
    ·have := h (sN x)
     rw [look,if_pos rfl,look_none (s := y :: t) fun z hz => by
      rcases List.mem_cons.1 hz with rfl | hz
      ·exact (lt_ne c).symm
      ·exact (lt_ne (List.lt_trans c (w1 z hz))).symm] at this
     cases this
    ·exact c
    ·have := h (sN y)
     rw [look_none (s := x :: s) fun z hz => by
      rcases List.mem_cons.1 hz with rfl | hz
      ·exact (lt_ne c).symm
      ·exact (lt_ne (List.lt_trans c (u1 z hz))).symm,look,if_pos rfl] at this
     cases this
   have hv : sV x = sV y := by
    have := h (sN x)
    rw [look,if_pos rfl,look,if_pos hxy.symm] at this
    exact Option.some.inj this
   have hxe : x = y := by rw [s_eta x,s_eta y,hxy,hv]
   subst hxe
   have hs' := hs.sub (List.sublist_cons_self x s)
   have ht' := ht.sub (List.sublist_cons_self x t)
   rw [sts_ext hs' ht' fun n => by
    have := h n
    rw [look,look] at this
    by_cases c : sN x = n
    ·rw [look_none fun z hz => by rw [← c]; exact (lt_ne (u1 z hz)).symm,look_none fun z hz => by rw [← c]; exact (lt_ne (w1 z hz)).symm]
    ·rw [if_neg c,if_neg c] at this; exact this]
theorem Sts.swap {a b : List T_Setting.ty} {x : T_Setting.ty} (h : Sts (a ++ x :: b)) {v : Int} (hv : 0 ≤ v ∧ v ≤ 1000) : Sts (a ++ (sN x,v,()) :: b) := by
 obtain ⟨h1,h2,h3⟩ := List.pairwise_append.1 h.up
 obtain ⟨h4,h5⟩ := List.pairwise_cons.1 h2
 refine ⟨List.pairwise_append.2 ⟨h1,List.pairwise_cons.2 ⟨fun y hy => h4 y hy,h5⟩,fun y hy z hz => ?_⟩,fun y hy => ?_,fun y hy => ?_⟩
 ·rcases List.mem_cons.1 hz with rfl | hz
  ·exact h3 y hy x List.mem_cons_self
  ·exact h3 y hy z (List.mem_cons_of_mem _ hz)
 ·rcases List.mem_append.1 hy with hy | hy
  ·exact h.nm y (List.mem_append_left _ hy)
  ·rcases List.mem_cons.1 hy with rfl | hy
   ·exact h.nm x (List.mem_append_right _ List.mem_cons_self)
   ·exact h.nm y (List.mem_append_right _ (List.mem_cons_of_mem _ hy))
 ·rcases List.mem_append.1 hy with hy | hy
  ·exact h.v0 y (List.mem_append_left _ hy)
  ·rcases List.mem_cons.1 hy with rfl | hy
   ·exact hv
   ·exact h.v0 y (List.mem_append_right _ (List.mem_cons_of_mem _ hy))
theorem look_swap {a b : List T_Setting.ty} {x : T_Setting.ty} (h : Sts (a ++ x :: b)) (v : Int) (m : List UInt8) : look (a ++ (sN x,v,()) :: b) m = if m = sN x then some v else look (a ++ x :: b) m := by
 rw [look_app,look_app]
 by_cases c : m = sN x
 ·rw [if_pos c,c,look_none fun y hy => lt_ne (h.cut.1 y hy)]
  show look ((sN x,v,()) :: b) (sN x) = some v
  rw [look,if_pos (show sN (sN x,v,()) = sN x from rfl)]; rfl
 ·rw [if_neg c]
  have e1 : look ((sN x,v,()) :: b) m = look b m := by rw [look,if_neg (show ¬ sN (sN x,v,()) = m from fun e => c (Eq.symm e))]
  have e2 : look (x :: b) m = look b m := by rw [look,if_neg (fun e => c (Eq.symm e))]
  rw [e1,e2]
theorem Sts.put {a b : List T_Setting.ty} (h : Sts (a ++ b)) {n : List UInt8} {v : Int} (hn : n ∈ nms) (hv : 0 ≤ v ∧ v ≤ 1000) (h1 : ∀ y,y ∈ a → sN y < n) (h2 : ∀ y,y ∈ b → n < sN y) : Sts (a ++ (n,v,()) :: b) := by
 obtain ⟨k1,k2,k3⟩ := List.pairwise_append.1 h.up
 refine ⟨List.pairwise_append.2 ⟨k1,List.pairwise_cons.2 ⟨fun y hy => h2 y hy,k2⟩,fun y hy z hz => ?_⟩,fun y hy => ?_,fun y hy => ?_⟩
 ·rcases List.mem_cons.1 hz with rfl | hz
  ·exact h1 y hy
  ·exact k3 y hy z hz
 ·rcases List.mem_append.1 hy with hy | hy
  ·exact h.nm y (List.mem_append_left _ hy)
  ·rcases List.mem_cons.1 hy with rfl | hy
   ·exact hn
   ·exact h.nm y (List.mem_append_right _ hy)
 ·rcases List.mem_append.1 hy with hy | hy
  ·exact h.v0 y (List.mem_append_left _ hy)
  ·rcases List.mem_cons.1 hy with rfl | hy
   ·exact hv
   ·exact h.v0 y (List.mem_append_right _ hy)
theorem look_put {a b : List T_Setting.ty} {n : List UInt8} (h1 : ∀ y,y ∈ a → sN y < n) (v : Int) (m : List UInt8) : look (a ++ (n,v,()) :: b) m = if m = n then some v else look (a ++ b) m := by
 rw [look_app,look_app]
 by_cases c : m = n
 ·rw [if_pos c,c,look_none fun y hy => lt_ne (h1 y hy)]
  show look ((n,v,()) :: b) n = some v
  rw [look,if_pos (show sN (n,v,()) = n from rfl)]; rfl
 ·rw [if_neg c]
  have e1 : look ((n,v,()) :: b) m = look b m := by rw [look,if_neg (show ¬ sN (n,v,()) = m from fun e => c (Eq.symm e))]
  rw [e1]
theorem look_del {a b : List T_Setting.ty} {x : T_Setting.ty} (h : Sts (a ++ x :: b)) (m : List UInt8) : look (a ++ b) m = if m = sN x then none else look (a ++ x :: b) m := by
 rw [look_app,look_app]
 by_cases c : m = sN x
 ·rw [if_pos c,c,look_none fun y hy => lt_ne (h.cut.1 y hy)]
  exact look_none fun y hy => (lt_ne (h.cut.2 y hy)).symm
 ·rw [if_neg c]
  have e2 : look (x :: b) m = look b m := by rw [look,if_neg (fun e => c (Eq.symm e))]
  rw [e2]
def sAt (s : List T_Setting.ty) (i : Nat) : T_Setting.ty := (s[i]?).getD ([],0,())
theorem sAt_get {s : List T_Setting.ty} {i : Nat} (h : i < s.length) : s[i]? = some (sAt s i) := by simp [sAt,List.getElem?_eq_getElem h]
theorem sAt_el {s : List T_Setting.ty} {i : Nat} (h : i < s.length) : s[i] = sAt s i := by simp [sAt,List.getElem?_eq_getElem h]
theorem sAt_mem {s : List T_Setting.ty} {i : Nat} (h : i < s.length) : sAt s i ∈ s := List.mem_of_getElem? (sAt_get h)
theorem cut_at {s : List T_Setting.ty} {i : Nat} (h : i < s.length) : s = s.take i ++ sAt s i :: s.drop (i + 1) := by
 rw [← sAt_el h,← List.drop_eq_getElem_cons h,List.take_append_drop]
theorem find_ok {s : List T_Setting.ty} (h : Sts s) (n : List UInt8) : ∃ p : Nat,p ≤ s.length ∧ (∀ j,j < p → sN (sAt s j) < n) ∧ (p < s.length → ¬ sN (sAt s p) < n) ∧ impl_find s n = some ((p : Int),decide (p < s.length ∧ sN (sAt s p) = n)) := by
 have hl := h.len
 have loop : ∀ (k i : Nat),i + k = s.length → (∀ j,j < i → sN (sAt s j) < n) → ∃ p : Nat,p ≤ s.length ∧ (∀ j,j < p → sN (sAt s j) < n) ∧ (p < s.length → ¬ sN (sAt s p) < n) ∧ impl_find_p0 s n i = some ((p : Int),decide (p < s.length ∧ sN (sAt s p) = n)) := by
  have p1 : ∀ i : Nat,i ≤ s.length → impl_find_p1 s n i = some ((i : Int),decide (i < s.length ∧ sN (sAt s i) = n)) := fun i hi => by
   rw [impl_find_p1_eq]
   by_cases c : i < s.length
   ·have hlt : (i : Int) < (s.length : Int) := by omega
    simp only [hlt,decide_true,if_true,Int.natCast_nonneg,Int.toNat_natCast,sAt_get c,Option.bind_some]
    congr 2
    show ((sN (sAt s i) == n) : Bool) = decide (i < s.length ∧ sN (sAt s i) = n)
    by_cases e : sN (sAt s i) = n <;> simp [e,c]
   ·have hlt : ¬ (i : Int) < (s.length : Int) := by omega
    simp only [hlt,decide_false,Bool.false_eq_true,if_false]
    simp [c]
  intro k
  induction k with
  | zero =>
    intro i hn hj
    refine ⟨i,by omega,hj,fun hh => by omega,?_⟩
    rw [impl_find_p0_eq,if_neg (by simp; omega)]
    exact p1 i (by omega)
  | succ k ih =>
    intro i hn hj
    have hi : i < s.length := by omega
    have hlt : (i : Int) < (s.length : Int) := by omega
    rw [impl_find_p0_eq]
    simp only [hlt,decide_true,if_true,Int.natCast_nonneg,Int.toNat_natCast,sAt_get hi,Option.bind_some,Proofs.bytesLess_eq,decide_eq_true_eq,wsucc (show i < 4611686018427387904 by omega)]
    by_cases c : sN (sAt s i) < n
    ·rw [if_pos (show (sAt s i).1 < n from c)]
     exact ih (i + 1) (by omega) fun j hj2 => by
      by_cases e : j = i
      ·subst e; exact c
      ·exact hj j (by omega)
    ·rw [if_neg (show ¬ (sAt s i).1 < n from c)]
     exact ⟨i,by omega,hj,fun _ => c,p1 i (by omega)⟩
 obtain ⟨p,a,b,c,d⟩ := loop s.length 0 (by omega) fun j hj => by omega
 exact ⟨p,a,b,c,by rw [impl_find_eq]; exact d⟩
theorem take_lt {s : List T_Setting.ty} {n : List UInt8} {p : Nat} (hp : p ≤ s.length) (h : ∀ j,j < p → sN (sAt s j) < n) : ∀ y,y ∈ s.take p → sN y < n := fun y hy => by
 obtain ⟨t,ht,rfl⟩ := List.mem_iff_getElem.1 hy
 rw [List.length_take] at ht
 rw [List.getElem_take,sAt_el (by omega)]
 exact h t (by omega)
theorem value_ok {s : List T_Setting.ty} (h : Sts s) {n : List UInt8} (hn : n ∈ nms) : impl_value s n = some ((look s n).getD (-1)) := by
 obtain ⟨p,h1,h2,h3,h4⟩ := find_ok h n
 rw [impl_value_eq,h4,Option.bind_some]
 have hlt := take_lt h1 h2
 by_cases c : p < s.length ∧ sN (sAt s p) = n
 ·simp only [c,and_self,decide_true,if_true,Int.natCast_nonneg,Int.toNat_natCast,sAt_get c.1,Option.bind_some]
  have := look_of h (sAt_mem c.1)
  rw [c.2] at this
  rw [this]; rfl
 ·simp only [c,decide_false,Bool.false_eq_true,if_false]
  have : look s n = none := by
   by_cases hp : p < s.length
   ·refine look_none fun y hy => ?_
    rw [cut_at hp] at hy
    rcases List.mem_append.1 hy with hy | hy
    ·exact lt_ne (hlt y hy)
    ·have hgt : n < sN (sAt s p) := by
      rcases (nms_tri _ hn _ (h.nm _ (sAt_mem hp))).1 with q | q | q
      ·exact q
      ·exact absurd ⟨hp,q.symm⟩ c
      ·exact absurd q (h3 hp)
     rcases List.mem_cons.1 hy with rfl | hy
     ·exact (lt_ne hgt).symm
     ·have hh : Sts (s.take p ++ sAt s p :: s.drop (p + 1)) := by rw [← cut_at hp]; exact h
      exact (lt_ne (List.lt_trans hgt (hh.cut.2 y hy))).symm
   ·refine look_none fun y hy => lt_ne (hlt y ?_)
    rw [List.take_of_length_le (by omega)]; exact hy
  rw [this]; rfl
def cK (c : T_Change.ty) : Int := c.1
def cN (c : T_Change.ty) : List UInt8 := c.2.1
def cV (c : T_Change.ty) : Int := c.2.2.1
theorem c_eta (c : T_Change.ty) : c = (cK c,cN c,cV c,()) := rfl
def updL (L : List UInt8 → Option Int) (c : T_Change.ty) (m : List UInt8) : Option Int := if m = cN c then (if cK c = 1 then some (cV c) else none) else L m
structure Chg (L : List UInt8 → Option Int) (c : T_Change.ty) : Prop where
 n : cN c ∈ nms
 v : 0 ≤ cV c ∧ cV c ≤ 1000
 k : cK c = 1 ∨ cK c = 2 ∧ L (cN c) = some (cV c)
theorem apply_ok {s : List T_Setting.ty} (h : Sts s) {c : T_Change.ty} (hc : Chg (look s) c) : ∃ s',impl_apply s c = some (s',0,()) ∧ Sts s' ∧ ∀ m,look s' m = updL (look s) c m := by
 obtain ⟨p,h1,h2,h3,h4⟩ := find_ok h (cN c)
 have hl := h.len
 have hlt := take_lt h1 h2
 have h4' : impl_find (s.take s.length) c.2.1 = some ((p : Int),decide (p < s.length ∧ sN (sAt s p) = cN c)) := by rw [List.take_length]; exact h4
 have hgt : p < s.length → sN (sAt s p) ≠ cN c → cN c < sN (sAt s p) := fun hp hne => by
  rcases (nms_tri _ hc.n _ (h.nm _ (sAt_mem hp))).1 with q | q | q
  ·exact q
  ·exact absurd q.symm hne
  ·exact absurd q (h3 hp)
 rw [impl_apply_eq,h4',Option.bind_some]
 rcases hc.k with k1 | ⟨k2,k3⟩
 ·rw [if_pos (show (c.1 == 1) = true by rw [beq_iff_eq]; exact k1)]
  by_cases f : p < s.length ∧ sN (sAt s p) = cN c
  ·have hpi : (p : Int) < (s.length : Int) := by omega
   have hcut : Sts (s.take p ++ sAt s p :: s.drop (p + 1)) := by rw [← cut_at f.1]; exact h
   simp only [f,and_self,decide_true,if_true,Int.natCast_nonneg,hpi,Bool.and_self,Int.toNat_natCast,sAt_get f.1,Option.bind_some]
   have e : (s.set p (c.2.1,c.2.2.1,())).take s.length = s.take p ++ (sN (sAt s p),cV c,()) :: s.drop (p + 1) := by
    rw [List.take_of_length_le (by simp),List.set_eq_take_append_cons_drop,if_pos f.1,f.2]; rfl
   refine ⟨_,congrArg some (Prod.ext e rfl),hcut.swap hc.v,fun m => ?_⟩
   rw [look_swap hcut,← cut_at f.1,f.2,updL,if_pos k1]
  ·have e24 : ¬ ((s.length : Int) == 24) = true := by rw [beq_iff_eq]; omega
   have hpi : (p : Int) ≤ (s.length : Int) := by omega
   have hlim : s.length + 1 < 1099511627776 := by omega
   have eins : slices_Insert___impl_Setting_impl_Setting_ s p [(c.2.1,c.2.2.1,())] = some (s.take p ++ [(c.2.1,c.2.2.1,())] ++ s.drop p,()) := by
    rw [slices_Insert___impl_Setting_impl_Setting__eq]
    simp only [List.length_singleton,Int.natCast_nonneg,hpi,hlim,decide_true,Bool.and_self,if_true,Int.toNat_natCast]
   simp only [f,decide_false,Bool.false_eq_true,if_false]
   rw [impl_apply_p0_eq,if_pos (show (c.1 == 1) = true by rw [beq_iff_eq]; exact k1),if_neg e24,impl_apply_p1_eq,if_pos (show (c.1 == 1) = true by rw [beq_iff_eq]; exact k1),if_pos (by simp),eins,Option.bind_some]
   simp only [List.take_length]
   have hsplit : Sts (s.take p ++ s.drop p) := by rw [List.take_append_drop]; exact h
   have hb : ∀ y,y ∈ s.drop p → cN c < sN y := fun y hy => by
    by_cases hp : p < s.length
    ·have hne : sN (sAt s p) ≠ cN c := fun e => f ⟨hp,e⟩
     have hcut : Sts (s.take p ++ sAt s p :: s.drop (p + 1)) := by rw [← cut_at hp]; exact h
     rw [List.drop_eq_getElem_cons hp,sAt_el hp] at hy
     rcases List.mem_cons.1 hy with rfl | hy
     ·exact hgt hp hne
     ·exact List.lt_trans (hgt hp hne) (hcut.cut.2 y hy)
    ·rw [List.drop_of_length_le (by omega)] at hy; cases hy
   have e : s.take p ++ [(c.2.1,c.2.2.1,())] ++ s.drop p = s.take p ++ (cN c,cV c,()) :: s.drop p := by rw [List.append_assoc]; rfl
   refine ⟨_,congrArg some (Prod.ext e rfl),hsplit.put hc.n hc.v hlt hb,fun m => ?_⟩
   rw [look_put hlt,List.take_append_drop,updL,if_pos k1]
 ·have kn : ¬ (c.1 == 1) = true := by rw [beq_iff_eq]; have : c.1 = 2 := k2; rw [this]; decide
  have hm := look_mem k3
  have hnone : ¬ (p < s.length ∧ sN (sAt s p) = cN c) → False := fun f => by
   have : (look s (cN c)).getD (-1) = -1 := by
    have hv := value_ok h hc.n
    rw [impl_value_eq,h4,Option.bind_some] at hv
    simp only [f,decide_false,Bool.false_eq_true,if_false] at hv
    exact (Option.some.inj hv).symm
   rw [k3] at this
   have := hc.v.1
   simp at *
   omega
  by_cases f : p < s.length ∧ sN (sAt s p) = cN c
  ·have hpi : (p : Int) < (s.length : Int) := by omega
   have hcut : Sts (s.take p ++ sAt s p :: s.drop (p + 1)) := by rw [← cut_at f.1]; exact h
   have hval : sV (sAt s p) = cV c := by
    have := look_of h (sAt_mem f.1)
    rw [f.2,k3] at this
    exact (Option.some.inj this).symm
   have heq : ((sAt s p).1 == c.2.1 && (sAt s p).2.1 == c.2.2.1) = true := by
    rw [Bool.and_eq_true,beq_iff_eq,beq_iff_eq]; exact ⟨f.2,hval⟩
   have hw := wsucc (show p < 4611686018427387904 by omega)
   have hle : ((p + 1 : Nat) : Int) ≤ (s.length : Int) := by omega
   have hpp : (p : Int) < ((p + 1 : Nat) : Int) := by omega
   have hlim : s.length < 1099511627776 := by omega
   have edel : slices_Delete___impl_Setting_impl_Setting_ s p ((p + 1 : Nat) : Int) = some (s.take p ++ s.drop (p + 1),()) := by
    rw [slices_Delete___impl_Setting_impl_Setting__eq]
    simp only [Int.natCast_nonneg,hpp,hle,hlim,decide_true,Bool.and_self,if_true,Int.toNat_natCast]
   rw [if_neg kn,impl_apply_p0_eq,if_neg kn,impl_apply_p1_eq,if_neg kn]
   simp only [f,and_self,decide_true,Bool.not_true,Bool.false_eq_true,if_false,Int.natCast_nonneg,hpi,if_true,Int.toNat_natCast,sAt_get f.1,Option.bind_some,heq,hw,edel,List.take_length]
   refine ⟨_,rfl,h.sub ?_,fun m => ?_⟩
   ·conv => rhs; rw [cut_at f.1]
    exact List.Sublist.append (List.Sublist.refl _) (List.sublist_cons_self _ _)
   ·rw [look_del hcut,← cut_at f.1,f.2,updL,if_neg (show ¬ cK c = 1 by rw [k2]; decide)]
  ·exact (hnone f).elim
def foldL (L : List UInt8 → Option Int) : List T_Change.ty → List UInt8 → Option Int
 | [] => L
 | c :: cs => foldL (updL L c) cs
def Seq (L : List UInt8 → Option Int) : List T_Change.ty → Prop
 | [] => True
 | c :: cs => Chg L c ∧ Seq (updL L c) cs
theorem foldL_app : ∀ (a b : List T_Change.ty) (L : List UInt8 → Option Int),foldL L (a ++ b) = foldL (foldL L a) b
 | [],_,_ => rfl
 | c :: a,b,L => foldL_app a b (updL L c)
theorem Seq_app : ∀ {a b : List T_Change.ty} {L : List UInt8 → Option Int},Seq L a → Seq (foldL L a) b → Seq L (a ++ b)
 | [],_,_,_,h => h
 | c :: a,b,L,h1,h2 => ⟨h1.1,Seq_app h1.2 h2⟩
theorem fold_no : ∀ {cs : List T_Change.ty} {L : List UInt8 → Option Int} {m : List UInt8},(∀ c,c ∈ cs → cN c ≠ m) → foldL L cs m = L m
 | [],_,_,_ => rfl
 | c :: cs,L,m,h => by
   show foldL (updL L c) cs m = L m
   rw [fold_no fun d hd => h d (List.mem_cons_of_mem _ hd),updL,if_neg fun e => h c List.mem_cons_self e.symm]
theorem fold_at : ∀ {a b : List T_Change.ty} {c : T_Change.ty} {L : List UInt8 → Option Int},(∀ d,d ∈ b → cN d ≠ cN c) → foldL L (a ++ c :: b) (cN c) = if cK c = 1 then some (cV c) else none := by
 intro a b c L h
 rw [foldL_app]
 show foldL (updL (foldL L a) c) b (cN c) = _
 rw [fold_no h,updL,if_pos rfl]
theorem apply_loop : ∀ (cs : List T_Change.ty) (all : List T_Change.ty) (i : Nat) (s : List T_Setting.ty),all.drop i = cs → all.length ≤ 1000 → Sts s → Seq (look s) cs →
 ∃ s',impl_ApplyChanges_p1 all all.length i s = some (s',0) ∧ Sts s' ∧ ∀ m,look s' m = foldL (look s) cs m
 | [],all,i,s,hd,hl,hs,hq => by
   have : all.length ≤ i := List.drop_eq_nil_iff.1 hd
   rw [impl_ApplyChanges_p1_eq,if_neg (by simp; omega),List.take_length]
   exact ⟨s,rfl,hs,fun _ => rfl⟩
 | c :: cs,all,i,s,hd,hl,hs,hq => by
   have hi : i < all.length := by
    rcases Nat.lt_or_ge i all.length with h | h
    ·exact h
    ·rw [List.drop_eq_nil_of_le h] at hd; cases hd
   rw [List.drop_eq_getElem_cons hi] at hd
   obtain ⟨hd1,hd2⟩ := List.cons.inj hd
   have hlt : (i : Int) < (all.length : Int) := by omega
   obtain ⟨s1,e1,q1,q2⟩ := apply_ok hs hq.1
   have hfun : look s1 = updL (look s) c := funext q2
   obtain ⟨s',e2,q3,q4⟩ := apply_loop cs all (i + 1) s1 hd2 hl q1 (by rw [hfun]; exact hq.2)
   refine ⟨s',?_,q3,fun m => by rw [q4 m,hfun]; rfl⟩
   rw [impl_ApplyChanges_p1_eq]
   simp only [hlt,decide_true,if_true,Int.natCast_nonneg,Int.toNat_natCast,List.getElem?_eq_getElem hi,hd1,Option.bind_some,e1,bne_self_eq_false,Bool.false_eq_true,if_false,wsucc (show i < 4611686018427387904 by omega)]
   exact e2
theorem setting_ok {x : T_Setting.ty} (hn : sN x ∈ nms) (hv : 0 ≤ sV x ∧ sV x ≤ 1000) : impl_Setting_valid x = some true ∧ spec_l27Setting x = some true := by
 obtain ⟨n1,n2⟩ := nms_is _ hn
 have e1 : impl_IsName x.1 = some true := by rw [← n1]; exact impl_IsName_ok _ (by rw [show x.1 = sN x from rfl,n2]; decide)
 have e2 : spec_l01Name x.1 = some true := by rw [← n1]; exact spec_l01Name_ok _ (by rw [show x.1 = sN x from rfl,n2]; decide)
 have hin : inR x.2.1 0 1000 = true := by
  show inR (sV x) 0 1000 = true
  unfold inR; simp only [Bool.and_eq_true,decide_eq_true_eq]; exact hv
 rw [impl_Setting_valid_eq,e1,spec_l27Setting_eq,e2]
 simp only [Option.bind_some,if_true,impl_within_ok,spec_l00In_ok,hin,and_self]
theorem state_loop {s : List T_Setting.ty} (h : Sts s) : ∀ (k i : Nat),i + k = s.length → impl_ValidState_p0 s s s.length i = some true ∧ spec_l27State_p0 s i = some true
 | 0,i,hk => by
   have hl := h.len
   have : i = s.length := by omega
   subst this
   have h24 : (s.length : Int) ≤ 24 := by omega
   rw [impl_ValidState_p0_eq,if_neg (by simp),spec_l27State_p0_eq,if_neg (by simp),impl_few_eq]
   simp [h24]
 | k + 1,i,hk => by
   have hl := h.len
   have hi : i < s.length := by omega
   have hlt : (i : Int) < (s.length : Int) := by omega
   obtain ⟨I1,I2⟩ := state_loop h k (i + 1) (by omega)
   obtain ⟨v1,v2⟩ := setting_ok (h.nm _ (sAt_mem hi)) (h.v0 _ (sAt_mem hi))
   rw [impl_ValidState_p0_eq s s s.length i,spec_l27State_p0_eq s i]
   simp only [hlt,decide_true,if_true,Int.natCast_nonneg,Int.toNat_natCast,sAt_get hi,Option.bind_some,v1,v2,Bool.not_true,Bool.false_eq_true,if_false,wsucc (show i < 4611686018427387904 by omega)]
   by_cases h0 : (i : Int) > 0
   ·have hw : IntKind.i64.wrap ((i : Int) - 1) = ((i - 1 : Nat) : Int) := by rw [w64 (by omega) (by omega)]; omega
    have hup := List.pairwise_iff_getElem.1 h.up (i - 1) i (by omega) hi (by omega)
    rw [sAt_el (by omega),sAt_el hi] at hup
    have hb : Op.bytesLess (sAt s (i - 1)).1 (sAt s i).1 = true := by rw [Proofs.bytesLess_eq]; exact decide_eq_true hup
    simp only [h0,decide_true,if_true,hw,Int.natCast_nonneg,Int.toNat_natCast,sAt_get (show i - 1 < s.length by omega),Option.bind_some,hb,Bool.not_true,Bool.false_eq_true,if_false]
    exact ⟨I1,I2⟩
   ·simp only [h0,decide_false,Bool.false_eq_true,if_false]
    exact ⟨I1,I2⟩
theorem state_ok {s : List T_Setting.ty} (h : Sts s) : impl_ValidState s = some true ∧ spec_l27State s = some true := by
 rw [impl_ValidState_eq,spec_l27State_eq]
 exact state_loop h s.length 0 (by omega)
def drP (b l : List T_Setting.ty) : List T_Change.ty := (l.filter fun x => (look b (sN x)).isNone).map fun x => ((2 : Int),sN x,sV x,())
def stP (a l : List T_Setting.ty) : List T_Change.ty := (l.filter fun x => decide (look a (sN x) ≠ some (sV x))).map fun x => ((1 : Int),sN x,sV x,())
theorem drP_snoc (b l : List T_Setting.ty) (x : T_Setting.ty) : drP b (l ++ [x]) = drP b l ++ (if (look b (sN x)).isNone then [((2 : Int),sN x,sV x,())] else []) := by
 rw [drP,List.filter_append,List.map_append,← drP]
 congr 1
 by_cases c : (look b (sN x)).isNone = true <;> simp [List.filter_cons,c]
theorem stP_snoc (a l : List T_Setting.ty) (x : T_Setting.ty) : stP a (l ++ [x]) = stP a l ++ (if look a (sN x) ≠ some (sV x) then [((1 : Int),sN x,sV x,())] else []) := by
 rw [stP,List.filter_append,List.map_append,← stP]
 congr 1
 by_cases c : look a (sN x) = some (sV x) <;> simp [List.filter_cons,c]
theorem drP_len (b l : List T_Setting.ty) : (drP b l).length ≤ l.length := by rw [drP,List.length_map]; exact List.length_filter_le _ _
theorem stP_len (b l : List T_Setting.ty) : (stP b l).length ≤ l.length := by rw [stP,List.length_map]; exact List.length_filter_le _ _
theorem take_snoc {s : List T_Setting.ty} {i : Nat} (h : i < s.length) : s.take (i + 1) = s.take i ++ [sAt s i] := by rw [List.take_succ_eq_append_getElem h,sAt_el h]
theorem diff_loop2 {a b : List T_Setting.ty} (ha : Sts a) (hb : Sts b) : ∀ (k i : Nat),i + k = b.length → impl_DiffStates_p2 a b b.length i (drP b a ++ stP a (b.take i)) = some (drP b a ++ stP a b,0)
 | 0,i,hk => by
   have : i = b.length := by omega
   subst this
   rw [impl_DiffStates_p2_eq,if_neg (by simp)]
   simp only [List.take_length]
 | k + 1,i,hk => by
   have hl := hb.len
   have hla := ha.len
   have hi : i < b.length := by omega
   have hlt : (i : Int) < (b.length : Int) := by omega
   have IH := diff_loop2 ha hb k (i + 1) (by omega)
   have hv := value_ok ha (hb.nm _ (sAt_mem hi))
   have hv' : impl_value a (sAt b i).1 = some ((look a (sN (sAt b i))).getD (-1)) := hv
   have l1 := drP_len b a
   have l2 := stP_len a (b.take i)
   rw [List.length_take] at l2
   have hlim : (drP b a ++ stP a (b.take i)).length + 1 < lim := by rw [List.length_append]; unfold lim; omega
   rw [impl_DiffStates_p2_eq]
   simp only [hlt,decide_true,if_true,Int.natCast_nonneg,Int.toNat_natCast,sAt_get hi,Option.bind_some,hv',wsucc (show i < 4611686018427387904 by omega),List.take_length]
   rw [take_snoc hi,stP_snoc] at IH
   have hx0 := (hb.v0 _ (sAt_mem hi)).1
   have hiff : ((look a (sN (sAt b i))).getD (-1) != sV (sAt b i)) = decide (look a (sN (sAt b i)) ≠ some (sV (sAt b i))) := by
    cases hq : look a (sN (sAt b i)) with
    | none => simp; omega
    | some u => by_cases e : u = sV (sAt b i) <;> simp [e]
   by_cases c : look a (sN (sAt b i)) = some (sV (sAt b i))
   ·rw [if_neg (show ¬ ((look a (sN (sAt b i))).getD (-1) != (sAt b i).2.1) = true from by rw [show (sAt b i).2.1 = sV (sAt b i) from rfl,hiff]; simp [c])]
    rw [if_neg (by simpa using c),List.append_nil] at IH
    exact IH
   ·rw [if_pos (show ((look a (sN (sAt b i))).getD (-1) != (sAt b i).2.1) = true from by rw [show (sAt b i).2.1 = sV (sAt b i) from rfl,hiff]; exact decide_eq_true c),if_pos (decide_eq_true hlim)]
    rw [if_pos c,← List.append_assoc] at IH
    exact IH
theorem diff_loop1 {a b : List T_Setting.ty} (ha : Sts a) (hb : Sts b) : ∀ (k i : Nat),i + k = a.length → impl_DiffStates_p1 a b a a.length i (drP b (a.take i)) = some (drP b a ++ stP a b,0)
 | 0,i,hk => by
   have : i = a.length := by omega
   subst this
   rw [impl_DiffStates_p1_eq,if_neg (by simp),List.take_length]
   have := diff_loop2 ha hb b.length 0 (by omega)
   rw [List.take_zero,show stP a [] = [] from rfl,List.append_nil] at this
   exact this
 | k + 1,i,hk => by
   have hl := ha.len
   have hi : i < a.length := by omega
   have hlt : (i : Int) < (a.length : Int) := by omega
   have IH := diff_loop1 ha hb k (i + 1) (by omega)
   have hv := value_ok hb (ha.nm _ (sAt_mem hi))
   have hv' : impl_value b (sAt a i).1 = some ((look b (sN (sAt a i))).getD (-1)) := hv
   have l1 := drP_len b (a.take i)
   rw [List.length_take] at l1
   have hlim : (drP b (a.take i)).length + 1 < lim := by unfold lim; omega
   rw [impl_DiffStates_p1_eq]
   simp only [hlt,decide_true,if_true,Int.natCast_nonneg,Int.toNat_natCast,sAt_get hi,Option.bind_some,hv',wsucc (show i < 4611686018427387904 by omega),List.take_length]
   rw [take_snoc hi,drP_snoc] at IH
   cases hq : look b (sN (sAt a i)) with
   | none =>
     rw [hq] at IH
     simp only [Option.isNone_none,if_true] at IH
     rw [if_pos (by simp),if_pos (decide_eq_true hlim)]
     exact IH
   | some u =>
     rw [hq] at IH
     simp only [Option.isNone_some,Bool.false_eq_true,if_false,List.append_nil] at IH
     have := (hb.v0 _ (look_mem hq)).1
     have hu : 0 ≤ u := this
     rw [if_neg (by simp; omega)]
     exact IH
theorem diff_ok {a b : List T_Setting.ty} (ha : Sts a) (hb : Sts b) : impl_DiffStates a b = some (drP b a ++ stP a b,0) := by
 rw [impl_DiffStates_eq,(state_ok ha).1,Option.bind_some,if_neg (by decide),(state_ok hb).1,Option.bind_some,if_neg (by decide),impl_DiffStates_p0_eq]
 have := diff_loop1 ha hb a.length 0 (by omega)
 rw [List.take_zero,show drP b [] = [] from rfl] at this
 exact this
theorem drP_mem {b l : List T_Setting.ty} {c : T_Change.ty} (h : c ∈ drP b l) : ∃ x,x ∈ l ∧ look b (sN x) = none ∧ c = ((2 : Int),sN x,sV x,()) := by
 obtain ⟨x,hx,rfl⟩ := List.mem_map.1 h
 obtain ⟨h1,h2⟩ := List.mem_filter.1 hx
 exact ⟨x,h1,Option.isNone_iff_eq_none.1 h2,rfl⟩
theorem stP_mem {a l : List T_Setting.ty} {c : T_Change.ty} (h : c ∈ stP a l) : ∃ x,x ∈ l ∧ look a (sN x) ≠ some (sV x) ∧ c = ((1 : Int),sN x,sV x,()) := by
 obtain ⟨x,hx,rfl⟩ := List.mem_map.1 h
 obtain ⟨h1,h2⟩ := List.mem_filter.1 hx
 exact ⟨x,h1,of_decide_eq_true h2,rfl⟩
theorem drP_up {b l : List T_Setting.ty} (h : Sts l) : (drP b l).Pairwise fun c d => cN c ≠ cN d := by
 rw [drP,List.pairwise_map]
 exact (h.up.sublist List.filter_sublist).imp fun hab => lt_ne hab
theorem stP_up {b l : List T_Setting.ty} (h : Sts l) : (stP b l).Pairwise fun c d => cN c ≠ cN d := by
 rw [stP,List.pairwise_map]
 exact (h.up.sublist List.filter_sublist).imp fun hab => lt_ne hab
theorem seq_drops : ∀ {cs : List T_Change.ty} {L : List UInt8 → Option Int},cs.Pairwise (fun c d => cN c ≠ cN d) → (∀ c,c ∈ cs → Chg L c) → Seq L cs
 | [],_,_,_ => trivial
 | c :: cs,L,h1,h2 => by
   obtain ⟨h3,h4⟩ := List.pairwise_cons.1 h1
   refine ⟨h2 c List.mem_cons_self,seq_drops h4 fun d hd => ?_⟩
   have hc := h2 d (List.mem_cons_of_mem _ hd)
   refine ⟨hc.n,hc.v,hc.k.imp id fun ⟨a,b⟩ => ⟨a,?_⟩⟩
   rw [updL,if_neg (h3 d hd).symm]; exact b
theorem chg_valid {c : T_Change.ty} (hn : cN c ∈ nms) (hv : 0 ≤ cV c ∧ cV c ≤ 1000) : impl_Setting_valid (c.2.1,c.2.2.1,()) = some true := (setting_ok (x := (c.2.1,c.2.2.1,())) hn hv).1
theorem chk_loop {a : List T_Setting.ty} {cs : List T_Change.ty} (hl : cs.length ≤ 1000) (hc : ∀ c,c ∈ cs → (cK c = 1 ∨ cK c = 2) ∧ cN c ∈ nms ∧ 0 ≤ cV c ∧ cV c ≤ 1000) : ∀ (k i : Nat),i + k = cs.length →
 impl_ApplyChanges_p0 a cs cs cs.length i = (impl_clone_impl_Setting_ a).bind fun x4 => impl_ApplyChanges_p1 cs cs.length 0 x4
 | 0,i,hk => by
   have : i = cs.length := by omega
   subst this
   rw [impl_ApplyChanges_p0_eq,if_neg (by simp)]
 | k + 1,i,hk => by
   have hi : i < cs.length := by omega
   have hlt : (i : Int) < (cs.length : Int) := by omega
   obtain ⟨h1,h2,h3⟩ := hc _ (List.getElem_mem hi)
   have hin : inR (cs[i]).1 1 2 = true := by
    show inR (cK cs[i]) 1 2 = true
    unfold inR; simp only [Bool.and_eq_true,decide_eq_true_eq]; omega
   rw [impl_ApplyChanges_p0_eq]
   simp only [hlt,decide_true,if_true,Int.natCast_nonneg,Int.toNat_natCast,List.getElem?_eq_getElem hi,Option.bind_some,impl_within_ok,hin,chg_valid h2 h3,Bool.not_true,Bool.false_eq_true,if_false,wsucc (show i < 4611686018427387904 by omega)]
   exact chk_loop hl hc k (i + 1) (by omega)
theorem cloneS {s : List T_Setting.ty} (h : s.length ≤ 1000) : impl_clone_impl_Setting_ s = some s := by
 have h1 : (0 : Int) ≤ (s.length : Int) := by omega
 have h2 : ((s.length : Int)).toNat < lim := by unfold lim; omega
 have h3 : 0 + s.length < lim := by unfold lim; omega
 rw [impl_clone_impl_Setting__eq]
 simp only [h1,h2,h3,decide_true,Bool.and_self,if_true,List.nil_append,List.take_length]
theorem lead_ok {a b : List T_Setting.ty} (ha : Sts a) (hb : Sts b) : impl_ApplyChanges a (drP b a ++ stP a b) = some (b,0) := by
 have hla := ha.len
 have hlb := hb.len
 have l1 := drP_len b a
 have l2 := stP_len a b
 have hll : (drP b a ++ stP a b).length ≤ 1000 := by rw [List.length_append]; omega
 have hd : ∀ c,c ∈ drP b a → Chg (look a) c := fun c hc => by
  obtain ⟨x,hx,h1,rfl⟩ := drP_mem hc
  exact ⟨ha.nm x hx,ha.v0 x hx,.inr ⟨rfl,look_of ha hx⟩⟩
 have hs : ∀ L c,c ∈ stP a b → Chg L c := fun L c hc => by
  obtain ⟨x,hx,h1,rfl⟩ := stP_mem hc
  exact ⟨hb.nm x hx,hb.v0 x hx,.inl rfl⟩
 have hq : Seq (look a) (drP b a ++ stP a b) := Seq_app (seq_drops (drP_up ha) hd) (seq_drops (stP_up hb) (hs _))
 have hall : ∀ c,c ∈ drP b a ++ stP a b → (cK c = 1 ∨ cK c = 2) ∧ cN c ∈ nms ∧ 0 ≤ cV c ∧ cV c ≤ 1000 := fun c hc => by
  rcases List.mem_append.1 hc with h | h
  ·have := hd c h; exact ⟨this.k.imp id (·.1),this.n,this.v⟩
  ·have := hs (look a) c h; exact ⟨this.k.imp id (·.1),this.n,this.v⟩
 obtain ⟨s',e,q1,q2⟩ := apply_loop (drP b a ++ stP a b) (drP b a ++ stP a b) 0 a rfl hll ha hq
 have hfin : s' = b := sts_ext q1 hb fun m => by
  rw [q2 m,foldL_app]
  have hdrop : ∀ m,foldL (look a) (drP b a) m = if look b m = none then none else look a m := fun m => by
   by_cases hex : ∃ c,c ∈ drP b a ∧ cN c = m
   ·obtain ⟨c,hc,rfl⟩ := hex
    obtain ⟨x,hx,h1,hce⟩ := drP_mem hc
    obtain ⟨p,t,hpt⟩ := List.append_of_mem hc
    have hup := drP_up (b := b) ha
    rw [hpt] at hup ⊢
    have h3 := (List.pairwise_cons.1 (List.pairwise_append.1 hup).2.1).1
    rw [fold_at fun d hd => (h3 d hd).symm]
    have hk : cK c = 2 := by rw [hce]; rfl
    have hn : cN c = sN x := by rw [hce]; rfl
    rw [hk,if_neg (by decide),hn,if_pos h1]
   ·rw [fold_no fun c hc e => hex ⟨c,hc,e⟩]
    by_cases hb0 : look b m = none
    ·rw [if_pos hb0]
     cases hla0 : look a m with
     | none => rfl
     | some v =>
       exfalso
       have hm := look_mem hla0
       exact hex ⟨((2 : Int),m,v,()),List.mem_map.2 ⟨(m,v,()),List.mem_filter.2 ⟨hm,by show (look b m).isNone = true; rw [hb0]; rfl⟩,rfl⟩,rfl⟩
    ·rw [if_neg hb0]
  by_cases hex : ∃ c,c ∈ stP a b ∧ cN c = m
  ·obtain ⟨c,hc,rfl⟩ := hex
   obtain ⟨x,hx,h1,hce⟩ := stP_mem hc
   obtain ⟨p,t,hpt⟩ := List.append_of_mem hc
   have hup := stP_up (b := a) hb
   rw [hpt] at hup ⊢
   have h3 := (List.pairwise_cons.1 (List.pairwise_append.1 hup).2.1).1
   rw [fold_at fun d hd => (h3 d hd).symm]
   have hk : cK c = 1 := by rw [hce]; rfl
   have hn : cN c = sN x := by rw [hce]; rfl
   have hv : cV c = sV x := by rw [hce]; rfl
   rw [if_pos hk,hn,hv,look_of hb hx]
  ·rw [fold_no fun c hc e => hex ⟨c,hc,e⟩,hdrop m]
   cases hbm : look b m with
   | none => rfl
   | some v =>
     rw [if_neg (by simp)]
     have hm := look_mem hbm
     by_cases hav : look a m = some v
     ·exact hav
     ·exfalso
      exact hex ⟨((1 : Int),m,v,()),List.mem_map.2 ⟨(m,v,()),List.mem_filter.2 ⟨hm,decide_eq_true hav⟩,rfl⟩,rfl⟩
 rw [impl_ApplyChanges_eq,(state_ok ha).1,Option.bind_some,if_neg (by decide)]
 refine (chk_loop (a := a) hll hall _ 0 (Nat.zero_add _)).trans ?_
 rw [cloneS (by omega),Option.bind_some]
 rw [hfin] at e
 exact e
theorem sameS_loop (s : List T_Setting.ty) (hl : s.length ≤ 1000) : ∀ (k i : Nat),i + k = s.length → spec_l27Same_p0 s s i = some true
 | 0,i,hk => by
   rw [spec_l27Same_p0_eq,if_neg (by simp; omega)]
 | k + 1,i,hk => by
   have hi : i < s.length := by omega
   have hlt : (i : Int) < (s.length : Int) := by omega
   have hne : (!(((sAt s i).1 == (sAt s i).1) && ((sAt s i).2.1 == (sAt s i).2.1))) = false := by simp
   rw [spec_l27Same_p0_eq]
   simp only [hlt,decide_true,if_true,Int.natCast_nonneg,Int.toNat_natCast,sAt_get hi,Option.bind_some,hne,Bool.false_eq_true,if_false,wsucc (show i < 4611686018427387904 by omega)]
   exact sameS_loop s hl k (i + 1) (by omega)
theorem sameS (s : List T_Setting.ty) (hl : s.length ≤ 1000) : spec_SameState s s = some true := by
 rw [spec_SameState_eq,spec_l27Same_eq,if_neg (by simp)]
 have := sameS_loop s hl s.length 0 (by omega)
 have this' : spec_l27Same_p0 s s 0 = some true := this
 rw [this']; rfl
def nm5 : List (List UInt8) := [[97],[98],[99],[100],[101]]
def nmAt (i : Nat) : List UInt8 := (nm5[i]?).getD []
theorem nm5_ok : ∀ i,i < 5 → nm5[i]? = some (nmAt i) ∧ nmAt i ∈ nms ∧ ∀ j,j < i → nmAt j < nmAt i := by decide +kernel
theorem nms_get : ∀ i,i < 6 → ∃ n,nms[i]? = some n ∧ n ∈ nms := fun i h => ⟨nms[i]'h,List.getElem?_eq_getElem h,List.getElem_mem h⟩
theorem Sts.nil : Sts [] := ⟨List.Pairwise.nil,fun x h => (by cases h),fun x h => (by cases h)⟩
theorem dS_loop : ∀ (k i : Nat) (s : T_l00Src.ty) (c : Int) (r : List T_Setting.ty),i + k = 5 → SrcOk s c → c ≤ 900000000000000000 + 4 * (i : Int) → Sts r → (∀ x,x ∈ r → ∃ j,j < i ∧ sN x = nmAt j) →
 ∃ (r' : List T_Setting.ty) (s' : T_l00Src.ty),spec_l27DrawState_p0 i s.1 s.2.1 s.2.2.1 nm5 r = some (r',s') ∧ SrcOk s' (c + 4 * (k : Int)) ∧ Sts r'
 | 0,i,s,c,r,hi,hs,hc,hr,hx => by
   refine ⟨r,s,?_,hs.up (by omega),hr⟩
   have h5 : ¬ (i : Int) < 5 := by omega
   rw [spec_l27DrawState_p0_eq,if_neg (by simp only [h5,decide_false,Bool.false_eq_true,not_false_eq_true]),List.take_length]
 | k + 1,i,s,c,r,hi,hs,hc,hr,hx => by
   have h5 : (i : Int) < 5 := by omega
   obtain ⟨n1,n2,n3⟩ := nm5_ok i (by omega)
   obtain ⟨b,s1,e1,q1⟩ := one_ok hs (by omega) 2 (by omega)
   have hw := wsucc (show i < 4611686018427387904 by omega)
   have e1' : spec_l00Src_one (s.1,s.2.1,s.2.2.1,()) 2 = some (b,s1) := e1
   rw [spec_l27DrawState_p0_eq,if_pos (decide_eq_true h5),e1',Option.bind_some]
   cases b
   ·simp only [Bool.false_eq_true,if_false]
    rw [hw]
    obtain ⟨r',s',e,q,h⟩ := dS_loop k (i + 1) s1 (c + 2) r (by omega) q1 (by omega) hr fun x hx' => by
     obtain ⟨j,h1,h2⟩ := hx x hx'
     exact ⟨j,by omega,h2⟩
    exact ⟨r',s',e,q.up (by omega),h⟩
   ·obtain ⟨u,s2,e2,q2,u0,u1⟩ := pick_ok q1 (by omega) 1001 (by omega)
    have e2' : spec_l00Src_pick (s1.1,s1.2.1,s1.2.2.1,()) 1001 = some (u,s2) := e2
    have hlt : (i : Int) < (nm5.length : Int) := h5
    have hrl := hr.len
    have hlim : r.length + 1 < lim := by unfold lim; omega
    simp only [if_true,Int.natCast_nonneg,hlt,decide_true,Bool.and_self,Int.toNat_natCast,n1,Option.bind_some,e2',hlim,hw,List.take_length]
    have hput : Sts (r ++ [(nmAt i,u,())]) := by
     have h0 : Sts (r ++ []) := by rw [List.append_nil]; exact hr
     exact h0.put n2 ⟨u0,by omega⟩ (fun y hy => by
      obtain ⟨j,h1,h2⟩ := hx y hy
      rw [h2]; exact n3 j h1) fun y hy => by cases hy
    obtain ⟨r',s',e,q,h⟩ := dS_loop k (i + 1) s2 (c + 2 + 2) (r ++ [(nmAt i,u,())]) (by omega) q2 (by omega) hput fun x hx' => by
     rcases List.mem_append.1 hx' with hx' | hx'
     ·obtain ⟨j,h1,h2⟩ := hx x hx'
      exact ⟨j,by omega,h2⟩
     ·rw [List.mem_singleton.1 hx']
      exact ⟨i,by omega,rfl⟩
    exact ⟨r',s',e,q.up (by omega),h⟩
theorem dS_ok {s : T_l00Src.ty} {c : Int} (hs : SrcOk s c) (hc : c ≤ 900000000000000000) : ∃ (r : List T_Setting.ty) (s' : T_l00Src.ty),spec_l27DrawState s = some (r,s') ∧ SrcOk s' (c + 20) ∧ Sts r := by
 obtain ⟨r,s',e,q,h⟩ := dS_loop 5 0 s c [] rfl hs (by omega) Sts.nil fun x h => by cases h
 rw [spec_l27DrawState_eq]
 exact ⟨r,s',e,q.up (by omega),h⟩
theorem at_loop {s : List T_Setting.ty} (hl : s.length ≤ 1000) (n : List UInt8) : ∀ (k i : Nat),i + k = s.length → (∀ j,j < i → sN (sAt s j) ≠ n) →
 (spec_l27At_p0 s n i = some (-1) ∧ ∀ j,j < s.length → sN (sAt s j) ≠ n) ∨ ∃ p : Nat,p < s.length ∧ spec_l27At_p0 s n i = some (p : Int) ∧ sN (sAt s p) = n
 | 0,i,hi,hj => by
   have hlt : ¬ (i : Int) < (s.length : Int) := by omega
   refine .inl ⟨?_,fun j h => hj j (by omega)⟩
   rw [spec_l27At_p0_eq,if_neg (by simp only [hlt,decide_false,Bool.false_eq_true,not_false_eq_true])]
 | k + 1,i,hi,hj => by
   have hlt : (i : Int) < (s.length : Int) := by omega
   have hi' : i < s.length := by omega
   rw [spec_l27At_p0_eq]
   simp only [hlt,decide_true,if_true,Int.natCast_nonneg,Int.toNat_natCast,sAt_get hi',Option.bind_some,wsucc (show i < 4611686018427387904 by omega)]
   by_cases c : sN (sAt s i) = n
   ·rw [if_pos (show ((sAt s i).1 == n) = true by rw [beq_iff_eq]; exact c)]
    exact .inr ⟨i,hi',rfl,c⟩
   ·rw [if_neg (show ¬ ((sAt s i).1 == n) = true by rw [beq_iff_eq]; exact c)]
    exact at_loop hl n k (i + 1) (by omega) fun j h => by
     by_cases e : j = i
     ·subst e; exact c
     ·exact hj j (by omega)
theorem sat_ok {s : List T_Setting.ty} (hl : s.length ≤ 1000) (n : List UInt8) : spec_l27At s n = some (-1) ∨ ∃ p : Nat,p < s.length ∧ spec_l27At s n = some (p : Int) ∧ sN (sAt s p) = n := by
 rw [spec_l27At_eq]
 exact (at_loop hl n s.length 0 (by omega) fun j h => by omega).imp (·.1) id
theorem set_tail {s : List T_Setting.ty} (hl : s.length ≤ 1000) (n : List UInt8) (v : Int) : ∀ (k i : Nat) (r : List T_Setting.ty),i + k = s.length → r.length + k ≤ 2000 → (∀ y,y ∈ s.drop i → sN y ≠ n) → spec_l27Set_p0 s true i n v r = some (r ++ s.drop i)
 | 0,i,r,hi,hr,hy => by
   have hlt : ¬ (i : Int) < (s.length : Int) := by omega
   rw [spec_l27Set_p0_eq,if_neg (by simp only [hlt,decide_false,Bool.false_eq_true,not_false_eq_true]),if_neg (by decide),List.take_length,List.drop_of_length_le (by omega),List.append_nil]
 | k + 1,i,r,hi,hr,hy => by
   have hlt : (i : Int) < (s.length : Int) := by omega
   have hi' : i < s.length := by omega
   have hd : s.drop i = sAt s i :: s.drop (i + 1) := by rw [← sAt_el hi',List.drop_eq_getElem_cons hi']
   have hne : sN (sAt s i) ≠ n := hy _ (by rw [hd]; exact List.mem_cons_self)
   have hb : ((sAt s i).1 == n) = false := beq_eq_false_iff_ne.2 hne
   have hlim : r.length + 1 < lim := by unfold lim; omega
   rw [spec_l27Set_p0_eq,if_pos (decide_eq_true hlt),if_neg (by decide),spec_l27Set_p1_eq]
   simp only [decide_true,if_true,Int.natCast_nonneg,Int.toNat_natCast,sAt_get hi',Option.bind_some,hb,Bool.not_false,hlim,List.take_length,wsucc (show i < 4611686018427387904 by omega)]
   rw [set_tail hl n v k (i + 1) (r ++ [sAt s i]) (by omega) (by rw [List.length_append,List.length_singleton]; omega) fun y h => hy y (by rw [hd]; exact List.mem_cons_of_mem _ h),hd,List.append_assoc]
   rfl
theorem set_head {s : List T_Setting.ty} (h : Sts s) {n : List UInt8} (hn : n ∈ nms) {v : Int} (hv : 0 ≤ v ∧ v ≤ 1000) : ∀ (k i : Nat),i + k = s.length → (∀ y,y ∈ s.take i → sN y < n) →
 ∃ r,spec_l27Set_p0 s false i n v (s.take i) = some r ∧ Sts r ∧ ∀ m,look r m = if m = n then some v else look s m
 | 0,i,hi,hy => by
   have hl := h.len
   have hlt : ¬ (i : Int) < (s.length : Int) := by omega
   have ht : s.take i = s := List.take_of_length_le (by omega)
   have hlim : s.length + 1 < lim := by unfold lim; omega
   rw [ht] at hy ⊢
   have h0 : Sts (s ++ []) := by rw [List.append_nil]; exact h
   refine ⟨s ++ [(n,v,())],?_,h0.put hn hv hy (fun y h => by cases h),fun m => ?_⟩
   ·rw [spec_l27Set_p0_eq,if_neg (by simp only [hlt,decide_false,Bool.false_eq_true,not_false_eq_true]),if_pos (by decide),if_pos (decide_eq_true hlim),List.take_length,List.take_length]
   ·rw [look_put hy,List.append_nil]
 | k + 1,i,hi,hy => by
   have hl := h.len
   have hlt : (i : Int) < (s.length : Int) := by omega
   have hi' : i < s.length := by omega
   have htl : (s.take i).length = i := by rw [List.length_take]; omega
   have hlim : (s.take i).length + 1 < lim := by rw [htl]; unfold lim; omega
   have hw := wsucc (show i < 4611686018427387904 by omega)
   have hcut : Sts (s.take i ++ sAt s i :: s.drop (i + 1)) := by rw [← cut_at hi']; exact h
   rw [spec_l27Set_p0_eq,if_pos (decide_eq_true hlt),if_pos (by decide),if_pos (decide_eq_true (Int.natCast_nonneg i)),Int.toNat_natCast,sAt_get hi',Option.bind_some,Proofs.bytesLess_eq]
   by_cases c : sN (sAt s i) < n
   ·rw [if_neg (show ¬ (!decide ((sAt s i).1 < n)) = true by rw [show decide ((sAt s i).1 < n) = true from decide_eq_true c]; decide),spec_l27Set_p1_eq]
    have hb : ((sAt s i).1 == n) = false := beq_eq_false_iff_ne.2 (lt_ne c)
    simp only [decide_true,if_true,Int.natCast_nonneg,Int.toNat_natCast,sAt_get hi',Option.bind_some,hb,Bool.not_false,hlim,List.take_length,hw]
    rw [← take_snoc hi']
    exact set_head h hn hv k (i + 1) (by omega) fun y hy' => by
     rw [take_snoc hi'] at hy'
     rcases List.mem_append.1 hy' with hy' | hy'
     ·exact hy y hy'
     ·rw [List.mem_singleton.1 hy']; exact c
   ·have hlim2 : (s.take i ++ [(n,v,())]).length + 1 < lim := by rw [List.length_append,htl]; unfold lim; simp only [List.length_singleton]; omega
    rw [if_pos (show (!decide ((sAt s i).1 < n)) = true by rw [show decide ((sAt s i).1 < n) = false from decide_eq_false c]; rfl),if_pos (decide_eq_true hlim),spec_l27Set_p1_eq]
    simp only [decide_true,if_true,Int.natCast_nonneg,Int.toNat_natCast,sAt_get hi',Option.bind_some,hw,List.take_length]
    have hl3 : (s.take i).length + 1 + 1 < 1000 := by omega
    rcases (nms_tri _ (h.nm _ (sAt_mem hi')) _ hn).1 with q | q | q
    ·exact absurd q c
    ·have hb : ((sAt s i).1 == n) = true := beq_iff_eq.2 q
     refine ⟨s.take i ++ (n,v,()) :: s.drop (i + 1),?_,?_,fun m => ?_⟩
     ·rw [if_neg (by rw [hb]; decide),set_tail (by omega) n v k (i + 1) _ (by omega) (by rw [List.length_append,htl,List.length_singleton]; omega) fun y hy' => by
       rw [← q]; exact (lt_ne (hcut.cut.2 y hy')).symm,List.append_assoc]
      rfl
     ·have := hcut.swap hv
      rw [q] at this; exact this
     ·have := look_swap hcut v m
      rw [q,← cut_at hi'] at this; exact this
    ·have hb : ((sAt s i).1 == n) = false := beq_eq_false_iff_ne.2 (lt_ne q).symm
     have hd : s.drop i = sAt s i :: s.drop (i + 1) := by rw [← sAt_el hi',List.drop_eq_getElem_cons hi']
     refine ⟨s.take i ++ (n,v,()) :: s.drop i,?_,?_,fun m => ?_⟩
     ·rw [if_pos (by rw [hb]; rfl),if_pos (decide_eq_true hlim2),set_tail (by omega) n v k (i + 1) _ (by omega) (by rw [List.length_append,List.length_append,htl]; simp only [List.length_singleton]; omega) fun y hy' => (lt_ne (List.lt_trans q (hcut.cut.2 y hy'))).symm,List.append_assoc,List.append_assoc,hd]
      rfl
     ·have h0 : Sts (s.take i ++ s.drop i) := by rw [List.take_append_drop]; exact h
      refine h0.put hn hv hy fun y hy' => ?_
      rw [hd] at hy'
      rcases List.mem_cons.1 hy' with rfl | hy'
      ·exact q
      ·exact List.lt_trans q (hcut.cut.2 y hy')
     ·rw [look_put hy,List.take_append_drop]
theorem set_ok {s : List T_Setting.ty} (h : Sts s) {n : List UInt8} (hn : n ∈ nms) {v : Int} (hv : 0 ≤ v ∧ v ≤ 1000) : ∃ r,spec_l27Set s (n,v,()) = some r ∧ Sts r ∧ ∀ m,look r m = if m = n then some v else look s m := by
 rw [spec_l27Set_eq]
 exact set_head h hn hv s.length 0 (by omega) fun y h => by cases h
theorem ch_loop : ∀ (k : Nat) (v : Int) (s : T_l00Src.ty) (c : Int) (r : List T_Setting.ty),v ≤ k → SrcOk s c → c + 6 * (k : Int) ≤ 990000000000000000 → Sts r →
 ∃ (r' : List T_Setting.ty) (s' : T_l00Src.ty),spec_l27Changed_p0 v s.1 s.2.1 s.2.2.1 r nms = some (r',s') ∧ SrcOk s' (c + 6 * (k : Int)) ∧ Sts r'
 | k,v,s,c,r,hk,hs,hc,hr => by
   by_cases v0 : v > 0
   ·obtain ⟨k,rfl⟩ : ∃ k',k = k' + 1 := ⟨k - 1,by omega⟩
    have hrl := hr.len
    have hc0 : 0 ≤ c := Int.le_trans hs.2.2.1 hs.2.2.2
    obtain ⟨u,s1,e1,q1,u0,u1⟩ := pick_ok hs (by omega) 6 (by omega)
    have e1' : spec_l00Src_pick (s.1,s.2.1,s.2.2.1,()) 6 = some (u,s1) := e1
    obtain ⟨n,n1,n2⟩ := nms_get u.toNat (by omega)
    have hul : u < (nms.length : Int) := by show u < 6; omega
    have hwv : IntKind.i64.wrap (v - 1) = v - 1 := w64 (by omega) (by omega)
    have hp2 : ∀ (s2 : T_l00Src.ty),SrcOk s2 (c + 4) → ∃ (r' : List T_Setting.ty) (s' : T_l00Src.ty),spec_l27Changed_p2 v n s2.1 s2.2.1 s2.2.2.1 r nms = some (r',s') ∧ SrcOk s' (c + 6 * ((k + 1 : Nat) : Int)) ∧ Sts r' := fun s2 q2 => by
     obtain ⟨w,s3,e3,q3,w0,w1⟩ := pick_ok q2 (by omega) 1001 (by omega)
     have e3' : spec_l00Src_pick (s2.1,s2.2.1,s2.2.2.1,()) 1001 = some (w,s3) := e3
     obtain ⟨r2,e4,h4,_⟩ := set_ok hr n2 (v := w) ⟨w0,by omega⟩
     obtain ⟨r',s',e,q,h⟩ := ch_loop k (v - 1) s3 (c + 4 + 2) r2 (by omega) q3 (by omega) h4
     refine ⟨r',s',?_,q.up (by omega),h⟩
     rw [spec_l27Changed_p2_eq,e3',Option.bind_some,List.take_length,e4,Option.bind_some,hwv]
     exact e
    rw [spec_l27Changed_p0_eq,if_pos (decide_eq_true v0),e1',Option.bind_some]
    simp only [u0,hul,decide_true,Bool.and_self,if_true,n1,Option.bind_some,List.take_length]
    rcases sat_ok (s := r) (by omega) n with h | ⟨p,p1,p2,p3⟩
    ·rw [h,Option.bind_some,if_neg (by decide)]
     exact hp2 s1 (q1.up (by omega))
    ·have hp0 : (p : Int) ≥ 0 := Int.natCast_nonneg p
     obtain ⟨b,s2,e2,q2⟩ := one_ok q1 (by omega) 2 (by omega)
     have e2' : spec_l00Src_one (s1.1,s1.2.1,s1.2.2.1,()) 2 = some (b,s2) := e2
     rw [p2,Option.bind_some,if_pos (decide_eq_true hp0),e2',Option.bind_some]
     cases b
     ·simp only [Bool.false_eq_true,if_false]
      exact hp2 s2 (q2.up (by omega))
     ·rw [if_pos (by rfl),spec_l27Changed_p1_eq]
      have hw := wsucc (show p < 4611686018427387904 by omega)
      have hple : (p : Int) ≤ (r.length : Int) := by omega
      have hpl1 : ((p + 1 : Nat) : Int) ≤ (r.length : Int) := by omega
      have l1 : 0 + (r.take p).length < lim := by rw [List.length_take]; unfold lim; omega
      have l2 : ([] ++ r.take p).length + ((r.drop (p + 1)).take (r.length - (p + 1))).length < lim := by
       rw [List.nil_append,List.length_take,List.length_take,List.length_drop]; unfold lim; omega
      have hdt : (r.drop (p + 1)).take (r.length - (p + 1)) = r.drop (p + 1) := List.take_of_length_le (by rw [List.length_drop]; omega)
      simp only [Int.natCast_nonneg,hple,hpl1,decide_true,Bool.and_self,if_true,Int.toNat_natCast,l1,hw,vdrop_eq,l2,hwv]
      rw [List.take_length,List.nil_append,hdt]
      obtain ⟨r',s',e,q,h⟩ := ch_loop k (v - 1) s2 (c + 2 + 2) (r.take p ++ r.drop (p + 1)) (by omega) q2 (by omega) (hr.sub (by
       conv => rhs; rw [cut_at p1]
       exact List.Sublist.append (List.Sublist.refl _) (List.sublist_cons_self _ _)))
      exact ⟨r',s',e,q.up (by omega),h⟩
   ·refine ⟨r,s,?_,hs.up (by omega),hr⟩
    rw [spec_l27Changed_p0_eq,if_neg (by simp only [v0,decide_false,Bool.false_eq_true,not_false_eq_true]),List.take_length]
 termination_by k => k
 decreasing_by all_goals omega
theorem ch_ok {s : T_l00Src.ty} {c : Int} (hs : SrcOk s c) (hc : c ≤ 900000000000000000) {r : List T_Setting.ty} (hr : Sts r) : ∃ (r' : List T_Setting.ty) (s' : T_l00Src.ty),spec_l27Changed s r = some (r',s') ∧ SrcOk s' (c + 20) ∧ Sts r' := by
 have hrl := hr.len
 have hlim : 0 + r.length < lim := by unfold lim; omega
 obtain ⟨u,s1,e1,q1,u0,u1⟩ := pick_ok hs (by omega) 4 (by omega)
 obtain ⟨r',s',e,q,h⟩ := ch_loop 3 u s1 (c + 2) r (by omega) q1 (by omega) hr
 refine ⟨r',s',?_,q.up (by omega),h⟩
 rw [spec_l27Changed_eq,if_pos (decide_eq_true hlim),e1,Option.bind_some,List.nil_append]
 exact e
theorem r8State_ok {a : List Int} (h1 : ∀ x,x ∈ a → 0 ≤ x ∧ x ≤ 255) (h2 : a.length ≤ 1048576) : ∃ r,spec_R8State a = some r ∧ Sts r := by
 obtain ⟨s,e,q⟩ := from_ok a h1 h2
 obtain ⟨r,s',e2,_,h⟩ := dS_ok q (by omega)
 refine ⟨r,?_,h⟩
 rw [spec_R8State_eq,e,Option.bind_some,e2,Option.bind_some,List.take_length]
theorem r8Changed_ok {a : List Int} (h1 : ∀ x,x ∈ a → 0 ≤ x ∧ x ≤ 255) (h2 : a.length ≤ 1048576) {b : List T_Setting.ty} (hb : Sts b) : ∃ r,spec_R8Changed a b = some r ∧ Sts r := by
 obtain ⟨s,e,q⟩ := from_ok a h1 h2
 obtain ⟨r,s',e2,_,h⟩ := ch_ok q (by omega) hb
 refine ⟨r,?_,h⟩
 rw [spec_R8Changed_eq,e,Option.bind_some,e2,Option.bind_some,List.take_length]
theorem r8Has_ok (l : List Int) (v : Int) (hs : l.length ≤ 1048576) : laws_r8Has l v = some (decide (v ∈ l)) := by
 have loop : ∀ (k i : Nat),i + k = l.length → laws_r8Has_p0 l v i = some (decide (v ∈ l.drop i)) := by
  intro k
  induction k with
  | zero =>
    intro i hk
    rw [laws_r8Has_p0_eq,List.drop_eq_nil_of_le (by omega)]
    have : ¬ (i : Int) < (l.length : Int) := by omega
    simp only [this,decide_false,Bool.false_eq_true,if_false,List.not_mem_nil]
  | succ k ih =>
    intro i hk
    have hi : i < l.length := by omega
    have hlt : (i : Int) < (l.length : Int) := by omega
    rw [laws_r8Has_p0_eq,List.drop_eq_getElem_cons hi]
    simp only [hlt,Int.natCast_nonneg,decide_true,if_true,Int.toNat_natCast,List.getElem?_eq_getElem hi,Option.bind_some,wsucc (show i < 4611686018427387904 by omega)]
    by_cases e : l[i] = v
    ·simp [e]
    ·have e2 : ¬ v = l[i] := fun h => e h.symm
     have e3 : (l[i] == v) = false := by simpa using e
     simp only [e3,Bool.false_eq_true,if_false,ih (i + 1) (by omega),List.mem_cons,e2,false_or]
 rw [laws_r8Has_eq]
 exact loop l.length 0 (by omega)
theorem has64_ok (l : List Int) (v : Int) (hs : l.length ≤ 1048576) : slices_Contains___int64_int64_ l v = some (decide (v ∈ l)) := by
 have loop : ∀ (k i : Nat),i + k = l.length → ∃ x : Int,slices_Index___int64_int64__p0 l v l.length i = some x ∧ decide (x ≥ 0) = decide (v ∈ l.drop i) := by
  intro k
  induction k with
  | zero =>
    intro i hk
    rw [slices_Index___int64_int64__p0_eq,List.drop_eq_nil_of_le (by omega)]
    have : ¬ (i : Int) < (l.length : Int) := by omega
    simp only [this,decide_false,Bool.false_eq_true,if_false,List.not_mem_nil]
    exact ⟨-1,rfl,rfl⟩
  | succ k ih =>
    intro i hk
    have hi : i < l.length := by omega
    have hlt : (i : Int) < (l.length : Int) := by omega
    rw [slices_Index___int64_int64__p0_eq,List.drop_eq_getElem_cons hi]
    simp only [hlt,Int.natCast_nonneg,decide_true,if_true,Int.toNat_natCast,List.getElem?_eq_getElem hi,Option.bind_some,wsucc (show i < 4611686018427387904 by omega)]
    by_cases e : v = l[i]
    ·have e3 : (v == l[i]) = true := beq_iff_eq.2 e
     refine ⟨i,by rw [if_pos e3],?_⟩
     have h0 : (i : Int) ≥ 0 := Int.natCast_nonneg i
     have hm : v ∈ l[i] :: l.drop (i + 1) := by rw [← e]; exact List.mem_cons_self
     rw [decide_eq_true h0,decide_eq_true hm]
    ·have e3 : (v == l[i]) = false := beq_eq_false_iff_ne.2 e
     obtain ⟨x,h1,h2⟩ := ih (i + 1) (by omega)
     refine ⟨x,by rw [if_neg (by rw [e3]; decide)]; exact h1,?_⟩
     simp only [h2,List.mem_cons,e,false_or]
 obtain ⟨x,h1,h2⟩ := loop l.length 0 (by omega)
 rw [slices_Contains___int64_int64__eq,slices_Index___int64_int64__eq]
 have h1' : slices_Index___int64_int64__p0 l v l.length 0 = some x := h1
 rw [h1',Option.bind_some,h2,List.drop_zero]
structure Memo (m : List UInt8) : Prop where
 c : ∀ x,x ∈ m → 32 ≤ x.toNat ∧ x.toNat ≤ 126
 l : m.length ≤ 20
theorem memo_loop {m : List UInt8} (h : Memo m) : ∀ (k i : Nat),i + k = m.length → impl_isMemo_p0 m i = some true ∧ spec_l27Memo_p0 m i = some true
 | 0,i,hk => by
   have hl := h.l
   have hlt : ¬ (i : Int) < (m.length : Int) := by omega
   have h20 : (m.length : Int) ≤ 20 := by omega
   rw [impl_isMemo_p0_eq,spec_l27Memo_p0_eq,impl_few_eq]
   simp only [hlt,h20,decide_false,decide_true,Bool.false_eq_true,if_false,Option.bind_some,and_self]
 | k + 1,i,hk => by
   have hl := h.l
   have hi : i < m.length := by omega
   have hlt : (i : Int) < (m.length : Int) := by omega
   obtain ⟨I1,I2⟩ := memo_loop h k (i + 1) (by omega)
   obtain ⟨c1,c2⟩ := h.c _ (List.getElem_mem hi)
   have hw : IntKind.i64.wrap ((m[i].toNat : Nat) : Int) = ((m[i].toNat : Nat) : Int) := w64 (by omega) (by omega)
   have hin : inR ((m[i].toNat : Nat) : Int) 32 126 = true := by unfold inR; simp only [Bool.and_eq_true,decide_eq_true_eq]; omega
   have n1 : ¬ ((m[i].toNat : Nat) : Int) < 32 := by omega
   have n2 : ¬ ((m[i].toNat : Nat) : Int) > 126 := by omega
   rw [impl_isMemo_p0_eq,spec_l27Memo_p0_eq]
   simp only [hlt,decide_true,if_true,Int.natCast_nonneg,Int.toNat_natCast,List.getElem?_eq_getElem hi,Option.bind_some,hw,impl_within_ok,hin,Bool.not_true,Bool.false_eq_true,if_false,n1,n2,decide_false,wsucc (show i < 4611686018427387904 by omega)]
   exact ⟨I1,I2⟩
theorem memo_ok {m : List UInt8} (h : Memo m) : impl_isMemo m = some true ∧ spec_l27Memo m = some true := by
 rw [impl_isMemo_eq,spec_l27Memo_eq]
 exact memo_loop h m.length 0 (by omega)
def vN (v : T_Version.ty) : Int := v.1
def vP (v : T_Version.ty) : Int := v.2.1
def vM (v : T_Version.ty) : List UInt8 := v.2.2.1
def vS (v : T_Version.ty) : List T_Setting.ty := v.2.2.2.1
def vAt (h : List T_Version.ty) (i : Nat) : T_Version.ty := (h[i]?).getD (0,0,[],[],())
theorem vAt_get {h : List T_Version.ty} {i : Nat} (hi : i < h.length) : h[i]? = some (vAt h i) := by simp [vAt,List.getElem?_eq_getElem hi]
theorem vAt_el {h : List T_Version.ty} {i : Nat} (hi : i < h.length) : h[i] = vAt h i := by simp [vAt,List.getElem?_eq_getElem hi]
theorem vAt_old {h : List T_Version.ty} {x : T_Version.ty} {i : Nat} (hi : i < h.length) : vAt (h ++ [x]) i = vAt h i := by
 unfold vAt; rw [List.getElem?_append_left hi]
theorem vAt_new (h : List T_Version.ty) (x : T_Version.ty) : vAt (h ++ [x]) h.length = x := by
 unfold vAt; rw [List.getElem?_append_right (Nat.le_refl _),Nat.sub_self]; rfl
theorem vtake_snoc {h : List T_Version.ty} {i : Nat} (hi : i < h.length) : h.take (i + 1) = h.take i ++ [vAt h i] := by rw [List.take_succ_eq_append_getElem hi,vAt_el hi]
structure Hist (h : List T_Version.ty) : Prop where
 n : ∀ i,i < h.length → vN (vAt h i) = ((i + 1 : Nat) : Int)
 p : ∀ i,i < h.length → 0 ≤ vP (vAt h i) ∧ vP (vAt h i) ≤ (i : Int)
 m : ∀ i,i < h.length → Memo (vM (vAt h i))
 s : ∀ i,i < h.length → Sts (vS (vAt h i))
theorem Hist.nil : Hist [] := ⟨fun i h => (by cases h),fun i h => (by cases h),fun i h => (by cases h),fun i h => (by cases h)⟩
theorem Hist.snoc {h : List T_Version.ty} (H : Hist h) {p : Int} {m : List UInt8} {s : List T_Setting.ty} (hp : 0 ≤ p ∧ p ≤ (h.length : Int)) (hm : Memo m) (hs : Sts s) : Hist (h ++ [(((h.length + 1 : Nat) : Int),p,m,s,())]) := by
 have hc : ∀ i,i < (h ++ [((((h.length + 1 : Nat) : Int),p,m,s,()) : T_Version.ty)]).length → i < h.length ∨ i = h.length := fun i hi => by
  rw [List.length_append,List.length_singleton] at hi; omega
 refine ⟨fun i hi => ?_,fun i hi => ?_,fun i hi => ?_,fun i hi => ?_⟩
 ·rcases hc i hi with q | rfl
  ·rw [vAt_old q]; exact H.n i q
  ·rw [vAt_new]; rfl
 ·rcases hc i hi with q | rfl
  ·rw [vAt_old q]; exact H.p i q
  ·rw [vAt_new]; exact hp
 ·rcases hc i hi with q | rfl
  ·rw [vAt_old q]; exact H.m i q
  ·rw [vAt_new]; exact hm
 ·rcases hc i hi with q | rfl
  ·rw [vAt_old q]; exact H.s i q
  ·rw [vAt_new]; exact hs
theorem valid_loop {h : List T_Version.ty} (H : Hist h) (hl : h.length ≤ 32) : ∀ (k i : Nat),i + k = h.length → impl_ValidHistory_p0 h h h.length i = some true ∧ spec_l27Ok_p0 h i = some true
 | 0,i,hk => by
   have hlt : ¬ (i : Int) < (h.length : Int) := by omega
   have h32 : (h.length : Int) ≤ 32 := by omega
   rw [impl_ValidHistory_p0_eq,spec_l27Ok_p0_eq,impl_few_eq]
   simp only [hlt,h32,decide_false,decide_true,Bool.false_eq_true,if_false,Option.bind_some,and_self]
 | k + 1,i,hk => by
   have hi : i < h.length := by omega
   have hlt : (i : Int) < (h.length : Int) := by omega
   obtain ⟨I1,I2⟩ := valid_loop H hl k (i + 1) (by omega)
   obtain ⟨m1,m2⟩ := memo_ok (H.m i hi)
   obtain ⟨s1,s2⟩ := state_ok (H.s i hi)
   have m1' : impl_isMemo (vAt h i).2.2.1 = some true := m1
   have m2' : spec_l27Memo (vAt h i).2.2.1 = some true := m2
   have s1' : impl_ValidState (vAt h i).2.2.2.1 = some true := s1
   have s2' : spec_l27State (vAt h i).2.2.2.1 = some true := s2
   obtain ⟨p1,p2⟩ := H.p i hi
   have hin : inR (vAt h i).2.1 0 (i : Int) = true := by
    show inR (vP (vAt h i)) 0 (i : Int) = true
    unfold inR; simp only [Bool.and_eq_true,decide_eq_true_eq]; omega
   have hn : (vAt h i).1 = ((i + 1 : Nat) : Int) := H.n i hi
   rw [impl_ValidHistory_p0_eq,spec_l27Ok_p0_eq]
   simp only [hlt,decide_true,if_true,Int.natCast_nonneg,Int.toNat_natCast,vAt_get hi,Option.bind_some,wsucc (show i < 4611686018427387904 by omega),hn,bne_self_eq_false,impl_within_ok,spec_l00In_ok,hin,m1',m2',s1',s2',Bool.not_true,Bool.false_eq_true,if_false]
   exact ⟨I1,I2⟩
theorem valid_ok {h : List T_Version.ty} (H : Hist h) (hl : h.length ≤ 32) : impl_ValidHistory h = some true ∧ spec_ValidHistory h = some true := by
 obtain ⟨v1,v2⟩ := valid_loop H hl h.length 0 (by omega)
 have v1' : impl_ValidHistory_p0 h h h.length 0 = some true := v1
 have v2' : spec_l27Ok_p0 h 0 = some true := v2
 rw [impl_ValidHistory_eq,spec_ValidHistory_eq,spec_l27Ok_eq,v2',Option.bind_some]
 exact ⟨v1',rfl⟩
theorem copy_loop {h : List T_Version.ty} (H : Hist h) (hl : h.length ≤ 32) : ∀ (k i : Nat),i + k = h.length → impl_copyHistory_p0 h h.length i (h.take i) = some h
 | 0,i,hk => by
   have hlt : ¬ (i : Int) < (h.length : Int) := by omega
   rw [impl_copyHistory_p0_eq,if_neg (by simp only [hlt,decide_false,Bool.false_eq_true,not_false_eq_true]),List.take_length,List.take_of_length_le (by omega)]
 | k + 1,i,hk => by
   have hi : i < h.length := by omega
   have hlt : (i : Int) < (h.length : Int) := by omega
   have hsl := (H.s i hi).len
   have hc : impl_clone_impl_Setting_ (vAt h i).2.2.2.1 = some (vAt h i).2.2.2.1 := cloneS (s := (vAt h i).2.2.2.1) (by have : (vAt h i).2.2.2.1.length ≤ 6 := hsl; omega)
   have hlim : (h.take i).length + 1 < lim := by rw [List.length_take]; unfold lim; omega
   have IH := copy_loop H hl k (i + 1) (by omega)
   rw [vtake_snoc hi] at IH
   rw [impl_copyHistory_p0_eq]
   simp only [hlt,decide_true,if_true,Int.natCast_nonneg,Int.toNat_natCast,vAt_get hi,Option.bind_some,hc,hlim,List.take_length,wsucc (show i < 4611686018427387904 by omega)]
   exact IH
theorem commit_ok {h : List T_Version.ty} (H : Hist h) (hl : h.length < 32) (p : Int) (m : List UInt8) {s : List T_Setting.ty} (hs : Sts s) : impl_commit h p m s = some (h ++ [(((h.length + 1 : Nat) : Int),p,m,s,())],0) := by
 have hsl := hs.len
 have hne : ((h.length : Int) == 32) = false := beq_eq_false_iff_ne.2 (by omega)
 have hw := wsucc (show h.length < 4611686018427387904 by omega)
 have hlim : h.length + 1 < lim := by unfold lim; omega
 have hco : impl_copyHistory h = some h := by
  have := copy_loop H (by omega) h.length 0 (by omega)
  rw [List.take_zero] at this
  have this' : impl_copyHistory_p0 h h.length 0 [] = some h := this
  rw [impl_copyHistory_eq,hw]
  simp only [Int.natCast_nonneg,Int.toNat_natCast,hlim,decide_true,Bool.and_self,if_true]
  exact this'
 rw [impl_commit_eq,hne,if_neg (by decide),hco,Option.bind_some,cloneS (by omega),Option.bind_some,if_pos (decide_eq_true hlim),hw,List.take_length]
theorem isV_ok {h : List T_Version.ty} (hl : h.length ≤ 1000) {n : Int} (h1 : 1 ≤ n) (h2 : n ≤ (h.length : Int)) : impl_isVersion h n = some true := by
 have hw : IntKind.i64.wrap (n - 1) = n - 1 := w64 (by omega) (by omega)
 have a0 : n - 1 ≥ 0 := by omega
 have a1 : n - 1 < (h.length : Int) := by omega
 rw [impl_isVersion_eq,impl_at_eq,hw]
 simp only [a0,a1,decide_true,if_true,Option.bind_some]
theorem commitState_ok {h : List T_Version.ty} (H : Hist h) (hl : h.length < 32) {p : Int} (hp : 0 ≤ p ∧ p ≤ (h.length : Int)) {m : List UInt8} (hm : Memo m) {s : List T_Setting.ty} (hs : Sts s) : impl_CommitState h p m s = some (h ++ [(((h.length + 1 : Nat) : Int),p,m,s,())],0) := by
 have p1 : impl_CommitState_p1 h p m s = some (h ++ [(((h.length + 1 : Nat) : Int),p,m,s,())],0) := by
  rw [impl_CommitState_p1_eq,commit_ok H hl p m hs,Option.bind_some]
 rw [impl_CommitState_eq,(valid_ok H (by omega)).1,Option.bind_some,if_neg (by decide),(memo_ok hm).1,Option.bind_some,if_neg (by decide),(state_ok hs).1,Option.bind_some,if_neg (by decide),impl_CommitState_p0_eq]
 by_cases c : p = 0
 ·rw [if_neg (by rw [c]; decide)]; exact p1
 ·rw [if_pos (bne_iff_ne.2 c),isV_ok (by omega) (show 1 ≤ p by omega) hp.2,Option.bind_some,if_neg (by decide)]; exact p1
theorem dec_ok (u : Nat) (hu : u ≤ 1000) : ∃ d,impl_Decimal (u : Int) = some d ∧ 1 ≤ d.length ∧ d.length ≤ 4 ∧ ∀ c,c ∈ d → 48 ≤ c.toNat ∧ c.toNat ≤ 57 := by
 have h1 : (-9223372036854775808 : Int) ≤ (u : Int) := by omega
 have h2 : (u : Int) ≤ 9223372036854775807 := by omega
 obtain ⟨l1,l2⟩ := decDigits_len 3 u (by omega)
 refine ⟨Lib.decDigits u,?_,l2,l1,decDigits_dig u⟩
 rw [impl_Decimal_eq,strconv_FormatInt_eq]
 simp only [h1,h2,decide_true,Bool.and_self,if_true,Option.bind_some,itoa_pos]
def stOf (h : List T_Version.ty) (p : Int) : List T_Setting.ty := if p = 0 then [] else vS (vAt h (p - 1).toNat)
theorem stOf_sts {h : List T_Version.ty} (H : Hist h) {p : Int} (hp : 0 ≤ p ∧ p ≤ (h.length : Int)) : Sts (stOf h p) := by
 unfold stOf
 split
 ·exact Sts.nil
 ·exact H.s _ (by omega)
theorem stateOf_ok {h : List T_Version.ty} (hl : h.length ≤ 1000) {p : Int} (hp : 0 ≤ p ∧ p ≤ (h.length : Int)) : impl_stateOf h p = some (stOf h p) := by
 rw [impl_stateOf_eq,stOf]
 by_cases c : p = 0
 ·rw [if_pos (beq_iff_eq.2 c),if_pos c]
 ·have hw : IntKind.i64.wrap (p - 1) = p - 1 := w64 (by omega) (by omega)
  have h0 : 0 ≤ p - 1 := by omega
  rw [if_neg (by rw [beq_iff_eq]; exact c),if_neg c,hw,if_pos (decide_eq_true h0),vAt_get (show (p - 1).toNat < h.length by omega)]
  rfl
theorem stOf_old {h : List T_Version.ty} {x : T_Version.ty} {p : Int} (hp : 0 ≤ p ∧ p ≤ (h.length : Int)) : stOf (h ++ [x]) p = stOf h p := by
 unfold stOf
 by_cases c : p = 0
 ·rw [if_pos c,if_pos c]
 ·rw [if_neg c,if_neg c,vAt_old (by omega)]
theorem undo_ok {h : List T_Version.ty} (H : Hist h) (hl : h.length < 32) {n : Nat} (h1 : 1 ≤ n) (h2 : n ≤ h.length) : ∃ m,Memo m ∧ impl_UndoVersion h (n : Int) = some (h ++ [(((h.length + 1 : Nat) : Int),(n : Int),m,stOf h (vP (vAt h (n - 1))),())],0) := by
 obtain ⟨d,e,d1,d2,d3⟩ := dec_ok n (by omega)
 have hm : Memo ([117,110,100,111,32] ++ d) := by
  refine ⟨fun x hx => ?_,by rw [List.length_append]; show 5 + d.length ≤ 20; omega⟩
  rcases List.mem_append.1 hx with hx | hx
  ·exact (by decide : ∀ x : UInt8,x ∈ ([117,110,100,111,32] : List UInt8) → 32 ≤ x.toNat ∧ x.toNat ≤ 126) x hx
  ·have := d3 x hx; omega
 have hw : IntKind.i64.wrap ((n : Int) - 1) = ((n - 1 : Nat) : Int) := by rw [w64 (by omega) (by omega)]; omega
 have hsm : [117,110,100,111,32].length + d.length ≤ strMax := by unfold strMax; simp only [List.length_cons,List.length_nil]; omega
 obtain ⟨p1,p2⟩ := H.p (n - 1) (by omega)
 have hp : 0 ≤ vP (vAt h (n - 1)) ∧ vP (vAt h (n - 1)) ≤ (h.length : Int) := ⟨p1,by omega⟩
 have hst : impl_stateOf h (vAt h (n - 1)).2.1 = some (stOf h (vP (vAt h (n - 1)))) := stateOf_ok (by omega) hp
 refine ⟨_,hm,?_⟩
 rw [impl_UndoVersion_eq,(valid_ok H (by omega)).1,Option.bind_some,if_neg (by decide),isV_ok (by omega) (show 1 ≤ (n : Int) by omega) (by omega),Option.bind_some,if_neg (by decide),e,Option.bind_some,if_pos (decide_eq_true hsm),hw,if_pos (decide_eq_true (Int.natCast_nonneg _)),Int.toNat_natCast,vAt_get (show n - 1 < h.length by omega),Option.bind_some,hst,Option.bind_some,commit_ok H hl _ _ (stOf_sts H hp),Option.bind_some]
theorem anc_loop {h : List T_Version.ty} (H : Hist h) (hl : h.length ≤ 32) : ∀ (f : Nat) (p : Int) (r : List Int),p ≤ f → 0 ≤ p ∧ p ≤ (h.length : Int) → r.length + f ≤ 1000 →
 ∃ l,impl_ancestors_p0 h p r = some (r ++ l) ∧ (p > 0 → p ∈ l) ∧ (∀ x,x ∈ l → 1 ≤ x ∧ x ≤ p) ∧ l.Pairwise (· > ·) ∧ l.length ≤ f
 | f,p,r,hf,hp,hr => by
   by_cases c : p > 0
   ·obtain ⟨f,rfl⟩ : ∃ f',f = f' + 1 := ⟨f - 1,by omega⟩
    have hw : IntKind.i64.wrap (p - 1) = p - 1 := w64 (by omega) (by omega)
    have h0 : 0 ≤ p - 1 := by omega
    have hi : (p - 1).toNat < h.length := by omega
    have hlim : r.length + 1 < lim := by unfold lim; omega
    obtain ⟨p1,p2⟩ := H.p _ hi
    obtain ⟨l,e,l1,l2,l3,l4⟩ := anc_loop H hl f (vP (vAt h (p - 1).toNat)) (r ++ [p]) (by omega) ⟨p1,by omega⟩ (by rw [List.length_append,List.length_singleton]; omega)
    refine ⟨p :: l,?_,fun _ => List.mem_cons_self,fun x hx => ?_,List.pairwise_cons.2 ⟨fun x hx => ?_,l3⟩,by rw [List.length_cons]; omega⟩
    ·rw [impl_ancestors_p0_eq,if_pos (decide_eq_true c),if_pos (decide_eq_true hlim),hw,if_pos (decide_eq_true h0),vAt_get hi,Option.bind_some,List.take_length]
     rw [List.append_assoc] at e
     exact e
    ·rcases List.mem_cons.1 hx with rfl | hx
     ·omega
     ·have := l2 x hx; omega
    ·have := l2 x hx
     show p > x
     omega
   ·refine ⟨[],?_,fun h => absurd h c,fun x hx => (by cases hx),List.Pairwise.nil,Nat.zero_le _⟩
    rw [impl_ancestors_p0_eq,if_neg (by simp only [c,decide_false,Bool.false_eq_true,not_false_eq_true]),List.take_length,List.append_nil]
 termination_by f => f
 decreasing_by all_goals omega
theorem anc_ok {h : List T_Version.ty} (H : Hist h) (hl : h.length ≤ 32) {n : Nat} (h1 : 1 ≤ n) (h2 : n ≤ h.length) : ∃ l,impl_ancestors h (n : Int) = some l ∧ (vP (vAt h (n - 1)) > 0 → vP (vAt h (n - 1)) ∈ l) ∧ (∀ x,x ∈ l → 1 ≤ x ∧ x ≤ vP (vAt h (n - 1))) ∧ l.Pairwise (· > ·) ∧ l.length ≤ 32 := by
 have hw : IntKind.i64.wrap ((n : Int) - 1) = ((n - 1 : Nat) : Int) := by rw [w64 (by omega) (by omega)]; omega
 obtain ⟨p1,p2⟩ := H.p (n - 1) (by omega)
 obtain ⟨l,e,l1,l2,l3,l4⟩ := anc_loop H hl 32 (vP (vAt h (n - 1))) [] (by omega) ⟨p1,by omega⟩ (by decide)
 refine ⟨l,?_,l1,l2,l3,l4⟩
 rw [impl_ancestors_eq,hw,if_pos (decide_eq_true (Int.natCast_nonneg _)),Int.toNat_natCast,vAt_get (show n - 1 < h.length by omega),Option.bind_some]
 exact e
theorem heads_has {h : List T_Version.ty} (hl : h.length ≤ 32) (v : T_Version.ty) : ∃ b : Bool,slices_ContainsFunc___impl_Version_impl_Version__impl_HeadsOf_1 h (v,()) = some b ∧ (b = true → ∃ j,j < h.length ∧ vP (vAt h j) = vN v) := by
 have loop : ∀ (k i : Nat),i + k = h.length → ∃ x : Int,slices_IndexFunc___impl_Version_impl_Version__impl_HeadsOf_1_p0 h v.1 v.2.1 v.2.2.1 v.2.2.2.1 h.length i = some x ∧ (x ≥ 0 → ∃ j,j < h.length ∧ vP (vAt h j) = vN v) := by
  intro k
  induction k with
  | zero =>
    intro i hk
    have hlt : ¬ (i : Int) < (h.length : Int) := by omega
    refine ⟨-1,?_,fun h => absurd h (by decide)⟩
    rw [slices_IndexFunc___impl_Version_impl_Version__impl_HeadsOf_1_p0_eq,if_neg (by simp only [hlt,decide_false,Bool.false_eq_true,not_false_eq_true])]
  | succ k ih =>
    intro i hk
    have hi : i < h.length := by omega
    have hlt : (i : Int) < (h.length : Int) := by omega
    rw [slices_IndexFunc___impl_Version_impl_Version__impl_HeadsOf_1_p0_eq]
    simp only [hlt,decide_true,if_true,Int.natCast_nonneg,Int.toNat_natCast,vAt_get hi,Option.bind_some,impl_HeadsOf_1_eq,wsucc (show i < 4611686018427387904 by omega)]
    by_cases e : vP (vAt h i) = vN v
    ·exact ⟨i,by rw [if_pos (show ((vAt h i).2.1 == v.1) = true from beq_iff_eq.2 e)],fun _ => ⟨i,hi,e⟩⟩
    ·obtain ⟨x,x1,x2⟩ := ih (i + 1) (by omega)
     exact ⟨x,by rw [if_neg (show ¬ ((vAt h i).2.1 == v.1) = true by rw [beq_iff_eq]; exact e)]; exact x1,x2⟩
 obtain ⟨x,x1,x2⟩ := loop h.length 0 (by omega)
 have x1' : slices_IndexFunc___impl_Version_impl_Version__impl_HeadsOf_1_p0 h v.1 v.2.1 v.2.2.1 v.2.2.2.1 h.length 0 = some x := x1
 refine ⟨decide (x ≥ 0),?_,fun hb => x2 (of_decide_eq_true hb)⟩
 rw [slices_ContainsFunc___impl_Version_impl_Version__impl_HeadsOf_1_eq,slices_IndexFunc___impl_Version_impl_Version__impl_HeadsOf_1_eq,x1',Option.bind_some]
theorem heads_loop {h : List T_Version.ty} (H : Hist h) (hl : h.length ≤ 32) : ∀ (k i : Nat) (r : List Int),i + k = h.length → r.length ≤ i → ∃ l,impl_HeadsOf_p0 h h h.length i r = some (l,0) ∧ (0 < k ∨ (h.length : Int) ∈ r → (h.length : Int) ∈ l) ∧ l.length ≤ 32
 | 0,i,r,hk,hr => by
   have hlt : ¬ (i : Int) < (h.length : Int) := by omega
   refine ⟨r,?_,fun q => q.elim (fun q => absurd q (by decide)) id,by omega⟩
   rw [impl_HeadsOf_p0_eq,if_neg (by simp only [hlt,decide_false,Bool.false_eq_true,not_false_eq_true]),List.take_length]
 | k + 1,i,r,hk,hr => by
   have hi : i < h.length := by omega
   have hlt : (i : Int) < (h.length : Int) := by omega
   have hlim : r.length + 1 < lim := by unfold lim; omega
   obtain ⟨b,e,hb⟩ := heads_has hl (vAt h i)
   have hn := H.n i hi
   rw [impl_HeadsOf_p0_eq]
   simp only [hlt,decide_true,if_true,Int.natCast_nonneg,Int.toNat_natCast,vAt_get hi,Option.bind_some,e,hlim,List.take_length,wsucc (show i < 4611686018427387904 by omega)]
   cases b
   ·obtain ⟨l,l1,l2,l3⟩ := heads_loop H hl k (i + 1) (r ++ [(vAt h i).1]) (by omega) (by rw [List.length_append,List.length_singleton]; omega)
    refine ⟨l,l1,fun q => l2 ?_,l3⟩
    by_cases k0 : 0 < k
    ·exact .inl k0
    ·refine .inr (List.mem_append_right _ ?_)
     have : (vAt h i).1 = (h.length : Int) := by
      have : vN (vAt h i) = (h.length : Int) := by omega
      exact this
     rw [this]; exact List.mem_cons_self
   ·obtain ⟨l,l1,l2,l3⟩ := heads_loop H hl k (i + 1) r (by omega) (by omega)
    refine ⟨l,l1,fun q => l2 ?_,l3⟩
    by_cases k0 : 0 < k
    ·exact .inl k0
    ·obtain ⟨j,j1,j2⟩ := hb rfl
     have := H.p j j1
     exfalso; omega
theorem heads_ok {h : List T_Version.ty} (H : Hist h) (hl : h.length ≤ 32) (h0 : 0 < h.length) : ∃ l,impl_HeadsOf h = some (l,0) ∧ (h.length : Int) ∈ l ∧ l.length ≤ 32 := by
 obtain ⟨l,l1,l2,l3⟩ := heads_loop H hl h.length 0 [] (by omega) (Nat.le_refl _)
 refine ⟨l,?_,l2 (.inl h0),l3⟩
 rw [impl_HeadsOf_eq,(valid_ok H hl).1,Option.bind_some,if_neg (by decide)]
 exact l1
theorem common_self {h : List T_Version.ty} (H : Hist h) (hl : h.length ≤ 32) {n : Nat} (h1 : 1 ≤ n) (h2 : n ≤ h.length) : impl_CommonAncestor h (n : Int) (n : Int) = some ((n : Int),0) := by
 obtain ⟨l,e,l1,l2,l3,l4⟩ := anc_ok H hl h1 h2
 have hlim : l.length + 1 < lim := by unfold lim; omega
 have hlim2 : 1 + l.length < lim := by unfold lim; omega
 have hv := isV_ok (h := h) (by omega) (show 1 ≤ (n : Int) by omega) (by omega)
 have hc := has64_ok (l ++ [(n : Int)]) (n : Int) (by rw [List.length_append,List.length_singleton]; omega)
 have hmem : (n : Int) ∈ l ++ [(n : Int)] := List.mem_append_right _ List.mem_cons_self
 have hlt : (0 : Int) < ((([(n : Int)] ++ l).length : Nat) : Int) := by rw [List.length_append,List.length_singleton]; omega
 rw [impl_CommonAncestor_eq,(valid_ok H hl).1,Option.bind_some,if_neg (by decide),hv,Option.bind_some,if_neg (by decide),Option.bind_some,if_neg (by decide),impl_CommonAncestor_p0_eq,impl_common_eq,e,Option.bind_some,if_pos (decide_eq_true hlim),Option.bind_some,if_pos (decide_eq_true hlim2),impl_common_p0_eq,if_pos (decide_eq_true hlt),if_pos (by decide)]
 rw [show ([(n : Int)] ++ l)[(0 : Int).toNat]? = some (n : Int) from rfl,Option.bind_some,List.take_length,hc,Option.bind_some,if_pos (decide_eq_true hmem),Option.bind_some]
theorem vtext_loop {s : List T_Setting.ty} (hs : Sts s) {m : List UInt8} (hm : Memo m) (a b : Int) (s2 : List T_Setting.ty) : ∀ (k i : Nat) (t : List UInt8),i + k = s.length → t ≠ [] → t.length ≤ 100 + 30 * i → ∃ u,impl_VersionText_p1 t s s.length i a b m s2 = some u ∧ u ≠ []
 | 0,i,t,hk,ht,htl => by
   have hsl := hs.len
   have hml := hm.l
   have hlt : ¬ (i : Int) < (s.length : Int) := by omega
   rw [impl_VersionText_p1_eq,if_neg (by simp only [hlt,decide_false,Bool.false_eq_true,not_false_eq_true])]
   have q1 : [32,35,32].length + m.length ≤ strMax := by unfold strMax; simp only [List.length_cons,List.length_nil]; omega
   have q2 : t.length + ([32,35,32] ++ m).length ≤ strMax := by rw [List.length_append]; unfold strMax; simp only [List.length_cons,List.length_nil]; omega
   rw [if_pos (decide_eq_true q1),if_pos (decide_eq_true q2)]
   split
   ·exact ⟨_,rfl,by simp⟩
   ·exact ⟨_,rfl,ht⟩
 | k + 1,i,t,hk,ht,htl => by
   have hsl := hs.len
   have hi : i < s.length := by omega
   have hlt : (i : Int) < (s.length : Int) := by omega
   have hv := hs.v0 _ (sAt_mem hi)
   have hnl : (sAt s i).1.length = 1 := (nms_is _ (hs.nm _ (sAt_mem hi))).2
   obtain ⟨d,e,d1,d2,d3⟩ := dec_ok (sV (sAt s i)).toNat (by omega)
   have hz : (((sV (sAt s i)).toNat : Nat) : Int) = (sAt s i).2.1 := Int.toNat_of_nonneg hv.1
   rw [hz] at e
   have q1 : [32].length + (sAt s i).1.length ≤ strMax := by unfold strMax; simp only [List.length_cons,List.length_nil]; omega
   have q2 : ([32] ++ (sAt s i).1).length + [61].length ≤ strMax := by rw [List.length_append]; unfold strMax; simp only [List.length_cons,List.length_nil]; omega
   have q3 : (([32] ++ (sAt s i).1) ++ [61]).length + d.length ≤ strMax := by rw [List.length_append,List.length_append]; unfold strMax; simp only [List.length_cons,List.length_nil]; omega
   have l4 : ((([32] ++ (sAt s i).1) ++ [61]) ++ d).length ≤ 7 := by rw [List.length_append,List.length_append,List.length_append]; simp only [List.length_cons,List.length_nil]; omega
   have q4 : t.length + ((([32] ++ (sAt s i).1) ++ [61]) ++ d).length ≤ strMax := by unfold strMax; omega
   rw [impl_VersionText_p1_eq,if_pos (decide_eq_true hlt),if_pos (decide_eq_true (Int.natCast_nonneg i)),Int.toNat_natCast,sAt_get hi,Option.bind_some,if_pos (decide_eq_true q1),if_pos (decide_eq_true q2),e,Option.bind_some,if_pos (decide_eq_true q3),if_pos (decide_eq_true q4),wsucc (show i < 4611686018427387904 by omega)]
   exact vtext_loop hs hm a b s2 k (i + 1) _ (by omega) (by intro h0; exact ht (List.append_eq_nil_iff.1 h0).1) (by rw [List.length_append]; omega)
theorem vtext_ok {v : T_Version.ty} (hn : 1 ≤ vN v ∧ vN v ≤ 32) (hp : 0 ≤ vP v ∧ vP v ≤ vN v - 1) (hm : Memo (vM v)) (hs : Sts (vS v)) : ∃ u,impl_VersionText v = some u ∧ u ≠ [] := by
 obtain ⟨a,p,m,s,x⟩ := v
 simp only [vN,vP,vM,vS] at hn hp hm hs
 have hw : IntKind.i64.wrap (a - 1) = a - 1 := w64 (by omega) (by omega)
 have i1 : inR a 1 32 = true := by unfold inR; simp only [Bool.and_eq_true,decide_eq_true_eq]; omega
 have i2 : inR p 0 (a - 1) = true := by unfold inR; simp only [Bool.and_eq_true,decide_eq_true_eq]; omega
 obtain ⟨d1,e1,d11,d12,_⟩ := dec_ok a.toNat (by omega)
 obtain ⟨d2,e2,d21,d22,_⟩ := dec_ok p.toNat (by omega)
 rw [Int.toNat_of_nonneg (by omega)] at e1 e2
 have q1 : d1.length + [60].length ≤ strMax := by unfold strMax; simp only [List.length_cons,List.length_nil]; omega
 have q2 : (d1 ++ [60]).length + d2.length ≤ strMax := by rw [List.length_append]; unfold strMax; simp only [List.length_cons,List.length_nil]; omega
 obtain ⟨u,h1,h2⟩ := vtext_loop hs hm a p s s.length 0 ((d1 ++ [60]) ++ d2) (by omega) (by simp) (by rw [List.length_append,List.length_append,List.length_singleton]; omega)
 have h1' : impl_VersionText_p1 ((d1 ++ [60]) ++ d2) s s.length 0 a p m s = some u := h1
 refine ⟨u,?_,h2⟩
 rw [impl_VersionText_eq]
 simp only [impl_within_ok,i1,hw,i2,Option.bind_some,Bool.not_true,Bool.false_eq_true,if_false,(memo_ok hm).1,(state_ok hs).1]
 rw [impl_VersionText_p0_eq,e1,Option.bind_some,if_pos (decide_eq_true q1),e2,Option.bind_some,if_pos (decide_eq_true q2)]
 exact h1'
theorem memos_ok : ∀ m,m ∈ ([[],[110,101,119],[97,32,98]] : List (List UInt8)) → Memo m := fun m hm => by
 have h : ∀ m,m ∈ ([[],[110,101,119],[97,32,98]] : List (List UInt8)) → (∀ x,x ∈ m → 32 ≤ x.toNat ∧ x.toNat ≤ 126) ∧ m.length ≤ 20 := by decide
 exact ⟨(h m hm).1,(h m hm).2⟩
theorem draw_loop : ∀ (k : Nat) (v : Int) (s : T_l00Src.ty) (c : Int) (r : List T_Version.ty),v ≤ k → SrcOk s c → c + 50 * (k : Int) ≤ 800000000000000000 → Hist r → r.length + k ≤ 10 →
 ∃ (r' : List T_Version.ty) (s' : T_l00Src.ty),spec_l27Draw_p0 v s.1 s.2.1 s.2.2.1 r = some (r',s') ∧ Hist r' ∧ r'.length ≤ r.length + k
 | k,v,s,c,r,hk,hs,hc,hr,hrl => by
   by_cases v0 : v > 0
   ·obtain ⟨k,rfl⟩ : ∃ k',k = k' + 1 := ⟨k - 1,by omega⟩
    have hw := wsucc (show r.length < 4611686018427387904 by omega)
    have hwv : IntKind.i64.wrap (v - 1) = v - 1 := w64 (by omega) (by omega)
    obtain ⟨p,s1,e1,q1,p0,p1⟩ := pick_ok hs (by omega) ((r.length + 1 : Nat) : Int) (by omega)
    have e1' : spec_l00Src_pick (s.1,s.2.1,s.2.2.1,()) ((r.length + 1 : Nat) : Int) = some (p,s1) := e1
    have hpl : p ≤ (r.length : Int) := by omega
    have hnext : ∀ (s2 : T_l00Src.ty) (st : List T_Setting.ty),SrcOk s2 (c + 42) → Sts st → ∃ (r' : List T_Version.ty) (s' : T_l00Src.ty),spec_l27Draw_p1 v (r.length : Int) p s2.1 s2.2.1 s2.2.2.1 r st = some (r',s') ∧ Hist r' ∧ r'.length ≤ r.length + (k + 1) := fun s2 st q2 hst => by
     obtain ⟨m,s3,e3,q3,hm⟩ := text_ok q2 (by omega) [[],[110,101,119],[97,32,98]] (by decide) (by decide)
     have e3' : spec_l00Src_text (s2.1,s2.2.1,s2.2.2.1,()) [[],[110,101,119],[97,32,98]] = some (m,s3) := e3
     have hlim : r.length + 1 < lim := by unfold lim; omega
     obtain ⟨r',s',e,h1,h2⟩ := draw_loop k (v - 1) s3 (c + 42 + 2) (r ++ [(((r.length + 1 : Nat) : Int),p,m,st,())]) (by omega) q3 (by omega) (hr.snoc ⟨p0,hpl⟩ (memos_ok m hm) hst) (by rw [List.length_append,List.length_singleton]; omega)
     refine ⟨r',s',?_,h1,by rw [List.length_append,List.length_singleton] at h2; omega⟩
     rw [spec_l27Draw_p1_eq,e3',Option.bind_some,if_pos (decide_eq_true hlim),hwv,hw,List.take_length,List.take_length]
     exact e
    obtain ⟨st,s2,e2,q2,hst⟩ := dS_ok q1 (by omega)
    have e2' : spec_l27DrawState (s1.1,s1.2.1,s1.2.2.1,()) = some (st,s2) := e2
    rw [spec_l27Draw_p0_eq,if_pos (decide_eq_true v0),hw,e1',Option.bind_some,e2',Option.bind_some]
    by_cases pp : p > 0
    ·have hw2 : IntKind.i64.wrap (p - 1) = p - 1 := w64 (by omega) (by omega)
     have a0 : 0 ≤ p - 1 := by omega
     have a1 : p - 1 < (r.length : Int) := by omega
     have hi : (p - 1).toNat < r.length := by omega
     obtain ⟨st2,s3,e3,q3,hst2⟩ := ch_ok q2 (by omega) (hr.s _ hi)
     have e3' : spec_l27Changed (s2.1,s2.2.1,s2.2.2.1,()) (vAt r (p - 1).toNat).2.2.2.1 = some (st2,s3) := e3
     rw [if_pos (decide_eq_true pp),hw2,if_pos (by rw [decide_eq_true a0,decide_eq_true a1]; rfl),vAt_get hi,Option.bind_some,e3',Option.bind_some]
     exact hnext s3 st2 (q3.up (by omega)) hst2
    ·rw [if_neg (by simp only [pp,decide_false,Bool.false_eq_true,not_false_eq_true])]
     exact hnext s2 st (q2.up (by omega)) hst
   ·refine ⟨r,s,?_,hr,by omega⟩
    rw [spec_l27Draw_p0_eq,if_neg (by simp only [v0,decide_false,Bool.false_eq_true,not_false_eq_true]),List.take_length]
 termination_by k => k
 decreasing_by all_goals omega
theorem r8History_ok {a : List Int} (h1 : ∀ x,x ∈ a → 0 ≤ x ∧ x ≤ 255) (h2 : a.length ≤ 1048576) : ∃ r,spec_R8History a = some r ∧ Hist r ∧ r.length ≤ 5 := by
 obtain ⟨s,e,q⟩ := from_ok a h1 h2
 obtain ⟨u,s1,e1,q1,u0,u1⟩ := pick_ok q (by omega) 6 (by omega)
 obtain ⟨r,s',e2,h3,h4⟩ := draw_loop 5 u s1 (0 + 2) [] (by omega) q1 (by omega) Hist.nil (by decide)
 refine ⟨r,?_,h3,h4⟩
 rw [spec_R8History_eq,e,Option.bind_some,spec_l27Draw_eq,e1,Option.bind_some,e2,Option.bind_some]
theorem at_ok (v1 : List Int) (h1 : ∀ x,x ∈ v1 → 0 ≤ x ∧ x ≤ 255) (k : Nat) (m : Int) (hm : 1 < m) : ∃ r : Int,laws_r8At v1 k m = some r ∧ 0 ≤ r ∧ r < m := by
 rw [laws_r8At_eq]
 simp only [show ¬ (m ≤ 1) by omega,decide_false,Bool.false_eq_true,if_false]
 by_cases c : (k : Int) ≥ (v1.length : Int)
 ·rw [if_pos (decide_eq_true c)]; exact ⟨0,rfl,by omega,by omega⟩
 ·have hk2 : k < v1.length := by omega
  obtain ⟨b0,b1⟩ := h1 _ (List.getElem_mem hk2)
  rw [if_neg (by simpa using c),laws_r8At_p0_eq]
  simp only [Int.natCast_nonneg,decide_true,if_true,Int.toNat_natCast,List.getElem?_eq_getElem hk2,Option.bind_some,show ¬ (m = 0) by omega,decide_false,Bool.false_eq_true,if_false]
  rw [w64 (n := v1[k]) (by omega) (by omega),tmod_nonneg_eq b0]
  exact ⟨_,rfl,Int.emod_nonneg _ (by omega),Int.emod_lt_of_pos _ (by omega)⟩
theorem par_ok {a : List Int} (h1 : ∀ x,x ∈ a → 0 ≤ x ∧ x ≤ 255) (n : Nat) : ∃ p : Int,laws_r8At a 0 ((n + 1 : Nat) : Int) = some p ∧ 0 ≤ p ∧ p ≤ (n : Int) := by
 by_cases c : n = 0
 ·subst c
  refine ⟨0,?_,by omega,by omega⟩
  rw [laws_r8At_eq,if_pos (by decide)]
 ·obtain ⟨r,e,r0,r1⟩ := at_ok a h1 0 ((n + 1 : Nat) : Int) (by omega)
  exact ⟨r,e,r0,by omega⟩
theorem fall_loop {h : List T_Version.ty} {n : Nat} (hn : 1 ≤ n) (hnl : n ≤ h.length) (hl : h.length ≤ 32) {l : List Int} (l2 : ∀ x,x ∈ l → 1 ≤ x ∧ x < (n : Int)) (l3 : l.Pairwise (· > ·)) (l4 : l.length ≤ 32) (ht : ∃ u,impl_VersionText (vAt h (n - 1)) = some u ∧ u ≠ []) : ∀ (k i : Nat),i + k = l.length → laws_FnVersions_p4 h (n : Int) i l = some true
 | 0,i,hk => by
   obtain ⟨u,e,hu⟩ := ht
   have hlt : ¬ (i : Int) < (l.length : Int) := by omega
   have hw : IntKind.i64.wrap ((n : Int) - 1) = ((n - 1 : Nat) : Int) := by rw [w64 (by omega) (by omega)]; omega
   have hu' : (u == []) = false := beq_eq_false_iff_ne.2 hu
   rw [laws_FnVersions_p4_eq,if_neg (by simp only [hlt,decide_false,Bool.false_eq_true,not_false_eq_true]),hw,if_pos (decide_eq_true (Int.natCast_nonneg _)),Int.toNat_natCast,vAt_get (show n - 1 < h.length by omega),Option.bind_some,e,Option.bind_some,hu']
   rfl
 | k + 1,i,hk => by
   have hi : i < l.length := by omega
   have hlt : (i : Int) < (l.length : Int) := by omega
   obtain ⟨x1,x2⟩ := l2 _ (List.getElem_mem hi)
   have IH := fall_loop hn hnl hl l2 l3 l4 ht k (i + 1) (by omega)
   have n1 : ¬ l[i] < 1 := by omega
   have n2 : ¬ l[i] ≥ (n : Int) := by omega
   rw [laws_FnVersions_p4_eq]
   simp only [hlt,decide_true,if_true,Int.natCast_nonneg,Bool.and_self,Int.toNat_natCast,List.getElem?_eq_getElem hi,Option.bind_some,n1,n2,decide_false,Bool.false_eq_true,if_false,wsucc (show i < 4611686018427387904 by omega)]
   by_cases c : (i : Int) > 0
   ·have hw : IntKind.i64.wrap ((i : Int) - 1) = ((i - 1 : Nat) : Int) := by rw [w64 (by omega) (by omega)]; omega
    have hlt2 : ((i - 1 : Nat) : Int) < (l.length : Int) := by omega
    have hf := List.pairwise_iff_getElem.1 l3 (i - 1) i (by omega) hi (by omega)
    have n3 : ¬ l[i] ≥ l[i - 1] := by omega
    simp only [c,decide_true,if_true,hw,Int.natCast_nonneg,hlt2,Bool.and_self,Int.toNat_natCast,List.getElem?_eq_getElem (show i - 1 < l.length by omega),Option.bind_some,n3,decide_false,Bool.false_eq_true,if_false]
    exact IH
   ·simp only [c,decide_false,Bool.false_eq_true,if_false]
    exact IH
theorem longS' (a b : List Int) : laws_r8Long a b = some (decide ((a.length : Int) > 1048576) || decide ((b.length : Int) > 1048576)) := by
 rw [laws_r8Long_eq]
 by_cases c : (a.length : Int) > 1048576 <;> simp [c]
theorem memo_next : Memo [110,101,120,116] := ⟨by decide,by decide⟩
theorem laws_FnVersions_true (a0 a1 : List Int) (h0 : ET.wf (.one (.sl (.one (.int .u8)))) a0) (h1 : ET.wf (.one (.sl (.one (.int .u8)))) a1) : laws_FnVersions a0 a1 = some true := by
 rw [laws_FnVersions_eq,longS',Option.bind_some]
 by_cases c0 : (a0.length : Int) > 1048576
 ·simp [c0]
 by_cases c1 : (a1.length : Int) > 1048576
 ·simp [c1]
 simp only [c0,c1,decide_false,Bool.or_self,Bool.false_eq_true,if_false]
 obtain ⟨h,eh,H,hl⟩ := r8History_ok (bytes_ok h0) (by omega)
 obtain ⟨sa,ea,ha⟩ := r8State_ok (bytes_ok h1) (by omega)
 obtain ⟨sb,eb,hb⟩ := r8Changed_ok (bytes_ok h0) (by omega) ha
 have hbl := hb.len
 rw [eh,Option.bind_some,ea,Option.bind_some,List.take_length,eb,Option.bind_some,List.take_length,diff_ok ha hb,Option.bind_some]
 simp only [List.take_length]
 rw [lead_ok ha hb,Option.bind_some]
 simp only [List.take_length]
 rw [sameS sb (by omega),if_neg (by decide),if_neg (by decide),Option.bind_some,if_neg (by decide),laws_FnVersions_p0_eq]
 have hw := wsucc (show h.length < 4611686018427387904 by omega)
 obtain ⟨p,ep,p0,p1⟩ := par_ok (bytes_ok h1) h.length
 rw [hw,ep,Option.bind_some,List.take_length,commitState_ok H (by omega) ⟨p0,p1⟩ memo_next ha,Option.bind_some]
 have H2 : Hist (h ++ [(((h.length + 1 : Nat) : Int),p,[110,101,120,116],sa,())]) := H.snoc ⟨p0,p1⟩ memo_next ha
 obtain ⟨nx,hnx⟩ : ∃ nx : List T_Version.ty,nx = h ++ [(((h.length + 1 : Nat) : Int),p,[110,101,120,116],sa,())] := ⟨_,rfl⟩
 have hnl : nx.length = h.length + 1 := by rw [hnx,List.length_append,List.length_singleton]
 have hlast : vAt nx (h.length + 1 - 1) = (((h.length + 1 : Nat) : Int),p,[110,101,120,116],sa,()) := by rw [hnx]; exact vAt_new h _
 have hold : ∀ q : Int,0 ≤ q → q ≤ (h.length : Int) → stOf nx q = stOf h q := fun q q0 q1 => by rw [hnx]; exact stOf_old ⟨q0,q1⟩
 rw [← hnx] at H2 ⊢
 have hvp : vP (vAt nx (h.length + 1 - 1)) = p := by rw [hlast]; rfl
 obtain ⟨m,hm,eu⟩ := undo_ok H2 (by omega) (n := h.length + 1) (by omega) (by omega)
 obtain ⟨l,el,l1,l2,l3,l4⟩ := anc_ok H2 (by omega) (n := h.length + 1) (by omega) (by omega)
 obtain ⟨hd,ed,d1,d2⟩ := heads_ok H2 (by omega) (by omega)
 have ec := common_self H2 (by omega) (n := h.length + 1) (by omega) (by omega)
 rw [hvp] at eu l1 l2
 rw [hold p p0 p1] at eu
 have eanc : impl_AncestorsOf nx ((h.length + 1 : Nat) : Int) = some (l,0) := by
  rw [impl_AncestorsOf_eq,(valid_ok H2 (by omega)).1,Option.bind_some,if_neg (by decide),isV_ok (by omega) (show 1 ≤ ((h.length + 1 : Nat) : Int) by omega) (by omega),Option.bind_some,if_neg (by decide),el,Option.bind_some,List.take_length]
 have hsts : Sts (stOf h p) := stOf_sts H ⟨p0,p1⟩
 have H3 := H2.snoc (p := ((h.length + 1 : Nat) : Int)) (m := m) (s := stOf h p) ⟨by omega,by omega⟩ hm hsts
 obtain ⟨un,hun⟩ : ∃ un : List T_Version.ty,un = nx ++ [(((nx.length + 1 : Nat) : Int),((h.length + 1 : Nat) : Int),m,stOf h p,())] := ⟨_,rfl⟩
 have hul : un.length = h.length + 2 := by rw [hun,List.length_append,List.length_singleton]; omega
 have hulast : vAt un (h.length + 1) = (((nx.length + 1 : Nat) : Int),((h.length + 1 : Nat) : Int),m,stOf h p,()) := by
  rw [hun,← hnl]; exact vAt_new nx _
 rw [← hun] at H3 eu
 have hw2 : IntKind.i64.wrap (((h.length + 1 : Nat) : Int) + 1) = ((h.length + 2 : Nat) : Int) := wsucc (show h.length + 1 < 4611686018427387904 by omega)
 have hd1 : ((h.length + 1 : Nat) : Int) ∈ hd := by rw [← hnl]; exact d1
 have z0 : ((0 : Int) != 0) = false := rfl
 have ehd := r8Has_ok hd ((h.length + 1 : Nat) : Int) (by omega)
 rw [eu,Option.bind_some,eanc,Option.bind_some,ed,Option.bind_some,ec,Option.bind_some]
 simp only [z0,Bool.false_eq_true,if_false,hnl,bne_self_eq_false,hul,hw2,List.take_length,ehd,Option.bind_some,hd1,decide_true,Bool.not_true,(valid_ok H3 (by omega)).2]
 have hp4 : laws_FnVersions_p4 nx ((h.length + 1 : Nat) : Int) 0 l = some true := by
  have ht : ∃ u,impl_VersionText (vAt nx (h.length + 1 - 1)) = some u ∧ u ≠ [] := by
   rw [hlast]
   refine vtext_ok ?_ ?_ memo_next ha
   ·simp only [vN]; omega
   ·simp only [vN,vP]; omega
  exact fall_loop (h := nx) (n := h.length + 1) (by omega) (by omega) (by omega) (fun x hx => by have := l2 x hx; omega) l3 l4 ht l.length 0 (by omega)
 have hp2 : ∀ before : List T_Setting.ty,before = stOf h p → laws_FnVersions_p2 p nx ((h.length + 1 : Nat) : Int) un before l = some true := fun before hbe => by
  subst hbe
  have hsl := hsts.len
  have hdec : (decide (p > 0) == decide (p ∈ l)) = true := by
   by_cases c : p > 0
   ·rw [decide_eq_true c,decide_eq_true (l1 c)]; rfl
   ·have : p ∉ l := fun q => by have := l2 p q; omega
    rw [decide_eq_false c,decide_eq_false this]; rfl
  have hss : spec_SameState (vAt un (h.length + 1)).2.2.2.1 (stOf h p) = some true := by rw [hulast]; exact sameS (stOf h p) (by omega)
  rw [laws_FnVersions_p2_eq,if_pos (decide_eq_true (Int.natCast_nonneg _)),Int.toNat_natCast,vAt_get (show h.length + 1 < un.length by omega),Option.bind_some,hss,Option.bind_some,if_neg (by decide),List.take_length,r8Has_ok l p (by omega),Option.bind_some,hdec,if_neg (by decide),laws_FnVersions_p3_eq]
  exact hp4
 rw [laws_FnVersions_p1_eq]
 by_cases c : p > 0
 ·have hw3 : IntKind.i64.wrap (p - 1) = p - 1 := w64 (by omega) (by omega)
  have a0 : 0 ≤ p - 1 := by omega
  rw [if_pos (decide_eq_true c),hw3,if_pos (decide_eq_true a0),vAt_get (show (p - 1).toNat < h.length by omega),Option.bind_some]
  exact hp2 _ (by unfold stOf; rw [if_neg (by omega)]; rfl)
 ·rw [if_neg (by simp only [c,decide_false,Bool.false_eq_true,not_false_eq_true])]
  exact hp2 _ (by unfold stOf; rw [if_pos (by omega)])
end Go.Ab.P
