/- Merges: merging with what has not changed gives the changes, in both orders the same; common ancestors too. Conditions: bytes are bytes. -/
import Derived.Test.YtfpkhebdkjpcmaaBFnMerges
import Derived.Sort.Walk0
set_option linter.unusedVariables false
set_option linter.unusedSectionVars false
set_option linter.unusedSimpArgs false
set_option maxRecDepth 4000
namespace Go.Ab.P
open Go.Ab
def sN (x : T_Setting.ty) : List UInt8 := x.1
def sV (x : T_Setting.ty) : Int := x.2.1
theorem s_eta (x : T_Setting.ty) : x = (sN x,sV x,()) := rfl
def nms : List (List UInt8) := [[97],[98],[99],[100],[101],[102]]
theorem nms_is : ∀ n,n ∈ nms → isName n = true ∧ n.length = 1 := by decide +kernel
theorem nms_tri : ∀ a,a ∈ nms → ∀ b,b ∈ nms → (a < b ∨ a = b ∨ b < a) ∧ (a < b → nms.idxOf a < nms.idxOf b) ∧ nms.idxOf a < 6 := by decide +kernel
structure Sts (s : List T_Setting.ty) : Prop where
 up : s.Pairwise fun a b => sN a < sN b
 nm : ∀ x,x ∈ s → sN x ∈ nms
 v0 : ∀ x,x ∈ s → 0 ≤ sV x ∧ sV x ≤ 1000
theorem rising_len : ∀ {T : List Nat} {lo m : Nat},T.Pairwise (· < ·) → (∀ t,t ∈ T → lo ≤ t ∧ t < m) → T.length ≤ m - lo
 | [],_,_,_,_ => Nat.zero_le _
 | a :: T,lo,m,h1,h2 => by
   obtain ⟨h3,h4⟩ := List.pairwise_cons.1 h1
   have ha := h2 a List.mem_cons_self
   have := rising_len (T := T) (lo := a + 1) (m := m) h4 fun t ht => ⟨h3 t ht,(h2 t (List.mem_cons_of_mem _ ht)).2⟩
   rw [List.length_cons]; omega
theorem Sts.len {s : List T_Setting.ty} (h : Sts s) : s.length ≤ 6 := by
 have := rising_len (T := s.map fun x => nms.idxOf (sN x)) (lo := 0) (m := 6) (by
  rw [List.pairwise_map]
  refine List.Pairwise.imp_of_mem (fun {a b} ha hb hab => ?_) h.up
  exact (nms_tri _ (h.nm a ha) _ (h.nm b hb)).2.1 hab) fun t ht => by
   obtain ⟨x,hx,rfl⟩ := List.mem_map.1 ht
   exact ⟨Nat.zero_le _,(nms_tri _ (h.nm x hx) _ (h.nm x hx)).2.2⟩
 rw [List.length_map] at this; exact this
theorem Sts.sub {s t : List T_Setting.ty} (h : Sts s) (hs : t.Sublist s) : Sts t :=
 ⟨h.up.sublist hs,fun x hx => h.nm x (hs.subset hx),fun x hx => h.v0 x (hs.subset hx)⟩
def look : List T_Setting.ty → List UInt8 → Option Int
 | [],_ => none
 | x :: s,n => if sN x = n then some (sV x) else look s n
theorem look_none : ∀ {s : List T_Setting.ty} {n : List UInt8},(∀ x,x ∈ s → sN x ≠ n) → look s n = none
 | [],_,_ => rfl
 | x :: s,n,h => by rw [look,if_neg (h x List.mem_cons_self),look_none fun y hy => h y (List.mem_cons_of_mem _ hy)]
theorem look_mem : ∀ {s : List T_Setting.ty} {n : List UInt8} {v : Int},look s n = some v → (n,v,()) ∈ s
 | [],_,_,h => by cases h
 | x :: s,n,v,h => by
   rw [look] at h
   by_cases c : sN x = n
   ·rw [if_pos c] at h
    cases h
    rw [← c]; exact List.mem_cons_self
   ·rw [if_neg c] at h; exact List.mem_cons_of_mem _ (look_mem h)
theorem look_app : ∀ (a b : List T_Setting.ty) (n : List UInt8),look (a ++ b) n = (match look a n with | some v => some v | none => look b n)
 | [],b,n => rfl
 | x :: a,b,n => by
   rw [List.cons_append,look,look,look_app a b n]
   by_cases c : sN x = n
   ·rw [if_pos c,if_pos c]
   ·rw [if_neg c,if_neg c]
theorem lt_ne {a b : List UInt8} (h : a < b) : a ≠ b := fun e => by subst e; exact List.lt_irrefl _ h
theorem Sts.cut {a b : List T_Setting.ty} {x : T_Setting.ty} (h : Sts (a ++ x :: b)) : (∀ y,y ∈ a → sN y < sN x) ∧ (∀ y,y ∈ b → sN x < sN y) := by
 obtain ⟨h1,h2,h3⟩ := List.pairwise_append.1 h.up
 exact ⟨fun y hy => h3 y hy x List.mem_cons_self,fun y hy => (List.pairwise_cons.1 h2).1 y hy⟩
theorem look_at {a b : List T_Setting.ty} {x : T_Setting.ty} (h : Sts (a ++ x :: b)) : look (a ++ x :: b) (sN x) = some (sV x) := by
 rw [look_app,look_none fun y hy => lt_ne (h.cut.1 y hy),look,if_pos rfl]
theorem look_of {s : List T_Setting.ty} (h : Sts s) {x : T_Setting.ty} (hx : x ∈ s) : look s (sN x) = some (sV x) := by
 obtain ⟨a,b,rfl⟩ := List.append_of_mem hx
 exact look_at h
theorem sts_ext : ∀ {s t : List T_Setting.ty},Sts s → Sts t → (∀ n,look s n = look t n) → s = t
 | [],[],_,_,_ => rfl
 | [],y :: t,_,ht,h => by have := h (sN y); rw [look,look,if_pos rfl] at this; cases this
 | x :: s,[],hs,_,h => by have := h (sN x); rw [look,look,if_pos rfl] at this; cases this
 | x :: s,y :: t,hs,ht,h => by
   obtain ⟨u1,u2⟩ := List.pairwise_cons.1 hs.up
   obtain ⟨w1,w2⟩ := List.pairwise_cons.1 ht.up
   have hxy : sN x = sN y := by
    rcases (nms_tri _ (hs.nm x List.mem_cons_self) _ (ht.nm y List.mem_cons_self)).1 with c | c | c
    ·have := h (sN x)
     rw [look,if_pos rfl,look_none (s := y :: t) fun z hz => by
      rcases List.mem_cons.1 hz with rfl | hz
      ·exact (lt_ne c).symm
      ·exact (lt_ne (List.lt_trans c (w1 z hz))).symm] at this
     cases this
    ·exact c
    ·have := h (sN y)
     rw [look_none (s := x :: s) fun z hz => by
      rcases List.mem_cons.1 hz with rfl | hz
      ·exact (lt_ne c).symm
      ·exact (lt_ne (List.lt_trans c (u1 z hz))).symm,look,if_pos rfl] at this
     cases this
   have hv : sV x = sV y := by
    have := h (sN x)
    rw [look,if_pos rfl,look,if_pos hxy.symm] at this
    exact Option.some.inj this
   have hxe : x = y := by rw [s_eta x,s_eta y,hxy,hv]
   subst hxe
   have hs' := hs.sub (List.sublist_cons_self x s)
   have ht' := ht.sub (List.sublist_cons_self x t)
   rw [sts_ext hs' ht' fun n => by
    have := h n
    rw [look,look] at this
    by_cases c : sN x = n
    ·rw [look_none fun z hz => by rw [← c]; exact (lt_ne (u1 z hz)).symm,look_none fun z hz => by rw [← c]; exact (lt_ne (w1 z hz)).symm]
    ·rw [if_neg c,if_neg c] at this; exact this]
theorem Sts.swap {a b : List T_Setting.ty} {x : T_Setting.ty} (h : Sts (a ++ x :: b)) {v : Int} (hv : 0 ≤ v ∧ v ≤ 1000) : Sts (a ++ (sN x,v,()) :: b) := by
 obtain ⟨h1,h2,h3⟩ := List.pairwise_append.1 h.up
 obtain ⟨h4,h5⟩ := List.pairwise_cons.1 h2
 refine ⟨List.pairwise_append.2 ⟨h1,List.pairwise_cons.2 ⟨fun y hy => h4 y hy,h5⟩,fun y hy z hz => ?_⟩,fun y hy => ?_,fun y hy => ?_⟩
 ·rcases List.mem_cons.1 hz with rfl | hz
  ·exact h3 y hy x List.mem_cons_self
  ·exact h3 y hy z (List.mem_cons_of_mem _ hz)
 ·rcases List.mem_append.1 hy with hy | hy
  ·exact h.nm y (List.mem_append_left _ hy)
  ·rcases List.mem_cons.1 hy with rfl | hy
   ·exact h.nm x (List.mem_append_right _ List.mem_cons_self)
   ·exact h.nm y (List.mem_append_right _ (List.mem_cons_of_mem _ hy))
 ·rcases List.mem_append.1 hy with hy | hy
  ·exact h.v0 y (List.mem_append_left _ hy)
  ·rcases List.mem_cons.1 hy with rfl | hy
   ·exact hv
   ·exact h.v0 y (List.mem_append_right _ (List.mem_cons_of_mem _ hy))
theorem look_swap {a b : List T_Setting.ty} {x : T_Setting.ty} (h : Sts (a ++ x :: b)) (v : Int) (m : List UInt8) : look (a ++ (sN x,v,()) :: b) m = if m = sN x then some v else look (a ++ x :: b) m := by
 rw [look_app,look_app]
 by_cases c : m = sN x
 ·rw [if_pos c,c,look_none fun y hy => lt_ne (h.cut.1 y hy)]
  show look ((sN x,v,()) :: b) (sN x) = some v
  rw [look,if_pos (show sN (sN x,v,()) = sN x from rfl)]; rfl
 ·rw [if_neg c]
  have e1 : look ((sN x,v,()) :: b) m = look b m := by rw [look,if_neg (show ¬ sN (sN x,v,()) = m from fun e => c (Eq.symm e))]
  have e2 : look (x :: b) m = look b m := by rw [look,if_neg (fun e => c (Eq.symm e))]
  rw [e1,e2]
theorem Sts.put {a b : List T_Setting.ty} (h : Sts (a ++ b)) {n : List UInt8} {v : Int} (hn : n ∈ nms) (hv : 0 ≤ v ∧ v ≤ 1000) (h1 : ∀ y,y ∈ a → sN y < n) (h2 : ∀ y,y ∈ b → n < sN y) : Sts (a ++ (n,v,()) :: b) := by
 obtain ⟨k1,k2,k3⟩ := List.pairwise_append.1 h.up
 refine ⟨List.pairwise_append.2 ⟨k1,List.pairwise_cons.2 ⟨fun y hy => h2 y hy,k2⟩,fun y hy z hz => ?_⟩,fun y hy => ?_,fun y hy => ?_⟩
 ·rcases List.mem_cons.1 hz with rfl | hz
  ·exact h1 y hy
  ·exact k3 y hy z hz
 ·rcases List.mem_append.1 hy with hy | hy
  ·exact h.nm y (List.mem_append_left _ hy)
  ·rcases List.mem_cons.1 hy with rfl | hy
   ·exact hn
   ·exact h.nm y (List.mem_append_right _ hy)
 ·rcases List.mem_append.1 hy with hy | hy
  ·exact h.v0 y (List.mem_append_left _ hy)
  ·rcases List.mem_cons.1 hy with rfl | hy
   ·exact hv
   ·exact h.v0 y (List.mem_append_right _ hy)
theorem look_put {a b : List T_Setting.ty} {n : List UInt8} (h1 : ∀ y,y ∈ a → sN y < n) (v : Int) (m : List UInt8) : look (a ++ (n,v,()) :: b) m = if m = n then some v else look (a ++ b) m := by
 rw [look_app,look_app]
 by_cases c : m = n
 ·rw [if_pos c,c,look_none fun y hy => lt_ne (h1 y hy)]
  show look ((n,v,()) :: b) n = some v
  rw [look,if_pos (show sN (n,v,()) = n from rfl)]; rfl
 ·rw [if_neg c]
  have e1 : look ((n,v,()) :: b) m = look b m := by rw [look,if_neg (show ¬ sN (n,v,()) = m from fun e => c (Eq.symm e))]
  rw [e1]
theorem look_del {a b : List T_Setting.ty} {x : T_Setting.ty} (h : Sts (a ++ x :: b)) (m : List UInt8) : look (a ++ b) m = if m = sN x then none else look (a ++ x :: b) m := by
 rw [look_app,look_app]
 by_cases c : m = sN x
 ·rw [if_pos c,c,look_none fun y hy => lt_ne (h.cut.1 y hy)]
  exact look_none fun y hy => (lt_ne (h.cut.2 y hy)).symm
 ·rw [if_neg c]
  have e2 : look (x :: b) m = look b m := by rw [look,if_neg (fun e => c (Eq.symm e))]
  rw [e2]
def sAt (s : List T_Setting.ty) (i : Nat) : T_Setting.ty := (s[i]?).getD ([],0,())
theorem sAt_get {s : List T_Setting.ty} {i : Nat} (h : i < s.length) : s[i]? = some (sAt s i) := by simp [sAt,List.getElem?_eq_getElem h]
theorem sAt_el {s : List T_Setting.ty} {i : Nat} (h : i < s.length) : s[i] = sAt s i := by simp [sAt,List.getElem?_eq_getElem h]
theorem sAt_mem {s : List T_Setting.ty} {i : Nat} (h : i < s.length) : sAt s i ∈ s := List.mem_of_getElem? (sAt_get h)
theorem cut_at {s : List T_Setting.ty} {i : Nat} (h : i < s.length) : s = s.take i ++ sAt s i :: s.drop (i + 1) := by
 rw [← sAt_el h,← List.drop_eq_getElem_cons h,List.take_append_drop]
theorem find_ok {s : List T_Setting.ty} (h : Sts s) (n : List UInt8) : ∃ p : Nat,p ≤ s.length ∧ (∀ j,j < p → sN (sAt s j) < n) ∧ (p < s.length → ¬ sN (sAt s p) < n) ∧ impl_find s n = some ((p : Int),decide (p < s.length ∧ sN (sAt s p) = n)) := by
 have hl := h.len
 have loop : ∀ (k i : Nat),i + k = s.length → (∀ j,j < i → sN (sAt s j) < n) → ∃ p : Nat,p ≤ s.length ∧ (∀ j,j < p → sN (sAt s j) < n) ∧ (p < s.length → ¬ sN (sAt s p) < n) ∧ impl_find_p0 s n i = some ((p : Int),decide (p < s.length ∧ sN (sAt s p) = n)) := by
  have p1 : ∀ i : Nat,i ≤ s.length → impl_find_p1 s n i = some ((i : Int),decide (i < s.length ∧ sN (sAt s i) = n)) := fun i hi => by
   rw [impl_find_p1_eq]
   by_cases c : i < s.length
   ·have hlt : (i : Int) < (s.length : Int) := by omega
    simp only [hlt,decide_true,if_true,Int.natCast_nonneg,Int.toNat_natCast,sAt_get c,Option.bind_some]
    congr 2
    show ((sN (sAt s i) == n) : Bool) = decide (i < s.length ∧ sN (sAt s i) = n)
    by_cases e : sN (sAt s i) = n <;> simp [e,c]
   ·have hlt : ¬ (i : Int) < (s.length : Int) := by omega
    simp only [hlt,decide_false,Bool.false_eq_true,if_false]
    simp [c]
  intro k
  induction k with
  | zero =>
    intro i hn hj
    refine ⟨i,by omega,hj,fun hh => by omega,?_⟩
    rw [impl_find_p0_eq,if_neg (by simp; omega)]
    exact p1 i (by omega)
  | succ k ih =>
    intro i hn hj
    have hi : i < s.length := by omega
    have hlt : (i : Int) < (s.length : Int) := by omega
    rw [impl_find_p0_eq]
    simp only [hlt,decide_true,if_true,Int.natCast_nonneg,Int.toNat_natCast,sAt_get hi,Option.bind_some,Proofs.bytesLess_eq,decide_eq_true_eq,wsucc (show i < 4611686018427387904 by omega)]
    by_cases c : sN (sAt s i) < n
    ·rw [if_pos (show (sAt s i).1 < n from c)]
     exact ih (i + 1) (by omega) fun j hj2 => by
      by_cases e : j = i
      ·subst e; exact c
      ·exact hj j (by omega)
    ·rw [if_neg (show ¬ (sAt s i).1 < n from c)]
     exact ⟨i,by omega,hj,fun _ => c,p1 i (by omega)⟩
 obtain ⟨p,a,b,c,d⟩ := loop s.length 0 (by omega) fun j hj => by omega
 exact ⟨p,a,b,c,by rw [impl_find_eq]; exact d⟩
theorem take_lt {s : List T_Setting.ty} {n : List UInt8} {p : Nat} (hp : p ≤ s.length) (h : ∀ j,j < p → sN (sAt s j) < n) : ∀ y,y ∈ s.take p → sN y < n := fun y hy => by
 obtain ⟨t,ht,rfl⟩ := List.mem_iff_getElem.1 hy
 rw [List.length_take] at ht
 rw [List.getElem_take,sAt_el (by omega)]
 exact h t (by omega)
theorem value_ok {s : List T_Setting.ty} (h : Sts s) {n : List UInt8} (hn : n ∈ nms) : impl_value s n = some ((look s n).getD (-1)) := by
 obtain ⟨p,h1,h2,h3,h4⟩ := find_ok h n
 rw [impl_value_eq,h4,Option.bind_some]
 have hlt := take_lt h1 h2
 by_cases c : p < s.length ∧ sN (sAt s p) = n
 ·simp only [c,and_self,decide_true,if_true,Int.natCast_nonneg,Int.toNat_natCast,sAt_get c.1,Option.bind_some]
  have := look_of h (sAt_mem c.1)
  rw [c.2] at this
  rw [this]; rfl
 ·simp only [c,decide_false,Bool.false_eq_true,if_false]
  have : look s n = none := by
   by_cases hp : p < s.length
   ·refine look_none fun y hy => ?_
    rw [cut_at hp] at hy
    rcases List.mem_append.1 hy with hy | hy
    ·exact lt_ne (hlt y hy)
    ·have hgt : n < sN (sAt s p) := by
      rcases (nms_tri _ hn _ (h.nm _ (sAt_mem hp))).1 with q | q | q
      ·exact q
      ·exact absurd ⟨hp,q.symm⟩ c
      ·exact absurd q (h3 hp)
     rcases List.mem_cons.1 hy with rfl | hy
     ·exact (lt_ne hgt).symm
     ·have hh : Sts (s.take p ++ sAt s p :: s.drop (p + 1)) := by rw [← cut_at hp]; exact h
      exact (lt_ne (List.lt_trans hgt (hh.cut.2 y hy))).symm
   ·refine look_none fun y hy => lt_ne (hlt y ?_)
    rw [List.take_of_length_le (by omega)]; exact hy
  rw [this]; rfl
theorem setting_ok {x : T_Setting.ty} (hn : sN x ∈ nms) (hv : 0 ≤ sV x ∧ sV x ≤ 1000) : impl_Setting_valid x = some true ∧ spec_l27Setting x = some true := by
 obtain ⟨n1,n2⟩ := nms_is _ hn
 have e1 : impl_IsName x.1 = some true := by rw [← n1]; exact impl_IsName_ok _ (by rw [show x.1 = sN x from rfl,n2]; decide)
 have e2 : spec_l01Name x.1 = some true := by rw [← n1]; exact spec_l01Name_ok _ (by rw [show x.1 = sN x from rfl,n2]; decide)
 have hin : inR x.2.1 0 1000 = true := by
  show inR (sV x) 0 1000 = true
  unfold inR; simp only [Bool.and_eq_true,decide_eq_true_eq]; exact hv
 rw [impl_Setting_valid_eq,e1,spec_l27Setting_eq,e2]
 simp only [Option.bind_some,if_true,impl_within_ok,spec_l00In_ok,hin,and_self]
theorem state_loop {s : List T_Setting.ty} (h : Sts s) : ∀ (k i : Nat),i + k = s.length → impl_ValidState_p0 s s s.length i = some true ∧ spec_l27State_p0 s i = some true
 | 0,i,hk => by
   have hl := h.len
   have : i = s.length := by omega
   subst this
   have h24 : (s.length : Int) ≤ 24 := by omega
   rw [impl_ValidState_p0_eq,if_neg (by simp),spec_l27State_p0_eq,if_neg (by simp),impl_few_eq]
   simp [h24]
 | k + 1,i,hk => by
   have hl := h.len
   have hi : i < s.length := by omega
   have hlt : (i : Int) < (s.length : Int) := by omega
   obtain ⟨I1,I2⟩ := state_loop h k (i + 1) (by omega)
   obtain ⟨v1,v2⟩ := setting_ok (h.nm _ (sAt_mem hi)) (h.v0 _ (sAt_mem hi))
   rw [impl_ValidState_p0_eq s s s.length i,spec_l27State_p0_eq s i]
   simp only [hlt,decide_true,if_true,Int.natCast_nonneg,Int.toNat_natCast,sAt_get hi,Option.bind_some,v1,v2,Bool.not_true,Bool.false_eq_true,if_false,wsucc (show i < 4611686018427387904 by omega)]
   by_cases h0 : (i : Int) > 0
   ·have hw : IntKind.i64.wrap ((i : Int) - 1) = ((i - 1 : Nat) : Int) := by rw [w64 (by omega) (by omega)]; omega
    have hup := List.pairwise_iff_getElem.1 h.up (i - 1) i (by omega) hi (by omega)
    rw [sAt_el (by omega),sAt_el hi] at hup
    have hb : Op.bytesLess (sAt s (i - 1)).1 (sAt s i).1 = true := by rw [Proofs.bytesLess_eq]; exact decide_eq_true hup
    simp only [h0,decide_true,if_true,hw,Int.natCast_nonneg,Int.toNat_natCast,sAt_get (show i - 1 < s.length by omega),Option.bind_some,hb,Bool.not_true,Bool.false_eq_true,if_false]
    exact ⟨I1,I2⟩
   ·simp only [h0,decide_false,Bool.false_eq_true,if_false]
    exact ⟨I1,I2⟩
theorem state_ok {s : List T_Setting.ty} (h : Sts s) : impl_ValidState s = some true ∧ spec_l27State s = some true := by
 rw [impl_ValidState_eq,spec_l27State_eq]
 exact state_loop h s.length 0 (by omega)
theorem take_snoc {s : List T_Setting.ty} {i : Nat} (h : i < s.length) : s.take (i + 1) = s.take i ++ [sAt s i] := by rw [List.take_succ_eq_append_getElem h,sAt_el h]
theorem cloneS {s : List T_Setting.ty} (h : s.length ≤ 1000) : impl_clone_impl_Setting_ s = some s := by
 have h1 : (0 : Int) ≤ (s.length : Int) := by omega
 have h2 : ((s.length : Int)).toNat < lim := by unfold lim; omega
 have h3 : 0 + s.length < lim := by unfold lim; omega
 rw [impl_clone_impl_Setting__eq]
 simp only [h1,h2,h3,decide_true,Bool.and_self,if_true,List.nil_append,List.take_length]
theorem sameS_loop (s : List T_Setting.ty) (hl : s.length ≤ 1000) : ∀ (k i : Nat),i + k = s.length → spec_l27Same_p0 s s i = some true
 | 0,i,hk => by
   rw [spec_l27Same_p0_eq,if_neg (by simp; omega)]
 | k + 1,i,hk => by
   have hi : i < s.length := by omega
   have hlt : (i : Int) < (s.length : Int) := by omega
   have hne : (!(((sAt s i).1 == (sAt s i).1) && ((sAt s i).2.1 == (sAt s i).2.1))) = false := by simp
   rw [spec_l27Same_p0_eq]
   simp only [hlt,decide_true,if_true,Int.natCast_nonneg,Int.toNat_natCast,sAt_get hi,Option.bind_some,hne,Bool.false_eq_true,if_false,wsucc (show i < 4611686018427387904 by omega)]
   exact sameS_loop s hl k (i + 1) (by omega)
theorem sameS (s : List T_Setting.ty) (hl : s.length ≤ 1000) : spec_SameState s s = some true := by
 rw [spec_SameState_eq,spec_l27Same_eq,if_neg (by simp)]
 have := sameS_loop s hl s.length 0 (by omega)
 have this' : spec_l27Same_p0 s s 0 = some true := this
 rw [this']; rfl
def nm5 : List (List UInt8) := [[97],[98],[99],[100],[101]]
def nmAt (i : Nat) : List UInt8 := (nm5[i]?).getD []
theorem nm5_ok : ∀ i,i < 5 → nm5[i]? = some (nmAt i) ∧ nmAt i ∈ nms ∧ ∀ j,j < i → nmAt j < nmAt i := by decide +kernel
theorem nms_get : ∀ i,i < 6 → ∃ n,nms[i]? = some n ∧ n ∈ nms := fun i h => ⟨nms[i]'h,List.getElem?_eq_getElem h,List.getElem_mem h⟩
theorem Sts.nil : Sts [] := ⟨List.Pairwise.nil,fun x h => (by cases h),fun x h => (by cases h)⟩
theorem dS_loop : ∀ (k i : Nat) (s : T_l00Src.ty) (c : Int) (r : List T_Setting.ty),i + k = 5 → SrcOk s c → c ≤ 900000000000000000 + 4 * (i : Int) → Sts r → (∀ x,x ∈ r → ∃ j,j < i ∧ sN x = nmAt j) →
 ∃ (r' : List T_Setting.ty) (s' : T_l00Src.ty),spec_l27DrawState_p0 i s.1 s.2.1 s.2.2.1 nm5 r = some (r',s') ∧ SrcOk s' (c + 4 * (k : Int)) ∧ Sts r'
 | 0,i,s,c,r,hi,hs,hc,hr,hx => by
   refine ⟨r,s,?_,hs.up (by omega),hr⟩
   have h5 : ¬ (i : Int) < 5 := by omega
   rw [spec_l27DrawState_p0_eq,if_neg (by simp only [h5,decide_false,Bool.false_eq_true,not_false_eq_true]),List.take_length]
 | k + 1,i,s,c,r,hi,hs,hc,hr,hx => by
   have h5 : (i : Int) < 5 := by omega
   obtain ⟨n1,n2,n3⟩ := nm5_ok i (by omega)
   obtain ⟨b,s1,e1,q1⟩ := one_ok hs (by omega) 2 (by omega)
   have hw := wsucc (show i < 4611686018427387904 by omega)
   have e1' : spec_l00Src_one (s.1,s.2.1,s.2.2.1,()) 2 = some (b,s1) := e1
   rw [spec_l27DrawState_p0_eq,if_pos (decide_eq_true h5),e1',Option.bind_some]
   cases b
   ·simp only [Bool.false_eq_true,if_false]
    rw [hw]
    obtain ⟨r',s',e,q,h⟩ := dS_loop k (i + 1) s1 (c + 2) r (by omega) q1 (by omega) hr fun x hx' => by
     obtain ⟨j,h1,h2⟩ := hx x hx'
     exact ⟨j,by omega,h2⟩
    exact ⟨r',s',e,q.up (by omega),h⟩
   ·obtain ⟨u,s2,e2,q2,u0,u1⟩ := pick_ok q1 (by omega) 1001 (by omega)
    have e2' : spec_l00Src_pick (s1.1,s1.2.1,s1.2.2.1,()) 1001 = some (u,s2) := e2
    have hlt : (i : Int) < (nm5.length : Int) := h5
    have hrl := hr.len
    have hlim : r.length + 1 < lim := by unfold lim; omega
    simp only [if_true,Int.natCast_nonneg,hlt,decide_true,Bool.and_self,Int.toNat_natCast,n1,Option.bind_some,e2',hlim,hw,List.take_length]
    have hput : Sts (r ++ [(nmAt i,u,())]) := by
     have h0 : Sts (r ++ []) := by rw [List.append_nil]; exact hr
     exact h0.put n2 ⟨u0,by omega⟩ (fun y hy => by
      obtain ⟨j,h1,h2⟩ := hx y hy
      rw [h2]; exact n3 j h1) fun y hy => by cases hy
    obtain ⟨r',s',e,q,h⟩ := dS_loop k (i + 1) s2 (c + 2 + 2) (r ++ [(nmAt i,u,())]) (by omega) q2 (by omega) hput fun x hx' => by
     rcases List.mem_append.1 hx' with hx' | hx'
     ·obtain ⟨j,h1,h2⟩ := hx x hx'
      exact ⟨j,by omega,h2⟩
     ·rw [List.mem_singleton.1 hx']
      exact ⟨i,by omega,rfl⟩
    exact ⟨r',s',e,q.up (by omega),h⟩
theorem dS_ok {s : T_l00Src.ty} {c : Int} (hs : SrcOk s c) (hc : c ≤ 900000000000000000) : ∃ (r : List T_Setting.ty) (s' : T_l00Src.ty),spec_l27DrawState s = some (r,s') ∧ SrcOk s' (c + 20) ∧ Sts r := by
 obtain ⟨r,s',e,q,h⟩ := dS_loop 5 0 s c [] rfl hs (by omega) Sts.nil fun x h => by cases h
 rw [spec_l27DrawState_eq]
 exact ⟨r,s',e,q.up (by omega),h⟩
theorem at_loop {s : List T_Setting.ty} (hl : s.length ≤ 1000) (n : List UInt8) : ∀ (k i : Nat),i + k = s.length → (∀ j,j < i → sN (sAt s j) ≠ n) →
 (spec_l27At_p0 s n i = some (-1) ∧ ∀ j,j < s.length → sN (sAt s j) ≠ n) ∨ ∃ p : Nat,p < s.length ∧ spec_l27At_p0 s n i = some (p : Int) ∧ sN (sAt s p) = n
 | 0,i,hi,hj => by
   have hlt : ¬ (i : Int) < (s.length : Int) := by omega
   refine .inl ⟨?_,fun j h => hj j (by omega)⟩
   rw [spec_l27At_p0_eq,if_neg (by simp only [hlt,decide_false,Bool.false_eq_true,not_false_eq_true])]
 | k + 1,i,hi,hj => by
   have hlt : (i : Int) < (s.length : Int) := by omega
   have hi' : i < s.length := by omega
   rw [spec_l27At_p0_eq]
   simp only [hlt,decide_true,if_true,Int.natCast_nonneg,Int.toNat_natCast,sAt_get hi',Option.bind_some,wsucc (show i < 4611686018427387904 by omega)]
   by_cases c : sN (sAt s i) = n
   ·rw [if_pos (show ((sAt s i).1 == n) = true by rw [beq_iff_eq]; exact c)]
    exact .inr ⟨i,hi',rfl,c⟩
   ·rw [if_neg (show ¬ ((sAt s i).1 == n) = true by rw [beq_iff_eq]; exact c)]
    exact at_loop hl n k (i + 1) (by omega) fun j h => by
     by_cases e : j = i
     ·subst e; exact c
     ·exact hj j (by omega)
theorem sat_ok {s : List T_Setting.ty} (hl : s.length ≤ 1000) (n : List UInt8) : spec_l27At s n = some (-1) ∨ ∃ p : Nat,p < s.length ∧ spec_l27At s n = some (p : Int) ∧ sN (sAt s p) = n := by
 rw [spec_l27At_eq]
 exact (at_loop hl n s.length 0 (by omega) fun j h => by omega).imp (·.1) id
theorem set_tail {s : List T_Setting.ty} (hl : s.length ≤ 1000) (n : List UInt8) (v : Int) : ∀ (k i : Nat) (r : List T_Setting.ty),i + k = s.length → r.length + k ≤ 2000 → (∀ y,y ∈ s.drop i → sN y ≠ n) → spec_l27Set_p0 s true i n v r = some (r ++ s.drop i)
 | 0,i,r,hi,hr,hy => by
   have hlt : ¬ (i : Int) < (s.length : Int) := by omega
   rw [spec_l27Set_p0_eq,if_neg (by simp only [hlt,decide_false,Bool.false_eq_true,not_false_eq_true]),if_neg (by decide),List.take_length,List.drop_of_length_le (by omega),List.append_nil]
 | k + 1,i,r,hi,hr,hy => by
   have hlt : (i : Int) < (s.length : Int) := by omega
   have hi' : i < s.length := by omega
   have hd : s.drop i = sAt s i :: s.drop (i + 1) := by rw [← sAt_el hi',List.drop_eq_getElem_cons hi']
   have hne : sN (sAt s i) ≠ n := hy _ (by rw [hd]; exact List.mem_cons_self)
   have hb : ((sAt s i).1 == n) = false := beq_eq_false_iff_ne.2 hne
   have hlim : r.length + 1 < lim := by unfold lim; omega
   rw [spec_l27Set_p0_eq,if_pos (decide_eq_true hlt),if_neg (by decide),spec_l27Set_p1_eq]
   simp only [decide_true,if_true,Int.natCast_nonneg,Int.toNat_natCast,sAt_get hi',Option.bind_some,hb,Bool.not_false,hlim,List.take_length,wsucc (show i < 4611686018427387904 by omega)]
   rw [set_tail hl n v k (i + 1) (r ++ [sAt s i]) (by omega) (by rw [List.length_append,List.length_singleton]; omega) fun y h => hy y (by rw [hd]; exact List.mem_cons_of_mem _ h),hd,List.append_assoc]
   rfl
theorem set_head {s : List T_Setting.ty} (h : Sts s) {n : List UInt8} (hn : n ∈ nms) {v : Int} (hv : 0 ≤ v ∧ v ≤ 1000) : ∀ (k i : Nat),i + k = s.length → (∀ y,y ∈ s.take i → sN y < n) →
 ∃ r,spec_l27Set_p0 s false i n v (s.take i) = some r ∧ Sts r ∧ ∀ m,look r m = if m = n then some v else look s m
 | 0,i,hi,hy => by
   have hl := h.len
   have hlt : ¬ (i : Int) < (s.length : Int) := by omega
   have ht : s.take i = s := List.take_of_length_le (by omega)
   have hlim : s.length + 1 < lim := by unfold lim; omega
   rw [ht] at hy ⊢
   have h0 : Sts (s ++ []) := by rw [List.append_nil]; exact h
   refine ⟨s ++ [(n,v,())],?_,h0.put hn hv hy (fun y h => by cases h),fun m => ?_⟩
   ·rw [spec_l27Set_p0_eq,if_neg (by simp only [hlt,decide_false,Bool.false_eq_true,not_false_eq_true]),if_pos (by decide),if_pos (decide_eq_true hlim),List.take_length,List.take_length]
   ·rw [look_put hy,List.append_nil]
 | k + 1,i,hi,hy => by
   have hl := h.len
   have hlt : (i : Int) < (s.length : Int) := by omega
   have hi' : i < s.length := by omega
   have htl : (s.take i).length = i := by rw [List.length_take]; omega
   have hlim : (s.take i).length + 1 < lim := by rw [htl]; unfold lim; omega
   have hw := wsucc (show i < 4611686018427387904 by omega)
   have hcut : Sts (s.take i ++ sAt s i :: s.drop (i + 1)) := by rw [← cut_at hi']; exact h
   rw [spec_l27Set_p0_eq,if_pos (decide_eq_true hlt),if_pos (by decide),if_pos (decide_eq_true (Int.natCast_nonneg i)),Int.toNat_natCast,sAt_get hi',Option.bind_some,Proofs.bytesLess_eq]
   by_cases c : sN (sAt s i) < n
   ·rw [if_neg (show ¬ (!decide ((sAt s i).1 < n)) = true by rw [show decide ((sAt s i).1 < n) = true from decide_eq_true c]; decide),spec_l27Set_p1_eq]
    have hb : ((sAt s i).1 == n) = false := beq_eq_false_iff_ne.2 (lt_ne c)
    simp only [decide_true,if_true,Int.natCast_nonneg,Int.toNat_natCast,sAt_get hi',Option.bind_some,hb,Bool.not_false,hlim,List.take_length,hw]
    rw [← take_snoc hi']
    exact set_head h hn hv k (i + 1) (by omega) fun y hy' => by
     rw [take_snoc hi'] at hy'
     rcases List.mem_append.1 hy' with hy' | hy'
     ·exact hy y hy'
     ·rw [List.mem_singleton.1 hy']; exact c
   ·have hlim2 : (s.take i ++ [(n,v,())]).length + 1 < lim := by rw [List.length_append,htl]; unfold lim; simp only [List.length_singleton]; omega
    rw [if_pos (show (!decide ((sAt s i).1 < n)) = true by rw [show decide ((sAt s i).1 < n) = false from decide_eq_false c]; rfl),if_pos (decide_eq_true hlim),spec_l27Set_p1_eq]
    simp only [decide_true,if_true,Int.natCast_nonneg,Int.toNat_natCast,sAt_get hi',Option.bind_some,hw,List.take_length]
    have hl3 : (s.take i).length + 1 + 1 < 1000 := by omega
    rcases (nms_tri _ (h.nm _ (sAt_mem hi')) _ hn).1 with q | q | q
    ·exact absurd q c
    ·have hb : ((sAt s i).1 == n) = true := beq_iff_eq.2 q
     refine ⟨s.take i ++ (n,v,()) :: s.drop (i + 1),?_,?_,fun m => ?_⟩
     ·rw [if_neg (by rw [hb]; decide),set_tail (by omega) n v k (i + 1) _ (by omega) (by rw [List.length_append,htl,List.length_singleton]; omega) fun y hy' => by
       rw [← q]; exact (lt_ne (hcut.cut.2 y hy')).symm,List.append_assoc]
      rfl
     ·have := hcut.swap hv
      rw [q] at this; exact this
     ·have := look_swap hcut v m
      rw [q,← cut_at hi'] at this; exact this
    ·have hb : ((sAt s i).1 == n) = false := beq_eq_false_iff_ne.2 (lt_ne q).symm
     have hd : s.drop i = sAt s i :: s.drop (i + 1) := by rw [← sAt_el hi',List.drop_eq_getElem_cons hi']
     refine ⟨s.take i ++ (n,v,()) :: s.drop i,?_,?_,fun m => ?_⟩
     ·rw [if_pos (by rw [hb]; rfl),if_pos (decide_eq_true hlim2),set_tail (by omega) n v k (i + 1) _ (by omega) (by rw [List.length_append,List.length_append,htl]; simp only [List.length_singleton]; omega) fun y hy' => (lt_ne (List.lt_trans q (hcut.cut.2 y hy'))).symm,List.append_assoc,List.append_assoc,hd]
      rfl
     ·have h0 : Sts (s.take i ++ s.drop i) := by rw [List.take_append_drop]; exact h
      refine h0.put hn hv hy fun y hy' => ?_
      rw [hd] at hy'
      rcases List.mem_cons.1 hy' with rfl | hy'
      ·exact q
      ·exact List.lt_trans q (hcut.cut.2 y hy')
     ·rw [look_put hy,List.take_append_drop]
theorem set_ok {s : List T_Setting.ty} (h : Sts s) {n : List UInt8} (hn : n ∈ nms) {v : Int} (hv : 0 ≤ v ∧ v ≤ 1000) : ∃ r,spec_l27Set s (n,v,()) = some r ∧ Sts r ∧ ∀ m,look r m = if m = n then some v else look s m := by
 rw [spec_l27Set_eq]
 exact set_head h hn hv s.length 0 (by omega) fun y h => by cases h
theorem ch_loop : ∀ (k : Nat) (v : Int) (s : T_l00Src.ty) (c : Int) (r : List T_Setting.ty),v ≤ k → SrcOk s c → c + 6 * (k : Int) ≤ 990000000000000000 → Sts r →
 ∃ (r' : List T_Setting.ty) (s' : T_l00Src.ty),spec_l27Changed_p0 v s.1 s.2.1 s.2.2.1 r nms = some (r',s') ∧ SrcOk s' (c + 6 * (k : Int)) ∧ Sts r'
 | k,v,s,c,r,hk,hs,hc,hr => by
   by_cases v0 : v > 0
   ·obtain ⟨k,rfl⟩ : ∃ k',k = k' + 1 := ⟨k - 1,by omega⟩
    have hrl := hr.len
    have hc0 : 0 ≤ c := Int.le_trans hs.2.2.1 hs.2.2.2
    obtain ⟨u,s1,e1,q1,u0,u1⟩ := pick_ok hs (by omega) 6 (by omega)
    have e1' : spec_l00Src_pick (s.1,s.2.1,s.2.2.1,()) 6 = some (u,s1) := e1
    obtain ⟨n,n1,n2⟩ := nms_get u.toNat (by omega)
    have hul : u < (nms.length : Int) := by show u < 6; omega
    have hwv : IntKind.i64.wrap (v - 1) = v - 1 := w64 (by omega) (by omega)
    have hp2 : ∀ (s2 : T_l00Src.ty),SrcOk s2 (c + 4) → ∃ (r' : List T_Setting.ty) (s' : T_l00Src.ty),spec_l27Changed_p2 v n s2.1 s2.2.1 s2.2.2.1 r nms = some (r',s') ∧ SrcOk s' (c + 6 * ((k + 1 : Nat) : Int)) ∧ Sts r' := fun s2 q2 => by
     obtain ⟨w,s3,e3,q3,w0,w1⟩ := pick_ok q2 (by omega) 1001 (by omega)
     have e3' : spec_l00Src_pick (s2.1,s2.2.1,s2.2.2.1,()) 1001 = some (w,s3) := e3
     obtain ⟨r2,e4,h4,_⟩ := set_ok hr n2 (v := w) ⟨w0,by omega⟩
     obtain ⟨r',s',e,q,h⟩ := ch_loop k (v - 1) s3 (c + 4 + 2) r2 (by omega) q3 (by omega) h4
     refine ⟨r',s',?_,q.up (by omega),h⟩
     rw [spec_l27Changed_p2_eq,e3',Option.bind_some,List.take_length,e4,Option.bind_some,hwv]
     exact e
    rw [spec_l27Changed_p0_eq,if_pos (decide_eq_true v0),e1',Option.bind_some]
    simp only [u0,hul,decide_true,Bool.and_self,if_true,n1,Option.bind_some,List.take_length]
    rcases sat_ok (s := r) (by omega) n with h | ⟨p,p1,p2,p3⟩
    ·rw [h,Option.bind_some,if_neg (by decide)]
     exact hp2 s1 (q1.up (by omega))
    ·have hp0 : (p : Int) ≥ 0 := Int.natCast_nonneg p
     obtain ⟨b,s2,e2,q2⟩ := one_ok q1 (by omega) 2 (by omega)
     have e2' : spec_l00Src_one (s1.1,s1.2.1,s1.2.2.1,()) 2 = some (b,s2) := e2
     rw [p2,Option.bind_some,if_pos (decide_eq_true hp0),e2',Option.bind_some]
     cases b
     ·simp only [Bool.false_eq_true,if_false]
      exact hp2 s2 (q2.up (by omega))
     ·rw [if_pos (by rfl),spec_l27Changed_p1_eq]
      have hw := wsucc (show p < 4611686018427387904 by omega)
      have hple : (p : Int) ≤ (r.length : Int) := by omega
      have hpl1 : ((p + 1 : Nat) : Int) ≤ (r.length : Int) := by omega
      have l1 : 0 + (r.take p).length < lim := by rw [List.length_take]; unfold lim; omega
      have l2 : ([] ++ r.take p).length + ((r.drop (p + 1)).take (r.length - (p + 1))).length < lim := by
       rw [List.nil_append,List.length_take,List.length_take,List.length_drop]; unfold lim; omega
      have hdt : (r.drop (p + 1)).take (r.length - (p + 1)) = r.drop (p + 1) := List.take_of_length_le (by rw [List.length_drop]; omega)
      simp only [Int.natCast_nonneg,hple,hpl1,decide_true,Bool.and_self,if_true,Int.toNat_natCast,l1,hw,vdrop_eq,l2,hwv]
      rw [List.take_length,List.nil_append,hdt]
      obtain ⟨r',s',e,q,h⟩ := ch_loop k (v - 1) s2 (c + 2 + 2) (r.take p ++ r.drop (p + 1)) (by omega) q2 (by omega) (hr.sub (by
       conv => rhs; rw [cut_at p1]
       exact List.Sublist.append (List.Sublist.refl _) (List.sublist_cons_self _ _)))
      exact ⟨r',s',e,q.up (by omega),h⟩
   ·refine ⟨r,s,?_,hs.up (by omega),hr⟩
    rw [spec_l27Changed_p0_eq,if_neg (by simp only [v0,decide_false,Bool.false_eq_true,not_false_eq_true]),List.take_length]
 termination_by k => k
 decreasing_by all_goals omega
theorem ch_ok {s : T_l00Src.ty} {c : Int} (hs : SrcOk s c) (hc : c ≤ 900000000000000000) {r : List T_Setting.ty} (hr : Sts r) : ∃ (r' : List T_Setting.ty) (s' : T_l00Src.ty),spec_l27Changed s r = some (r',s') ∧ SrcOk s' (c + 20) ∧ Sts r' := by
 have hrl := hr.len
 have hlim : 0 + r.length < lim := by unfold lim; omega
 obtain ⟨u,s1,e1,q1,u0,u1⟩ := pick_ok hs (by omega) 4 (by omega)
 obtain ⟨r',s',e,q,h⟩ := ch_loop 3 u s1 (c + 2) r (by omega) q1 (by omega) hr
 refine ⟨r',s',?_,q.up (by omega),h⟩
 rw [spec_l27Changed_eq,if_pos (decide_eq_true hlim),e1,Option.bind_some,List.nil_append]
 exact e
theorem r8State_ok {a : List Int} (h1 : ∀ x,x ∈ a → 0 ≤ x ∧ x ≤ 255) (h2 : a.length ≤ 1048576) : ∃ r,spec_R8State a = some r ∧ Sts r := by
 obtain ⟨s,e,q⟩ := from_ok a h1 h2
 obtain ⟨r,s',e2,_,h⟩ := dS_ok q (by omega)
 refine ⟨r,?_,h⟩
 rw [spec_R8State_eq,e,Option.bind_some,e2,Option.bind_some,List.take_length]
theorem r8Changed_ok {a : List Int} (h1 : ∀ x,x ∈ a → 0 ≤ x ∧ x ≤ 255) (h2 : a.length ≤ 1048576) {b : List T_Setting.ty} (hb : Sts b) : ∃ r,spec_R8Changed a b = some r ∧ Sts r := by
 obtain ⟨s,e,q⟩ := from_ok a h1 h2
 obtain ⟨r,s',e2,_,h⟩ := ch_ok q (by omega) hb
 refine ⟨r,?_,h⟩
 rw [spec_R8Changed_eq,e,Option.bind_some,e2,Option.bind_some,List.take_length]
theorem has64_ok (l : List Int) (v : Int) (hs : l.length ≤ 1048576) : slices_Contains___int64_int64_ l v = some (decide (v ∈ l)) := by
 have loop : ∀ (k i : Nat),i + k = l.length → ∃ x : Int,slices_Index___int64_int64__p0 l v l.length i = some x ∧ decide (x ≥ 0) = decide (v ∈ l.drop i) := by
  intro k
  induction k with
  | zero =>
    intro i hk
    rw [slices_Index___int64_int64__p0_eq,List.drop_eq_nil_of_le (by omega)]
    have : ¬ (i : Int) < (l.length : Int) := by omega
    simp only [this,decide_false,Bool.false_eq_true,if_false,List.not_mem_nil]
    exact ⟨-1,rfl,rfl⟩
  | succ k ih =>
    intro i hk
    have hi : i < l.length := by omega
    have hlt : (i : Int) < (l.length : Int) := by omega
    rw [slices_Index___int64_int64__p0_eq,List.drop_eq_getElem_cons hi]
    simp only [hlt,Int.natCast_nonneg,decide_true,if_true,Int.toNat_natCast,List.getElem?_eq_getElem hi,Option.bind_some,wsucc (show i < 4611686018427387904 by omega)]
    by_cases e : v = l[i]
    ·have e3 : (v == l[i]) = true := beq_iff_eq.2 e
     refine ⟨i,by rw [if_pos e3],?_⟩
     have h0 : (i : Int) ≥ 0 := Int.natCast_nonneg i
     have hm : v ∈ l[i] :: l.drop (i + 1) := by rw [← e]; exact List.mem_cons_self
     rw [decide_eq_true h0,decide_eq_true hm]
    ·have e3 : (v == l[i]) = false := beq_eq_false_iff_ne.2 e
     obtain ⟨x,h1,h2⟩ := ih (i + 1) (by omega)
     refine ⟨x,by rw [if_neg (by rw [e3]; decide)]; exact h1,?_⟩
     simp only [h2,List.mem_cons,e,false_or]
 obtain ⟨x,h1,h2⟩ := loop l.length 0 (by omega)
 rw [slices_Contains___int64_int64__eq,slices_Index___int64_int64__eq]
 have h1' : slices_Index___int64_int64__p0 l v l.length 0 = some x := h1
 rw [h1',Option.bind_some,h2,List.drop_zero]
structure Memo (m : List UInt8) : Prop where
 c : ∀ x,x ∈ m → 32 ≤ x.toNat ∧ x.toNat ≤ 126
 l : m.length ≤ 20
theorem memo_loop {m : List UInt8} (h : Memo m) : ∀ (k i : Nat),i + k = m.length → impl_isMemo_p0 m i = some true ∧ spec_l27Memo_p0 m i = some true
 | 0,i,hk => by
   have hl := h.l
   have hlt : ¬ (i : Int) < (m.length : Int) := by omega
   have h20 : (m.length : Int) ≤ 20 := by omega
   rw [impl_isMemo_p0_eq,spec_l27Memo_p0_eq,impl_few_eq]
   simp only [hlt,h20,decide_false,decide_true,Bool.false_eq_true,if_false,Option.bind_some,and_self]
 | k + 1,i,hk => by
   have hl := h.l
   have hi : i < m.length := by omega
   have hlt : (i : Int) < (m.length : Int) := by omega
   obtain ⟨I1,I2⟩ := memo_loop h k (i + 1) (by omega)
   obtain ⟨c1,c2⟩ := h.c _ (List.getElem_mem hi)
   have hw : IntKind.i64.wrap ((m[i].toNat : Nat) : Int) = ((m[i].toNat : Nat) : Int) := w64 (by omega) (by omega)
   have hin : inR ((m[i].toNat : Nat) : Int) 32 126 = true := by unfold inR; simp only [Bool.and_eq_true,decide_eq_true_eq]; omega
   have n1 : ¬ ((m[i].toNat : Nat) : Int) < 32 := by omega
   have n2 : ¬ ((m[i].toNat : Nat) : Int) > 126 := by omega
   rw [impl_isMemo_p0_eq,spec_l27Memo_p0_eq]
   simp only [hlt,decide_true,if_true,Int.natCast_nonneg,Int.toNat_natCast,List.getElem?_eq_getElem hi,Option.bind_some,hw,impl_within_ok,hin,Bool.not_true,Bool.false_eq_true,if_false,n1,n2,decide_false,wsucc (show i < 4611686018427387904 by omega)]
   exact ⟨I1,I2⟩
theorem memo_ok {m : List UInt8} (h : Memo m) : impl_isMemo m = some true ∧ spec_l27Memo m = some true := by
 rw [impl_isMemo_eq,spec_l27Memo_eq]
 exact memo_loop h m.length 0 (by omega)
def vN (v : T_Version.ty) : Int := v.1
def vP (v : T_Version.ty) : Int := v.2.1
def vM (v : T_Version.ty) : List UInt8 := v.2.2.1
def vS (v : T_Version.ty) : List T_Setting.ty := v.2.2.2.1
def vAt (h : List T_Version.ty) (i : Nat) : T_Version.ty := (h[i]?).getD (0,0,[],[],())
theorem vAt_get {h : List T_Version.ty} {i : Nat} (hi : i < h.length) : h[i]? = some (vAt h i) := by simp [vAt,List.getElem?_eq_getElem hi]
theorem vAt_el {h : List T_Version.ty} {i : Nat} (hi : i < h.length) : h[i] = vAt h i := by simp [vAt,List.getElem?_eq_getElem hi]
theorem vAt_old {h : List T_Version.ty} {x : T_Version.ty} {i : Nat} (hi : i < h.length) : vAt (h ++ [x]) i = vAt h i := by
 unfold vAt; rw [List.getElem?_append_left hi]
theorem vAt_new (h : List T_Version.ty) (x : T_Version.ty) : vAt (h ++ [x]) h.length = x := by
 unfold vAt; rw [List.getElem?_append_right (Nat.le_refl _),Nat.sub_self]; rfl
theorem vtake_snoc {h : List T_Version.ty} {i : Nat} (hi : i < h.length) : h.take (i + 1) = h.take i ++ [vAt h i] := by rw [List.take_succ_eq_append_getElem hi,vAt_el hi]
structure Hist (h : List T_Version.ty) : Prop where
 n : ∀ i,i < h.length → vN (vAt h i) = ((i + 1 : Nat) : Int)
 p : ∀ i,i < h.length → 0 ≤ vP (vAt h i) ∧ vP (vAt h i) ≤ (i : Int)
 m : ∀ i,i < h.length → Memo (vM (vAt h i))
 s : ∀ i,i < h.length → Sts (vS (vAt h i))
theorem Hist.nil : Hist [] := ⟨fun i h => (by cases h),fun i h => (by cases h),fun i h => (by cases h),fun i h => (by cases h)⟩
theorem Hist.snoc {h : List T_Version.ty} (H : Hist h) {p : Int} {m : List UInt8} {s : List T_Setting.ty} (hp : 0 ≤ p ∧ p ≤ (h.length : Int)) (hm : Memo m) (hs : Sts s) : Hist (h ++ [(((h.length + 1 : Nat) : Int),p,m,s,())]) := by
 have hc : ∀ i,i < (h ++ [((((h.length + 1 : Nat) : Int),p,m,s,()) : T_Version.ty)]).length → i < h.length ∨ i = h.length := fun i hi => by
  rw [List.length_append,List.length_singleton] at hi; omega
 refine ⟨fun i hi => ?_,fun i hi => ?_,fun i hi => ?_,fun i hi => ?_⟩
 ·rcases hc i hi with q | rfl
  ·rw [vAt_old q]; exact H.n i q
  ·rw [vAt_new]; rfl
 ·rcases hc i hi with q | rfl
  ·rw [vAt_old q]; exact H.p i q
  ·rw [vAt_new]; exact hp
 ·rcases hc i hi with q | rfl
  ·rw [vAt_old q]; exact H.m i q
  ·rw [vAt_new]; exact hm
 ·rcases hc i hi with q | rfl
  ·rw [vAt_old q]; exact H.s i q
  ·rw [vAt_new]; exact hs
theorem valid_loop {h : List T_Version.ty} (H : Hist h) (hl : h.length ≤ 32) : ∀ (k i : Nat),i + k = h.length → impl_ValidHistory_p0 h h h.length i = some true ∧ spec_l27Ok_p0 h i = some true
 | 0,i,hk => by
   have hlt : ¬ (i : Int) < (h.length : Int) := by omega
   have h32 : (h.length : Int) ≤ 32 := by omega
   rw [impl_ValidHistory_p0_eq,spec_l27Ok_p0_eq,impl_few_eq]
   simp only [hlt,h32,decide_false,decide_true,Bool.false_eq_true,if_false,Option.bind_some,and_self]
 | k + 1,i,hk => by
   have hi : i < h.length := by omega
   have hlt : (i : Int) < (h.length : Int) := by omega
   obtain ⟨I1,I2⟩ := valid_loop H hl k (i + 1) (by omega)
   obtain ⟨m1,m2⟩ := memo_ok (H.m i hi)
   obtain ⟨s1,s2⟩ := state_ok (H.s i hi)
   have m1' : impl_isMemo (vAt h i).2.2.1 = some true := m1
   have m2' : spec_l27Memo (vAt h i).2.2.1 = some true := m2
   have s1' : impl_ValidState (vAt h i).2.2.2.1 = some true := s1
   have s2' : spec_l27State (vAt h i).2.2.2.1 = some true := s2
   obtain ⟨p1,p2⟩ := H.p i hi
   have hin : inR (vAt h i).2.1 0 (i : Int) = true := by
    show inR (vP (vAt h i)) 0 (i : Int) = true
    unfold inR; simp only [Bool.and_eq_true,decide_eq_true_eq]; omega
   have hn : (vAt h i).1 = ((i + 1 : Nat) : Int) := H.n i hi
   rw [impl_ValidHistory_p0_eq,spec_l27Ok_p0_eq]
   simp only [hlt,decide_true,if_true,Int.natCast_nonneg,Int.toNat_natCast,vAt_get hi,Option.bind_some,wsucc (show i < 4611686018427387904 by omega),hn,bne_self_eq_false,impl_within_ok,spec_l00In_ok,hin,m1',m2',s1',s2',Bool.not_true,Bool.false_eq_true,if_false]
   exact ⟨I1,I2⟩
theorem valid_ok {h : List T_Version.ty} (H : Hist h) (hl : h.length ≤ 32) : impl_ValidHistory h = some true ∧ spec_ValidHistory h = some true := by
 obtain ⟨v1,v2⟩ := valid_loop H hl h.length 0 (by omega)
 have v1' : impl_ValidHistory_p0 h h h.length 0 = some true := v1
 have v2' : spec_l27Ok_p0 h 0 = some true := v2
 rw [impl_ValidHistory_eq,spec_ValidHistory_eq,spec_l27Ok_eq,v2',Option.bind_some]
 exact ⟨v1',rfl⟩
theorem copy_loop {h : List T_Version.ty} (H : Hist h) (hl : h.length ≤ 32) : ∀ (k i : Nat),i + k = h.length → impl_copyHistory_p0 h h.length i (h.take i) = some h
 | 0,i,hk => by
   have hlt : ¬ (i : Int) < (h.length : Int) := by omega
   rw [impl_copyHistory_p0_eq,if_neg (by simp only [hlt,decide_false,Bool.false_eq_true,not_false_eq_true]),List.take_length,List.take_of_length_le (by omega)]
 | k + 1,i,hk => by
   have hi : i < h.length := by omega
   have hlt : (i : Int) < (h.length : Int) := by omega
   have hsl := (H.s i hi).len
   have hc : impl_clone_impl_Setting_ (vAt h i).2.2.2.1 = some (vAt h i).2.2.2.1 := cloneS (s := (vAt h i).2.2.2.1) (by have : (vAt h i).2.2.2.1.length ≤ 6 := hsl; omega)
   have hlim : (h.take i).length + 1 < lim := by rw [List.length_take]; unfold lim; omega
   have IH := copy_loop H hl k (i + 1) (by omega)
   rw [vtake_snoc hi] at IH
   rw [impl_copyHistory_p0_eq]
   simp only [hlt,decide_true,if_true,Int.natCast_nonneg,Int.toNat_natCast,vAt_get hi,Option.bind_some,hc,hlim,List.take_length,wsucc (show i < 4611686018427387904 by omega)]
   exact IH
theorem commit_ok {h : List T_Version.ty} (H : Hist h) (hl : h.length < 32) (p : Int) (m : List UInt8) {s : List T_Setting.ty} (hs : Sts s) : impl_commit h p m s = some (h ++ [(((h.length + 1 : Nat) : Int),p,m,s,())],0) := by
 have hsl := hs.len
 have hne : ((h.length : Int) == 32) = false := beq_eq_false_iff_ne.2 (by omega)
 have hw := wsucc (show h.length < 4611686018427387904 by omega)
 have hlim : h.length + 1 < lim := by unfold lim; omega
 have hco : impl_copyHistory h = some h := by
  have := copy_loop H (by omega) h.length 0 (by omega)
  rw [List.take_zero] at this
  have this' : impl_copyHistory_p0 h h.length 0 [] = some h := this
  rw [impl_copyHistory_eq,hw]
  simp only [Int.natCast_nonneg,Int.toNat_natCast,hlim,decide_true,Bool.and_self,if_true]
  exact this'
 rw [impl_commit_eq,hne,if_neg (by decide),hco,Option.bind_some,cloneS (by omega),Option.bind_some,if_pos (decide_eq_true hlim),hw,List.take_length]
theorem isV_ok {h : List T_Version.ty} (hl : h.length ≤ 1000) {n : Int} (h1 : 1 ≤ n) (h2 : n ≤ (h.length : Int)) : impl_isVersion h n = some true := by
 have hw : IntKind.i64.wrap (n - 1) = n - 1 := w64 (by omega) (by omega)
 have a0 : n - 1 ≥ 0 := by omega
 have a1 : n - 1 < (h.length : Int) := by omega
 rw [impl_isVersion_eq,impl_at_eq,hw]
 simp only [a0,a1,decide_true,if_true,Option.bind_some]
def stOf (h : List T_Version.ty) (p : Int) : List T_Setting.ty := if p = 0 then [] else vS (vAt h (p - 1).toNat)
theorem stOf_sts {h : List T_Version.ty} (H : Hist h) {p : Int} (hp : 0 ≤ p ∧ p ≤ (h.length : Int)) : Sts (stOf h p) := by
 unfold stOf
 split
 ·exact Sts.nil
 ·exact H.s _ (by omega)
theorem stateOf_ok {h : List T_Version.ty} (hl : h.length ≤ 1000) {p : Int} (hp : 0 ≤ p ∧ p ≤ (h.length : Int)) : impl_stateOf h p = some (stOf h p) := by
 rw [impl_stateOf_eq,stOf]
 by_cases c : p = 0
 ·rw [if_pos (beq_iff_eq.2 c),if_pos c]
 ·have hw : IntKind.i64.wrap (p - 1) = p - 1 := w64 (by omega) (by omega)
  have h0 : 0 ≤ p - 1 := by omega
  rw [if_neg (by rw [beq_iff_eq]; exact c),if_neg c,hw,if_pos (decide_eq_true h0),vAt_get (show (p - 1).toNat < h.length by omega)]
  rfl
theorem stOf_old {h : List T_Version.ty} {x : T_Version.ty} {p : Int} (hp : 0 ≤ p ∧ p ≤ (h.length : Int)) : stOf (h ++ [x]) p = stOf h p := by
 unfold stOf
 by_cases c : p = 0
 ·rw [if_pos c,if_pos c]
 ·rw [if_neg c,if_neg c,vAt_old (by omega)]
theorem anc_loop {h : List T_Version.ty} (H : Hist h) (hl : h.length ≤ 32) : ∀ (f : Nat) (p : Int) (r : List Int),p ≤ f → 0 ≤ p ∧ p ≤ (h.length : Int) → r.length + f ≤ 1000 →
 ∃ l,impl_ancestors_p0 h p r = some (r ++ l) ∧ (p > 0 → p ∈ l) ∧ (∀ x,x ∈ l → 1 ≤ x ∧ x ≤ p) ∧ l.Pairwise (· > ·) ∧ l.length ≤ f
 | f,p,r,hf,hp,hr => by
   by_cases c : p > 0
   ·obtain ⟨f,rfl⟩ : ∃ f',f = f' + 1 := ⟨f - 1,by omega⟩
    have hw : IntKind.i64.wrap (p - 1) = p - 1 := w64 (by omega) (by omega)
    have h0 : 0 ≤ p - 1 := by omega
    have hi : (p - 1).toNat < h.length := by omega
    have hlim : r.length + 1 < lim := by unfold lim; omega
    obtain ⟨p1,p2⟩ := H.p _ hi
    obtain ⟨l,e,l1,l2,l3,l4⟩ := anc_loop H hl f (vP (vAt h (p - 1).toNat)) (r ++ [p]) (by omega) ⟨p1,by omega⟩ (by rw [List.length_append,List.length_singleton]; omega)
    refine ⟨p :: l,?_,fun _ => List.mem_cons_self,fun x hx => ?_,List.pairwise_cons.2 ⟨fun x hx => ?_,l3⟩,by rw [List.length_cons]; omega⟩
    ·rw [impl_ancestors_p0_eq,if_pos (decide_eq_true c),if_pos (decide_eq_true hlim),hw,if_pos (decide_eq_true h0),vAt_get hi,Option.bind_some,List.take_length]
     rw [List.append_assoc] at e
     exact e
    ·rcases List.mem_cons.1 hx with rfl | hx
     ·omega
     ·have := l2 x hx; omega
    ·have := l2 x hx
     show p > x
     omega
   ·refine ⟨[],?_,fun h => absurd h c,fun x hx => (by cases hx),List.Pairwise.nil,Nat.zero_le _⟩
    rw [impl_ancestors_p0_eq,if_neg (by simp only [c,decide_false,Bool.false_eq_true,not_false_eq_true]),List.take_length,List.append_nil]
 termination_by f => f
 decreasing_by all_goals omega
theorem anc_ok {h : List T_Version.ty} (H : Hist h) (hl : h.length ≤ 32) {n : Nat} (h1 : 1 ≤ n) (h2 : n ≤ h.length) : ∃ l,impl_ancestors h (n : Int) = some l ∧ (vP (vAt h (n - 1)) > 0 → vP (vAt h (n - 1)) ∈ l) ∧ (∀ x,x ∈ l → 1 ≤ x ∧ x ≤ vP (vAt h (n - 1))) ∧ l.Pairwise (· > ·) ∧ l.length ≤ 32 := by
 have hw : IntKind.i64.wrap ((n : Int) - 1) = ((n - 1 : Nat) : Int) := by rw [w64 (by omega) (by omega)]; omega
 obtain ⟨p1,p2⟩ := H.p (n - 1) (by omega)
 obtain ⟨l,e,l1,l2,l3,l4⟩ := anc_loop H hl 32 (vP (vAt h (n - 1))) [] (by omega) ⟨p1,by omega⟩ (by decide)
 refine ⟨l,?_,l1,l2,l3,l4⟩
 rw [impl_ancestors_eq,hw,if_pos (decide_eq_true (Int.natCast_nonneg _)),Int.toNat_natCast,vAt_get (show n - 1 < h.length by omega),Option.bind_some]
 exact e
theorem common_self {h : List T_Version.ty} (H : Hist h) (hl : h.length ≤ 32) {n : Nat} (h1 : 1 ≤ n) (h2 : n ≤ h.length) : impl_CommonAncestor h (n : Int) (n : Int) = some ((n : Int),0) := by
 obtain ⟨l,e,l1,l2,l3,l4⟩ := anc_ok H hl h1 h2
 have hlim : l.length + 1 < lim := by unfold lim; omega
 have hlim2 : 1 + l.length < lim := by unfold lim; omega
 have hv := isV_ok (h := h) (by omega) (show 1 ≤ (n : Int) by omega) (by omega)
 have hc := has64_ok (l ++ [(n : Int)]) (n : Int) (by rw [List.length_append,List.length_singleton]; omega)
 have hmem : (n : Int) ∈ l ++ [(n : Int)] := List.mem_append_right _ List.mem_cons_self
 have hlt : (0 : Int) < ((([(n : Int)] ++ l).length : Nat) : Int) := by rw [List.length_append,List.length_singleton]; omega
 rw [impl_CommonAncestor_eq,(valid_ok H hl).1,Option.bind_some,if_neg (by decide),hv,Option.bind_some,if_neg (by decide),Option.bind_some,if_neg (by decide),impl_CommonAncestor_p0_eq,impl_common_eq,e,Option.bind_some,if_pos (decide_eq_true hlim),Option.bind_some,if_pos (decide_eq_true hlim2),impl_common_p0_eq,if_pos (decide_eq_true hlt),if_pos (by decide)]
 rw [show ([(n : Int)] ++ l)[(0 : Int).toNat]? = some (n : Int) from rfl,Option.bind_some,List.take_length,hc,Option.bind_some,if_pos (decide_eq_true hmem),Option.bind_some]
theorem memos_ok : ∀ m,m ∈ ([[],[110,101,119],[97,32,98]] : List (List UInt8)) → Memo m := fun m hm => by
 have h : ∀ m,m ∈ ([[],[110,101,119],[97,32,98]] : List (List UInt8)) → (∀ x,x ∈ m → 32 ≤ x.toNat ∧ x.toNat ≤ 126) ∧ m.length ≤ 20 := by decide
 exact ⟨(h m hm).1,(h m hm).2⟩
theorem draw_loop : ∀ (k : Nat) (v : Int) (s : T_l00Src.ty) (c : Int) (r : List T_Version.ty),v ≤ k → SrcOk s c → c + 50 * (k : Int) ≤ 800000000000000000 → Hist r → r.length + k ≤ 10 →
 ∃ (r' : List T_Version.ty) (s' : T_l00Src.ty),spec_l27Draw_p0 v s.1 s.2.1 s.2.2.1 r = some (r',s') ∧ Hist r' ∧ r'.length ≤ r.length + k
 | k,v,s,c,r,hk,hs,hc,hr,hrl => by
   by_cases v0 : v > 0
   ·obtain ⟨k,rfl⟩ : ∃ k',k = k' + 1 := ⟨k - 1,by omega⟩
    have hw := wsucc (show r.length < 4611686018427387904 by omega)
    have hwv : IntKind.i64.wrap (v - 1) = v - 1 := w64 (by omega) (by omega)
    obtain ⟨p,s1,e1,q1,p0,p1⟩ := pick_ok hs (by omega) ((r.length + 1 : Nat) : Int) (by omega)
    have e1' : spec_l00Src_pick (s.1,s.2.1,s.2.2.1,()) ((r.length + 1 : Nat) : Int) = some (p,s1) := e1
    have hpl : p ≤ (r.length : Int) := by omega
    have hnext : ∀ (s2 : T_l00Src.ty) (st : List T_Setting.ty),SrcOk s2 (c + 42) → Sts st → ∃ (r' : List T_Version.ty) (s' : T_l00Src.ty),spec_l27Draw_p1 v (r.length : Int) p s2.1 s2.2.1 s2.2.2.1 r st = some (r',s') ∧ Hist r' ∧ r'.length ≤ r.length + (k + 1) := fun s2 st q2 hst => by
     obtain ⟨m,s3,e3,q3,hm⟩ := text_ok q2 (by omega) [[],[110,101,119],[97,32,98]] (by decide) (by decide)
     have e3' : spec_l00Src_text (s2.1,s2.2.1,s2.2.2.1,()) [[],[110,101,119],[97,32,98]] = some (m,s3) := e3
     have hlim : r.length + 1 < lim := by unfold lim; omega
     obtain ⟨r',s',e,h1,h2⟩ := draw_loop k (v - 1) s3 (c + 42 + 2) (r ++ [(((r.length + 1 : Nat) : Int),p,m,st,())]) (by omega) q3 (by omega) (hr.snoc ⟨p0,hpl⟩ (memos_ok m hm) hst) (by rw [List.length_append,List.length_singleton]; omega)
     refine ⟨r',s',?_,h1,by rw [List.length_append,List.length_singleton] at h2; omega⟩
     rw [spec_l27Draw_p1_eq,e3',Option.bind_some,if_pos (decide_eq_true hlim),hwv,hw,List.take_length,List.take_length]
     exact e
    obtain ⟨st,s2,e2,q2,hst⟩ := dS_ok q1 (by omega)
    have e2' : spec_l27DrawState (s1.1,s1.2.1,s1.2.2.1,()) = some (st,s2) := e2
    rw [spec_l27Draw_p0_eq,if_pos (decide_eq_true v0),hw,e1',Option.bind_some,e2',Option.bind_some]
    by_cases pp : p > 0
    ·have hw2 : IntKind.i64.wrap (p - 1) = p - 1 := w64 (by omega) (by omega)
     have a0 : 0 ≤ p - 1 := by omega
     have a1 : p - 1 < (r.length : Int) := by omega
     have hi : (p - 1).toNat < r.length := by omega
     obtain ⟨st2,s3,e3,q3,hst2⟩ := ch_ok q2 (by omega) (hr.s _ hi)
     have e3' : spec_l27Changed (s2.1,s2.2.1,s2.2.2.1,()) (vAt r (p - 1).toNat).2.2.2.1 = some (st2,s3) := e3
     rw [if_pos (decide_eq_true pp),hw2,if_pos (by rw [decide_eq_true a0,decide_eq_true a1]; rfl),vAt_get hi,Option.bind_some,e3',Option.bind_some]
     exact hnext s3 st2 (q3.up (by omega)) hst2
    ·rw [if_neg (by simp only [pp,decide_false,Bool.false_eq_true,not_false_eq_true])]
     exact hnext s2 st (q2.up (by omega)) hst
   ·refine ⟨r,s,?_,hr,by omega⟩
    rw [spec_l27Draw_p0_eq,if_neg (by simp only [v0,decide_false,Bool.false_eq_true,not_false_eq_true]),List.take_length]
 termination_by k => k
 decreasing_by all_goals omega
theorem r8History_ok {a : List Int} (h1 : ∀ x,x ∈ a → 0 ≤ x ∧ x ≤ 255) (h2 : a.length ≤ 1048576) : ∃ r,spec_R8History a = some r ∧ Hist r ∧ r.length ≤ 5 := by
 obtain ⟨s,e,q⟩ := from_ok a h1 h2
 obtain ⟨u,s1,e1,q1,u0,u1⟩ := pick_ok q (by omega) 6 (by omega)
 obtain ⟨r,s',e2,h3,h4⟩ := draw_loop 5 u s1 (0 + 2) [] (by omega) q1 (by omega) Hist.nil (by decide)
 refine ⟨r,?_,h3,h4⟩
 rw [spec_R8History_eq,e,Option.bind_some,spec_l27Draw_eq,e1,Option.bind_some,e2,Option.bind_some]
theorem at_ok (v1 : List Int) (h1 : ∀ x,x ∈ v1 → 0 ≤ x ∧ x ≤ 255) (k : Nat) (m : Int) (hm : 1 < m) : ∃ r : Int,laws_r8At v1 k m = some r ∧ 0 ≤ r ∧ r < m := by
 rw [laws_r8At_eq]
 simp only [show ¬ (m ≤ 1) by omega,decide_false,Bool.false_eq_true,if_false]
 by_cases c : (k : Int) ≥ (v1.length : Int)
 ·rw [if_pos (decide_eq_true c)]; exact ⟨0,rfl,by omega,by omega⟩
 ·have hk2 : k < v1.length := by omega
  obtain ⟨b0,b1⟩ := h1 _ (List.getElem_mem hk2)
  rw [if_neg (by simpa using c),laws_r8At_p0_eq]
  simp only [Int.natCast_nonneg,decide_true,if_true,Int.toNat_natCast,List.getElem?_eq_getElem hk2,Option.bind_some,show ¬ (m = 0) by omega,decide_false,Bool.false_eq_true,if_false]
  rw [w64 (n := v1[k]) (by omega) (by omega),tmod_nonneg_eq b0]
  exact ⟨_,rfl,Int.emod_nonneg _ (by omega),Int.emod_lt_of_pos _ (by omega)⟩
theorem par_ok {a : List Int} (h1 : ∀ x,x ∈ a → 0 ≤ x ∧ x ≤ 255) (n : Nat) : ∃ p : Int,laws_r8At a 0 ((n + 1 : Nat) : Int) = some p ∧ 0 ≤ p ∧ p ≤ (n : Int) := by
 by_cases c : n = 0
 ·subst c
  refine ⟨0,?_,by omega,by omega⟩
  rw [laws_r8At_eq,if_pos (by decide)]
 ·obtain ⟨r,e,r0,r1⟩ := at_ok a h1 0 ((n + 1 : Nat) : Int) (by omega)
  exact ⟨r,e,r0,by omega⟩
theorem longS' (a b : List Int) : laws_r8Long a b = some (decide ((a.length : Int) > 1048576) || decide ((b.length : Int) > 1048576)) := by
 rw [laws_r8Long_eq]
 by_cases c : (a.length : Int) > 1048576 <;> simp [c]
theorem memo_next : Memo [110,101,120,116] := ⟨by decide,by decide⟩
def lk (s : List T_Setting.ty) (n : List UInt8) : Int := (look s n).getD (-1)
theorem lk_v {s : List T_Setting.ty} (h : Sts s) (n : List UInt8) : -1 ≤ lk s n ∧ lk s n ≤ 1000 := by
 unfold lk
 cases hq : look s n with
 | none => exact ⟨by decide,by decide⟩
 | some v =>
   have hv : 0 ≤ v ∧ v ≤ 1000 := h.v0 _ (look_mem hq)
   exact ⟨by simp only [Option.getD_some]; omega,hv.2⟩
theorem look_out {s : List T_Setting.ty} (h : Sts s) {n : List UInt8} (hn : n ∉ nms) : look s n = none := look_none fun x hx e => hn (e ▸ h.nm x hx)
theorem lk_ext {s t : List T_Setting.ty} (hs : Sts s) (ht : Sts t) (h : ∀ n,n ∈ nms → lk s n = lk t n) : s = t := sts_ext hs ht fun n => by
 by_cases hn : n ∈ nms
 ·have := h n hn
  unfold lk at this
  cases h1 : look s n with
  | none =>
    cases h2 : look t n with
    | none => rfl
    | some v =>
      have hv : 0 ≤ v ∧ v ≤ 1000 := ht.v0 _ (look_mem h2)
      rw [h1,h2] at this
      simp only [Option.getD_none,Option.getD_some] at this
      omega
  | some u =>
    have hu : 0 ≤ u ∧ u ≤ 1000 := hs.v0 _ (look_mem h1)
    cases h2 : look t n with
    | none =>
      rw [h1,h2] at this
      simp only [Option.getD_none,Option.getD_some] at this
      omega
    | some v =>
      rw [h1,h2] at this
      simp only [Option.getD_some] at this
      rw [this]
 ·rw [look_out hs hn,look_out ht hn]
theorem lk_in {s : List T_Setting.ty} {n : List UInt8} (h : 0 ≤ lk s n) : ∃ x,x ∈ s ∧ sN x = n := by
 unfold lk at h
 cases hq : look s n with
 | none => rw [hq] at h; exact absurd h (by decide)
 | some v => exact ⟨_,look_mem hq,rfl⟩
def nmsOf (s : List T_Setting.ty) : List (List UInt8) := s.map sN
theorem names_loop1 (l : List (List T_Setting.ty)) (c a : Nat) (s : List T_Setting.ty) (hs : s.length ≤ 6) : ∀ (k i : Nat) (r : List (List UInt8)),i + k = s.length → r.length + k ≤ 1000 →
 impl_namesOf_p1 l c a s s.length i r = impl_namesOf_p0 l c (IntKind.i64.wrap ((a : Int) + 1)) (r ++ nmsOf (s.drop i))
 | 0,i,r,hi,hr => by
   have hlt : ¬ (i : Int) < (s.length : Int) := by omega
   rw [impl_namesOf_p1_eq,if_neg (by simp only [hlt,decide_false,Bool.false_eq_true,not_false_eq_true]),List.drop_of_length_le (by omega),nmsOf,List.map_nil,List.append_nil]
 | k + 1,i,r,hi,hr => by
   have hi' : i < s.length := by omega
   have hlt : (i : Int) < (s.length : Int) := by omega
   have hlim : r.length + 1 < lim := by unfold lim; omega
   rw [impl_namesOf_p1_eq]
   simp only [hlt,decide_true,if_true,Int.natCast_nonneg,Int.toNat_natCast,sAt_get hi',Option.bind_some,hlim,List.take_length,wsucc (show i < 4611686018427387904 by omega)]
   rw [names_loop1 l c a s hs k (i + 1) _ (by omega) (by rw [List.length_append,List.length_singleton]; omega),List.drop_eq_getElem_cons hi',sAt_el hi',List.append_assoc]
   rfl
theorem names_loop0 (l : List (List T_Setting.ty)) (hl : l.length ≤ 3) (hs : ∀ s,s ∈ l → s.length ≤ 6) : ∀ (k i : Nat) (r : List (List UInt8)),i + k = l.length → r.length ≤ 6 * i →
 impl_namesOf_p0 l l.length i r = some (lessP (r ++ (l.drop i).flatMap nmsOf))
 | 0,i,r,hi,hr => by
   have hlt : ¬ (i : Int) < (l.length : Int) := by omega
   rw [impl_namesOf_p0_eq,if_neg (by simp only [hlt,decide_false,Bool.false_eq_true,not_false_eq_true]),if_pos (decide_eq_true rfl),sortedSet_ok r (by omega),Option.bind_some,List.take_length,List.drop_of_length_le (by omega),List.flatMap_nil,List.append_nil]
 | k + 1,i,r,hi,hr => by
   have hi' : i < l.length := by omega
   have hlt : (i : Int) < (l.length : Int) := by omega
   have h6 := hs _ (List.getElem_mem hi')
   rw [impl_namesOf_p0_eq]
   simp only [hlt,decide_true,if_true,Int.natCast_nonneg,Int.toNat_natCast,List.getElem?_eq_getElem hi',Option.bind_some]
   have h1 := names_loop1 l l.length i l[i] h6 l[i].length 0 r (by omega) (by omega)
   have h1' : impl_namesOf_p1 l (l.length : Int) (i : Int) l[i] (l[i].length : Int) 0 r = impl_namesOf_p0 l l.length (IntKind.i64.wrap ((i : Int) + 1)) (r ++ nmsOf (l[i].drop 0)) := h1
   rw [h1',wsucc (show i < 4611686018427387904 by omega),List.drop_zero,names_loop0 l hl hs k (i + 1) _ (by omega) (by rw [List.length_append,nmsOf,List.length_map]; omega),List.drop_eq_getElem_cons hi',List.flatMap_cons,List.append_assoc]
theorem names_ok (l : List (List T_Setting.ty)) (hl : l.length ≤ 3) (hs : ∀ s,s ∈ l → Sts s) : ∃ ns,impl_namesOf l = some ns ∧ ns.Pairwise (· < ·) ∧ (∀ n,n ∈ ns ↔ ∃ s,s ∈ l ∧ n ∈ nmsOf s) ∧ (∀ n,n ∈ ns → n ∈ nms) ∧ ns.length ≤ 6 := by
 have h := names_loop0 l hl (fun s h => (hs s h).len) l.length 0 [] (by omega) (by simp)
 obtain ⟨_,r2,r3⟩ := less_runs (l.flatMap nmsOf)
 have hmem : ∀ n,n ∈ lessP (l.flatMap nmsOf) ↔ ∃ s,s ∈ l ∧ n ∈ nmsOf s := fun n => (r3 n).trans List.mem_flatMap
 have hin : ∀ n,n ∈ lessP (l.flatMap nmsOf) → n ∈ nms := fun n hn => by
  obtain ⟨s,h1,h2⟩ := (hmem n).1 hn
  obtain ⟨x,hx,rfl⟩ := List.mem_map.1 h2
  exact (hs s h1).nm x hx
 refine ⟨lessP (l.flatMap nmsOf),?_,r2,hmem,hin,?_⟩
 ·rw [impl_namesOf_eq]
  rw [List.nil_append,List.drop_zero] at h
  exact h
 ·have := rising_len (T := (lessP (l.flatMap nmsOf)).map nms.idxOf) (lo := 0) (m := 6) (by
   rw [List.pairwise_map]
   exact r2.imp_of_mem fun {a b} ha hb hab => (nms_tri _ (hin a ha) _ (hin b hb)).2.1 hab) fun t ht => by
    obtain ⟨x,hx,rfl⟩ := List.mem_map.1 ht
    exact ⟨Nat.zero_le _,(nms_tri _ (hin x hx) _ (hin x hx)).2.2⟩
  rw [List.length_map] at this; exact this
def strikeP (base a b : List T_Setting.ty) (n : List UInt8) : Bool := lk a n == lk b n || (lk a n == lk base n || lk b n == lk base n)
theorem strike_ok {base a b : List T_Setting.ty} (h0 : Sts base) (ha : Sts a) (hb : Sts b) {n : List UInt8} (hn : n ∈ nms) : strikeO impl_value base a b n = some (strikeP base a b n) := by
 unfold strikeO
 have e1 : impl_value a n = some (lk a n) := value_ok ha hn
 have e2 : impl_value b n = some (lk b n) := value_ok hb hn
 have e3 : impl_value base n = some (lk base n) := value_ok h0 hn
 rw [e1,Option.bind_some,e2,Option.bind_some,e3]; rfl
theorem filt_ok {d : List UInt8 → Option Bool} {p : List UInt8 → Bool} : ∀ {ns : List (List UInt8)},(∀ n,n ∈ ns → d n = some (p n)) → filtO d ns = some (ns.filter fun n => !p n)
 | [],_ => rfl
 | n :: ns,h => by
   rw [filtO,h n List.mem_cons_self,Option.bind_some,filt_ok fun m hm => h m (List.mem_cons_of_mem _ hm),Option.map_some,List.filter_cons]
   cases p n <;> rfl
theorem conf_ok {base a b : List T_Setting.ty} (h0 : Sts base) (ha : Sts a) (hb : Sts b) : ∃ cs,impl_conflicts base a b = some cs ∧ cs.Pairwise (· < ·) ∧ ∀ n,n ∈ cs ↔ n ∈ nms ∧ strikeP base a b n = false := by
 obtain ⟨ns,e,r1,r2,r3,r4⟩ := names_ok [base,a,b] (by simp) (by simpa using ⟨h0,ha,hb⟩)
 refine ⟨ns.filter fun n => !strikeP base a b n,?_,r1.sublist List.filter_sublist,fun n => ?_⟩
 ·rw [impl_conflicts_eq,e,Option.bind_some,confF,if_pos (by omega),filt_ok fun n hn => strike_ok h0 ha hb (r3 n hn)]
 ·rw [List.mem_filter]
  constructor
  ·exact fun ⟨h1,h2⟩ => ⟨r3 n h1,by simpa using h2⟩
  ·refine fun ⟨h1,h2⟩ => ⟨(r2 n).2 ?_,by simp [h2]⟩
   have hex : 0 ≤ lk a n ∨ 0 ≤ lk b n := by
    by_cases q1 : 0 ≤ lk a n
    ·exact .inl q1
    ·by_cases q2 : 0 ≤ lk b n
     ·exact .inr q2
     ·have w1 := (lk_v ha n).1
      have w2 := (lk_v hb n).1
      have : lk a n = lk b n := by omega
      rw [strikeP,this] at h2
      simp at h2
   rcases hex with q | q
   ·obtain ⟨x,hx,rfl⟩ := lk_in q
    exact ⟨a,by simp,List.mem_map.2 ⟨x,hx,rfl⟩⟩
   ·obtain ⟨x,hx,rfl⟩ := lk_in q
    exact ⟨b,by simp,List.mem_map.2 ⟨x,hx,rfl⟩⟩
theorem up_ext : ∀ {s t : List (List UInt8)},s.Pairwise (· < ·) → t.Pairwise (· < ·) → (∀ n,n ∈ s ↔ n ∈ t) → s = t
 | [],[],_,_,_ => rfl
 | [],y :: t,_,_,h => absurd ((h y).2 List.mem_cons_self) (by simp)
 | x :: s,[],_,_,h => absurd ((h x).1 List.mem_cons_self) (by simp)
 | x :: s,y :: t,hs,ht,h => by
   obtain ⟨u1,u2⟩ := List.pairwise_cons.1 hs
   obtain ⟨w1,w2⟩ := List.pairwise_cons.1 ht
   have hxy : x = y := by
    rcases List.mem_cons.1 ((h x).1 List.mem_cons_self) with e | e
    ·exact e
    ·rcases List.mem_cons.1 ((h y).2 List.mem_cons_self) with e2 | e2
     ·exact e2.symm
     ·exact absurd (List.lt_trans (u1 y e2) (w1 x e)) (List.lt_irrefl _)
   subst hxy
   rw [up_ext u2 w2 fun n => ⟨fun hn => ?_,fun hn => ?_⟩]
   ·rcases List.mem_cons.1 ((h n).1 (List.mem_cons_of_mem _ hn)) with e | e
    ·subst e; exact absurd (u1 n hn) (List.lt_irrefl _)
    ·exact e
   ·rcases List.mem_cons.1 ((h n).2 (List.mem_cons_of_mem _ hn)) with e | e
    ·subst e; exact absurd (w1 n hn) (List.lt_irrefl _)
    ·exact e
def mV (base a b : List T_Setting.ty) (n : List UInt8) : Int := if lk a n = lk base n then lk b n else lk a n
theorem mV_v {base a b : List T_Setting.ty} (ha : Sts a) (hb : Sts b) (n : List UInt8) : -1 ≤ mV base a b n ∧ mV base a b n ≤ 1000 := by
 unfold mV
 split
 ·exact lk_v hb n
 ·exact lk_v ha n
def outP (base a b : List T_Setting.ty) (l : List (List UInt8)) : List T_Setting.ty := (l.filter fun n => decide (mV base a b n ≥ 0)).map fun n => (n,mV base a b n,())
theorem outP_snoc (base a b : List T_Setting.ty) (l : List (List UInt8)) (n : List UInt8) : outP base a b (l ++ [n]) = outP base a b l ++ (if mV base a b n ≥ 0 then [(n,mV base a b n,())] else []) := by
 rw [outP,List.filter_append,List.map_append,← outP]
 congr 1
 by_cases c : mV base a b n ≥ 0 <;> simp [List.filter_cons,c]
theorem outP_len (base a b : List T_Setting.ty) (l : List (List UInt8)) : (outP base a b l).length ≤ l.length := by
 rw [outP,List.length_map]; exact List.length_filter_le _ _
theorem outP_sts {base a b : List T_Setting.ty} (ha : Sts a) (hb : Sts b) {l : List (List UInt8)} (h1 : l.Pairwise (· < ·)) (h2 : ∀ n,n ∈ l → n ∈ nms) : Sts (outP base a b l) := by
 refine ⟨?_,fun x hx => ?_,fun x hx => ?_⟩
 ·rw [outP,List.pairwise_map]
  exact h1.sublist List.filter_sublist
 ·obtain ⟨n,hn,rfl⟩ := List.mem_map.1 hx
  exact h2 n (List.mem_filter.1 hn).1
 ·obtain ⟨n,hn,rfl⟩ := List.mem_map.1 hx
  exact ⟨of_decide_eq_true (List.mem_filter.1 hn).2,(mV_v ha hb n).2⟩
theorem outP_lk {base a b : List T_Setting.ty} (ha : Sts a) (hb : Sts b) {l : List (List UInt8)} (h1 : l.Pairwise (· < ·)) (h2 : ∀ n,n ∈ l → n ∈ nms) {n : List UInt8} (hm : 0 ≤ mV base a b n → n ∈ l) : lk (outP base a b l) n = mV base a b n := by
 have hS := outP_sts (base := base) ha hb h1 h2
 by_cases c : mV base a b n ≥ 0
 ·have hx : ((n,mV base a b n,()) : T_Setting.ty) ∈ outP base a b l := List.mem_map.2 ⟨n,List.mem_filter.2 ⟨hm c,decide_eq_true c⟩,rfl⟩
  have := look_of hS hx
  have this' : look (outP base a b l) n = some (mV base a b n) := this
  rw [lk,this']; rfl
 ·have hv := (mV_v (base := base) ha hb n).1
  have : look (outP base a b l) n = none := look_none fun x hx e => by
   obtain ⟨m,hm1,rfl⟩ := List.mem_map.1 hx
   have e' : m = n := e
   subst e'
   exact c (of_decide_eq_true (List.mem_filter.1 hm1).2)
  rw [lk,this,Option.getD_none]; omega
theorem merge_loop {base a b : List T_Setting.ty} (h0 : Sts base) (ha : Sts a) (hb : Sts b) {ns : List (List UInt8)} (hn : ∀ n,n ∈ ns → n ∈ nms) (hl : ns.length ≤ 6) : ∀ (k i : Nat),i + k = ns.length →
 impl_MergeStates_p1 base a b ns ns.length i (outP base a b (ns.take i)) = some (outP base a b ns,0)
 | 0,i,hi => by
   have hlt : ¬ (i : Int) < (ns.length : Int) := by omega
   have hol := outP_len base a b ns
   have h24 : ((outP base a b ns).length : Int) ≤ 24 := by omega
   have hfew : impl_few ((outP base a b ns).length : Int) 24 = some true := by rw [impl_few_eq]; simp only [h24,decide_true]
   rw [List.take_of_length_le (by omega),impl_MergeStates_p1_eq,if_neg (by simp only [hlt,decide_false,Bool.false_eq_true,not_false_eq_true]),hfew,Option.bind_some,if_neg (by decide),List.take_length]
 | k + 1,i,hi => by
   have hi' : i < ns.length := by omega
   have hlt : (i : Int) < (ns.length : Int) := by omega
   have hin := hn _ (List.getElem_mem hi')
   have e1 : impl_value a ns[i] = some (lk a ns[i]) := value_ok ha hin
   have e2 : impl_value b ns[i] = some (lk b ns[i]) := value_ok hb hin
   have e3 : impl_value base ns[i] = some (lk base ns[i]) := value_ok h0 hin
   have IH := merge_loop h0 ha hb hn hl k (i + 1) (by omega)
   have hp2 : ∀ v : Int,v = mV base a b ns[i] → impl_MergeStates_p2 base a b ns[i] v ns ns.length i (outP base a b (ns.take i)) = some (outP base a b ns,0) := fun v hv => by
    subst hv
    have hol := outP_len base a b (ns.take i)
    rw [List.length_take] at hol
    have hlim : (outP base a b (ns.take i)).length + 1 < lim := by unfold lim; omega
    rw [List.take_succ_eq_append_getElem hi',outP_snoc] at IH
    rw [impl_MergeStates_p2_eq,wsucc (show i < 4611686018427387904 by omega)]
    by_cases c : mV base a b ns[i] ≥ 0
    ·rw [if_pos c] at IH
     rw [if_pos (decide_eq_true c),if_pos (decide_eq_true hlim),List.take_length]
     exact IH
    ·rw [if_neg c,List.append_nil] at IH
     rw [if_neg (by simp only [c,decide_false,Bool.false_eq_true,not_false_eq_true])]
     exact IH
   rw [impl_MergeStates_p1_eq]
   simp only [hlt,decide_true,if_true,Int.natCast_nonneg,Int.toNat_natCast,List.getElem?_eq_getElem hi',Option.bind_some,e1,e3]
   by_cases c : lk a ns[i] = lk base ns[i]
   ·rw [if_pos (beq_iff_eq.2 c),e2,Option.bind_some]
    exact hp2 _ (by rw [mV,if_pos c])
   ·rw [if_neg (by rw [beq_iff_eq]; exact c)]
    exact hp2 _ (by rw [mV,if_neg c])
theorem merge_ok {base a b : List T_Setting.ty} (h0 : Sts base) (ha : Sts a) (hb : Sts b) :
 (impl_MergeStates base a b = some ([],6) ∧ ∃ n,n ∈ nms ∧ strikeP base a b n = false) ∨ ∃ u,impl_MergeStates base a b = some (u,0) ∧ Sts u ∧ (∀ n,n ∈ nms → strikeP base a b n = true) ∧ ∀ n,n ∈ nms → lk u n = mV base a b n := by
 obtain ⟨cs,ec,c1,c2⟩ := conf_ok h0 ha hb
 have hhead : impl_MergeStates base a b = impl_MergeStates_p0 base a b := by
  rw [impl_MergeStates_eq,(state_ok h0).1,Option.bind_some,if_neg (by decide),(state_ok ha).1,Option.bind_some,if_neg (by decide),(state_ok hb).1,Option.bind_some,if_neg (by decide)]
 rw [hhead,impl_MergeStates_p0_eq,ec,Option.bind_some]
 cases cs with
 | cons n cs =>
   have h1 : ((n :: cs).length : Int) > 0 := by simp only [List.length_cons]; omega
   exact .inl ⟨by rw [if_pos (decide_eq_true h1)],n,(c2 n).1 List.mem_cons_self⟩
 | nil =>
   obtain ⟨ns,en,r1,r2,r3,r4⟩ := names_ok [a,b] (by simp) (by simpa using ⟨ha,hb⟩)
   have hm := merge_loop h0 ha hb r3 r4 ns.length 0 (by omega)
   rw [List.take_zero] at hm
   have hm' : impl_MergeStates_p1 base a b ns (ns.length : Int) 0 [] = some (outP base a b ns,0) := hm
   have hall : ∀ n,n ∈ nms → strikeP base a b n = true := fun n hn => by
    by_cases q : strikeP base a b n = true
    ·exact q
    ·exact absurd ((c2 n).2 ⟨hn,by simpa using q⟩) (by simp)
   refine .inr ⟨outP base a b ns,?_,outP_sts ha hb r1 r3,hall,fun n hn => outP_lk ha hb r1 r3 fun h => (r2 n).2 ?_⟩
   ·rw [if_neg (by decide),en,Option.bind_some]
    exact hm'
   ·have hex : 0 ≤ lk a n ∨ 0 ≤ lk b n := by
     unfold mV at h
     split at h
     ·exact .inr h
     ·exact .inl h
    rcases hex with q | q
    ·obtain ⟨x,hx,rfl⟩ := lk_in q
     exact ⟨a,by simp,List.mem_map.2 ⟨x,hx,rfl⟩⟩
    ·obtain ⟨x,hx,rfl⟩ := lk_in q
     exact ⟨b,by simp,List.mem_map.2 ⟨x,hx,rfl⟩⟩
theorem merge_left {base a : List T_Setting.ty} (h0 : Sts base) (ha : Sts a) : impl_MergeStates base a base = some (a,0) := by
 rcases merge_ok h0 ha h0 with ⟨_,n,_,h⟩ | ⟨u,e,hu,_,h⟩
 ·rw [strikeP] at h; simp at h
 ·rw [e,lk_ext hu ha fun n hn => ?_]
  rw [h n hn,mV]
  split
  ·rename_i q; exact q.symm
  ·rfl
theorem merge_right {base a : List T_Setting.ty} (h0 : Sts base) (ha : Sts a) : impl_MergeStates base base a = some (a,0) := by
 rcases merge_ok h0 h0 ha with ⟨_,n,_,h⟩ | ⟨u,e,hu,_,h⟩
 ·rw [strikeP] at h; simp at h
 ·rw [e,lk_ext hu ha fun n hn => by rw [h n hn,mV,if_pos rfl]]
theorem merge_both {base a : List T_Setting.ty} (h0 : Sts base) (ha : Sts a) : impl_MergeStates base a a = some (a,0) := by
 rcases merge_ok h0 ha ha with ⟨_,n,_,h⟩ | ⟨u,e,hu,_,h⟩
 ·rw [strikeP] at h; simp at h
 ·rw [e,lk_ext hu ha fun n hn => by rw [h n hn,mV]; split <;> rfl]
theorem strike_comm (base a b : List T_Setting.ty) (n : List UInt8) : strikeP base a b n = strikeP base b a n := by
 unfold strikeP
 rw [show (lk a n == lk b n) = (lk b n == lk a n) from by rw [Bool.eq_iff_iff,beq_iff_eq,beq_iff_eq]; exact eq_comm]
 congr 1
 exact Bool.or_comm _ _
theorem conf_comm {base a b : List T_Setting.ty} (h0 : Sts base) (ha : Sts a) (hb : Sts b) : ∃ cs,impl_conflicts base a b = some cs ∧ impl_conflicts base b a = some cs ∧ ∀ n,n ∈ cs ↔ n ∈ nms ∧ strikeP base a b n = false := by
 obtain ⟨cs,e1,c1,c2⟩ := conf_ok h0 ha hb
 obtain ⟨ds,e2,d1,d2⟩ := conf_ok h0 hb ha
 have : ds = cs := up_ext d1 c1 fun n => by rw [c2,d2,strike_comm]
 exact ⟨cs,e1,by rw [e2,this],c2⟩
theorem confOf_ok {base a b : List T_Setting.ty} (h0 : Sts base) (ha : Sts a) (hb : Sts b) {cs : List (List UInt8)} (e : impl_conflicts base a b = some cs) : impl_ConflictsOf base a b = some (cs,0) := by
 rw [impl_ConflictsOf_eq,(state_ok h0).1,Option.bind_some,if_neg (by decide),(state_ok ha).1,Option.bind_some,if_neg (by decide),(state_ok hb).1,Option.bind_some,if_neg (by decide),impl_ConflictsOf_p0_eq,e,Option.bind_some]
theorem merge_comm {base a b u v : List T_Setting.ty} (hu : Sts u) (hv : Sts v) (hs : ∀ n,n ∈ nms → strikeP base a b n = true) (h1 : ∀ n,n ∈ nms → lk u n = mV base a b n) (h2 : ∀ n,n ∈ nms → lk v n = mV base b a n) : u = v := lk_ext hu hv fun n hn => by
 rw [h1 n hn,h2 n hn]
 have := hs n hn
 rw [strikeP] at this
 simp only [Bool.or_eq_true,beq_iff_eq] at this
 unfold mV
 split <;> split <;> omega
def firstIn (m : List Int) : List Int → Int
 | [] => 0
 | x :: l => if x ∈ m then x else firstIn m l
theorem common_loop (l m : List Int) (hl : l.length ≤ 1000) (hm : m.length ≤ 1000) : ∀ (k i : Nat),i + k = l.length → impl_common_p0 l l.length i m = some (firstIn m (l.drop i))
 | 0,i,hi => by
   have hlt : ¬ (i : Int) < (l.length : Int) := by omega
   rw [impl_common_p0_eq,if_neg (by simp only [hlt,decide_false,Bool.false_eq_true,not_false_eq_true]),List.drop_of_length_le (by omega)]
   rfl
 | k + 1,i,hi => by
   have hi' : i < l.length := by omega
   have hlt : (i : Int) < (l.length : Int) := by omega
   rw [impl_common_p0_eq,List.drop_eq_getElem_cons hi',firstIn]
   simp only [hlt,decide_true,if_true,Int.natCast_nonneg,Int.toNat_natCast,List.getElem?_eq_getElem hi',Option.bind_some,List.take_length,has64_ok m l[i] (by omega),wsucc (show i < 4611686018427387904 by omega),decide_eq_true_eq]
   by_cases c : l[i] ∈ m
   ·rw [if_pos c,if_pos c]
   ·rw [if_neg c,if_neg c]
    exact common_loop l m hl hm k (i + 1) (by omega)
theorem firstIn_ok {m : List Int} : ∀ {l : List Int},l.Pairwise (· > ·) → (∀ x,x ∈ l → 1 ≤ x) → (firstIn m l = 0 ∧ ∀ x,x ∈ l → x ∉ m) ∨ (firstIn m l ∈ l ∧ firstIn m l ∈ m ∧ ∀ x,x ∈ l → x ∈ m → x ≤ firstIn m l)
 | [],_,_ => .inl ⟨rfl,fun x h => (by cases h)⟩
 | x :: l,h,h1 => by
   obtain ⟨h2,h3⟩ := List.pairwise_cons.1 h
   rw [firstIn]
   by_cases c : x ∈ m
   ·rw [if_pos c]
    refine .inr ⟨List.mem_cons_self,c,fun y hy _ => ?_⟩
    rcases List.mem_cons.1 hy with rfl | hy
    ·exact Int.le_refl _
    ·have : x > y := h2 y hy
     omega
   ·rw [if_neg c]
    rcases firstIn_ok (m := m) h3 fun y hy => h1 y (List.mem_cons_of_mem _ hy) with ⟨q1,q2⟩ | ⟨q1,q2,q3⟩
    ·refine .inl ⟨q1,fun y hy => ?_⟩
     rcases List.mem_cons.1 hy with rfl | hy
     ·exact c
     ·exact q2 y hy
    ·refine .inr ⟨List.mem_cons_of_mem _ q1,q2,fun y hy hm => ?_⟩
     rcases List.mem_cons.1 hy with rfl | hy
     ·exact absurd hm c
     ·exact q3 y hy hm
theorem common_ok {h : List T_Version.ty} (H : Hist h) (hl : h.length ≤ 32) {p q : Nat} (p1 : 1 ≤ p) (p2 : p ≤ h.length) (q1 : 1 ≤ q) (q2 : q ≤ h.length) : ∃ s : Int,impl_common h p q = some s ∧ impl_common h q p = some s ∧ 0 ≤ s ∧ s ≤ (p : Int) ∧ s ≤ (q : Int) := by
 obtain ⟨l,el,l1,l2,l3,l4⟩ := anc_ok H hl p1 p2
 obtain ⟨m,em,m1,m2,m3,m4⟩ := anc_ok H hl q1 q2
 obtain ⟨a1,a2⟩ := H.p (p - 1) (by omega)
 obtain ⟨b1,b2⟩ := H.p (q - 1) (by omega)
 have k1 : l.length + 1 < lim := by unfold lim; omega
 have k2 : 1 + l.length < lim := by unfold lim; omega
 have k3 : m.length + 1 < lim := by unfold lim; omega
 have k4 : 1 + m.length < lim := by unfold lim; omega
 have fl : ((p : Int) :: l).Pairwise (· > ·) := List.pairwise_cons.2 ⟨fun x hx => by have := l2 x hx; show (p : Int) > x; omega,l3⟩
 have fm : ((q : Int) :: m).Pairwise (· > ·) := List.pairwise_cons.2 ⟨fun x hx => by have := m2 x hx; show (q : Int) > x; omega,m3⟩
 have gl : ∀ x,x ∈ (p : Int) :: l → 1 ≤ x ∧ x ≤ (p : Int) := fun x hx => by
  rcases List.mem_cons.1 hx with rfl | hx
  ·omega
  ·have := l2 x hx; omega
 have gm : ∀ x,x ∈ (q : Int) :: m → 1 ≤ x ∧ x ≤ (q : Int) := fun x hx => by
  rcases List.mem_cons.1 hx with rfl | hx
  ·omega
  ·have := m2 x hx; omega
 have c1 := common_loop ((p : Int) :: l) (m ++ [(q : Int)]) (by rw [List.length_cons]; omega) (by rw [List.length_append,List.length_singleton]; omega) _ 0 (Nat.zero_add _)
 have c2 := common_loop ((q : Int) :: m) (l ++ [(p : Int)]) (by rw [List.length_cons]; omega) (by rw [List.length_append,List.length_singleton]; omega) _ 0 (Nat.zero_add _)
 rw [List.drop_zero] at c1 c2
 have e1 : impl_common h p q = some (firstIn (m ++ [(q : Int)]) ((p : Int) :: l)) := by
  rw [impl_common_eq,em,Option.bind_some,if_pos (decide_eq_true k3),el,Option.bind_some,if_pos (decide_eq_true k2)]
  exact c1
 have e2 : impl_common h q p = some (firstIn (l ++ [(p : Int)]) ((q : Int) :: m)) := by
  rw [impl_common_eq,el,Option.bind_some,if_pos (decide_eq_true k1),em,Option.bind_some,if_pos (decide_eq_true k4)]
  exact c2
 have tm : ∀ x,x ∈ m ++ [(q : Int)] ↔ x ∈ (q : Int) :: m := fun x => by rw [List.mem_append,List.mem_singleton,List.mem_cons]; exact or_comm
 have tl : ∀ x,x ∈ l ++ [(p : Int)] ↔ x ∈ (p : Int) :: l := fun x => by rw [List.mem_append,List.mem_singleton,List.mem_cons]; exact or_comm
 rw [e1,e2]
 rcases firstIn_ok (m := m ++ [(q : Int)]) fl fun x hx => (gl x hx).1 with ⟨r1,r2⟩ | ⟨r1,r2,r3⟩
 ·rcases firstIn_ok (m := l ++ [(p : Int)]) fm fun x hx => (gm x hx).1 with ⟨s1,s2⟩ | ⟨s1,s2,s3⟩
  ·exact ⟨0,by rw [r1],by rw [s1],by omega,by omega,by omega⟩
  ·exact absurd ((tm _).2 s1) (r2 _ ((tl _).1 s2))
 ·rcases firstIn_ok (m := l ++ [(p : Int)]) fm fun x hx => (gm x hx).1 with ⟨s1,s2⟩ | ⟨s1,s2,s3⟩
  ·exact absurd ((tl _).2 r1) (s2 _ ((tm _).1 r2))
  ·have x1 := r3 _ ((tl _).1 s2) ((tm _).2 s1)
   have x2 := s3 _ ((tm _).1 r2) ((tl _).2 r1)
   have x3 := gl _ r1
   have x4 := gm _ ((tm _).1 r2)
   exact ⟨_,rfl,by rw [Int.le_antisymm x1 x2],by omega,by omega,by omega⟩
theorem parK_ok {a : List Int} (h1 : ∀ x,x ∈ a → 0 ≤ x ∧ x ≤ 255) (k n : Nat) : ∃ p : Nat,laws_r8At a k ((n + 1 : Nat) : Int) = some (p : Int) ∧ p ≤ n := by
 by_cases c : n = 0
 ·subst c
  refine ⟨0,?_,Nat.le_refl _⟩
  rw [laws_r8At_eq,if_pos (by decide)]; rfl
 ·obtain ⟨r,e,r0,r1⟩ := at_ok a h1 k ((n + 1 : Nat) : Int) (by omega)
  exact ⟨r.toNat,by rw [Int.toNat_of_nonneg r0]; exact e,by omega⟩
theorem memo_both : Memo [98,111,116,104] := ⟨by decide,by decide⟩
theorem law_p1 {a1 : List Int} (hb : ∀ x,x ∈ a1 → 0 ≤ x ∧ x ≤ 255) (hl : a1.length ≤ 1048576) : laws_FnMerges_p1 a1 = some true := by
 obtain ⟨h,eh,H,hhl⟩ := r8History_ok hb hl
 rw [laws_FnMerges_p1_eq,eh,Option.bind_some]
 by_cases c : h.length = 0
 ·rw [if_pos (by rw [beq_iff_eq]; omega)]
 ·rw [if_neg (by rw [beq_iff_eq]; omega)]
  obtain ⟨n,hn⟩ : ∃ n,h.length = n + 1 := ⟨h.length - 1,by omega⟩
  obtain ⟨p,ep,p1⟩ := parK_ok hb 0 n
  obtain ⟨q,eq,q1⟩ := parK_ok hb 1 n
  have ep' : laws_r8At a1 0 (h.length : Int) = some (p : Int) := by rw [hn]; exact ep
  have eq' : laws_r8At a1 1 (h.length : Int) = some (q : Int) := by rw [hn]; exact eq
  have wp : IntKind.i64.wrap (1 + (p : Int)) = ((p + 1 : Nat) : Int) := by rw [w64 (by omega) (by omega)]; omega
  have wq : IntKind.i64.wrap (1 + (q : Int)) = ((q + 1 : Nat) : Int) := by rw [w64 (by omega) (by omega)]; omega
  obtain ⟨s,e1,e2,s0,s1,s2⟩ := common_ok H (by omega) (p := p + 1) (q := q + 1) (by omega) (by omega) (by omega) (by omega)
  have vp := isV_ok (h := h) (n := ((p + 1 : Nat) : Int)) (by omega) (by omega) (by omega)
  have vq := isV_ok (h := h) (n := ((q + 1 : Nat) : Int)) (by omega) (by omega) (by omega)
  have c1 : impl_CommonAncestor h ((p + 1 : Nat) : Int) ((q + 1 : Nat) : Int) = some (s,0) := by
   rw [impl_CommonAncestor_eq,(valid_ok H (by omega)).1,Option.bind_some,if_neg (by decide),vp,Option.bind_some,if_neg (by decide),vq,Option.bind_some,if_neg (by decide),impl_CommonAncestor_p0_eq,e1,Option.bind_some]
  have c2 : impl_CommonAncestor h ((q + 1 : Nat) : Int) ((p + 1 : Nat) : Int) = some (s,0) := by
   rw [impl_CommonAncestor_eq,(valid_ok H (by omega)).1,Option.bind_some,if_neg (by decide),vq,Option.bind_some,if_neg (by decide),vp,Option.bind_some,if_neg (by decide),impl_CommonAncestor_p0_eq,e2,Option.bind_some]
  have hs1 := stOf_sts H (p := s) ⟨s0,by omega⟩
  have hs2 := stOf_sts H (p := ((p + 1 : Nat) : Int)) ⟨by omega,by omega⟩
  have hs3 := stOf_sts H (p := ((q + 1 : Nat) : Int)) ⟨by omega,by omega⟩
  have hm : impl_MergeVersions h ((p + 1 : Nat) : Int) ((q + 1 : Nat) : Int) [98,111,116,104] = some ([],6) ∨ ∃ u,Sts u ∧ impl_MergeVersions h ((p + 1 : Nat) : Int) ((q + 1 : Nat) : Int) [98,111,116,104] = some (h ++ [(((h.length + 1 : Nat) : Int),((p + 1 : Nat) : Int),[98,111,116,104],u,())],0) := by
   have hd : impl_MergeVersions h ((p + 1 : Nat) : Int) ((q + 1 : Nat) : Int) [98,111,116,104] = impl_MergeVersions_p1 h ((p + 1 : Nat) : Int) ((q + 1 : Nat) : Int) [98,111,116,104] := by
    rw [impl_MergeVersions_eq,(valid_ok H (by omega)).1,Option.bind_some,if_neg (by decide),(memo_ok memo_both).1,Option.bind_some,if_neg (by decide),impl_MergeVersions_p0_eq,vp,Option.bind_some,if_neg (by decide),vq,Option.bind_some,if_neg (by decide)]
   rw [hd,impl_MergeVersions_p1_eq,e1,Option.bind_some,stateOf_ok (by omega) ⟨s0,by omega⟩,Option.bind_some,stateOf_ok (by omega) ⟨by omega,by omega⟩,Option.bind_some,stateOf_ok (by omega) ⟨by omega,by omega⟩,Option.bind_some]
   rcases merge_ok hs1 hs2 hs3 with ⟨em,_⟩ | ⟨u,em,hu,_⟩
   ·rw [em,Option.bind_some]; exact .inl rfl
   ·rw [em,Option.bind_some]
    refine .inr ⟨u,hu,?_⟩
    show (impl_commit h ((p + 1 : Nat) : Int) [98,111,116,104] (u.take u.length)).bind _ = _
    rw [List.take_length,commit_ok H (by omega) _ _ hu,Option.bind_some]
  rw [ep',Option.bind_some,eq',Option.bind_some,wp,wq,c1,Option.bind_some,c2,Option.bind_some]
  have n1 : ¬ s < 0 := by omega
  have n2 : ¬ s > (if ((q + 1 : Nat) : Int) < ((p + 1 : Nat) : Int) then ((q + 1 : Nat) : Int) else ((p + 1 : Nat) : Int)) := by split <;> omega
  have z0 : ((0 : Int) != 0) = false := rfl
  rcases hm with em | ⟨u,hu,em⟩
  ·rw [em,Option.bind_some]
   simp only [z0,Bool.false_eq_true,if_false,bne_self_eq_false,n1,n2,decide_false]
   rw [laws_FnMerges_p2_eq,if_pos (by decide)]
  ·rw [em,Option.bind_some]
   simp only [z0,Bool.false_eq_true,if_false,bne_self_eq_false,n1,n2,decide_false]
   have H2 := H.snoc (p := ((p + 1 : Nat) : Int)) (m := [98,111,116,104]) (s := u) ⟨by omega,by omega⟩ memo_both hu
   have hv := (valid_ok H2 (by rw [List.length_append,List.length_singleton]; omega)).2
   have hw := wsucc (show h.length < 4611686018427387904 by omega)
   rw [laws_FnMerges_p2_eq,if_neg (by decide),hw,if_pos (by rw [beq_iff_eq,List.length_append,List.length_singleton]),hv,Option.bind_some]
theorem laws_FnMerges_true (a0 a1 : List Int) (h0 : ET.wf (.one (.sl (.one (.int .u8)))) a0) (h1 : ET.wf (.one (.sl (.one (.int .u8)))) a1) : laws_FnMerges a0 a1 = some true := by
 rw [laws_FnMerges_eq,longS',Option.bind_some]
 by_cases c0 : (a0.length : Int) > 1048576
 ·simp [c0]
 by_cases c1 : (a1.length : Int) > 1048576
 ·simp [c1]
 simp only [c0,c1,decide_false,Bool.or_self,Bool.false_eq_true,if_false]
 obtain ⟨s,es,hs⟩ := r8State_ok (bytes_ok h0) (by omega)
 obtain ⟨a,ea,ha⟩ := r8Changed_ok (bytes_ok h1) (by omega) hs
 obtain ⟨b,eb,hb⟩ := r8Changed_ok (bytes_ok h0) (by omega) hs
 have hsl := hs.len
 have hal := ha.len
 have hp1 := law_p1 (bytes_ok h1) (by omega)
 rw [es,Option.bind_some,List.take_length,ea,Option.bind_some,eb,Option.bind_some,List.take_length,merge_left hs ha,Option.bind_some,merge_right hs ha,Option.bind_some,merge_both hs ha,Option.bind_some]
 have z0 : ((0 : Int) != 0) = false := rfl
 simp only [z0,Bool.false_eq_true,if_false,List.take_length,sameS a (by omega),Option.bind_some,Bool.not_true]
 obtain ⟨cs,k1,k2,k3⟩ := conf_comm hs ha hb
 rw [laws_FnMerges_p0_eq,List.take_length,List.take_length,List.take_length,confOf_ok hs ha hb k1,Option.bind_some,confOf_ok hs hb ha k2,Option.bind_some]
 rcases merge_ok hs ha hb with ⟨e1,n,n1,n2⟩ | ⟨u,e1,hu,u1,u2⟩
 ·rcases merge_ok hs hb ha with ⟨e2,_⟩ | ⟨v,e2,hv,v1,v2⟩
  ·have hc : n ∈ cs := (k3 n).2 ⟨n1,n2⟩
   have hpos : (cs.length : Int) > 0 := by
    cases cs with
    | nil => cases hc
    | cons => simp only [List.length_cons]; omega
   rw [e1,Option.bind_some,e2,Option.bind_some]
   simp only [z0,Bool.false_eq_true,if_false,bne_self_eq_false,hpos,decide_true,beq_self_eq_true,Bool.not_true]
   rw [if_neg (by decide)]
   exact hp1
  ·have := v1 n n1
   rw [← strike_comm,n2] at this
   cases this
 ·rcases merge_ok hs hb ha with ⟨e2,n,n1,n2⟩ | ⟨v,e2,hv,v1,v2⟩
  ·have := u1 n n1
   rw [strike_comm,n2] at this
   cases this
  ·have huv : u = v := merge_comm hu hv u1 u2 v2
   subst huv
   have hcs : cs = [] := by
    cases cs with
    | nil => rfl
    | cons n cs =>
      obtain ⟨n1,n2⟩ := (k3 n).1 List.mem_cons_self
      rw [u1 n n1] at n2
      cases n2
   subst hcs
   have hul := hu.len
   have hv2 : spec_ValidState u = some true := by rw [spec_ValidState_eq,(state_ok hu).2,Option.bind_some]
   rw [e1,Option.bind_some,e2,Option.bind_some]
   simp only [z0,Bool.false_eq_true,if_false,bne_self_eq_false,List.take_length,sameS u (by omega),hv2,Option.bind_some,Bool.not_true]
   rw [if_neg (by decide),if_pos (by decide)]
   exact hp1
end Go.Ab.P
