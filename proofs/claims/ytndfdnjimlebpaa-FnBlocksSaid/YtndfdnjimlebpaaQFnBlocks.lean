/- Blocks: adding, dropping, merging. Conditions: bytes are bytes. -/
import Derived.Test.YtndfdnjimlebpaaBFnBlocks
import Derived.Sort.Walk0
set_option linter.unusedVariables false
set_option linter.unusedSectionVars false
set_option linter.unusedSimpArgs false
set_option maxRecDepth 4000
namespace Go.Ab.P
open Go.Ab
def bK (x : T_Block.ty) : List UInt8 := x.1
def bN (x : T_Block.ty) : List UInt8 := x.2.1
def bX (x : T_Block.ty) : List UInt8 := x.2.2.1
theorem b_eta (x : T_Block.ty) : x = (bK x,bN x,bX x,()) := rfl
def kinds : List (List UInt8) := [[114,101,110,116,97,108],[110,111,116,101],[102,97,99,101]]
theorem word_loop : ∀ (k : Nat) (s : T_l00Src.ty) (c : Int) (r : List Int),SrcOk s c → c + 10 * (k : Int) ≤ 1000000000000000 → r.length + k ≤ 100 →
 ∃ (t : List UInt8) (s' : T_l00Src.ty),spec_l00Src_word_p0 k s.1 s.2.1 s.2.2.1 r = some (t,s') ∧ SrcOk s' (c + 10 * (k : Int)) ∧ t.length ≤ 100
 | 0,s,c,r,hs,hc,hl => by
   rw [spec_l00Src_word_p0_eq,if_neg (by simp),List.take_length]
   exact ⟨_,_,rfl,hs.up (by omega),by simp; omega⟩
 | k + 1,s,c,r,hs,hc,hl => by
   obtain ⟨u,s1,e1,k1,b1,b2⟩ := next_ok hs (by omega)
   have hlim : r.length + 1 < lim := by unfold lim; omega
   have hw : IntKind.i64.wrap (((k + 1 : Nat) : Int) - 1) = ((k : Nat) : Int) := by rw [w64 (by omega) (by omega)]; omega
   rw [spec_l00Src_word_p0_eq,if_pos (by simp)]
   simp only [src_eta,e1,Option.bind_some,hlim,decide_true,if_true,List.take_length,hw]
   obtain ⟨t,s',q1,q2,q3⟩ := word_loop k s1 _ (r ++ [IntKind.u8.wrap u]) k1 (by omega) (by simp; omega)
   exact ⟨t,s',q1,q2.up (by omega),q3⟩
theorem word_ok {s : T_l00Src.ty} {c : Int} (hs : SrcOk s c) (hc : c ≤ 100000000000000) : ∃ (t : List UInt8) (s' : T_l00Src.ty),spec_l00Src_word s 9 = some (t,s') ∧ SrcOk s' (c + 200) ∧ t.length ≤ 100 := by
 obtain ⟨u,s1,e1,k1,b1,b2⟩ := pick_ok hs (by omega) 9 (by omega)
 obtain ⟨t,s',q1,q2,q3⟩ := word_loop u.toNat s1 _ [] k1 (by omega) (by simp; omega)
 rw [Int.toNat_of_nonneg b1] at q1
 rw [spec_l00Src_word_eq]
 simp only [e1,Option.bind_some]
 exact ⟨t,s',q1,q2.up (by omega),q3⟩
theorem list_step {v : List Int} {i : Nat} {n : Int} (hv : v[i]? = some n) (hn : 0 ≤ n ∧ n ≤ 1000000000) (hl : v.length ≤ 3) {t : List UInt8} (ht : t.length ≤ 100 * i) (hi : i < v.length) :
 ∃ t',t'.length ≤ 100 * (i + 1) ∧ spec_l01List_p0 v t i = spec_l01List_p0 v t' ((i + 1 : Nat) : Int) := by
 obtain ⟨d,hd,hdl⟩ := spec_l01Dec_tot n hn
 have hlt : (i : Int) < (v.length : Int) := by omega
 have p1 : ∀ u : List UInt8,u.length ≤ 100 * i + 1 → ∃ t',t'.length ≤ 100 * (i + 1) ∧ spec_l01List_p1 v u i = spec_l01List_p0 v t' ((i + 1 : Nat) : Int) := fun u hu => by
  refine ⟨u ++ d,by simp; omega,?_⟩
  have hst : u.length + d.length ≤ strMax := by unfold strMax; omega
  rw [spec_l01List_p1_eq]
  simp only [Int.natCast_nonneg,decide_true,if_true,Int.toNat_natCast,hv,Option.bind_some,hd,hst,wsucc (show i < 4611686018427387904 by omega)]
 rw [spec_l01List_p0_eq,if_pos (decide_eq_true hlt)]
 by_cases h0 : (i : Int) > 0
 ·have hst : t.length + ([44] : List UInt8).length ≤ strMax := by simp [strMax]; omega
  rw [if_pos (decide_eq_true h0)]
  split
  ·exact p1 _ (by simp; omega)
  ·rename_i hne; exact absurd (decide_eq_true hst) hne
 ·rw [if_neg (by simpa using h0)]
  exact p1 t (by omega)
theorem list3_ok {a b c : Int} (ha : 0 ≤ a ∧ a ≤ 1000000000) (hb : 0 ≤ b ∧ b ≤ 1000000000) (hc : 0 ≤ c ∧ c ≤ 1000000000) : ∃ t,spec_l01List [a,b,c] = some t ∧ t.length ≤ 300 := by
 obtain ⟨t1,l1,e1⟩ := list_step (v := [a,b,c]) (i := 0) rfl ha (by simp) (t := []) (by simp) (by simp)
 obtain ⟨t2,l2,e2⟩ := list_step (v := [a,b,c]) (i := 1) rfl hb (by simp) (t := t1) (by omega) (by simp)
 obtain ⟨t3,l3,e3⟩ := list_step (v := [a,b,c]) (i := 2) rfl hc (by simp) (t := t2) (by omega) (by simp)
 refine ⟨t3,?_,by omega⟩
 rw [spec_l01List_eq,if_neg (by simp)]
 refine e1.trans (e2.trans (e3.trans ?_))
 rw [spec_l01List_p0_eq,if_neg (by simp)]
theorem rental_ok {s : T_l00Src.ty} {c : Int} (hs : SrcOk s c) (hc : c ≤ 10000000000000000) (id : List UInt8) (hid : id.length ≤ 100) :
 ∃ (x : T_Paper.ty) (s' : T_l00Src.ty) (t : List UInt8),spec_l21DrawOne s id = some (x,s') ∧ SrcOk s' (c + 8) ∧ spec_l21Text (x.1,x.2.1,x.2.2.1,x.2.2.2.1,x.2.2.2.2.1,()) = some t ∧ t.length ≤ 10000 := by
 obtain ⟨t,s1,q1,k1,m1⟩ := text_ok hs (by omega) [[118,105,111,108,97],[118,105,111,108,105,110],[118,105,111,108,105,110,50]] (by decide) (by decide)
 obtain ⟨u,s2,q2,k2,a0,a1⟩ := pick_ok k1 (by omega) 90 (by omega)
 obtain ⟨v,s3,q3,k3,b0,b1⟩ := pick_ok k2 (by omega) 12 (by omega)
 obtain ⟨w,s4,q4,k4,c0,c1⟩ := pick_ok k3 (by omega) 50 (by omega)
 have ht : t.length ≤ 10 := (by decide : ∀ t,t ∈ ([[118,105,111,108,97],[118,105,111,108,105,110],[118,105,111,108,105,110,50]] : List (List UInt8)) → t.length ≤ 10) t m1
 have w1 : IntKind.i64.wrap (10 * u) = 10 * u := w64 (by omega) (by omega)
 have w2 : IntKind.i64.wrap (1 + v) = 1 + v := w64 (by omega) (by omega)
 have w3 : IntKind.i64.wrap (100 * w) = 100 * w := w64 (by omega) (by omega)
 obtain ⟨l,el,hl⟩ := list3_ok (a := 10 * u) (b := 1 + v) (c := 100 * w) (by omega) (by omega) (by omega)
 refine ⟨(id,t,10 * u,1 + v,100 * w,()),s4,id ++ [32] ++ t ++ [32] ++ l,?_,k4.up (by omega),?_,by simp; omega⟩
 ·rw [spec_l21DrawOne_eq]
  simp only [q1,q2,q3,q4,Option.bind_some,src_eta,w1,w2,w3]
 ·have h1 : id.length + ([32] : List UInt8).length ≤ strMax := by simp [strMax]; omega
  have h2 : (id ++ [32]).length + t.length ≤ strMax := by simp [strMax]; omega
  have h3 : ((id ++ [32]) ++ t).length + ([32] : List UInt8).length ≤ strMax := by simp [strMax]; omega
  have h4 : (((id ++ [32]) ++ t) ++ [32]).length + l.length ≤ strMax := by simp [strMax]; omega
  rw [spec_l21Text_eq]
  simp only [h1,h2,h3,h4,decide_true,if_true,el,Option.bind_some]
  split
  ·split
   ·rfl
   ·rename_i hne; exact absurd (decide_eq_true h3) hne
  ·rename_i hne; exact absurd (decide_eq_true h1) hne
structure Drawn (x : T_Block.ty) : Prop where
 k : bK x ∈ kinds
 n : (bN x).length ≤ 10
 x : (bX x).length ≤ 20000
theorem drawn_p2 {s : T_l00Src.ty} {c : Int} (hs : SrcOk s c) (hc : c ≤ 100000000000000) {k n x : List UInt8} (hk : k ∈ kinds) (hn : n.length ≤ 10) (hx : x.length ≤ 20000) (r0 r1 r2 : List UInt8) :
 ∃ (b : T_Block.ty) (s' : T_l00Src.ty),spec_l29DrawOne_p2 s.1 s.2.1 s.2.2.1 r0 r1 r2 k n x = some (b,s') ∧ SrcOk s' (c + 4) ∧ Drawn b := by
 obtain ⟨o,s1,e1,k1⟩ := one_ok hs (by omega) 24 (by omega)
 obtain ⟨u,s2,e2,k2,b0,b1⟩ := pick_ok k1 (by omega) 3 (by omega)
 have w1 : IntKind.i64.wrap (399 + u) = 399 + u := w64 (by omega) (by omega)
 have h1 : 0 ≤ 399 + u := by omega
 have h2 : (399 + u).toNat < lim := by unfold lim; omega
 rw [spec_l29DrawOne_p2_eq]
 simp only [src_eta,e1,e2,Option.bind_some,w1,h1,h2,Int.le_refl,decide_true,Bool.and_self,if_true]
 cases o
 ·exact ⟨_,_,rfl,k1.up (by omega),hk,hn,hx⟩
 ·exact ⟨_,_,rfl,k2.up (by omega),hk,hn,by show (List.map vu8 (List.replicate (399 + u).toNat (0 : Int))).length ≤ 20000; simp; omega⟩
theorem drawn_ok {s : T_l00Src.ty} {c : Int} (hs : SrcOk s c) (hc : c ≤ 10000000000000) : ∃ (b : T_Block.ty) (s' : T_l00Src.ty),spec_l29DrawOne s = some (b,s') ∧ SrcOk s' (c + 400) ∧ Drawn b := by
 obtain ⟨k,s1,q1,k1,m1⟩ := text_ok hs (by omega) kinds (by decide) (by decide)
 obtain ⟨n,s2,q2,k2,m2⟩ := text_ok k1 (by omega) [[97],[98],[99],[100]] (by decide) (by decide)
 obtain ⟨x,s3,q3,k3,m3⟩ := text_ok k2 (by omega) [[],[120],[97,32,98,32,99],[49,50,32,51,52],[111,97,107,47,52,48]] (by decide) (by decide)
 obtain ⟨o,s4,q4,k4⟩ := one_ok k3 (by omega) 4 (by omega)
 obtain ⟨w,s5,q5,k5,hw⟩ := word_ok k4 (by omega)
 have hn : n.length ≤ 10 := (by decide : ∀ t,t ∈ ([[97],[98],[99],[100]] : List (List UInt8)) → t.length ≤ 10) n m2
 have hx : x.length ≤ 10 := (by decide : ∀ t,t ∈ ([[],[120],[97,32,98,32,99],[49,50,32,51,52],[111,97,107,47,52,48]] : List (List UInt8)) → t.length ≤ 10) x m3
 have p0 : ∀ (s : T_l00Src.ty) (c' : Int) (x : List UInt8),SrcOk s c' → c' ≤ c + 300 → x.length ≤ 200 → ∃ (b : T_Block.ty) (s' : T_l00Src.ty),spec_l29DrawOne_p0 s.1 s.2.1 s.2.2.1 [] [] [] k n x = some (b,s') ∧ SrcOk s' (c + 400) ∧ Drawn b := fun s c' x hs hc' hx => by
  obtain ⟨o,t1,f1,g1⟩ := one_ok hs (by omega) 2 (by omega)
  obtain ⟨r,t2,tx,f2,g2,f3,hl⟩ := rental_ok g1 (by omega) n (by omega)
  obtain ⟨b1,u1,e1,a1,d1⟩ := drawn_p2 g2 (by omega) m1 hn (show tx.length ≤ 20000 by omega) [] [] []
  obtain ⟨b2,u2,e2,a2,d2⟩ := drawn_p2 g1 (by omega) m1 hn (show x.length ≤ 20000 by omega) [] [] []
  obtain ⟨b3,u3,e3,a3,d3⟩ := drawn_p2 hs (by omega) m1 hn (show x.length ≤ 20000 by omega) [] [] []
  rw [spec_l29DrawOne_p0_eq]
  split
  ·simp only [src_eta,f1,Option.bind_some]
   cases o
   ·exact ⟨b2,u2,e2,a2.up (by omega),d2⟩
   ·refine ⟨b1,u1,?_,a1.up (by omega),d1⟩
    simp only [if_true]
    rw [spec_l29DrawOne_p1_eq]
    simp only [src_eta,f2,f3,Option.bind_some]
    exact e1
  ·exact ⟨b3,u3,e3,a3.up (by omega),d3⟩
 rw [kinds] at q1
 have hst : x.length + w.length ≤ strMax := by unfold strMax; omega
 rw [spec_l29DrawOne_eq]
 simp only [q1,q2,q3,q4,q5,Option.bind_some,src_eta,hst,decide_true,if_true]
 cases o
 ·exact p0 s4 _ x k4 (by omega) (by omega)
 ·exact p0 s5 _ (x ++ w) k5 (by omega) (by simp; omega)
theorem cmp_ok : ∀ (x y : List UInt8),(Lib.compareBytes x y < 0 ↔ x < y) ∧ (Lib.compareBytes x y = 0 ↔ x = y)
 | [],[] => by simp [Lib.compareBytes]
 | [],_ :: _ => by simp [Lib.compareBytes]
 | _ :: _,[] => by simp [Lib.compareBytes]
 | a :: x,b :: y => by
   have IH := cmp_ok x y
   rw [Lib.compareBytes,List.cons_lt_cons_iff,List.cons.injEq]
   by_cases c1 : a < b
   ·have hne : a ≠ b := fun e => by subst e; exact absurd c1 (UInt8.lt_irrefl a)
    simp [c1,hne]
   ·by_cases c2 : b < a
    ·have hne : a ≠ b := fun e => by subst e; exact absurd c2 (UInt8.lt_irrefl a)
     simp [c1,c2,hne]
    ·have he : a = b := UInt8.le_antisymm (UInt8.not_lt.1 c2) (UInt8.not_lt.1 c1)
     simp [c1,c2,he,IH.1,IH.2]
def bl (a b : T_Block.ty) : Prop := bK a < bK b ∨ bK a = bK b ∧ bN a < bN b
def sk (a b : T_Block.ty) : Prop := bK a = bK b ∧ bN a = bN b
instance (a b : T_Block.ty) : Decidable (bl a b) := by unfold bl; infer_instance
instance (a b : T_Block.ty) : Decidable (sk a b) := by unfold sk; infer_instance
theorem bl_irrefl {a b : T_Block.ty} (h : bl a b) : ¬ sk a b := fun e => by
 rcases h with h | ⟨_,h⟩
 ·rw [e.1] at h; exact List.lt_irrefl _ h
 ·rw [e.2] at h; exact List.lt_irrefl _ h
theorem bl_trans {a b c : T_Block.ty} (h : bl a b) (h2 : bl b c) : bl a c := by
 rcases h with h | ⟨e,h⟩ <;> rcases h2 with h2 | ⟨e2,h2⟩
 ·exact .inl (List.lt_trans h h2)
 ·exact .inl (e2 ▸ h)
 ·exact .inl (e ▸ h2)
 ·exact .inr ⟨e.trans e2,List.lt_trans h h2⟩
theorem bl_asymm {a b : T_Block.ty} (h : bl a b) : ¬ bl b a := fun h2 => bl_irrefl (bl_trans h h2) ⟨rfl,rfl⟩
theorem bl_total {a b : T_Block.ty} (h : ¬ bl a b) (h2 : ¬ sk a b) : bl b a := by
 have tri : ∀ x y : List UInt8,¬ x < y → ¬ x = y → y < x := fun x y h1 h2 => by
  rcases List.le_iff_lt_or_eq.1 (List.not_lt.1 h1) with h | h
  ·exact h
  ·exact absurd h.symm h2
 by_cases e : bK a = bK b
 ·exact .inr ⟨e.symm,tri _ _ (fun h3 => h (.inr ⟨e,h3⟩)) fun h3 => h2 ⟨e,h3⟩⟩
 ·exact .inl (tri _ _ (fun h3 => h (.inl h3)) e)
theorem bl_left {a a' b : T_Block.ty} (h : sk a a') : bl a b ↔ bl a' b := by unfold bl; rw [h.1,h.2]
theorem bl_right {a b b' : T_Block.ty} (h : sk b b') : bl a b ↔ bl a b' := by unfold bl; rw [h.1,h.2]
theorem compare_ok (a b : T_Block.ty) : ∃ c : Int,impl_Block_compare a b = some c ∧ (c < 0 ↔ bl a b) ∧ (c = 0 ↔ sk a b) := by
 rw [impl_Block_compare_eq,strings_Compare_eq,strings_Compare_eq]
 simp only [Option.bind_some]
 have h1 := cmp_ok a.1 b.1
 have h2 := cmp_ok a.2.1 b.2.1
 by_cases c : Lib.compareBytes a.1 b.1 = 0
 ·have e : a.1 = b.1 := h1.2.1 c
  have hn : ¬ a.1 < b.1 := fun h => by have := h1.1.2 h; omega
  rw [if_neg (by simpa using c)]
  refine ⟨_,rfl,h2.1.trans ⟨fun h => .inr ⟨e,h⟩,fun h => ?_⟩,h2.2.trans ⟨fun h => ⟨e,h⟩,fun h => h.2⟩⟩
  rcases h with h | h
  ·exact absurd h hn
  ·exact h.2
 ·have hne : ¬ a.1 = b.1 := fun e => c (h1.2.2 e)
  rw [if_pos (by simpa using c)]
  refine ⟨_,rfl,h1.1.trans ⟨fun h => .inl h,fun h => ?_⟩,⟨fun h => absurd h c,fun h => absurd h.1 hne⟩⟩
  rcases h with h | h
  ·exact h
  ·exact absurd h.1 hne
theorem before_ok (a b : T_Block.ty) : spec_l29Before a b = some (decide (bl a b)) := by
 rw [spec_l29Before_eq,Proofs.bytesLess_eq,Proofs.bytesLess_eq]
 by_cases c : a.1 < b.1
 ·have : bl a b := .inl c
  simp [c,this]
 ·by_cases e : (a.1 == b.1) = true
  ·have e' := eq_of_beq e
   have : decide (bl a b) = decide (a.2.1 < b.2.1) := by
    rw [Bool.eq_iff_iff,decide_eq_true_eq,decide_eq_true_eq]
    exact ⟨fun h => h.elim (fun h => absurd h c) fun h => h.2,fun h => .inr ⟨e',h⟩⟩
   rw [this]; simp only [c,e,decide_false,Bool.false_eq_true,if_false,if_true]
  ·have : decide (bl a b) = false := decide_eq_false fun h => h.elim (fun h => c h) fun h => e (beq_iff_eq.2 h.1)
   rw [this]; simp only [c,e,decide_false,Bool.false_eq_true,if_false]
def blockOk (x : T_Block.ty) : Bool := isName (bK x) && (isName (bN x) && (decide ((bX x).length ≤ 400) && !(bX x).contains 10))
structure Blocks (xs : List T_Block.ty) : Prop where
 ok : ∀ x,x ∈ xs → blockOk x = true
 up : xs.Pairwise bl
theorem split10 : ∀ {s : List UInt8},(10 : UInt8) ∈ s → ∃ a b,s = a ++ 10 :: b ∧ (10 : UInt8) ∉ a
 | [],h => by cases h
 | x :: s,h => by
   by_cases e : x = 10
   ·subst e; exact ⟨[],s,rfl,by simp⟩
   ·obtain ⟨a,b,e1,e2⟩ := split10 (s := s) (by rcases List.mem_cons.1 h with h | h
                                               ·exact absurd h.symm e
                                               ·exact h)
    refine ⟨x :: a,b,by rw [e1]; rfl,fun h => ?_⟩
    rcases List.mem_cons.1 h with h | h
    ·exact e h.symm
    ·exact e2 h
theorem contains10 (s : List UInt8) : Lib.contains s [10] = s.contains 10 := by
 unfold Lib.contains
 by_cases h : (10 : UInt8) ∈ s
 ·obtain ⟨a,b,rfl,hn⟩ := split10 h
  rw [index1_at b hn]
  simp
 ·rw [index1_none h]
  simp [h]
theorem nameLen {s : List UInt8} (h : isName s = true) : s.length ≤ 10 := by
 cases s with
 | nil => simp
 | cons c r => simp only [isName,Bool.and_eq_true,decide_eq_true_eq] at h; exact h.2
theorem validBlock_ok {x : T_Block.ty} (h : blockOk x = true) : impl_ValidBlock x = some true := by
 simp only [blockOk,Bool.and_eq_true,decide_eq_true_eq,Bool.not_eq_true'] at h
 obtain ⟨h1,h2,h3,h4⟩ := h
 simp only [bK,bN,bX] at h1 h2 h3 h4
 have l3 : (x.2.2.1.length : Int) ≤ 400 := by omega
 rw [impl_ValidBlock_eq,impl_IsName_ok _ (by have := nameLen h1; omega),impl_IsName_ok _ (by have := nameLen h2; omega),h1,h2,impl_few_eq,strings_Contains_eq]
 simp only [Option.bind_some,if_true,l3,decide_true]
 rw [if_pos (decide_eq_true (by omega)),contains10,h4]
 rfl
theorem one_loop (k n x : List UInt8) (hx : x.length ≤ 1048576) : ∀ (m i : Nat),i + m = x.length → spec_l29One_p0 k n x i = if (x.drop i).contains 10 then some false else spec_l29One_p0 k n x x.length
 | 0,i,hm => by
   have : i = x.length := by omega
   subst this
   rw [List.drop_length]; rfl
 | m + 1,i,hm => by
   have hi : i < x.length := by omega
   have hlt : (i : Int) < (x.length : Int) := by omega
   have IH := one_loop k n x hx m (i + 1) (by omega)
   have hd : x.drop i = x[i] :: x.drop (i + 1) := List.drop_eq_getElem_cons hi
   rw [spec_l29One_p0_eq k n x i]
   simp only [hlt,decide_true,if_true,Int.natCast_nonneg,Int.toNat_natCast,List.getElem?_eq_getElem hi,Option.bind_some,wsucc (show i < 4611686018427387904 by omega),IH,hd]
   by_cases c : x[i] = 10
   ·have e1 : ((x[i].toNat : Int) == 10) = true := by rw [c]; rfl
    rw [if_pos e1,if_pos (by simp [c])]
   ·have e1 : ¬ ((x[i].toNat : Int) == 10) = true := by
     intro e
     have : x[i].toNat = 10 := by have := eq_of_beq e; omega
     exact c (UInt8.toNat_inj.1 this)
    have e2 : (x[i] :: x.drop (i + 1)).contains 10 = (x.drop (i + 1)).contains 10 := by
     rw [List.contains_cons]
     have : (10 == x[i]) = false := by rw [beq_eq_false_iff_ne]; exact fun e => c e.symm
     rw [this,Bool.false_or]
    rw [if_neg e1,e2]
theorem l29One_ok {x : T_Block.ty} (h1 : (bK x).length ≤ 1048576) (h2 : (bN x).length ≤ 1048576) (h3 : (bX x).length ≤ 1048576) : spec_l29One x = some (blockOk x) := by
 simp only [bK,bN,bX] at h1 h2 h3
 have e : blockOk x = (isName x.1 && (isName x.2.1 && (decide (x.2.2.1.length ≤ 400) && !x.2.2.1.contains 10))) := rfl
 have e4 : decide ((x.2.2.1.length : Int) ≤ 400) = decide (x.2.2.1.length ≤ 400) := by
  rw [Bool.eq_iff_iff,decide_eq_true_eq,decide_eq_true_eq]; omega
 have last : spec_l29One_p0 x.1 x.2.1 x.2.2.1 (x.2.2.1.length : Int) = some (isName x.1 && (isName x.2.1 && decide (x.2.2.1.length ≤ 400))) := by
  rw [spec_l29One_p0_eq,if_neg (by simp),spec_l01Name_ok _ (by omega),spec_l01Name_ok _ (by omega)]
  simp only [Option.bind_some,e4]
  generalize isName x.1 = c2
  generalize isName x.2.1 = c3
  cases c2 <;> cases c3 <;> rfl
 rw [spec_l29One_eq]
 refine (one_loop x.1 x.2.1 x.2.2.1 h3 x.2.2.1.length 0 (by omega)).trans ?_
 rw [List.drop_zero,last,e]
 generalize isName x.1 = c2
 generalize isName x.2.1 = c3
 generalize decide (x.2.2.1.length ≤ 400) = c4
 generalize x.2.2.1.contains 10 = c1
 cases c1 <;> cases c2 <;> cases c3 <;> cases c4 <;> rfl
def kAt (xs : List T_Block.ty) (i : Nat) : T_Block.ty := (xs[i]?).getD ([],[],[],())
theorem kAt_get {xs : List T_Block.ty} {i : Nat} (h : i < xs.length) : xs[i]? = some (kAt xs i) := by simp [kAt,List.getElem?_eq_getElem h]
theorem kAt_el {xs : List T_Block.ty} {i : Nat} (h : i < xs.length) : xs[i] = kAt xs i := by simp [kAt,List.getElem?_eq_getElem h]
theorem kAt_mem {xs : List T_Block.ty} {i : Nat} (h : i < xs.length) : kAt xs i ∈ xs := List.mem_of_getElem? (kAt_get h)
theorem Blocks.lt {xs : List T_Block.ty} (h : Blocks xs) {i j : Nat} (hij : i < j) (hj : j < xs.length) : bl (kAt xs i) (kAt xs j) := by
 have := List.pairwise_iff_getElem.1 h.up i j (by omega) hj hij
 rwa [kAt_el (by omega),kAt_el hj] at this
theorem valid_loop {xs : List T_Block.ty} (h : Blocks xs) (h32 : xs.length ≤ 32) : ∀ (n i : Nat),i + n = xs.length → impl_ValidBlocks_p0 xs xs xs.length i = some true ∧ spec_l29Ok_p0 xs i = some true
 | 0,i,hn => by
   have : i = xs.length := by omega
   subst this
   have hl : (xs.length : Int) ≤ 32 := by omega
   rw [impl_ValidBlocks_p0_eq,if_neg (by simp),impl_few_eq,spec_l29Ok_p0_eq,if_neg (by simp)]
   simp [hl]
 | n + 1,i,hn => by
   have hi : i < xs.length := by omega
   have hlt : (i : Int) < (xs.length : Int) := by omega
   obtain ⟨IH1,IH2⟩ := valid_loop h h32 n (i + 1) (by omega)
   have hok := h.ok _ (kAt_mem hi)
   have hv := validBlock_ok hok
   have hb := hok
   simp only [blockOk,Bool.and_eq_true,decide_eq_true_eq] at hb
   have h29 : spec_l29One (kAt xs i) = some true := by
    rw [l29One_ok (by have := nameLen hb.1; omega) (by have := nameLen hb.2.1; omega) (by have := hb.2.2.1; omega),hok]
   rw [impl_ValidBlocks_p0_eq xs xs xs.length i,spec_l29Ok_p0_eq xs i]
   simp only [hlt,decide_true,if_true,Int.natCast_nonneg,Int.toNat_natCast,kAt_get hi,Option.bind_some,hv,h29,Bool.not_true,Bool.false_eq_true,if_false,wsucc (show i < 4611686018427387904 by omega),IH1,IH2]
   by_cases h0 : (i : Int) > 0
   ·have hw : IntKind.i64.wrap ((i : Int) - 1) = ((i - 1 : Nat) : Int) := by rw [w64 (by omega) (by omega)]; omega
    have hlt2 := h.lt (show i - 1 < i by omega) hi
    obtain ⟨c,ec,hc,_⟩ := compare_ok (kAt xs (i - 1)) (kAt xs i)
    have hneg : ¬ c ≥ 0 := by have := hc.2 hlt2; omega
    simp only [h0,decide_true,if_true,hw,Int.natCast_nonneg,Int.toNat_natCast,kAt_get (show i - 1 < xs.length by omega),Option.bind_some,ec,hneg,decide_false,Bool.false_eq_true,if_false,before_ok,hlt2,Bool.not_true,and_self]
   ·simp only [h0,decide_false,Bool.false_eq_true,if_false,and_self]
theorem Blocks.valid {xs : List T_Block.ty} (h : Blocks xs) (h32 : xs.length ≤ 32) : impl_ValidBlocks xs = some true ∧ spec_l29Ok xs = some true := by
 rw [impl_ValidBlocks_eq,spec_l29Ok_eq]
 exact valid_loop h h32 xs.length 0 (by omega)
def putR : List T_Block.ty → T_Block.ty → List T_Block.ty
 | [],b => [b]
 | x :: xs,b => if bl x b then x :: putR xs b else if sk x b then b :: xs else b :: x :: xs
theorem kAt_zero (x : T_Block.ty) (xs : List T_Block.ty) : kAt (x :: xs) 0 = x := rfl
theorem kAt_succ (x : T_Block.ty) (xs : List T_Block.ty) (i : Nat) : kAt (x :: xs) (i + 1) = kAt xs i := by simp [kAt]
theorem putR_at (b : T_Block.ty) : ∀ (xs : List T_Block.ty) (p : Nat),p ≤ xs.length → (∀ j,j < p → bl (kAt xs j) b) → (∀ j,p ≤ j → j < xs.length → ¬ bl (kAt xs j) b) →
 putR xs b = xs.take p ++ [b] ++ xs.drop (if p < xs.length ∧ sk (kAt xs p) b then p + 1 else p)
 | [],p,hp,_,_ => by
   have : p = 0 := by simpa using hp
   subst this; simp [putR]
 | x :: xs,0,hp,h1,h2 => by
   have := h2 0 (Nat.le_refl _) (by simp)
   rw [kAt_zero] at this
   rw [putR,if_neg this,kAt_zero]
   by_cases c : sk x b
   ·rw [if_pos c,if_pos ⟨by simp,c⟩]; simp
   ·rw [if_neg c,if_neg (fun e => c e.2)]; simp
 | x :: xs,p + 1,hp,h1,h2 => by
   have hx := h1 0 (by omega)
   rw [kAt_zero] at hx
   have IH := putR_at b xs p (by simpa using hp) (fun j hj => by have := h1 (j + 1) (by omega); rwa [kAt_succ] at this) (fun j hj hj2 => by have := h2 (j + 1) (by omega) (by simpa using hj2); rwa [kAt_succ] at this)
   rw [putR,if_pos hx,IH,kAt_succ]
   by_cases c : p < xs.length ∧ sk (kAt xs p) b
   ·rw [if_pos c,if_pos ⟨by simpa using c.1,c.2⟩]; simp
   ·rw [if_neg c,if_neg (fun e => c ⟨by simpa using e.1,e.2⟩)]; simp
theorem putR_sub {b y : T_Block.ty} : ∀ {xs : List T_Block.ty},y ∈ putR xs b → y = b ∨ y ∈ xs
 | [],h => .inl (by simpa [putR] using h)
 | x :: xs,h => by
   rw [putR] at h
   split at h
   ·rcases List.mem_cons.1 h with h | h
    ·exact .inr (by rw [h]; simp)
    ·exact (putR_sub h).imp id fun h => List.mem_cons_of_mem _ h
   ·split at h
    ·rcases List.mem_cons.1 h with h | h
     ·exact .inl h
     ·exact .inr (List.mem_cons_of_mem _ h)
    ·rcases List.mem_cons.1 h with h | h
     ·exact .inl h
     ·exact .inr h
theorem putR_self (b : T_Block.ty) : ∀ (xs : List T_Block.ty),b ∈ putR xs b
 | [] => by simp [putR]
 | x :: xs => by
   rw [putR]
   split
   ·exact List.mem_cons_of_mem _ (putR_self b xs)
   ·split <;> simp
theorem putR_keep {b y : T_Block.ty} (hne : ¬ sk y b) : ∀ {xs : List T_Block.ty},y ∈ xs → y ∈ putR xs b
 | [],h => by cases h
 | x :: xs,h => by
   rw [putR]
   rcases List.mem_cons.1 h with h | h
   ·subst h
    split
    ·simp
    ·simp
   ·split
    ·exact List.mem_cons_of_mem _ (putR_keep hne h)
    ·split
     ·exact List.mem_cons_of_mem _ h
     ·exact List.mem_cons_of_mem _ (List.mem_cons_of_mem _ h)
theorem putR_len (b : T_Block.ty) : ∀ (xs : List T_Block.ty),(putR xs b).length ≤ xs.length + 1
 | [] => by simp [putR]
 | x :: xs => by
   have := putR_len b xs
   rw [putR]
   split
   ·simp only [List.length_cons]; omega
   ·split <;> simp
theorem putR_up {b : T_Block.ty} : ∀ {xs : List T_Block.ty},xs.Pairwise bl → (putR xs b).Pairwise bl
 | [],_ => by simp [putR]
 | x :: xs,h => by
   obtain ⟨h1,h2⟩ := List.pairwise_cons.1 h
   rw [putR]
   split
   ·rename_i c
    refine List.pairwise_cons.2 ⟨fun y hy => ?_,putR_up h2⟩
    rcases putR_sub hy with e | e
    ·rw [e]; exact c
    ·exact h1 y e
   ·rename_i c
    split
    ·rename_i c2
     exact List.pairwise_cons.2 ⟨fun y hy => (bl_left c2).1 (h1 y hy),h2⟩
    ·rename_i c2
     have hb := bl_total c c2
     refine List.pairwise_cons.2 ⟨fun y hy => ?_,h⟩
     rcases List.mem_cons.1 hy with e | e
     ·rw [e]; exact hb
     ·exact bl_trans hb (h1 y e)
theorem Blocks.put {xs : List T_Block.ty} (h : Blocks xs) {b : T_Block.ty} (hb : blockOk b = true) : Blocks (putR xs b) :=
 ⟨fun x hx => (putR_sub hx).elim (fun e => by rw [e]; exact hb) (h.ok x),putR_up h.up⟩
theorem put_p1 {xs : List T_Block.ty} {b : T_Block.ty} {i : Nat} (hi : i < xs.length) (h32 : xs.length ≤ 40) {r : List T_Block.ty} (hr : r.length ≤ 100) (f : Bool) :
 spec_l29Put_p1 xs f i (bK b) (bN b) (bX b) r = if sk (kAt xs i) b then spec_l29Put_p0 xs f ((i + 1 : Nat) : Int) (bK b) (bN b) (bX b) r else spec_l29Put_p0 xs f ((i + 1 : Nat) : Int) (bK b) (bN b) (bX b) (r ++ [kAt xs i]) := by
 have hw := wsucc (show i < 4611686018427387904 by omega)
 have hlim : r.length + 1 < lim := by unfold lim; omega
 have p2 : spec_l29Put_p2 xs f i (bK b) (bN b) (bX b) r = spec_l29Put_p0 xs f ((i + 1 : Nat) : Int) (bK b) (bN b) (bX b) (r ++ [kAt xs i]) := by
  rw [spec_l29Put_p2_eq]
  simp only [Int.natCast_nonneg,decide_true,if_true,Int.toNat_natCast,kAt_get hi,Option.bind_some,hlim,hw,List.take_length]
 rw [spec_l29Put_p1_eq]
 simp only [Int.natCast_nonneg,decide_true,if_true,Int.toNat_natCast,kAt_get hi,Option.bind_some,hw,p2]
 by_cases c1 : ((kAt xs i).1 == bK b) = true
 ·by_cases c2 : ((kAt xs i).2.1 == bN b) = true
  ·rw [if_pos (show sk (kAt xs i) b from ⟨eq_of_beq c1,eq_of_beq c2⟩),c1,c2]; rfl
  ·rw [if_neg (show ¬ sk (kAt xs i) b from fun e => c2 (beq_iff_eq.2 e.2)),c1]
   simp [c2]
 ·rw [if_neg (show ¬ sk (kAt xs i) b from fun e => c1 (beq_iff_eq.2 e.1))]
  simp [c1]
theorem put_placed {xs : List T_Block.ty} {b : T_Block.ty} (h32 : xs.length ≤ 32) : ∀ (n i : Nat) (r : List T_Block.ty),i + n = xs.length → r.length ≤ i + 1 → (∀ y,y ∈ xs.drop i → bl b y) → spec_l29Put_p0 xs true i (bK b) (bN b) (bX b) r = some (r ++ xs.drop i)
 | 0,i,r,hn,hr,hb => by
   have : i = xs.length := by omega
   subst this
   rw [spec_l29Put_p0_eq,if_neg (by simp),List.drop_length,List.append_nil]
   simp only [Bool.not_true,Bool.false_eq_true,if_false,List.take_length]
 | n + 1,i,r,hn,hr,hb => by
   have hi : i < xs.length := by omega
   have hlt : (i : Int) < (xs.length : Int) := by omega
   have hd : xs.drop i = kAt xs i :: xs.drop (i + 1) := by rw [List.drop_eq_getElem_cons hi,kAt_el hi]
   have hbi := hb (kAt xs i) (by rw [hd]; simp)
   rw [spec_l29Put_p0_eq]
   simp only [hlt,decide_true,if_true,Bool.not_true,Bool.false_eq_true,if_false]
   rw [put_p1 hi (by omega) (by omega),if_neg (fun e => bl_irrefl hbi ⟨e.1.symm,e.2.symm⟩),put_placed h32 n (i + 1) _ (by omega) (by simp; omega) (fun y hy => hb y (by rw [hd]; exact List.mem_cons_of_mem _ hy)),hd]
   simp
theorem put_loop {xs : List T_Block.ty} (h : Blocks xs) {b : T_Block.ty} (h32 : xs.length ≤ 32) : ∀ (n i : Nat) (r : List T_Block.ty),i + n = xs.length → r.length ≤ i → spec_l29Put_p0 xs false i (bK b) (bN b) (bX b) r = some (r ++ putR (xs.drop i) b)
 | 0,i,r,hn,hr => by
   have : i = xs.length := by omega
   subst this
   have hlim : r.length + 1 < lim := by unfold lim; omega
   rw [spec_l29Put_p0_eq,if_neg (by simp),List.drop_length]
   simp only [Bool.not_false,if_true,hlim,decide_true,List.take_length]
   rfl
 | n + 1,i,r,hn,hr => by
   have hi : i < xs.length := by omega
   have hlt : (i : Int) < (xs.length : Int) := by omega
   have hlim : r.length + 1 < lim := by unfold lim; omega
   have hd : xs.drop i = kAt xs i :: xs.drop (i + 1) := by rw [List.drop_eq_getElem_cons hi,kAt_el hi]
   have hbe : spec_l29Before (kAt xs i) (bK b,bN b,bX b,()) = some (decide (bl (kAt xs i) b)) := before_ok _ _
   rw [spec_l29Put_p0_eq]
   simp only [hlt,decide_true,if_true,Bool.not_false,Int.natCast_nonneg,Int.toNat_natCast,kAt_get hi,Option.bind_some,hbe]
   by_cases c : bl (kAt xs i) b
   ·rw [decide_eq_true c]
    simp only [Bool.not_true,Bool.false_eq_true,if_false]
    rw [put_p1 hi (by omega) (by omega),if_neg (bl_irrefl c),put_loop h h32 n (i + 1) _ (by omega) (by simp; omega),hd,putR,if_pos c]
    simp
   ·rw [decide_eq_false c]
    have hall : ¬ sk (kAt xs i) b → ∀ y,y ∈ xs.drop (i + 1) → bl b y := fun c2 y hy => by
     obtain ⟨j,hj,rfl⟩ := List.mem_iff_getElem.1 hy
     rw [List.getElem_drop]
     have hj' : i + 1 + j < xs.length := by simp at hj; omega
     rw [kAt_el hj']
     exact bl_trans (bl_total c c2) (h.lt (by omega) hj')
    have hall2 : sk (kAt xs i) b → ∀ y,y ∈ xs.drop (i + 1) → bl b y := fun c2 y hy => by
     obtain ⟨j,hj,rfl⟩ := List.mem_iff_getElem.1 hy
     rw [List.getElem_drop]
     have hj' : i + 1 + j < xs.length := by simp at hj; omega
     rw [kAt_el hj']
     exact (bl_left c2).1 (h.lt (by omega) hj')
    simp only [Bool.not_false,if_true,hlim,decide_true,List.take_length]
    rw [show ((bK b,bN b,bX b,()) : T_Block.ty) = b from rfl,put_p1 hi (by omega) (by simp; omega),hd,putR,if_neg c]
    by_cases c2 : sk (kAt xs i) b
    ·rw [if_pos c2,if_pos c2,put_placed h32 n (i + 1) _ (by omega) (by simp; omega) (hall2 c2)]
     simp
    ·rw [if_neg c2,if_neg c2,put_placed h32 n (i + 1) _ (by omega) (by simp; omega) (hall c2)]
     simp
theorem l29Put_ok {xs : List T_Block.ty} (h : Blocks xs) (h32 : xs.length ≤ 32) (b : T_Block.ty) : spec_l29Put xs b = some (putR xs b) := by
 rw [spec_l29Put_eq]
 exact put_loop h h32 xs.length 0 [] (by omega) (by simp)
structure Kept (xs : List T_Block.ty) : Prop where
 b : Blocks xs
 k : ∀ x,x ∈ xs → bK x ∈ kinds
theorem draw_loop : ∀ (k : Nat) (xs : List T_Block.ty) (s : T_l00Src.ty) (c : Int),SrcOk s c → c + 1000 * (k : Int) ≤ 10000000000 → xs.length + k ≤ 6 → Kept xs →
 ∃ (ys : List T_Block.ty) (s' : T_l00Src.ty),spec_l29Draw_p0 xs k s.1 s.2.1 s.2.2.1 = some (ys,s') ∧ ys.length ≤ 6 ∧ Kept ys
 | 0,xs,s,c,hs,hc,hl,h => by
   rw [spec_l29Draw_p0_eq,if_neg (by simp)]
   exact ⟨_,_,rfl,by omega,h⟩
 | k + 1,xs,s,c,hs,hc,hl,h => by
   have hw : IntKind.i64.wrap (((k + 1 : Nat) : Int) - 1) = ((k : Nat) : Int) := by rw [w64 (by omega) (by omega)]; omega
   obtain ⟨b,s1,e1,k1,hb⟩ := drawn_ok hs (by omega)
   have hone := l29One_ok (x := b) (by have := (by decide : ∀ t,t ∈ kinds → t.length ≤ 10) _ hb.k; omega) (by have := hb.n; omega) (by have := hb.x; omega)
   have hone' : spec_l29One (b.1,b.2.1,b.2.2.1,()) = some (blockOk b) := hone
   rw [spec_l29Draw_p0_eq,if_pos (by simp)]
   simp only [src_eta,e1,Option.bind_some,spec_PutBlock_eq,(h.b.valid (by omega)).2,Bool.not_true,Bool.false_eq_true,if_false,hone',hw]
   cases ho : blockOk b with
   | false =>
     simp only [Bool.not_false,if_true,Option.bind_some]
     rw [if_neg (by decide)]
     exact draw_loop k xs s1 _ k1 (by omega) (by omega) h
   | true =>
     have hlen := putR_len b xs
     have hput : spec_l29Put xs (b.1,b.2.1,b.2.2.1,()) = some (putR xs b) := l29Put_ok h.b (by omega) b
     have hn : ¬ ((putR xs b).length : Int) > 32 := by omega
     simp only [Bool.not_true,Bool.false_eq_true,if_false,spec_PutBlock_p0_eq,hput,Option.bind_some,hn,decide_false,List.take_length,beq_self_eq_true,if_true]
     exact draw_loop k (putR xs b) s1 _ k1 (by omega) (by omega) ⟨h.b.put ho,fun x hx => (putR_sub hx).elim (fun e => by rw [e]; exact hb.k) (h.k x)⟩
theorem blocks_draw (code : List Int) (h1 : ∀ x,x ∈ code → 0 ≤ x ∧ x ≤ 255) (h2 : code.length ≤ 1048576) : ∃ xs,spec_R8Blocks code = some xs ∧ xs.length ≤ 6 ∧ Kept xs := by
 obtain ⟨s,e,k⟩ := from_ok code h1 h2
 obtain ⟨u,s1,q1,k1,b0,b1⟩ := pick_ok k (by omega) 6 (by omega)
 obtain ⟨ys,s',q2,hl,hk⟩ := draw_loop u.toNat [] s1 _ k1 (by omega) (by simp; omega) ⟨⟨fun x hx => (by cases hx),List.Pairwise.nil⟩,fun x hx => (by cases hx)⟩
 rw [Int.toNat_of_nonneg b0] at q2
 refine ⟨ys,?_,hl,hk⟩
 rw [spec_R8Blocks_eq,e,Option.bind_some,spec_l29Draw_eq]
 simp only [q1,q2,Option.bind_some]
theorem mid_ok {lo hi : Nat} (h : lo + hi ≤ 1000000) : IntKind.i64.wrap (Int.fdiv (IntKind.u64.wrap (IntKind.i64.wrap ((lo : Int) + (hi : Int)))) (2 ^ (min (1 : Int).toNat IntKind.u64.bits))) = (((lo + hi) / 2 : Nat) : Int) := by
 have e : (2 : Int) ^ (min (1 : Int).toNat IntKind.u64.bits) = 2 := by decide
 rw [w64 (n := (lo : Int) + (hi : Int)) (by omega) (by omega),wu64 (by omega) (by omega),e,Int.fdiv_eq_ediv_of_nonneg _ (by omega),w64 (by omega) (by omega)]
 omega
theorem search_loop {xs : List T_Block.ty} (h : Blocks xs) (h32 : xs.length ≤ 32) (t : T_Block.ty) : ∀ (n lo hi : Nat),hi - lo ≤ n → lo ≤ hi → hi ≤ xs.length → (∀ j,j < lo → bl (kAt xs j) t) → (∀ j,hi ≤ j → j < xs.length → ¬ bl (kAt xs j) t) →
 ∃ p : Nat,p ≤ xs.length ∧ (∀ j,j < p → bl (kAt xs j) t) ∧ (∀ j,p ≤ j → j < xs.length → ¬ bl (kAt xs j) t) ∧
   slices_BinarySearchFunc___impl_Block_impl_Block_impl_Block__impl_Block_compare_p0 xs xs.length lo hi (bK t) (bN t) (bX t) = some ((p : Int),decide (p < xs.length ∧ sk (kAt xs p) t)) := by
 have fin : ∀ lo : Nat,lo ≤ xs.length → (∀ j,j < lo → bl (kAt xs j) t) → (∀ j,lo ≤ j → j < xs.length → ¬ bl (kAt xs j) t) →
  slices_BinarySearchFunc___impl_Block_impl_Block_impl_Block__impl_Block_compare_p0 xs xs.length lo lo (bK t) (bN t) (bX t) = some ((lo : Int),decide (lo < xs.length ∧ sk (kAt xs lo) t)) := fun lo hlo h1 h2 => by
  rw [slices_BinarySearchFunc___impl_Block_impl_Block_impl_Block__impl_Block_compare_p0_eq,if_neg (by simp)]
  by_cases c : lo < xs.length
  ·obtain ⟨v,ev,_,hv⟩ := compare_ok (kAt xs lo) t
   have ev' : impl_Block_compare (kAt xs lo) (bK t,bN t,bX t,()) = some v := ev
   have hlt : (lo : Int) < (xs.length : Int) := by omega
   simp only [hlt,decide_true,if_true,Int.natCast_nonneg,Int.toNat_natCast,kAt_get c,Option.bind_some,ev']
   congr 2
   rw [Bool.eq_iff_iff,beq_iff_eq,decide_eq_true_eq,hv]
   exact ⟨fun e => ⟨c,e⟩,fun e => e.2⟩
  ·have hlt : ¬ (lo : Int) < (xs.length : Int) := by omega
   simp only [hlt,decide_false,Bool.false_eq_true,if_false,c,false_and]
 intro n
 induction n with
 | zero =>
   intro lo hi hn hle hhi h1 h2
   have : hi = lo := by omega
   subst this
   exact ⟨hi,hhi,h1,h2,fin hi hhi h1 h2⟩
 | succ n ih =>
   intro lo hi hn hle hhi h1 h2
   rcases Nat.lt_or_ge lo hi with hlt | hge
   ·have hm := mid_ok (lo := lo) (hi := hi) (by omega)
    have hmid : (lo + hi) / 2 < xs.length := by omega
    obtain ⟨v,ev,hv,_⟩ := compare_ok (kAt xs ((lo + hi) / 2)) t
    have ev' : impl_Block_compare (kAt xs ((lo + hi) / 2)) (bK t,bN t,bX t,()) = some v := ev
    have hlt' : (lo : Int) < (hi : Int) := by omega
    rw [slices_BinarySearchFunc___impl_Block_impl_Block_impl_Block__impl_Block_compare_p0_eq]
    simp only [hlt',decide_true,if_true,hm,Int.natCast_nonneg,Int.toNat_natCast,kAt_get hmid,Option.bind_some,ev',wsucc (show (lo + hi) / 2 < 4611686018427387904 by omega)]
    by_cases c : v < 0
    ·rw [if_pos (decide_eq_true c)]
     refine ih ((lo + hi) / 2 + 1) hi (by omega) (by omega) hhi (fun j hj => ?_) h2
     rcases Nat.lt_or_ge j ((lo + hi) / 2) with hj2 | hj2
     ·exact bl_trans (h.lt hj2 hmid) (hv.1 c)
     ·rw [show j = (lo + hi) / 2 by omega]; exact hv.1 c
    ·rw [if_neg (by simpa using c)]
     refine ih lo ((lo + hi) / 2) (by omega) (by omega) (by omega) h1 (fun j hj hj2 hb => ?_)
     rcases Nat.lt_or_ge ((lo + hi) / 2) j with hj3 | hj3
     ·exact c (hv.2 (bl_trans (h.lt hj3 hj2) hb))
     ·rw [show j = (lo + hi) / 2 by omega] at hb; exact c (hv.2 hb)
   ·have : hi = lo := by omega
    subst this
    exact ⟨hi,hhi,h1,h2,fin hi hhi h1 h2⟩
theorem blockOf_ok {xs : List T_Block.ty} (h : Blocks xs) (h32 : xs.length ≤ 32) (t : T_Block.ty) : ∃ p : Nat,p ≤ xs.length ∧ (∀ j,j < p → bl (kAt xs j) t) ∧ (∀ j,p ≤ j → j < xs.length → ¬ bl (kAt xs j) t) ∧
 impl_blockOf xs (bK t) (bN t) = some ((p : Int),decide (p < xs.length ∧ sk (kAt xs p) t)) := by
 obtain ⟨p,h1,h2,h3,e⟩ := search_loop h h32 (bK t,bN t,[],()) xs.length 0 xs.length (by omega) (by omega) (Nat.le_refl _) (fun j hj => by omega) (fun j hj hj2 => by omega)
 refine ⟨p,h1,h2,h3,?_⟩
 rw [impl_blockOf_eq,slices_BinarySearchFunc___impl_Block_impl_Block_impl_Block__impl_Block_compare_eq]
 have e' : slices_BinarySearchFunc___impl_Block_impl_Block_impl_Block__impl_Block_compare_p0 xs xs.length 0 xs.length (bK t) (bN t) [] = some ((p : Int),decide (p < xs.length ∧ sk (kAt xs p) t)) := e
 simp only [e',Option.bind_some]
theorem cloneBlocks {xs : List T_Block.ty} (h : xs.length ≤ 1048576) : impl_clone_impl_Block_ xs = some xs := by
 rw [impl_clone_impl_Block__eq]
 have h1 : ((xs.length : Int)).toNat < lim := by unfold lim; omega
 have h2 : 0 + xs.length < lim := by unfold lim; omega
 simp only [Int.natCast_nonneg,h1,h2,decide_true,Bool.and_self,if_true,List.nil_append,List.take_length]
theorem implPut_ok {xs : List T_Block.ty} (h : Blocks xs) (h31 : xs.length ≤ 31) (b : T_Block.ty) : impl_put xs b = some (putR xs b,0) := by
 obtain ⟨p,hp,h1,h2,e⟩ := blockOf_ok h (by omega) b
 have hat := putR_at b xs p hp h1 h2
 have e' : impl_blockOf xs b.1 b.2.1 = some ((p : Int),decide (p < xs.length ∧ sk (kAt xs p) b)) := e
 rw [impl_put_eq,cloneBlocks (by omega)]
 simp only [Option.bind_some,List.take_length,e']
 by_cases c : p < xs.length ∧ sk (kAt xs p) b
 ·have hlt : (p : Int) < (xs.length : Int) := by omega
  rw [if_pos c] at hat
  simp only [decide_eq_true c,if_true,Int.natCast_nonneg,hlt,decide_true,Bool.and_self,Int.toNat_natCast,kAt_get c.1,Option.bind_some]
  rw [hat,show (xs.set p b).take xs.length = xs.set p b from List.take_of_length_le (by simp),List.set_eq_take_append_cons_drop,if_pos c.1]
  simp
 ·rw [if_neg c] at hat
  have hn : ¬ ((xs.length : Int) == 32) = true := by simp; omega
  have c1 : (p : Int) ≤ (xs.length : Int) := by omega
  have c2 : xs.length + 1 < 1099511627776 := by omega
  have hi : slices_Insert___impl_Block_impl_Block_ xs p [b] = some (putR xs b,()) := by
   rw [slices_Insert___impl_Block_impl_Block__eq,hat]
   simp only [List.length_cons,List.length_nil,decide_true,Bool.true_and,Int.natCast_nonneg,c1,c2,if_true,Int.toNat_natCast]
  simp only [decide_eq_false c,Bool.false_eq_true,if_false,hn,decide_true,if_true,hi,Option.bind_some,List.take_length]
theorem found_ok {xs : List T_Block.ty} (h : Blocks xs) (h32 : xs.length ≤ 32) {b : T_Block.ty} (hb : b ∈ xs) : ∃ p : Nat,p < xs.length ∧ kAt xs p = b ∧ impl_blockOf xs (bK b) (bN b) = some ((p : Int),true) := by
 obtain ⟨p,hp,h1,h2,e⟩ := blockOf_ok h h32 b
 obtain ⟨i,hi,ei⟩ := List.mem_iff_getElem.1 hb
 rw [kAt_el hi] at ei
 have hpi : p = i := by
  rcases Nat.lt_trichotomy p i with c | c | c
  ·have := h.lt c hi
   rw [ei] at this
   exact absurd this (h2 p (Nat.le_refl _) (by omega))
  ·exact c
  ·have := h1 i c
   rw [ei] at this
   exact absurd ⟨rfl,rfl⟩ (bl_irrefl this)
 subst hpi
 refine ⟨p,hi,ei,?_⟩
 rw [e,decide_eq_true ⟨hi,by rw [ei]; exact ⟨rfl,rfl⟩⟩]
theorem named_ok {xs : List T_Block.ty} (h : Blocks xs) (h32 : xs.length ≤ 32) {b : T_Block.ty} (hb : b ∈ xs) : impl_BlockNamed xs (bK b) (bN b) = some (bX b,0) := by
 obtain ⟨p,hp,ep,e⟩ := found_ok h h32 hb
 rw [impl_BlockNamed_eq,(h.valid h32).1,e]
 simp only [Option.bind_some,Bool.not_true,Bool.false_eq_true,if_false,Int.natCast_nonneg,decide_true,if_true,Int.toNat_natCast,kAt_get hp,ep]
 rfl
theorem merge_loop {ys : List T_Block.ty} (hy : Blocks ys) (l100 : ys.length ≤ 100) : ∀ (n i : Nat) (xs : List T_Block.ty),i + n = ys.length → Blocks xs → xs.length + n ≤ 31 → (∀ y,y ∈ ys.take i → y ∈ xs) →
 ∃ zs,impl_MergeBlocks_p1 xs ys ys.length i = some (zs,0) ∧ Blocks zs ∧ zs.length ≤ xs.length + n ∧ ∀ y,y ∈ ys → y ∈ zs
 | 0,i,xs,hn,hx,hl,hm => by
   have : i = ys.length := by omega
   subst this
   rw [List.take_length] at hm
   exact ⟨xs,by rw [impl_MergeBlocks_p1_eq,if_neg (by simp)],hx,by omega,hm⟩
 | n + 1,i,xs,hn,hx,hl,hm => by
   have hi : i < ys.length := by omega
   have hlt : (i : Int) < (ys.length : Int) := by omega
   have hok := hy.ok _ (kAt_mem hi)
   have hlen := putR_len (kAt ys i) xs
   obtain ⟨zs,q1,q2,q3,q4⟩ := merge_loop hy l100 n (i + 1) (putR xs (kAt ys i)) (by omega) (hx.put hok) (by omega) (fun y hy' => by
    rw [List.take_succ_eq_append_getElem hi,kAt_el hi] at hy'
    rcases List.mem_append.1 hy' with h | h
    ·obtain ⟨j,hj,rfl⟩ := List.mem_iff_getElem.1 h
     rw [List.getElem_take,kAt_el (by simp at hj; omega)]
     have hji : j < i := by simp at hj; omega
     refine putR_keep (bl_irrefl (hy.lt hji hi)) (hm _ ?_)
     rw [List.getElem_take,kAt_el (by omega)] at h; exact h
    ·rw [List.mem_singleton.1 h]; exact putR_self _ _)
   refine ⟨zs,?_,q2,by omega,q4⟩
   rw [impl_MergeBlocks_p1_eq]
   simp only [hlt,decide_true,if_true,Int.natCast_nonneg,Int.toNat_natCast,kAt_get hi,Option.bind_some,implPut_ok hx (show xs.length ≤ 31 by omega),bne_self_eq_false,Bool.false_eq_true,if_false,wsucc (show i < 4611686018427387904 by omega)]
   exact q1
theorem merge_ok {xs ys : List T_Block.ty} (hx : Blocks xs) (hy : Blocks ys) (lx : xs.length ≤ 6) (ly : ys.length ≤ 6) : ∃ zs,impl_MergeBlocks xs ys = some (zs,0) ∧ Blocks zs ∧ zs.length ≤ xs.length + ys.length ∧ ∀ y,y ∈ ys → y ∈ zs := by
 obtain ⟨zs,q1,q2,q3,q4⟩ := merge_loop hy (by omega) ys.length 0 xs (by omega) hx (by omega) (fun y h => by simp at h)
 refine ⟨zs,?_,q2,q3,q4⟩
 rw [impl_MergeBlocks_eq,(hx.valid (by omega)).1,(hy.valid (by omega)).1]
 simp only [Option.bind_some,Bool.not_true,Bool.false_eq_true,if_false]
 rw [impl_MergeBlocks_p0_eq,cloneBlocks (by omega),Option.bind_some,List.take_length]
 exact q1
theorem same_ok (xs : List T_Block.ty) (hl : xs.length ≤ 1048576) : spec_SameBlocks xs xs = some true := by
 have loop : ∀ (n i : Nat),i + n = xs.length → spec_l29Same_p0 xs xs i = some true := fun n => by
  induction n with
  | zero =>
    intro i hn
    rw [spec_l29Same_p0_eq,if_neg (by simp; omega)]
  | succ n ih =>
    intro i hn
    have hi : i < xs.length := by omega
    have hlt : (i : Int) < (xs.length : Int) := by omega
    rw [spec_l29Same_p0_eq]
    simp only [hlt,decide_true,if_true,Int.natCast_nonneg,Int.toNat_natCast,kAt_get hi,Option.bind_some,beq_self_eq_true,Bool.and_self,Bool.not_true,Bool.false_eq_true,if_false,wsucc (show i < 4611686018427387904 by omega)]
    exact ih (i + 1) (by omega)
 rw [spec_SameBlocks_eq,spec_l29Same_eq]
 simp only [bne_self_eq_false,Bool.false_eq_true,if_false]
 rw [show spec_l29Same_p0 xs xs 0 = some true from loop xs.length 0 (by omega)]
 rfl
theorem kind_loop {xs : List T_Block.ty} (k : List UInt8) (hl : xs.length ≤ 100) : ∀ (n i : Nat) (r : List (List UInt8)),i + n = xs.length → r.length ≤ i → ∃ r',impl_BlocksOfKind_p0 k xs xs.length i r = some (r',0) ∧ r'.length = r.length + (xs.drop i).countP fun x => bK x == k
 | 0,i,r,hn,hr => by
   have : i = xs.length := by omega
   subst this
   rw [impl_BlocksOfKind_p0_eq,if_neg (by simp),List.drop_length,List.take_length]
   exact ⟨_,rfl,by simp⟩
 | n + 1,i,r,hn,hr => by
   have hi : i < xs.length := by omega
   have hlt : (i : Int) < (xs.length : Int) := by omega
   have hlim : r.length + 1 < lim := by unfold lim; omega
   have hd : xs.drop i = kAt xs i :: xs.drop (i + 1) := by rw [List.drop_eq_getElem_cons hi,kAt_el hi]
   rw [impl_BlocksOfKind_p0_eq]
   simp only [hlt,decide_true,if_true,Int.natCast_nonneg,Int.toNat_natCast,kAt_get hi,Option.bind_some,hlim,List.take_length,wsucc (show i < 4611686018427387904 by omega)]
   by_cases c : ((kAt xs i).1 == k) = true
   ·rw [if_pos c]
    obtain ⟨r',e,hl'⟩ := kind_loop k hl n (i + 1) (r ++ [(kAt xs i).2.1]) (by omega) (by simp; omega)
    refine ⟨r',e,?_⟩
    rw [hl',hd,List.countP_cons_of_pos (by exact c)]
    simp; omega
   ·rw [if_neg c]
    obtain ⟨r',e,hl'⟩ := kind_loop k hl n (i + 1) r (by omega) (by omega)
    exact ⟨r',e,by rw [hl',hd,List.countP_cons_of_neg (by exact c)]⟩
def newB : T_Block.ty := ([110,101,119],[120],[116],())
theorem law_loop {v5 xs zs : List T_Block.ty} (hz : Blocks zs) (hz32 : zs.length ≤ 32) (hm : ∀ y,y ∈ xs → y ∈ zs) (l5 : v5.length ≤ 6) (l6 : xs.length ≤ 6) (hle : zs.length ≤ v5.length + xs.length) : ∀ (n i : Nat),i + n = xs.length → laws_FnBlocks_p1 v5 xs zs i = some true
 | 0,i,hn => by
   have : i = xs.length := by omega
   subst this
   have hw : IntKind.i64.wrap ((v5.length : Int) + (xs.length : Int)) = (v5.length : Int) + (xs.length : Int) := w64 (by omega) (by omega)
   have hd : (zs.length : Int) ≤ (v5.length : Int) + (xs.length : Int) := by omega
   rw [laws_FnBlocks_p1_eq,if_neg (by simp),hw]
   simp [hd]
 | n + 1,i,hn => by
   have hi : i < xs.length := by omega
   have hlt : (i : Int) < (xs.length : Int) := by omega
   have hnm : impl_BlockNamed zs (kAt xs i).1 (kAt xs i).2.1 = some ((kAt xs i).2.2.1,0) := named_ok hz hz32 (hm _ (kAt_mem hi))
   rw [laws_FnBlocks_p1_eq]
   simp only [hlt,decide_true,if_true,Int.natCast_nonneg,Int.toNat_natCast,kAt_get hi,Option.bind_some,hnm,bne_self_eq_false,Bool.false_eq_true,if_false,beq_self_eq_true,Bool.not_true,wsucc (show i < 4611686018427387904 by omega)]
   exact law_loop hz hz32 hm l5 l6 hle n (i + 1) (by omega)
theorem longB (a b : List Int) : laws_r8Long a b = some (decide ((a.length : Int) > 1048576) || decide ((b.length : Int) > 1048576)) := by
 rw [laws_r8Long_eq]
 by_cases c : (a.length : Int) > 1048576 <;> simp [c]
theorem laws_FnBlocks_true (a0 a1 : List Int) (h0 : ET.wf (.one (.sl (.one (.int .u8)))) a0) (h1 : ET.wf (.one (.sl (.one (.int .u8)))) a1) : laws_FnBlocks a0 a1 = some true := by
 rw [laws_FnBlocks_eq,longB,Option.bind_some]
 by_cases c0 : (a0.length : Int) > 1048576
 ·simp [c0]
 by_cases c1 : (a1.length : Int) > 1048576
 ·simp [c1]
 simp only [c0,c1,decide_false,Bool.or_self,Bool.false_eq_true,if_false]
 obtain ⟨xs,e0,lx,hx⟩ := blocks_draw a0 (bytes_ok h0) (by omega)
 obtain ⟨ys,e1,ly,hy⟩ := blocks_draw a1 (bytes_ok h1) (by omega)
 obtain ⟨zs,ez,hz,lz,hm⟩ := merge_ok hx.b hy.b lx ly
 have hno : ∀ x,x ∈ xs → ¬ sk x newB := fun x hxm e => by
  have := hx.k x hxm
  rw [e.1] at this
  exact absurd this (by decide)
 have hnew : blockOk newB = true := by decide
 have hb := hx.b.put hnew
 have hlen := putR_len newB xs
 obtain ⟨p,hp,p1,p2,ep⟩ := blockOf_ok hx.b (by omega) newB
 have hat := putR_at newB xs p hp p1 p2
 have hc : ¬ (p < xs.length ∧ sk (kAt xs p) newB) := fun e => hno _ (kAt_mem e.1) e.2
 rw [if_neg hc] at hat
 have hput : impl_PutBlock xs newB = some (putR xs newB,0) := by
  rw [impl_PutBlock_eq,(hx.b.valid (by omega)).1,validBlock_ok hnew]
  simp only [Option.bind_some,Bool.not_true,Bool.false_eq_true,if_false]
  rw [impl_PutBlock_p0_eq,show ((newB.1,newB.2.1,newB.2.2.1,()) : T_Block.ty) = newB from rfl,implPut_ok hx.b (by omega)]
  rfl
 have hnamed : impl_BlockNamed (putR xs newB) [110,101,119] [120] = some ([116],0) := named_ok hb (by omega) (putR_self newB xs)
 have hdrop : impl_DropBlock (putR xs newB) [110,101,119] [120] = some (xs,0) := by
  obtain ⟨q,hq,eq,ef⟩ := found_ok hb (by omega) (putR_self newB xs)
  have ef' : impl_blockOf (putR xs newB) [110,101,119] [120] = some ((q : Int),true) := ef
  have hqp : q = p := by
   have hpl : p < (putR xs newB).length := by rw [hat]; simp; omega
   have hkp : kAt (putR xs newB) p = newB := by
    rw [← kAt_el hpl]
    simp only [hat]
    rw [List.getElem_append_left (by simp; omega),List.getElem_append_right (by simp; omega)]
    simp
   rcases Nat.lt_trichotomy q p with c | c | c
   ·have := hb.lt c hpl
    rw [eq,hkp] at this
    exact absurd ⟨rfl,rfl⟩ (bl_irrefl this)
   ·exact c
   ·have := hb.lt c hq
    rw [eq,hkp] at this
    exact absurd ⟨rfl,rfl⟩ (bl_irrefl this)
  subst hqp
  have c1 : (q : Int) < ((q + 1 : Nat) : Int) := by omega
  have c2 : ((q + 1 : Nat) : Int) ≤ ((putR xs newB).length : Int) := by omega
  have c3 : (putR xs newB).length < 1099511627776 := by omega
  have hd : slices_Delete___impl_Block_impl_Block_ (putR xs newB) q ((q + 1 : Nat) : Int) = some (xs,()) := by
   rw [slices_Delete___impl_Block_impl_Block__eq]
   simp only [Int.natCast_nonneg,c1,c2,c3,decide_true,Bool.and_self,if_true,Int.toNat_natCast]
   congr 2
   rw [hat]
   have l1 : (xs.take q).length = q := by simp; omega
   rw [List.append_assoc,List.take_append_of_le_length (by omega),List.take_of_length_le (by omega),List.drop_append,List.drop_eq_nil_of_le (by omega),l1,show q + 1 - q = 1 by omega]
   simp
  rw [impl_DropBlock_eq,(hb.valid (by omega)).1,ef',cloneBlocks (by omega)]
  simp only [Option.bind_some,Bool.not_true,Bool.false_eq_true,if_false,decide_true,if_true,wsucc (show q < 4611686018427387904 by omega),hd,List.take_length]
 have hkind : ∃ r,impl_BlocksOfKind (putR xs newB) [110,101,119] = some (r,0) ∧ r.length = 1 := by
  obtain ⟨r,e,hl⟩ := kind_loop (xs := putR xs newB) [110,101,119] (by omega) (putR xs newB).length 0 [] (by omega) (by simp)
  refine ⟨r,?_,?_⟩
  ·rw [impl_BlocksOfKind_eq,(hb.valid (by omega)).1]
   simp only [Option.bind_some,Bool.not_true,Bool.false_eq_true,if_false]
   exact e
  ·have z : ∀ l : List T_Block.ty,(∀ x,x ∈ l → x ∈ xs) → l.countP (fun x => bK x == [110,101,119]) = 0 := fun l hl => by
    rw [List.countP_eq_zero]
    intro x hxl e
    have := hx.k x (hl x hxl)
    rw [eq_of_beq e] at this
    exact absurd this (by decide)
   rw [hl,List.drop_zero,hat,List.countP_append,List.countP_append,z _ (fun x h => List.mem_of_mem_take h),z _ (fun x h => List.mem_of_mem_drop h)]
   rfl
 obtain ⟨r,er,hr⟩ := hkind
 have hput' : impl_PutBlock xs ([110,101,119],[120],[116],()) = some (putR xs newB,0) := hput
 have hr1 : ((r.length : Int) != 1) = false := by rw [hr]; rfl
 have hvz : spec_ValidBlocks zs = some true := by rw [spec_ValidBlocks_eq,(hz.valid (by omega)).2]; rfl
 simp only [e0,e1,Option.bind_some,hput',hnamed,hdrop,ez,er,bne_self_eq_false,Bool.false_eq_true,if_false,beq_self_eq_true,Bool.not_true,same_ok xs (by omega),hvz,hr1]
 rw [laws_FnBlocks_p0_eq]
 exact law_loop hz (by omega) hm lx ly lz ys.length 0 (by omega)
end Go.Ab.P
