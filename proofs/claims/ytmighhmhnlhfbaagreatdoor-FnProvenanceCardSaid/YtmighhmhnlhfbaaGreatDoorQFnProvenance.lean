/- Deeds, chains of owners, the best chain, holds, rivals and first owners over drawn deeds: the law answers true. Conditions: the two inputs are bytes. -/
import Derived.Test.YtmighhmhnlhfbaaGreatDoorBFnProvenance
set_option linter.unusedVariables false
set_option linter.unusedSimpArgs false
set_option linter.unusedSectionVars false
namespace Go.Ab.P
open Go.Ab
structure DeedOk (x : T_Deed.ty) : Prop where
 n1 : isName x.1 = true
 n2 : isName x.2.1 = true
 ne : x.1 ≠ x.2.1
 yr : (0 : Int) ≤ x.2.2.1 ∧ (x.2.2.1 : Int) ≤ 2100
 db : (0 : Int) ≤ x.2.2.2.1 ∧ (x.2.2.2.1 : Int) ≤ 1000
structure DeedsOk (xs : List T_Deed.ty) : Prop where
 len : xs.length ≤ 8
 ok : ∀ x,x ∈ xs → DeedOk x
 up : xs.Pairwise fun a b => (a.2.2.1 : Int) ≤ b.2.2.1
theorem deed_eta (x : T_Deed.ty) : (x.1,x.2.1,x.2.2.1,x.2.2.2.1,()) = x := rfl
theorem name_draw (s : T_l00Src.ty) (c : Int) (hs : SrcOk s c) (hc : c ≤ 1000000) : ∃ (u : List UInt8) (s' : T_l00Src.ty),spec_l19DrawName s = some (u,s') ∧ SrcOk s' (c + 2) ∧ isName u = true ∧ u ≠ [109,117,115,101,117,109] := by
 obtain ⟨u,s',e,k,m⟩ := text_ok hs (by omega) [[109,97,107,101,114],[97,100,97],[98,101,110],[99,108,101,111],[100,111,118],[101,118,97]] (by decide) (by decide)
 rw [spec_l19DrawName_eq]
 simp only [e,Option.bind_some,src_eta]
 refine ⟨u,s',rfl,k,?_⟩
 simp only [List.mem_cons,List.not_mem_nil,or_false] at m
 rcases m with rfl | rfl | rfl | rfl | rfl | rfl <;> decide
theorem deed_draw (s : T_l00Src.ty) (c : Int) (hs : SrcOk s c) (hc : c ≤ 100000) (y : Int) (hy : 0 ≤ y ∧ y ≤ 2100) : ∃ (x : T_Deed.ty) (s' : T_l00Src.ty),spec_l19DrawOne s y = some (x,s') ∧ SrcOk s' (c + 6) ∧ DeedOk x ∧ (x.2.2.1 : Int) = y := by
 obtain ⟨u,s1,e1,k1,m1,d1⟩ := name_draw s c hs (by omega)
 obtain ⟨v,s2,e2,k2,m2,d2⟩ := name_draw s1 _ k1 (by omega)
 obtain ⟨z,s3,e3,k3,b1,b2⟩ := pick_ok k2 (by omega) 60 (by omega)
 have hw : IntKind.i64.wrap (10 * z) = 10 * z := w64 (by omega) (by omega)
 rw [spec_l19DrawOne_eq]
 simp only [e1,e2,e3,Option.bind_some,src_eta,hw]
 by_cases h : u = v
 ·rw [if_pos (by simpa using h)]
  exact ⟨_,s3,rfl,k3.up (by omega),⟨m1,show isName [109,117,115,101,117,109] = true by decide,d1,hy,show (0 : Int) ≤ 10 * z ∧ 10 * z ≤ 1000 by omega⟩,rfl⟩
 ·rw [if_neg (by simpa using h)]
  exact ⟨_,s3,rfl,k3.up (by omega),⟨m1,m2,h,hy,show (0 : Int) ≤ 10 * z ∧ 10 * z ≤ 1000 by omega⟩,rfl⟩
theorem deeds_loop : ∀ (k : Nat) (y n : Int) (s : T_l00Src.ty) (c : Int) (r : List T_Deed.ty),SrcOk s c → c + 20 * k ≤ 1000 → n.toNat ≤ k → k + r.length ≤ 8 → 0 ≤ y → y + 30 * k ≤ 2100 → (∀ x,x ∈ r → DeedOk x ∧ (x.2.2.1 : Int) ≤ y) → (r.Pairwise fun a b => (a.2.2.1 : Int) ≤ b.2.2.1) →
 ∃ (xs : List T_Deed.ty) (s' : T_l00Src.ty),spec_l19Draw_p0 y n s.1 s.2.1 s.2.2.1 r = some (xs,s') ∧ DeedsOk xs
 | 0,y,n,s,c,r,hs,hc,hn,hr,h0,hy,hx,hp => by
   have : ¬ n > 0 := by omega
   rw [spec_l19Draw_p0_eq]
   simp only [this,decide_false,Bool.false_eq_true,if_false,List.take_length]
   exact ⟨r,_,rfl,by omega,fun x h => (hx x h).1,hp⟩
 | k + 1,y,n,s,c,r,hs,hc,hn,hr,h0,hy,hx,hp => by
   by_cases hn0 : n > 0
   ·have hw : IntKind.i64.wrap (n - 1) = n - 1 := w64 (by omega) (by omega)
    have p2 : ∀ (x : T_Deed.ty) (s : T_l00Src.ty) (c : Int),SrcOk s c → c + 20 * k ≤ 995 → DeedOk x → (x.2.2.1 : Int) = y → ∃ (xs : List T_Deed.ty) (s' : T_l00Src.ty),spec_l19Draw_p2 y n s.1 s.2.1 s.2.2.1 r x.1 x.2.1 x.2.2.1 x.2.2.2.1 = some (xs,s') ∧ DeedsOk xs := fun x s c hs hc hx1 hxy => by
     have hlim : r.length + 1 < lim := by rw [lim_eq]; omega
     obtain ⟨z,s1,e1,k1,b1,b2⟩ := pick_ok hs (by omega) 30 (by omega)
     have hw2 : IntKind.i64.wrap (y + z) = y + z := w64 (by omega) (by omega)
     rw [spec_l19Draw_p2_eq]
     simp only [hlim,decide_true,if_true,src_eta,e1,Option.bind_some,hw,hw2,List.take_length,deed_eta]
     refine deeds_loop k (y + z) (n - 1) s1 _ (r ++ [x]) k1 (by omega) (by omega) (by simp only [List.length_append,List.length_cons,List.length_nil]; omega) (by omega) (by omega) (fun a ha => ?_) ?_
     ·rcases List.mem_append.1 ha with ha | ha
      ·exact ⟨(hx a ha).1,Int.le_trans (hx a ha).2 (by omega)⟩
      ·rw [List.mem_singleton] at ha; subst ha; exact ⟨hx1,Int.le_trans (Int.le_of_eq hxy) (by omega)⟩
     ·rw [List.pairwise_append]
      refine ⟨hp,List.pairwise_singleton _ _,fun a ha b hb => ?_⟩
      rw [List.mem_singleton] at hb
      subst hb
      exact Int.le_trans (hx a ha).2 (Int.le_of_eq hxy.symm)
    obtain ⟨x,s1,e1,k1,m1,y1⟩ := deed_draw s c hs (by omega) y ⟨h0,by omega⟩
    rw [spec_l19Draw_p0_eq]
    simp only [hn0,decide_true,if_true,src_eta,e1,Option.bind_some]
    by_cases hl : (r.length : Int) > 0
    ·have hi : r.length - 1 < r.length := by omega
     have hwr : IntKind.i64.wrap ((r.length : Int) - 1) = ((r.length - 1 : Nat) : Int) := by rw [w64 (by omega) (by omega)]; omega
     have hlt : ((r.length - 1 : Nat) : Int) < (r.length : Int) := by omega
     obtain ⟨b,s2,e2,k2⟩ := one_ok k1 (by omega) 2 (by omega)
     simp only [hl,decide_true,if_true,e2,Option.bind_some,src_eta,hwr,hlt,Int.natCast_nonneg,Bool.and_self,Int.toNat_natCast,List.getElem?_eq_getElem hi]
     cases b
     ·simp only [Bool.false_eq_true,if_false]
      exact p2 x s2 _ k2 (by omega) m1 y1
     ·simp only [if_true]
      by_cases he : x.2.1 = r[r.length - 1].2.1
      ·rw [if_neg (by simpa using he)]
       exact p2 x s2 _ k2 (by omega) m1 y1
      ·rw [if_pos (by simpa using he),spec_l19Draw_p1_eq]
       simp only [hwr,hlt,Int.natCast_nonneg,decide_true,Bool.and_self,if_true,Int.toNat_natCast,List.getElem?_eq_getElem hi,Option.bind_some]
       exact p2 (r[r.length - 1].2.1,x.2.1,x.2.2.1,x.2.2.2.1,()) s2 _ k2 (by omega) ⟨(hx _ (List.getElem_mem hi)).1.n2,m1.n2,fun e => he e.symm,m1.yr,m1.db⟩ y1
    ·simp only [hl,decide_false,Bool.false_eq_true,if_false]
     exact p2 x s1 _ k1 (by omega) m1 y1
   ·rw [spec_l19Draw_p0_eq]
    simp only [hn0,decide_false,Bool.false_eq_true,if_false,List.take_length]
    exact ⟨r,_,rfl,by omega,fun x h => (hx x h).1,hp⟩
theorem deeds_draw (v : List Int) (h1 : ∀ x,x ∈ v → 0 ≤ x ∧ x ≤ 255) (h2 : v.length ≤ 1048576) : ∃ xs,spec_R8Deeds v = some xs ∧ DeedsOk xs := by
 obtain ⟨s,e,k⟩ := from_ok v h1 h2
 obtain ⟨a,s1,e1,k1,a1,a2⟩ := pick_ok k (by omega) 60 (by omega)
 obtain ⟨b,s2,e2,k2,b1,b2⟩ := pick_ok k1 (by omega) 9 (by omega)
 have hw : IntKind.i64.wrap (1700 + a) = 1700 + a := w64 (by omega) (by omega)
 obtain ⟨xs,s',e3,ok⟩ := deeds_loop 8 (1700 + a) b s2 _ [] k2 (by omega) (by omega) (by simp) (by omega) (by omega) (fun x hx => by cases hx) List.Pairwise.nil
 rw [spec_R8Deeds_eq,e,Option.bind_some,spec_l19Draw_eq]
 simp only [e1,e2,Option.bind_some,src_eta,hw,e3,List.take_length]
 exact ⟨xs,rfl,ok⟩
theorem nm_len {s : List UInt8} (h : isName s = true) : s.length ≤ 10 := by
 cases s with
 | nil => cases h
 | cons c r =>
   simp only [isName,Bool.and_eq_true,decide_eq_true_eq] at h
   exact h.2
theorem impl_deed_ok {x : T_Deed.ty} (h : DeedOk x) : impl_Deed_valid x = some true := by
 have l1 := nm_len h.n1
 have l2 := nm_len h.n2
 have hne : (x.1 == x.2.1) = false := by simpa using h.ne
 rw [impl_Deed_valid_eq,impl_IsName_ok _ (Nat.lt_of_le_of_lt l1 (by decide)),impl_IsName_ok _ (Nat.lt_of_le_of_lt l2 (by decide)),h.n1,h.n2,hne,impl_isYear_eq,impl_within_ok,impl_within_ok,inR_iff'.2 h.yr,inR_iff'.2 h.db]
 rfl
theorem spec_deed_ok {x : T_Deed.ty} (h : DeedOk x) : spec_l19One x = some true := by
 have l1 := nm_len h.n1
 have l2 := nm_len h.n2
 have hne : (x.1 == x.2.1) = false := by simpa using h.ne
 rw [spec_l19One_eq,spec_l01Name_ok _ (Nat.lt_of_le_of_lt l1 (by decide)),spec_l01Name_ok _ (Nat.lt_of_le_of_lt l2 (by decide)),h.n1,h.n2,hne,spec_l19Year_eq,spec_l00In_ok,spec_l00In_ok,inR_iff'.2 h.yr,inR_iff'.2 h.db]
 rfl
theorem up_step {xs : List T_Deed.ty} (h : xs.Pairwise fun a b => (a.2.2.1 : Int) ≤ b.2.2.1) {i j : Nat} (hi : i < xs.length) (hj : j < xs.length) (hij : i < j) : (xs[i].2.2.1 : Int) ≤ xs[j].2.2.1 := List.pairwise_iff_getElem.1 h i j hi hj hij
theorem impl_deeds_loop (xs : List T_Deed.ty) (h : DeedsOk xs) : ∀ (k i : Nat),i + k = xs.length → impl_ValidDeeds_p0 xs xs xs.length i = some true
 | 0,i,hk => by
   have hl := h.len
   rw [impl_ValidDeeds_p0_eq,impl_few_eq]
   have : ¬ (i : Int) < (xs.length : Int) := by omega
   have h16 : (xs.length : Int) ≤ 16 := by omega
   simp only [this,h16,decide_false,decide_true,Bool.false_eq_true,if_false,Option.bind_some]
 | k + 1,i,hk => by
   have hl := h.len
   have hi : i < xs.length := by omega
   have hlt : (i : Int) < (xs.length : Int) := by omega
   have hw : IntKind.i64.wrap ((i : Int) + 1) = ((i + 1 : Nat) : Int) := by rw [w64 (by omega) (by omega)]; omega
   have ih := impl_deeds_loop xs h k (i + 1) (by omega)
   rw [impl_ValidDeeds_p0_eq]
   simp only [hlt,decide_true,if_true,Int.natCast_nonneg,Int.toNat_natCast,List.getElem?_eq_getElem hi,Option.bind_some,impl_deed_ok (h.ok _ (List.getElem_mem hi)),Bool.not_true,Bool.false_eq_true,if_false,hw,ih]
   by_cases h0 : (i : Int) > 0
   ·have hw1 : IntKind.i64.wrap ((i : Int) - 1) = ((i - 1 : Nat) : Int) := by rw [w64 (by omega) (by omega)]; omega
    have hu : ¬ (xs[i - 1].2.2.1 : Int) > xs[i].2.2.1 := Int.not_lt.2 (up_step h.up (i := i - 1) (j := i) (by omega) hi (by omega))
    simp only [h0,decide_true,if_true,hw1,Int.natCast_nonneg,Int.toNat_natCast,List.getElem?_eq_getElem (show i - 1 < xs.length by omega),Option.bind_some,hu,decide_false,Bool.false_eq_true,if_false]
   ·simp only [h0,decide_false,Bool.false_eq_true,if_false]
theorem impl_deeds_ok {xs : List T_Deed.ty} (h : DeedsOk xs) : impl_ValidDeeds xs = some true := by
 rw [impl_ValidDeeds_eq]; exact impl_deeds_loop xs h xs.length 0 (by omega)
theorem spec_deeds_loop (xs : List T_Deed.ty) (h : DeedsOk xs) : ∀ (k i : Nat),i + k = xs.length → spec_l19Ok_p0 xs i = some true
 | 0,i,hk => by
   have hl := h.len
   rw [spec_l19Ok_p0_eq]
   have : ¬ (i : Int) < (xs.length : Int) := by omega
   have h16 : (xs.length : Int) ≤ 16 := by omega
   simp only [this,h16,decide_false,decide_true,Bool.false_eq_true,if_false]
 | k + 1,i,hk => by
   have hl := h.len
   have hi : i < xs.length := by omega
   have hlt : (i : Int) < (xs.length : Int) := by omega
   have hw : IntKind.i64.wrap ((i : Int) + 1) = ((i + 1 : Nat) : Int) := by rw [w64 (by omega) (by omega)]; omega
   have ih := spec_deeds_loop xs h k (i + 1) (by omega)
   rw [spec_l19Ok_p0_eq]
   simp only [hlt,decide_true,if_true,Int.natCast_nonneg,Int.toNat_natCast,List.getElem?_eq_getElem hi,Option.bind_some,spec_deed_ok (h.ok _ (List.getElem_mem hi)),Bool.not_true,Bool.false_eq_true,if_false,hw,ih]
   by_cases h0 : (i : Int) > 0
   ·have hw1 : IntKind.i64.wrap ((i : Int) - 1) = ((i - 1 : Nat) : Int) := by rw [w64 (by omega) (by omega)]; omega
    have hu : ¬ (xs[i - 1].2.2.1 : Int) > xs[i].2.2.1 := Int.not_lt.2 (up_step h.up (i := i - 1) (j := i) (by omega) hi (by omega))
    simp only [h0,decide_true,if_true,hw1,Int.natCast_nonneg,Int.toNat_natCast,List.getElem?_eq_getElem (show i - 1 < xs.length by omega),Option.bind_some,hu,decide_false,Bool.false_eq_true,if_false]
   ·simp only [h0,decide_false,Bool.false_eq_true,if_false]
theorem spec_deeds_ok {xs : List T_Deed.ty} (h : DeedsOk xs) : spec_l19Ok xs = some true := by
 rw [spec_l19Ok_eq]; exact spec_deeds_loop xs h xs.length 0 (by omega)
theorem deed_text {x : T_Deed.ty} (h : DeedOk x) : ∃ t,impl_DeedText x = some t ∧ impl_ReadDeed t = some (x,true) := by
 have l1 := nm_len h.n1
 have l2 := nm_len h.n2
 have y1 := h.yr
 have d1 := h.db
 have key : ∀ (f t : List UInt8) (y d : Int),f.length ≤ 10 → t.length ≤ 10 → (0 ≤ y ∧ y ≤ 2100) → (0 ≤ d ∧ d ≤ 1000) → impl_Deed_valid (f,t,y,d,()) = some true →
  impl_DeedText (f,t,y,d,()) = some (Lib.itoa y ++ 32 :: ((f ++ 45 :: t) ++ 32 :: Lib.itoa d)) := fun f t y d hf ht hy hd hv => by
  have e1 := itoa_len y (by omega)
  have e2 := itoa_len d (by omega)
  have c1 : (Lib.itoa y).length + [(32 : UInt8)].length ≤ strMax := by rw [strMax_eq]; simp only [List.length_cons,List.length_nil]; omega
  have c2 : (Lib.itoa y ++ [(32 : UInt8)]).length + f.length ≤ strMax := by rw [strMax_eq]; simp only [List.length_append,List.length_cons,List.length_nil]; omega
  have c3 : ((Lib.itoa y ++ [(32 : UInt8)]) ++ f).length + [(45 : UInt8)].length ≤ strMax := by rw [strMax_eq]; simp only [List.length_append,List.length_cons,List.length_nil]; omega
  have c4 : (((Lib.itoa y ++ [(32 : UInt8)]) ++ f) ++ [(45 : UInt8)]).length + t.length ≤ strMax := by rw [strMax_eq]; simp only [List.length_append,List.length_cons,List.length_nil]; omega
  have c5 : ((((Lib.itoa y ++ [(32 : UInt8)]) ++ f) ++ [(45 : UInt8)]) ++ t).length + [(32 : UInt8)].length ≤ strMax := by rw [strMax_eq]; simp only [List.length_append,List.length_cons,List.length_nil]; omega
  have c6 : (((((Lib.itoa y ++ [(32 : UInt8)]) ++ f) ++ [(45 : UInt8)]) ++ t) ++ [(32 : UInt8)]).length + (Lib.itoa d).length ≤ strMax := by rw [strMax_eq]; simp only [List.length_append,List.length_cons,List.length_nil]; omega
  rw [impl_DeedText_eq,hv]
  simp only [Option.bind_some,Bool.not_true,Bool.false_eq_true,if_false,impl_Decimal_ok y (by omega),impl_Decimal_ok d (by omega)]
  refine (if_pos (decide_eq_true c1)).trans ((if_pos (decide_eq_true c2)).trans ((if_pos (decide_eq_true c3)).trans ((if_pos (decide_eq_true c4)).trans ((if_pos (decide_eq_true c5)).trans ((if_pos (decide_eq_true c6)).trans ?_)))))
  simp
 have ht := key x.1 x.2.1 x.2.2.1 x.2.2.2.1 l1 l2 y1 d1 (impl_deed_ok h)
 refine ⟨_,ht,?_⟩
 have e1 := itoa_len x.2.2.1 ⟨Int.le_trans (by decide) y1.1,Int.le_trans y1.2 (by decide)⟩
 have e2 := itoa_len x.2.2.2.1 ⟨Int.le_trans (by decide) d1.1,Int.le_trans d1.2 (by decide)⟩
 have n1 : Lib.itoa x.2.2.1 ≠ [] := fun e => by rw [e] at e1; simp at e1
 have n2 : Lib.itoa x.2.2.2.1 ≠ [] := fun e => by rw [e] at e2; simp at e2
 have n3 : (32 : UInt8) ∉ x.1 ++ 45 :: x.2.1 := fun e => by
  rcases List.mem_append.1 e with e | e
  ·exact isName_no h.n1 (by decide) e
  ·rcases List.mem_cons.1 e with e | e
   ·exact absurd e (by decide)
   ·exact isName_no h.n2 (by decide) e
 have hs := impl_SplitWords_3 (Lib.itoa x.2.2.1) (x.1 ++ 45 :: x.2.1) (Lib.itoa x.2.2.2.1) n1 (by simp) n2 (itoa_no _ (by decide) (by decide)) n3 (itoa_no _ (by decide) (by decide)) (by simp only [List.length_append,List.length_cons]; omega)
 have hc : Lib.cut (x.1 ++ 45 :: x.2.1) [45] = (x.1,x.2.1,true) := cut1_at _ (isName_no h.n1 (by decide))
 have hcl : (x.1 ++ 45 :: x.2.1).length < 4294967281 := by simp only [List.length_append,List.length_cons]; omega
 have r1 : impl_ReadDecimal (Lib.itoa x.2.2.1) = some (x.2.2.1,true) := by rw [impl_ReadDecimal_eq,readDecP_itoa _ ⟨Int.le_trans (by decide) y1.1,Int.le_trans y1.2 (by decide)⟩]
 have r2 : impl_ReadDecimal (Lib.itoa x.2.2.2.1) = some (x.2.2.2.1,true) := by rw [impl_ReadDecimal_eq,readDecP_itoa _ ⟨Int.le_trans (by decide) d1.1,Int.le_trans d1.2 (by decide)⟩]
 rw [impl_ReadDeed_eq,hs,Option.bind_some]
 generalize hA : Lib.itoa x.2.2.1 = A at *
 generalize hD : Lib.itoa x.2.2.2.1 = D at *
 generalize hN : x.1 ++ 45 :: x.2.1 = N at *
 have g0 : ([A,N,D] : List (List UInt8))[0]? = some A := rfl
 have g1 : ([A,N,D] : List (List UInt8))[1]? = some N := rfl
 have g2 : ([A,N,D] : List (List UInt8))[2]? = some D := rfl
 have gl : (([A,N,D] : List (List UInt8)).length : Int) = 3 := rfl
 have hcut : strings_Cut N [45] = some (x.1,x.2.1,true) := by rw [strings_Cut_eq,if_pos (decide_eq_true hcl),hc]
 simp only [gl,g0,g1,g2,bne_self_eq_false,Bool.false_eq_true,if_false,Option.bind_some,r1,r2,hcut,Bool.not_true,ht,beq_self_eq_true]
 rfl
def lnk (L : List T_link.ty) (i : Nat) : T_link.ty := (L[i]?).getD (false,0,-1,())
def dd (ds : List T_Deed.ty) (i : Nat) : T_Deed.ty := (ds[i]?).getD ([],[],0,0,())
theorem dd_get {ds : List T_Deed.ty} {i : Nat} (h : i < ds.length) : ds[i]? = some (dd ds i) := by simp [dd,List.getElem?_eq_getElem h]
theorem lnk_get {L : List T_link.ty} {i : Nat} (h : i < L.length) : L[i]? = some (lnk L i) := by simp [lnk,List.getElem?_eq_getElem h]
theorem dd_ok {ds : List T_Deed.ty} (h : DeedsOk ds) {i : Nat} (hi : i < ds.length) : DeedOk (dd ds i) := by
 have e : dd ds i = ds[i] := by simp [dd,List.getElem?_eq_getElem hi]
 rw [e]; exact h.ok _ (List.getElem_mem hi)
def cst (L : List T_link.ty) (i : Nat) : Int := (lnk L i).2.1
def prv (L : List T_link.ty) (i : Nat) : Int := (lnk L i).2.2.1
def dbt (ds : List T_Deed.ty) (i : Nat) : Int := (dd ds i).2.2.2.1
theorem cst_eq (L : List T_link.ty) (i : Nat) : (lnk L i).2.1 = cst L i := rfl
theorem prv_eq (L : List T_link.ty) (i : Nat) : (lnk L i).2.2.1 = prv L i := rfl
theorem dbt_eq (ds : List T_Deed.ty) (i : Nat) : (dd ds i).2.2.2.1 = dbt ds i := rfl
theorem dbt_bd {ds : List T_Deed.ty} (h : DeedsOk ds) {i : Nat} (hi : i < ds.length) : 0 ≤ dbt ds i ∧ dbt ds i ≤ 1000 := (dd_ok h hi).db
structure Tab (ds : List T_Deed.ty) (v : List UInt8) (L : List T_link.ty) (n : Nat) : Prop where
 bd : ∀ i,i < n → (lnk L i).1 = true → 0 ≤ cst L i ∧ cst L i ≤ 1000 * (i + 1 : Int)
 way : ∀ i,i < n → (lnk L i).1 = true → (prv L i = -1 ∧ (dd ds i).1 = v ∧ cst L i = (dbt ds i)) ∨ ∃ j : Nat,prv L i = j ∧ j < i ∧ (lnk L j).1 = true ∧ (dd ds j).2.1 = (dd ds i).1 ∧ cst L i = (cst L j) + (dbt ds i)
 one : ∀ i,i < n → (dd ds i).1 = v → (lnk L i).1 = true ∧ cst L i ≤ (dbt ds i)
 best : ∀ i,i < n → ∀ j,j < i → (lnk L j).1 = true → (dd ds j).2.1 = (dd ds i).1 → (lnk L i).1 = true ∧ cst L i ≤ (cst L j) + (dbt ds i)
structure Row (ds : List T_Deed.ty) (v : List UInt8) (L : List T_link.ty) (i k : Nat) (ok : Bool) (c p : Int) : Prop where
 bd : ok = true → 0 ≤ c ∧ c ≤ 1000 * (i + 1 : Int)
 way : ok = true → (p = -1 ∧ (dd ds i).1 = v ∧ c = (dbt ds i)) ∨ ∃ j : Nat,p = j ∧ j < i ∧ (lnk L j).1 = true ∧ (dd ds j).2.1 = (dd ds i).1 ∧ c = (cst L j) + (dbt ds i)
 one : (dd ds i).1 = v → ok = true ∧ c ≤ (dbt ds i)
 best : ∀ j,j < k → (lnk L j).1 = true → (dd ds j).2.1 = (dd ds i).1 → ok = true ∧ c ≤ (cst L j) + (dbt ds i)
theorem lnk_app {L : List T_link.ty} {x : T_link.ty} {i : Nat} (h : i < L.length) : lnk (L ++ [x]) i = lnk L i := by simp [lnk,List.getElem?_append_left h]
theorem lnk_last (L : List T_link.ty) (x : T_link.ty) : lnk (L ++ [x]) L.length = x := by simp [lnk]
theorem Row.tab {ds : List T_Deed.ty} {v : List UInt8} {L : List T_link.ty} (h : Tab ds v L L.length) {ok : Bool} {c p : Int} (r : Row ds v L L.length L.length ok c p) : Tab ds v (L ++ [(ok,c,p,())]) (L.length + 1) := by
 have old : ∀ i,i < L.length → lnk (L ++ [(ok,c,p,())]) i = lnk L i := fun i hi => lnk_app hi
 have oc : ∀ i,i < L.length → cst (L ++ [(ok,c,p,())]) i = cst L i := fun i hi => by rw [cst,old i hi,cst]
 have op : ∀ i,i < L.length → prv (L ++ [(ok,c,p,())]) i = prv L i := fun i hi => by rw [prv,old i hi,prv]
 have new : lnk (L ++ [(ok,c,p,())]) L.length = (ok,c,p,()) := lnk_last L _
 have nk : (lnk (L ++ [(ok,c,p,())]) L.length).1 = ok := by rw [new]
 have nc : cst (L ++ [(ok,c,p,())]) L.length = c := by rw [cst,new]
 have np : prv (L ++ [(ok,c,p,())]) L.length = p := by rw [prv,new]
 constructor
 ·intro i hi hk
  by_cases h0 : i = L.length
  ·subst h0; rw [nk] at hk; rw [nc]; exact r.bd hk
  ·rw [old i (by omega)] at hk; rw [oc i (by omega)]; exact h.bd i (by omega) hk
 ·intro i hi hk
  by_cases h0 : i = L.length
  ·subst h0
   rw [nk] at hk
   rw [nc,np]
   rcases r.way hk with a | ⟨j,a,b,c',d,e⟩
   ·exact .inl a
   ·exact .inr ⟨j,a,b,by rw [old j b]; exact c',d,by rw [oc j b]; exact e⟩
  ·rw [old i (by omega)] at hk
   rw [oc i (by omega),op i (by omega)]
   rcases h.way i (by omega) hk with a | ⟨j,a,b,c',d,e⟩
   ·exact .inl a
   ·exact .inr ⟨j,a,b,by rw [old j (by omega)]; exact c',d,by rw [oc j (by omega)]; exact e⟩
 ·intro i hi hv
  by_cases h0 : i = L.length
  ·subst h0; rw [nk,nc]; exact r.one hv
  ·rw [old i (by omega),oc i (by omega)]; exact h.one i (by omega) hv
 ·intro i hi j hj hk hd
  by_cases h0 : i = L.length
  ·subst h0; rw [old j hj] at hk; rw [nk,nc,oc j hj]; exact r.best j hj hk hd
  ·rw [old j (by omega)] at hk; rw [old i (by omega),oc i (by omega),oc j (by omega)]; exact h.best i (by omega) j hj hk hd
theorem Row.start {ds : List T_Deed.ty} (hds : DeedsOk ds) {v : List UInt8} {L : List T_link.ty} {i : Nat} (hi : i < ds.length) : Row ds v L i 0 ((dd ds i).1 == v) (dbt ds i) (-1) := by
 have hd := dbt_bd hds hi
 exact ⟨fun _ => by omega,fun h => .inl ⟨rfl,by simpa using h,rfl⟩,fun h => ⟨by simpa using h,Int.le_refl _⟩,fun j hj => by omega⟩
theorem Row.skip {ds : List T_Deed.ty} {v : List UInt8} {L : List T_link.ty} {i k : Nat} {ok : Bool} {c p : Int} (r : Row ds v L i k ok c p) (h : (lnk L k).1 = true → (dd ds k).2.1 = (dd ds i).1 → ok = true ∧ c ≤ (cst L k) + (dbt ds i)) : Row ds v L i (k + 1) ok c p :=
 ⟨r.bd,r.way,r.one,fun j hj hk hd => by
   by_cases h0 : j = k
   ·subst h0; exact h hk hd
   ·exact r.best j (by omega) hk hd⟩
theorem Row.take {ds : List T_Deed.ty} (hds : DeedsOk ds) {v : List UInt8} {L : List T_link.ty} {i k : Nat} {ok : Bool} {c p : Int} (hi : i < ds.length) (hki : k < i) (hb : 0 ≤ cst L k ∧ cst L k ≤ 1000 * (k + 1 : Int)) (r : Row ds v L i k ok c p) (h1 : (lnk L k).1 = true) (h2 : (dd ds k).2.1 = (dd ds i).1) (h3 : ok = true → cst L k + (dbt ds i) < c) :
 Row ds v L i (k + 1) true ((cst L k) + (dbt ds i)) k := by
 have hd := dbt_bd hds hi
 refine ⟨fun _ => by omega,fun _ => .inr ⟨k,rfl,hki,h1,h2,rfl⟩,fun hv => ⟨rfl,?_⟩,fun j hj hk hd' => ⟨rfl,?_⟩⟩
 ·obtain ⟨a,b⟩ := r.one hv
  have := h3 a; omega
 ·by_cases h0 : j = k
  ·subst h0; exact Int.le_refl _
  ·obtain ⟨a,b⟩ := r.best j (by omega) hk hd'
   have := h3 a; omega
theorem links1 (ds : List T_Deed.ty) (hds : DeedsOk ds) (v : List UInt8) (L : List T_link.ty) (hL : Tab ds v L L.length) (hi : L.length < ds.length) : ∀ (n k : Nat) (ok : Bool) (c p : Int),k + n = L.length → Row ds v L L.length k ok c p →
 ∃ (ok' : Bool) (c' p' : Int),Row ds v L L.length L.length ok' c' p' ∧ impl_links_p1 ds v ds ds.length L.length L.length k L (dd ds L.length).1 (dd ds L.length).2.1 (dd ds L.length).2.2.1 (dbt ds L.length) ok c p = impl_links_p0 ds v ds ds.length ((L.length + 1 : Nat) : Int) (L ++ [(ok',c',p',())])
 | 0,k,ok,c,p,hk,r => by
   have e : k = L.length := by omega
   subst e
   have hl := hds.len
   have hlt : ¬ (L.length : Int) < (L.length : Int) := by omega
   have hlim : L.length + 1 < lim := by rw [lim_eq]; omega
   have hw : IntKind.i64.wrap ((L.length : Int) + 1) = ((L.length + 1 : Nat) : Int) := by rw [w64 (by omega) (by omega)]; omega
   refine ⟨ok,c,p,r,?_⟩
   rw [impl_links_p1_eq]
   simp only [hlt,decide_false,Bool.false_eq_true,if_false,hlim,decide_true,if_true,List.take_length,hw]
 | n + 1,k,ok,c,p,hk,r => by
   have hl := hds.len
   have hkL : k < L.length := by omega
   have hlt : (k : Int) < (L.length : Int) := by omega
   have hw : IntKind.i64.wrap ((k : Int) + 1) = ((k + 1 : Nat) : Int) := by rw [w64 (by omega) (by omega)]; omega
   rw [impl_links_p1_eq]
   simp only [hlt,decide_true,if_true,Int.natCast_nonneg,Bool.and_self,Int.toNat_natCast,cst_eq,prv_eq,dbt_eq,lnk_get hkL,dd_get (show k < ds.length by omega),Option.bind_some,hw,impl_links_p2_eq]
   by_cases h1 : (lnk L k).1 = true
   ·simp only [h1,if_true]
    have hb := hL.bd k hkL h1
    have hd := dbt_bd hds hi
    have hw2 : IntKind.i64.wrap ((cst L k) + (dbt ds L.length)) = (cst L k) + (dbt ds L.length) := w64 (by omega) (by omega)
    by_cases h2 : (dd ds k).2.1 = (dd ds L.length).1
    ·rw [if_pos (by simpa using h2)]
     cases ok with
     | false =>
       simp only [Bool.not_false,if_true,hw2]
       exact links1 ds hds v L hL hi n (k + 1) true _ k (by omega) (Row.take hds hi hkL hb r h1 h2 (fun h => by cases h))
     | true =>
       simp only [Bool.not_true,Bool.false_eq_true,if_false,hw2]
       by_cases h3 : cst L k + (dbt ds L.length) < c
       ·rw [if_pos (decide_eq_true h3)]
        exact links1 ds hds v L hL hi n (k + 1) true _ k (by omega) (Row.take hds hi hkL hb r h1 h2 (fun _ => h3))
       ·rw [if_neg (by simpa using h3)]
        exact links1 ds hds v L hL hi n (k + 1) true c p (by omega) (Row.skip r (fun _ _ => ⟨rfl,by omega⟩))
    ·rw [if_neg (by simpa using h2)]
     exact links1 ds hds v L hL hi n (k + 1) ok c p (by omega) (Row.skip r (fun _ h => absurd h h2))
   ·simp only [h1,Bool.false_eq_true,if_false]
    exact links1 ds hds v L hL hi n (k + 1) ok c p (by omega) (Row.skip r (fun h _ => absurd h h1))
theorem links0 (ds : List T_Deed.ty) (hds : DeedsOk ds) (v : List UInt8) : ∀ (n : Nat) (L : List T_link.ty),L.length + n = ds.length → Tab ds v L L.length → ∃ L',impl_links_p0 ds v ds ds.length L.length L = some L' ∧ L'.length = ds.length ∧ Tab ds v L' ds.length
 | 0,L,hk,hL => by
   have hlt : ¬ (L.length : Int) < (ds.length : Int) := by omega
   rw [impl_links_p0_eq]
   simp only [hlt,decide_false,Bool.false_eq_true,if_false,List.take_length]
   have e : L.length = ds.length := by omega
   exact ⟨L,rfl,e,by rw [← e]; exact hL⟩
 | n + 1,L,hk,hL => by
   have hi : L.length < ds.length := by omega
   have hlt : (L.length : Int) < (ds.length : Int) := by omega
   obtain ⟨ok,c,p,r,e⟩ := links1 ds hds v L hL hi L.length 0 _ _ _ (by omega) (Row.start hds hi)
   have e : impl_links_p1 ds v ds ds.length L.length L.length 0 L (dd ds L.length).1 (dd ds L.length).2.1 (dd ds L.length).2.2.1 (dbt ds L.length) ((dd ds L.length).1 == v) (dbt ds L.length) (-1) = _ := e
   rw [impl_links_p0_eq]
   simp only [hlt,decide_true,if_true,Int.natCast_nonneg,Int.toNat_natCast,cst_eq,prv_eq,dbt_eq,dd_get hi,Option.bind_some,e]
   have := links0 ds hds v n (L ++ [(ok,c,p,())]) (by simp only [List.length_append,List.length_cons,List.length_nil]; omega) (by rw [List.length_append,List.length_singleton]; exact Row.tab hL r)
   rw [List.length_append,List.length_singleton] at this
   exact this
theorem links_ok (ds : List T_Deed.ty) (hds : DeedsOk ds) (v : List UInt8) : ∃ L,impl_links ds v = some L ∧ L.length = ds.length ∧ Tab ds v L ds.length := by
 have := links0 ds hds v ds.length [] (by simp) ⟨fun i h => by simp at h,fun i h => by simp at h,fun i h => by simp at h,fun i h => by simp at h⟩
 rw [impl_links_eq]
 exact this
def ic (cs : List Nat) : List Int := cs.map fun n : Nat => (n : Int)
theorem ic_len (cs : List Nat) : (ic cs).length = cs.length := by simp [ic]
theorem ic_get {cs : List Nat} {i : Nat} (h : i < cs.length) : (ic cs)[i]? = some ((cs[i] : Nat) : Int) := by simp [ic,List.getElem?_eq_getElem h]
structure Ch (ds : List T_Deed.ty) (cs : List Nat) : Prop where
 ne : 0 < cs.length
 lt : ∀ i (h : i < cs.length),cs[i] < ds.length
 step : ∀ i (h : i + 1 < cs.length),cs[i] < cs[i + 1] ∧ (dd ds cs[i]).2.1 = (dd ds cs[i + 1]).1
def sumD (ds : List T_Deed.ty) (cs : List Nat) : Int := (cs.map fun i => dbt ds i).sum
theorem sumD_snoc (ds : List T_Deed.ty) (cs : List Nat) (k : Nat) : sumD ds (cs ++ [k]) = sumD ds cs + (dbt ds k) := by simp [sumD]
theorem sumD_cons (ds : List T_Deed.ty) (cs : List Nat) (k : Nat) : sumD ds (k :: cs) = (dbt ds k) + sumD ds cs := by simp [sumD]
theorem Ch.mono {ds : List T_Deed.ty} {cs : List Nat} (h : Ch ds cs) : ∀ (d i : Nat) (hj : i + d < cs.length),cs[i] + d ≤ cs[i + d]
 | 0,i,hj => Nat.le_refl _
 | d + 1,i,hj => by
   have h1 := h.mono d i (by omega)
   have h2 := (h.step (i + d) (by omega)).1
   have e : i + d + 1 = i + (d + 1) := by omega
   simp only [e] at h2
   omega
theorem Ch.len {ds : List T_Deed.ty} {cs : List Nat} (h : Ch ds cs) : cs.length ≤ ds.length := by
 have h0 := h.ne
 have h1 := h.mono (cs.length - 1) 0 (by omega)
 have h2 := h.lt (0 + (cs.length - 1)) (by omega)
 omega
theorem impl_chain_loop (ds : List T_Deed.ty) (hl : ds.length ≤ 8) (cs : List Nat) (h : Ch ds cs) : ∀ (k i : Nat),i + k = cs.length → impl_isChain_p0 ds (ic cs) (ic cs) (ic cs).length i = some true
 | 0,i,hk => by
   have hlt : ¬ (i : Int) < ((ic cs).length : Int) := by rw [ic_len]; omega
   have h0 : ((ic cs).length : Int) > 0 := by rw [ic_len]; have := h.ne; omega
   rw [impl_isChain_p0_eq]
   simp only [hlt,decide_false,Bool.false_eq_true,if_false,h0,decide_true]
 | k + 1,i,hk => by
   have hlen := h.len
   have hi : i < cs.length := by omega
   have hlt : (i : Int) < ((ic cs).length : Int) := by rw [ic_len]; omega
   have hw : IntKind.i64.wrap ((i : Int) + 1) = ((i + 1 : Nat) : Int) := by rw [w64 (by omega) (by omega)]; omega
   have hc := h.lt i hi
   have ih := impl_chain_loop ds hl cs h k (i + 1) (by omega)
   have hat : impl_at ((cs[i] : Nat) : Int) (ds.length : Int) = some true := by
    have a : ((cs[i] : Nat) : Int) ≥ 0 := by omega
    have b : ((cs[i] : Nat) : Int) < (ds.length : Int) := by omega
    rw [impl_at_eq,if_pos (decide_eq_true a),decide_eq_true b]
   rw [impl_isChain_p0_eq]
   simp only [hlt,decide_true,if_true,Int.natCast_nonneg,Int.toNat_natCast,ic_get hi,Option.bind_some,hat,Bool.not_true,Bool.false_eq_true,if_false,hw,ih]
   by_cases h0 : (i : Int) > 0
   ·obtain ⟨j,rfl⟩ : ∃ j,i = j + 1 := ⟨i - 1,by omega⟩
    have hw1 : IntKind.i64.wrap (((j + 1 : Nat) : Int) - 1) = ((j : Nat) : Int) := by rw [w64 (by omega) (by omega)]; omega
    obtain ⟨s1,s2⟩ := h.step j (by omega)
    have hge : ¬ ((cs[j] : Nat) : Int) ≥ ((cs[j + 1] : Nat) : Int) := by omega
    simp only [h0,decide_true,if_true,hw1,Int.natCast_nonneg,Int.toNat_natCast,ic_get (show j < cs.length by omega),Option.bind_some,hge,decide_false,Bool.false_eq_true,if_false,cst_eq,prv_eq,dbt_eq,dd_get (h.lt j (by omega)),dd_get hc,s2,beq_self_eq_true,Bool.not_true]
   ·simp only [h0,decide_false,Bool.false_eq_true,if_false]
theorem impl_chain_ok {ds : List T_Deed.ty} (hl : ds.length ≤ 8) {cs : List Nat} (h : Ch ds cs) : impl_isChain ds (ic cs) = some true := by
 rw [impl_isChain_eq]; exact impl_chain_loop ds hl cs h cs.length 0 (by omega)
theorem rises_loop (cs : List Nat) (n : Int) (hl : cs.length ≤ 100) (h1 : ∀ i (h : i < cs.length),(cs[i] : Int) ≤ n) (h2 : ∀ i (h : i + 1 < cs.length),cs[i] < cs[i + 1]) : ∀ (k i : Nat),i + k = cs.length → spec_l00Rises_p0 (ic cs) 0 n i = some true
 | 0,i,hk => by
   have hlt : ¬ (i : Int) < ((ic cs).length : Int) := by rw [ic_len]; omega
   rw [spec_l00Rises_p0_eq]
   simp only [hlt,decide_false,Bool.false_eq_true,if_false]
 | k + 1,i,hk => by
   have hi : i < cs.length := by omega
   have hlt : (i : Int) < ((ic cs).length : Int) := by rw [ic_len]; omega
   have hw : IntKind.i64.wrap ((i : Int) + 1) = ((i + 1 : Nat) : Int) := by rw [w64 (by omega) (by omega)]; omega
   have ih := rises_loop cs n hl h1 h2 k (i + 1) (by omega)
   have hin : inR ((cs[i] : Nat) : Int) 0 n = true := inR_iff'.2 ⟨by omega,h1 i hi⟩
   rw [spec_l00Rises_p0_eq]
   simp only [hlt,decide_true,if_true,Int.natCast_nonneg,Int.toNat_natCast,ic_get hi,Option.bind_some,spec_l00In_ok,hin,Bool.not_true,Bool.false_eq_true,if_false,hw,ih]
   by_cases h0 : (i : Int) > 0
   ·obtain ⟨j,rfl⟩ : ∃ j,i = j + 1 := ⟨i - 1,by omega⟩
    have hw1 : IntKind.i64.wrap (((j + 1 : Nat) : Int) - 1) = ((j : Nat) : Int) := by rw [w64 (by omega) (by omega)]; omega
    have s1 := h2 j (by omega)
    have hge : ¬ ((cs[j] : Nat) : Int) ≥ ((cs[j + 1] : Nat) : Int) := by omega
    simp only [h0,decide_true,if_true,hw1,Int.natCast_nonneg,Int.toNat_natCast,ic_get (show j < cs.length by omega),Option.bind_some,hge,decide_false,Bool.false_eq_true,if_false]
   ·simp only [h0,decide_false,Bool.false_eq_true,if_false]
theorem spec_chain_loop (ds : List T_Deed.ty) (hl : ds.length ≤ 8) (cs : List Nat) (h : Ch ds cs) : ∀ (k i : Nat),i + 1 + k = cs.length → spec_l19Chain_p1 ds (ic cs) ((i + 1 : Nat) : Int) = some true
 | 0,i,hk => by
   have hlt : ¬ ((i + 1 : Nat) : Int) < ((ic cs).length : Int) := by rw [ic_len]; omega
   rw [spec_l19Chain_p1_eq]
   simp only [hlt,decide_false,Bool.false_eq_true,if_false]
 | k + 1,i,hk => by
   have hlen := h.len
   have hi : i + 1 < cs.length := by omega
   have hlt : ((i + 1 : Nat) : Int) < ((ic cs).length : Int) := by rw [ic_len]; omega
   have hw : IntKind.i64.wrap (((i + 1 : Nat) : Int) + 1) = ((i + 1 + 1 : Nat) : Int) := by rw [w64 (by omega) (by omega)]; omega
   have hw1 : IntKind.i64.wrap (((i + 1 : Nat) : Int) - 1) = ((i : Nat) : Int) := by rw [w64 (by omega) (by omega)]; omega
   obtain ⟨s1,s2⟩ := h.step i hi
   rw [spec_l19Chain_p1_eq]
   simp only [hlt,decide_true,if_true,hw1,Int.natCast_nonneg,Int.toNat_natCast,ic_get (show i < cs.length by omega),ic_get hi,Option.bind_some,cst_eq,prv_eq,dbt_eq,dd_get (h.lt i (by omega)),dd_get (h.lt (i + 1) hi),s2,beq_self_eq_true,Bool.not_true,Bool.false_eq_true,if_false,hw]
   exact spec_chain_loop ds hl cs h k (i + 1) (by omega)
theorem spec_chain_ok {ds : List T_Deed.ty} (hds : DeedsOk ds) {cs : List Nat} (h : Ch ds cs) : spec_IsChain ds (ic cs) = some true := by
 have hl := hds.len
 have h0 := h.ne
 have hlen := h.len
 have hw : IntKind.i64.wrap ((ds.length : Int) - 1) = (ds.length : Int) - 1 := w64 (by omega) (by omega)
 have hr := rises_loop cs ((ds.length : Int) - 1) (by omega) (fun i hi => by have := h.lt i hi; omega) (fun i hi => (h.step i hi).1) cs.length 0 (by omega)
 have hr : spec_l00Rises_p0 (ic cs) 0 ((ds.length : Int) - 1) 0 = some true := hr
 have hc := spec_chain_loop ds hl cs h (cs.length - 1) 0 (by omega)
 have hc : spec_l19Chain_p1 ds (ic cs) 1 = some true := hc
 have hz : ((ic cs).length : Int) ≠ 0 := by rw [ic_len]; omega
 rw [spec_IsChain_eq,spec_deeds_ok hds,Option.bind_some,spec_l19Chain_eq,if_pos rfl,if_neg (by simpa using hz),hw,spec_l00Rises_eq,hr]
 simp only [Option.bind_some,Bool.not_true,Bool.false_eq_true,if_false,spec_l19Chain_p0_eq,hc]
theorem spec_pair_no {ds : List T_Deed.ty} (hds : DeedsOk ds) {a b : Nat} (hab : a < b) (hb : b < ds.length) (hne : (dd ds a).2.1 ≠ (dd ds b).1) : spec_IsChain ds (ic [a,b]) = some false := by
 have hl := hds.len
 have hw : IntKind.i64.wrap ((ds.length : Int) - 1) = (ds.length : Int) - 1 := w64 (by omega) (by omega)
 have hr := rises_loop [a,b] ((ds.length : Int) - 1) (by simp) (fun i hi => by
  match i,hi with
  | 0,_ => simp only [List.getElem_cons_zero]; omega
  | 1,_ => simp only [List.getElem_cons_succ,List.getElem_cons_zero]; omega) (fun i hi => by
  match i,hi with
  | 0,_ => exact hab) 2 0 rfl
 have hr : spec_l00Rises_p0 (ic [a,b]) 0 ((ds.length : Int) - 1) 0 = some true := hr
 have hz : ((ic [a,b]).length : Int) ≠ 0 := by simp [ic]
 have w1 : IntKind.i64.wrap (1 - 1) = 0 := by decide
 have hlt : (1 : Int) < ((ic [a,b]).length : Int) := by simp [ic]
 have g0 : (ic [a,b])[(0 : Int).toNat]? = some (a : Int) := rfl
 have g1 : (ic [a,b])[(1 : Int).toNat]? = some (b : Int) := rfl
 have z0 : (0 : Int) ≤ 0 := by decide
 have z1 : (0 : Int) ≤ 1 := by decide
 have hn : ((dd ds a).2.1 == (dd ds b).1) = false := by simpa using hne
 rw [spec_IsChain_eq,spec_deeds_ok hds,Option.bind_some,spec_l19Chain_eq,if_pos rfl,if_neg (by simpa using hz),hw,spec_l00Rises_eq,hr]
 simp only [Option.bind_some,Bool.not_true,Bool.false_eq_true,if_false,spec_l19Chain_p0_eq]
 rw [spec_l19Chain_p1_eq,w1]
 simp only [hlt,z0,z1,decide_true,if_true,g0,g1,Option.bind_some,Int.natCast_nonneg,Int.toNat_natCast,cst_eq,prv_eq,dbt_eq,dd_get (show a < ds.length by omega),dd_get hb,hn,Bool.not_false]
theorem cost_chain {ds : List T_Deed.ty} {v : List UInt8} {L : List T_link.ty} (hL : Tab ds v L ds.length) {cs : List Nat} (h : Ch ds cs) (hv : (dd ds (cs[0]'h.ne)).1 = v) : ∀ (i : Nat) (hi : i < cs.length),(lnk L cs[i]).1 = true ∧ cst L cs[i] ≤ sumD ds (cs.take (i + 1))
 | 0,hi => by
   obtain ⟨a,b⟩ := hL.one cs[0] (h.lt 0 hi) hv
   have e : cs.take (0 + 1) = [cs[0]] := by rw [List.take_add_one,List.getElem?_eq_getElem hi]; rfl
   rw [e]
   exact ⟨a,by simp [sumD]; exact b⟩
 | i + 1,hi => by
   obtain ⟨a,b⟩ := cost_chain hL h hv i (by omega)
   obtain ⟨s1,s2⟩ := h.step i hi
   obtain ⟨c,d⟩ := hL.best cs[i + 1] (h.lt _ hi) cs[i] s1 a s2
   have e : cs.take (i + 1 + 1) = cs.take (i + 1) ++ [cs[i + 1]] := by rw [List.take_add_one,List.getElem?_eq_getElem hi]; rfl
   rw [e,sumD_snoc]
   exact ⟨c,by omega⟩
theorem reverse_loop (xs : List Int) (n : Nat) (hn : xs.length = n) (hl : n ≤ 1048576) : ∀ (k i : Nat) (r : List Int),n ≤ 2 * i + k → i ≤ n → r.length = n → (∀ q,q < n → r[q]? = if q < i ∨ n ≤ q + i then xs[n - 1 - q]? else xs[q]?) →
 slices_Reverse___int64_int64__p0 n n i ((n : Int) - 1 - i) r = some xs.reverse := by
 have fin : ∀ (i : Nat) (r : List Int),n ≤ 2 * i + 1 → i ≤ n → r.length = n → (∀ q,q < n → r[q]? = if q < i ∨ n ≤ q + i then xs[n - 1 - q]? else xs[q]?) → r = xs.reverse := fun i r h1 h2 h3 h4 => by
  apply List.ext_getElem?
  intro q
  by_cases hq : q < n
  ·rw [h4 q hq,List.getElem?_reverse (by omega),hn]
   split
   ·rfl
   ·rename_i h
    have : q = n - 1 - q := by omega
    rw [← this]
  ·rw [List.getElem?_eq_none (by omega),List.getElem?_eq_none (by rw [List.length_reverse]; omega)]
 intro k
 induction k with
 | zero =>
   intro i r h1 h2 h3 h4
   have hlt : ¬ (i : Int) < (n : Int) - 1 - i := by omega
   rw [slices_Reverse___int64_int64__p0_eq]
   simp only [hlt,decide_false,Bool.false_eq_true,if_false,h3,decide_true,if_true]
   rw [fin i r (by omega) h2 h3 h4]
 | succ k ih =>
   intro i r h1 h2 h3 h4
   by_cases hlt : (i : Int) < (n : Int) - 1 - i
   ·have hj : i + i + 1 < n := by omega
    have ej : ((n : Int) - 1 - i) = ((n - 1 - i : Nat) : Int) := by omega
    have hi2 : (i : Int) < (n : Int) := by omega
    have hj2 : ((n - 1 - i : Nat) : Int) < (n : Int) := by omega
    have hlt' : (i : Int) < ((n - 1 - i : Nat) : Int) := by omega
    have gi : r[i]? = some r[i] := List.getElem?_eq_getElem (by omega)
    have gj : r[n - 1 - i]? = some r[n - 1 - i] := List.getElem?_eq_getElem (by omega)
    have gj2 : (r.set i r[n - 1 - i])[n - 1 - i]? = some r[n - 1 - i] := by rw [List.getElem?_set_ne (by omega),gj]
    have w1 : IntKind.i64.wrap ((i : Int) + 1) = ((i + 1 : Nat) : Int) := by rw [w64 (by omega) (by omega)]; omega
    have w2 : IntKind.i64.wrap (((n - 1 - i : Nat) : Int) - 1) = (n : Int) - 1 - ((i + 1 : Nat) : Int) := by rw [w64 (by omega) (by omega)]; omega
    rw [slices_Reverse___int64_int64__p0_eq,ej]
    simp only [hlt',decide_true,if_true,Int.natCast_nonneg,hj2,hi2,Bool.and_self,Int.toNat_natCast,gi,gj,gj2,Option.bind_some,w1,w2]
    refine ih (i + 1) _ (by omega) (by omega) (by simp [h3]) fun q hq => ?_
    by_cases q1 : q = n - 1 - i
    ·subst q1
     rw [List.getElem?_set_self (by simp [h3]; omega),← gi,h4 i (by omega),if_neg (by omega),if_pos (by omega)]
     congr 1; omega
    ·rw [List.getElem?_set_ne (fun e => q1 e.symm)]
     by_cases q2 : q = i
     ·subst q2
      rw [List.getElem?_set_self (by omega),← gj,h4 _ (by omega),if_neg (by omega),if_pos (by omega)]
     ·rw [List.getElem?_set_ne (fun e => q2 e.symm),h4 q hq]
      by_cases c : q < i ∨ n ≤ q + i
      ·rw [if_pos c,if_pos (by omega)]
      ·rw [if_neg c,if_neg (by omega)]
   ·rw [slices_Reverse___int64_int64__p0_eq]
    simp only [hlt,decide_false,Bool.false_eq_true,if_false,h3,decide_true,if_true]
    rw [fin i r (by omega) h2 h3 h4]
theorem reverse_ok (xs : List Int) (hl : xs.length ≤ 1048576) : slices_Reverse___int64_int64_ xs = some xs.reverse := by
 have hw : IntKind.i64.wrap ((xs.length : Int) - 1) = (xs.length : Int) - 1 := w64 (by omega) (by omega)
 have := reverse_loop xs xs.length rfl hl xs.length 0 xs (by omega) (by omega) rfl (fun q hq => by rw [if_neg (by omega)])
 have e : (xs.length : Int) - 1 - ((0 : Nat) : Int) = (xs.length : Int) - 1 := by omega
 rw [e] at this
 rw [slices_Reverse___int64_int64__eq,hw]
 exact this
structure Back (ds : List T_Deed.ty) (L : List T_link.ty) (b f : Nat) (cs : List Nat) : Prop where
 ch : Ch ds (f :: cs)
 last : (f :: cs)[cs.length]'(by simp) = b
 ok : (lnk L f).1 = true
 sum : cst L b = (cst L f) + sumD ds cs
theorem Back.more {ds : List T_Deed.ty} {L : List T_link.ty} {b f j : Nat} {cs : List Nat} (h : Back ds L b f cs) (hj : j < f) (ho : (lnk L j).1 = true) (ht : (dd ds j).2.1 = (dd ds f).1) (hc : cst L f = (cst L j) + (dbt ds f)) : Back ds L b j (f :: cs) := by
 have hf := h.ch.lt 0 (by simp)
 simp only [List.getElem_cons_zero] at hf
 refine ⟨⟨by simp,fun i hi => ?_,fun i hi => ?_⟩,?_,ho,?_⟩
 ·cases i with
  | zero => simp only [List.getElem_cons_zero]; omega
  | succ i => simp only [List.getElem_cons_succ]; exact h.ch.lt i (by simpa using hi)
 ·cases i with
  | zero => simp only [List.getElem_cons_zero,List.getElem_cons_succ]; exact ⟨hj,ht⟩
  | succ i => simp only [List.getElem_cons_succ]; exact h.ch.step i (by simpa using hi)
 ·simp only [List.length_cons,List.getElem_cons_succ]; exact h.last
 ·rw [sumD_cons]; have := h.sum; omega
theorem back_loop (ds : List T_Deed.ty) (hds : DeedsOk ds) (v : List UInt8) (L : List T_link.ty) (hLn : L.length = ds.length) (hL : Tab ds v L ds.length) (b : Nat) (hb : b < ds.length) : ∀ (m f : Nat) (cs : List Nat),f ≤ m → Back ds L b f cs →
 ∃ cs',Ch ds cs' ∧ (∃ h : 0 < cs'.length,(dd ds cs'[0]).1 = v ∧ cs'[cs'.length - 1] = b) ∧ sumD ds cs' = (cst L b) ∧ impl_BestChain_p2 b (prv L f) L (ic (f :: cs)).reverse = some (ic cs',(cst L b),0) := by
 intro m
 induction m with
 | zero =>
   intro f cs hf h
   have e : f = 0 := by omega
   subst e
   have hl := hds.len
   rcases hL.way 0 (by omega) h.ok with ⟨a1,a2,a3⟩ | ⟨j,_,a2,_⟩
   ·have hlen := h.ch.len
    have hb2 : (b : Int) < (L.length : Int) := by omega
    have hneg : ¬ (-1 : Int) ≥ 0 := by decide
    refine ⟨0 :: cs,h.ch,⟨by simp,a2,?_⟩,?_,?_⟩
    ·have := h.last; simpa using this
    ·rw [sumD_cons,← a3]; exact h.sum.symm
    ·rw [a1,impl_BestChain_p2_eq]
     simp only [hneg,decide_false,Bool.false_eq_true,if_false,decide_true,if_true]
     rw [reverse_ok _ (by rw [List.length_reverse,ic_len]; omega),Option.bind_some,List.reverse_reverse,List.length_reverse]
     simp only [Int.natCast_nonneg,hb2,decide_true,Bool.and_self,if_true,Int.toNat_natCast,cst_eq,prv_eq,dbt_eq,lnk_get (show b < L.length by omega),Option.bind_some,List.take_length]
   ·omega
 | succ m ih =>
   intro f cs hf h
   have hl := hds.len
   have hfl := h.ch.lt 0 (by simp)
   simp only [List.getElem_cons_zero] at hfl
   have hlen := h.ch.len
   rcases hL.way f hfl h.ok with ⟨a1,a2,a3⟩ | ⟨j,a1,a2,a3,a4,a5⟩
   ·have hb2 : (b : Int) < (L.length : Int) := by omega
    have hneg : ¬ (-1 : Int) ≥ 0 := by decide
    refine ⟨f :: cs,h.ch,⟨by simp,a2,?_⟩,?_,?_⟩
    ·have := h.last; simpa using this
    ·rw [sumD_cons,← a3]; exact h.sum.symm
    ·rw [a1,impl_BestChain_p2_eq]
     simp only [hneg,decide_false,Bool.false_eq_true,if_false,decide_true,if_true]
     rw [reverse_ok _ (by rw [List.length_reverse,ic_len]; omega),Option.bind_some,List.reverse_reverse,List.length_reverse]
     simp only [Int.natCast_nonneg,hb2,decide_true,Bool.and_self,if_true,Int.toNat_natCast,cst_eq,prv_eq,dbt_eq,lnk_get (show b < L.length by omega),Option.bind_some,List.take_length]
   ·obtain ⟨cs',c1,c2,c3,c4⟩ := ih j (f :: cs) (by omega) (h.more a2 a3 a4 a5)
    refine ⟨cs',c1,c2,c3,?_⟩
    have hge : ((j : Nat) : Int) ≥ 0 := by omega
    have hj2 : ((j : Nat) : Int) < (L.length : Int) := by omega
    have hlim : (ic (f :: cs)).reverse.length + 1 < lim := by rw [lim_eq,List.length_reverse,ic_len]; omega
    have er : (ic (f :: cs)).reverse ++ [(j : Int)] = (ic (j :: f :: cs)).reverse := by simp [ic]
    rw [a1,impl_BestChain_p2_eq]
    simp only [hge,decide_true,if_true,hlim,Int.natCast_nonneg,hj2,Bool.and_self,Int.toNat_natCast,cst_eq,prv_eq,dbt_eq,lnk_get (show j < L.length by omega),Option.bind_some,List.take_length,er]
    exact c4
theorem best_loop (ds : List T_Deed.ty) (hds : DeedsOk ds) (v w : List UInt8) (L : List T_link.ty) (hLn : L.length = ds.length) (hL : Tab ds v L ds.length) : ∀ (k i : Nat) (b : Int),i + k = ds.length →
 ((b = -1 ∧ ∀ j,j < i → (lnk L j).1 = true → (dd ds j).2.1 ≠ w) ∨ ∃ b' : Nat,b = b' ∧ b' < i ∧ (lnk L b').1 = true ∧ (dd ds b').2.1 = w ∧ ∀ j,j < i → (lnk L j).1 = true → (dd ds j).2.1 = w → cst L b' ≤ (cst L j)) →
 (impl_BestChain_p1 ds w b L.length i L = some ([],0,3) ∧ ∀ j,j < ds.length → (lnk L j).1 = true → (dd ds j).2.1 ≠ w) ∨ ∃ b' : Nat,b' < ds.length ∧ (lnk L b').1 = true ∧ (dd ds b').2.1 = w ∧ (∀ j,j < ds.length → (lnk L j).1 = true → (dd ds j).2.1 = w → cst L b' ≤ (cst L j)) ∧ impl_BestChain_p1 ds w b L.length i L = impl_BestChain_p2 b' b' L []
 | 0,i,b,hk,h => by
   have e : i = ds.length := by omega
   subst e
   have hlt : ¬ (ds.length : Int) < (L.length : Int) := by omega
   rw [impl_BestChain_p1_eq]
   simp only [hlt,decide_false,Bool.false_eq_true,if_false]
   rcases h with ⟨rfl,h⟩ | ⟨b',rfl,h1,h2,h3,h4⟩
   ·exact .inl ⟨rfl,h⟩
   ·have hn : ¬ (b' : Int) < 0 := by omega
    exact .inr ⟨b',h1,h2,h3,h4,by simp only [hn,decide_false,Bool.false_eq_true,if_false]⟩
 | k + 1,i,b,hk,h => by
   have hl := hds.len
   have hi : i < ds.length := by omega
   have hlt : (i : Int) < (L.length : Int) := by omega
   have hw : IntKind.i64.wrap ((i : Int) + 1) = ((i + 1 : Nat) : Int) := by rw [w64 (by omega) (by omega)]; omega
   rw [impl_BestChain_p1_eq]
   simp only [hlt,decide_true,if_true,Int.natCast_nonneg,Bool.and_self,Int.toNat_natCast,cst_eq,prv_eq,dbt_eq,lnk_get (show i < L.length by omega),dd_get hi,Option.bind_some,hw]
   by_cases h1 : (lnk L i).1 = true
   ·simp only [h1,if_true]
    by_cases h2 : (dd ds i).2.1 = w
    ·rw [if_pos (by simpa using h2)]
     rcases h with ⟨rfl,h⟩ | ⟨b',rfl,g1,g2,g3,g4⟩
     ·have hn : (-1 : Int) < 0 := by decide
      simp only [hn,decide_true,if_true]
      refine best_loop ds hds v w L hLn hL k (i + 1) i (by omega) (.inr ⟨i,rfl,by omega,h1,h2,fun j hj a c => ?_⟩)
      by_cases e : j = i
      ·subst e; exact Int.le_refl _
      ·exact absurd c (h j (by omega) a)
     ·have hn : ¬ (b' : Int) < 0 := by omega
      have hb2 : (b' : Int) < (L.length : Int) := by omega
      simp only [hn,hb2,decide_false,decide_true,Bool.false_eq_true,if_false,if_true,Int.natCast_nonneg,Bool.and_self,Int.toNat_natCast,cst_eq,prv_eq,dbt_eq,lnk_get (show b' < L.length by omega),Option.bind_some]
      by_cases h3 : cst L i < (cst L b')
      ·simp only [h3,decide_true,if_true]
       refine best_loop ds hds v w L hLn hL k (i + 1) i (by omega) (.inr ⟨i,rfl,by omega,h1,h2,fun j hj a c => ?_⟩)
       by_cases e : j = i
       ·subst e; exact Int.le_refl _
       ·have := g4 j (by omega) a c; omega
      ·simp only [h3,decide_false,Bool.false_eq_true,if_false]
       refine best_loop ds hds v w L hLn hL k (i + 1) b' (by omega) (.inr ⟨b',rfl,by omega,g2,g3,fun j hj a c => ?_⟩)
       by_cases e : j = i
       ·subst e; omega
       ·exact g4 j (by omega) a c
    ·rw [if_neg (by simpa using h2)]
     refine best_loop ds hds v w L hLn hL k (i + 1) b (by omega) ?_
     rcases h with ⟨e,h⟩ | ⟨b',e,g1,g2,g3,g4⟩
     ·refine .inl ⟨e,fun j hj a => ?_⟩
      by_cases e : j = i
      ·subst e; exact h2
      ·exact h j (by omega) a
     ·refine .inr ⟨b',e,by omega,g2,g3,fun j hj a c => ?_⟩
      by_cases e : j = i
      ·subst e; exact absurd c h2
      ·exact g4 j (by omega) a c
   ·simp only [h1,Bool.false_eq_true,if_false]
    refine best_loop ds hds v w L hLn hL k (i + 1) b (by omega) ?_
    rcases h with ⟨e,h⟩ | ⟨b',e,g1,g2,g3,g4⟩
    ·refine .inl ⟨e,fun j hj a => ?_⟩
     by_cases e : j = i
     ·subst e; exact absurd a h1
     ·exact h j (by omega) a
    ·refine .inr ⟨b',e,by omega,g2,g3,fun j hj a c => ?_⟩
     by_cases e : j = i
     ·subst e; exact absurd a h1
     ·exact g4 j (by omega) a c
theorem best_ok {ds : List T_Deed.ty} (hds : DeedsOk ds) {v w : List UInt8} (hv : isName v = true) (hw : isName w = true) {L : List T_link.ty} (eL : impl_links ds v = some L) (hLn : L.length = ds.length) (hL : Tab ds v L ds.length) {t : Nat} (ht : t < ds.length) (h1 : (lnk L t).1 = true) (h2 : (dd ds t).2.1 = w) :
 ∃ (cs : List Nat) (c : Int),impl_BestChain ds v w = some (ic cs,c,0) ∧ Ch ds cs ∧ (∃ h : 0 < cs.length,(dd ds cs[0]).1 = v ∧ (dd ds cs[cs.length - 1]).2.1 = w) ∧ sumD ds cs = c ∧ c ≤ (cst L t) := by
 have l1 := nm_len hv
 have l2 := nm_len hw
 have hl := hds.len
 rw [impl_BestChain_eq,impl_deeds_ok hds,impl_IsName_ok _ (Nat.lt_of_le_of_lt l1 (by decide)),impl_IsName_ok _ (Nat.lt_of_le_of_lt l2 (by decide)),hv,hw]
 simp only [Option.bind_some,Bool.not_true,Bool.false_eq_true,if_false,impl_BestChain_p0_eq,eL]
 rcases best_loop ds hds v w L hLn hL ds.length 0 (-1) (by omega) (.inl ⟨rfl,fun j hj => by omega⟩) with ⟨_,h⟩ | ⟨b,b1,b2,b3,b4,e⟩
 ·exact absurd h2 (h t ht h1)
 ·have e : impl_BestChain_p1 ds w (-1) L.length 0 L = _ := e
  have hbk : Back ds L b b [] := ⟨⟨by simp,fun i hi => by simp at hi; subst hi; exact b1,fun i hi => by simp at hi⟩,rfl,b2,by simp [sumD]⟩
  obtain ⟨cs,c1,⟨c2,c3,c4⟩,c5,c6⟩ := back_loop ds hds v L hLn hL b b1 b b [] (Nat.le_refl _) hbk
  have hge : ((b : Nat) : Int) ≥ 0 := by omega
  have hb2 : ((b : Nat) : Int) < (L.length : Int) := by omega
  have hlim : ([] : List Int).length + 1 < lim := by rw [lim_eq]; decide
  have er : ([] : List Int) ++ [(b : Int)] = (ic [b]).reverse := rfl
  rw [e,impl_BestChain_p2_eq]
  simp only [hge,decide_true,if_true,hlim,Int.natCast_nonneg,hb2,Bool.and_self,Int.toNat_natCast,cst_eq,prv_eq,dbt_eq,lnk_get (show b < L.length by omega),Option.bind_some,List.take_length,er]
  exact ⟨cs,_,c6,c1,⟨c2,c3,by rw [c4]; exact b3⟩,c5,b4 t ht h1 h2⟩
theorem reached_loop (ds : List T_Deed.ty) (hds : DeedsOk ds) (L : List T_link.ty) (hLn : L.length = ds.length) : ∀ (k i : Nat) (r : List (List UInt8)),i + k = ds.length → r.length ≤ i → (∀ x,x ∈ r ↔ ∃ j,j < i ∧ (lnk L j).1 = true ∧ (dd ds j).2.1 = x) →
 ∃ R,impl_ReachedOwners_p1 ds L L.length i r = some (R,0) ∧ R.length ≤ 1000 ∧ ∀ x,x ∈ R ↔ ∃ j,j < ds.length ∧ (lnk L j).1 = true ∧ (dd ds j).2.1 = x
 | 0,i,r,hk,hr,h => by
   have hl := hds.len
   have e : i = ds.length := by omega
   subst e
   have hlt : ¬ (ds.length : Int) < (L.length : Int) := by omega
   rw [impl_ReachedOwners_p1_eq]
   simp only [hlt,decide_false,Bool.false_eq_true,if_false,decide_true,if_true,sortedSet_ok r (by omega),Option.bind_some]
   exact ⟨_,rfl,by have := lessP_le r; omega,fun x => by rw [(less_runs r).2.2,h]⟩
 | k + 1,i,r,hk,hr,h => by
   have hl := hds.len
   have hi : i < ds.length := by omega
   have hlt : (i : Int) < (L.length : Int) := by omega
   have hw : IntKind.i64.wrap ((i : Int) + 1) = ((i + 1 : Nat) : Int) := by rw [w64 (by omega) (by omega)]; omega
   have hlim : r.length + 1 < lim := by rw [lim_eq]; omega
   rw [impl_ReachedOwners_p1_eq]
   simp only [hlt,decide_true,if_true,Int.natCast_nonneg,Int.toNat_natCast,cst_eq,prv_eq,dbt_eq,lnk_get (show i < L.length by omega),dd_get hi,Option.bind_some,hw,hlim,List.take_length]
   by_cases h1 : (lnk L i).1 = true
   ·simp only [h1,if_true]
    refine reached_loop ds hds L hLn k (i + 1) _ (by omega) (by simp only [List.length_append,List.length_cons,List.length_nil]; omega) fun x => ?_
    rw [List.mem_append,h,List.mem_singleton]
    constructor
    ·rintro (⟨j,a,b⟩ | rfl)
     ·exact ⟨j,by omega,b⟩
     ·exact ⟨i,by omega,h1,rfl⟩
    ·rintro ⟨j,a,b,c⟩
     by_cases e : j = i
     ·subst e; exact .inr c.symm
     ·exact .inl ⟨j,by omega,b,c⟩
   ·simp only [h1,Bool.false_eq_true,if_false]
    refine reached_loop ds hds L hLn k (i + 1) r (by omega) (by omega) fun x => ?_
    rw [h]
    constructor
    ·rintro ⟨j,a,b⟩; exact ⟨j,by omega,b⟩
    ·rintro ⟨j,a,b,c⟩
     by_cases e : j = i
     ·subst e; exact absurd b h1
     ·exact ⟨j,by omega,b,c⟩
theorem reached_ok {ds : List T_Deed.ty} (hds : DeedsOk ds) {v : List UInt8} (hv : isName v = true) {L : List T_link.ty} (eL : impl_links ds v = some L) (hLn : L.length = ds.length) :
 ∃ R,impl_ReachedOwners ds v = some (R,0) ∧ R.length ≤ 1000 ∧ ∀ x,x ∈ R ↔ ∃ j,j < ds.length ∧ (lnk L j).1 = true ∧ (dd ds j).2.1 = x := by
 have l1 := nm_len hv
 obtain ⟨R,e,h⟩ := reached_loop ds hds L hLn ds.length 0 [] (by omega) (by simp) (fun x => by simp)
 have e : impl_ReachedOwners_p1 ds L L.length 0 [] = _ := e
 rw [impl_ReachedOwners_eq,impl_deeds_ok hds,impl_IsName_ok _ (Nat.lt_of_le_of_lt l1 (by decide)),hv]
 simp only [Option.bind_some,Bool.not_true,Bool.false_eq_true,if_false,impl_ReachedOwners_p0_eq,eL,e]
 exact ⟨R,rfl,h⟩
def gi (l : List Int) (i : Nat) : Int := (l[i]?).getD 0
theorem gi_get {l : List Int} {i : Nat} (h : i < l.length) : l[i]? = some (gi l i) := by simp [gi,List.getElem?_eq_getElem h]
theorem gi_app {l : List Int} {x : Int} {i : Nat} (h : i < l.length) : gi (l ++ [x]) i = gi l i := by simp [gi,List.getElem?_append_left h]
theorem gi_last (l : List Int) (x : Int) : gi (l ++ [x]) l.length = x := by simp [gi]
structure STab (ds : List T_Deed.ty) (L : List T_link.ty) (c p : List Int) (n : Nat) : Prop where
 l1 : c.length = n
 l2 : p.length = n
 sg : ∀ i,i < n → (0 ≤ gi c i ↔ (lnk L i).1 = true)
 bd : ∀ i,i < n → -1 ≤ gi c i ∧ gi c i ≤ 1000 * (i + 1 : Int)
 pv : ∀ i,i < n → -1 ≤ gi p i ∧ gi p i < i
theorem STab.add {ds : List T_Deed.ty} {L : List T_link.ty} {c p : List Int} {n : Nat} (h : STab ds L c p n) {x y : Int} (h1 : 0 ≤ x ↔ (lnk L n).1 = true) (h2 : -1 ≤ x ∧ x ≤ 1000 * (n + 1 : Int)) (h3 : -1 ≤ y ∧ y < n) : STab ds L (c ++ [x]) (p ++ [y]) (n + 1) := by
 have n1 : gi (c ++ [x]) n = x := by rw [← h.l1]; exact gi_last c x
 have n2 : gi (p ++ [y]) n = y := by rw [← h.l2]; exact gi_last p y
 have o1 : ∀ i,i < n → gi (c ++ [x]) i = gi c i := fun i hi => gi_app (by rw [h.l1]; exact hi)
 have o2 : ∀ i,i < n → gi (p ++ [y]) i = gi p i := fun i hi => gi_app (by rw [h.l2]; exact hi)
 refine ⟨by simp [h.l1],by simp [h.l2],fun i hi => ?_,fun i hi => ?_,fun i hi => ?_⟩
 ·by_cases e : i = n
  ·subst e; rw [n1]; exact h1
  ·rw [o1 i (by omega)]; exact h.sg i (by omega)
 ·by_cases e : i = n
  ·subst e; rw [n1]; exact h2
  ·rw [o1 i (by omega)]; exact h.bd i (by omega)
 ·by_cases e : i = n
  ·subst e; rw [n2]; exact h3
  ·rw [o2 i (by omega)]; exact h.pv i (by omega)
theorem sbest2 (ds : List T_Deed.ty) (hds : DeedsOk ds) (v : List UInt8) (L : List T_link.ty) (hL : Tab ds v L ds.length) (c p : List Int) (i : Nat) (hi : i < ds.length) (hS : STab ds L c p i) : ∀ (k j : Nat) (x y : Int),j + k = i → -1 ≤ x → x ≤ 1000 * (i + 1 : Int) → -1 ≤ y → y < i →
 (0 ≤ x ↔ ((dd ds i).1 = v ∨ ∃ q,q < j ∧ (lnk L q).1 = true ∧ (dd ds q).2.1 = (dd ds i).1)) →
 ∃ x' y',STab ds L (c ++ [x']) (p ++ [y']) (i + 1) ∧ spec_l19Best_p2 ds v i x y j c p = spec_l19Best_p0 ds v ((i + 1 : Nat) : Int) (c ++ [x']) (p ++ [y'])
 | 0,j,x,y,hk,x0,x1,y0,y1,h => by
   have hl := hds.len
   have e : j = i := by omega
   subst e
   have hlt : ¬ (j : Int) < (j : Int) := by omega
   have c1 : c.length + 1 < lim := by rw [lim_eq,hS.l1]; omega
   have c2 : p.length + 1 < lim := by rw [lim_eq,hS.l2]; omega
   have hw : IntKind.i64.wrap ((j : Int) + 1) = ((j + 1 : Nat) : Int) := by rw [w64 (by omega) (by omega)]; omega
   refine ⟨x,y,hS.add ?_ ⟨x0,x1⟩ ⟨y0,y1⟩,?_⟩
   ·rw [h]
    constructor
    ·rintro (a | ⟨q,a,b,d⟩)
     ·exact (hL.one j hi a).1
     ·exact (hL.best j hi q a b d).1
    ·intro a
     rcases hL.way j hi a with ⟨_,b,_⟩ | ⟨q,_,a2,a3,a4,_⟩
     ·exact .inl b
     ·exact .inr ⟨q,a2,a3,a4⟩
   ·rw [spec_l19Best_p2_eq]
    simp only [hlt,decide_false,Bool.false_eq_true,if_false,c1,c2,decide_true,if_true,hw,List.take_length]
 | k + 1,j,x,y,hk,x0,x1,y0,y1,h => by
   have hl := hds.len
   have hj : j < i := by omega
   have hlt : (j : Int) < (i : Int) := by omega
   have hw : IntKind.i64.wrap ((j : Int) + 1) = ((j + 1 : Nat) : Int) := by rw [w64 (by omega) (by omega)]; omega
   have hjc : (j : Int) < (c.length : Int) := by rw [hS.l1]; exact hlt
   have gj : c[j]? = some (gi c j) := gi_get (by rw [hS.l1]; exact hj)
   have skip : ¬ ((lnk L j).1 = true ∧ (dd ds j).2.1 = (dd ds i).1) → (0 ≤ x ↔ ((dd ds i).1 = v ∨ ∃ q,q < j + 1 ∧ (lnk L q).1 = true ∧ (dd ds q).2.1 = (dd ds i).1)) := fun hn => by
    rw [h]
    constructor
    ·rintro (a | ⟨q,a,b⟩)
     ·exact .inl a
     ·exact .inr ⟨q,by omega,b⟩
    ·rintro (a | ⟨q,a,b⟩)
     ·exact .inl a
     ·by_cases e : q = j
      ·subst e; exact absurd b hn
      ·exact .inr ⟨q,by omega,b⟩
   rw [spec_l19Best_p2_eq]
   simp only [hlt,decide_true,if_true,Int.natCast_nonneg,Bool.and_self,Int.toNat_natCast,cst_eq,prv_eq,dbt_eq,dd_get (show j < ds.length by omega),dd_get hi,Option.bind_some,hw,hjc,gj]
   by_cases h2 : (dd ds j).2.1 = (dd ds i).1
   ·rw [if_neg (by simpa using h2)]
    have hsg := hS.sg j hj
    have hbd := hS.bd j hj
    have hd := dbt_bd hds hi
    by_cases h3 : gi c j < 0
    ·rw [if_pos (decide_eq_true h3)]
     exact sbest2 ds hds v L hL c p i hi hS k (j + 1) x y (by omega) x0 x1 y0 y1 (skip fun a => by have := hsg.2 a.1; omega)
    ·rw [if_neg (by simpa using h3),spec_l19Best_p3_eq]
     have ok : (lnk L j).1 = true := hsg.1 (by omega)
     have hw2 : IntKind.i64.wrap (gi c j + (dbt ds i)) = gi c j + (dbt ds i) := w64 (by omega) (by omega)
     have hit : ∀ z : Int,0 ≤ z → (0 ≤ z ↔ ((dd ds i).1 = v ∨ ∃ q,q < j + 1 ∧ (lnk L q).1 = true ∧ (dd ds q).2.1 = (dd ds i).1)) := fun z hz => ⟨fun _ => .inr ⟨j,by omega,ok,h2⟩,fun _ => hz⟩
     simp only [hjc,decide_true,if_true,Int.natCast_nonneg,Bool.and_self,Int.toNat_natCast,gj,cst_eq,prv_eq,dbt_eq,dd_get hi,Option.bind_some,hw,hw2]
     by_cases h4 : x < 0
     ·rw [if_pos (decide_eq_true h4)]
      exact sbest2 ds hds v L hL c p i hi hS k (j + 1) _ j (by omega) (by omega) (by omega) (by omega) (by omega) (hit _ (by omega))
     ·rw [if_neg (by simpa using h4)]
      by_cases h5 : gi c j + (dbt ds i) < x
      ·rw [if_pos (decide_eq_true h5)]
       exact sbest2 ds hds v L hL c p i hi hS k (j + 1) _ j (by omega) (by omega) (by omega) (by omega) (by omega) (hit _ (by omega))
      ·rw [if_neg (by simpa using h5)]
       exact sbest2 ds hds v L hL c p i hi hS k (j + 1) x y (by omega) x0 x1 y0 y1 (hit _ (by omega))
   ·rw [if_pos (by simpa using h2)]
    exact sbest2 ds hds v L hL c p i hi hS k (j + 1) x y (by omega) x0 x1 y0 y1 (skip fun a => h2 a.2)
theorem sbest0 (ds : List T_Deed.ty) (hds : DeedsOk ds) (v : List UInt8) (L : List T_link.ty) (hL : Tab ds v L ds.length) : ∀ (k i : Nat) (c p : List Int),i + k = ds.length → STab ds L c p i → ∃ c' p',spec_l19Best_p0 ds v i c p = some (c',p') ∧ STab ds L c' p' ds.length
 | 0,i,c,p,hk,h => by
   have e : i = ds.length := by omega
   subst e
   have hlt : ¬ (ds.length : Int) < (ds.length : Int) := by omega
   rw [spec_l19Best_p0_eq]
   simp only [hlt,decide_false,Bool.false_eq_true,if_false,List.take_length]
   exact ⟨c,p,rfl,h⟩
 | k + 1,i,c,p,hk,h => by
   have hl := hds.len
   have hi : i < ds.length := by omega
   have hlt : (i : Int) < (ds.length : Int) := by omega
   have hd := dbt_bd hds hi
   have none' : ∀ P : Nat → Prop,¬ ∃ q,q < 0 ∧ P q := fun P ⟨q,a,_⟩ => by omega
   rw [spec_l19Best_p0_eq]
   simp only [hlt,decide_true,if_true,Int.natCast_nonneg,Int.toNat_natCast,cst_eq,prv_eq,dbt_eq,dd_get hi,Option.bind_some,spec_l19Best_p1_eq]
   by_cases h1 : (dd ds i).1 = v
   ·rw [if_pos (by simpa using h1)]
    obtain ⟨x,y,s,e⟩ := sbest2 ds hds v L hL c p i hi h i 0 (dbt ds i) (-1) (by omega) (by omega) (by omega) (by omega) (by omega) ⟨fun _ => .inl h1,fun _ => hd.1⟩
    have e : spec_l19Best_p2 ds v i (dbt ds i) (-1) 0 c p = _ := e
    rw [e]
    exact sbest0 ds hds v L hL k (i + 1) _ _ (by omega) s
   ·rw [if_neg (by simpa using h1)]
    obtain ⟨x,y,s,e⟩ := sbest2 ds hds v L hL c p i hi h i 0 (-1) (-1) (by omega) (by omega) (by omega) (by omega) (by omega) ⟨fun a => by omega,fun a => by rcases a with a | a; exact absurd a h1; exact absurd a (none' _)⟩
    have e : spec_l19Best_p2 ds v i (-1) (-1) 0 c p = _ := e
    rw [e]
    exact sbest0 ds hds v L hL k (i + 1) _ _ (by omega) s
theorem swalk (ds : List T_Deed.ty) (L : List T_link.ty) (c p : List Int) (n : Nat) (hn : n ≤ 8) (h : STab ds L c p n) (b : Nat) (hb : b < n) : ∀ (m : Nat) (i : Int) (r : List Int),i.toNat < m → -1 ≤ i → i < n → m + r.length ≤ 100 → ∃ r',spec_BestChain_p2 b i c p r = some (r',gi c b,0)
 | 0,i,r,hm,_,_,_ => by omega
 | m + 1,i,r,hm,h0,h1,hr => by
   have hb2 : (b : Int) < (c.length : Int) := by rw [h.l1]; omega
   by_cases hge : i ≥ 0
   ·obtain ⟨j,rfl⟩ : ∃ j : Nat,i = j := ⟨i.toNat,by omega⟩
    have hj : j < n := by omega
    have hpv := h.pv j hj
    have hj2 : (j : Int) < (p.length : Int) := by rw [h.l2]; omega
    have hlim : 1 + r.length < lim := by rw [lim_eq]; omega
    have gj : p[j]? = some (gi p j) := gi_get (by rw [h.l2]; exact hj)
    rw [spec_BestChain_p2_eq]
    simp only [hge,decide_true,if_true,List.take_length,hlim,Int.natCast_nonneg,hj2,Bool.and_self,Int.toNat_natCast,gj,Option.bind_some]
    by_cases hz : gi p j < 0
    ·have gb : c[b]? = some (gi c b) := gi_get (by rw [h.l1]; exact hb)
     have hng : ¬ gi p j ≥ 0 := by omega
     rw [spec_BestChain_p2_eq]
     simp only [hng,decide_false,Bool.false_eq_true,if_false,Int.natCast_nonneg,hb2,decide_true,Bool.and_self,if_true,Int.toNat_natCast,gb,Option.bind_some]
     exact ⟨_,rfl⟩
    ·exact swalk ds L c p n hn h b hb m (gi p j) _ (by omega) (by omega) (by omega) (by simp only [List.length_append,List.length_cons,List.length_nil]; omega)
   ·have gb : c[b]? = some (gi c b) := gi_get (by rw [h.l1]; exact hb)
    rw [spec_BestChain_p2_eq]
    simp only [hge,decide_false,Bool.false_eq_true,if_false,Int.natCast_nonneg,hb2,decide_true,Bool.and_self,if_true,Int.toNat_natCast,gb,Option.bind_some]
    exact ⟨_,rfl⟩
theorem spick (ds : List T_Deed.ty) (hds : DeedsOk ds) (w : List UInt8) (L : List T_link.ty) (c p : List Int) (h : STab ds L c p ds.length) : ∀ (k i : Nat) (b : Int),i + k = ds.length →
 ((b = -1 ∧ ¬ ∃ j,j < i ∧ (lnk L j).1 = true ∧ (dd ds j).2.1 = w) ∨ ∃ b' : Nat,b = b' ∧ b' < i ∧ (lnk L b').1 = true ∧ (dd ds b').2.1 = w) →
 ∃ (r : List Int) (x e : Int),spec_BestChain_p1 ds w b i c p = some (r,x,e) ∧ (e = 0 ↔ ∃ j,j < ds.length ∧ (lnk L j).1 = true ∧ (dd ds j).2.1 = w)
 | 0,i,b,hk,hb => by
   have hl := hds.len
   have e : i = ds.length := by omega
   subst e
   have hlt : ¬ (ds.length : Int) < (ds.length : Int) := by omega
   rw [spec_BestChain_p1_eq]
   simp only [hlt,decide_false,Bool.false_eq_true,if_false]
   rcases hb with ⟨rfl,hb⟩ | ⟨b',rfl,h1,h2,h3⟩
   ·exact ⟨[],0,3,rfl,⟨fun a => (by cases a),fun a => absurd a hb⟩⟩
   ·have hn : ¬ (b' : Int) < 0 := by omega
    obtain ⟨r,e⟩ := swalk ds L c p ds.length hl h b' h1 10 b' [] (by omega) (by omega) (by omega) (by simp)
    simp only [hn,decide_false,Bool.false_eq_true,if_false]
    exact ⟨r,_,0,e,⟨fun _ => ⟨b',h1,h2,h3⟩,fun _ => rfl⟩⟩
 | k + 1,i,b,hk,hb => by
   have hl := hds.len
   have hi : i < ds.length := by omega
   have hlt : (i : Int) < (ds.length : Int) := by omega
   have hic : (i : Int) < (c.length : Int) := by rw [h.l1]; omega
   have hw : IntKind.i64.wrap ((i : Int) + 1) = ((i + 1 : Nat) : Int) := by rw [w64 (by omega) (by omega)]; omega
   have gc : c[i]? = some (gi c i) := gi_get (by rw [h.l1]; exact hi)
   have hsg := h.sg i hi
   have keep : ¬ ((lnk L i).1 = true ∧ (dd ds i).2.1 = w) → ((b = -1 ∧ ¬ ∃ j,j < i + 1 ∧ (lnk L j).1 = true ∧ (dd ds j).2.1 = w) ∨ ∃ b' : Nat,b = b' ∧ b' < i + 1 ∧ (lnk L b').1 = true ∧ (dd ds b').2.1 = w) := fun hn => by
    rcases hb with ⟨e,hb⟩ | ⟨b',e,h1,h2⟩
    ·refine .inl ⟨e,fun ⟨j,a,d⟩ => ?_⟩
     by_cases e : j = i
     ·subst e; exact hn d
     ·exact hb ⟨j,by omega,d⟩
    ·exact .inr ⟨b',e,by omega,h2⟩
   rw [spec_BestChain_p1_eq]
   simp only [hlt,decide_true,if_true,Int.natCast_nonneg,Int.toNat_natCast,cst_eq,prv_eq,dbt_eq,dd_get hi,Option.bind_some,hw,hic,Bool.and_self,gc]
   by_cases h2 : (dd ds i).2.1 = w
   ·rw [if_pos (by simpa using h2)]
    by_cases h1 : gi c i ≥ 0
    ·rw [if_pos (decide_eq_true h1)]
     have ok := hsg.1 h1
     rcases hb with ⟨rfl,hb⟩ | ⟨b',rfl,g1,g2⟩
     ·have hn : (-1 : Int) < 0 := by decide
      simp only [hn,decide_true,if_true]
      exact spick ds hds w L c p h k (i + 1) i (by omega) (.inr ⟨i,rfl,by omega,ok,h2⟩)
     ·have hn : ¬ (b' : Int) < 0 := by omega
      have hb2 : (b' : Int) < (c.length : Int) := by rw [h.l1]; omega
      have gb : c[b']? = some (gi c b') := gi_get (by rw [h.l1]; omega)
      simp only [hn,hb2,decide_false,decide_true,Bool.false_eq_true,if_false,if_true,Int.natCast_nonneg,Bool.and_self,Int.toNat_natCast,gb,Option.bind_some]
      by_cases h3 : gi c i < gi c b'
      ·rw [if_pos (decide_eq_true h3)]
       exact spick ds hds w L c p h k (i + 1) i (by omega) (.inr ⟨i,rfl,by omega,ok,h2⟩)
      ·rw [if_neg (by simpa using h3)]
       exact spick ds hds w L c p h k (i + 1) b' (by omega) (.inr ⟨b',rfl,by omega,g2⟩)
    ·rw [if_neg (by simpa using h1)]
     exact spick ds hds w L c p h k (i + 1) b (by omega) (keep fun a => h1 (hsg.2 a.1))
   ·rw [if_neg (by simpa using h2)]
    exact spick ds hds w L c p h k (i + 1) b (by omega) (keep fun a => h2 a.2)
theorem spec_best_ok {ds : List T_Deed.ty} (hds : DeedsOk ds) {v w : List UInt8} (hv : isName v = true) (hw : isName w = true) {L : List T_link.ty} (hL : Tab ds v L ds.length) :
 ∃ (r : List Int) (x e : Int),spec_BestChain ds v w = some (r,x,e) ∧ (e = 0 ↔ ∃ j,j < ds.length ∧ (lnk L j).1 = true ∧ (dd ds j).2.1 = w) := by
 have l1 := nm_len hv
 have l2 := nm_len hw
 obtain ⟨c,p,e,h⟩ := sbest0 ds hds v L hL ds.length 0 [] [] (by omega) ⟨rfl,rfl,fun i h => by omega,fun i h => by omega,fun i h => by omega⟩
 have e : spec_l19Best_p0 ds v 0 [] [] = _ := e
 obtain ⟨r,x,e0,e1,e2⟩ := spick ds hds w L c p h ds.length 0 (-1) (by omega) (.inl ⟨rfl,fun ⟨j,a,_⟩ => by omega⟩)
 have e1 : spec_BestChain_p1 ds w (-1) 0 c p = _ := e1
 rw [spec_BestChain_eq,spec_deeds_ok hds,spec_l01Name_ok _ (Nat.lt_of_le_of_lt l1 (by decide)),spec_l01Name_ok _ (Nat.lt_of_le_of_lt l2 (by decide)),hv,hw]
 simp only [Option.bind_some,Bool.not_true,Bool.false_eq_true,if_false,spec_BestChain_p0_eq,spec_l19Best_eq,e,e1]
 exact ⟨r,x,e0,rfl,e2⟩
def yer (ds : List T_Deed.ty) (i : Nat) : Int := (dd ds i).2.2.1
theorem yer_eq (ds : List T_Deed.ty) (i : Nat) : (dd ds i).2.2.1 = yer ds i := rfl
theorem yer_bd {ds : List T_Deed.ty} (h : DeedsOk ds) {i : Nat} (hi : i < ds.length) : 0 ≤ yer ds i ∧ yer ds i ≤ 2100 := (dd_ok h hi).yr
theorem yer_up {ds : List T_Deed.ty} (h : DeedsOk ds) {i j : Nat} (hij : i < j) (hj : j < ds.length) : yer ds i ≤ yer ds j := by
 have e : ∀ q (hq : q < ds.length),dd ds q = ds[q] := fun q hq => by simp [dd,List.getElem?_eq_getElem hq]
 rw [yer,yer,e i (by omega),e j hj]
 exact up_step h.up (by omega) hj hij
theorem back_index (ds : List T_Deed.ty) (x : List UInt8) (hs : ds.length ≤ 1000) : ∀ (k i : Nat),i + k = ds.length → ∃ r : Int,slices_IndexFunc___impl_Deed_impl_Deed__impl_comesBack_1_p0 ds x ds.length i = some r ∧ decide (r ≥ 0) = (ds.drop i).any fun d => d.2.1 == x
 | 0,i,hk => by
   refine ⟨-1,?_,?_⟩
   ·rw [slices_IndexFunc___impl_Deed_impl_Deed__impl_comesBack_1_p0_eq]
    have : ¬ (i : Int) < (ds.length : Int) := by omega
    simp only [this,decide_false,Bool.false_eq_true,if_false]
   ·rw [List.drop_eq_nil_of_le (by omega)]; rfl
 | k + 1,i,hk => by
   have hi : i < ds.length := by omega
   have hlt : (i : Int) < (ds.length : Int) := by omega
   have hw : IntKind.i64.wrap ((i : Int) + 1) = ((i + 1 : Nat) : Int) := by rw [w64 (by omega) (by omega)]; omega
   rw [slices_IndexFunc___impl_Deed_impl_Deed__impl_comesBack_1_p0_eq,List.drop_eq_getElem_cons hi]
   simp only [hlt,decide_true,if_true,Int.natCast_nonneg,Int.toNat_natCast,List.getElem?_eq_getElem hi,Option.bind_some,impl_comesBack_1_eq,hw,List.any_cons]
   by_cases h : (ds[i].2.1 == x) = true
   ·rw [if_pos h,h]
    exact ⟨i,rfl,by simp⟩
   ·rw [if_neg h]
    rw [Bool.not_eq_true] at h
    rw [h,Bool.false_or]
    exact back_index ds x hs k (i + 1) (by omega)
theorem comesBack_ok (ds : List T_Deed.ty) (x : List UInt8) (hs : ds.length ≤ 1000) : impl_comesBack ds x = some (ds.any fun d => d.2.1 == x) := by
 obtain ⟨r,r1,r2⟩ := back_index ds x hs ds.length 0 (by omega)
 have r1 : slices_IndexFunc___impl_Deed_impl_Deed__impl_comesBack_1_p0 ds x ds.length 0 = some r := r1
 rw [List.drop_zero] at r2
 rw [impl_comesBack_eq,slices_ContainsFunc___impl_Deed_impl_Deed__impl_comesBack_1_eq,slices_IndexFunc___impl_Deed_impl_Deed__impl_comesBack_1_eq,r1]
 simp only [Option.bind_some,r2]
def PairOk (ds : List T_Deed.ty) (l : List Int) : Prop := ∃ a b : Nat,l = ic [a,b] ∧ a < b ∧ b < ds.length ∧ (dd ds a).1 = (dd ds b).1
theorem rival1 (ds : List T_Deed.ty) (hds : DeedsOk ds) (i : Nat) (hi : i < ds.length) : ∀ (k j : Nat) (r : List (List Int)),j + k = ds.length → i < j → r.length ≤ 8 * i + j → (∀ l,l ∈ r → PairOk ds l) →
 ∃ r',r'.length ≤ 8 * (i + 1) ∧ (∀ l,l ∈ r' → PairOk ds l) ∧ impl_RivalDeeds_p1 ds i j ds ds.length i r (dd ds i).1 (dd ds i).2.1 (dd ds i).2.2.1 (dd ds i).2.2.2.1 = impl_RivalDeeds_p0 ds ds ds.length ((i + 1 : Nat) : Int) r'
 | 0,j,r,hk,hij,hr,h => by
   have hl := hds.len
   have hlt : ¬ (j : Int) < (ds.length : Int) := by omega
   have hw : IntKind.i64.wrap ((i : Int) + 1) = ((i + 1 : Nat) : Int) := by rw [w64 (by omega) (by omega)]; omega
   refine ⟨r,by omega,h,?_⟩
   rw [impl_RivalDeeds_p1_eq]
   simp only [hlt,decide_false,Bool.false_eq_true,if_false,hw]
 | k + 1,j,r,hk,hij,hr,h => by
   have hl := hds.len
   have hj : j < ds.length := by omega
   have hlt : (j : Int) < (ds.length : Int) := by omega
   have hle : (j : Int) ≤ (ds.length : Int) := by omega
   have hij' : ((i + 1 : Nat) : Int) ≤ (j : Int) := by omega
   have hw : IntKind.i64.wrap ((j : Int) + 1) = ((j + 1 : Nat) : Int) := by rw [w64 (by omega) (by omega)]; omega
   have hwi : IntKind.i64.wrap ((i : Int) + 1) = ((i + 1 : Nat) : Int) := by rw [w64 (by omega) (by omega)]; omega
   have hlim : r.length + 1 < lim := by rw [lim_eq]; omega
   have hcb := comesBack_ok ((ds.take j).drop (i + 1)) (dd ds i).1 (by rw [List.length_drop,List.length_take]; omega)
   rw [impl_RivalDeeds_p1_eq]
   simp only [hlt,decide_true,if_true,Int.natCast_nonneg,Int.toNat_natCast,dd_get hj,Option.bind_some,hw]
   by_cases h1 : (dd ds j).1 = (dd ds i).1
   ·rw [if_pos (by simpa using h1)]
    simp only [hwi,Int.natCast_nonneg,hij',hle,decide_true,Bool.and_self,if_true,Int.toNat_natCast,hcb,Option.bind_some]
    cases ((ds.take j).drop (i + 1)).any fun d => d.2.1 == (dd ds i).1
    ·simp only [Bool.not_false,if_true,impl_RivalDeeds_p2_eq,hlim,decide_true,List.take_length,hw]
     refine rival1 ds hds i hi k (j + 1) _ (by omega) (by omega) (by simp only [List.length_append,List.length_cons,List.length_nil]; omega) fun l hm => ?_
     rcases List.mem_append.1 hm with hm | hm
     ·exact h l hm
     ·rw [List.mem_singleton] at hm
      exact ⟨i,j,hm,hij,hj,h1.symm⟩
    ·simp only [Bool.not_true,Bool.false_eq_true,if_false]
     exact rival1 ds hds i hi k (j + 1) r (by omega) (by omega) (by omega) h
   ·rw [if_neg (by simpa using h1)]
    exact rival1 ds hds i hi k (j + 1) r (by omega) (by omega) (by omega) h
theorem rival0 (ds : List T_Deed.ty) (hds : DeedsOk ds) : ∀ (k i : Nat) (r : List (List Int)),i + k = ds.length → r.length ≤ 8 * i → (∀ l,l ∈ r → PairOk ds l) → ∃ R,impl_RivalDeeds_p0 ds ds ds.length i r = some (R,0) ∧ R.length ≤ 64 ∧ ∀ l,l ∈ R → PairOk ds l
 | 0,i,r,hk,hr,h => by
   have hl := hds.len
   have hlt : ¬ (i : Int) < (ds.length : Int) := by omega
   have h64 : (r.length : Int) ≤ 64 := by omega
   rw [impl_RivalDeeds_p0_eq,impl_few_eq]
   simp only [hlt,decide_false,Bool.false_eq_true,if_false,h64,decide_true,Option.bind_some,Bool.not_true,List.take_length]
   exact ⟨r,rfl,by omega,h⟩
 | k + 1,i,r,hk,hr,h => by
   have hl := hds.len
   have hi : i < ds.length := by omega
   have hlt : (i : Int) < (ds.length : Int) := by omega
   have hw : IntKind.i64.wrap ((i : Int) + 1) = ((i + 1 : Nat) : Int) := by rw [w64 (by omega) (by omega)]; omega
   obtain ⟨r',a,b,e⟩ := rival1 ds hds i hi (ds.length - (i + 1)) (i + 1) r (by omega) (by omega) (by omega) h
   rw [impl_RivalDeeds_p0_eq]
   simp only [hlt,decide_true,if_true,Int.natCast_nonneg,Int.toNat_natCast,dd_get hi,Option.bind_some,hw,e]
   exact rival0 ds hds k (i + 1) r' (by omega) a b
theorem rivals_ok {ds : List T_Deed.ty} (hds : DeedsOk ds) : ∃ R,impl_RivalDeeds ds = some (R,0) ∧ R.length ≤ 64 ∧ ∀ l,l ∈ R → PairOk ds l := by
 obtain ⟨R,e,h⟩ := rival0 ds hds ds.length 0 [] (by omega) (by simp) (fun l h => by cases h)
 have e : impl_RivalDeeds_p0 ds ds ds.length 0 [] = _ := e
 rw [impl_RivalDeeds_eq,impl_deeds_ok hds]
 simp only [Option.bind_some,Bool.not_true,Bool.false_eq_true,if_false,e]
 exact ⟨R,rfl,h⟩
theorem firsts0 (ds : List T_Deed.ty) (hds : DeedsOk ds) : ∀ (k i : Nat) (r : List (List UInt8)),i + k = ds.length → r.length ≤ i → (∀ x,x ∈ r → (ds.any fun d => d.2.1 == x) = false) → ∃ F,impl_FirstOwners_p0 ds ds ds.length i r = some (F,0) ∧ F.length ≤ 1000 ∧ ∀ x,x ∈ F → (ds.any fun d => d.2.1 == x) = false
 | 0,i,r,hk,hr,h => by
   have hl := hds.len
   have hlt : ¬ (i : Int) < (ds.length : Int) := by omega
   rw [impl_FirstOwners_p0_eq]
   simp only [hlt,decide_false,Bool.false_eq_true,if_false,decide_true,if_true,sortedSet_ok r (by omega),Option.bind_some]
   exact ⟨_,rfl,by have := lessP_le r; omega,fun x hx => h x (((less_runs r).2.2 x).1 hx)⟩
 | k + 1,i,r,hk,hr,h => by
   have hl := hds.len
   have hi : i < ds.length := by omega
   have hlt : (i : Int) < (ds.length : Int) := by omega
   have hw : IntKind.i64.wrap ((i : Int) + 1) = ((i + 1 : Nat) : Int) := by rw [w64 (by omega) (by omega)]; omega
   have hlim : r.length + 1 < lim := by rw [lim_eq]; omega
   rw [impl_FirstOwners_p0_eq]
   simp only [hlt,decide_true,if_true,Int.natCast_nonneg,Int.toNat_natCast,dd_get hi,Option.bind_some,hw,comesBack_ok ds (dd ds i).1 (by omega),hlim,List.take_length]
   cases hb : ds.any fun d => d.2.1 == (dd ds i).1
   ·simp only [Bool.not_false,if_true]
    refine firsts0 ds hds k (i + 1) _ (by omega) (by simp only [List.length_append,List.length_cons,List.length_nil]; omega) fun x hx => ?_
    rcases List.mem_append.1 hx with hx | hx
    ·exact h x hx
    ·rw [List.mem_singleton] at hx; subst hx; exact hb
   ·simp only [Bool.not_true,Bool.false_eq_true,if_false]
    exact firsts0 ds hds k (i + 1) r (by omega) (by omega) h
theorem firsts_ok {ds : List T_Deed.ty} (hds : DeedsOk ds) : ∃ F,impl_FirstOwners ds = some (F,0) ∧ F.length ≤ 1000 ∧ ∀ x,x ∈ F → (ds.any fun d => d.2.1 == x) = false := by
 obtain ⟨F,e,h⟩ := firsts0 ds hds ds.length 0 [] (by omega) (by simp) (fun l h => by cases h)
 have e : impl_FirstOwners_p0 ds ds ds.length 0 [] = _ := e
 rw [impl_FirstOwners_eq,impl_deeds_ok hds]
 simp only [Option.bind_some,Bool.not_true,Bool.false_eq_true,if_false,e]
 exact ⟨F,rfl,h⟩
theorem owners0 (ds : List T_Deed.ty) (hds : DeedsOk ds) : ∀ (k i : Nat) (r : List (List UInt8)),i + k = ds.length → r.length = 2 * i → (∀ x,x ∈ r → isName x = true) → ∃ O,impl_OwnersOf_p0 ds ds.length i r = some (lessP O,0) ∧ O.length = 2 * ds.length ∧ ∀ x,x ∈ O → isName x = true
 | 0,i,r,hk,hr,h => by
   have hl := hds.len
   have e : i = ds.length := by omega
   subst e
   have hlt : ¬ (ds.length : Int) < (ds.length : Int) := by omega
   rw [impl_OwnersOf_p0_eq]
   simp only [hlt,decide_false,Bool.false_eq_true,if_false,decide_true,if_true,sortedSet_ok r (by omega),Option.bind_some]
   exact ⟨r,rfl,hr,h⟩
 | k + 1,i,r,hk,hr,h => by
   have hl := hds.len
   have hi : i < ds.length := by omega
   have hlt : (i : Int) < (ds.length : Int) := by omega
   have hw : IntKind.i64.wrap ((i : Int) + 1) = ((i + 1 : Nat) : Int) := by rw [w64 (by omega) (by omega)]; omega
   have hlim : r.length + 2 < lim := by rw [lim_eq]; omega
   rw [impl_OwnersOf_p0_eq]
   simp only [hlt,decide_true,if_true,Int.natCast_nonneg,Int.toNat_natCast,dd_get hi,Option.bind_some,hw,hlim,List.take_length]
   refine owners0 ds hds k (i + 1) _ (by omega) (by simp only [List.length_append,List.length_cons,List.length_nil]; omega) fun x hx => ?_
   have hd := dd_ok hds hi
   rcases List.mem_append.1 hx with hx | hx
   ·exact h x hx
   ·simp only [List.mem_cons,List.not_mem_nil,or_false] at hx
    rcases hx with rfl | rfl
    ·exact hd.n1
    ·exact hd.n2
theorem owners_ok {ds : List T_Deed.ty} (hds : DeedsOk ds) : ∃ O,impl_OwnersOf ds = some (O,0) ∧ O.Pairwise (· < ·) ∧ (∀ x,x ∈ O → isName x = true) ∧ O.length ≤ 1000 ∧ (0 < O.length ↔ 0 < ds.length) := by
 have hl := hds.len
 obtain ⟨O,e,h1,h2⟩ := owners0 ds hds ds.length 0 [] (by omega) rfl (fun l h => by cases h)
 have e : impl_OwnersOf_p0 ds ds.length 0 [] = _ := e
 obtain ⟨r1,r2,r3⟩ := less_runs O
 have hle := lessP_le O
 rw [impl_OwnersOf_eq,impl_deeds_ok hds]
 simp only [Option.bind_some,Bool.not_true,Bool.false_eq_true,if_false,e]
 refine ⟨_,rfl,r2,fun x hx => h2 x ((r3 x).1 hx),by omega,fun h => by omega,fun h => ?_⟩
 cases O with
 | nil => simp at h1; omega
 | cons x r => exact List.length_pos_of_mem ((r3 x).2 List.mem_cons_self)
def ci (cs : List Nat) (q : Nat) : Nat := (cs[q]?).getD 0
theorem ci_is {cs : List Nat} {q : Nat} (h : q < cs.length) : cs[q] = ci cs q := by simp [ci,List.getElem?_eq_getElem h]
theorem ic_gi {cs : List Nat} {q : Nat} (h : q < cs.length) : (ic cs)[q]? = some ((ci cs q : Nat) : Int) := by rw [ic_get h,ci_is h]
theorem Ch.clt {ds : List T_Deed.ty} {cs : List Nat} (h : Ch ds cs) {q : Nat} (hq : q < cs.length) : ci cs q < ds.length := by rw [← ci_is hq]; exact h.lt q hq
theorem Ch.cup {ds : List T_Deed.ty} {cs : List Nat} (h : Ch ds cs) {q : Nat} (hq : q + 1 < cs.length) : ci cs q < ci cs (q + 1) := by rw [← ci_is hq,← ci_is (show q < cs.length by omega)]; exact (h.step q hq).1
def wantP (ds : List T_Deed.ty) (y : Int) : List UInt8 → List Nat → List UInt8
 | w,[] => w
 | w,k :: r => wantP ds y (if yer ds k ≤ y then (dd ds k).2.1 else w) r
theorem ownerIn_loop (ds : List T_Deed.ty) (hl : ds.length ≤ 8) (y : Int) (cs : List Nat) (hc : Ch ds cs) : ∀ (k i : Nat) (w : List UInt8),i + k = cs.length → impl_OwnerIn_p0 ds y w (ic cs) (ic cs).length i = some (wantP ds y w (cs.drop i),0)
 | 0,i,w,hk => by
   have hlt : ¬ (i : Int) < ((ic cs).length : Int) := by rw [ic_len]; omega
   rw [impl_OwnerIn_p0_eq,List.drop_eq_nil_of_le (by omega),wantP]
   simp only [hlt,decide_false,Bool.false_eq_true,if_false]
 | k + 1,i,w,hk => by
   have hlen := hc.len
   have hi : i < cs.length := by omega
   have hlt : (i : Int) < ((ic cs).length : Int) := by rw [ic_len]; omega
   have hw : IntKind.i64.wrap ((i : Int) + 1) = ((i + 1 : Nat) : Int) := by rw [w64 (by omega) (by omega)]; omega
   rw [impl_OwnerIn_p0_eq,List.drop_eq_getElem_cons hi,wantP,ci_is hi]
   simp only [hlt,decide_true,if_true,Int.natCast_nonneg,Int.toNat_natCast,ic_gi hi,yer_eq,dd_get (hc.clt hi),Option.bind_some,hw]
   by_cases h : yer ds (ci cs i) ≤ y
   ·simp only [h,decide_true,if_true]
    exact ownerIn_loop ds hl y cs hc k (i + 1) _ (by omega)
   ·simp only [h,decide_false,Bool.false_eq_true,if_false]
    exact ownerIn_loop ds hl y cs hc k (i + 1) _ (by omega)
theorem ownerIn_ok {ds : List T_Deed.ty} (hds : DeedsOk ds) {cs : List Nat} (hc : Ch ds cs) (y : Int) (hy : 0 ≤ y ∧ y ≤ 2100) : impl_OwnerIn ds (ic cs) y = some (wantP ds y (dd ds (ci cs 0)).1 cs,0) := by
 have hl := hds.len
 have g0 := ic_gi hc.ne
 have hlp := ownerIn_loop ds hl y cs hc cs.length 0 (dd ds (ci cs 0)).1 (by omega)
 have hlp : impl_OwnerIn_p0 ds y (dd ds (ci cs 0)).1 (ic cs) (ic cs).length 0 = _ := hlp
 rw [List.drop_zero] at hlp
 rw [impl_OwnerIn_eq,impl_deeds_ok hds,impl_isYear_eq,impl_within_ok,inR_iff'.2 hy,impl_chain_ok hl hc]
 simp only [Option.bind_some,Bool.not_true,Bool.false_eq_true,if_false,g0,Int.natCast_nonneg,decide_true,if_true,Int.toNat_natCast,dd_get (hc.clt hc.ne),hlp]
def gapP (ds : List T_Deed.ty) (cs : List Nat) (q : Nat) : Int := yer ds (ci cs q) - yer ds (ci cs (q - 1))
theorem gap_bd {ds : List T_Deed.ty} (hds : DeedsOk ds) {cs : List Nat} (hc : Ch ds cs) {q : Nat} (hq : q + 1 < cs.length) : 0 ≤ gapP ds cs (q + 1) ∧ IntKind.i64.wrap (yer ds (ci cs (q + 1)) - yer ds (ci cs q)) = gapP ds cs (q + 1) := by
 have a := yer_bd hds (hc.clt hq)
 have b := yer_bd hds (hc.clt (show q < cs.length by omega))
 have c := yer_up hds (hc.cup hq) (hc.clt hq)
 rw [gapP,Nat.add_sub_cancel,w64 (by omega) (by omega)]
 exact ⟨by omega,rfl⟩
theorem hold_loop (ds : List T_Deed.ty) (hds : DeedsOk ds) (cs : List Nat) (hc : Ch ds cs) : ∀ (k i : Nat) (h y : Int),i + 1 + k = cs.length → (∀ q,1 ≤ q → q < i + 1 → gapP ds cs q ≤ y) → ((y = -1 ∧ i = 0) ∨ ∃ q : Nat,h = q ∧ 1 ≤ q ∧ q < i + 1 ∧ gapP ds cs q = y) →
 ∃ h' y' : Int,impl_LongestHold_p0 ds (ic cs) h y ((i + 1 : Nat) : Int) = some (h',y',0) ∧ (∀ q,1 ≤ q → q < cs.length → gapP ds cs q ≤ y') ∧ ((y' = -1 ∧ cs.length = 1) ∨ ∃ q : Nat,h' = q ∧ 1 ≤ q ∧ q < cs.length ∧ gapP ds cs q = y')
 | 0,i,h,y,hk,h1,h2 => by
   have hlt : ¬ ((i + 1 : Nat) : Int) < ((ic cs).length : Int) := by rw [ic_len]; omega
   rw [impl_LongestHold_p0_eq]
   simp only [hlt,decide_false,Bool.false_eq_true,if_false]
   refine ⟨h,y,rfl,fun q a b => h1 q a (by omega),?_⟩
   rcases h2 with ⟨a,b⟩ | ⟨q,a,b,c,d⟩
   ·exact .inl ⟨a,by omega⟩
   ·exact .inr ⟨q,a,b,by omega,d⟩
 | k + 1,i,h,y,hk,h1,h2 => by
   have hl := hds.len
   have hlen := hc.len
   have hi : i + 1 < cs.length := by omega
   have hlt : ((i + 1 : Nat) : Int) < ((ic cs).length : Int) := by rw [ic_len]; omega
   have hw : IntKind.i64.wrap (((i + 1 : Nat) : Int) + 1) = ((i + 1 + 1 : Nat) : Int) := by rw [w64 (by omega) (by omega)]; omega
   have hw1 : IntKind.i64.wrap (((i + 1 : Nat) : Int) - 1) = ((i : Nat) : Int) := by rw [w64 (by omega) (by omega)]; omega
   obtain ⟨g0,g1⟩ := gap_bd hds hc hi
   rw [impl_LongestHold_p0_eq]
   simp only [hlt,decide_true,if_true,Int.natCast_nonneg,Int.toNat_natCast,ic_gi hi,ic_gi (show i < cs.length by omega),yer_eq,dd_get (hc.clt hi),dd_get (hc.clt (show i < cs.length by omega)),Option.bind_some,hw,hw1,g1]
   by_cases h3 : gapP ds cs (i + 1) > y
   ·simp only [h3,decide_true,if_true]
    refine hold_loop ds hds cs hc k (i + 1) _ _ (by omega) (fun q a b => ?_) (.inr ⟨i + 1,rfl,by omega,by omega,rfl⟩)
    by_cases e : q = i + 1
    ·subst e; exact Int.le_refl _
    ·have := h1 q a (by omega); omega
   ·simp only [h3,decide_false,Bool.false_eq_true,if_false]
    refine hold_loop ds hds cs hc k (i + 1) h y (by omega) (fun q a b => ?_) ?_
    ·by_cases e : q = i + 1
     ·subst e; omega
     ·exact h1 q a (by omega)
    ·rcases h2 with ⟨a,b⟩ | ⟨q,a,b,c,d⟩
     ·omega
     ·exact .inr ⟨q,a,b,by omega,d⟩
theorem hold_ok {ds : List T_Deed.ty} (hds : DeedsOk ds) {cs : List Nat} (hc : Ch ds cs) : ∃ h y e : Int,impl_LongestHold ds (ic cs) = some (h,y,e) ∧ ((e ≠ 0 ∧ cs.length = 1) ∨ (e = 0 ∧ 1 < cs.length ∧ (∀ q,1 ≤ q → q < cs.length → gapP ds cs q ≤ y) ∧ ∃ q : Nat,h = q ∧ 1 ≤ q ∧ q < cs.length ∧ gapP ds cs q = y)) := by
 have hl := hds.len
 have hne := hc.ne
 rw [impl_LongestHold_eq,impl_deeds_ok hds,impl_chain_ok hl hc]
 simp only [Option.bind_some,Bool.not_true,Bool.false_eq_true,if_false]
 by_cases h1 : cs.length = 1
 ·have : ((ic cs).length : Int) = 1 := by rw [ic_len]; omega
  rw [this]
  exact ⟨0,0,3,rfl,.inl ⟨by decide,h1⟩⟩
 ·have hn : ¬ ((ic cs).length : Int) = 1 := by rw [ic_len]; omega
  rw [if_neg (by simpa using hn)]
  obtain ⟨h,y,e,a,b⟩ := hold_loop ds hds cs hc (cs.length - 1) 0 0 (-1) (by omega) (fun q a b => by omega) (.inl ⟨rfl,rfl⟩)
  have e : impl_LongestHold_p0 ds (ic cs) 0 (-1) 1 = _ := e
  refine ⟨h,y,0,e,.inr ⟨rfl,by omega,a,?_⟩⟩
  rcases b with ⟨_,b⟩ | b
  ·exact absurd b h1
  ·exact b
theorem at_ok (v : List Int) (hv : ∀ x,x ∈ v → 0 ≤ x ∧ x ≤ 255) (k : Nat) (n : Int) (hn : 2 ≤ n ∧ n ≤ 256) : ∃ x : Int,laws_r8At v k n = some x ∧ 0 ≤ x ∧ x < n := by
 have h1 : ¬ n ≤ 1 := by omega
 rw [laws_r8At_eq]
 simp only [h1,decide_false,Bool.false_eq_true,if_false]
 by_cases h2 : (k : Int) ≥ (v.length : Int)
 ·simp only [h2,decide_true,if_true]; exact ⟨0,rfl,by omega,by omega⟩
 ·have hk : k < v.length := by omega
  have hb := hv v[k] (List.getElem_mem hk)
  have hz : ¬ n = 0 := by omega
  have hw : IntKind.i64.wrap v[k] = v[k] := w64 (by omega) (by omega)
  simp only [h2,decide_false,Bool.false_eq_true,if_false,laws_r8At_p0_eq,Int.natCast_nonneg,decide_true,if_true,Int.toNat_natCast,List.getElem?_eq_getElem hk,Option.bind_some,hz,hw]
  rw [tmod_nonneg_eq hb.1]
  exact ⟨_,rfl,Int.emod_nonneg _ hz,Int.emod_lt_of_pos _ (by omega)⟩
theorem wide_ok (v : List Int) (hv : ∀ x,x ∈ v → 0 ≤ x ∧ x ≤ 255) : ∃ x : Int,laws_r8Wide v 30 300 = some x ∧ 0 ≤ x ∧ x < 300 := by
 obtain ⟨a,e1,a1,a2⟩ := at_ok v hv 30 256 (by omega)
 obtain ⟨b,e2,b1,b2⟩ := at_ok v hv 31 256 (by omega)
 have e1 : laws_r8At v 30 256 = some a := e1
 have hw0 : IntKind.i64.wrap (30 + 1) = ((31 : Nat) : Int) := by decide
 have hw1 : IntKind.i64.wrap (256 * a) = 256 * a := w64 (by omega) (by omega)
 have hw2 : IntKind.i64.wrap (256 * a + b) = 256 * a + b := w64 (by omega) (by omega)
 have hz : ¬ (300 : Int) = 0 := by decide
 rw [laws_r8Wide_eq,e1,Option.bind_some,hw0,e2]
 simp only [Option.bind_some,hz,decide_false,Bool.false_eq_true,if_false,hw1,hw2]
 rw [tmod_nonneg_eq (by omega)]
 exact ⟨_,rfl,Int.emod_nonneg _ (by decide),Int.emod_lt_of_pos _ (by decide)⟩
theorem any_no {ds : List T_Deed.ty} {x : List UInt8} (h : (ds.any fun d => d.2.1 == x) = false) {i : Nat} (hi : i < ds.length) : ((dd ds i).2.1 == x) = false := by
 have e : dd ds i = ds[i] := by simp [dd,List.getElem?_eq_getElem hi]
 rw [List.any_eq_false] at h
 rw [e]
 have := h _ (List.getElem_mem hi)
 simpa using this
theorem q15_loop (ds : List T_Deed.ty) (hds : DeedsOk ds) (h e : Int) (F : List (List UInt8)) (hF : F.length ≤ 1000) (cs : List Nat) (i : Nat) (hi : i < F.length) (hx : (ds.any fun d => d.2.1 == F[i]) = false) : ∀ (k j : Nat),j + k = ds.length → laws_FnProvenance_p15 ds h e F i j (ic cs) = laws_FnProvenance_p14 ds h e F ((i + 1 : Nat) : Int) (ic cs)
 | 0,j,hk => by
   have hlt : ¬ (j : Int) < (ds.length : Int) := by omega
   have hw : IntKind.i64.wrap ((i : Int) + 1) = ((i + 1 : Nat) : Int) := by rw [w64 (by omega) (by omega)]; omega
   rw [laws_FnProvenance_p15_eq]
   simp only [hlt,decide_false,Bool.false_eq_true,if_false,hw]
 | k + 1,j,hk => by
   have hl := hds.len
   have hj : j < ds.length := by omega
   have hlt : (j : Int) < (ds.length : Int) := by omega
   have hw : IntKind.i64.wrap ((j : Int) + 1) = ((j + 1 : Nat) : Int) := by rw [w64 (by omega) (by omega)]; omega
   rw [laws_FnProvenance_p15_eq]
   simp only [hlt,decide_true,if_true,Int.natCast_nonneg,Int.toNat_natCast,dd_get hj,Option.bind_some,List.getElem?_eq_getElem hi,any_no hx hj,Bool.false_eq_true,if_false,hw]
   exact q15_loop ds hds h e F hF cs i hi hx k (j + 1) (by omega)
def EndOk (cs : List Nat) (h e : Int) : Prop := e ≠ 0 ∨ (h ≥ 1 ∧ h < (cs.length : Int))
theorem q14_loop (ds : List T_Deed.ty) (hds : DeedsOk ds) (h e : Int) (F : List (List UInt8)) (hF : F.length ≤ 1000) (hx : ∀ x,x ∈ F → (ds.any fun d => d.2.1 == x) = false) (cs : List Nat) (he : EndOk cs h e) : ∀ (k i : Nat),i + k = F.length → laws_FnProvenance_p14 ds h e F i (ic cs) = some true
 | 0,i,hk => by
   have hlt : ¬ (i : Int) < (F.length : Int) := by omega
   rw [laws_FnProvenance_p14_eq]
   simp only [hlt,decide_false,Bool.false_eq_true,if_false]
   by_cases h0 : e = 0
   ·rcases he with he | ⟨a,b⟩
    ·exact absurd h0 he
    ·subst h0
     simp only [bne_self_eq_false,Bool.false_eq_true,if_false,a,decide_true,if_true,ic_len,b]
   ·have : (e != 0) = true := by simpa using h0
    simp only [this,if_true]
 | k + 1,i,hk => by
   have hi : i < F.length := by omega
   have hlt : (i : Int) < (F.length : Int) := by omega
   have h15 := q15_loop ds hds h e F hF cs i hi (hx _ (List.getElem_mem hi)) ds.length 0 (by omega)
   have h15 : laws_FnProvenance_p15 ds h e F i 0 (ic cs) = _ := h15
   rw [laws_FnProvenance_p14_eq]
   simp only [hlt,decide_true,if_true,h15]
   exact q14_loop ds hds h e F hF hx cs he k (i + 1) (by omega)
theorem q12_loop (ds : List T_Deed.ty) (hds : DeedsOk ds) (h e : Int) (R : List (List Int)) (hR : R.length ≤ 64) (hx : ∀ l,l ∈ R → PairOk ds l) (cs : List Nat) (he : EndOk cs h e) : ∀ (k i : Nat),i + k = R.length → laws_FnProvenance_p12 ds h e R i (ic cs) = some true
 | 0,i,hk => by
   have hlt : ¬ (i : Int) < (R.length : Int) := by omega
   obtain ⟨F,e1,e2,e3⟩ := firsts_ok hds
   have h14 := q14_loop ds hds h e F e2 e3 cs he F.length 0 (by omega)
   have h14 : laws_FnProvenance_p14 ds h e F 0 (ic cs) = _ := h14
   rw [laws_FnProvenance_p12_eq]
   simp only [hlt,decide_false,Bool.false_eq_true,if_false,e1,Option.bind_some,bne_self_eq_false,h14]
 | k + 1,i,hk => by
   have hi : i < R.length := by omega
   have hlt : (i : Int) < (R.length : Int) := by omega
   have hw : IntKind.i64.wrap ((i : Int) + 1) = ((i + 1 : Nat) : Int) := by rw [w64 (by omega) (by omega)]; omega
   obtain ⟨a,b,hl,hab,hb,hf⟩ := hx _ (List.getElem_mem hi)
   have ih := q12_loop ds hds h e R hR hx cs he k (i + 1) (by omega)
   have hd := dd_ok hds (show a < ds.length by omega)
   have hno := spec_pair_no hds hab hb (fun e => hd.ne (hf.trans e.symm))
   have g0 : (ic [a,b])[0]? = some (a : Int) := rfl
   have g1 : (ic [a,b])[1]? = some (b : Int) := rfl
   have gl : ((ic [a,b]).length : Int) = 2 := rfl
   have c1 : ¬ (a : Int) < 0 := by omega
   have c2 : ¬ (a : Int) ≥ (b : Int) := by omega
   have c3 : ¬ (b : Int) ≥ (ds.length : Int) := by omega
   rw [laws_FnProvenance_p12_eq]
   simp only [hlt,decide_true,if_true,Int.natCast_nonneg,Int.toNat_natCast,List.getElem?_eq_getElem hi,Option.bind_some,hl,gl,g0,g1,bne_self_eq_false,Bool.false_eq_true,if_false,c1,c2,c3,decide_false,dd_get (show a < ds.length by omega),dd_get hb,hf,beq_self_eq_true,Bool.not_true,laws_FnProvenance_p13_eq,hno,hw,ih]
theorem q11_loop (ds : List T_Deed.ty) (hds : DeedsOk ds) (h y e : Int) (cs : List Nat) (hc : Ch ds cs) (he : EndOk cs h e) (h1 : ∀ q,1 ≤ q → q < cs.length → gapP ds cs q ≤ y) (h2 : ∀ q : Nat,(q : Int) = h → 1 ≤ q → q < cs.length → gapP ds cs q = y) : ∀ (k i : Nat),i + 1 + k = cs.length → laws_FnProvenance_p11 ds h y e ((i + 1 : Nat) : Int) (ic cs) = some true
 | 0,i,hk => by
   have hlt : ¬ ((i + 1 : Nat) : Int) < ((ic cs).length : Int) := by rw [ic_len]; omega
   obtain ⟨R,e1,e2,e3⟩ := rivals_ok hds
   have h12 := q12_loop ds hds h e R e2 e3 cs he R.length 0 (by omega)
   have h12 : laws_FnProvenance_p12 ds h e R 0 (ic cs) = _ := h12
   rw [laws_FnProvenance_p11_eq]
   simp only [hlt,decide_false,Bool.false_eq_true,if_false,e1,Option.bind_some,bne_self_eq_false,h12]
 | k + 1,i,hk => by
   have hl := hds.len
   have hlen := hc.len
   have hi : i + 1 < cs.length := by omega
   have hlt : ((i + 1 : Nat) : Int) < ((ic cs).length : Int) := by rw [ic_len]; omega
   have hlt0 : ((i : Nat) : Int) < ((ic cs).length : Int) := by rw [ic_len]; omega
   have hw : IntKind.i64.wrap (((i + 1 : Nat) : Int) + 1) = ((i + 1 + 1 : Nat) : Int) := by rw [w64 (by omega) (by omega)]; omega
   have hw1 : IntKind.i64.wrap (((i + 1 : Nat) : Int) - 1) = ((i : Nat) : Int) := by rw [w64 (by omega) (by omega)]; omega
   obtain ⟨g0,g1⟩ := gap_bd hds hc hi
   have hle : ¬ gapP ds cs (i + 1) > y := Int.not_lt.2 (h1 (i + 1) (by omega) hi)
   have ih := q11_loop ds hds h y e cs hc he h1 h2 k (i + 1) (by omega)
   rw [laws_FnProvenance_p11_eq]
   simp only [hlt,hlt0,decide_true,if_true,Int.natCast_nonneg,Bool.and_self,Int.toNat_natCast,ic_gi hi,ic_gi (show i < cs.length by omega),yer_eq,dd_get (hc.clt hi),dd_get (hc.clt (show i < cs.length by omega)),Option.bind_some,hw,hw1,g1,hle,decide_false,Bool.false_eq_true,if_false,ih]
   by_cases h3 : ((i + 1 : Nat) : Int) = h
   ·have hg := h2 (i + 1) h3 (by omega) hi
    have hb : (((i + 1 : Nat) : Int) == h) = true := by simpa using h3
    simp only [hb,if_true,hg,bne_self_eq_false,Bool.false_eq_true,if_false]
   ·have hb : (((i + 1 : Nat) : Int) == h) = false := by simpa using h3
    simp only [hb,Bool.false_eq_true,if_false]
theorem q9_loop (ds : List T_Deed.ty) (hds : DeedsOk ds) (y : Int) (cs : List Nat) (hc : Ch ds cs) (o : List UInt8) : ∀ (k i : Nat) (w : List UInt8),i + k = cs.length → wantP ds y w (cs.drop i) = o → laws_FnProvenance_p9 ds y o 0 w i (ic cs) = some true
 | 0,i,w,hk,ho => by
   have hlt : ¬ (i : Int) < ((ic cs).length : Int) := by rw [ic_len]; omega
   rw [List.drop_eq_nil_of_le (by omega),wantP] at ho
   subst ho
   have hne := hc.ne
   obtain ⟨h,u,e,e1,e2⟩ := hold_ok hds hc
   rw [laws_FnProvenance_p9_eq]
   simp only [hlt,decide_false,Bool.false_eq_true,if_false,List.take_length,e1,Option.bind_some,bne_self_eq_false,beq_self_eq_true,Bool.not_true]
   rcases e2 with ⟨a,b⟩ | ⟨a,b,c,q,d1,d2,d3,d4⟩
   ·have hlen : ¬ ((ic cs).length : Int) > 1 := by rw [ic_len]; omega
    have h0 : (e == 0) = false := by simpa using a
    have h11 := q11_loop ds hds h u e cs hc (.inl a) (fun q a b => by omega) (fun q _ a b => by omega) 0 0 (by omega)
    have h11 : laws_FnProvenance_p11 ds h u e 1 (ic cs) = _ := h11
    simp only [hlen,h0,decide_false,beq_self_eq_true,Bool.not_true,Bool.false_eq_true,if_false,laws_FnProvenance_p10_eq,h11]
   ·have hlen : ((ic cs).length : Int) > 1 := by rw [ic_len]; omega
    subst a
    have h11 := q11_loop ds hds h u 0 cs hc (.inr ⟨by omega,by omega⟩) c (fun p hp _ _ => by
     have : p = q := by omega
     subst this; exact d4) (cs.length - 1) 0 (by omega)
    have h11 : laws_FnProvenance_p11 ds h u 0 1 (ic cs) = _ := h11
    simp only [hlen,beq_self_eq_true,decide_true,Bool.not_true,Bool.false_eq_true,if_false,laws_FnProvenance_p10_eq,h11]
 | k + 1,i,w,hk,ho => by
   have hl := hds.len
   have hlen := hc.len
   have hi : i < cs.length := by omega
   have hlt : (i : Int) < ((ic cs).length : Int) := by rw [ic_len]; omega
   have hw : IntKind.i64.wrap ((i : Int) + 1) = ((i + 1 : Nat) : Int) := by rw [w64 (by omega) (by omega)]; omega
   rw [List.drop_eq_getElem_cons hi,wantP,ci_is hi] at ho
   rw [laws_FnProvenance_p9_eq]
   simp only [hlt,decide_true,if_true,Int.natCast_nonneg,Bool.and_self,Int.toNat_natCast,ic_gi hi,yer_eq,dd_get (hc.clt hi),Option.bind_some,hw]
   by_cases h : yer ds (ci cs i) ≤ y
   ·rw [if_pos h] at ho
    simp only [h,decide_true,if_true]
    exact q9_loop ds hds y cs hc o k (i + 1) _ (by omega) ho
   ·rw [if_neg h] at ho
    simp only [h,decide_false,Bool.false_eq_true,if_false]
    exact q9_loop ds hds y cs hc o k (i + 1) _ (by omega) ho
theorem sumD_bd {ds : List T_Deed.ty} (hds : DeedsOk ds) {bs : List Nat} (hb : Ch ds bs) : ∀ i,i ≤ bs.length → 0 ≤ sumD ds (bs.take i) ∧ sumD ds (bs.take i) ≤ 1000 * (i : Int)
 | 0,_ => by simp [sumD]
 | i + 1,h => by
   obtain ⟨a,b⟩ := sumD_bd hds hb i (by omega)
   have hd := dbt_bd hds (hb.clt (show i < bs.length by omega))
   rw [List.take_add_one,List.getElem?_eq_getElem (show i < bs.length by omega),Option.toList_some,sumD_snoc,ci_is (show i < bs.length by omega)]
   omega
section
variable (v1 : List Int) (hv : ∀ x,x ∈ v1 → 0 ≤ x ∧ x ≤ 255) (ds : List T_Deed.ty) (hds : DeedsOk ds) (O : List (List UInt8)) (hO : O.length ≤ 1000) (hO1 : O.Pairwise (· < ·)) (hO2 : ∀ x,x ∈ O → isName x = true)
 (cs : List Nat) (hc : Ch ds cs) (L : List T_link.ty) (eL : impl_links ds (dd ds (ci cs 0)).1 = some L) (hLn : L.length = ds.length) (hL : Tab ds (dd ds (ci cs 0)).1 L ds.length)
 (R : List (List UInt8)) (hR : R.length ≤ 1000) (hR1 : ∀ x,x ∈ R ↔ ∃ j,j < ds.length ∧ (lnk L j).1 = true ∧ (dd ds j).2.1 = x)
include hv hds hO hO1 hO2 hc hL hR hR1
theorem q8_loop (t : List UInt8) (u w : Int) (i : Nat) (hi : i < O.length) : ∀ (k j : Nat),j + k = R.length →
 laws_FnProvenance_p8 v1 ds O R i ((R.take j).any fun x => x == O[i]) j (ic cs) (dd ds (ci cs 0)).1 t u w = laws_FnProvenance_p7 v1 ds O R ((i + 1 : Nat) : Int) (ic cs) (dd ds (ci cs 0)).1 t u w
 | 0,j,hk => by
   have hlt : ¬ (j : Int) < (R.length : Int) := by omega
   have hw : IntKind.i64.wrap ((i : Int) + 1) = ((i + 1 : Nat) : Int) := by rw [w64 (by omega) (by omega)]; omega
   have hd := dd_ok hds (hc.clt hc.ne)
   obtain ⟨r,x,e,e1,e2⟩ := spec_best_ok hds hd.n1 (hO2 _ (List.getElem_mem hi)) hL
   have hfound : ((R.take j).any fun x => x == O[i]) = (e == 0) := by
    rw [List.take_of_length_le (by omega)]
    by_cases h0 : e = 0
    ·have : O[i] ∈ R := (hR1 _).2 (e2.1 h0)
     rw [h0,beq_self_eq_true,List.any_eq_true]
     exact ⟨_,this,by simp⟩
    ·have hb : (e == 0) = false := by simpa using h0
     rw [hb,List.any_eq_false]
     intro x hx hxo
     have : x = O[i] := by simpa using hxo
     exact h0 (e2.2 ((hR1 _).1 (this ▸ hx)))
   rw [laws_FnProvenance_p8_eq]
   simp only [hlt,decide_false,Bool.false_eq_true,if_false,Int.natCast_nonneg,decide_true,if_true,Int.toNat_natCast,List.getElem?_eq_getElem hi,Option.bind_some,e1,hfound,beq_self_eq_true,Bool.not_true,hw]
   by_cases h0 : (i : Int) > 0
   ·have hw1 : IntKind.i64.wrap ((i : Int) - 1) = ((i - 1 : Nat) : Int) := by rw [w64 (by omega) (by omega)]; omega
    have hb : Op.bytesLess O[i - 1] O[i] = true := by
     rw [Proofs.bytesLess_eq]
     exact decide_eq_true (List.pairwise_iff_getElem.1 hO1 (i - 1) i (by omega) hi (by omega))
    simp only [h0,decide_true,if_true,hw1,Int.natCast_nonneg,Int.toNat_natCast,List.getElem?_eq_getElem (show i - 1 < O.length by omega),Option.bind_some,hb,Bool.not_true,Bool.false_eq_true,if_false]
   ·simp only [h0,decide_false,Bool.false_eq_true,if_false]
 | k + 1,j,hk => by
   have hj : j < R.length := by omega
   have hlt : (j : Int) < (R.length : Int) := by omega
   have hw : IntKind.i64.wrap ((j : Int) + 1) = ((j + 1 : Nat) : Int) := by rw [w64 (by omega) (by omega)]; omega
   have ih := q8_loop t u w i hi k (j + 1) (by omega)
   rw [List.take_add_one,List.getElem?_eq_getElem hj,Option.toList_some,List.any_append] at ih
   rw [laws_FnProvenance_p8_eq]
   cases hb : (R.take j).any fun x => x == O[i]
   ·rw [hb,Bool.false_or] at ih
    simp only [hlt,decide_true,if_true,Bool.false_eq_true,if_false,Int.natCast_nonneg,Int.toNat_natCast,List.getElem?_eq_getElem hj,List.getElem?_eq_getElem hi,Option.bind_some,hw]
    simpa using ih
   ·rw [hb,Bool.true_or] at ih
    simp only [hlt,decide_true,if_true,hw]
    exact ih
theorem q7_loop (t : List UInt8) (u w : Int) : ∀ (k i : Nat),i + k = O.length → laws_FnProvenance_p7 v1 ds O R i (ic cs) (dd ds (ci cs 0)).1 t u w = some true
 | 0,i,hk => by
   have hlt : ¬ (i : Int) < (O.length : Int) := by omega
   obtain ⟨x,e,x1,x2⟩ := wide_ok v1 hv
   have hw : IntKind.i64.wrap (1690 + x) = 1690 + x := w64 (by omega) (by omega)
   have h9 := q9_loop ds hds (1690 + x) cs hc _ cs.length 0 (dd ds (ci cs 0)).1 (by omega) rfl
   rw [List.drop_zero] at h9
   have h9 : laws_FnProvenance_p9 ds (1690 + x) (wantP ds (1690 + x) (dd ds (ci cs 0)).1 cs) 0 (dd ds (ci cs 0)).1 0 (ic cs) = _ := h9
   rw [laws_FnProvenance_p7_eq]
   simp only [hlt,decide_false,Bool.false_eq_true,if_false,e,Option.bind_some,hw,List.take_length,ownerIn_ok hds hc (1690 + x) (by omega),h9]
 | k + 1,i,hk => by
   have hi : i < O.length := by omega
   have hlt : (i : Int) < (O.length : Int) := by omega
   have h8 := q8_loop v1 hv ds hds O hO hO1 hO2 cs hc L hL R hR hR1 t u w i hi R.length 0 (by omega)
   have h8 : laws_FnProvenance_p8 v1 ds O R i false 0 (ic cs) (dd ds (ci cs 0)).1 t u w = _ := h8
   rw [laws_FnProvenance_p7_eq]
   simp only [hlt,decide_true,if_true,h8]
   exact q7_loop t u w k (i + 1) (by omega)
theorem q5_loop (c : Int) (bs : List Nat) (hb : Ch ds bs) (hs : sumD ds bs = c) (h1 : (dd ds (ci bs 0)).1 = (dd ds (ci cs 0)).1) (t1 t2 : List UInt8) (u1 u2 w1 w2 : Int) (x1 x2 : List UInt8) (h2 : (dd ds (ci bs (bs.length - 1))).2.1 = x2) : ∀ (k i : Nat),i + k = bs.length →
 laws_FnProvenance_p5 v1 ds O c R (sumD ds (bs.take i)) i (ic cs) (dd ds (ci cs 0)).1 t1 u1 w1 x1 x2 u2 w2 (ic bs) = some true
 | 0,i,hk => by
   have hl := hds.len
   have hlen := hb.len
   have hne := hb.ne
   have hlt : ¬ (i : Int) < ((ic bs).length : Int) := by rw [ic_len]; omega
   have hl0 : (0 : Int) < ((ic bs).length : Int) := by rw [ic_len]; omega
   have hll : ((bs.length - 1 : Nat) : Int) < ((ic bs).length : Int) := by rw [ic_len]; omega
   have hw : IntKind.i64.wrap (((ic bs).length : Int) - 1) = ((bs.length - 1 : Nat) : Int) := by rw [ic_len,w64 (by omega) (by omega)]; omega
   have h7 := q7_loop v1 hv ds hds O hO hO1 hO2 cs hc L hL R hR hR1 t1 u1 w1 O.length 0 (by omega)
   have h7 : laws_FnProvenance_p7 v1 ds O R 0 (ic cs) (dd ds (ci cs 0)).1 t1 u1 w1 = _ := h7
   rw [laws_FnProvenance_p5_eq,List.take_of_length_le (by omega),hs]
   simp only [hlt,decide_false,Bool.false_eq_true,if_false,bne_self_eq_false,hl0,decide_true,if_true,ic_gi hne,Option.bind_some,Int.natCast_nonneg,Int.toNat_natCast,dd_get (hb.clt hne),h1,beq_self_eq_true,Bool.not_true,hw,hll,Bool.and_self,ic_gi (show bs.length - 1 < bs.length by omega),dd_get (hb.clt (show bs.length - 1 < bs.length by omega)),h2,laws_FnProvenance_p6_eq,h7]
 | k + 1,i,hk => by
   have hl := hds.len
   have hlen := hb.len
   have hi : i < bs.length := by omega
   have hlt : (i : Int) < ((ic bs).length : Int) := by rw [ic_len]; omega
   have hw : IntKind.i64.wrap ((i : Int) + 1) = ((i + 1 : Nat) : Int) := by rw [w64 (by omega) (by omega)]; omega
   have hsb := sumD_bd hds hb i (by omega)
   have hd := dbt_bd hds (hb.clt hi)
   have hw2 : IntKind.i64.wrap (sumD ds (bs.take i) + dbt ds (ci bs i)) = sumD ds (bs.take i) + dbt ds (ci bs i) := w64 (by omega) (by omega)
   have ih := q5_loop c bs hb hs h1 t1 t2 u1 u2 w1 w2 x1 x2 h2 k (i + 1) (by omega)
   rw [List.take_add_one,List.getElem?_eq_getElem hi,Option.toList_some,sumD_snoc,ci_is hi] at ih
   rw [laws_FnProvenance_p5_eq]
   simp only [hlt,decide_true,if_true,Int.natCast_nonneg,Bool.and_self,Int.toNat_natCast,ic_gi hi,dbt_eq,dd_get (hb.clt hi),Option.bind_some,hw,hw2]
   exact ih
end
structure Sofar (ds : List T_Deed.ty) (cs : List Nat) (k : Nat) : Prop where
 ch : cs.length = 0 ∨ Ch ds cs
 lt : ∀ i,i < cs.length → ci cs i < k
theorem ci_snoc {cs : List Nat} {k i : Nat} (h : i < cs.length) : ci (cs ++ [k]) i = ci cs i := by simp [ci,List.getElem?_append_left h]
theorem ci_end (cs : List Nat) (k : Nat) : ci (cs ++ [k]) cs.length = k := by simp [ci]
theorem Sofar.add {ds : List T_Deed.ty} {cs : List Nat} {k : Nat} (h : Sofar ds cs k) (hk : k < ds.length) (hd : 0 < cs.length → (dd ds (ci cs (cs.length - 1))).2.1 = (dd ds k).1) : Sofar ds (cs ++ [k]) (k + 1) ∧ Ch ds (cs ++ [k]) := by
 have hlen : (cs ++ [k]).length = cs.length + 1 := by simp
 have hc : Ch ds (cs ++ [k]) := by
  refine ⟨by omega,fun i hi => ?_,fun i hi => ?_⟩
  ·rw [ci_is hi]
   by_cases e : i = cs.length
   ·subst e; rw [ci_end]; exact hk
   ·rw [ci_snoc (by omega)]
    rcases h.ch with a | a
    ·omega
    ·exact a.clt (by omega)
  ·rw [ci_is hi,ci_is (show i < (cs ++ [k]).length by omega),ci_snoc (by omega)]
   by_cases e : i + 1 = cs.length
   ·rw [e,ci_end]
    have := hd (by omega)
    have e2 : cs.length - 1 = i := by omega
    rw [e2] at this
    exact ⟨h.lt i (by omega),this⟩
   ·rw [ci_snoc (by omega)]
    rcases h.ch with a | a
    ·omega
    ·have := a.step i (by omega)
     rw [ci_is,ci_is] at this
     exact this
 refine ⟨⟨.inr hc,fun i hi => ?_⟩,hc⟩
 by_cases e : i = cs.length
 ·subst e; rw [ci_end]; omega
 ·rw [ci_snoc (by omega)]
  have := h.lt i (by omega)
  omega
theorem Sofar.skip {ds : List T_Deed.ty} {cs : List Nat} {k : Nat} (h : Sofar ds cs k) : Sofar ds cs (k + 1) := ⟨h.ch,fun i hi => by have := h.lt i hi; omega⟩
theorem sumD_any {ds : List T_Deed.ty} (hds : DeedsOk ds) {cs : List Nat} {k : Nat} (h : Sofar ds cs k) : 0 ≤ sumD ds cs ∧ sumD ds cs ≤ 1000 * (cs.length : Int) := by
 rcases h.ch with a | a
 ·have : cs = [] := List.eq_nil_of_length_eq_zero a
  subst this; simp [sumD]
 ·have := sumD_bd hds a cs.length (Nat.le_refl _)
  rw [List.take_length] at this
  exact this
theorem q2_end (v1 : List Int) (hv : ∀ x,x ∈ v1 → 0 ≤ x ∧ x ≤ 255) (ds : List T_Deed.ty) (hds : DeedsOk ds) (O : List (List UInt8)) (hO : O.length ≤ 1000) (hO1 : O.Pairwise (· < ·)) (hO2 : ∀ x,x ∈ O → isName x = true) (cs : List Nat) (hc : Ch ds cs) :
 laws_FnProvenance_p2 v1 ds O (sumD ds cs) ds.length (ic cs) = some true := by
 have hl := hds.len
 have hlen := hc.len
 have hne := hc.ne
 have hlt : ¬ (ds.length : Int) < (ds.length : Int) := by omega
 have hl0 : (0 : Int) < ((ic cs).length : Int) := by rw [ic_len]; omega
 have hll : ((cs.length - 1 : Nat) : Int) < ((ic cs).length : Int) := by rw [ic_len]; omega
 have hw : IntKind.i64.wrap (((ic cs).length : Int) - 1) = ((cs.length - 1 : Nat) : Int) := by rw [ic_len,w64 (by omega) (by omega)]; omega
 have hla : cs.length - 1 < cs.length := by omega
 have hd0 := dd_ok hds (hc.clt hne)
 have hd1 := dd_ok hds (hc.clt hla)
 obtain ⟨L,eL,hLn,hL⟩ := links_ok ds hds (dd ds (ci cs 0)).1
 obtain ⟨R,eR,hR,hR1⟩ := reached_ok hds hd0.n1 eL hLn
 have hv0 : (dd ds (cs[0]'hne)).1 = (dd ds (ci cs 0)).1 := by rw [ci_is hne]
 obtain ⟨k1,k2⟩ := cost_chain hL hc hv0 (cs.length - 1) hla
 rw [ci_is hla] at k1 k2
 have e1 : cs.length - 1 + 1 = cs.length := by omega
 rw [e1,List.take_length] at k2
 obtain ⟨bs,c,eb,hb,⟨b0,b1,b2⟩,hs,hcle⟩ := best_ok hds hd0.n1 hd1.n2 eL hLn hL (hc.clt hla) k1 rfl
 rw [ci_is b0] at b1
 rw [ci_is (show bs.length - 1 < bs.length by omega)] at b2
 have hgt : ¬ c > sumD ds cs := by omega
 have hch := impl_chain_ok hl hc
 have hsc := spec_chain_ok hds hb
 have h5 := q5_loop v1 hv ds hds O hO hO1 hO2 cs hc L hL R hR hR1 c bs hb hs b1 (dd ds (ci cs 0)).2.1 (dd ds (ci cs (cs.length - 1))).1 (dd ds (ci cs 0)).2.2.1 (dd ds (ci cs (cs.length - 1))).2.2.1 (dd ds (ci cs 0)).2.2.2.1 (dd ds (ci cs (cs.length - 1))).2.2.2.1 (dd ds (ci cs (cs.length - 1))).1 (dd ds (ci cs (cs.length - 1))).2.1 b2 bs.length 0 (by omega)
 have h5 : laws_FnProvenance_p5 v1 ds O c R 0 0 (ic cs) (dd ds (ci cs 0)).1 (dd ds (ci cs 0)).2.1 (dd ds (ci cs 0)).2.2.1 (dd ds (ci cs 0)).2.2.2.1 (dd ds (ci cs (cs.length - 1))).1 (dd ds (ci cs (cs.length - 1))).2.1 (dd ds (ci cs (cs.length - 1))).2.2.1 (dd ds (ci cs (cs.length - 1))).2.2.2.1 (ic bs) = some true := h5
 rw [laws_FnProvenance_p2_eq]
 simp only [hlt,decide_false,Bool.false_eq_true,if_false,hl0,decide_true,if_true,ic_gi hne,Option.bind_some,Int.natCast_nonneg,Int.toNat_natCast,dd_get (hc.clt hne),hw,hll,Bool.and_self,ic_gi hla,dd_get (hc.clt hla),eb,eR,List.take_length,impl_IsChain_eq,impl_deeds_ok hds,hch,Bool.not_true,bne_self_eq_false,hgt,hsc,laws_FnProvenance_p4_eq,h5]
theorem q2_loop (v1 : List Int) (hv : ∀ x,x ∈ v1 → 0 ≤ x ∧ x ≤ 255) (ds : List T_Deed.ty) (hds : DeedsOk ds) (h0 : 0 < ds.length) (O : List (List UInt8)) (hO : O.length ≤ 1000) (hO1 : O.Pairwise (· < ·)) (hO2 : ∀ x,x ∈ O → isName x = true) : ∀ (m k : Nat) (cs : List Nat),k + m = ds.length → Sofar ds cs k → cs.length ≤ k → (k = ds.length → 0 < cs.length) → laws_FnProvenance_p2 v1 ds O (sumD ds cs) k (ic cs) = some true
 | 0,k,cs,hk,h,hlk,hz => by
   have e : k = ds.length := by omega
   subst e
   rcases h.ch with a | a
   ·have := hz rfl; omega
   ·exact q2_end v1 hv ds hds O hO hO1 hO2 cs a
 | m + 1,k,cs,hk,h,hlk,hz => by
   have hl := hds.len
   have hkn : k < ds.length := by omega
   have hlt : (k : Int) < (ds.length : Int) := by omega
   have hw : IntKind.i64.wrap ((k : Int) + 1) = ((k + 1 : Nat) : Int) := by rw [w64 (by omega) (by omega)]; omega
   have hwn : IntKind.i64.wrap ((ds.length : Int) - 1) = ((ds.length - 1 : Nat) : Int) := by rw [w64 (by omega) (by omega)]; omega
   have hsm := sumD_any hds h
   have hdb := dbt_bd hds hkn
   have hw2 : IntKind.i64.wrap (sumD ds cs + dbt ds k) = sumD ds cs + dbt ds k := w64 (by omega) (by omega)
   have hlim : (ic cs).length + 1 < lim := by rw [lim_eq,ic_len]; omega
   have eic : ic cs ++ [(k : Int)] = ic (cs ++ [k]) := by simp [ic]
   obtain ⟨x,ex,x0,x1⟩ := at_ok v1 hv k 3 (by omega)
   have p3 : (0 < cs.length → (dd ds (ci cs (cs.length - 1))).2.1 = (dd ds k).1) → laws_FnProvenance_p3 v1 ds O (sumD ds cs) k (ic cs) = some true := fun hd => by
    obtain ⟨s1,s2⟩ := h.add hkn hd
    have hlen : (cs ++ [k]).length = cs.length + 1 := by simp
    have ih := q2_loop v1 hv ds hds h0 O hO hO1 hO2 m (k + 1) (cs ++ [k]) (by omega) s1 (by omega) (fun _ => by omega)
    rw [sumD_snoc] at ih
    rw [laws_FnProvenance_p3_eq]
    simp only [hlim,decide_true,if_true,Int.natCast_nonneg,Int.toNat_natCast,dbt_eq,dd_get hkn,Option.bind_some,hw,hw2,List.take_length,eic]
    exact ih
   rw [laws_FnProvenance_p2_eq]
   simp only [hlt,decide_true,if_true,ex,Option.bind_some,hw,hwn]
   by_cases hc0 : cs.length = 0
   ·have hb : (((ic cs).length : Int) == 0) = true := by rw [ic_len,hc0]; rfl
    have p3' := p3 (fun a => by omega)
    simp only [hb,if_true,p3']
    by_cases hx : x > 0
    ·simp only [hx,decide_true,if_true]
    ·simp only [hx,decide_false,Bool.false_eq_true,if_false]
     by_cases he : k = ds.length - 1
     ·have : ((k : Int) == ((ds.length - 1 : Nat) : Int)) = true := by simp; omega
      simp only [this,if_true]
     ·have : ((k : Int) == ((ds.length - 1 : Nat) : Int)) = false := by
       rw [beq_eq_false_iff_ne]; omega
      simp only [this,Bool.false_eq_true,if_false]
      exact q2_loop v1 hv ds hds h0 O hO hO1 hO2 m (k + 1) cs (by omega) h.skip (by omega) (fun a => by omega)
   ·have hb : (((ic cs).length : Int) == 0) = false := by rw [ic_len,beq_eq_false_iff_ne]; omega
    have hla : cs.length - 1 < cs.length := by omega
    have hll : ((cs.length - 1 : Nat) : Int) < ((ic cs).length : Int) := by rw [ic_len]; omega
    have hwc : IntKind.i64.wrap (((ic cs).length : Int) - 1) = ((cs.length - 1 : Nat) : Int) := by rw [ic_len,w64 (by omega) (by omega)]; omega
    have hcl : ci cs (cs.length - 1) < ds.length := by have := h.lt _ hla; omega
    have skip := q2_loop v1 hv ds hds h0 O hO hO1 hO2 m (k + 1) cs (by omega) h.skip (by omega) (fun _ => by omega)
    simp only [hb,Bool.false_eq_true,if_false,hwc,hll,Int.natCast_nonneg,decide_true,Bool.and_self,if_true,Int.toNat_natCast,ic_gi hla,dd_get hcl,dd_get hkn,Option.bind_some,skip]
    by_cases hd : (dd ds (ci cs (cs.length - 1))).2.1 = (dd ds k).1
    ·rw [if_pos (by simpa using hd)]
     have p3' := p3 (fun _ => hd)
     by_cases hx : x > 0
     ·simp only [hx,decide_true,if_true,p3']
     ·simp only [hx,decide_false,Bool.false_eq_true,if_false]
      split <;> rfl
    ·rw [if_neg (by simpa using hd)]
theorem same4 (a b : List UInt8) (c d : Int) : ((a == a) && ((b == b) && ((c == c) && (d == d)))) = true := by simp
theorem q1_loop (v1 : List Int) (hv : ∀ x,x ∈ v1 → 0 ≤ x ∧ x ≤ 255) (ds : List T_Deed.ty) (hds : DeedsOk ds) (O : List (List UInt8)) (hO : O.length ≤ 1000) (hO1 : O.Pairwise (· < ·)) (hO2 : ∀ x,x ∈ O → isName x = true) : ∀ (k i : Nat),i + k = ds.length → laws_FnProvenance_p1 v1 ds O i = some true
 | 0,i,hk => by
   have hl := hds.len
   have hlt : ¬ (i : Int) < (ds.length : Int) := by omega
   rw [laws_FnProvenance_p1_eq]
   simp only [hlt,decide_false,Bool.false_eq_true,if_false]
   by_cases h0 : ds.length = 0
   ·have : ((ds.length : Int) == 0) = true := by rw [h0]; rfl
    simp only [this,if_true]
   ·have : ((ds.length : Int) == 0) = false := by rw [beq_eq_false_iff_ne]; omega
    simp only [this,Bool.false_eq_true,if_false]
    exact q2_loop v1 hv ds hds (by omega) O hO hO1 hO2 ds.length 0 [] (by omega) ⟨.inl rfl,fun i h => by simp at h⟩ (by simp) (fun h => by omega)
 | k + 1,i,hk => by
   have hl := hds.len
   have hi : i < ds.length := by omega
   have hlt : (i : Int) < (ds.length : Int) := by omega
   have hw : IntKind.i64.wrap ((i : Int) + 1) = ((i + 1 : Nat) : Int) := by rw [w64 (by omega) (by omega)]; omega
   obtain ⟨t,t1,t2⟩ := deed_text (dd_ok hds hi)
   have ih := q1_loop v1 hv ds hds O hO hO1 hO2 k (i + 1) (by omega)
   rw [laws_FnProvenance_p1_eq]
   simp only [hlt,decide_true,if_true,Int.natCast_nonneg,Int.toNat_natCast,dd_get hi,Option.bind_some,t1,t2,Bool.not_true,Bool.false_eq_true,if_false,hw,ih]
   exact if_neg (fun h => by
    have e := same4 (dd ds i).1 (dd ds i).2.1 (dd ds i).2.2.1 (dd ds i).2.2.2.1
    exact absurd (h.symm.trans (congrArg Bool.not e)) (by decide))
theorem laws_FnProvenance_true (code more : List Int) (h : CT.wf (.sl (.one (.int .u8))) code) (h' : CT.wf (.sl (.one (.int .u8))) more) : laws_FnProvenance code more = some true := by
 rw [laws_FnProvenance_eq,laws_r8Long_eq]
 by_cases c1 : (code.length : Int) > 1048576
 ·simp only [c1,decide_true,if_true,Option.bind_some]
 by_cases c2 : (more.length : Int) > 1048576
 ·simp only [c1,c2,decide_true,decide_false,Bool.false_eq_true,if_true,if_false,Option.bind_some]
 obtain ⟨ds,e,hds⟩ := deeds_draw code (bytes_ok h) (by omega)
 obtain ⟨O,eO,o1,o2,o3,o4⟩ := owners_ok hds
 have q1 := q1_loop more (bytes_ok h') ds hds O o3 o1 o2 ds.length 0 (by omega)
 have q1 : laws_FnProvenance_p1 more ds O 0 = some true := q1
 have hb : (decide ((O.length : Int) > 0) == decide ((ds.length : Int) > 0)) = true := by
  by_cases a : 0 < ds.length
  ·have b := o4.2 a
   have a' : (ds.length : Int) > 0 := by omega
   have b' : (O.length : Int) > 0 := by omega
   rw [decide_eq_true a',decide_eq_true b']; rfl
  ·have b : ¬ 0 < O.length := fun b => a (o4.1 b)
   have a' : ¬ (ds.length : Int) > 0 := by omega
   have b' : ¬ (O.length : Int) > 0 := by omega
   rw [decide_eq_false a',decide_eq_false b']; rfl
 simp only [c1,c2,decide_false,Bool.false_eq_true,if_false,Option.bind_some,e,List.take_length,eO,bne_self_eq_false,hb,Bool.not_true,impl_deeds_ok hds,laws_FnProvenance_p0_eq,q1]
end Go.Ab.P
