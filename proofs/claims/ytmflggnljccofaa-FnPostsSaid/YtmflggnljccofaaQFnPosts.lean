/- Posts: rings, the best place, lengths, and the wear of pegs. Conditions: bytes are bytes. -/
import Derived.Test.YtmflggnljccofaaBFnPosts
set_option linter.unusedVariables false
set_option linter.unusedSectionVars false
set_option linter.unusedSimpArgs false
namespace Go.Ab.P
open Go.Ab
def pId (x : T_Peg.ty) : List UInt8 := x.1
def pS (x : T_Peg.ty) : Int := x.2.2.2.1
theorem drawOne_ok {s : T_l00Src.ty} {c : Int} (hs : SrcOk s c) (hc : c ≤ 100000) (id : List UInt8) : ∃ (d l w : Int) (s' : T_l00Src.ty),spec_l12DrawOne s id = some ((id,d,l,w,()),s') ∧ SrcOk s' (c + 6) := by
 obtain ⟨u1,s1,e1,k1,_⟩ := pick_ok hs (by omega) 20 (by omega)
 obtain ⟨u2,s2,e2,k2,_⟩ := pick_ok k1 (by omega) 40 (by omega)
 obtain ⟨u3,s3,e3,k3,_⟩ := pick_ok k2 (by omega) 5 (by omega)
 rw [spec_l12DrawOne_eq]
 simp only [e1,e2,e3,Option.bind_some,src_eta]
 exact ⟨_,_,_,s3,rfl,k3.up (by omega)⟩
theorem bent_ok {s : T_l00Src.ty} {c : Int} (hs : SrcOk s c) (hc : c ≤ 100000) (id : List UInt8) (d l w : Int) : ∃ (d' l' w' : Int) (s' : T_l00Src.ty),spec_l12Bent s (id,d,l,w,()) = some ((id,d',l',w',()),s') ∧ SrcOk s' (c + 4) := by
 obtain ⟨v,s1,e1,k1,_⟩ := pick_ok hs (by omega) 18 (by omega)
 obtain ⟨a,t1,f1,g1,_⟩ := among_ok k1 (by omega) [19,20,200,201] (by decide) (by decide)
 obtain ⟨a2,t2,f2,g2,_⟩ := among_ok k1 (by omega) [99,100,1000,1001] (by decide) (by decide)
 obtain ⟨a3,t3,f3,g3,_⟩ := among_ok k1 (by omega) [9,10,100,101] (by decide) (by decide)
 rw [spec_l12Bent_eq]
 simp only [e1,f1,f2,f3,Option.bind_some,src_eta]
 repeat' split
 all_goals exact ⟨_,_,_,_,rfl,SrcOk.up (by first | exact g1 | exact g2 | exact g3 | exact k1) (by omega)⟩
theorem draw_p1 (n : Nat) (hn : n ≤ 9) : ∀ (k i : Nat) (s : T_l00Src.ty) (c : Int) (r : List T_Peg.ty),i + k = n → SrcOk s c → c + 6 * k ≤ 90000 → r.length = i → (∀ x,x ∈ r → (pId x).length ≤ 30) →
 ∃ (r' : List T_Peg.ty) (s' : T_l00Src.ty),spec_l12Draw_p1 n i s.1 s.2.1 s.2.2.1 r = some (r',s') ∧ SrcOk s' (c + 6 * k) ∧ r'.length ≤ 20 ∧ ∀ x,x ∈ r' → (pId x).length ≤ 30
 | 0,i,s,c,r,hk,hs,hc,hr,hx => by
   rw [spec_l12Draw_p1_eq]
   have : ¬ (i : Int) < (n : Int) := by omega
   simp only [this,decide_false,Bool.false_eq_true,if_false,List.take_length,src_eta]
   exact ⟨r,s,rfl,hs.up (by omega),by omega,hx⟩
 | k + 1,i,s,c,r,hk,hs,hc,hr,hx => by
   rw [spec_l12Draw_p1_eq]
   have hlt : (i : Int) < (n : Int) := by omega
   obtain ⟨u,eu,lu⟩ := spec_l01Dec_tot (i : Int) (by omega)
   have hm : 1 + u.length ≤ strMax := by rw [strMax_eq]; omega
   obtain ⟨m,t,w,s1,e1,k1⟩ := drawOne_ok hs (by omega) ([110] ++ u)
   have hl : r.length + 1 < lim := by rw [lim_eq]; omega
   simp only [hlt,decide_true,if_true,eu,Option.bind_some,List.length_singleton,hm,src_eta,e1,hl,List.take_length,wsucc (show i < 4611686018427387904 by omega)]
   obtain ⟨r',s',f1,f2,f3,f4⟩ := draw_p1 n hn k (i + 1) s1 (c + 6) (r ++ [([110] ++ u,m,t,w,())]) (by omega) k1 (by omega) (by simp; omega) (fun x hx' => by
    rcases List.mem_append.1 hx' with h | h
    ·exact hx x h
    ·simp only [List.mem_singleton] at h; subst h; simp [pId]; omega)
   exact ⟨r',s',f1,f2.up (by omega),f3,f4⟩
theorem draw_p0 : ∀ (k i : Nat) (s : T_l00Src.ty) (c : Int) (r : List T_Peg.ty),i + k = 4 → SrcOk s c → c + 10 * k ≤ 2000 → r.length ≤ i → (∀ x,x ∈ r → (pId x).length ≤ 30) →
 ∃ (r' : List T_Peg.ty) (s' : T_l00Src.ty),spec_l12Draw_p0 i s.1 s.2.1 s.2.2.1 [[112,97],[112,98],[112,99],[112,100]] r = some (r',s') ∧ SrcOk s' 20000 ∧ r'.length ≤ 20 ∧ ∀ x,x ∈ r' → (pId x).length ≤ 30
 | 0,i,s,c,r,hk,hs,hc,hr,hx => by
   have hi : i = 4 := by omega
   subst hi
   rw [spec_l12Draw_p0_eq]
   have h4 : ¬ ((4 : Nat) : Int) < (([[112,97],[112,98],[112,99],[112,100]] : List (List UInt8)).length : Int) := by simp
   obtain ⟨v,s1,e1,k1,_⟩ := pick_ok hs (by omega) 20 (by omega)
   simp only [h4,decide_false,Bool.false_eq_true,if_false,src_eta,e1,Option.bind_some]
   by_cases c0 : v = 0
   ·obtain ⟨m,t,w,s2,e2,k2⟩ := drawOne_ok k1 (by omega) [122,122]
    obtain ⟨m',t',w',s3,e3,k3⟩ := bent_ok k2 (by omega) [122,122] m t w
    have hl : r.length + 1 < lim := by rw [lim_eq]; omega
    simp only [c0,beq_self_eq_true,if_true,e2,e3,Option.bind_some,src_eta,hl,decide_true,List.take_length]
    refine ⟨_,s3,rfl,k3.up (by omega),by simp; omega,fun x hx' => ?_⟩
    rcases List.mem_append.1 hx' with h | h
    ·exact hx x h
    ·simp only [List.mem_singleton] at h; subst h; simp [pId]
   have c0' : (v == 0) = false := by simpa using c0
   by_cases c1 : v = 1
   ·obtain ⟨n,s2,e2,k2,hn⟩ := among_ok k1 (by omega) [8,9] (by decide) (by decide)
    obtain ⟨nn,rfl,hnn⟩ : ∃ nn : Nat,n = nn ∧ nn ≤ 9 := by
     simp at hn
     rcases hn with rfl | rfl
     ·exact ⟨8,rfl,by omega⟩
     ·exact ⟨9,rfl,by omega⟩
    obtain ⟨r',s',f1,f2,f3,f4⟩ := draw_p1 nn hnn nn 0 s2 _ [] (by omega) k2 (by omega) rfl (fun x hx => by cases hx)
    have f1 : spec_l12Draw_p1 (nn : Int) 0 s2.1 s2.2.1 s2.2.2.1 [] = some (r',s') := f1
    simp only [c1,show ((1 : Int) == 0) = false from rfl,beq_self_eq_true,Bool.false_eq_true,if_false,if_true,e2,Option.bind_some,f1]
    exact ⟨r',s',rfl,f2.up (by omega),f3,f4⟩
   ·have c1' : (v == 1) = false := by simpa using c1
    simp only [c0',c1',Bool.false_eq_true,if_false,List.take_length,src_eta]
    exact ⟨r,s1,rfl,k1.up (by omega),by omega,hx⟩
 | k + 1,i,s,c,r,hk,hs,hc,hr,hx => by
   rw [spec_l12Draw_p0_eq]
   have h4 : (i : Int) < (([[112,97],[112,98],[112,99],[112,100]] : List (List UInt8)).length : Int) := by simp; omega
   have hi0 : (0 : Int) ≤ (i : Int) := by omega
   have hi4 : i < ([[112,97],[112,98],[112,99],[112,100]] : List (List UInt8)).length := by simp; omega
   obtain ⟨b,s1,e1,k1⟩ := one_ok hs (by omega) 4 (by omega)
   simp only [h4,decide_true,if_true,src_eta,e1,Option.bind_some,hi0,Bool.and_self,Int.toNat_natCast,getElem?_lt hi4,wsucc (show i < 4611686018427387904 by omega)]
   cases b
   ·obtain ⟨m,t,w,s2,e2,k2⟩ := drawOne_ok k1 (by omega) ([[112,97],[112,98],[112,99],[112,100]] : List (List UInt8))[i]
    have hl : r.length + 1 < lim := by rw [lim_eq]; omega
    simp only [Bool.not_false,if_true,src_eta,e2,Option.bind_some,hl,decide_true,List.take_length]
    have hid : (([[112,97],[112,98],[112,99],[112,100]] : List (List UInt8))[i]).length ≤ 30 := by
     have : ∀ x,x ∈ ([[112,97],[112,98],[112,99],[112,100]] : List (List UInt8)) → x.length ≤ 30 := by decide
     exact this _ (List.getElem_mem hi4)
    exact draw_p0 k (i + 1) s2 (c + 8) _ (by omega) (k2.up (by omega)) (by omega) (by simp; omega) (fun x hx' => by
     rcases List.mem_append.1 hx' with h | h
     ·exact hx x h
     ·simp only [List.mem_singleton] at h; subst h; exact hid)
   ·simp only [Bool.not_true,Bool.false_eq_true,if_false]
    exact draw_p0 k (i + 1) s1 (c + 2) r (by omega) (k1.up (by omega)) (by omega) (by omega) hx
theorem draw_ok {s : T_l00Src.ty} (hs : SrcOk s 0) : ∃ (r : List T_Peg.ty) (s' : T_l00Src.ty),spec_l12Draw s = some (r,s') ∧ SrcOk s' 20000 ∧ r.length ≤ 20 ∧ ∀ x,x ∈ r → (pId x).length ≤ 30 := by
 rw [spec_l12Draw_eq]
 exact draw_p0 4 0 s 0 [] (by omega) hs (by omega) (by simp) (fun x hx => by cases hx)
/-! The draw of rings. -/
theorem bpRow_ok : ∀ (n : Nat) (x : T_l00Src.ty) (acc : List Int) (c : Int),SrcOk x c → c + 2 * n ≤ 100000 → ∃ (x' : T_l00Src.ty) (acc' : List Int),bpRow spec_l00Src_pick n x acc = some (x',acc') ∧ SrcOk x' (c + 2 * n) ∧ acc'.length = acc.length + n
 | 0,x,acc,c,hs,hc => ⟨x,acc,rfl,hs.up (by omega),rfl⟩
 | n + 1,x,acc,c,hs,hc => by
   obtain ⟨u,s1,e1,k1,b1,b2⟩ := pick_ok hs (by omega) 101 (by omega)
   obtain ⟨x',acc',f1,f2,f3⟩ := bpRow_ok n s1 (acc ++ [10 * u]) (c + 2) k1 (by omega)
   refine ⟨x',acc',?_,f2.up (by omega),by rw [f3]; simp; omega⟩
   have hc : 0 ≤ u ∧ u ≤ 1000 := by omega
   show (spec_l00Src_pick x 101).bind _ = _
   rw [e1,Option.bind_some,if_pos hc]
   exact f1
theorem bpRows_ok : ∀ (n : Nat) (x : T_l00Src.ty) (out : List (List Int)) (c : Int),SrcOk x c → c + 20 * n ≤ 100000 → (∀ r,r ∈ out → r ≠ [] ∧ r.length ≤ 5) → ∃ (x' : T_l00Src.ty) (out' : List (List Int)),bpRows spec_l00Src_pick n x out = some (x',out') ∧ SrcOk x' (c + 20 * n) ∧ out'.length = out.length + n ∧ ∀ r,r ∈ out' → r ≠ [] ∧ r.length ≤ 5
 | 0,x,out,c,hs,hc,ho => ⟨x,out,rfl,hs.up (by omega),rfl,ho⟩
 | n + 1,x,out,c,hs,hc,ho => by
   obtain ⟨u,s1,e1,k1,b1,b2⟩ := pick_ok hs (by omega) 4 (by omega)
   obtain ⟨s2,acc,g1,g2,g3⟩ := bpRow_ok (u.toNat + 1) s1 [] (c + 2) k1 (by omega)
   obtain ⟨x',out',f1,f2,f3,f4⟩ := bpRows_ok n s2 (out ++ [acc]) (c + 20) (g2.up (by omega)) (by omega) (fun r hr => by
    rcases List.mem_append.1 hr with h | h
    ·exact ho r h
    ·rw [List.mem_singleton] at h; subst h
     rw [List.length_nil,Nat.zero_add] at g3
     exact ⟨fun e => by rw [e] at g3; simp at g3,by omega⟩)
   refine ⟨x',out',?_,f2.up (by omega),by rw [f3]; simp; omega,f4⟩
   have hc : 0 ≤ u ∧ u ≤ 1000 := by omega
   show (spec_l00Src_pick x 4).bind _ = _
   rw [e1,Option.bind_some,if_pos hc,g1,Option.bind_some]
   exact f1
theorem bestDraw (v : List Int) (h1 : ∀ x,x ∈ v → 0 ≤ x ∧ x ≤ 255) (h2 : v.length ≤ 1048576) : ∃ rings,spec_DrawBestPost v = some rings ∧ rings.length ≤ 100 ∧ ∀ r,r ∈ rings → r.length ≤ 100 := by
 obtain ⟨s,e0,k0⟩ := from_ok v h1 h2
 obtain ⟨u,s1,e1,k1,b1,b2⟩ := pick_ok k0 (by omega) 5 (by omega)
 obtain ⟨s2,rows,g1,g2,g3,g4⟩ := bpRows_ok (u.toNat + 1) s1 [] _ k1 (by omega) (fun r hr => by cases hr)
 obtain ⟨w,s3,e3,k3,b3,b4⟩ := pick_ok g2 (by omega) 14 (by omega)
 obtain ⟨q,s4,e4,k4,m4⟩ := among_ok k3 (by omega) [-1,0,1000,1001] (by decide) (by decide)
 obtain ⟨q2,s5,e5,k5,m5⟩ := among_ok k3 (by omega) [0,8,9] (by decide) (by decide)
 have hc : 0 ≤ u ∧ u ≤ 1000 := by omega
 rw [spec_DrawBestPost_eq,e0,Option.bind_some]
 unfold bpF
 rw [e1,Option.bind_some,if_pos hc,g1,Option.bind_some]
 simp only [e3,Option.bind_some]
 rw [List.length_nil,Nat.zero_add] at g3
 by_cases c0 : w = 0
 ·simp only [c0,if_true]
  cases rows with
  | nil => simp at g3
  | cons r rt =>
    have hr := g4 r (List.mem_cons_self ..)
    cases r with
    | nil => exact absurd rfl hr.1
    | cons y ys =>
      simp only [e4,Option.bind_some]
      refine ⟨_,rfl,by simp at g3 ⊢; omega,fun r' hr' => ?_⟩
      rcases List.mem_cons.1 hr' with h | h
      ·subst h; have := hr.2; simp at this ⊢; omega
      ·have := (g4 r' (List.mem_cons_of_mem _ h)).2; omega
 ·by_cases c1 : w = 1
  ·simp only [c0,c1,if_false,if_true]
   refine ⟨_,rfl,by simp; omega,fun r' hr' => ?_⟩
   rcases List.mem_append.1 hr' with h | h
   ·have := (g4 r' h).2; omega
   ·rw [List.mem_singleton] at h; subst h; simp
  ·by_cases c2 : w = 2
   ·have hq2 : 0 ≤ q2 ∧ q2 ≤ 1000 := by simp at m5; omega
    simp only [c0,c1,c2,if_false,if_true,e5,Option.bind_some,hq2,and_self]
    refine ⟨_,rfl,by simp at m5 ⊢; omega,fun r' hr' => ?_⟩
    have := List.eq_of_mem_replicate hr'
    subst this; simp
   ·simp only [c0,c1,c2,if_false]
    exact ⟨_,rfl,by omega,fun r' hr' => by have := (g4 r' hr').2; omega⟩
/-! The best post. -/
def ringsOk (rs : List (List Int)) : Bool := (rs.all fun r => inR (r.length : Int) 1 8 && r.all fun x => inR x 0 1000) && inR (rs.length : Int) 1 8
theorem isPart_ok (x : Int) : impl_isPart x = some (inR x 0 1000) := by
 rw [impl_isPart_eq,impl_within_ok]; rfl
theorem rings_p1 (v0 : List (List Int)) (i : Nat) (row : List Int) (hl : row.length ≤ 100) : ∀ (k j : Nat),j + k = row.length →
 impl_areRings_p1 v0 v0 v0.length i row row.length j = if (row.drop j).all (fun x => inR x 0 1000) then impl_areRings_p0 v0 v0 v0.length (IntKind.i64.wrap ((i : Int) + 1)) else some false
 | 0,j,hk => by
   rw [impl_areRings_p1_eq,List.drop_eq_nil_of_le (by omega)]
   have : ¬ (j : Int) < (row.length : Int) := by omega
   simp [this]
 | k + 1,j,hk => by
   have hj : j < row.length := by omega
   have hlt : (j : Int) < (row.length : Int) := by omega
   rw [impl_areRings_p1_eq,List.drop_eq_getElem_cons hj,List.all_cons]
   simp only [hlt,decide_true,if_true,Int.natCast_nonneg,Int.toNat_natCast,getElem?_lt hj,Option.bind_some,isPart_ok,wsucc (show j < 4611686018427387904 by omega)]
   rw [rings_p1 v0 i row hl k (j + 1) (by omega)]
   cases inR row[j] 0 1000 <;> simp
theorem rings_p0 (v0 : List (List Int)) (hl : v0.length ≤ 100) (hr : ∀ r,r ∈ v0 → r.length ≤ 100) : ∀ (k i : Nat),i + k = v0.length →
 impl_areRings_p0 v0 v0 v0.length i = some (((v0.drop i).all fun r => inR (r.length : Int) 1 8 && r.all fun x => inR x 0 1000) && inR (v0.length : Int) 1 8)
 | 0,i,hk => by
   rw [impl_areRings_p0_eq,List.drop_eq_nil_of_le (by omega)]
   have : ¬ (i : Int) < (v0.length : Int) := by omega
   simp [this,impl_within_ok]
 | k + 1,i,hk => by
   have hi : i < v0.length := by omega
   have hlt : (i : Int) < (v0.length : Int) := by omega
   have h1 := rings_p1 v0 i v0[i] (hr _ (List.getElem_mem hi)) v0[i].length 0 (by omega)
   rw [List.drop_zero,wsucc (show i < 4611686018427387904 by omega),rings_p0 v0 hl hr k (i + 1) (by omega)] at h1
   have h1' : impl_areRings_p1 v0 v0 v0.length i v0[i] v0[i].length 0 = _ := h1
   rw [impl_areRings_p0_eq,List.drop_eq_getElem_cons hi,List.all_cons]
   simp only [hlt,decide_true,if_true,Int.natCast_nonneg,Int.toNat_natCast,getElem?_lt hi,Option.bind_some,impl_within_ok,h1']
   cases inR (v0[i].length : Int) 1 8 <;> cases (v0[i].all fun x => inR x 0 1000) <;> simp
theorem areRings_ok (v0 : List (List Int)) (hl : v0.length ≤ 100) (hr : ∀ r,r ∈ v0 → r.length ≤ 100) : impl_areRings v0 = some (ringsOk v0) := by
 rw [impl_areRings_eq]
 have := rings_p0 v0 hl hr v0.length 0 (by omega)
 rw [List.drop_zero] at this
 exact this
def plRow (i : Nat) (n : Nat) : List T_Point.ty := (List.range n).map fun k : Nat => (((i : Int),(k : Int),()) : T_Point.ty)
def plAll : Nat → List (List Int) → List T_Point.ty
 | _,[] => []
 | i,r :: rs => plRow i r.length ++ plAll (i + 1) rs
theorem plAll_len : ∀ (rs : List (List Int)) (i : Nat),(∀ r,r ∈ rs → r.length ≤ 8) → (plAll i rs).length ≤ 8 * rs.length
 | [],i,h => by simp [plAll]
 | r :: rs,i,h => by
   have h1 := plAll_len rs (i + 1) fun x hx => h x (List.mem_cons_of_mem _ hx)
   have h2 := h r (List.mem_cons_self ..)
   simp only [plAll,plRow,List.length_append,List.length_map,List.length_range,List.length_cons]
   omega
theorem places_p1 (v : List (List Int)) (i : Nat) (n : Nat) (hn : n ≤ 8) : ∀ (k j : Nat) (r : List T_Point.ty),j + k = n → r.length + k ≤ 1000 →
 impl_places_p1 i v v.length i n j r = impl_places_p0 v v.length (IntKind.i64.wrap ((i : Int) + 1)) (r ++ ((List.range n).drop j).map fun k : Nat => (((i : Int),(k : Int),()) : T_Point.ty))
 | 0,j,r,hk,hr => by
   rw [impl_places_p1_eq,List.drop_eq_nil_of_le (by simp; omega)]
   have : ¬ (j : Int) < (n : Int) := by omega
   simp [this]
 | k + 1,j,r,hk,hr => by
   have hlt : (j : Int) < (n : Int) := by omega
   have hj : j < (List.range n).length := by simp; omega
   have hlim : r.length + 1 < lim := by rw [lim_eq]; omega
   rw [impl_places_p1_eq,List.drop_eq_getElem_cons hj]
   simp only [hlt,decide_true,if_true,hlim,List.take_length,wsucc (show j < 4611686018427387904 by omega)]
   rw [places_p1 v i n hn k (j + 1) _ (by omega) (by simp; omega)]
   simp
theorem places_p0 (v : List (List Int)) (hl : v.length ≤ 8) (hr : ∀ r,r ∈ v → r.length ≤ 8) : ∀ (k i : Nat) (r : List T_Point.ty),i + k = v.length → r.length ≤ 8 * i →
 impl_places_p0 v v.length i r = some (r ++ plAll i (v.drop i))
 | 0,i,r,hk,hx => by
   rw [impl_places_p0_eq,List.drop_eq_nil_of_le (by omega)]
   have : ¬ (i : Int) < (v.length : Int) := by omega
   simp [this,plAll]
 | k + 1,i,r,hk,hx => by
   have hi : i < v.length := by omega
   have hlt : (i : Int) < (v.length : Int) := by omega
   have h8 := hr _ (List.getElem_mem hi)
   have h1 := places_p1 v i v[i].length h8 v[i].length 0 r (by omega) (by omega)
   rw [List.drop_zero,wsucc (show i < 4611686018427387904 by omega),places_p0 v hl hr k (i + 1) _ (by omega) (by simp; omega)] at h1
   have h1' : impl_places_p1 i v v.length i v[i].length 0 r = _ := h1
   rw [impl_places_p0_eq,List.drop_eq_getElem_cons hi]
   simp only [hlt,decide_true,if_true,Int.natCast_nonneg,Int.toNat_natCast,getElem?_lt hi,Option.bind_some,h1',plAll,plRow,List.append_assoc]
def atV (v : List (List Int)) (i k : Nat) : Int := (((v[i]?).getD [])[k]?).getD 0
def inV (v : List (List Int)) (i k : Nat) : Prop := ∃ h : i < v.length,k < v[i].length
theorem place_of_ok {v : List (List Int)} {i k : Nat} (h : inV v i k) : impl_place_of ((i : Int),(k : Int),()) v = some (atV v i k) := by
 obtain ⟨h1,h2⟩ := h
 rw [impl_place_of_eq]
 simp only [Int.natCast_nonneg,decide_true,if_true,Int.toNat_natCast,getElem?_lt h1,getElem?_lt h2,Option.bind_some,atV,Option.getD_some]
def noLater (i k i' k' : Nat) : Prop := i < i' ∨ i = i' ∧ k ≤ k'
theorem mem_plAll {v : List (List Int)} {p : T_Point.ty} : ∀ (rs : List (List Int)) (i : Nat),p ∈ plAll i rs ↔ ∃ (j : Nat) (hj : j < rs.length) (k : Nat),k < rs[j].length ∧ p = (((i + j : Nat) : Int),(k : Int),())
 | [],i => by simp [plAll]
 | r :: rs,i => by
   rw [plAll,List.mem_append,mem_plAll (v := v) rs (i + 1),plRow,List.mem_map]
   constructor
   ·rintro (⟨k,hk,rfl⟩ | ⟨j,hj,k,hk,rfl⟩)
    ·exact ⟨0,by simp,k,by simpa using hk,rfl⟩
    ·exact ⟨j + 1,by simpa using hj,k,by simpa using hk,by rw [show i + 1 + j = i + (j + 1) by omega]⟩
   ·rintro ⟨j,hj,k,hk,rfl⟩
    cases j with
    | zero => exact .inl ⟨k,by simpa using hk,rfl⟩
    | succ j => exact .inr ⟨j,by simpa using hj,k,by simpa using hk,by rw [show i + 1 + j = i + (j + 1) by omega]⟩
theorem plRow_sorted (i : Nat) : ∀ n,(plRow i n).Pairwise fun p q => ∀ a b a' b' : Nat,p = ((a : Int),(b : Int),()) → q = ((a' : Int),(b' : Int),()) → noLater a b a' b' := by
 intro n
 unfold plRow
 rw [List.pairwise_map]
 refine List.Pairwise.imp ?_ List.pairwise_lt_range
 intro x y hxy a b a' b' h1 h2
 simp only [Prod.mk.injEq,and_true,Int.natCast_inj] at h1 h2
 exact .inr ⟨by omega,by omega⟩
theorem plAll_sorted : ∀ (rs : List (List Int)) (i : Nat),(plAll i rs).Pairwise fun p q => ∀ a b a' b' : Nat,p = ((a : Int),(b : Int),()) → q = ((a' : Int),(b' : Int),()) → noLater a b a' b'
 | [],i => List.Pairwise.nil
 | r :: rs,i => by
   rw [plAll,List.pairwise_append]
   refine ⟨plRow_sorted i _,plAll_sorted rs (i + 1),fun p hp q hq a b a' b' h1 h2 => ?_⟩
   obtain ⟨k,_,rfl⟩ := List.mem_map.1 hp
   obtain ⟨j,hj,k',_,rfl⟩ := (mem_plAll (v := []) rs (i + 1)).1 hq
   simp only [Prod.mk.injEq,and_true,Int.natCast_inj] at h1 h2
   exact .inl (by omega)
theorem best_loop (v : List (List Int)) (ps : List T_Point.ty) (hp : ps.length ≤ 1000) (hin : ∀ p,p ∈ ps → ∃ i k : Nat,p = ((i : Int),(k : Int),()) ∧ inV v i k)
 (hs : ps.Pairwise fun p q => ∀ a b a' b' : Nat,p = ((a : Int),(b : Int),()) → q = ((a' : Int),(b' : Int),()) → noLater a b a' b') :
 ∀ (n j : Nat) (a b : Nat),j + n = ps.length → inV v a b → (∀ p,p ∈ ps.drop j → ∀ a' b' : Nat,p = ((a' : Int),(b' : Int),()) → noLater a b a' b') →
   (∀ p,p ∈ ps.take j → ∀ a' b' : Nat,p = ((a' : Int),(b' : Int),()) → atV v a' b' < atV v a b ∨ atV v a' b' = atV v a b ∧ noLater a b a' b') →
   ∃ a1 b1 : Nat,impl_BestPost_p0 v ps ps.length j a b = some ((a1 : Int),(b1 : Int),0) ∧ inV v a1 b1 ∧ ∀ p,p ∈ ps → ∀ a' b' : Nat,p = ((a' : Int),(b' : Int),()) → atV v a' b' < atV v a1 b1 ∨ atV v a' b' = atV v a1 b1 ∧ noLater a1 b1 a' b'
 | 0,j,a,b,hj,hab,h1,h2 => by
   refine ⟨a,b,?_,hab,fun p hm => h2 p (by rw [List.take_of_length_le (by omega)]; exact hm)⟩
   rw [impl_BestPost_p0_eq]
   have : ¬ (j : Int) < (ps.length : Int) := by omega
   simp [this]
 | n + 1,j,a,b,hj,hab,h1,h2 => by
   have hjl : j < ps.length := by omega
   have hlt : (j : Int) < (ps.length : Int) := by omega
   obtain ⟨i,k,ep,hik⟩ := hin _ (List.getElem_mem hjl)
   have hd : ps.drop j = ps[j] :: ps.drop (j + 1) := List.drop_eq_getElem_cons hjl
   have hnl := h1 ps[j] (by rw [hd]; exact List.mem_cons_self ..) i k ep
   have htk : ps.take (j + 1) = ps.take j ++ [ps[j]] := by rw [List.take_add_one,getElem?_lt hjl]; rfl
   have hpair : ∀ q,q ∈ ps.drop (j + 1) → ∀ a' b' : Nat,q = ((a' : Int),(b' : Int),()) → noLater i k a' b' := fun q hq a' b' e => by
    have h3 : (ps.drop j).Pairwise _ := hs.sublist (List.drop_sublist j ps)
    rw [hd,List.pairwise_cons] at h3
    exact h3.1 q hq i k a' b' ep e
   rw [impl_BestPost_p0_eq]
   simp only [hlt,decide_true,if_true,Int.natCast_nonneg,Int.toNat_natCast,getElem?_lt hjl,Option.bind_some,ep,place_of_ok hik,place_of_ok hab,wsucc (show j < 4611686018427387904 by omega)]
   by_cases hg : atV v i k > atV v a b
   ·simp only [hg,decide_true,if_true]
    refine best_loop v ps hp hin hs n (j + 1) i k (by omega) hik hpair fun q hq a' b' e => ?_
    rw [htk,List.mem_append,List.mem_singleton] at hq
    rcases hq with hq | hq
    ·rcases h2 q hq a' b' e with h | h
     ·exact .inl (by omega)
     ·exact .inl (by omega)
    ·rw [hq,ep] at e
     simp only [Prod.mk.injEq,and_true,Int.natCast_inj] at e
     obtain ⟨rfl,rfl⟩ := e
     exact .inr ⟨rfl,.inr ⟨rfl,Nat.le_refl _⟩⟩
   ·simp only [hg,decide_false,Bool.false_eq_true,if_false]
    refine best_loop v ps hp hin hs n (j + 1) a b (by omega) hab (fun q hq => h1 q (by rw [hd]; exact List.mem_cons_of_mem _ hq)) fun q hq a' b' e => ?_
    rw [htk,List.mem_append,List.mem_singleton] at hq
    rcases hq with hq | hq
    ·exact h2 q hq a' b' e
    ·rw [hq,ep] at e
     simp only [Prod.mk.injEq,and_true,Int.natCast_inj] at e
     obtain ⟨rfl,rfl⟩ := e
     rcases Int.lt_or_eq_of_le (show atV v i k ≤ atV v a b by omega) with h | h
     ·exact .inl h
     ·exact .inr ⟨h,hnl⟩
theorem bestPost_ok (v : List (List Int)) (hl : v.length ≤ 100) (hr : ∀ r,r ∈ v → r.length ≤ 100) : impl_BestPost v = some (0,0,2) ∨
 ∃ a b : Nat,impl_BestPost v = some ((a : Int),(b : Int),0) ∧ inV v a b ∧ v.length ≤ 8 ∧ ∀ i k : Nat,inV v i k → atV v i k < atV v a b ∨ atV v i k = atV v a b ∧ noLater a b i k := by
 rw [impl_BestPost_eq,areRings_ok v hl hr,Option.bind_some]
 by_cases hk : ringsOk v = true
 ·right
  simp only [hk,Bool.not_true,Bool.false_eq_true,if_false]
  simp only [ringsOk,Bool.and_eq_true,List.all_eq_true,inR_iff'] at hk
  have h8 : ∀ r,r ∈ v → r.length ≤ 8 := fun r hm => by have := (hk.1 r hm).1.2; omega
  have hv8 : v.length ≤ 8 := by have := hk.2.2; omega
  have hp := places_p0 v hv8 h8 v.length 0 [] (by omega) (by simp)
  rw [List.drop_zero,List.nil_append] at hp
  have hp' : impl_places v = some (plAll 0 v) := by rw [impl_places_eq]; exact hp
  have hlen := plAll_len v 0 h8
  have h00 : inV v 0 0 := ⟨by have := hk.2.1; omega,by
   have := (hk.1 _ (List.getElem_mem (show 0 < v.length by have := hk.2.1; omega))).1.1
   omega⟩
  obtain ⟨a,b,e1,e2,e3⟩ := best_loop v (plAll 0 v) (by omega) (fun p hm => by
   obtain ⟨j,hj,k,hk',rfl⟩ := (mem_plAll (v := []) v 0).1 hm
   exact ⟨0 + j,k,rfl,by rw [Nat.zero_add]; exact ⟨hj,hk'⟩⟩) (plAll_sorted v 0) (plAll 0 v).length 0 0 0 (by omega) h00 (fun p hm a' b' e => by
    unfold noLater; omega) (fun p hm => by simp at hm)
  rw [hp',Option.bind_some]
  refine ⟨a,b,e1,e2,hv8,fun i k hik => ?_⟩
  obtain ⟨hi,hk'⟩ := hik
  exact e3 _ ((mem_plAll (v := []) v 0).2 ⟨i,hi,k,hk',rfl⟩) i k (by rw [Nat.zero_add])
 ·left
  have hk' : ringsOk v = false := by simpa using hk
  simp [hk']
/-! The parts of the law,from the last to the first. -/
theorem law_p8 (turns : Int) (ht : 0 ≤ turns ∧ turns ≤ 1000000) (list : List T_Peg.ty) (hl : list.length ≤ 100) (hx : ∀ x,x ∈ list → 0 ≤ pS x ∧ pS x ≤ 100) : ∀ (k i : Nat),i + k = list.length →
 laws_FnPosts_p8 turns i list (list.map fun x => rdivP (turns * pS x) 10000) = some true
 | 0,i,hk => by
   rw [laws_FnPosts_p8_eq]
   have : ¬ (i : Int) < (list.length : Int) := by omega
   simp [this]
 | k + 1,i,hk => by
   have hi : i < list.length := by omega
   have hlt : (i : Int) < (list.length : Int) := by omega
   have hlm : (list.map fun x => rdivP (turns * pS x) 10000).length = list.length := List.length_map ..
   have hi2 : i < (list.map fun x => rdivP (turns * pS x) 10000).length := by omega
   have hb := hx _ (List.getElem_mem hi)
   have hm := mul_bd (b := turns) (d := pS list[i]) (B := 1000000) (D := 100) ht (by omega)
   have e1 : IntKind.i64.wrap (turns * list[i].2.2.2.1) = turns * pS list[i] := w64 (n := turns * pS list[i]) (by omega) (by omega)
   have e2 := laws_b10Div_ok (turns * pS list[i]) 10000 (by omega) (by omega)
   rw [laws_FnPosts_p8_eq]
   simp only [hlm,hlt,decide_true,if_true,Int.natCast_nonneg,Bool.and_self,Int.toNat_natCast,getElem?_lt hi,getElem?_lt hi2,Option.bind_some,e1,e2,List.getElem_map,bne_self_eq_false,Bool.false_eq_true,if_false,wsucc (show i < 4611686018427387904 by omega)]
   exact law_p8 turns ht list hl hx k (i + 1) (by omega)
theorem wear_p0 (turns : Int) (ht : 0 ≤ turns ∧ turns ≤ 1000000) (list : List T_Peg.ty) (hl : list.length ≤ 100) (hx : ∀ x,x ∈ list → 0 ≤ pS x ∧ pS x ≤ 100) : ∀ (k i : Nat) (r : List Int),i + k = list.length → r.length = i →
 impl_WearOfPegs_p0 turns list list.length i r = some (r ++ (list.drop i).map fun x => rdivP (turns * pS x) 10000,0)
 | 0,i,r,hk,hr => by
   rw [impl_WearOfPegs_p0_eq,List.drop_eq_nil_of_le (by omega)]
   have : ¬ (i : Int) < (list.length : Int) := by omega
   simp [this]
 | k + 1,i,r,hk,hr => by
   have hi : i < list.length := by omega
   have hlt : (i : Int) < (list.length : Int) := by omega
   have hb := hx _ (List.getElem_mem hi)
   have hm := mul_bd (b := turns) (d := pS list[i]) (B := 1000000) (D := 100) ht (by omega)
   have e1 : IntKind.i64.wrap (turns * list[i].2.2.2.1) = turns * pS list[i] := w64 (n := turns * pS list[i]) (by omega) (by omega)
   have e2 := impl_divRound_ok (turns * pS list[i]) 10000 (by omega) (by omega)
   have hlim : r.length + 1 < lim := by rw [lim_eq]; omega
   rw [impl_WearOfPegs_p0_eq,List.drop_eq_getElem_cons hi]
   simp only [hlt,decide_true,if_true,Int.natCast_nonneg,Int.toNat_natCast,getElem?_lt hi,Option.bind_some,e1,e2,hlim,List.take_length,wsucc (show i < 4611686018427387904 by omega)]
   rw [wear_p0 turns ht list hl hx k (i + 1) _ (by omega) (by simp [hr]),List.map_cons,List.append_assoc]
   rfl
theorem law_p7 (v0 : List Int) (h1 : ∀ x,x ∈ v0 → 0 ≤ x ∧ x ≤ 255) (h2 : v0.length ≤ 1048576) : laws_FnPosts_p7 v0 = some true := by
 obtain ⟨s,e0,k0⟩ := from_ok v0 h1 h2
 obtain ⟨list,s1,e1,k1,hl,hid⟩ := draw_ok k0
 obtain ⟨turns,s2,e2,k2,m2⟩ := among_ok k1 (by omega) [0,5,4000,90000,1000000,1000001,-1] (by decide) (by decide)
 have ed : spec_DrawWearOfPegs v0 = some (list,turns) := by
  rw [spec_DrawWearOfPegs_eq,e0]
  simp only [Option.bind_some,e1,src_eta,e2,List.take_length]
 rw [laws_FnPosts_p7_eq,ed]
 simp only [Option.bind_some,List.take_length]
 rw [impl_WearOfPegs_eq,impl_ValidPegs_ok list (by omega) (fun x hx => by have : x.1.length ≤ 30 := hid x hx; omega),Option.bind_some]
 by_cases hv : pegsOk list = true
 ·simp only [hv,Bool.not_true,Bool.false_eq_true,if_false,impl_within_ok,Option.bind_some]
  by_cases hw : inR turns 0 1000000 = true
  ·simp only [hw,Bool.not_true,Bool.false_eq_true,if_false]
   have ht := inR_iff'.1 hw
   have hx : ∀ x,x ∈ list → 0 ≤ pS x ∧ pS x ≤ 100 := fun x hx => by
    have h := pegsOk_all hv x hx
    simp only [pegOk,Bool.and_eq_true] at h
    have := inR_iff'.1 h.2.2.2
    unfold pS
    omega
   have e3 := wear_p0 turns ht list (by omega) hx list.length 0 [] (by omega) rfl
   rw [List.drop_zero,List.nil_append] at e3
   have e3' : impl_WearOfPegs_p0 turns list list.length 0 [] = _ := e3
   have e4 := law_p8 turns ht list (by omega) hx list.length 0 (by omega)
   have e4' : laws_FnPosts_p8 turns 0 list _ = some true := e4
   simp only [e3',Option.bind_some,bne_self_eq_false,Bool.false_eq_true,if_false,List.length_map]
   exact e4'
  ·have hw' : inR turns 0 1000000 = false := by simpa using hw
   simp [hw']
 ·have hv' : pegsOk list = false := by simpa using hv
  simp [hv']
theorem after_ok (a b : Int) (ha : 0 ≤ a ∧ a ≤ 100000) (hb : -100000 ≤ b ∧ b ≤ 100000) : impl_AfterLength a b = some (if inR a 100 10000 && inR b 1 1000 then (rdivP (a * b) 1000,0) else (0,2)) := by
 have hm := mul_bd (b := a) (d := b) (B := 100000) (D := 100000) ha (by omega)
 rw [impl_AfterLength_eq]
 simp only [impl_within_ok,Option.bind_some,impl_AfterLength_p0_eq,w64 (n := a * b) (by omega) (by omega),impl_divRound_ok (a * b) 1000 (by omega) (by omega)]
 cases inR a 100 10000 <;> cases inR b 1 1000 <;> rfl
theorem law_p5 (v0 v1 : List Int) (m1 : ∀ x,x ∈ v1 → 0 ≤ x ∧ x ≤ 255) (m2 : v1.length ≤ 1048576) (h7 : laws_FnPosts_p7 v0 = some true) : laws_FnPosts_p5 v0 v1 = some true := by
 obtain ⟨s,e0,k0⟩ := from_ok v1 m1 m2
 obtain ⟨a,s1,e1,k1,ma⟩ := among_ok k0 (by omega) [99,100,3280,10000,10001] (by decide) (by decide)
 obtain ⟨b,s2,e2,k2,mb⟩ := among_ok k1 (by omega) [0,1,167,1000,1001] (by decide) (by decide)
 have ha : 0 ≤ a ∧ a ≤ 100000 := by simp at ma; omega
 have hb : -100000 ≤ b ∧ b ≤ 100000 := by simp at mb; omega
 have hm := mul_bd (b := a) (d := b) (B := 100000) (D := 100000) ha (by omega)
 have ed : spec_DrawAfterLength v1 = some (a,b) := by
  rw [spec_DrawAfterLength_eq,e0]
  simp only [Option.bind_some,e1,src_eta,e2]
 rw [laws_FnPosts_p5_eq,ed]
 simp only [Option.bind_some,after_ok a b ha hb,w64 (n := a * b) (by omega) (by omega),laws_b10Div_ok (a * b) 1000 (by omega) (by omega),h7]
 cases (inR a 100 10000 && inR b 1 1000) <;> simp
theorem post_ok (h r n c : Int) (hh : 0 ≤ h ∧ h ≤ 2000) (hr : -2000 ≤ r ∧ r ≤ 2000) (hn : -2000 ≤ n ∧ n ≤ 2000) (hc : -2000 ≤ c ∧ c ≤ 2000) :
 impl_PostLength h r n c = some (0,2) ∨ (inR h 100 1000 = true ∧ inR r 0 500 = true ∧ inR n 0 500 = true ∧ inR c 0 100 = true ∧ impl_PostLength h r n c = some (if h - c + rdivP (r * n) 1000 < 1 then (0,6) else (h - c + rdivP (r * n) 1000,0)) ∧ -1000000 ≤ rdivP (r * n) 1000 ∧ rdivP (r * n) 1000 ≤ 1000000 ∧ -250000 ≤ r * n ∧ r * n ≤ 250000) := by
 rw [impl_PostLength_eq]
 simp only [impl_within_ok,Option.bind_some]
 by_cases c1 : inR h 100 1000 = true
 ·by_cases c2 : inR r 0 500 = true
  ·by_cases c3 : inR n 0 500 = true
   ·by_cases c4 : inR c 0 100 = true
    ·right
     have b2 := inR_iff'.1 c2
     have b3 := inR_iff'.1 c3
     have hm := mul_bd (b := r) (d := n) (B := 500) (D := 500) b2 (by omega)
     have hnn : 0 ≤ r * n := Int.mul_nonneg b2.1 b3.1
     have hd : 0 ≤ rdivP (r * n) 1000 ∧ rdivP (r * n) 1000 ≤ 1000000 := by
      unfold rdivP
      rw [if_neg (by omega)]
      omega
     refine ⟨c1,c2,c3,c4,?_,by omega,by omega,by omega,by omega⟩
     simp only [c1,c2,c3,c4,Bool.not_true,Bool.false_eq_true,if_false,impl_PostLength_p0_eq,w64 (n := r * n) (by omega) (by omega),impl_divRound_ok (r * n) 1000 (by omega) (by omega),Option.bind_some,w64 (n := h - c) (by omega) (by omega),w64 (n := h - c + rdivP (r * n) 1000) (by omega) (by omega),decide_eq_true_eq]
     split <;> rfl
    ·left; simp [c1,c2,c3,c4]
   ·left; simp [c1,c2,c3]
  ·left; simp [c1,c2]
 ·left; simp [c1]
theorem law_p3 (v0 v1 : List Int) (h1 : ∀ x,x ∈ v0 → 0 ≤ x ∧ x ≤ 255) (h2 : v0.length ≤ 1048576) (h5 : laws_FnPosts_p5 v0 v1 = some true) : laws_FnPosts_p3 v0 v1 = some true := by
 obtain ⟨s,e0,k0⟩ := from_ok v0 h1 h2
 obtain ⟨h,s1,e1,k1,mh⟩ := among_ok k0 (by omega) [99,100,520,1000,1001] (by decide) (by decide)
 obtain ⟨r,s2,e2,k2,mr⟩ := among_ok k1 (by omega) [-1,0,120,500,501] (by decide) (by decide)
 obtain ⟨n,s3,e3,k3,mn⟩ := among_ok k2 (by omega) [-1,0,60,500,501] (by decide) (by decide)
 obtain ⟨c,s4,e4,k4,mc⟩ := among_ok k3 (by omega) [-1,0,20,100,101] (by decide) (by decide)
 have ed : spec_DrawPostLength v0 = some (h,r,n,c) := by
  rw [spec_DrawPostLength_eq,e0]
  simp only [Option.bind_some,e1,src_eta,e2,e3,e4]
 have hh : 0 ≤ h ∧ h ≤ 2000 := by simp at mh; omega
 have hr : -2000 ≤ r ∧ r ≤ 2000 := by simp at mr; omega
 have hn : -2000 ≤ n ∧ n ≤ 2000 := by simp at mn; omega
 have hc : -2000 ≤ c ∧ c ≤ 2000 := by simp at mc; omega
 rw [laws_FnPosts_p3_eq,ed]
 simp only [Option.bind_some]
 rcases post_ok h r n c hh hr hn hc with e | ⟨_,_,_,_,e,b1,b2,b3,b4⟩
 ·simp only [e,Option.bind_some]
  exact h5
 ·rw [e]
  simp only [Option.bind_some,w64 (n := r * n) (by omega) (by omega),laws_b10Div_ok (r * n) 1000 (by omega) (by omega),w64 (n := h + rdivP (r * n) 1000) (by omega) (by omega),w64 (n := h + rdivP (r * n) 1000 - c) (by omega) (by omega)]
  generalize rdivP (r * n) 1000 = q at b1 b2 ⊢
  by_cases c1 : h - c + q < 1
  ·simp only [c1,if_true]
   exact h5
  ·have e2 : h + q - c = h - c + q := by omega
   simp only [c1,if_false,beq_self_eq_true,if_true,decide_false,Bool.false_eq_true,e2,bne_self_eq_false]
   exact h5
theorem law_p6 (v0 v1 : List Int) (v : List (List Int)) (a b : Nat) (best : Int) (hv : v.length ≤ 8) (i : Nat) (hi : i < v.length) (hr : v[i].length ≤ 100) (hbest : ∀ k : Nat,k < v[i].length → atV v i k < best ∨ atV v i k = best ∧ noLater a b i k) :
 ∀ (n k : Nat),k + n = v[i].length → laws_FnPosts_p6 v0 v1 v a b best i k = laws_FnPosts_p4 v0 v1 v a b best (IntKind.i64.wrap ((i : Int) + 1))
 | 0,k,hk => by
   rw [laws_FnPosts_p6_eq]
   have : ¬ (k : Int) < (v[i].length : Int) := by omega
   simp only [Int.natCast_nonneg,decide_true,if_true,Int.toNat_natCast,getElem?_lt hi,Option.bind_some,this,decide_false,Bool.false_eq_true,if_false]
 | n + 1,k,hk => by
   have hk' : k < v[i].length := by omega
   have hlt : (k : Int) < (v[i].length : Int) := by omega
   have hb := hbest k hk'
   have hav : atV v i k = v[i][k] := by simp [atV,getElem?_lt hi,getElem?_lt hk']
   rw [hav] at hb
   rw [laws_FnPosts_p6_eq]
   simp only [Int.natCast_nonneg,decide_true,if_true,Int.toNat_natCast,getElem?_lt hi,getElem?_lt hk',Option.bind_some,hlt,wsucc (show k < 4611686018427387904 by omega)]
   rw [law_p6 v0 v1 v a b best hv i hi hr hbest n (k + 1) (by omega)]
   have c1 : ¬ v[i][k] > best := by omega
   simp only [c1,decide_false,Bool.false_eq_true,if_false]
   by_cases c2 : v[i][k] = best
   ·have hnl := (hb.resolve_left (by omega)).2
    have c3 : ¬ (i : Int) < (a : Int) := by unfold noLater at hnl; omega
    simp only [c2,beq_self_eq_true,if_true,c3,decide_false,Bool.false_eq_true,if_false]
    by_cases c4 : (i : Int) = (a : Int)
    ·have c5 : ¬ (k : Int) < (b : Int) := by unfold noLater at hnl; omega
     simp only [c4,beq_self_eq_true,if_true,c5,decide_false,Bool.false_eq_true,if_false]
    ·have c4' : ((i : Int) == (a : Int)) = false := by simpa using c4
     simp only [c4',Bool.false_eq_true,if_false]
   ·have c2' : (v[i][k] == best) = false := by simpa using c2
    simp only [c2',Bool.false_eq_true,if_false]
theorem law_p4 (v0 v1 : List Int) (v : List (List Int)) (a b : Nat) (best : Int) (hv : v.length ≤ 8) (hr : ∀ r,r ∈ v → r.length ≤ 100) (hbest : ∀ i k : Nat,inV v i k → atV v i k < best ∨ atV v i k = best ∧ noLater a b i k) (h3 : laws_FnPosts_p3 v0 v1 = some true) :
 ∀ (n i : Nat),i + n = v.length → laws_FnPosts_p4 v0 v1 v a b best i = some true
 | 0,i,hk => by
   rw [laws_FnPosts_p4_eq]
   have : ¬ (i : Int) < (v.length : Int) := by omega
   simp only [this,decide_false,Bool.false_eq_true,if_false,h3]
 | n + 1,i,hk => by
   have hi : i < v.length := by omega
   have hlt : (i : Int) < (v.length : Int) := by omega
   have e := law_p6 v0 v1 v a b best hv i hi (hr _ (List.getElem_mem hi)) (fun k hk => hbest i k ⟨hi,hk⟩) v[i].length 0 (by omega)
   rw [wsucc (show i < 4611686018427387904 by omega),law_p4 v0 v1 v a b best hv hr hbest h3 n (i + 1) (by omega)] at e
   rw [laws_FnPosts_p4_eq]
   simp only [hlt,decide_true,if_true]
   exact e
theorem law_p1 (v0 v1 : List Int) (m1 : ∀ x,x ∈ v1 → 0 ≤ x ∧ x ≤ 255) (m2 : v1.length ≤ 1048576) (h3 : laws_FnPosts_p3 v0 v1 = some true) : laws_FnPosts_p1 v0 v1 = some true := by
 obtain ⟨v,ed,hl,hr⟩ := bestDraw v1 m1 m2
 rw [laws_FnPosts_p1_eq,ed]
 simp only [Option.bind_some]
 rcases bestPost_ok v hl hr with e | ⟨a,b,e,⟨ha,hb⟩,hv,hbest⟩
 ·simp only [e,Option.bind_some]
  exact h3
 ·have c1 : ¬ (a : Int) < 0 := by omega
  have c2 : ¬ (a : Int) ≥ (v.length : Int) := by omega
  have c3 : ¬ (b : Int) < 0 := by omega
  have c4 : ¬ (b : Int) ≥ (v[a].length : Int) := by omega
  simp only [e,Option.bind_some,beq_self_eq_true,if_true,c1,c2,c3,c4,decide_false,Bool.false_eq_true,if_false,Int.natCast_nonneg,decide_true,Int.toNat_natCast,getElem?_lt ha,laws_FnPosts_p2_eq,getElem?_lt hb]
  have hav : atV v a b = v[a][b] := by simp [atV,getElem?_lt ha,getElem?_lt hb]
  rw [← hav]
  exact law_p4 v0 v1 v a b _ hv hr hbest h3 v.length 0 (by omega)
def ringN (d q : Int) : Int := if 1000 - 4 * d - q > 0 then 1000 - 4 * d - q else 0
theorem ring_ok (d x : Int) (hd : -10 ≤ d ∧ d ≤ 1000) (hx : 0 ≤ x ∧ x ≤ 1000) : impl_PostRing d x = some (if inR d 0 500 && inR x 1 100 then (ringN d (x * x),0) else (0,2)) := by
 have hm := mul_bd (b := x) (d := x) (B := 1000) (D := 1000) hx (by omega)
 rw [impl_PostRing_eq]
 simp only [impl_within_ok,Option.bind_some,impl_PostRing_p0_eq,w64 (n := 4 * d) (by omega) (by omega),w64 (n := x * x) (by omega) (by omega),w64 (n := 1000 - 4 * d) (by omega) (by omega),w64 (n := 1000 - 4 * d - x * x) (by omega) (by omega)]
 cases inR d 0 500 <;> cases inR x 1 100 <;> rfl
theorem law_p0 (v0 v1 : List Int) (h1 : ∀ x,x ∈ v0 → 0 ≤ x ∧ x ≤ 255) (h2 : v0.length ≤ 1048576) (hp : laws_FnPosts_p1 v0 v1 = some true) : laws_FnPosts_p0 v0 v1 = some true := by
 obtain ⟨s,e0,k0⟩ := from_ok v0 h1 h2
 obtain ⟨d,s1,e1,k1,md⟩ := among_ok k0 (by omega) [-1,0,30,60,240,500,501] (by decide) (by decide)
 obtain ⟨x,s2,e2,k2,mx⟩ := among_ok k1 (by omega) [0,1,10,24,35,100,101] (by decide) (by decide)
 have ed : spec_DrawPostRing v0 = some (d,x) := by
  rw [spec_DrawPostRing_eq,e0]
  simp only [Option.bind_some,e1,src_eta,e2]
 have hd : -10 ≤ d ∧ d ≤ 999 := by simp at md; omega
 have hx : 0 ≤ x ∧ x ≤ 1000 := by simp at mx; omega
 have hq : (1 ≤ x → 1 ≤ x * x) ∧ (x = 1 → x * x = 1) ∧ (x ≤ 20 → x * x ≤ 400) ∧ x * x ≤ 1000000 ∧ 0 ≤ x * x := by
  simp only [List.mem_cons,List.not_mem_nil,or_false] at mx
  rcases mx with rfl | rfl | rfl | rfl | rfl | rfl | rfl <;> decide
 rw [laws_FnPosts_p0_eq,ed]
 simp only [Option.bind_some,w64 (n := d + 1) (by omega) (by omega),ring_ok d x (by omega) hx,ring_ok (d + 1) x (by omega) hx,w64 (n := x * x) (by omega) (by omega),w64 (n := 1000 - x * x) (by omega) (by omega),hp]
 generalize x * x = q at hq ⊢
 by_cases c1 : (inR d 0 500 && inR x 1 100) = true
 ·have c1' := c1
  simp only [Bool.and_eq_true,inR_iff'] at c1'
  have f1 : ¬ ringN d q < 0 := by unfold ringN; split <;> omega
  have f2 : ¬ ringN d q > 999 := by unfold ringN; split <;> omega
  have f3 : ¬ ringN (d + 1) q > ringN d q := by unfold ringN; split <;> split <;> omega
  have f4 : IntKind.i64.wrap (ringN d q - ringN (d + 1) q) = ringN d q - ringN (d + 1) q := w64 (by unfold ringN; split <;> split <;> omega) (by unfold ringN; split <;> split <;> omega)
  have f5 : ¬ ringN d q - ringN (d + 1) q > 4 := by unfold ringN; split <;> split <;> omega
  have f6 : IntKind.i64.wrap (ringN d q - 0) = ringN d q - 0 := w64 (by unfold ringN; split <;> omega) (by unfold ringN; split <;> omega)
  have g1 : d = 0 → x = 1 → ringN d q = 999 := fun a b => by have := hq.2.1 b; unfold ringN; rw [if_pos (by omega)]; omega
  have g2 : d = 0 → x ≤ 20 → ringN d q = 1000 - q := fun a b => by have := hq.2.2.1 b; unfold ringN; rw [if_pos (by omega)]; omega
  simp only [c1,if_true]
  generalize hR : ringN d q = R at f1 f2 f3 f4 f5 f6 g1 g2 ⊢
  generalize ringN (d + 1) q = R2 at f3 f4 f5 ⊢
  have tail : (if (d == 0) = true then (if (x == 1) = true then (if (R != 999) = true then some false else if (d == 0) = true then (if decide (x ≤ 20) = true then (if (R != 1000 - q) = true then some false else some true) else some true) else some true)
   else if (d == 0) = true then (if decide (x ≤ 20) = true then (if (R != 1000 - q) = true then some false else some true) else some true) else some true)
   else if (d == 0) = true then (if decide (x ≤ 20) = true then (if (R != 1000 - q) = true then some false else some true) else some true) else some true) = some true := by
   by_cases d0 : d = 0
   ·by_cases x1 : x = 1
    ·simp [d0,x1,g1 d0 x1,show R = 1000 - q from g2 d0 (by omega)]
     have := g1 d0 x1; have := g2 d0 (by omega); omega
    ·by_cases x20 : x ≤ 20
     ·simp [d0,x1,x20,g2 d0 x20]
     ·simp [d0,x1,x20]
   ·simp [d0]
  by_cases c2 : (inR (d + 1) 0 500 && inR x 1 100) = true
  ·simp only [c2,if_true,beq_self_eq_true,f1,f2,f3,f4,f5,decide_false,Bool.false_eq_true,if_false]
   exact tail
  ·have c2' : (inR (d + 1) 0 500 && inR x 1 100) = false := by simpa using c2
   simp only [c2',Bool.false_eq_true,if_false,beq_self_eq_true,if_true,f1,f2,decide_false,show ((2 : Int) == 0) = false from rfl]
   exact tail
 ·have c1' : (inR d 0 500 && inR x 1 100) = false := by simpa using c1
  simp [c1']
theorem laws_FnPosts_true (code more : List Int) (h : CT.wf (.sl (.one (.int .u8))) code) (h' : CT.wf (.sl (.one (.int .u8))) more) : laws_FnPosts code more = some true := by
 have h1 := bytes_ok h
 have m1 := bytes_ok h'
 rw [laws_FnPosts_eq,laws_b10Long_eq,laws_b10Long_eq]
 simp only [Option.bind_some,decide_eq_true_eq]
 by_cases c1 : (code.length : Int) > 1048576
 ·simp [c1]
 by_cases c2 : (more.length : Int) > 1048576
 ·simp [c2]
 simp only [c1,c2,if_false]
 exact law_p0 code more h1 (by omega) (law_p1 code more m1 (by omega) (law_p3 code more h1 (by omega) (law_p5 code more m1 (by omega) (law_p7 code h1 (by omega)))))
end Go.Ab.P
