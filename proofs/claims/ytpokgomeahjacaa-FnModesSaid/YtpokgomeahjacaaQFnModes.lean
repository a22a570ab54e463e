/- Matched modes differ by no more than others, the closest ones are closest, and shifted tones are what they must be. Conditions: the arguments are bytes. -/
import Derived.Test.YtpokgomeahjacaaBFnModes
set_option linter.unusedVariables false
set_option linter.unusedSimpArgs false
namespace Go.Ab.P
open Go.Ab
theorem clone_ok (xs : List Int) (h : xs.length ≤ 1048576) : impl_clone_int64_ xs = some xs := by
 rw [impl_clone_int64__eq]
 have h1 : xs.length < lim := by unfold lim; omega
 simp [h1]
def tn (xs : List T_Mode.ty) (j : Nat) : Int := ((xs[j]?).map fun x => (x.2.1 : Int)).getD 0
theorem tn_at {xs : List T_Mode.ty} {j : Nat} (h : j < xs.length) : (xs[j].2.1 : Int) = tn xs j := by simp [tn,h]
def mcost (a b : List T_Mode.ty) : Nat → List Int → Int
 | _,[] => 0
 | i,j :: g => absI (tn a i - tn b j.toNat) + mcost a b (i + 1) g
theorem mcost_app (a b : List T_Mode.ty) (j : Int) : ∀ (g : List Int) (i : Nat),mcost a b i (g ++ [j]) = mcost a b i g + absI (tn a (i + g.length) - tn b j.toNat)
 | [],i => by simp [mcost]
 | x :: g,i => by
   simp only [List.cons_append,mcost,mcost_app a b j g (i + 1),List.length_cons]
   rw [show i + 1 + g.length = i + (g.length + 1) by omega]
   omega
theorem mcost_bd {a b : List T_Mode.ty} (ha : ∀ i,0 ≤ tn a i ∧ tn a i ≤ 100000) (hb : ∀ i,0 ≤ tn b i ∧ tn b i ≤ 100000) : ∀ (g : List Int) (i : Nat),0 ≤ mcost a b i g ∧ mcost a b i g ≤ 100000 * g.length
 | [],i => by simp [mcost]
 | x :: g,i => by
   have h := mcost_bd ha hb g (i + 1)
   have h1 := ha i
   have h2 := hb x.toNat
   have h3 := absI_bd (n := tn a i - tn b x.toNat) (b := 100000) (by omega)
   simp only [mcost,List.length_cons]
   omega
def Comp (a b : List T_Mode.ty) (g : List Int) : Prop := g.length = a.length ∧ g.Nodup ∧ ∀ x ∈ g,0 ≤ x ∧ x < (b.length : Int)
def MPost (a b : List T_Mode.ty) (used : List Bool) (given : List Int) (left least : Int) (found : Bool) (Q : List Int → Prop) (r : Bool × T_matchingO.ty) : Prop :=
 ∃ (left' : Int) (best' : List Int) (least' : Int) (found' : Bool),r.2 = (a,b,used,left',given,mcost a b 0 given,best',least',found',()) ∧ 0 ≤ left' ∧ left' ≤ left ∧ (found' = true → Comp a b best' ∧ least' = mcost a b 0 best') ∧
   (found = true → found' = true ∧ least' ≤ least) ∧ (r.1 = true → ∀ g,Comp a b g → Q g → found' = true ∧ least' ≤ mcost a b 0 g)
structure MInv (a b : List T_Mode.ty) (used : List Bool) (given : List Int) (left : Int) (best : List Int) (least : Int) (found : Bool) : Prop where
 ul : used.length = b.length
 us : ∀ k,k < b.length → used[k]? = some (decide ((k : Int) ∈ given))
 nd : given.Nodup
 rg : ∀ x ∈ given,0 ≤ x ∧ x < (b.length : Int)
 l0 : 0 ≤ left
 l1 : left ≤ 20000
 bo : found = true → Comp a b best ∧ least = mcost a b 0 best
theorem search_ok (a b : List T_Mode.ty) (hal : a.length ≤ 10) (hbl : b.length ≤ 10) (ha : ∀ i,0 ≤ tn a i ∧ tn a i ≤ 100000) (hb : ∀ i,0 ≤ tn b i ∧ tn b i ≤ 100000) : ∀ (d n : Nat),d < n → ∀ (used : List Bool) (given : List Int) (left : Int) (best : List Int) (least : Int) (found : Bool),
 MInv a b used given left best least found → given.length + d = a.length → ∃ r,impl_matching_search n (a,b,used,left,given,mcost a b 0 given,best,least,found,()) = some r ∧ MPost a b used given left least found (fun g => given <+: g) r
 | 0,n + 1,_,used,given,left,best,least,found,hi,hd => by
   have hgl : ((given.length : Int) == (a.length : Int)) = true := by simp; omega
   have hc := clone_ok given (by omega)
   rw [impl_matching_search_eq]
   simp only [hgl,if_true,impl_matching_search_p0_eq,List.take_length,hc,Option.bind_some]
   have fin : ∀ g,Comp a b g → given <+: g → g = given := fun g hg hp => (hp.eq_of_length (by rw [hg.1]; omega)).symm
   have hcg : Comp a b given := ⟨by omega,hi.nd,hi.rg⟩
   cases found with
   | false =>
     simp only [Bool.not_false,if_true]
     exact ⟨_,rfl,left,given,_,true,rfl,hi.l0,Int.le_refl _,fun _ => ⟨hcg,rfl⟩,fun h => (by cases h),fun _ g hg hp => ⟨rfl,by rw [fin g hg hp]; exact Int.le_refl _⟩⟩
   | true =>
     simp only [Bool.not_true,Bool.false_eq_true,if_false,decide_eq_true_eq]
     by_cases hlt : mcost a b 0 given < least
     ·simp only [hlt,if_true]
      exact ⟨_,rfl,left,given,_,true,rfl,hi.l0,Int.le_refl _,fun _ => ⟨hcg,rfl⟩,fun h => ⟨rfl,Int.le_of_lt hlt⟩,fun _ g hg hp => ⟨rfl,by rw [fin g hg hp]; exact Int.le_refl _⟩⟩
     ·simp only [hlt,if_false]
      exact ⟨_,rfl,left,best,least,true,rfl,hi.l0,Int.le_refl _,hi.bo,fun h => ⟨rfl,Int.le_refl _⟩,fun _ g hg hp => ⟨rfl,by rw [fin g hg hp]; omega⟩⟩
 | d + 1,n + 1,hdn,used,given,left,best,least,found,hi,hd => by
   have hgl : ((given.length : Int) == (a.length : Int)) = false := by simp; omega
   have hga : given.length < a.length := by omega
   have hs0 := mcost_bd ha hb given 0
   have loop : ∀ (k j : Nat),j + k = b.length → ∀ (G : List Int),G.take given.length = given → ∀ (left : Int) (best : List Int) (least : Int) (found : Bool),MInv a b used given left best least found →
    ∃ r,impl_matching_search_p1 n (given.length : Int) b (b.length : Int) (j : Int) a b used.length left given.length (mcost a b 0 given) least found used G best = some r ∧
      MPost a b used given left least found (fun g => given <+: g ∧ ∃ x,g[given.length]? = some x ∧ (j : Int) ≤ x) r := by
    intro k
    induction k with
    | zero =>
      intro j hj G hG left best least found hi
      have hn : ¬ (j : Int) < (b.length : Int) := by omega
      rw [impl_matching_search_p1_eq]
      simp only [hn,decide_false,Bool.false_eq_true,if_false,List.take_length,hG]
      refine ⟨_,rfl,left,best,least,found,rfl,hi.l0,Int.le_refl _,hi.bo,fun h => ⟨h,Int.le_refl _⟩,fun _ g hg ⟨_,x,hx,hjx⟩ => ?_⟩
      have := hg.2.2 x (List.mem_of_getElem? hx)
      omega
    | succ k ih =>
      intro j hj G hG left best least found hi
      have hjb : j < b.length := by omega
      have hlt : (j : Int) < (b.length : Int) := by omega
      have hju : (j : Int) < (used.length : Int) := by rw [hi.ul]; omega
      have hw : IntKind.i64.wrap ((j : Int) + 1) = ((j + 1 : Nat) : Int) := wsucc (by omega)
      have huj := hi.us j hjb
      rw [impl_matching_search_p1_eq]
      simp only [hlt,decide_true,if_true,Int.natCast_nonneg,Int.toNat_natCast,getElem?_lt hjb,Option.bind_some,hju,Bool.and_self,huj,hw,decide_eq_true_eq]
      by_cases hm : (j : Int) ∈ given
      ·simp only [hm,if_true]
       obtain ⟨r,e,l',b',s',f',h1,h2,h3,h4,h5,h6⟩ := ih (j + 1) (by omega) G hG left best least found hi
       refine ⟨r,e,l',b',s',f',h1,h2,h3,h4,h5,fun ho g hg ⟨hp,x,hx,hjx⟩ => h6 ho g hg ⟨hp,x,hx,?_⟩⟩
       by_cases he : x = (j : Int)
       ·exfalso
        subst he
        obtain ⟨t,rfl⟩ := hp
        obtain ⟨i,hi1,hi2⟩ := List.getElem_of_mem hm
        have h7 : (given ++ t)[i]? = some (j : Int) := by rw [List.getElem?_append_left hi1,List.getElem?_eq_getElem hi1,hi2]
        have h8 := (List.getElem?_inj (i := i) (j := given.length) (by simp; omega) hg.2.1).1 (h7.trans hx.symm)
        omega
       ·omega
      ·simp only [hm,if_false,decide_false,Bool.false_eq_true]
       by_cases hz : left = 0
       ·simp only [hz,beq_self_eq_true,if_true,List.take_length,hG]
        exact ⟨_,rfl,0,best,least,found,rfl,Int.le_refl _,Int.le_refl _,hi.bo,fun h => ⟨h,Int.le_refl _⟩,fun h => by cases h⟩
       ·have hz' : (left == 0) = false := by simpa using hz
        have hd0 := ha given.length
        have hd1 := hb j
        have hdd := absI_bd (n := tn a given.length - tn b j) (b := 100000) (by omega)
        have hlim : given.length + 1 < lim := by unfold lim; omega
        have hdist : impl_distance (a[given.length].2.1) (b[j].2.1) = some (absI (tn a given.length - tn b j)) := by
         have e1 := tn_at hga
         have e2 := tn_at hjb
         rw [impl_distance_ok _ _ (by rw [e1]; omega) (by rw [e2]; omega),e1,e2]
        have hsum : IntKind.i64.wrap (mcost a b 0 given + absI (tn a given.length - tn b j)) = mcost a b 0 (given ++ [(j : Int)]) := by
         rw [mcost_app,Nat.zero_add,Int.toNat_natCast,w64 (by omega) (by omega)]
        have hl0 := hi.l0
        have hl1 := hi.l1
        simp only [hz',Bool.false_eq_true,if_false,getElem?_lt hga,Option.bind_some,hdist,hlim,decide_true,if_true,hG,hsum,List.take_length,w64 (n := left - 1) (by omega) (by omega),
         show (used.set j true).take used.length = used.set j true from List.take_of_length_le (by simp)]
        have hi' : MInv a b (used.set j true) (given ++ [(j : Int)]) (left - 1) best least found := by
         refine ⟨by simp [hi.ul],fun k hk => ?_,?_,fun x hx => ?_,by omega,by omega,hi.bo⟩
         ·by_cases hkj : k = j
          ·subst hkj; simp [hi.ul,hk]
          ·rw [List.getElem?_set_ne (by omega),hi.us k hk]
           congr 1
           simp only [List.mem_append,List.mem_singleton,decide_eq_decide]
           constructor
           ·exact fun h => .inl h
           ·rintro (h | h)
            ·exact h
            ·omega
         ·rw [List.nodup_append]
          exact ⟨hi.nd,by simp,fun x hx y hy e => by simp at hy; subst hy; subst e; exact hm hx⟩
         ·rcases List.mem_append.1 hx with hx | hx
          ·exact hi.rg x hx
          ·simp at hx; omega
        obtain ⟨⟨ok,w⟩,e,l',b',s',f',h1,h2,h3,h4,h5,h6⟩ := search_ok a b hal hbl ha hb d n (by omega) (used.set j true) (given ++ [(j : Int)]) (left - 1) best least found hi' (by simp; omega)
        simp only at h1
        subst h1
        have hback : IntKind.i64.wrap (mcost a b 0 (given ++ [(j : Int)]) - absI (tn a given.length - tn b j)) = mcost a b 0 given := by
         rw [mcost_app,Nat.zero_add,Int.toNat_natCast,w64 (by omega) (by omega)]; omega
        have hset : (used.set j true).set j false = used := by
         rw [List.set_set]
         refine List.ext_getElem? fun i => ?_
         by_cases hij : i = j
         ·subst hij
          have : used[i]? = some false := by rw [huj]; simp [hm]
          rw [List.getElem?_set_self (by rw [hi.ul]; exact hjb),this]
         ·rw [List.getElem?_set_ne (by omega)]
        have c1 : (given.length : Int) ≤ ((given ++ [(j : Int)]).length : Int) := by simp; omega
        have c2 : (j : Int) < ((used.set j true).length : Int) := by simpa using hju
        have c3 : (used.set j true)[j]? = some true := by simp [hi.ul,hjb]
        have c4 : (given ++ [(j : Int)]).take given.length = given := by simp
        simp only [e,Option.bind_some,c1,c2,c3,c4,hju,decide_true,Bool.and_self,if_true,hset,hback,List.length_set,List.take_length,List.take_length]
        cases ok with
        | false =>
          simp only [Bool.not_false,if_true]
          exact ⟨_,rfl,l',b',s',f',rfl,h2,by omega,h4,h5,fun h => by cases h⟩
        | true =>
          simp only [Bool.not_true,Bool.false_eq_true,if_false]
          obtain ⟨r,e2,l2,b2,s2,f2,k1,k2,k3,k4,k5,k6⟩ := ih (j + 1) (by omega) (given ++ [(j : Int)]) c4 l' b' s' f' ⟨hi.ul,hi.us,hi.nd,hi.rg,h2,by omega,h4⟩
          refine ⟨r,e2,l2,b2,s2,f2,k1,k2,by omega,k4,fun h => ?_,fun ho g hg ⟨hp,x,hx,hjx⟩ => ?_⟩
          ·obtain ⟨q1,q2⟩ := h5 h
           obtain ⟨q3,q4⟩ := k5 q1
           exact ⟨q3,by omega⟩
          ·by_cases he : x = (j : Int)
           ·subst he
            obtain ⟨t,rfl⟩ := hp
            have ht : t[0]? = some (j : Int) := by rw [List.getElem?_append_right (by omega),Nat.sub_self] at hx; exact hx
            obtain ⟨y,t',rfl⟩ : ∃ y t',t = y :: t' := by cases t with | nil => simp at ht | cons y t' => exact ⟨y,t',rfl⟩
            simp at ht
            subst ht
            obtain ⟨q1,q2⟩ := h6 rfl _ hg ⟨t',by simp⟩
            obtain ⟨q3,q4⟩ := k5 q1
            exact ⟨q3,by omega⟩
           ·exact k6 ho g hg ⟨hp,x,hx,by omega⟩
   rw [impl_matching_search_eq]
   simp only [hgl,Bool.false_eq_true,if_false]
   obtain ⟨r,e,l',b',s',f',h1,h2,h3,h4,h5,h6⟩ := loop b.length 0 (by omega) given (by simp) left best least found hi
   refine ⟨r,e,l',b',s',f',h1,h2,h3,h4,h5,fun ho g hg hp => h6 ho g hg ⟨hp,?_⟩⟩
   obtain ⟨t,rfl⟩ := hp
   have hl := hg.1
   have hlt : given.length < (given ++ t).length := by rw [hl]; omega
   refine ⟨_,List.getElem?_eq_getElem hlt,?_⟩
   exact (hg.2.2 _ (List.getElem_mem hlt)).1
theorem mode_eta (x : T_Mode.ty) : (x.1,x.2.1,x.2.2.1,()) = x := rfl
def ModeSm (x : T_Mode.ty) : Prop := x.1.length ≤ 100
def ModesSm (xs : List T_Mode.ty) : Prop := xs.length ≤ 100 ∧ ∀ x,x ∈ xs → ModeSm x
theorem modeOne {s : T_l00Src.ty} {c : Int} (hs : SrcOk s c) (hc : c ≤ 100000000000000000) (id : List UInt8) (hid : id.length ≤ 100) : ∃ (x : T_Mode.ty) (s' : T_l00Src.ty),spec_l16DrawOne s id = some (x,s') ∧ SrcOk s' (c + 4) ∧ ModeSm x := by
 obtain ⟨t,l,s',e,k⟩ := spec_l16DrawOne_ok hs hc id
 exact ⟨_,s',e,k,hid⟩
theorem modeBent {s : T_l00Src.ty} {c : Int} (hs : SrcOk s c) (hc : c ≤ 100000000000000000) (p : T_Mode.ty) (hp : ModeSm p) : ∃ (x : T_Mode.ty) (s' : T_l00Src.ty),spec_l16Bent s p = some (x,s') ∧ SrcOk s' (c + 4) ∧ ModeSm x := by
 obtain ⟨t,l,s',e,k⟩ := spec_l16Bent_ok hs hc p.1 p.2.1 p.2.2.1
 exact ⟨_,s',e,k,hp⟩
theorem mode_draw1 (B : Int) (hB : B ≤ 1000000) (v6 : Int) (h6 : v6 ≤ 20) : ∀ (k : Nat) (v7 : Int) (s : T_l00Src.ty) (c : Int) (r : List T_Mode.ty),SrcOk s c → c + 20 * k ≤ B → 0 ≤ v7 → v7 ≤ 20 → (v6 - v7).toNat ≤ k → (r.length : Int) ≤ v7 → (∀ x,x ∈ r → ModeSm x) →
 ∃ (xs : List T_Mode.ty) (s' : T_l00Src.ty),spec_l16Draw_p1 v6 v7 s.1 s.2.1 s.2.2.1 r = some (xs,s') ∧ SrcOk s' B ∧ ModesSm xs
 | 0,v7,s,c,r,hs,hc,h0,h7,hk,hr,hx => by
   have : ¬ v7 < v6 := by omega
   rw [spec_l16Draw_p1_eq]
   simp only [this,decide_false,Bool.false_eq_true,if_false,List.take_length]
   exact ⟨_,_,rfl,hs.up (by omega),by omega,hx⟩
 | k + 1,v7,s,c,r,hs,hc,h0,h7,hk,hr,hx => by
   rw [spec_l16Draw_p1_eq]
   by_cases hlt : v7 < v6
   ·have hst : [(110 : UInt8)].length + ([IntKind.u8.wrap (IntKind.i64.wrap (97 + v7))].map vu8).length ≤ strMax := by rw [strMax_eq]; simp
    have hw : IntKind.i64.wrap (v7 + 1) = v7 + 1 := w64 (by omega) (by omega)
    obtain ⟨x,s1,e1,k1,m1⟩ := modeOne hs (by omega) ([110] ++ ([IntKind.u8.wrap (IntKind.i64.wrap (97 + v7))].map vu8)) (by simp)
    have hlim : r.length + 1 < lim := by rw [lim_eq]; omega
    simp only [hlt,decide_true,if_true]
    refine Exists.imp (fun _ => Exists.imp fun _ h => And.imp (fun h => (if_pos (decide_eq_true hst)).trans h) id h) ?_
    simp only [src_eta,e1,Option.bind_some,mode_eta,hlim,decide_true,if_true,List.take_length,hw]
    refine mode_draw1 B hB v6 h6 k (v7 + 1) s1 (c + 4) (r ++ [x]) k1 (by omega) (by omega) (by omega) (by omega) (by simp only [List.length_append,List.length_cons,List.length_nil]; omega) fun y hy => ?_
    rcases List.mem_append.1 hy with hy | hy
    ·exact hx y hy
    ·rw [List.mem_singleton] at hy; subst hy; exact m1
   ·simp only [hlt,decide_false,Bool.false_eq_true,if_false,List.take_length]
    exact ⟨_,_,rfl,hs.up (by omega),by omega,hx⟩
theorem mode_draw0 (B : Int) (hB : B ≤ 1000000) (r3 : List (List UInt8)) (h3 : r3.length ≤ 10) (hm : ∀ t,t ∈ r3 → t.length ≤ 100) : ∀ (k i : Nat) (s : T_l00Src.ty) (c : Int) (r : List T_Mode.ty),SrcOk s c → c + 20 * k + 500 ≤ B → i + k = r3.length → r.length ≤ i → (∀ x,x ∈ r → ModeSm x) →
 ∃ (xs : List T_Mode.ty) (s' : T_l00Src.ty),spec_l16Draw_p0 i s.1 s.2.1 s.2.2.1 r3 r = some (xs,s') ∧ SrcOk s' B ∧ ModesSm xs
 | 0,i,s,c,r,hs,hc,hk,hr,hx => by
   have : ¬ (i : Int) < (r3.length : Int) := by omega
   rw [spec_l16Draw_p0_eq]
   obtain ⟨v,s1,e1,k1,_⟩ := pick_ok hs (by omega) 20 (by omega)
   simp only [this,decide_false,Bool.false_eq_true,if_false,src_eta,e1,Option.bind_some,List.take_length]
   by_cases h0 : (v == 0) = true
   ·obtain ⟨x,s2,e2,k2,m2⟩ := modeOne k1 (by omega) [122,122] (by decide)
    obtain ⟨y,s3,e3,k3,m3⟩ := modeBent k2 (by omega) x m2
    have hlim : r.length + 1 < lim := by rw [lim_eq]; omega
    simp only [h0,if_true,e2,Option.bind_some,src_eta,mode_eta,e3,hlim,decide_true]
    refine ⟨_,_,rfl,k3.up (by omega),by simp only [List.length_append,List.length_cons,List.length_nil]; omega,fun z hz => ?_⟩
    rcases List.mem_append.1 hz with hz | hz
    ·exact hx z hz
    ·rw [List.mem_singleton] at hz; subst hz; exact m3
   ·have h0' : (v == 0) = false := by simpa using h0
    simp only [h0',Bool.false_eq_true,if_false]
    by_cases h1 : (v == 1) = true
    ·obtain ⟨u,s2,e2,k2,m2⟩ := among_ok k1 (by omega) [10,11] (by decide) (by decide)
     simp only [h1,if_true,e2,Option.bind_some]
     have hu : u ≤ 20 := by simp at m2; omega
     exact mode_draw1 B hB u hu 20 0 s2 _ [] k2 (by omega) (by omega) (by omega) (by omega) (by simp) (by simp)
    ·have h1' : (v == 1) = false := by simpa using h1
     simp only [h1',Bool.false_eq_true,if_false]
     exact ⟨_,_,rfl,k1.up (by omega),by omega,hx⟩
 | k + 1,i,s,c,r,hs,hc,hk,hr,hx => by
   have hi : i < r3.length := by omega
   have hlt : (i : Int) < (r3.length : Int) := by omega
   have hw : IntKind.i64.wrap ((i : Int) + 1) = ((i + 1 : Nat) : Int) := wsucc (by omega)
   rw [spec_l16Draw_p0_eq]
   obtain ⟨u,s1,e1,k1⟩ := one_ok hs (by omega) 3 (by omega)
   simp only [hlt,decide_true,if_true,src_eta,e1,Option.bind_some,Int.natCast_nonneg,Bool.and_self,Int.toNat_natCast,getElem?_lt hi,hw]
   cases u
   ·obtain ⟨x,s2,e2,k2,m2⟩ := modeOne k1 (by omega) r3[i] (hm _ (List.getElem_mem hi))
    have hlim : r.length + 1 < lim := by rw [lim_eq]; omega
    simp only [Bool.not_false,if_true,e2,Option.bind_some,mode_eta,hlim,decide_true,List.take_length]
    refine mode_draw0 B hB r3 h3 hm k (i + 1) s2 _ (r ++ [x]) k2 (by omega) (by omega) (by simp only [List.length_append,List.length_cons,List.length_nil]; omega) fun y hy => ?_
    rcases List.mem_append.1 hy with hy | hy
    ·exact hx y hy
    ·rw [List.mem_singleton] at hy; subst hy; exact m2
   ·simp only [Bool.not_true,Bool.false_eq_true,if_false]
    exact mode_draw0 B hB r3 h3 hm k (i + 1) s1 _ r k1 (by omega) (by omega) (by omega) hx
theorem mode_draw {s : T_l00Src.ty} {c : Int} (hs : SrcOk s c) (B : Int) (hB : B ≤ 1000000) (hc : c + 600 ≤ B) : ∃ (xs : List T_Mode.ty) (s' : T_l00Src.ty),spec_l16Draw s = some (xs,s') ∧ SrcOk s' B ∧ ModesSm xs := by
 rw [spec_l16Draw_eq]
 exact mode_draw0 B hB [[109,97],[109,98],[109,99],[109,100],[109,101]] (by decide) (by decide) 5 0 s c [] hs (by omega) (by decide) (by decide) (by simp)
theorem valid_ok (xs : List T_Mode.ty) (h : ModesSm xs) : impl_ValidModes xs = some (modesOk xs) :=
 impl_ValidModes_ok xs (by have := h.1; omega) fun x hx => by have := h.2 x hx; unfold ModeSm at this; omega
theorem modesOk_facts {xs : List T_Mode.ty} (h : modesOk xs = true) : xs.length ≤ 10 ∧ ∀ i,0 ≤ tn xs i ∧ tn xs i ≤ 100000 := by
 have h1 := modesOk_all h
 simp only [modesOk,Bool.and_eq_true,decide_eq_true_eq] at h
 refine ⟨by omega,fun i => ?_⟩
 unfold tn
 cases e : xs[i]? with
 | none => simp
 | some x =>
   have h2 := h1 x (List.mem_of_getElem? e)
   simp only [modeOk,Bool.and_eq_true] at h2
   have h3 := inR_iff'.1 h2.2.1
   simp only [Option.map_some,Option.getD_some]
   omega
theorem modesOk_at {xs : List T_Mode.ty} (h : modesOk xs = true) {i : Nat} (hi : i < xs.length) : 1000 ≤ tn xs i ∧ tn xs i ≤ 100000 := by
 have h2 := modesOk_all h xs[i] (List.getElem_mem hi)
 simp only [modeOk,Bool.and_eq_true] at h2
 have h3 := inR_iff'.1 h2.2.1
 rw [← tn_at hi]; exact h3
def first (n : Nat) : List Int := (List.range n).map fun (j : Nat) => (j : Int)
theorem first_comp {a b : List T_Mode.ty} (h : a.length ≤ b.length) : Comp a b (first a.length) := by
 refine ⟨by simp [first],?_,fun x hx => ?_⟩
 ·unfold first
  rw [List.Nodup,List.pairwise_map]
  exact List.nodup_range.imp fun h e => h (Int.ofNat_inj.1 e)
 ·simp only [first,List.mem_map,List.mem_range] at hx
  obtain ⟨j,hj,rfl⟩ := hx
  omega
theorem match_ok (a b : List T_Mode.ty) (n : Int) (ha : ModesSm a) (hb : ModesSm b) : ∃ g s e,impl_MatchModes a b n = some (g,s,e) ∧ (e = 0 → modesOk a = true ∧ modesOk b = true ∧ a.length ≤ b.length ∧ Comp a b g ∧ s = mcost a b 0 g ∧ s ≤ mcost a b 0 (first a.length)) ∧ (e ≠ 0 → g = [] ∧ s = 0) := by
 rw [impl_MatchModes_eq,valid_ok a ha,valid_ok b hb]
 simp only [Option.bind_some]
 cases e1 : modesOk a
 ·exact ⟨_,_,_,rfl,fun h => by simp at h,fun _ => ⟨rfl,rfl⟩⟩
 simp only [Bool.not_true,Bool.false_eq_true,if_false]
 cases e2 : modesOk b
 ·exact ⟨_,_,_,rfl,fun h => by simp at h,fun _ => ⟨rfl,rfl⟩⟩
 simp only [Bool.not_true,Bool.false_eq_true,if_false,impl_MatchModes_p0_eq,decide_eq_true_eq]
 by_cases hl : (b.length : Int) < (a.length : Int)
 ·simp only [hl,if_true]
  exact ⟨_,_,_,rfl,fun h => by simp at h,fun _ => ⟨rfl,rfl⟩⟩
 simp only [hl,if_false,impl_within_ok,Option.bind_some]
 cases e3 : inR n 1 20000
 ·exact ⟨_,_,_,rfl,fun h => by simp at h,fun _ => ⟨rfl,rfl⟩⟩
 have hn := inR_iff'.1 e3
 obtain ⟨al,at_⟩ := modesOk_facts e1
 obtain ⟨bl,bt⟩ := modesOk_facts e2
 have hlim : b.length < lim := by rw [lim_eq]; omega
 simp only [Bool.not_true,Bool.false_eq_true,if_false,impl_MatchModes_p1_eq,Int.natCast_nonneg,Int.le_refl,decide_true,Bool.and_self,Int.toNat_natCast,hlim,if_true,List.take_length]
 obtain ⟨⟨ok,w⟩,e,l',b',s',f',h1,h2,h3,h4,h5,h6⟩ := search_ok a b al bl at_ bt a.length 1000 (by omega) (List.replicate b.length false) [] n [] 0 false
  ⟨by simp,fun k hk => by simp [hk],by simp,by simp,by omega,by omega,fun h => by cases h⟩ (by simp)
 simp only at h1
 subst h1
 have e' : impl_matching_search 1000 (a,b,List.replicate b.length false,n,[],0,[],0,false,()) = some (ok,a,b,List.replicate b.length false,l',[],mcost a b 0 [],b',s',f',()) := e
 simp only [e',Option.bind_some,List.take_length]
 cases ok
 ·exact ⟨_,_,_,rfl,fun h => by simp at h,fun _ => ⟨rfl,rfl⟩⟩
 ·simp only [Bool.not_true,Bool.false_eq_true,if_false]
  obtain ⟨q1,q2⟩ := h6 rfl (first a.length) (first_comp (by omega)) (by simp)
  obtain ⟨q3,q4⟩ := h4 q1
  exact ⟨_,_,_,rfl,fun _ => ⟨trivial,trivial,by omega,q3,q4,q2⟩,fun h => absurd rfl h⟩
theorem closest_p1 (xs : List T_Mode.ty) (hv : modesOk xs = true) (i : Nat) (hi : i < xs.length) (r : List UInt8) (l : Int) (v16 : List T_Mode.ty) (v17 v18 : Int) : ∀ (k j x y : Nat),j + k = xs.length → i < j → x < y → y < xs.length →
 ∃ x' y' : Nat,x' < y' ∧ y' < xs.length ∧ absI (tn xs x' - tn xs y') ≤ absI (tn xs x - tn xs y) ∧ (∀ m,j ≤ m → m < xs.length → absI (tn xs x' - tn xs y') ≤ absI (tn xs i - tn xs m)) ∧
   impl_ClosestModes_p1 xs x y i j v16 v17 v18 r (tn xs i) l = impl_ClosestModes_p0 xs x' y' v16 v17 (IntKind.i64.wrap (v18 + 1))
 | 0,j,x,y,hj,hij,hxy,hy => by
   refine ⟨x,y,hxy,hy,Int.le_refl _,fun m h1 h2 => by omega,?_⟩
   have : ¬ (j : Int) < (xs.length : Int) := by omega
   rw [impl_ClosestModes_p1_eq]
   simp only [this,decide_false,Bool.false_eq_true,if_false]
 | k + 1,j,x,y,hj,hij,hxy,hy => by
   have hjl : j < xs.length := by omega
   have h10 := (modesOk_facts hv).1
   have hlt : (j : Int) < (xs.length : Int) := by omega
   have hw : IntKind.i64.wrap ((j : Int) + 1) = ((j + 1 : Nat) : Int) := wsucc (by omega)
   have hx : x < xs.length := by omega
   have t1 := modesOk_at hv hi
   have t2 := modesOk_at hv hjl
   have t3 := modesOk_at hv hx
   have t4 := modesOk_at hv hy
   by_cases hc : absI (tn xs i - tn xs j) < absI (tn xs x - tn xs y)
   ·obtain ⟨x',y',a1,a2,a3,a4,a5⟩ := closest_p1 xs hv i hi r l v16 v17 v18 k (j + 1) i j (by omega) (by omega) hij hjl
    refine ⟨x',y',a1,a2,by omega,fun m h1 h2 => ?_,?_⟩
    ·by_cases hm : m = j
     ·subst hm; omega
     ·exact a4 m (by omega) h2
    ·rw [impl_ClosestModes_p1_eq]
     simp only [hlt,decide_true,if_true,Int.natCast_nonneg,Int.toNat_natCast,getElem?_lt hjl,Option.bind_some,tn_at hjl,impl_distance_ok (tn xs i) (tn xs j) (by omega) (by omega),getElem?_lt hx,getElem?_lt hy,tn_at hx,tn_at hy,impl_distance_ok (tn xs x) (tn xs y) (by omega) (by omega),hc,hw]
     exact a5
   ·obtain ⟨x',y',a1,a2,a3,a4,a5⟩ := closest_p1 xs hv i hi r l v16 v17 v18 k (j + 1) x y (by omega) (by omega) hxy hy
    refine ⟨x',y',a1,a2,a3,fun m h1 h2 => ?_,?_⟩
    ·by_cases hm : m = j
     ·subst hm; omega
     ·exact a4 m (by omega) h2
    ·rw [impl_ClosestModes_p1_eq]
     simp only [hlt,decide_true,if_true,Int.natCast_nonneg,Int.toNat_natCast,getElem?_lt hjl,Option.bind_some,tn_at hjl,impl_distance_ok (tn xs i) (tn xs j) (by omega) (by omega),getElem?_lt hx,getElem?_lt hy,tn_at hx,tn_at hy,impl_distance_ok (tn xs x) (tn xs y) (by omega) (by omega),hc,hw,decide_false,Bool.false_eq_true,if_false]
     exact a5
theorem closest_p0 (xs : List T_Mode.ty) (hv : modesOk xs = true) : ∀ (k i x y : Nat),i + k = xs.length → x < y → y < xs.length → (∀ m j,m < i → m < j → j < xs.length → absI (tn xs x - tn xs y) ≤ absI (tn xs m - tn xs j)) →
 ∃ x' y' : Nat,x' < y' ∧ y' < xs.length ∧ (∀ m j,m < j → j < xs.length → absI (tn xs x' - tn xs y') ≤ absI (tn xs m - tn xs j)) ∧ impl_ClosestModes_p0 xs x y xs (xs.length : Int) i = some ((x' : Int),(y' : Int),0)
 | 0,i,x,y,hi,hxy,hy,hm => by
   have : ¬ (i : Int) < (xs.length : Int) := by omega
   rw [impl_ClosestModes_p0_eq]
   simp only [this,decide_false,Bool.false_eq_true,if_false]
   exact ⟨x,y,hxy,hy,fun m j h1 h2 => hm m j (by omega) h1 h2,rfl⟩
 | k + 1,i,x,y,hi,hxy,hy,hm => by
   have hil : i < xs.length := by omega
   have h10 := (modesOk_facts hv).1
   have hlt : (i : Int) < (xs.length : Int) := by omega
   have hw : IntKind.i64.wrap ((i : Int) + 1) = ((i + 1 : Nat) : Int) := wsucc (by omega)
   obtain ⟨x1,y1,a1,a2,a3,a4,a5⟩ := closest_p1 xs hv i hil xs[i].1 xs[i].2.2.1 xs (xs.length : Int) i (xs.length - (i + 1)) (i + 1) x y (by omega) (by omega) hxy hy
   obtain ⟨x2,y2,b1,b2,b3,b4⟩ := closest_p0 xs hv k (i + 1) x1 y1 (by omega) a1 a2 fun m j h1 h2 h3 => by
    by_cases he : m = i
    ·subst he; exact a4 j (by omega) h3
    ·exact Int.le_trans a3 (hm m j (by omega) h2 h3)
   refine ⟨x2,y2,b1,b2,b3,?_⟩
   rw [impl_ClosestModes_p0_eq]
   simp only [hlt,decide_true,if_true,Int.natCast_nonneg,Int.toNat_natCast,getElem?_lt hil,Option.bind_some,hw,tn_at hil]
   rw [a5,hw,b4]
theorem absI_sym (a b : Int) : absI (a - b) = absI (b - a) := by unfold absI; split <;> split <;> omega
theorem closest_ok (xs : List T_Mode.ty) (h : ModesSm xs) : ∃ x y e,impl_ClosestModes xs = some (x,y,e) ∧ (e = 0 → modesOk xs = true ∧ ∃ i j : Nat,x = (i : Int) ∧ y = (j : Int) ∧ i < j ∧ j < xs.length ∧ ∀ m j',m < j' → j' < xs.length → absI (tn xs i - tn xs j) ≤ absI (tn xs m - tn xs j')) := by
 rw [impl_ClosestModes_eq,valid_ok xs h]
 simp only [Option.bind_some]
 cases e1 : modesOk xs
 ·exact ⟨_,_,_,rfl,fun h => by simp at h⟩
 simp only [Bool.not_true,Bool.false_eq_true,if_false,decide_eq_true_eq]
 by_cases hl : (xs.length : Int) < 2
 ·simp only [hl,if_true]
  exact ⟨_,_,_,rfl,fun h => by simp at h⟩
 simp only [hl,if_false]
 obtain ⟨i,j,a1,a2,a3,a4⟩ := closest_p0 xs e1 xs.length 0 0 1 (by omega) (by omega) (by omega) fun m j h1 => by omega
 exact ⟨_,_,_,a4,fun _ => ⟨trivial,i,j,rfl,rfl,a1,a2,a3⟩⟩
def shiftM (s : Int) (x : T_Mode.ty) : T_Mode.ty := (x.1,rdivP (x.2.1 * s) 1000,x.2.2.1,())
theorem mclone_ok (xs : List T_Mode.ty) (h : xs.length ≤ 1048576) : impl_clone_impl_Mode_ xs = some xs := by
 rw [impl_clone_impl_Mode__eq]
 have h1 : xs.length < lim := by rw [lim_eq]; omega
 simp [h1]
theorem shift_p0 (xs : List T_Mode.ty) (s : Int) (hs : 1 ≤ s ∧ s ≤ 3000) (hv : modesOk xs = true) (h : ModesSm xs) : ∀ (k i : Nat) (r : List T_Mode.ty),i + k = xs.length → r = (xs.take i).map (shiftM s) ++ xs.drop i →
 impl_ShiftModes_p0 s xs.length (xs.length : Int) i r = (impl_ValidModes (xs.map (shiftM s))).bind fun x => if (!x) = true then some ([],6) else some (xs.map (shiftM s),0)
 | 0,i,r,hi,hr => by
   obtain rfl : i = xs.length := by omega
   have : ¬ (xs.length : Int) < (xs.length : Int) := by omega
   have hr' : r = xs.map (shiftM s) := by rw [hr]; simp
   have hl : r.take xs.length = xs.map (shiftM s) := by rw [hr',List.take_of_length_le (by simp)]
   rw [impl_ShiftModes_p0_eq]
   simp only [this,decide_false,Bool.false_eq_true,if_false,hl]
 | k + 1,i,r,hi,hr => by
   have hil : i < xs.length := by omega
   have h10 := (modesOk_facts hv).1
   have hlt : (i : Int) < (xs.length : Int) := by omega
   have hw : IntKind.i64.wrap ((i : Int) + 1) = ((i + 1 : Nat) : Int) := wsucc (by omega)
   have ht : ((xs.take i).map (shiftM s)).length = i := by simp; omega
   have hg : r[i]? = some xs[i] := by
    rw [hr,List.getElem?_append_right (by omega),ht,Nat.sub_self,List.getElem?_drop]
    simp [hil]
   have hb := modesOk_at hv hil
   have hmul : 0 ≤ tn xs i * s ∧ tn xs i * s ≤ 300000000 := by
    have h1 : 0 ≤ tn xs i * s := Int.mul_nonneg (by omega) (by omega)
    have h2 : tn xs i * s ≤ tn xs i * 3000 := Int.mul_le_mul_of_nonneg_left hs.2 (by omega)
    omega
   rw [impl_ShiftModes_p0_eq]
   simp only [hlt,decide_true,if_true,Int.natCast_nonneg,Int.toNat_natCast,Bool.and_self,hg,Option.bind_some,hw]
   rw [tn_at hil,w64 (n := tn xs i * s) (by omega) (by omega),impl_divRound_ok (tn xs i * s) 1000 (by omega) (by omega),Option.bind_some]
   refine shift_p0 xs s hs hv h k (i + 1) _ (by omega) ?_
   have hset : ((xs.take i).map (shiftM s) ++ xs.drop i).set i (shiftM s xs[i]) = (xs.take (i + 1)).map (shiftM s) ++ xs.drop (i + 1) := by
    rw [drop_cons hil,List.take_succ_eq_append_getElem hil,List.map_append]
    refine (List.set_append_right i (shiftM s xs[i]) (by omega)).trans ?_
    rw [ht,Nat.sub_self,List.set_cons_zero,List.append_assoc]
    rfl
   rw [hr]
   have : (xs[i].1,rdivP (tn xs i * s) 1000,xs[i].2.2.1,()) = shiftM s xs[i] := by unfold shiftM; rw [tn_at hil]
   rw [this,hset]
theorem shift_ok (xs : List T_Mode.ty) (s : Int) (h : ModesSm xs) : ∃ ys e,impl_ShiftModes xs s = some (ys,e) ∧ (e = 0 → modesOk xs = true ∧ 1 ≤ s ∧ s ≤ 3000 ∧ ys = xs.map (shiftM s) ∧ modesOk ys = true) ∧ (e ≠ 0 → ys = []) := by
 rw [impl_ShiftModes_eq,valid_ok xs h]
 simp only [Option.bind_some]
 cases e1 : modesOk xs
 ·exact ⟨_,_,rfl,fun h => by simp at h,fun _ => rfl⟩
 simp only [Bool.not_true,Bool.false_eq_true,if_false,impl_within_ok,Option.bind_some]
 cases e2 : inR s 1 3000
 ·exact ⟨_,_,rfl,fun h => by simp at h,fun _ => rfl⟩
 have hs := inR_iff'.1 e2
 have hl := h.1
 have hsm : ModesSm (xs.map (shiftM s)) := ⟨by simpa using hl,fun x hx => by
  obtain ⟨y,hy,rfl⟩ := List.mem_map.1 hx
  exact h.2 y hy⟩
 simp only [Bool.not_true,Bool.false_eq_true,if_false,mclone_ok xs (by omega),Option.bind_some]
 have := shift_p0 xs s hs e1 h xs.length 0 xs (by omega) (by simp)
 rw [show ((0 : Nat) : Int) = 0 from rfl] at this
 rw [this,valid_ok _ hsm,Option.bind_some]
 cases e3 : modesOk (xs.map (shiftM s))
 ·exact ⟨_,_,rfl,fun h => by simp at h,fun _ => rfl⟩
 ·exact ⟨_,_,rfl,fun _ => ⟨trivial,hs.1,hs.2,rfl,e3⟩,fun h => absurd rfl h⟩
def near (xs : List T_Mode.ty) (w : Int) (k : Nat) : Bool := xs.any fun x => decide (absI (nt k - x.2.1) ≤ w)
theorem wolf_p1 (xs : List T_Mode.ty) (hv : modesOk xs = true) (w : Int) (k : Nat) (hk : k ≤ 60) (r : List Int) (hr : r.length ≤ 60) (v18 : Int) : ∀ (m i : Nat) (b : Bool),i + m = xs.length →
 impl_WolfNotes_p1 xs w k b v18 xs (xs.length : Int) i r = if (b || (xs.drop i).any fun x => decide (absI (nt k - x.2.1) ≤ w)) = true then impl_WolfNotes_p0 xs w (IntKind.i64.wrap (v18 + 1)) (r ++ [(k : Int)]) else impl_WolfNotes_p0 xs w (IntKind.i64.wrap (v18 + 1)) r
 | 0,i,b,hi => by
   have : ¬ (i : Int) < (xs.length : Int) := by omega
   have hlim : r.length + 1 < lim := by rw [lim_eq]; omega
   rw [impl_WolfNotes_p1_eq,List.drop_of_length_le (by omega)]
   simp only [this,decide_false,Bool.false_eq_true,if_false,List.any_nil,Bool.or_false,hlim,decide_true,if_true,List.take_length]
 | m + 1,i,b,hi => by
   have hil : i < xs.length := by omega
   have h10 := (modesOk_facts hv).1
   have hlt : (i : Int) < (xs.length : Int) := by omega
   have hw : IntKind.i64.wrap ((i : Int) + 1) = ((i + 1 : Nat) : Int) := wsucc (by omega)
   have hb := modesOk_at hv hil
   have hn := nt_bd k hk
   rw [impl_WolfNotes_p1_eq,drop_cons hil]
   simp only [hlt,decide_true,if_true,Int.natCast_nonneg,Int.toNat_natCast,getElem?_lt hil,Option.bind_some,hw,List.any_cons,tn_at hil,impl_noteTone_ok k hk,impl_distance_ok (nt k) (tn xs i) (by omega) (by omega)]
   cases b
   ·simp only [Bool.false_eq_true,if_false,Bool.false_or]
    rw [wolf_p1 xs hv w k hk r hr v18 m (i + 1) _ (by omega)]
   ·simp only [if_true,Bool.true_or]
    rw [wolf_p1 xs hv w k hk r hr v18 m (i + 1) _ (by omega)]
    simp only [Bool.true_or,if_true]
theorem wolf_p0 (xs : List T_Mode.ty) (hv : modesOk xs = true) (w : Int) : ∀ (m k : Nat),k + m = 61 → impl_WolfNotes_p0 xs w k (idx (near xs w) k) = some (idx (near xs w) 61,0)
 | 0,k,hk => by
   obtain rfl : k = 61 := by omega
   rw [impl_WolfNotes_p0_eq]
   simp
 | m + 1,k,hk => by
   have hlt : (k : Int) < 61 := by omega
   have hl := idx_len (near xs w) k
   have hw : IntKind.i64.wrap ((k : Int) + 1) = ((k + 1 : Nat) : Int) := wsucc (by omega)
   have e := wolf_p1 xs hv w k (by omega) (idx (near xs w) k) (by omega) k xs.length 0 false (by omega)
   rw [show ((0 : Nat) : Int) = 0 from rfl,List.drop_zero,Bool.false_or] at e
   rw [impl_WolfNotes_p0_eq]
   simp only [hlt,decide_true,if_true]
   rw [e,hw]
   have hn : (xs.any fun x => decide (absI (nt k - x.2.1) ≤ w)) = near xs w k := rfl
   have ih := wolf_p0 xs hv w m (k + 1) (by omega)
   rw [idx_succ] at ih
   rw [hn]
   cases hb : near xs w k
   ·rw [hb] at ih
    simp only [Bool.false_eq_true,if_false,List.append_nil] at ih ⊢
    exact ih
   ·rw [hb] at ih
    simp only [if_true] at ih ⊢
    exact ih
theorem wolf_ok (xs : List T_Mode.ty) (w : Int) (h : ModesSm xs) : ∃ ks e,impl_WolfNotes xs w = some (ks,e) ∧ (e = 0 → modesOk xs = true ∧ ks = idx (near xs w) 61) ∧ (e ≠ 0 → ks = []) := by
 rw [impl_WolfNotes_eq,valid_ok xs h]
 simp only [Option.bind_some]
 cases e1 : modesOk xs
 ·exact ⟨_,_,rfl,fun h => by simp at h,fun _ => rfl⟩
 simp only [Bool.not_true,Bool.false_eq_true,if_false,impl_within_ok,Option.bind_some]
 cases e2 : inR w 0 1000
 ·exact ⟨_,_,rfl,fun h => by simp at h,fun _ => rfl⟩
 simp only [Bool.not_true,Bool.false_eq_true,if_false]
 have := wolf_p0 xs e1 w 61 0 (by omega)
 exact ⟨_,_,this,fun _ => ⟨trivial,rfl⟩,fun h => absurd rfl h⟩
theorem law_p13 (xs : List T_Mode.ty) (hv : modesOk xs = true) (w : Int) (k : Nat) (hk : k ≤ 60) : ∀ (m i : Nat) (b : Bool),i + m = xs.length →
 laws_FnModes_p13 w k (nt k) 0 b i xs (idx (near xs w) 61) = if (decide ((k : Int) ∈ idx (near xs w) 61) == (b || (xs.drop i).any fun x => decide (absI (nt k - x.2.1) ≤ w))) = true then laws_FnModes_p12 w ((k + 1 : Nat) : Int) xs (idx (near xs w) 61) else some false
 | 0,i,b,hi => by
   have : ¬ (i : Int) < (xs.length : Int) := by omega
   have hl := idx_len (near xs w) 61
   have hw : IntKind.i64.wrap ((k : Int) + 1) = ((k + 1 : Nat) : Int) := wsucc (by omega)
   rw [laws_FnModes_p13_eq,List.drop_of_length_le (by omega)]
   simp only [this,decide_false,Bool.false_eq_true,if_false,List.any_nil,Bool.or_false,bne_self_eq_false,List.take_length,laws_b10Has_ok _ _ (show (idx (near xs w) 61).length ≤ 1099511627776 by omega),Option.bind_some,hw]
   cases (decide ((k : Int) ∈ idx (near xs w) 61) == b) <;> rfl
 | m + 1,i,b,hi => by
   have hil : i < xs.length := by omega
   have h10 := (modesOk_facts hv).1
   have hlt : (i : Int) < (xs.length : Int) := by omega
   have hw : IntKind.i64.wrap ((i : Int) + 1) = ((i + 1 : Nat) : Int) := wsucc (by omega)
   have hb := modesOk_at hv hil
   have hn := nt_bd k hk
   rw [laws_FnModes_p13_eq,drop_cons hil]
   simp only [hlt,decide_true,if_true,Int.natCast_nonneg,Int.toNat_natCast,getElem?_lt hil,Option.bind_some,hw,List.any_cons,tn_at hil,Bool.and_self,w64 (n := nt k - tn xs i) (by omega) (by omega),laws_b10Abs_ok (nt k - tn xs i) (by omega)]
   cases b
   ·simp only [Bool.false_eq_true,if_false,Bool.false_or]
    rw [law_p13 xs hv w k hk m (i + 1) _ (by omega)]
   ·simp only [if_true,Bool.true_or]
    rw [law_p13 xs hv w k hk m (i + 1) _ (by omega)]
    simp only [Bool.true_or]
theorem law_p12 (xs : List T_Mode.ty) (hv : modesOk xs = true) (w : Int) : ∀ (m k : Nat),k + m = 61 → laws_FnModes_p12 w k xs (idx (near xs w) 61) = some true
 | 0,k,hk => by
   obtain rfl : k = 61 := by omega
   rw [laws_FnModes_p12_eq]; rfl
 | m + 1,k,hk => by
   have hle : (k : Int) ≤ 60 := by omega
   have e := law_p13 xs hv w k (by omega) xs.length 0 false (by omega)
   rw [show ((0 : Nat) : Int) = 0 from rfl,List.drop_zero,Bool.false_or] at e
   have hd : decide ((k : Int) ∈ idx (near xs w) 61) = near xs w k := by
    rw [Bool.eq_iff_iff,decide_eq_true_eq,idx_mem]
    exact ⟨fun h => h.2,fun h => ⟨by omega,h⟩⟩
   have hn : (xs.any fun x => decide (absI (nt k - x.2.1) ≤ w)) = near xs w k := rfl
   rw [laws_FnModes_p12_eq]
   simp only [hle,decide_true,if_true,spec_NoteTone_ok k (by omega),Option.bind_some]
   rw [e,hd,hn,beq_self_eq_true,if_pos rfl]
   exact law_p12 xs hv w m (k + 1) (by omega)
theorem law_p9 (v1 : List Int) (h1 : ∀ x,x ∈ v1 → 0 ≤ x ∧ x ≤ 255) (h2 : v1.length ≤ 1048576) : laws_FnModes_p9 v1 = some true := by
 obtain ⟨s,e0,k0⟩ := from_ok v1 h1 h2
 obtain ⟨xs,s1,e1,k1,m1⟩ := mode_draw k0 1000 (by omega) (by omega)
 obtain ⟨w,s2,e2,k2,m2⟩ := among_ok k1 (by omega) [0,5,20,90,1000,1001,(-1)] (by decide) (by decide)
 obtain ⟨ks,e,f1,f2,f3⟩ := wolf_ok xs w m1
 rw [laws_FnModes_p9_eq,spec_DrawWolfNotes_eq,e0]
 simp only [Option.bind_some,src_eta,e1,e2,List.take_length,f1]
 by_cases he : e = 0
 ·obtain ⟨g1,g2⟩ := f2 he
  subst he
  subst g2
  simp only [bne_self_eq_false,Bool.false_eq_true,if_false]
  exact law_p12 xs g1 w 61 0 (by omega)
 ·have he' : (e != 0) = true := by simpa using he
  rw [f3 he]
  simp only [he',if_true]
  rfl
theorem law_p11 (v1 : List Int) (h1 : ∀ x,x ∈ v1 → 0 ≤ x ∧ x ≤ 255) (h2 : v1.length ≤ 1048576) (xs : List T_Mode.ty) (hv : modesOk xs = true) (s : Int) (hs : 1 ≤ s ∧ s ≤ 3000) (hv' : modesOk (xs.map (shiftM s)) = true) : ∀ (k i : Nat),i + k = xs.length → laws_FnModes_p11 v1 s i xs (xs.map (shiftM s)) = some true
 | 0,i,hi => by
   have : ¬ (i : Int) < (xs.length : Int) := by omega
   rw [laws_FnModes_p11_eq]
   simp only [this,decide_false,Bool.false_eq_true,if_false]
   exact law_p9 v1 h1 h2
 | k + 1,i,hi => by
   have hil : i < xs.length := by omega
   have h10 := (modesOk_facts hv).1
   have hlt : (i : Int) < (xs.length : Int) := by omega
   have hw : IntKind.i64.wrap ((i : Int) + 1) = ((i + 1 : Nat) : Int) := wsucc (by omega)
   have hb := modesOk_at hv hil
   have hg : (xs.map (shiftM s))[i]? = some (shiftM s xs[i]) := by rw [List.getElem?_map,getElem?_lt hil]; rfl
   have hmul : 0 ≤ tn xs i * s ∧ tn xs i * s ≤ 300000000 := by
    have h1 : 0 ≤ tn xs i * s := Int.mul_nonneg (by omega) (by omega)
    have h2 : tn xs i * s ≤ tn xs i * 3000 := Int.mul_le_mul_of_nonneg_left hs.2 (by omega)
    omega
   have hr := rdivP_bd (a := tn xs i * s) (b := 1000) (m := 300000000) (by omega) (by omega)
   have her := rdivP_err (a := tn xs i * s) (b := 1000) (by omega)
   have e1 : IntKind.i64.wrap (IntKind.i64.wrap (1000 * (shiftM s xs[i]).2.1) - IntKind.i64.wrap (xs[i].2.1 * s)) = rdivP (tn xs i * s) 1000 * 1000 - tn xs i * s := by
    show IntKind.i64.wrap (IntKind.i64.wrap (1000 * rdivP (xs[i].2.1 * s) 1000) - IntKind.i64.wrap (xs[i].2.1 * s)) = _
    rw [tn_at hil,w64 (n := tn xs i * s) (by omega) (by omega),w64 (n := 1000 * rdivP (tn xs i * s) 1000) (by omega) (by omega),w64 (by omega) (by omega)]
    omega
   have hab := absI_bd (n := rdivP (tn xs i * s) 1000 * 1000 - tn xs i * s) (b := 1000000000000) (by omega)
   have hab' : absI (rdivP (tn xs i * s) 1000 * 1000 - tn xs i * s) ≤ 500 := by omega
   have hnot : ¬ 2 * absI (rdivP (tn xs i * s) 1000 * 1000 - tn xs i * s) > 1000 := by omega
   have hln : (i : Int) < ((xs.map (shiftM s)).length : Int) := by rw [List.length_map]; exact hlt
   have i1 : (shiftM s xs[i]).1 = xs[i].1 := rfl
   have i2 : (shiftM s xs[i]).2.2.1 = xs[i].2.2.1 := rfl
   rw [laws_FnModes_p11_eq]
   simp only [hlt,hln,decide_true,if_true,Int.natCast_nonneg,Int.toNat_natCast,Bool.and_self,hg,getElem?_lt hil,Option.bind_some,hw,e1,laws_b10Abs_ok (rdivP (tn xs i * s) 1000 * 1000 - tn xs i * s) (by omega),w64 (n := 2 * absI (rdivP (tn xs i * s) 1000 * 1000 - tn xs i * s)) (by omega) (by omega),hnot,decide_false,Bool.false_eq_true,if_false,i1,i2,beq_self_eq_true,Bool.not_true,bne_self_eq_false]
   exact law_p11 v1 h1 h2 xs hv s hs hv' k (i + 1) (by omega)
theorem law_p5 (v0 v1 : List Int) (h0 : ∀ x,x ∈ v0 → 0 ≤ x ∧ x ≤ 255) (h0l : v0.length ≤ 1048576) (h1 : ∀ x,x ∈ v1 → 0 ≤ x ∧ x ≤ 255) (h2 : v1.length ≤ 1048576) : laws_FnModes_p5 v0 v1 = some true := by
 obtain ⟨s,e0,k0⟩ := from_ok v0 h0 h0l
 obtain ⟨xs,s1,e1,k1,m1⟩ := mode_draw k0 1000 (by omega) (by omega)
 obtain ⟨w,s2,e2,k2,m2⟩ := among_ok k1 (by omega) [0,1,700,950,1000,1060,3000,3001] (by decide) (by decide)
 obtain ⟨ys,e,f1,f2,f3⟩ := shift_ok xs w m1
 rw [laws_FnModes_p5_eq,spec_DrawShiftModes_eq,e0]
 simp only [Option.bind_some,src_eta,e1,e2,List.take_length,f1]
 by_cases he : e = 0
 ·obtain ⟨g1,g2,g3,g4,g5⟩ := f2 he
  subst he
  subst g4
  have hl : (((xs.map (shiftM w)).length : Int) != (xs.length : Int)) = false := by simp
  have hsv : spec_ValidModes (xs.map (shiftM w)) = some true := by
   rw [spec_ValidModes_eq,spec_l16Ok_ok _ (by have := m1.1; simpa using by omega) fun x hx => by
    obtain ⟨y,hy,rfl⟩ := List.mem_map.1 hx
    have := m1.2 y hy
    unfold ModeSm at this
    show y.1.length ≤ 1048576
    omega,g5]
   rfl
  simp only [beq_self_eq_true,if_true,hl,Bool.false_eq_true,if_false,hsv,Option.bind_some,Bool.not_true,laws_FnModes_p8_eq]
  exact law_p11 v1 h1 h2 xs g1 w ⟨g2,g3⟩ g5 xs.length 0 (by omega)
 ·have he' : (e == 0) = false := by simpa using he
  rw [f3 he]
  simp only [he',Bool.false_eq_true,if_false,List.length_nil]
  exact law_p9 v1 h1 h2
theorem law_p10 (v0 v1 : List Int) (xs : List T_Mode.ty) (hv : modesOk xs = true) (x y : Nat) (hxy : x < y) (hy : y < xs.length) (hm : ∀ m j,m < j → j < xs.length → absI (tn xs x - tn xs y) ≤ absI (tn xs m - tn xs j)) (i : Nat) (hi : i < xs.length) : ∀ (k j : Nat),j + k = i →
 laws_FnModes_p10 v0 v1 x y i j xs = laws_FnModes_p7 v0 v1 x y ((i + 1 : Nat) : Int) xs
 | 0,j,hj => by
   have : ¬ (j : Int) < (i : Int) := by omega
   have h10 := (modesOk_facts hv).1
   rw [laws_FnModes_p10_eq]
   simp only [this,decide_false,Bool.false_eq_true,if_false,wsucc (show i < 4611686018427387904 by omega)]
 | k + 1,j,hj => by
   have h10 := (modesOk_facts hv).1
   have hji : (j : Int) < (i : Int) := by omega
   have hjl : j < xs.length := by omega
   have hxl : x < xs.length := by omega
   have c1 : (i : Int) < (xs.length : Int) := by omega
   have c2 : (j : Int) < (xs.length : Int) := by omega
   have c3 : (x : Int) < (xs.length : Int) := by omega
   have c4 : (y : Int) < (xs.length : Int) := by omega
   have t1 := modesOk_at hv hi
   have t2 := modesOk_at hv hjl
   have t3 := modesOk_at hv hxl
   have t4 := modesOk_at hv hy
   have hmm := hm j i (by omega) hi
   rw [absI_sym (tn xs j) (tn xs i)] at hmm
   have hn : ¬ absI (tn xs i - tn xs j) < absI (tn xs x - tn xs y) := by omega
   rw [laws_FnModes_p10_eq]
   simp only [hji,c1,c2,c3,c4,decide_true,if_true,Int.natCast_nonneg,Int.toNat_natCast,Bool.and_self,getElem?_lt hi,getElem?_lt hjl,getElem?_lt hxl,getElem?_lt hy,Option.bind_some,tn_at hi,tn_at hjl,tn_at hxl,tn_at hy,w64 (n := tn xs i - tn xs j) (by omega) (by omega),w64 (n := tn xs x - tn xs y) (by omega) (by omega),laws_b10Abs_ok (tn xs i - tn xs j) (by omega),laws_b10Abs_ok (tn xs x - tn xs y) (by omega),hn,decide_false,Bool.false_eq_true,if_false,wsucc (show j < 4611686018427387904 by omega)]
   exact law_p10 v0 v1 xs hv x y hxy hy hm i hi k (j + 1) (by omega)
theorem law_p7 (v0 v1 : List Int) (h0 : ∀ x,x ∈ v0 → 0 ≤ x ∧ x ≤ 255) (h0l : v0.length ≤ 1048576) (h1 : ∀ x,x ∈ v1 → 0 ≤ x ∧ x ≤ 255) (h2 : v1.length ≤ 1048576) (xs : List T_Mode.ty) (hv : modesOk xs = true) (x y : Nat) (hxy : x < y) (hy : y < xs.length) (hm : ∀ m j,m < j → j < xs.length → absI (tn xs x - tn xs y) ≤ absI (tn xs m - tn xs j)) : ∀ (k i : Nat),i + k = xs.length →
 laws_FnModes_p7 v0 v1 x y i xs = some true
 | 0,i,hi => by
   have : ¬ (i : Int) < (xs.length : Int) := by omega
   rw [laws_FnModes_p7_eq]
   simp only [this,decide_false,Bool.false_eq_true,if_false]
   exact law_p5 v0 v1 h0 h0l h1 h2
 | k + 1,i,hi => by
   have hil : i < xs.length := by omega
   have hlt : (i : Int) < (xs.length : Int) := by omega
   rw [laws_FnModes_p7_eq]
   simp only [hlt,decide_true,if_true]
   have e := law_p10 v0 v1 xs hv x y hxy hy hm i hil i 0 (by omega)
   rw [show ((0 : Nat) : Int) = 0 from rfl] at e
   rw [e]
   exact law_p7 v0 v1 h0 h0l h1 h2 xs hv x y hxy hy hm k (i + 1) (by omega)
theorem law_p2 (v0 v1 : List Int) (h0 : ∀ x,x ∈ v0 → 0 ≤ x ∧ x ≤ 255) (h0l : v0.length ≤ 1048576) (h1 : ∀ x,x ∈ v1 → 0 ≤ x ∧ x ≤ 255) (h2 : v1.length ≤ 1048576) : laws_FnModes_p2 v0 v1 = some true := by
 obtain ⟨s,e0,k0⟩ := from_ok v1 h1 h2
 obtain ⟨xs,s1,e1,k1,m1⟩ := mode_draw k0 1000 (by omega) (by omega)
 obtain ⟨x,y,e,f1,f2⟩ := closest_ok xs m1
 rw [laws_FnModes_p2_eq,spec_DrawClosestModes_eq,e0]
 simp only [Option.bind_some,src_eta,e1,List.take_length,f1]
 by_cases he : e = 0
 ·obtain ⟨g1,i,j,rfl,rfl,g2,g3,g4⟩ := f2 he
  subst he
  have c1 : ¬ (i : Int) < 0 := by omega
  have c2 : ¬ (i : Int) ≥ (j : Int) := by omega
  have c3 : ¬ (j : Int) ≥ (xs.length : Int) := by omega
  simp only [beq_self_eq_true,if_true,c1,c2,c3,decide_false,Bool.false_eq_true,if_false,laws_FnModes_p4_eq]
  exact law_p7 v0 v1 h0 h0l h1 h2 xs g1 i j g2 g3 g4 xs.length 0 (by omega)
 ·have he' : (e == 0) = false := by simpa using he
  simp only [he',Bool.false_eq_true,if_false]
  exact law_p5 v0 v1 h0 h0l h1 h2
theorem mcost_take {a b : List T_Mode.ty} {g : List Int} {i : Nat} (h : i < g.length) : mcost a b 0 (g.take (i + 1)) = mcost a b 0 (g.take i) + absI (tn a i - tn b g[i].toNat) := by
 rw [List.take_succ_eq_append_getElem h,mcost_app,Nat.zero_add,List.length_take,Nat.min_eq_left (by omega)]
theorem first_at {n i : Nat} (h : i < n) : (first n)[i]'(by simpa [first] using h) = (i : Int) := by simp [first]
theorem law_p3 (v0 v1 : List Int) (h0 : ∀ x,x ∈ v0 → 0 ≤ x ∧ x ≤ 255) (h0l : v0.length ≤ 1048576) (h1 : ∀ x,x ∈ v1 → 0 ≤ x ∧ x ≤ 255) (h2 : v1.length ≤ 1048576) (a b : List T_Mode.ty) (ha : modesOk a = true) (hb : modesOk b = true) (hab : a.length ≤ b.length) (g : List Int) (hg : Comp a b g) (hle : mcost a b 0 g ≤ mcost a b 0 (first a.length)) : ∀ (k i : Nat),i + k = a.length →
 laws_FnModes_p3 v0 v1 a b g (mcost a b 0 g) (mcost a b 0 (g.take i)) (mcost a b 0 ((first a.length).take i)) i = some true
 | 0,i,hi => by
   obtain rfl : i = a.length := by omega
   have hgl := hg.1
   have hfl : (first a.length).length = a.length := by simp [first]
   have : ¬ (a.length : Int) < (g.length : Int) := by omega
   have hn : ¬ mcost a b 0 g > mcost a b 0 (first a.length) := by omega
   have e1 : g.take a.length = g := List.take_of_length_le (by omega)
   have e2 : (first a.length).take a.length = first a.length := List.take_of_length_le (by omega)
   rw [laws_FnModes_p3_eq,e1,e2]
   simp only [this,decide_false,Bool.false_eq_true,if_false,bne_self_eq_false,hn]
   exact law_p2 v0 v1 h0 h0l h1 h2
 | k + 1,i,hi => by
   have hgl := hg.1
   have hil : i < g.length := by omega
   have hia : i < a.length := by omega
   have hib : i < b.length := by omega
   have hlt : (i : Int) < (g.length : Int) := by omega
   have hle' : (i : Int) ≤ (g.length : Int) := by omega
   obtain ⟨la,ta⟩ := modesOk_facts ha
   obtain ⟨lb,tb⟩ := modesOk_facts hb
   have hx := hg.2.2 g[i] (List.getElem_mem hil)
   have hxb : g[i].toNat < b.length := by omega
   have hnl : ¬ g[i] < 0 := by omega
   have hng : ¬ g[i] ≥ (b.length : Int) := by omega
   have hmem : decide (g[i] ∈ g.take i) = false := by
    rw [decide_eq_false_iff_not]
    intro h
    obtain ⟨j,hj,he⟩ := List.getElem_of_mem h
    rw [List.length_take] at hj
    rw [List.getElem_take] at he
    have := (List.getElem_inj hg.2.1).1 he
    omega
   have h1' := ta i
   have h2' := tb g[i].toNat
   have h3' := tb i
   have b1 := mcost_bd ta tb (g.take i) 0
   have b2 := mcost_bd ta tb ((first a.length).take i) 0
   rw [List.length_take] at b1 b2
   have hfl : (first a.length).length = a.length := by simp [first]
   have d1 := absI_bd (n := tn a i - tn b g[i].toNat) (b := 100000) (by omega)
   have d2 := absI_bd (n := tn a i - tn b i) (b := 100000) (by omega)
   have s1 : IntKind.i64.wrap (mcost a b 0 (g.take i) + absI (tn a i - tn b g[i].toNat)) = mcost a b 0 (g.take (i + 1)) := by
    rw [mcost_take hil,w64 (by omega) (by omega)]
   have s2 : IntKind.i64.wrap (mcost a b 0 ((first a.length).take i) + absI (tn a i - tn b i)) = mcost a b 0 ((first a.length).take (i + 1)) := by
    rw [mcost_take (g := first a.length) (by omega),first_at hia,Int.toNat_natCast,w64 (by omega) (by omega)]
   have ih := law_p3 v0 v1 h0 h0l h1 h2 a b ha hb hab g hg hle k (i + 1) (by omega)
   rw [laws_FnModes_p3_eq]
   simp only [hlt,hle',decide_true,if_true,Int.natCast_nonneg,Int.toNat_natCast,Bool.and_self,getElem?_lt hil,Option.bind_some,hnl,hng,decide_false,Bool.false_eq_true,if_false,laws_b10Has_ok (g.take i) g[i] (by rw [List.length_take]; omega),hmem,laws_FnModes_p6_eq,getElem?_lt hia,hx.1,getElem?_lt hxb,getElem?_lt hib,tn_at hia,tn_at hxb,tn_at hib,w64 (n := tn a i - tn b g[i].toNat) (by omega) (by omega),w64 (n := tn a i - tn b i) (by omega) (by omega),laws_b10Abs_ok (tn a i - tn b g[i].toNat) (by omega),laws_b10Abs_ok (tn a i - tn b i) (by omega),s1,s2,wsucc (show i < 4611686018427387904 by omega)]
   exact ih
theorem law_core (v0 v1 : List Int) (h0 : ∀ x,x ∈ v0 → 0 ≤ x ∧ x ≤ 255) (h1 : ∀ x,x ∈ v1 → 0 ≤ x ∧ x ≤ 255) : laws_FnModes v0 v1 = some true := by
 rw [laws_FnModes_eq,laws_b10Long_eq,laws_b10Long_eq]
 simp only [Option.bind_some,decide_eq_true_eq]
 by_cases c1 : (v0.length : Int) > 1048576
 ·simp [c1]
 by_cases c2 : (v1.length : Int) > 1048576
 ·simp [c2]
 simp only [c1,c2,if_false]
 obtain ⟨s,e0,k0⟩ := from_ok v0 h0 (by omega)
 obtain ⟨a,s1,e1,k1,m1⟩ := mode_draw k0 1000 (by omega) (by omega)
 obtain ⟨b,s2,e2,k2,m2⟩ := mode_draw k1 2000 (by omega) (by omega)
 obtain ⟨n,s3,e3,k3,m3⟩ := among_ok k2 (by omega) [1,10,100,1000,20000,0,20001] (by decide) (by decide)
 obtain ⟨g,c,e,f1,f2,f3⟩ := match_ok a b n m1 m2
 rw [laws_FnModes_p0_eq,spec_DrawMatchModes_eq,e0]
 simp only [Option.bind_some,src_eta,e1,e2,spec_l06DrawBudget_eq,e3,List.take_length,f1]
 by_cases he : e = 0
 ·obtain ⟨g1,g2,g3,g4,g5,g6⟩ := f2 he
  subst he
  subst g5
  have hgl := g4.1
  have d1 : ((g.length : Int) != (a.length : Int)) = false := by simp; omega
  have d2 : ¬ (b.length : Int) < (a.length : Int) := by omega
  simp only [beq_self_eq_true,if_true,d1,d2,decide_false,Bool.false_eq_true,if_false,laws_FnModes_p1_eq]
  exact law_p3 v0 v1 h0 (by omega) h1 (by omega) a b g1 g2 g3 g g4 g6 a.length 0 (by omega)
 ·obtain ⟨rfl,rfl⟩ := f3 he
  have he' : (e == 0) = false := by simpa using he
  simp only [he',Bool.false_eq_true,if_false,List.length_nil]
  exact law_p2 v0 v1 h0 (by omega) h1 (by omega)
theorem laws_FnModes_true (code more : List Int) (h : CT.wf (.sl (.one (.int .u8))) code) (h' : CT.wf (.sl (.one (.int .u8))) more) : laws_FnModes code more = some true :=
 law_core code more (bytes_ok h) (bytes_ok h')
end Go.Ab.P
