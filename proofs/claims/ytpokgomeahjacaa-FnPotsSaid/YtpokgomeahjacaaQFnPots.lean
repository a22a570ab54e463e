/- Glued joints use no more than there is, mixed pots hold both, and the first pot that holds is told. Conditions: the arguments are bytes. -/
import Derived.Test.YtpokgomeahjacaaBFnPots
set_option linter.unusedVariables false
set_option linter.unusedSimpArgs false
namespace Go.Ab.P
open Go.Ab
def cntX (x : T_Pot.ty) : Int := (x.2.1 : Int) + x.2.2.1
def strX (x : T_Pot.ty) : Int := potStrong x.2.1 x.2.2.1 x.2.2.2.1 x.2.2.2.2.1
def cnt (ps : List T_Pot.ty) (k : Nat) : Int := ((ps[k]?).map cntX).getD 0
def str (ps : List T_Pot.ty) (k : Nat) : Int := ((ps[k]?).map strX).getD 0
theorem cnt_at {ps : List T_Pot.ty} {k : Nat} (h : k < ps.length) : cnt ps k = cntX ps[k] := by simp [cnt,h]
theorem str_at {ps : List T_Pot.ty} {k : Nat} (h : k < ps.length) : str ps k = strX ps[k] := by simp [str,h]
theorem pot_facts {x : T_Pot.ty} (h : potOkT x = true) : (2 ≤ cntX x ∧ cntX x ≤ 20000) ∧ 0 ≤ strX x ∧ strX x ≤ 10000001 := by
 have h1 := potOk_iff.1 h
 have h2 := strong_bounds (heat := x.2.2.2.1) (hours := x.2.2.2.2.1) h1.2.1 ⟨h1.2.2.1.1,Int.le_trans h1.2.2.1.2 (by decide)⟩ h1.2.2.2.1 ⟨h1.2.2.2.2.1,Int.le_trans h1.2.2.2.2.2 (by decide)⟩
 refine ⟨?_,h2.2.2⟩
 unfold cntX
 omega
theorem strength_ok {x : T_Pot.ty} (h : potOkT x = true) : impl_Pot_strength x = some (strX x) := by
 have h1 := potOk_iff.1 h
 exact impl_Pot_strength_ok x.1 x.2.1 x.2.2.1 x.2.2.2.1 x.2.2.2.2.1 (by omega) (by omega) (by omega) (by omega)
def amt : List Int → List Int → Nat → Int
 | n :: ns,j :: g,k => (if j = (k : Int) then n else 0) + amt ns g k
 | _,_,_ => 0
theorem amt_app (j : Int) (k : Nat) : ∀ (ns g : List Int),g.length < ns.length → amt ns (g ++ [j]) k = amt ns g k + if j = (k : Int) then (ns[g.length]?).getD 0 else 0
 | [],g,h => by simp at h
 | n :: ns,[],h => by
   simp only [List.nil_append,amt,List.length_nil,List.getElem?_cons_zero,Option.getD_some]
   cases ns <;> simp [amt]
 | n :: ns,x :: g,h => by
   simp only [List.cons_append,amt,List.length_cons,List.getElem?_cons_succ,amt_app j k ns g (by simpa using h)]
   omega
theorem amt_mono (k : Nat) : ∀ (ns g t : List Int),(∀ n,n ∈ ns → 0 ≤ n) → amt ns g k ≤ amt ns (g ++ t) k
 | [],g,t,h => by cases g <;> cases t <;> simp [amt]
 | n :: ns,[],t,h => by
   simp only [List.nil_append]
   have : ∀ (ns t : List Int),(∀ n,n ∈ ns → 0 ≤ n) → 0 ≤ amt ns t k := by
    intro ns
    induction ns with
    | nil => intro t _; simp [amt]
    | cons n ns ih =>
      intro t h
      cases t with
      | nil => simp [amt]
      | cons y t =>
        have h1 := ih t fun m hm => h m (List.mem_cons_of_mem _ hm)
        have h2 := h n (by simp)
        simp only [amt]
        split <;> omega
   exact this (n :: ns) t h
 | n :: ns,x :: g,t,h => by
   have := amt_mono k ns g t fun m hm => h m (List.mem_cons_of_mem _ hm)
   simp only [List.cons_append,amt]
   omega
def sc (ps : List T_Pot.ty) : List Int → Int
 | [] => 0
 | j :: g => str ps j.toNat + sc ps g
theorem sc_app (ps : List T_Pot.ty) (j : Int) : ∀ g,sc ps (g ++ [j]) = sc ps g + str ps j.toNat
 | [] => by simp [sc]
 | x :: g => by simp only [List.cons_append,sc,sc_app ps j g]; omega
theorem sc_bd {ps : List T_Pot.ty} (h : ∀ k,0 ≤ str ps k ∧ str ps k ≤ 10000001) : ∀ g,0 ≤ sc ps g ∧ sc ps g ≤ 10000001 * g.length
 | [] => by simp [sc]
 | x :: g => by
   have h1 := sc_bd h g
   have h2 := h x.toNat
   simp only [sc,List.length_cons]
   omega
def Fit (ps : List T_Pot.ty) (ns g : List Int) : Prop := g.length = ns.length ∧ (∀ x ∈ g,0 ≤ x ∧ x < (ps.length : Int)) ∧ ∀ k,k < ps.length → amt ns g k ≤ cnt ps k
def GPost (ps : List T_Pot.ty) (ns rest : List Int) (given : List Int) (left most : Int) (found : Bool) (Q : List Int → Prop) (r : Bool × T_gluingO.ty) : Prop :=
 ∃ (left' : Int) (best' : List Int) (most' : Int) (found' : Bool),r.2 = (ps,ns,rest,left',given,sc ps given,best',most',found',()) ∧ 0 ≤ left' ∧ left' ≤ left ∧ (found' = true → Fit ps ns best' ∧ most' = sc ps best') ∧
   (found = true → found' = true ∧ most ≤ most') ∧ (r.1 = true → ∀ g,Fit ps ns g → Q g → found' = true ∧ sc ps g ≤ most')
structure GInv (ps : List T_Pot.ty) (ns rest given : List Int) (left : Int) (best : List Int) (most : Int) (found : Bool) : Prop where
 ul : rest.length = ps.length
 us : ∀ k,k < ps.length → rest[k]? = some (cnt ps k - amt ns given k)
 ok : ∀ k,k < ps.length → amt ns given k ≤ cnt ps k
 rg : ∀ x ∈ given,0 ≤ x ∧ x < (ps.length : Int)
 l0 : 0 ≤ left
 l1 : left ≤ 20000
 bo : found = true → Fit ps ns best ∧ most = sc ps best
theorem search_ok (ps : List T_Pot.ty) (ns : List Int) (hpl : ps.length ≤ 8) (hnl : ns.length ≤ 10) (hp : ∀ x,x ∈ ps → potOkT x = true) (hn : ∀ n,n ∈ ns → 1 ≤ n ∧ n ≤ 10000) : ∀ (d n : Nat),d < n → ∀ (rest given : List Int) (left : Int) (best : List Int) (most : Int) (found : Bool),
 GInv ps ns rest given left best most found → given.length + d = ns.length → ∃ r,impl_gluing_search n (ps,ns,rest,left,given,sc ps given,best,most,found,()) = some r ∧ GPost ps ns rest given left most found (fun g => given <+: g) r
 | 0,n + 1,_,rest,given,left,best,most,found,hi,hd => by
   have hgl : ((given.length : Int) == (ns.length : Int)) = true := by simp; omega
   have hc := impl_clone_int64__ok given (by omega)
   rw [impl_gluing_search_eq]
   simp only [hgl,if_true,impl_gluing_search_p0_eq,List.take_length,hc,Option.bind_some]
   have fin : ∀ g,Fit ps ns g → given <+: g → g = given := fun g hg hp => (hp.eq_of_length (by rw [hg.1]; omega)).symm
   have hcg : Fit ps ns given := ⟨by omega,hi.rg,hi.ok⟩
   cases found with
   | false =>
     simp only [Bool.not_false,if_true]
     exact ⟨_,rfl,left,given,_,true,rfl,hi.l0,Int.le_refl _,fun _ => ⟨hcg,rfl⟩,fun h => (by cases h),fun _ g hg hp => ⟨rfl,by rw [fin g hg hp]; exact Int.le_refl _⟩⟩
   | true =>
     simp only [Bool.not_true,Bool.false_eq_true,if_false,decide_eq_true_eq]
     by_cases hlt : sc ps given > most
     ·simp only [hlt,if_true]
      exact ⟨_,rfl,left,given,_,true,rfl,hi.l0,Int.le_refl _,fun _ => ⟨hcg,rfl⟩,fun h => ⟨rfl,Int.le_of_lt hlt⟩,fun _ g hg hp => ⟨rfl,by rw [fin g hg hp]; exact Int.le_refl _⟩⟩
     ·simp only [hlt,if_false]
      exact ⟨_,rfl,left,best,most,true,rfl,hi.l0,Int.le_refl _,hi.bo,fun h => ⟨rfl,Int.le_refl _⟩,fun _ g hg hp => ⟨rfl,by rw [fin g hg hp]; omega⟩⟩
 | d + 1,n + 1,hdn,rest,given,left,best,most,found,hi,hd => by
   have hgl : ((given.length : Int) == (ns.length : Int)) = false := by simp; omega
   have hga : given.length < ns.length := by omega
   have hstr : ∀ k,0 ≤ str ps k ∧ str ps k ≤ 10000001 := fun k => by
    unfold str
    cases e : ps[k]? with
    | none => simp
    | some x => exact (pot_facts (hp x (List.mem_of_getElem? e))).2
   have hs0 := sc_bd hstr given
   have hn0 := hn ns[given.length] (List.getElem_mem hga)
   have loop : ∀ (k j : Nat),j + k = ps.length → ∀ (G : List Int),G.take given.length = given → ∀ (left : Int) (best : List Int) (most : Int) (found : Bool),GInv ps ns rest given left best most found →
    ∃ r,impl_gluing_search_p1 n (given.length : Int) ps (ps.length : Int) (j : Int) ps ns rest.length left given.length (sc ps given) most found rest G best = some r ∧
      GPost ps ns rest given left most found (fun g => given <+: g ∧ ∃ x,g[given.length]? = some x ∧ (j : Int) ≤ x) r := by
    intro k
    induction k with
    | zero =>
      intro j hj G hG left best most found hi
      have hn : ¬ (j : Int) < (ps.length : Int) := by omega
      rw [impl_gluing_search_p1_eq]
      simp only [hn,decide_false,Bool.false_eq_true,if_false,List.take_length,hG]
      refine ⟨_,rfl,left,best,most,found,rfl,hi.l0,Int.le_refl _,hi.bo,fun h => ⟨h,Int.le_refl _⟩,fun _ g hg ⟨_,x,hx,hjx⟩ => ?_⟩
      have := hg.2.1 x (List.mem_of_getElem? hx)
      omega
    | succ k ih =>
      intro j hj G hG left best most found hi
      have hjb : j < ps.length := by omega
      have hlt : (j : Int) < (ps.length : Int) := by omega
      have hju : (j : Int) < (rest.length : Int) := by rw [hi.ul]; omega
      have hw : IntKind.i64.wrap ((j : Int) + 1) = ((j + 1 : Nat) : Int) := wsucc (by omega)
      have huj := hi.us j hjb
      have hoj := hi.ok j hjb
      have hpj := hp ps[j] (List.getElem_mem hjb)
      have hcj := (pot_facts hpj).1
      rw [← cnt_at hjb] at hcj
      have ham : 0 ≤ amt ns given j := by
       have := amt_mono j ns [] given fun n hm => by have := hn n hm; omega
       have h0 : amt ns [] j = 0 := by cases ns <;> rfl
       rw [h0] at this
       simpa using this
      have hgj : (ns[given.length]?).getD 0 = ns[given.length] := by rw [getElem?_lt hga]; rfl
      rw [impl_gluing_search_p1_eq]
      simp only [hlt,decide_true,if_true,Int.natCast_nonneg,Int.toNat_natCast,getElem?_lt hjb,Option.bind_some,hju,Bool.and_self,huj,hw,getElem?_lt hga,decide_eq_true_eq]
      by_cases hm : cnt ps j - amt ns given j < ns[given.length]
      ·simp only [hm,if_true]
       obtain ⟨r,e,l',b',s',f',h1,h2,h3,h4,h5,h6⟩ := ih (j + 1) (by omega) G hG left best most found hi
       refine ⟨r,e,l',b',s',f',h1,h2,h3,h4,h5,fun ho g hg ⟨hpr,x,hx,hjx⟩ => h6 ho g hg ⟨hpr,x,hx,?_⟩⟩
       by_cases he : x = (j : Int)
       ·exfalso
        subst he
        obtain ⟨t,rfl⟩ := hpr
        have ht : t[0]? = some (j : Int) := by rw [List.getElem?_append_right (by omega),Nat.sub_self] at hx; exact hx
        obtain ⟨y,t',rfl⟩ : ∃ y t',t = y :: t' := by cases t with | nil => simp at ht | cons y t' => exact ⟨y,t',rfl⟩
        simp at ht
        subst ht
        have h7 := hg.2.2 j hjb
        have h8 := amt_mono j ns (given ++ [(j : Int)]) t' fun n hm => by have := hn n hm; omega
        rw [amt_app (j : Int) j ns given hga,if_pos rfl,hgj] at h8
        rw [show given ++ (j : Int) :: t' = given ++ [(j : Int)] ++ t' by simp] at h7
        omega
       ·omega
      ·simp only [hm,if_false]
       by_cases hz : left = 0
       ·simp only [hz,beq_self_eq_true,if_true,List.take_length,hG]
        exact ⟨_,rfl,0,best,most,found,rfl,Int.le_refl _,Int.le_refl _,hi.bo,fun h => ⟨h,Int.le_refl _⟩,fun h => by cases h⟩
       ·have hz' : (left == 0) = false := by simpa using hz
        have hd1 := hstr j
        have hlim : given.length + 1 < lim := by rw [lim_eq]; omega
        have hsj : impl_Pot_strength ps[j] = some (str ps j) := by rw [strength_ok hpj,str_at hjb]
        have hsum : IntKind.i64.wrap (sc ps given + str ps j) = sc ps (given ++ [(j : Int)]) := by
         rw [sc_app,Int.toNat_natCast,w64 (by omega) (by omega)]
        have hl0 := hi.l0
        have hl1 := hi.l1
        have hamt : ∀ k,k < ps.length → amt ns (given ++ [(j : Int)]) k = amt ns given k + if k = j then ns[given.length] else 0 := fun k hk => by
         rw [amt_app (j : Int) k ns given hga,hgj]
         congr 1
         by_cases hkj : k = j
         ·subst hkj; rw [if_pos rfl,if_pos rfl]
         ·rw [if_neg hkj,if_neg (by omega)]
        have hwr : IntKind.i64.wrap (cnt ps j - amt ns given j - ns[given.length]) = cnt ps j - amt ns (given ++ [(j : Int)]) j := by
         rw [hamt j hjb,if_pos rfl,w64 (by omega) (by omega)]; omega
        simp only [hz',Bool.false_eq_true,if_false,Option.bind_some,hlim,decide_true,if_true,hG,hsj,hsum,hwr,List.take_length,w64 (n := left - 1) (by omega) (by omega),
         show (rest.set j (cnt ps j - amt ns (given ++ [(j : Int)]) j)).take rest.length = rest.set j (cnt ps j - amt ns (given ++ [(j : Int)]) j) from List.take_of_length_le (by simp)]
        have hi' : GInv ps ns (rest.set j (cnt ps j - amt ns (given ++ [(j : Int)]) j)) (given ++ [(j : Int)]) (left - 1) best most found := by
         refine ⟨by simp [hi.ul],fun k hk => ?_,fun k hk => ?_,fun x hx => ?_,by omega,by omega,hi.bo⟩
         ·by_cases hkj : k = j
          ·subst hkj; rw [List.getElem?_set_self (by rw [hi.ul]; exact hk)]
          ·rw [List.getElem?_set_ne (by omega),hi.us k hk,hamt k hk,if_neg hkj,Int.add_zero]
         ·rw [hamt k hk]
          by_cases hkj : k = j
          ·subst hkj; rw [if_pos rfl]; omega
          ·rw [if_neg hkj]; have := hi.ok k hk; omega
         ·rcases List.mem_append.1 hx with hx | hx
          ·exact hi.rg x hx
          ·simp at hx; omega
        obtain ⟨⟨ok,w⟩,e,l',b',s',f',h1,h2,h3,h4,h5,h6⟩ := search_ok ps ns hpl hnl hp hn d n (by omega) (rest.set j (cnt ps j - amt ns (given ++ [(j : Int)]) j)) (given ++ [(j : Int)]) (left - 1) best most found hi' (by simp; omega)
        simp only at h1
        subst h1
        have hback : IntKind.i64.wrap (sc ps (given ++ [(j : Int)]) - str ps j) = sc ps given := by
         rw [sc_app,Int.toNat_natCast,w64 (by omega) (by omega)]; omega
        have hset : (rest.set j (cnt ps j - amt ns (given ++ [(j : Int)]) j)).set j (IntKind.i64.wrap (cnt ps j - amt ns (given ++ [(j : Int)]) j + ns[given.length])) = rest := by
         rw [hamt j hjb,if_pos rfl,w64 (by omega) (by omega),List.set_set]
         refine List.ext_getElem? fun i => ?_
         by_cases hij : i = j
         ·subst hij
          rw [List.getElem?_set_self (by rw [hi.ul]; exact hjb),huj]
          congr 1; omega
         ·rw [List.getElem?_set_ne (by omega)]
        have c1 : (given.length : Int) ≤ ((given ++ [(j : Int)]).length : Int) := by simp; omega
        have c3 : (rest.set j (cnt ps j - amt ns (given ++ [(j : Int)]) j))[j]? = some (cnt ps j - amt ns (given ++ [(j : Int)]) j) := List.getElem?_set_self (by rw [hi.ul]; exact hjb)
        have c4 : (given ++ [(j : Int)]).take given.length = given := by simp
        simp only [e,Option.bind_some,c1,c3,c4,hju,hsj,getElem?_lt hga,decide_true,Bool.and_self,if_true,hset,hback,List.length_set,List.take_length]
        cases ok with
        | false =>
          simp only [Bool.not_false,if_true]
          exact ⟨_,rfl,l',b',s',f',rfl,h2,by omega,h4,h5,fun h => by cases h⟩
        | true =>
          simp only [Bool.not_true,Bool.false_eq_true,if_false]
          obtain ⟨r,e2,l2,b2,s2,f2,k1,k2,k3,k4,k5,k6⟩ := ih (j + 1) (by omega) (given ++ [(j : Int)]) c4 l' b' s' f' ⟨hi.ul,hi.us,hi.ok,hi.rg,h2,by omega,h4⟩
          refine ⟨r,e2,l2,b2,s2,f2,k1,k2,by omega,k4,fun h => ?_,fun ho g hg ⟨hpr,x,hx,hjx⟩ => ?_⟩
          ·obtain ⟨q1,q2⟩ := h5 h
           obtain ⟨q3,q4⟩ := k5 q1
           exact ⟨q3,by omega⟩
          ·by_cases he : x = (j : Int)
           ·subst he
            obtain ⟨t,rfl⟩ := hpr
            have ht : t[0]? = some (j : Int) := by rw [List.getElem?_append_right (by omega),Nat.sub_self] at hx; exact hx
            obtain ⟨y,t',rfl⟩ : ∃ y t',t = y :: t' := by cases t with | nil => simp at ht | cons y t' => exact ⟨y,t',rfl⟩
            simp at ht
            subst ht
            obtain ⟨q1,q2⟩ := h6 rfl _ hg ⟨t',by simp⟩
            obtain ⟨q3,q4⟩ := k5 q1
            exact ⟨q3,by omega⟩
           ·exact k6 ho g hg ⟨hpr,x,hx,by omega⟩
   rw [impl_gluing_search_eq]
   simp only [hgl,Bool.false_eq_true,if_false]
   obtain ⟨r,e,l',b',s',f',h1,h2,h3,h4,h5,h6⟩ := loop ps.length 0 (by omega) given (by simp) left best most found hi
   refine ⟨r,e,l',b',s',f',h1,h2,h3,h4,h5,fun ho g hg hpr => h6 ho g hg ⟨hpr,?_⟩⟩
   obtain ⟨t,rfl⟩ := hpr
   have hl := hg.1
   have hlt : given.length < (given ++ t).length := by rw [hl]; omega
   refine ⟨_,List.getElem?_eq_getElem hlt,?_⟩
   exact (hg.2.1 _ (List.getElem_mem hlt)).1
def needOk (n : Int) : Bool := inR n 1 10000
def needsOk (ns : List Int) : Bool := ns.all needOk && decide ((ns.length : Int) ≤ 10)
theorem areNeeds_ok (ns : List Int) (h : ns.length ≤ 1048576) : impl_areNeeds ns = some (needsOk ns) := by
 rw [impl_areNeeds_eq]
 have e := allLoop ns impl_isGrams needOk (fun i => impl_areNeeds_p0 ns ns (ns.length : Int) i) false (some (decide ((ns.length : Int) ≤ 10))) (fun i => by
  show impl_areNeeds_p0 ns ns (ns.length : Int) i = _
  rw [impl_areNeeds_p0_eq]
  simp only [impl_few_eq,Option.bind_some]) (by omega) (fun x _ => by rw [impl_isGrams_eq,impl_within_ok]; rfl) ns.length 0 (by omega)
 have e : impl_areNeeds_p0 ns ns (ns.length : Int) 0 = if ((ns.drop 0).all needOk) = true then some (decide ((ns.length : Int) ≤ 10)) else some false := e
 rw [e,List.drop_zero,needsOk]
 cases ns.all needOk <;> rfl
theorem contents_ok (ps : List T_Pot.ty) (hl : ps.length ≤ 8) (hp : ∀ x,x ∈ ps → potOkT x = true) : impl_contents ps = some (ps.map cntX) := by
 have loop : ∀ (k i : Nat),i + k = ps.length → impl_contents_p0 ps (ps.length : Int) i ((ps.take i).map cntX) = some (ps.map cntX) := by
  intro k
  induction k with
  | zero =>
    intro i hi
    have : ¬ (i : Int) < (ps.length : Int) := by omega
    rw [impl_contents_p0_eq,List.take_of_length_le (by omega)]
    simp only [this,decide_false,Bool.false_eq_true,if_false,List.take_length]
  | succ k ih =>
    intro i hi
    have hil : i < ps.length := by omega
    have hlt : (i : Int) < (ps.length : Int) := by omega
    have hc := (pot_facts (hp ps[i] (List.getElem_mem hil))).1
    have hlim : ((ps.take i).map cntX).length + 1 < lim := by rw [lim_eq,List.length_map,List.length_take]; omega
    have ih := ih (i + 1) (by omega)
    rw [List.take_succ_eq_append_getElem hil,List.map_append] at ih
    have hw : IntKind.i64.wrap (ps[i].2.1 + ps[i].2.2.1) = cntX ps[i] := w64 (n := cntX ps[i]) (by omega) (by omega)
    rw [impl_contents_p0_eq]
    simp only [hlt,decide_true,if_true,Int.natCast_nonneg,Int.toNat_natCast,getElem?_lt hil,Option.bind_some,hlim,hw,List.take_length,wsucc (show i < 4611686018427387904 by omega)]
    exact ih
 rw [impl_contents_eq]
 exact loop ps.length 0 (by omega)
def PotSm (x : T_Pot.ty) : Prop := x.1.length ≤ 100
def PotsSm (xs : List T_Pot.ty) : Prop := xs.length ≤ 100 ∧ ∀ x,x ∈ xs → PotSm x
theorem valid_ok (xs : List T_Pot.ty) (h : PotsSm xs) : impl_ValidPots xs = some (potsOk xs) :=
 impl_ValidPots_ok xs (by have := h.1; omega) fun x hx => by have := h.2 x hx; unfold PotSm at this; omega
theorem potsOk_len {xs : List T_Pot.ty} (h : potsOk xs = true) : xs.length ≤ 8 := by
 simp only [potsOk,Bool.and_eq_true,decide_eq_true_eq] at h; omega
theorem needs_facts {ns : List Int} (h : needsOk ns = true) : ns.length ≤ 10 ∧ ∀ n,n ∈ ns → 1 ≤ n ∧ n ≤ 10000 := by
 simp only [needsOk,Bool.and_eq_true,decide_eq_true_eq,List.all_eq_true] at h
 exact ⟨by omega,fun n hn => inR_iff'.1 (h.1 n hn)⟩
theorem glue_ok (ps : List T_Pot.ty) (ns : List Int) (b : Int) (hps : PotsSm ps) (hns : ns.length ≤ 100) : ∃ g s e,impl_GlueJoints ps ns b = some (g,s,e) ∧ (e = 0 → potsOk ps = true ∧ needsOk ns = true ∧ Fit ps ns g ∧ s = sc ps g ∧ ∀ g',Fit ps ns g' → sc ps g' ≤ s) ∧ (e ≠ 0 → g = [] ∧ s = 0) := by
 rw [impl_GlueJoints_eq,valid_ok ps hps,areNeeds_ok ns (by omega)]
 simp only [Option.bind_some,impl_within_ok]
 cases e1 : potsOk ps
 ·exact ⟨_,_,_,rfl,fun h => by simp at h,fun _ => ⟨rfl,rfl⟩⟩
 simp only [Bool.not_true,Bool.false_eq_true,if_false]
 cases e2 : needsOk ns
 ·exact ⟨_,_,_,rfl,fun h => by simp at h,fun _ => ⟨rfl,rfl⟩⟩
 simp only [Bool.not_true,Bool.false_eq_true,if_false]
 cases e3 : inR b 1 20000
 ·exact ⟨_,_,_,rfl,fun h => by simp at h,fun _ => ⟨rfl,rfl⟩⟩
 have hb := inR_iff'.1 e3
 have hpl := potsOk_len e1
 have hpo := potsOk_all e1
 obtain ⟨hnl,hno⟩ := needs_facts e2
 simp only [Bool.not_true,Bool.false_eq_true,if_false,impl_GlueJoints_p0_eq,contents_ok ps hpl hpo,Option.bind_some,List.take_length]
 have a0 : ∀ k,amt ns [] k = 0 := fun k => by cases ns <;> rfl
 obtain ⟨⟨ok,w⟩,e,l',b',s',f',h1,h2,h3,h4,h5,h6⟩ := search_ok ps ns hpl hnl hpo hno ns.length 1000 (by omega) (ps.map cntX) [] b [] 0 false
  ⟨by simp,fun k hk => by rw [List.getElem?_map,getElem?_lt hk,a0,cnt_at hk]; simp,fun k hk => by
    have := (pot_facts (hpo ps[k] (List.getElem_mem hk))).1
    rw [a0,cnt_at hk]; omega,by simp,by omega,by omega,fun h => by cases h⟩ (by simp)
 simp only at h1
 subst h1
 have e' : impl_gluing_search 1000 (ps,ns,ps.map cntX,b,[],0,[],0,false,()) = some (ok,ps,ns,ps.map cntX,l',[],sc ps [],b',s',f',()) := e
 simp only [e',Option.bind_some,List.take_length]
 cases ok
 ·exact ⟨_,_,_,rfl,fun h => by simp at h,fun _ => ⟨rfl,rfl⟩⟩
 ·simp only [Bool.not_true,Bool.false_eq_true,if_false]
  cases f'
  ·exact ⟨_,_,_,rfl,fun h => by simp at h,fun _ => ⟨rfl,rfl⟩⟩
  ·obtain ⟨q1,q2⟩ := h4 rfl
   simp only [Bool.not_true,Bool.false_eq_true,if_false]
   exact ⟨_,_,_,rfl,fun _ => ⟨trivial,trivial,q1,q2,fun g' hg => (h6 rfl g' hg (by simp)).2⟩,fun h => absurd rfl h⟩
theorem spill_p1 (r : List Int) (hl : r.length ≤ 8) (hb : ∀ x,x ∈ r → 0 ≤ x ∧ x ≤ 20000) : ∀ (k i : Nat),i + k = r.length → impl_SpillOf_p1 (isum (r.take i)) r.length (r.length : Int) i r = some (isum r,0)
 | 0,i,hi => by
   have : ¬ (i : Int) < (r.length : Int) := by omega
   have e : r.take i = r := List.take_of_length_le (by omega)
   rw [impl_SpillOf_p1_eq,e]
   simp only [this,decide_false,Bool.false_eq_true,if_false]
 | k + 1,i,hi => by
   have hil : i < r.length := by omega
   have hlt : (i : Int) < (r.length : Int) := by omega
   have h1 := isum_bd (m := 20000) (r.take i) fun x hx => hb x (List.mem_of_mem_take hx)
   have h2 := hb r[i] (List.getElem_mem hil)
   rw [List.length_take] at h1
   have ih := spill_p1 r hl hb k (i + 1) (by omega)
   rw [isum_take hil] at ih
   have hn : ¬ r[i] < 0 := by omega
   rw [impl_SpillOf_p1_eq]
   simp only [hlt,decide_true,if_true,Int.natCast_nonneg,Bool.and_self,Int.toNat_natCast,getElem?_lt hil,Option.bind_some,hn,decide_false,Bool.false_eq_true,if_false,w64 (n := isum (r.take i) + r[i]) (by omega) (by omega),wsucc (show i < 4611686018427387904 by omega)]
   exact ih
theorem spill_p0 (ps : List T_Pot.ty) (ns g : List Int) (hpl : ps.length ≤ 8) (hpo : ∀ x,x ∈ ps → potOkT x = true) (hnl : ns.length ≤ 10) (hno : ∀ n,n ∈ ns → 1 ≤ n ∧ n ≤ 10000) (hg : Fit ps ns g) : ∀ (m i : Nat) (r : List Int),i + m = g.length → r.length = ps.length → (∀ k,k < ps.length → r[k]? = some (cnt ps k - amt ns (g.take i) k)) → isum r + isum (ns.take i) = isum (ps.map cntX) →
 impl_SpillOf_p0 ps ns ps.length g (g.length : Int) i r = some (isum (ps.map cntX) - isum ns,0)
 | 0,i,r,hi,hrl,hr,hs => by
   have hgl := hg.1
   have : ¬ (i : Int) < (g.length : Int) := by omega
   have e : g.take i = g := List.take_of_length_le (by omega)
   have e2 : ns.take i = ns := List.take_of_length_le (by omega)
   rw [e2] at hs
   rw [e] at hr
   rw [impl_SpillOf_p0_eq]
   simp only [this,decide_false,Bool.false_eq_true,if_false]
   have hb : ∀ x,x ∈ r → 0 ≤ x ∧ x ≤ 20000 := fun x hx => by
    obtain ⟨k,hk,rfl⟩ := List.getElem_of_mem hx
    have hk' : k < ps.length := by omega
    have h1 := hr k hk'
    rw [getElem?_lt hk,Option.some.injEq] at h1
    have h2 := hg.2.2 k hk'
    have h3 := (pot_facts (hpo ps[k] (List.getElem_mem hk'))).1
    have h4 := amt_mono k ns [] g fun n hm => by have := hno n hm; omega
    have h0 : amt ns [] k = 0 := by cases ns <;> rfl
    rw [h0,List.nil_append] at h4
    rw [← cnt_at hk'] at h3
    omega
   have e3 := spill_p1 r (by omega) hb r.length 0 (by omega)
   rw [hrl] at e3
   have e3 : impl_SpillOf_p1 0 ps.length (ps.length : Int) 0 r = some (isum r,0) := e3
   rw [e3]
   congr 2
   omega
 | m + 1,i,r,hi,hrl,hr,hs => by
   have hgl := hg.1
   have hil : i < g.length := by omega
   have hin : i < ns.length := by omega
   have hlt : (i : Int) < (g.length : Int) := by omega
   have hx := hg.2.1 g[i] (List.getElem_mem hil)
   have hk : g[i].toNat < ps.length := by omega
   have hxl : g[i] < (ps.length : Int) := hx.2
   have hge : g[i] ≥ 0 := hx.1
   have hrk := hr g[i].toNat hk
   have hnn := hno ns[i] (List.getElem_mem hin)
   have hcn := (pot_facts (hpo ps[g[i].toNat] (List.getElem_mem hk))).1
   rw [← cnt_at hk] at hcn
   have htl : (g.take i).length = i := by rw [List.length_take]; omega
   have hns : (ns[i]?).getD 0 = ns[i] := by rw [getElem?_lt hin]; rfl
   have hta : ∀ k,amt ns (g.take (i + 1)) k = amt ns (g.take i) k + if g[i] = (k : Int) then ns[i] else 0 := fun k => by
    rw [List.take_succ_eq_append_getElem hil,amt_app g[i] k ns (g.take i) (by omega),htl,hns]
   have hub : amt ns (g.take (i + 1)) g[i].toNat ≤ cnt ps g[i].toNat := by
    have h1 := amt_mono g[i].toNat ns (g.take (i + 1)) (g.drop (i + 1)) fun n hm => by have := hno n hm; omega
    rw [List.take_append_drop] at h1
    exact Int.le_trans h1 (hg.2.2 _ hk)
   have hlb : 0 ≤ amt ns (g.take i) g[i].toNat := by
    have h4 := amt_mono g[i].toNat ns [] (g.take i) fun n hm => by have := hno n hm; omega
    have h0 : amt ns [] g[i].toNat = 0 := by cases ns <;> rfl
    rw [h0,List.nil_append] at h4
    exact h4
   have hself := hta g[i].toNat
   rw [if_pos (by omega)] at hself
   have hw : IntKind.i64.wrap (cnt ps g[i].toNat - amt ns (g.take i) g[i].toNat - ns[i]) = cnt ps g[i].toNat - amt ns (g.take (i + 1)) g[i].toNat := by
    rw [hself,w64 (by omega) (by omega)]; omega
   rw [impl_SpillOf_p0_eq]
   simp only [hlt,decide_true,if_true,Int.natCast_nonneg,Int.toNat_natCast,getElem?_lt hil,Option.bind_some,impl_at_eq,hge,hxl,Bool.not_true,Bool.false_eq_true,if_false,hx.1,Bool.and_self,hrk,getElem?_lt hin,hw,wsucc (show i < 4611686018427387904 by omega)]
   refine spill_p0 ps ns g hpl hpo hnl hno hg m (i + 1) _ (by omega) (by simpa using hrl) (fun k hk' => ?_) ?_
   ·by_cases hke : k = g[i].toNat
    ·subst hke; rw [List.getElem?_set_self (by omega)]
    ·rw [List.getElem?_set_ne (by omega),hr k hk',hta k,if_neg (by omega),Int.add_zero]
   ·have hrl' : g[i].toNat < r.length := by omega
    have hre : r[g[i].toNat] = cnt ps g[i].toNat - amt ns (g.take i) g[i].toNat := by rw [getElem?_lt hrl',Option.some.injEq] at hrk; exact hrk
    rw [isum_set r g[i].toNat _ hrl',hre,isum_take hin,hself]
    omega
theorem spill_ok (ps : List T_Pot.ty) (ns g : List Int) (hps : PotsSm ps) (hv : potsOk ps = true) (hn : needsOk ns = true) (hg : Fit ps ns g) : impl_SpillOf ps ns g = some (isum (ps.map cntX) - isum ns,0) := by
 have hpl := potsOk_len hv
 have hpo := potsOk_all hv
 obtain ⟨hnl,hno⟩ := needs_facts hn
 have hl : ((g.length : Int) != (ns.length : Int)) = false := by have := hg.1; simp; omega
 rw [impl_SpillOf_eq,valid_ok ps hps,areNeeds_ok ns (by omega),hv,hn]
 simp only [Option.bind_some,Bool.not_true,Bool.false_eq_true,if_false,hl,contents_ok ps hpl hpo,List.length_map]
 have a0 : ∀ k,amt ns [] k = 0 := fun k => by cases ns <;> rfl
 exact spill_p0 ps ns g hpl hpo hnl hno hg g.length 0 (ps.map cntX) (by omega) (by simp) (fun k hk => by rw [List.getElem?_map,getElem?_lt hk,List.take_zero,a0,cnt_at hk]; simp) (by simp [isum])
theorem potOne {s : T_l00Src.ty} {c : Int} (hs : SrcOk s c) (hc : c ≤ 100000000000000000) (id : List UInt8) (hid : id.length ≤ 100) : ∃ (x : T_Pot.ty) (s' : T_l00Src.ty),spec_l14DrawOne s id = some (x,s') ∧ SrcOk s' (c + 10) ∧ PotSm x := by
 obtain ⟨x,s',e,k,h⟩ := spec_l14DrawOne_ok hs hc id
 exact ⟨x,s',e,k,by rw [PotSm,h]; exact hid⟩
theorem potBent {s : T_l00Src.ty} {c : Int} (hs : SrcOk s c) (hc : c ≤ 10000000000000000) (p : T_Pot.ty) (hp : PotSm p) : ∃ (x : T_Pot.ty) (s' : T_l00Src.ty),spec_l14Bent s p = some (x,s') ∧ SrcOk s' (c + 4) ∧ PotSm x := by
 obtain ⟨x,s',e,k,h⟩ := spec_l14Bent_ok hs hc p
 exact ⟨x,s',e,k,by rw [PotSm,h]; exact hp⟩
theorem pot_draw1 (v6 : Int) (h6 : v6 ≤ 20) : ∀ (k : Nat) (v7 : Int) (s : T_l00Src.ty) (c : Int) (r : List T_Pot.ty),SrcOk s c → c + 20 * k ≤ 1000000 → 0 ≤ v7 → v7 ≤ 20 → (v6 - v7).toNat ≤ k → (r.length : Int) ≤ v7 → (∀ x,x ∈ r → PotSm x) →
 ∃ (xs : List T_Pot.ty) (s' : T_l00Src.ty),spec_l14Draw_p1 v6 v7 s.1 s.2.1 s.2.2.1 r = some (xs,s') ∧ SrcOk s' 1000000 ∧ PotsSm xs
 | 0,v7,s,c,r,hs,hc,h0,h7,hk,hr,hx => by
   have : ¬ v7 < v6 := by omega
   rw [spec_l14Draw_p1_eq]
   simp only [this,decide_false,Bool.false_eq_true,if_false,List.take_length]
   exact ⟨_,_,rfl,hs.up (by omega),by omega,hx⟩
 | k + 1,v7,s,c,r,hs,hc,h0,h7,hk,hr,hx => by
   rw [spec_l14Draw_p1_eq]
   by_cases hlt : v7 < v6
   ·have hd := itoa_len v7 (by omega)
    have hst : [(110 : UInt8)].length + (Lib.itoa v7).length ≤ strMax := by rw [strMax_eq]; simp only [List.length_cons,List.length_nil]; omega
    have hw : IntKind.i64.wrap (v7 + 1) = v7 + 1 := w64 (by omega) (by omega)
    obtain ⟨x,s1,e1,k1,m1⟩ := potOne hs (by omega) ([110] ++ Lib.itoa v7) (by simp only [List.length_append,List.length_cons,List.length_nil]; omega)
    have hlim : r.length + 1 < lim := by rw [lim_eq]; omega
    simp only [hlt,decide_true,if_true,spec_l01Dec_itoa v7 ⟨by omega,by omega⟩,Option.bind_some,src_eta]
    refine Exists.imp (fun _ => Exists.imp fun _ h => And.imp (fun h => (if_pos (decide_eq_true hst)).trans h) id h) ?_
    simp only [e1,Option.bind_some,src_eta,pot_eta,hlim,decide_true,if_true,List.take_length,hw]
    refine pot_draw1 v6 h6 k (v7 + 1) s1 (c + 10) (r ++ [x]) k1 (by omega) (by omega) (by omega) (by omega) (by simp only [List.length_append,List.length_cons,List.length_nil]; omega) fun y hy => ?_
    rcases List.mem_append.1 hy with hy | hy
    ·exact hx y hy
    ·rw [List.mem_singleton] at hy; subst hy; exact m1
   ·simp only [hlt,decide_false,Bool.false_eq_true,if_false,List.take_length]
    exact ⟨_,_,rfl,hs.up (by omega),by omega,hx⟩
theorem pot_draw0 (r3 : List (List UInt8)) (h3 : r3.length ≤ 10) (hm : ∀ t,t ∈ r3 → t.length ≤ 100) : ∀ (k i : Nat) (s : T_l00Src.ty) (c : Int) (r : List T_Pot.ty),SrcOk s c → c + 20 * k ≤ 1000 → i + k = r3.length → r.length ≤ i → (∀ x,x ∈ r → PotSm x) →
 ∃ (xs : List T_Pot.ty) (s' : T_l00Src.ty),spec_l14Draw_p0 i s.1 s.2.1 s.2.2.1 r3 r = some (xs,s') ∧ SrcOk s' 1000000 ∧ PotsSm xs
 | 0,i,s,c,r,hs,hc,hk,hr,hx => by
   have : ¬ (i : Int) < (r3.length : Int) := by omega
   rw [spec_l14Draw_p0_eq]
   obtain ⟨v,s1,e1,k1,_⟩ := pick_ok hs (by omega) 20 (by omega)
   simp only [this,decide_false,Bool.false_eq_true,if_false,src_eta,e1,Option.bind_some,List.take_length]
   by_cases h0 : (v == 0) = true
   ·obtain ⟨x,s2,e2,k2,m2⟩ := potOne k1 (by omega) [122,122] (by decide)
    obtain ⟨y,s3,e3,k3,m3⟩ := potBent k2 (by omega) x m2
    have hlim : r.length + 1 < lim := by rw [lim_eq]; omega
    simp only [h0,if_true,e2,Option.bind_some,src_eta,pot_eta,e3,hlim,decide_true]
    refine ⟨_,_,rfl,k3.up (by omega),by simp only [List.length_append,List.length_cons,List.length_nil]; omega,fun z hz => ?_⟩
    rcases List.mem_append.1 hz with hz | hz
    ·exact hx z hz
    ·rw [List.mem_singleton] at hz; subst hz; exact m3
   ·have h0' : (v == 0) = false := by simpa using h0
    simp only [h0',Bool.false_eq_true,if_false]
    by_cases h1 : (v == 1) = true
    ·obtain ⟨a,t1,f1,g1,ma⟩ := among_ok k1 (by omega) [8,9] (by decide) (by decide)
     have ha : a ≤ 20 := by simp at ma; omega
     simp only [h1,if_true,f1,Option.bind_some,src_eta]
     exact pot_draw1 a ha 20 0 t1 (c + 2 + 2) [] g1 (by omega) (by omega) (by omega) (by omega) (by simp) (fun x hx => by cases hx)
    ·have h1' : (v == 1) = false := by simpa using h1
     simp only [h1',Bool.false_eq_true,if_false]
     exact ⟨_,_,rfl,k1.up (by omega),by omega,hx⟩
 | k + 1,i,s,c,r,hs,hc,hk,hr,hx => by
   have hi : i < r3.length := by omega
   have hlt : (i : Int) < (r3.length : Int) := by omega
   have hw : IntKind.i64.wrap ((i : Int) + 1) = ((i + 1 : Nat) : Int) := wsucc (by omega)
   rw [spec_l14Draw_p0_eq]
   obtain ⟨v,s1,e1,k1⟩ := one_ok hs (by omega) 3 (by omega)
   simp only [hlt,decide_true,if_true,src_eta,e1,Option.bind_some,Int.natCast_nonneg,Bool.and_self,Int.toNat_natCast,List.getElem?_eq_getElem hi,hw,List.take_length]
   cases v
   ·obtain ⟨x,s2,e2,k2,m2⟩ := potOne k1 (by omega) r3[i] (hm _ (List.getElem_mem hi))
    have hlim : r.length + 1 < lim := by rw [lim_eq]; omega
    simp only [Bool.not_false,if_true,e2,Option.bind_some,src_eta,pot_eta,hlim,decide_true]
    refine pot_draw0 r3 h3 hm k (i + 1) s2 _ (r ++ [x]) k2 (by omega) (by omega) (by simp only [List.length_append,List.length_cons,List.length_nil]; omega) fun y hy => ?_
    rcases List.mem_append.1 hy with hy | hy
    ·exact hx y hy
    ·rw [List.mem_singleton] at hy; subst hy; exact m2
   ·simp only [Bool.not_true,Bool.false_eq_true,if_false]
    exact pot_draw0 r3 h3 hm k (i + 1) s1 _ r k1 (by omega) (by omega) (by omega) hx
theorem pot_draw {s : T_l00Src.ty} (hs : SrcOk s 0) : ∃ (xs : List T_Pot.ty) (s' : T_l00Src.ty),spec_l14Draw s = some (xs,s') ∧ SrcOk s' 1000000 ∧ PotsSm xs := by
 rw [spec_l14Draw_eq]
 exact pot_draw0 [[98,111,110,101],[102,105,115,104],[104,105,100,101],[114,97,98,98,105,116]] (by decide) (by decide) 4 0 s 0 [] hs (by omega) rfl (by simp) (fun x hx => by cases hx)
theorem needs_draw1 (v : Int) (hv : v ≤ 20) {s : T_l00Src.ty} {c : Int} (hs : SrcOk s c) : ∀ (k : Nat) (r : List Int),(v - r.length).toNat ≤ k → r.length ≤ 40 → ∃ ns,spec_l14DrawNeeds_p1 v s.1 s.2.1 s.2.2.1 r = some (ns,s) ∧ ns.length ≤ 100
 | 0,r,hk,hr => by
   have : ¬ (r.length : Int) < v := by omega
   rw [spec_l14DrawNeeds_p1_eq]
   simp only [this,decide_false,Bool.false_eq_true,if_false,List.take_length]
   exact ⟨_,rfl,by omega⟩
 | k + 1,r,hk,hr => by
   rw [spec_l14DrawNeeds_p1_eq]
   by_cases hlt : (r.length : Int) < v
   ·have hlim : r.length + 1 < lim := by rw [lim_eq]; omega
    simp only [hlt,hlim,decide_true,if_true,List.take_length]
    exact needs_draw1 v hv hs k (r ++ [5]) (by simp; omega) (by simp; omega)
   ·simp only [hlt,decide_false,Bool.false_eq_true,if_false,List.take_length]
    exact ⟨_,rfl,by omega⟩
theorem needs_draw0 : ∀ (k : Nat) (v : Int) (s : T_l00Src.ty) (c : Int) (r : List Int),SrcOk s c → c + 20 * k ≤ 2000000 → v ≤ 20 → v.toNat ≤ k → r.length + v.toNat ≤ 20 → ∃ ns s',spec_l14DrawNeeds_p0 v s.1 s.2.1 s.2.2.1 r = some (ns,s') ∧ ns.length ≤ 100 ∧ SrcOk s' 3000000
 | k,v,s,c,r,hs,hc,hv,hk,hr => by
   rw [spec_l14DrawNeeds_p0_eq]
   by_cases hlt : v > 0
   ·obtain ⟨k',rfl⟩ : ∃ k',k = k' + 1 := ⟨k - 1,by omega⟩
    obtain ⟨u,s1,e1,k1,_⟩ := pick_ok hs (by omega) 40 (by omega)
    have hlim : r.length + 1 < lim := by rw [lim_eq]; omega
    simp only [hlt,hlim,decide_true,if_true,src_eta,e1,Option.bind_some,List.take_length,w64 (n := v - 1) (by omega) (by omega)]
    exact needs_draw0 k' (v - 1) s1 _ _ k1 (by omega) (by omega) (by omega) (by simp; omega)
   ·obtain ⟨u,s1,e1,k1,_⟩ := pick_ok hs (by omega) 18 (by omega)
    simp only [hlt,decide_false,Bool.false_eq_true,if_false,src_eta,e1,Option.bind_some,List.take_length]
    by_cases h0 : (u == 0) = true
    ·obtain ⟨a,t1,f1,g1,ma⟩ := among_ok k1 (by omega) [0,1,10000,10001] (by decide) (by decide)
     have hlim : r.length + 1 < lim := by rw [lim_eq]; omega
     simp only [h0,if_true,f1,Option.bind_some,src_eta,hlim,decide_true]
     exact ⟨_,_,rfl,by simp; omega,g1.up (by omega)⟩
    ·have h0' : (u == 0) = false := by simpa using h0
     simp only [h0',Bool.false_eq_true,if_false]
     by_cases h1 : (u == 1) = true
     ·obtain ⟨a,t1,f1,g1,ma⟩ := among_ok k1 (by omega) [10,11] (by decide) (by decide)
      have ha : a ≤ 20 := by simp at ma; omega
      simp only [h1,if_true,f1,Option.bind_some,src_eta]
      obtain ⟨ns,e2,l2⟩ := needs_draw1 a ha g1 20 [] (by simp; omega) (by simp)
      exact ⟨ns,t1,e2,l2,g1.up (by omega)⟩
     ·have h1' : (u == 1) = false := by simpa using h1
      simp only [h1',Bool.false_eq_true,if_false]
      exact ⟨_,_,rfl,by omega,k1.up (by omega)⟩
termination_by k => k
theorem holds_ok {x : T_Pot.ty} (h : potOkT x = true) (hs : x.1.length ≤ 100) (pull area : Int) (hp : inR pull 0 1000000 = true) (ha : inR area 1 100000 = true) : impl_HoldsJoint x pull area = some (potHolds x.2.1 x.2.2.1 x.2.2.2.1 x.2.2.2.2.1 pull area,0) := by
 have h1 := potOk_iff.1 h
 have e1 : impl_Pot_valid x = some (potOkT x) := impl_Pot_valid_ok x.1 x.2.1 x.2.2.1 x.2.2.2.1 x.2.2.2.2.1 (by omega)
 have e2 : impl_Pot_holdsJoint x pull area = some (potHolds x.2.1 x.2.2.1 x.2.2.2.1 x.2.2.2.2.1 pull area) := impl_Pot_holdsJoint_ok x.1 x.2.1 x.2.2.1 x.2.2.2.1 x.2.2.2.2.1 pull area h1.2.1 ⟨h1.2.2.1.1,Int.le_trans h1.2.2.1.2 (by decide)⟩ h1.2.2.2.1 ⟨h1.2.2.2.2.1,Int.le_trans h1.2.2.2.2.2 (by decide)⟩ (inR_iff'.1 ha)
 rw [impl_HoldsJoint_eq,e1,h,impl_isJoint_eq]
 simp only [Option.bind_some,Bool.not_true,Bool.false_eq_true,if_false,impl_within_ok,hp,ha,if_true,e2]
theorem open_ok {x : T_Pot.ty} (h : potOkT x = true) (hs : x.1.length ≤ 100) (room : Int) (hr : inR room 0 40 = true) : spec_OpenSeconds x room = some (potOpen x.2.1 x.2.2.1 x.2.2.2.1 room,0) ∧ impl_Pot_open x room = some (potOpen x.2.1 x.2.2.1 x.2.2.2.1 room) := by
 have h1 := potOk_iff.1 h
 have e1 : spec_OpenSeconds x room = some (if potOkT x then (if inR room 0 40 then (potOpen x.2.1 x.2.2.1 x.2.2.2.1 room,0) else (0,2)) else (0,1)) := spec_OpenSeconds_ok x.1 x.2.1 x.2.2.1 x.2.2.2.1 x.2.2.2.2.1 room (by omega)
 refine ⟨by rw [e1,h,hr]; rfl,?_⟩
 exact impl_Pot_open_ok x.1 x.2.1 x.2.2.1 x.2.2.2.1 x.2.2.2.2.1 room h1.2.1 ⟨Int.le_trans (by decide) h1.2.2.1.1,Int.le_trans h1.2.2.1.2 (by decide)⟩ h1.2.2.2.1 (inR_iff'.1 hr)
def fits (pull area seconds room : Int) (x : T_Pot.ty) : Bool := potHolds x.2.1 x.2.2.1 x.2.2.2.1 x.2.2.2.2.1 pull area && decide (potOpen x.2.1 x.2.2.1 x.2.2.2.1 room ≥ seconds)
theorem potFor_p1 (xs : List T_Pot.ty) (hx : PotsSm xs) (hv : potsOk xs = true) (pull area seconds room : Int) (hp : inR pull 0 1000000 = true) (ha : inR area 1 100000 = true) (hr : inR room 0 40 = true) : ∀ (k i : Nat),i + k = xs.length → (∀ j (hj : j < xs.length),j < i → fits pull area seconds room xs[j] = false) →
 (∃ (m : Nat) (hm : m < xs.length),fits pull area seconds room xs[m] = true ∧ (∀ j (hj : j < xs.length),j < m → fits pull area seconds room xs[j] = false) ∧ impl_PotFor_p1 pull area seconds room xs (xs.length : Int) i = some ((m : Int),0)) ∨
 ((∀ j (hj : j < xs.length),fits pull area seconds room xs[j] = false) ∧ impl_PotFor_p1 pull area seconds room xs (xs.length : Int) i = some (0,3))
 | 0,i,hi,hj => by
   have : ¬ (i : Int) < (xs.length : Int) := by omega
   refine .inr ⟨fun j h => hj j h (by omega),?_⟩
   rw [impl_PotFor_p1_eq]
   simp only [this,decide_false,Bool.false_eq_true,if_false]
 | k + 1,i,hi,hj => by
   have hil : i < xs.length := by omega
   have hlt : (i : Int) < (xs.length : Int) := by omega
   have hpo := potsOk_all hv xs[i] (List.getElem_mem hil)
   have h1 := potOk_iff.1 hpo
   have hsm := hx.2 xs[i] (List.getElem_mem hil)
   have e2 : impl_Pot_holdsJoint xs[i] pull area = some (potHolds xs[i].2.1 xs[i].2.2.1 xs[i].2.2.2.1 xs[i].2.2.2.2.1 pull area) := impl_Pot_holdsJoint_ok xs[i].1 xs[i].2.1 xs[i].2.2.1 xs[i].2.2.2.1 xs[i].2.2.2.2.1 pull area h1.2.1 ⟨h1.2.2.1.1,Int.le_trans h1.2.2.1.2 (by decide)⟩ h1.2.2.2.1 ⟨h1.2.2.2.2.1,Int.le_trans h1.2.2.2.2.2 (by decide)⟩ (inR_iff'.1 ha)
   have e3 := (open_ok hpo hsm room hr).2
   have ih := fun h => potFor_p1 xs hx hv pull area seconds room hp ha hr k (i + 1) (by omega) h
   have step : impl_PotFor_p1 pull area seconds room xs (xs.length : Int) i = if fits pull area seconds room xs[i] = true then some ((i : Int),0) else impl_PotFor_p1 pull area seconds room xs (xs.length : Int) ((i + 1 : Nat) : Int) := by
    have hl8 := potsOk_len hv
    rw [impl_PotFor_p1_eq]
    simp only [hlt,decide_true,if_true,Int.natCast_nonneg,Int.toNat_natCast,getElem?_lt hil,Option.bind_some,e2,e3,wsucc (show i < 4611686018427387904 by omega),fits]
    by_cases hh : potHolds xs[i].2.1 xs[i].2.2.1 xs[i].2.2.2.1 xs[i].2.2.2.2.1 pull area = true
    ·simp only [hh,if_true,Bool.true_and]
    ·simp only [hh,Bool.false_eq_true,if_false,Bool.false_and]
   cases hf : fits pull area seconds room xs[i]
   ·rw [step,hf]
    simp only [Bool.false_eq_true,if_false]
    exact ih fun j h hji => by
     by_cases he : j = i
     ·subst he; exact hf
     ·exact hj j h (by omega)
   ·refine .inl ⟨i,hil,hf,hj,?_⟩
    rw [step,hf,if_pos rfl]
theorem law_p10 (xs : List T_Pot.ty) (hx : PotsSm xs) (hv : potsOk xs = true) (pull area seconds room : Int) (hp : inR pull 0 1000000 = true) (ha : inR area 1 100000 = true) (hr : inR room 0 40 = true) (m e : Int)
 (hme : (∃ (k : Nat) (hk : k < xs.length),m = (k : Int) ∧ e = 0 ∧ fits pull area seconds room xs[k] = true ∧ ∀ j (hj : j < xs.length),j < k → fits pull area seconds room xs[j] = false) ∨ (e = 3 ∧ ∀ j (hj : j < xs.length),fits pull area seconds room xs[j] = false)) : ∀ (k i : Nat),i + k = xs.length → laws_FnPots_p10 pull area seconds room m e i xs = some true
 | 0,i,hi => by
   have : ¬ (i : Int) < (xs.length : Int) := by omega
   rw [laws_FnPots_p10_eq]
   simp only [this,decide_false,Bool.false_eq_true,if_false]
 | k + 1,i,hi => by
   have hl8 := potsOk_len hv
   have hil : i < xs.length := by omega
   have hlt : (i : Int) < (xs.length : Int) := by omega
   have hpo := potsOk_all hv xs[i] (List.getElem_mem hil)
   have hsm := hx.2 xs[i] (List.getElem_mem hil)
   have ih0 := law_p10 xs hx hv pull area seconds room hp ha hr m e hme k (i + 1) (by omega)
   have ih : laws_FnPots_p10 pull area seconds room m e ((i : Int) + 1) xs = some true := by simpa using ih0
   have hw := wsucc (show i < 4611686018427387904 by omega)
   have core : laws_FnPots_p11 pull area seconds room m e i 0 0 (fits pull area seconds room xs[i]) xs = some true := by
    rw [laws_FnPots_p11_eq]
    rcases hme with ⟨q,hq,rfl,rfl,h1,h2⟩ | ⟨rfl,h1⟩
    ·by_cases he : i = q
     ·subst he
      simp [h1,hw,ih]
     ·have he' : ((i : Int) == (q : Int)) = false := by simp; omega
      by_cases hlq : i < q
      ·have h3 := h2 i hil hlq
       have h4 : (i : Int) < (q : Int) := by omega
       simp [he',h3,h4,hw,ih]
      ·have h4 : ¬ (i : Int) < (q : Int) := by omega
       simp [he',h4,hw,ih]
    ·have h3 := h1 i hil
     simp [h3,hw,ih]
   rw [laws_FnPots_p10_eq]
   simp only [hlt,decide_true,if_true,Int.natCast_nonneg,Int.toNat_natCast,Bool.and_self,getElem?_lt hil,Option.bind_some,holds_ok hpo hsm pull area hp ha,(open_ok hpo hsm room hr).1]
   unfold fits at core
   by_cases hh : potHolds xs[i].2.1 xs[i].2.2.1 xs[i].2.2.2.1 xs[i].2.2.2.2.1 pull area = true
   ·simp only [hh,Bool.true_and] at core
    simp only [hh,if_true]
    exact core
   ·have hh' : potHolds xs[i].2.1 xs[i].2.2.1 xs[i].2.2.2.1 xs[i].2.2.2.2.1 pull area = false := by simpa using hh
    simp only [hh',Bool.false_and] at core
    simp only [hh',Bool.false_eq_true,if_false]
    exact core
theorem law_p4 (v0 : List Int) (h0 : ∀ x,x ∈ v0 → 0 ≤ x ∧ x ≤ 255) (h0l : v0.length ≤ 1048576) : laws_FnPots_p4 v0 = some true := by
 obtain ⟨s,e0,k0⟩ := from_ok v0 h0 h0l
 obtain ⟨xs,s1,e1,k1,m1⟩ := pot_draw k0
 have hpull : ∃ (x : Int) (s' : T_l00Src.ty),spec_l14DrawPull s1 = some (x,s') ∧ SrcOk s' 1000010 := by
  obtain ⟨b,t1,f1,g1⟩ := one_ok k1 (by omega) 9 (by omega)
  rw [spec_l14DrawPull_eq]
  simp only [f1,Option.bind_some,src_eta]
  cases b
  ·obtain ⟨a,t2,f2,g2,_⟩ := pick_ok g1 (by omega) 200 (by omega)
   simp only [Bool.false_eq_true,if_false,f2,Option.bind_some,src_eta]
   exact ⟨_,_,rfl,g2.up (by omega)⟩
  ·obtain ⟨a,t2,f2,g2,_⟩ := among_ok g1 (by omega) [(-1),0,1000000,1000001] (by decide) (by decide)
   simp only [if_true,f2,Option.bind_some,src_eta]
   exact ⟨_,_,rfl,g2.up (by omega)⟩
 obtain ⟨pull,s2,e2,k2⟩ := hpull
 obtain ⟨area,s3,e3,k3,_⟩ := among_ok k2 (by omega) [1,100,800,2000,100000,100001,0,1200] (by decide) (by decide)
 have hsec : ∃ (x : Int) (s' : T_l00Src.ty),spec_l14DrawSeconds s3 = some (x,s') ∧ SrcOk s' 1000020 := by
  obtain ⟨b,t1,f1,g1⟩ := one_ok k3 (by omega) 9 (by omega)
  rw [spec_l14DrawSeconds_eq]
  simp only [f1,Option.bind_some,src_eta]
  cases b
  ·obtain ⟨a,t2,f2,g2,_⟩ := pick_ok g1 (by omega) 60 (by omega)
   simp only [Bool.false_eq_true,if_false,f2,Option.bind_some,src_eta]
   exact ⟨_,_,rfl,g2.up (by omega)⟩
  ·obtain ⟨a,t2,f2,g2,_⟩ := among_ok g1 (by omega) [(-1),0,1000,1001] (by decide) (by decide)
   simp only [if_true,f2,Option.bind_some,src_eta]
   exact ⟨_,_,rfl,g2.up (by omega)⟩
 obtain ⟨sec,s4,e4,k4⟩ := hsec
 obtain ⟨room,s5,e5,k5,_⟩ := among_ok k4 (by omega) [0,10,15,20,25,40,41,(-1)] (by decide) (by decide)
 rw [laws_FnPots_p4_eq,spec_DrawPotFor_eq,e0]
 simp only [Option.bind_some,src_eta,e1,e2,spec_l14DrawArea_eq,e3,e4,spec_l14DrawRoom_eq,e5,List.take_length,impl_PotFor_eq,valid_ok xs m1,impl_isJoint_eq,impl_isSeconds_eq,impl_isRoom_eq,impl_within_ok]
 cases h1 : potsOk xs
 ·rfl
 simp only [Bool.not_true,Bool.false_eq_true,if_false]
 cases h2 : inR pull 0 1000000
 ·rfl
 cases h3 : inR area 1 100000
 ·rfl
 cases h4 : inR sec 0 1000
 ·rfl
 cases h5 : inR room 0 40
 ·rfl
 simp only [if_true,Bool.not_true,Bool.false_eq_true,if_false,Option.bind_some,impl_PotFor_p0_eq]
 rcases potFor_p1 xs m1 h1 pull area sec room h2 h3 h5 xs.length 0 (by omega) (fun j hj h => by omega) with ⟨m,hm,a1,a2,a3⟩ | ⟨a1,a3⟩
 ·have a3 : impl_PotFor_p1 pull area sec room xs (xs.length : Int) 0 = some ((m : Int),0) := a3
  have c1 : ¬ (m : Int) < 0 := by omega
  have c2 : ¬ (m : Int) ≥ (xs.length : Int) := by omega
  rw [a3]
  simp only [Option.bind_some,bne_self_eq_false,Bool.false_eq_true,if_false,laws_FnPots_p6_eq,beq_self_eq_true,if_true,c1,c2,decide_false,laws_FnPots_p9_eq]
  exact law_p10 xs m1 h1 pull area sec room h2 h3 h5 m 0 (.inl ⟨m,hm,rfl,rfl,a1,a2⟩) xs.length 0 (by omega)
 ·have a3 : impl_PotFor_p1 pull area sec room xs (xs.length : Int) 0 = some (0,3) := a3
  rw [a3]
  have c1 : ((3 : Int) != 0) = true := by decide
  have c2 : ((3 : Int) == 0) = false := by decide
  simp only [Option.bind_some,c1,c2,if_true,bne_self_eq_false,Bool.false_eq_true,if_false,laws_FnPots_p6_eq,laws_FnPots_p9_eq]
  exact law_p10 xs m1 h1 pull area sec room h2 h3 h5 0 3 (.inr ⟨rfl,a1⟩) xs.length 0 (by omega)
theorem law_p2 (v0 v1 : List Int) (h0 : ∀ x,x ∈ v0 → 0 ≤ x ∧ x ≤ 255) (h0l : v0.length ≤ 1048576) (h1 : ∀ x,x ∈ v1 → 0 ≤ x ∧ x ≤ 255) (h2 : v1.length ≤ 1048576) : laws_FnPots_p2 v0 v1 = some true := by
 obtain ⟨s,e0,k0⟩ := from_ok v1 h1 h2
 obtain ⟨x,s1,e1,k1,m1⟩ := potOne k0 (by omega) [104,105,100,101] (by decide)
 obtain ⟨x',s2,e2,k2,m2⟩ := potBent k1 (by omega) x m1
 obtain ⟨y,s3,e3,k3,m3⟩ := potOne k2 (by omega) [98,111,110,101] (by decide)
 obtain ⟨y',s4,e4,k4,m4⟩ := potBent k3 (by omega) y m3
 obtain ⟨id,s5,e5,k5,m5⟩ := text_ok k4 (by omega) [[98,111,116,104],[109,105,120],[]] (by decide) (by decide)
 have hid : id.length ≤ 100 := by
  simp only [List.mem_cons,List.not_mem_nil,or_false] at m5
  rcases m5 with rfl | rfl | rfl <;> decide
 have vx : impl_Pot_valid x' = some (potOkT x') := impl_Pot_valid_ok x'.1 x'.2.1 x'.2.2.1 x'.2.2.2.1 x'.2.2.2.2.1 (by unfold PotSm at m2; omega)
 have vy : impl_Pot_valid y' = some (potOkT y') := impl_Pot_valid_ok y'.1 y'.2.1 y'.2.2.1 y'.2.2.2.1 y'.2.2.2.2.1 (by unfold PotSm at m4; omega)
 rw [laws_FnPots_p2_eq,spec_DrawMixPots_eq,e0]
 simp only [Option.bind_some,src_eta,pot_eta,e1,e2,e3,e4,e5,impl_MixPots_eq,vx,vy]
 cases hx : potOkT x'
 ·simp only [Bool.not_false,if_true]
  exact law_p4 v0 h0 h0l
 cases hy : potOkT y'
 ·simp only [Bool.not_true,Bool.false_eq_true,if_false,Bool.not_false,if_true]
  exact law_p4 v0 h0 h0l
 simp only [Bool.not_true,Bool.false_eq_true,if_false,impl_MixPots_p0_eq,impl_IsName_ok id (by omega),Option.bind_some]
 cases hn : isName id
 ·simp only [Bool.not_false,if_true]
  exact law_p4 v0 h0 h0l
 simp only [Bool.not_true,Bool.false_eq_true,if_false,impl_Pot_valid_ok id _ _ _ _ (show id.length < 4611686018427387904 by omega),Option.bind_some]
 generalize potOk id _ _ _ _ = b
 cases b
 ·simp only [Bool.not_false,if_true]
  exact law_p4 v0 h0 h0l
 have mn : ∀ p q : Int,¬ (if p < q then p else q) > q ∧ ¬ (if p < q then p else q) > p := fun p q => by constructor <;> split <;> omega
 have mx : ∀ p q : Int,¬ (if p > q then p else q) < q ∧ ¬ (if p > q then p else q) < p := fun p q => by constructor <;> split <;> omega
 simp only [Option.bind_some,Bool.not_true,Bool.false_eq_true,if_false,beq_self_eq_true,if_true,bne_self_eq_false,mn,mx,decide_false]
 exact law_p4 v0 h0 h0l
theorem strengthOf_ok {x : T_Pot.ty} (h : potOkT x = true) (hs : x.1.length ≤ 100) : spec_StrengthOf x = some (strX x,0) := by
 have h1 := potOk_iff.1 h
 have e1 : spec_l14One x = some (potOkT x) := spec_l14One_ok x.1 x.2.1 x.2.2.1 x.2.2.2.1 x.2.2.2.2.1 (by omega)
 have e2 : spec_l14Strong x = some (strX x) := spec_l14Strong_ok x.1 x.2.1 x.2.2.1 x.2.2.2.1 x.2.2.2.2.1 h1.2.1 ⟨h1.2.2.1.1,Int.le_trans h1.2.2.1.2 (by decide)⟩ h1.2.2.2.1 ⟨h1.2.2.2.2.1,Int.le_trans h1.2.2.2.2.2 (by decide)⟩
 rw [spec_StrengthOf_eq,e1,h]
 simp only [Option.bind_some,Bool.not_true,Bool.false_eq_true,if_false,e2]
theorem sc_rep (ps : List T_Pot.ty) (k : Nat) : ∀ n,sc ps (List.replicate n (k : Int)) = str ps k * n
 | 0 => by simp [sc]
 | n + 1 => by
   rw [List.replicate_succ,sc,sc_rep ps k n,Int.toNat_natCast,Int.natCast_add,Int.mul_add]
   simp
   omega
theorem amt_rep (j k : Nat) : ∀ (ns : List Int),amt ns (List.replicate ns.length (k : Int)) j = if k = j then isum ns else 0
 | [] => by simp [amt,isum]
 | n :: ns => by
   rw [List.length_cons,List.replicate_succ,amt,amt_rep j k ns,isum]
   by_cases h : k = j
   ·subst h; simp
   ·rw [if_neg (by omega),if_neg h,if_neg h]; rfl
theorem law_p8 (v0 v1 : List Int) (h0 : ∀ x,x ∈ v0 → 0 ≤ x ∧ x ≤ 255) (h0l : v0.length ≤ 1048576) (h1 : ∀ x,x ∈ v1 → 0 ≤ x ∧ x ≤ 255) (h2 : v1.length ≤ 1048576) (ps : List T_Pot.ty) (hps : PotsSm ps) (hv : potsOk ps = true) (ns : List Int) (hns : needsOk ns = true) (s : Int) (hb : ∀ g',Fit ps ns g' → sc ps g' ≤ s) : ∀ (k i : Nat),i + k = ps.length → laws_FnPots_p8 v0 v1 ps ns s i = some true
 | 0,i,hi => by
   have : ¬ (i : Int) < (ps.length : Int) := by omega
   rw [laws_FnPots_p8_eq]
   simp only [this,decide_false,Bool.false_eq_true,if_false]
   exact law_p2 v0 v1 h0 h0l h1 h2
 | k + 1,i,hi => by
   have hl8 := potsOk_len hv
   have hil : i < ps.length := by omega
   have hlt : (i : Int) < (ps.length : Int) := by omega
   have hpo := potsOk_all hv ps[i] (List.getElem_mem hil)
   have hsm := hps.2 ps[i] (List.getElem_mem hil)
   obtain ⟨hnl,hno⟩ := needs_facts hns
   have hf := pot_facts hpo
   have hw : IntKind.i64.wrap (ps[i].2.1 + ps[i].2.2.1) = cntX ps[i] := w64 (n := cntX ps[i]) (by omega) (by omega)
   have hsb := isum_bd (m := 10000) ns fun x hx => by have := hno x hx; omega
   have hm : 0 ≤ strX ps[i] * (ns.length : Int) ∧ strX ps[i] * (ns.length : Int) ≤ 10000001 * 10 := ⟨Int.mul_nonneg hf.2.1 (by omega),Int.mul_le_mul hf.2.2 (by omega) (by omega) (by omega)⟩
   have ih := law_p8 v0 v1 h0 h0l h1 h2 ps hps hv ns hns s hb k (i + 1) (by omega)
   rw [laws_FnPots_p8_eq]
   simp only [hlt,decide_true,if_true,Int.natCast_nonneg,Int.toNat_natCast,getElem?_lt hil,Option.bind_some,strengthOf_ok hpo hsm,beq_self_eq_true,laws_b10Sum_ok ns (by omega) (fun x hx => by have := hno x hx; omega),hw,w64 (n := strX ps[i] * (ns.length : Int)) (by omega) (by omega),wsucc (show i < 4611686018427387904 by omega),ih]
   by_cases hc : cntX ps[i] ≥ isum ns
   ·have hfit : Fit ps ns (List.replicate ns.length (i : Int)) := by
     refine ⟨by simp,fun x hx => ?_,fun j hj => ?_⟩
     ·rw [List.mem_replicate] at hx; omega
     ·rw [amt_rep]
      by_cases he : i = j
      ·subst he; rw [if_pos rfl,cnt_at hil]; exact hc
      ·rw [if_neg he]
       have := (pot_facts (potsOk_all hv ps[j] (List.getElem_mem hj))).1
       rw [cnt_at hj]; omega
    have h3 := hb _ hfit
    rw [sc_rep,str_at hil] at h3
    have hn : ¬ strX ps[i] * (ns.length : Int) > s := by omega
    simp only [hc,hn,decide_true,if_true,decide_false,Bool.false_eq_true,if_false]
   ·simp only [hc,decide_false,Bool.false_eq_true,if_false]
theorem law_p5 (v0 v1 : List Int) (h0 : ∀ x,x ∈ v0 → 0 ≤ x ∧ x ≤ 255) (h0l : v0.length ≤ 1048576) (h1 : ∀ x,x ∈ v1 → 0 ≤ x ∧ x ≤ 255) (h2 : v1.length ≤ 1048576) (ps : List T_Pot.ty) (hps : PotsSm ps) (hv : potsOk ps = true) (ns : List Int) (hns : needsOk ns = true) (g : List Int) (hg : Fit ps ns g) (hb : ∀ g',Fit ps ns g' → sc ps g' ≤ sc ps g) : ∀ (k i : Nat),i + k = g.length → laws_FnPots_p5 v0 v1 ps ns g (sc ps g) (sc ps (g.take i)) i = some true
 | 0,i,hi => by
   have : ¬ (i : Int) < (g.length : Int) := by omega
   have e : g.take i = g := List.take_of_length_le (by omega)
   rw [laws_FnPots_p5_eq,e]
   simp only [this,decide_false,Bool.false_eq_true,if_false,bne_self_eq_false]
   exact law_p8 v0 v1 h0 h0l h1 h2 ps hps hv ns hns (sc ps g) hb ps.length 0 (by omega)
 | k + 1,i,hi => by
   obtain ⟨hnl,hno⟩ := needs_facts hns
   have hgl := hg.1
   have hil : i < g.length := by omega
   have hlt : (i : Int) < (g.length : Int) := by omega
   have hx := hg.2.1 g[i] (List.getElem_mem hil)
   have hk : g[i].toNat < ps.length := by omega
   have c1 : ¬ g[i] < 0 := by omega
   have c2 : ¬ g[i] ≥ (ps.length : Int) := by omega
   have hpo := potsOk_all hv ps[g[i].toNat] (List.getElem_mem hk)
   have hsm := hps.2 ps[g[i].toNat] (List.getElem_mem hk)
   have hstr : ∀ k,0 ≤ str ps k ∧ str ps k ≤ 10000001 := fun k => by
    unfold str
    cases e : ps[k]? with
    | none => simp
    | some x => exact (pot_facts (potsOk_all hv x (List.mem_of_getElem? e))).2
   have hs0 := sc_bd hstr (g.take i)
   rw [List.length_take] at hs0
   have hs1 := hstr g[i].toNat
   have hw : IntKind.i64.wrap (sc ps (g.take i) + strX ps[g[i].toNat]) = sc ps (g.take (i + 1)) := by
    rw [List.take_succ_eq_append_getElem hil,sc_app,← str_at hk,w64 (by omega) (by omega)]
   have ih := law_p5 v0 v1 h0 h0l h1 h2 ps hps hv ns hns g hg hb k (i + 1) (by omega)
   rw [laws_FnPots_p5_eq]
   simp only [hlt,decide_true,if_true,Int.natCast_nonneg,Int.toNat_natCast,getElem?_lt hil,Option.bind_some,c1,c2,decide_false,Bool.false_eq_true,if_false,laws_FnPots_p7_eq,hx.1,getElem?_lt hk,strengthOf_ok hpo hsm,bne_self_eq_false,hw,wsucc (show i < 4611686018427387904 by omega)]
   exact ih
theorem law_p1 (v0 v1 : List Int) (h0 : ∀ x,x ∈ v0 → 0 ≤ x ∧ x ≤ 255) (h0l : v0.length ≤ 1048576) (h1 : ∀ x,x ∈ v1 → 0 ≤ x ∧ x ≤ 255) (h2 : v1.length ≤ 1048576) (ps : List T_Pot.ty) (hps : PotsSm ps) (hv : potsOk ps = true) (ns : List Int) (hns : needsOk ns = true) (g : List Int) (hg : Fit ps ns g) (hb : ∀ g',Fit ps ns g' → sc ps g' ≤ sc ps g) : ∀ (k i : Nat),i + k = ps.length →
 laws_FnPots_p1 v0 v1 ps ns g (sc ps g) (isum (ps.map cntX) - isum ns) 0 (isum ((ps.map cntX).take i)) i = some true
 | 0,i,hi => by
   obtain ⟨hnl,hno⟩ := needs_facts hns
   have hl8 := potsOk_len hv
   have : ¬ (i : Int) < (ps.length : Int) := by omega
   have e : (ps.map cntX).take i = ps.map cntX := List.take_of_length_le (by simp; omega)
   have hgl : ((g.length : Int) != (ns.length : Int)) = false := by have := hg.1; simp; omega
   have hsb := isum_bd (m := 10000) ns fun x hx => by have := hno x hx; omega
   have hsc := isum_bd (m := 20000) (ps.map cntX) fun x hx => by
    obtain ⟨y,hy,rfl⟩ := List.mem_map.1 hx
    have := (pot_facts (potsOk_all hv y hy)).1
    omega
   rw [List.length_map] at hsc
   rw [laws_FnPots_p1_eq,e]
   simp only [this,decide_false,Bool.false_eq_true,if_false,hgl,bne_self_eq_false,laws_b10Sum_ok ns (by omega) (fun x hx => by have := hno x hx; omega),Option.bind_some,w64 (n := isum (ps.map cntX) - isum ns) (by omega) (by omega),laws_FnPots_p3_eq]
   exact law_p5 v0 v1 h0 h0l h1 h2 ps hps hv ns hns g hg hb g.length 0 (by omega)
 | k + 1,i,hi => by
   have hl8 := potsOk_len hv
   have hil : i < ps.length := by omega
   have hlt : (i : Int) < (ps.length : Int) := by omega
   have hpo := potsOk_all hv ps[i] (List.getElem_mem hil)
   have hf := (pot_facts hpo).1
   have hsc := isum_bd (m := 20000) ((ps.map cntX).take i) fun x hx => by
    obtain ⟨y,hy,rfl⟩ := List.mem_map.1 (List.mem_of_mem_take hx)
    have := (pot_facts (potsOk_all hv y hy)).1
    omega
   rw [List.length_take,List.length_map] at hsc
   have hw : IntKind.i64.wrap (ps[i].2.1 + ps[i].2.2.1) = cntX ps[i] := w64 (n := cntX ps[i]) (by omega) (by omega)
   have hw2 : IntKind.i64.wrap (isum ((ps.map cntX).take i) + cntX ps[i]) = isum ((ps.map cntX).take (i + 1)) := by
    rw [isum_take (l := ps.map cntX) (by simpa using hil),List.getElem_map,w64 (by omega) (by omega)]
   have ih := law_p1 v0 v1 h0 h0l h1 h2 ps hps hv ns hns g hg hb k (i + 1) (by omega)
   rw [laws_FnPots_p1_eq]
   simp only [hlt,decide_true,if_true,Int.natCast_nonneg,Int.toNat_natCast,getElem?_lt hil,Option.bind_some,hw,hw2,wsucc (show i < 4611686018427387904 by omega)]
   exact ih
theorem law_core (v0 v1 : List Int) (h0 : ∀ x,x ∈ v0 → 0 ≤ x ∧ x ≤ 255) (h1 : ∀ x,x ∈ v1 → 0 ≤ x ∧ x ≤ 255) : laws_FnPots v0 v1 = some true := by
 rw [laws_FnPots_eq,laws_b10Long_eq,laws_b10Long_eq]
 simp only [Option.bind_some,decide_eq_true_eq]
 by_cases c1 : (v0.length : Int) > 1048576
 ·simp [c1]
 by_cases c2 : (v1.length : Int) > 1048576
 ·simp [c2]
 simp only [c1,c2,if_false]
 obtain ⟨s,e0,k0⟩ := from_ok v0 h0 (by omega)
 obtain ⟨ps,s1,e1,k1,m1⟩ := pot_draw k0
 obtain ⟨u,s2,e2,k2,b2,b3⟩ := pick_ok k1 (by omega) 6 (by omega)
 obtain ⟨ns,s3,e3,l3,k3⟩ := needs_draw0 20 u s2 _ [] k2 (by omega) (by omega) (by omega) (by simp; omega)
 obtain ⟨n,s4,e4,k4,m4⟩ := among_ok k3 (by omega) [1,10,100,1000,20000,0,20001] (by decide) (by decide)
 obtain ⟨g,c,e,f1,f2,f3⟩ := glue_ok ps ns n m1 l3
 rw [laws_FnPots_p0_eq,spec_DrawGlueJoints_eq,e0]
 simp only [Option.bind_some,src_eta,e1,spec_l14DrawNeeds_eq,e2,e3,spec_l06DrawBudget_eq,e4,List.take_length,f1]
 by_cases he : e = 0
 ·obtain ⟨g1,g2,g3,g4,g5⟩ := f2 he
  subst he
  subst g4
  simp only [beq_self_eq_true,if_true,spill_ok ps ns g m1 g1 g2 g3,Option.bind_some]
  exact law_p1 v0 v1 h0 (by omega) h1 (by omega) ps m1 g1 ns g2 g g3 g5 ps.length 0 (by omega)
 ·obtain ⟨rfl,rfl⟩ := f3 he
  have he' : (e == 0) = false := by simpa using he
  simp only [he',Bool.false_eq_true,if_false,List.length_nil]
  exact law_p2 v0 v1 h0 (by omega) h1 (by omega)
theorem laws_FnPots_true (code more : List Int) (h : CT.wf (.sl (.one (.int .u8))) code) (h' : CT.wf (.sl (.one (.int .u8))) more) : laws_FnPots code more = some true :=
 law_core code more (bytes_ok h) (bytes_ok h')
end Go.Ab.P
