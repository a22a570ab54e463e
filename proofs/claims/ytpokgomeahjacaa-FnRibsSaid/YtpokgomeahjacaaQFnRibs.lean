/- Fewest strips hold all ribs, no greedy cut needs fewer, and heights go from one end to the other. Conditions: the arguments are bytes. -/
import Derived.Test.YtpokgomeahjacaaBFnRibs
set_option linter.unusedVariables false
set_option linter.unusedSimpArgs false
namespace Go.Ab.P
open Go.Ab
def rl (x : T_Mode.ty) : Int := x.2.1
def put1 (S w : Int) (free : List Int) (k : Nat) : Option (List Int) :=
 if k < free.length then (if w ≤ (free[k]?).getD 0 then some (free.set k ((free[k]?).getD 0 - w)) else none) else if k = free.length then some (free ++ [S - w]) else none
def runC (S : Int) : List Int → List Int → List Int → Option (List Int)
 | free,w :: ws,k :: ps => if k < 0 then none else (put1 S w free k.toNat).bind fun f => runC S f ws ps
 | free,_,[] => some free
 | _,[],_ :: _ => none
theorem put1_len {S w : Int} {free f : List Int} {k : Nat} (h : put1 S w free k = some f) : free.length ≤ f.length ∧ k < f.length ∧ k ≤ free.length := by
 unfold put1 at h
 split at h
 ·split at h
  ·cases h; simp; omega
  ·cases h
 ·split at h
  ·cases h; simp; omega
  ·cases h
theorem runC_len {S : Int} : ∀ {ws ps free f : List Int},runC S free ws ps = some f → free.length ≤ f.length
 | [],[],free,f,h => by simp [runC] at h; subst h; omega
 | [],_ :: _,free,f,h => by simp [runC] at h
 | w :: ws,[],free,f,h => by simp [runC] at h; subst h; omega
 | w :: ws,k :: ps,free,f,h => by
   simp only [runC] at h
   split at h
   ·cases h
   ·obtain ⟨f1,h1,h2⟩ := Option.bind_eq_some_iff.1 h
    have := (put1_len h1).1
    have := runC_len h2
    omega
def Room (S : Int) (free : List Int) : Prop := ∀ x ∈ free,0 ≤ x ∧ x ≤ S
theorem put1_room {S w : Int} (hw : 0 ≤ w ∧ w ≤ S) {free f : List Int} {k : Nat} (hr : Room S free) (h : put1 S w free k = some f) : Room S f := by
 unfold put1 at h
 split at h
 ·rename_i hk
  split at h
  ·rename_i hle
   cases h
   intro x hx
   rcases List.mem_or_eq_of_mem_set hx with hx | rfl
   ·exact hr x hx
   ·rw [getElem?_lt hk] at hle ⊢
    have := hr free[k] (List.getElem_mem hk)
    simp only [Option.getD_some] at hle ⊢
    omega
  ·cases h
 ·split at h
  ·cases h
   intro x hx
   rcases List.mem_append.1 hx with hx | hx
   ·exact hr x hx
   ·simp at hx; omega
  ·cases h
theorem take_ok (xs : List T_Mode.ty) (strip saw left most : Int) (free places : List Int) (k : Nat) (hxl : xs.length ≤ 8) (hfl : free.length ≤ 8) (h1 : 1 ≤ strip ∧ strip ≤ 100000) (h2 : 0 ≤ saw ∧ saw ≤ 100)
 (hi : places.length < xs.length) (hx : 1 ≤ rl xs[places.length] ∧ rl xs[places.length] ≤ strip) (hr : Room (strip + saw) free) (hk : k ≤ free.length) :
 ∃ (b : Int) (F : List Int),(F.set k b).take free.length = free ∧ (F.length = free.length ∨ F.length = free.length + 1) ∧ k < F.length ∧
   ((put1 (strip + saw) (rl xs[places.length] + saw) free k = none ∧ k < free.length ∧ F = free ∧ impl_cutting_take (xs,strip,saw,free,places,left,most,()) k = some (b,false,(xs,strip,saw,F,places,left,most,()))) ∨
    (put1 (strip + saw) (rl xs[places.length] + saw) free k = some F ∧ impl_cutting_take (xs,strip,saw,free,places,left,most,()) k = some (b,true,(xs,strip,saw,F,places ++ [(k : Int)],left,most,())))) := by
 have hpl : places.length + 1 < lim := by rw [lim_eq]; omega
 have hflim : free.length + 1 < lim := by rw [lim_eq]; omega
 have e0 : (xs[places.length].2.1 : Int) = rl xs[places.length] := rfl
 have w1 : IntKind.i64.wrap (rl xs[places.length] + saw) = rl xs[places.length] + saw := w64 (by omega) (by omega)
 have w2 : IntKind.i64.wrap (strip + saw) = strip + saw := w64 (by omega) (by omega)
 by_cases hkf : k < free.length
 ·have hb := hr free[k] (List.getElem_mem hkf)
  have hne : ((k : Int) == (free.length : Int)) = false := by simp; omega
  have hlt : (k : Int) < (free.length : Int) := by omega
  by_cases hw : rl xs[places.length] + saw ≤ free[k]
  ·refine ⟨free[k],free.set k (free[k] - (rl xs[places.length] + saw)),?_,.inl (by simp),by simpa using hkf,.inr ⟨?_,?_⟩⟩
   ·rw [List.set_set,List.take_of_length_le (by simp)]
    exact List.set_getElem_self hkf
   ·unfold put1
    rw [if_pos hkf,getElem?_lt hkf,Option.getD_some,if_pos hw]
   ·have hn : ¬ rl xs[places.length] + saw > free[k] := by omega
    rw [impl_cutting_take_eq]
    simp only [Int.natCast_nonneg,decide_true,if_true,Int.toNat_natCast,getElem?_lt hi,Option.bind_some,hne,Bool.false_eq_true,if_false,impl_cutting_take_p0_eq,hlt,Bool.and_self,getElem?_lt hkf,e0,w1,hn,decide_false,hpl,List.take_length,w64 (n := free[k] - (rl xs[places.length] + saw)) (by omega) (by omega)]
    rw [List.take_of_length_le (by simp)]
  ·refine ⟨free[k],free,?_,.inl rfl,hkf,.inl ⟨?_,hkf,rfl,?_⟩⟩
   ·rw [List.set_getElem_self hkf,List.take_length]
   ·unfold put1
    rw [if_pos hkf,getElem?_lt hkf,Option.getD_some,if_neg hw]
   ·have hn : rl xs[places.length] + saw > free[k] := by omega
    rw [impl_cutting_take_eq]
    simp only [Int.natCast_nonneg,decide_true,if_true,Int.toNat_natCast,getElem?_lt hi,Option.bind_some,hne,Bool.false_eq_true,if_false,impl_cutting_take_p0_eq,hlt,Bool.and_self,getElem?_lt hkf,e0,w1,hn,List.take_length]
 ·have hke : k = free.length := by omega
  subst hke
  have hg : (free ++ [strip + saw])[free.length]? = some (strip + saw) := by simp
  have hlt : (free.length : Int) < ((free ++ [strip + saw]).length : Int) := by simp; omega
  have hn : ¬ rl xs[places.length] + saw > strip + saw := by omega
  have hset : (free ++ [strip + saw]).set free.length (strip + saw - (rl xs[places.length] + saw)) = free ++ [strip + saw - (rl xs[places.length] + saw)] := by simp
  refine ⟨strip + saw,free ++ [strip + saw - (rl xs[places.length] + saw)],?_,.inr (by simp),by simp,.inr ⟨?_,?_⟩⟩
  ·simp
  ·unfold put1
   rw [if_neg (by omega),if_pos rfl]
  ·rw [impl_cutting_take_eq]
   simp only [Int.natCast_nonneg,decide_true,if_true,Int.toNat_natCast,getElem?_lt hi,Option.bind_some,beq_self_eq_true,hflim,List.take_length,impl_cutting_take_p0_eq,w2,hg,hlt,Bool.and_self,e0,w1,hn,decide_false,Bool.false_eq_true,if_false,hpl,w64 (n := strip + saw - (rl xs[places.length] + saw)) (by omega) (by omega),hset]
   rw [List.take_of_length_le (by simp)]
def SPost (xs : List T_Mode.ty) (strip saw : Int) (free places : List Int) (left most : Int) (ws : List Int) (Q : List Int → Prop) (r : Bool × Bool × T_cuttingO.ty) : Prop :=
 (r.1 = true ∧ r.2.1 = true ∧ ∃ (ps f : List Int) (left' : Int),ps.length = ws.length ∧ runC (strip + saw) free ws ps = some f ∧ (f.length : Int) ≤ most ∧ r.2.2 = (xs,strip,saw,f,places ++ ps,left',most,())) ∨
 (r.1 = false ∧ r.2.1 = true ∧ (∃ left' : Int,0 ≤ left' ∧ left' ≤ left ∧ r.2.2 = (xs,strip,saw,free,places,left',most,())) ∧ ∀ ps f,ps.length = ws.length → Q ps → runC (strip + saw) free ws ps = some f → most < (f.length : Int)) ∨
 (r.1 = false ∧ r.2.1 = false)
theorem search_ok (xs : List T_Mode.ty) (strip saw most : Int) (hxl : xs.length ≤ 8) (h1 : 1 ≤ strip ∧ strip ≤ 100000) (h2 : 0 ≤ saw ∧ saw ≤ 100) (hx : ∀ x,x ∈ xs → 1 ≤ rl x ∧ rl x ≤ strip) (hm : 0 ≤ most ∧ most ≤ 8) : ∀ (d n : Nat),d < n → ∀ (free places : List Int) (left : Int),places.length + d = xs.length →
 Room (strip + saw) free → (free.length : Int) ≤ most → 0 ≤ left → left ≤ 20000 → ∃ r,impl_cutting_search n (xs,strip,saw,free,places,left,most,()) = some r ∧ SPost xs strip saw free places left most ((xs.drop places.length).map fun x => rl x + saw) (fun _ => True) r
 | 0,n + 1,_,free,places,left,hd,hr,hfm,hl0,hl1 => by
   have hgl : ((places.length : Int) == (xs.length : Int)) = true := by simp; omega
   rw [impl_cutting_search_eq]
   simp only [hgl,if_true,List.take_length]
   refine ⟨_,rfl,.inl ⟨rfl,rfl,[],free,left,?_,?_,hfm,?_⟩⟩
   ·rw [List.length_map,List.length_drop,List.length_nil]; omega
   ·rw [List.drop_of_length_le (by omega)]; rfl
   ·rw [List.append_nil]
 | d + 1,n + 1,hdn,free,places,left,hd,hr,hfm,hl0,hl1 => by
   have hgl : ((places.length : Int) == (xs.length : Int)) = false := by simp; omega
   have hi : places.length < xs.length := by omega
   have hxi := hx xs[places.length] (List.getElem_mem hi)
   have hws : (xs.drop places.length).map (fun x => rl x + saw) = (rl xs[places.length] + saw) :: (xs.drop (places.length + 1)).map fun x => rl x + saw := by rw [drop_cons hi]; rfl
   have loop : ∀ (c k : Nat),k + c = free.length + 1 → ∀ (F G : List Int),F.take free.length = free → G.take places.length = places → ∀ (left : Int),0 ≤ left → left ≤ 20000 →
    ∃ r,impl_cutting_search_p0 n (free.length : Int) (k : Int) xs strip saw free.length places.length left most F G = some r ∧ SPost xs strip saw free places left most ((rl xs[places.length] + saw) :: (xs.drop (places.length + 1)).map fun x => rl x + saw) (fun ps => ∃ y,ps[0]? = some y ∧ (k : Int) ≤ y) r := by
    intro c
    induction c with
    | zero =>
      intro k hk F G hF hG left hl0 hl1
      have hn : ¬ (k : Int) ≤ (free.length : Int) := by omega
      rw [impl_cutting_search_p0_eq]
      simp only [hn,decide_false,Bool.false_eq_true,if_false,hF,hG]
      refine ⟨_,rfl,.inr (.inl ⟨rfl,rfl,⟨left,hl0,Int.le_refl _,rfl⟩,fun ps f hpl ⟨y,hy,hky⟩ hrun => ?_⟩)⟩
      cases ps with
      | nil => simp at hy
      | cons z ps =>
        simp at hy
        subst hy
        simp only [runC] at hrun
        split at hrun
        ·cases hrun
        ·obtain ⟨f1,e1,e2⟩ := Option.bind_eq_some_iff.1 hrun
         have := (put1_len e1).2.2
         omega
    | succ c ih =>
      intro k hk F G hF hG left hl0 hl1
      have hle : (k : Int) ≤ (free.length : Int) := by omega
      rw [impl_cutting_search_p0_eq]
      simp only [hle,decide_true,if_true,decide_eq_true_eq]
      by_cases hkm : (k : Int) < most
      ·simp only [hkm,if_true,impl_cutting_search_p1_eq,hF,hG]
       obtain ⟨b,F1,hF1,hFl,hkF,hcase⟩ := take_ok xs strip saw left most free places k hxl (by omega) h1 h2 hi hxi hr (by omega)
       have hw : IntKind.i64.wrap ((k : Int) + 1) = ((k + 1 : Nat) : Int) := wsucc (by omega)
       have c1 : (k : Int) < (F1.length : Int) := by omega
       have c2 : (free.length : Int) ≤ (F1.length : Int) := by omega
       have tail : ∀ (G' : List Int),G'.take places.length = places → ∀ (left' : Int),0 ≤ left' → left' ≤ 20000 → ∃ r,impl_cutting_search_p3 n (free.length : Int) (k : Int) b xs strip saw places.length left' most F1 G' = some r ∧ SPost xs strip saw free places left' most ((rl xs[places.length] + saw) :: (xs.drop (places.length + 1)).map fun x => rl x + saw) (fun ps => ∃ y,ps[0]? = some y ∧ ((k + 1 : Nat) : Int) ≤ y) r := fun G' hG' left' q0 q1 => by
        rw [impl_cutting_search_p3_eq]
        simp only [Int.natCast_nonneg,c1,c2,decide_true,Bool.and_self,if_true,Int.toNat_natCast,getElem?_lt hkF,Option.bind_some,hw]
        exact ih (k + 1) (by omega) (F1.set k b) G' hF1 hG' left' q0 q1
       rcases hcase with ⟨hnone,hkf,rfl,e⟩ | ⟨hsome,e⟩
       ·simp only [e,Option.bind_some,Bool.false_eq_true,if_false]
        obtain ⟨r,e2,hp⟩ := tail places (by simp) left hl0 hl1
        refine ⟨r,e2,?_⟩
        rcases hp with hp | ⟨p1,p2,p3,p4⟩ | hp
        ·exact .inl hp
        ·refine .inr (.inl ⟨p1,p2,p3,fun ps f hpl ⟨y,hy,hky⟩ hrun => ?_⟩)
         by_cases he : y = (k : Int)
         ·cases ps with
          | nil => simp at hy
          | cons z ps =>
            simp at hy
            subst hy
            subst he
            simp only [runC,Int.toNat_natCast,hnone,Option.bind_none] at hrun
            split at hrun <;> cases hrun
         ·exact p4 ps f hpl ⟨y,hy,by omega⟩ hrun
        ·exact .inr (.inr hp)
       ·simp only [e,Option.bind_some,if_true]
        by_cases hz : left = 0
        ·simp only [hz,beq_self_eq_true,if_true]
         exact ⟨_,rfl,.inr (.inr ⟨rfl,rfl⟩)⟩
        ·have hz' : (left == 0) = false := by simpa using hz
         have hrl := put1_room (S := strip + saw) (w := rl xs[places.length] + saw) (by omega) hr hsome
         have hF1m : (F1.length : Int) ≤ most := by
          rcases hFl with h | h
          ·omega
          ·have := (put1_len hsome).2.2
           by_cases hkl : k < free.length
           ·exfalso
            unfold put1 at hsome
            rw [if_pos hkl] at hsome
            split at hsome
            ·cases hsome; simp at h
            ·cases hsome
           ·omega
         obtain ⟨⟨s1,ok1,w⟩,e3,hp3⟩ := search_ok xs strip saw most hxl h1 h2 hx hm d n (by omega) F1 (places ++ [(k : Int)]) (left - 1) (by simp; omega) hrl hF1m (by omega) (by omega)
         have hdl : (places ++ [(k : Int)]).length = places.length + 1 := by simp
         rw [hdl] at hp3
         simp only [hz',Bool.false_eq_true,if_false,List.take_length,w64 (n := left - 1) (by omega) (by omega),e3,Option.bind_some]
         have hrunk : ∀ ps,runC (strip + saw) free ((rl xs[places.length] + saw) :: (xs.drop (places.length + 1)).map fun x => rl x + saw) ((k : Int) :: ps) = runC (strip + saw) F1 ((xs.drop (places.length + 1)).map fun x => rl x + saw) ps := fun ps => by
          simp only [runC,Int.toNat_natCast,hsome,Option.bind_some]
          rw [if_neg (by omega)]
         rcases hp3 with ⟨q1,q2,ps,f,l',q3,q4,q5,q6⟩ | ⟨q1,q2,⟨l',q3,q4,q5⟩,q6⟩ | ⟨q1,q2⟩
         ·simp only at q1 q2 q6
          subst q1
          subst q2
          subst q6
          simp only [if_true,List.take_length]
          refine ⟨_,rfl,.inl ⟨rfl,rfl,(k : Int) :: ps,f,l',by simp [q3],by rw [hrunk]; exact q4,q5,?_⟩⟩
          simp
         ·simp only at q1 q2 q5
          subst q1
          subst q2
          subst q5
          have hll : ((places ++ [(k : Int)]).length : Int) = (places.length : Int) + 1 := by simp
          have d1 : (0 : Int) ≤ (places.length : Int) := by omega
          have d2 : (places.length : Int) ≤ (places.length : Int) + 1 := by omega
          simp only [Bool.false_eq_true,if_false,Bool.not_true,impl_cutting_search_p2_eq,hll,w64 (n := (places.length : Int) + 1 - 1) (by omega) (by omega),w64 (n := (places.length : Int)) (by omega) (by omega),show (places.length : Int) + 1 - 1 = (places.length : Int) by omega,d1,d2,decide_true,Bool.and_self,if_true,Int.toNat_natCast]
          obtain ⟨r,e2,hp⟩ := tail (places ++ [(k : Int)]) (by simp) l' q3 (by omega)
          refine ⟨r,e2,?_⟩
          rcases hp with ⟨p1,p2,ps,f,l2,p3,p4,p5,p6⟩ | ⟨p1,p2,⟨l2,p3,p5,p6⟩,p4⟩ | hp
          ·exact .inl ⟨p1,p2,ps,f,l2,p3,p4,p5,p6⟩
          ·refine .inr (.inl ⟨p1,p2,⟨l2,p3,by omega,p6⟩,fun ps f hpl ⟨y,hy,hky⟩ hrun => ?_⟩)
           by_cases he : y = (k : Int)
           ·cases ps with
            | nil => simp at hy
            | cons z ps =>
              simp at hy
              subst hy
              subst he
              rw [hrunk] at hrun
              exact q6 ps f (by simpa using hpl) trivial hrun
           ·exact p4 ps f hpl ⟨y,hy,by omega⟩ hrun
          ·exact .inr (.inr hp)
         ·simp only at q1 q2
          subst q1
          subst q2
          simp only [Bool.false_eq_true,if_false,Bool.not_false,if_true]
          exact ⟨_,rfl,.inr (.inr ⟨rfl,rfl⟩)⟩
      ·simp only [hkm,if_false,hF,hG]
       refine ⟨_,rfl,.inr (.inl ⟨rfl,rfl,⟨left,hl0,Int.le_refl _,rfl⟩,fun ps f hpl ⟨y,hy,hky⟩ hrun => ?_⟩)⟩
       cases ps with
       | nil => simp at hy
       | cons z ps =>
         simp at hy
         subst hy
         simp only [runC] at hrun
         split at hrun
         ·cases hrun
         ·obtain ⟨f1,e1,e2⟩ := Option.bind_eq_some_iff.1 hrun
          have := (put1_len e1).2.1
          have := runC_len e2
          omega
   rw [impl_cutting_search_eq,hws]
   simp only [hgl,Bool.false_eq_true,if_false]
   obtain ⟨r,e,hp⟩ := loop (free.length + 1) 0 (by omega) free places (by simp) (by simp) left hl0 hl1
   refine ⟨r,e,?_⟩
   rcases hp with hp | ⟨p1,p2,p3,p4⟩ | hp
   ·exact .inl hp
   ·refine .inr (.inl ⟨p1,p2,p3,fun ps f hpl _ hrun => ?_⟩)
    cases ps with
    | nil => simp at hpl
    | cons z ps =>
      by_cases hz : z < 0
      ·simp only [runC,hz,if_true] at hrun; cases hrun
      ·exact p4 (z :: ps) f hpl ⟨z,by simp,by omega⟩ hrun
   ·exact .inr (.inr hp)
def RibSm (x : T_Mode.ty) : Prop := x.1.length ≤ 100
def RibsSm (xs : List T_Mode.ty) : Prop := xs.length ≤ 100 ∧ ∀ x,x ∈ xs → RibSm x
theorem valid_ok (xs : List T_Mode.ty) (h : RibsSm xs) : impl_ValidRibs xs = some (ribsOk xs) :=
 impl_ValidRibs_ok xs (by have := h.1; omega) fun x hx => by have := h.2 x hx; unfold RibSm at this; omega
theorem ribsOk_facts {xs : List T_Mode.ty} (h : ribsOk xs = true) : xs.length ≤ 8 ∧ ∀ x,x ∈ xs → 1 ≤ rl x ∧ rl x ≤ 10000 := by
 have h1 := ribsOk_all h
 simp only [ribsOk,Bool.and_eq_true,decide_eq_true_eq] at h
 refine ⟨by omega,fun x hx => ?_⟩
 have h2 := h1 x hx
 simp only [ribOk,Bool.and_eq_true] at h2
 exact inR_iff'.1 h2.2.1
def stripOk (strip saw : Int) : Bool := inR strip 1 100000 && inR saw 0 100
theorem isStrip_ok (strip saw : Int) : impl_isStrip strip saw = some (stripOk strip saw) := by
 rw [impl_isStrip_eq]
 simp only [impl_within_ok,Option.bind_some,stripOk]
 cases inR strip 1 100000 <;> rfl
def tooLong (strip : Int) (xs : List T_Mode.ty) : Bool := xs.any fun x => decide (rl x > strip)
theorem tooLong_ok (xs : List T_Mode.ty) (hl : xs.length ≤ 8) (strip saw left most : Int) : impl_cutting_tooLong (xs,strip,saw,[],[],left,most,()) = some (tooLong strip xs) := by
 have loop : ∀ (k i : Nat),i + k = xs.length → impl_cutting_tooLong_p0 xs strip saw [] [] left most xs (xs.length : Int) i = some (tooLong strip (xs.drop i)) := by
  intro k
  induction k with
  | zero =>
    intro i hi
    have : ¬ (i : Int) < (xs.length : Int) := by omega
    rw [impl_cutting_tooLong_p0_eq,List.drop_of_length_le (by omega)]
    simp only [this,decide_false,Bool.false_eq_true,if_false]
    rfl
  | succ k ih =>
    intro i hi
    have hil : i < xs.length := by omega
    have hlt : (i : Int) < (xs.length : Int) := by omega
    have e0 : (xs[i].2.1 : Int) = rl xs[i] := rfl
    rw [impl_cutting_tooLong_p0_eq,drop_cons hil]
    simp only [hlt,decide_true,if_true,Int.natCast_nonneg,Int.toNat_natCast,getElem?_lt hil,Option.bind_some,e0,wsucc (show i < 4611686018427387904 by omega),ih (i + 1) (by omega),tooLong,List.any_cons,decide_eq_true_eq]
    by_cases hc : rl xs[i] > strip
    ·simp [hc]
    ·simp [hc]
 rw [impl_cutting_tooLong_eq]
 exact loop xs.length 0 (by omega)
theorem tooLong_no {strip : Int} {xs : List T_Mode.ty} (h : tooLong strip xs = false) (x : T_Mode.ty) (hx : x ∈ xs) : rl x ≤ strip := by
 simp only [tooLong,List.any_eq_false,decide_eq_true_eq] at h
 have := h x hx
 omega
def wsP (saw : Int) (xs : List T_Mode.ty) : List Int := xs.map fun x => rl x + saw
theorem cut_ok (xs : List T_Mode.ty) (strip saw b : Int) (hx : RibsSm xs) : ∃ p m e,impl_CutRibs xs strip saw b = some (p,m,e) ∧ (e = 0 → ribsOk xs = true ∧ stripOk strip saw = true ∧ tooLong strip xs = false ∧ ∃ f,p.length = xs.length ∧ runC (strip + saw) [] (wsP saw xs) p = some f ∧ (f.length : Int) = m ∧ ∀ ps f',ps.length = xs.length → runC (strip + saw) [] (wsP saw xs) ps = some f' → m ≤ (f'.length : Int)) ∧ (e ≠ 0 → p = [] ∧ m = 0) := by
 rw [impl_CutRibs_eq,valid_ok xs hx]
 simp only [Option.bind_some,isStrip_ok,impl_within_ok]
 cases e1 : ribsOk xs
 ·exact ⟨_,_,_,rfl,fun h => by simp at h,fun _ => ⟨rfl,rfl⟩⟩
 simp only [Bool.not_true,Bool.false_eq_true,if_false]
 cases e2 : stripOk strip saw
 ·exact ⟨_,_,_,rfl,fun h => by simp at h,fun _ => ⟨rfl,rfl⟩⟩
 simp only [Bool.not_true,Bool.false_eq_true,if_false]
 cases e3 : inR b 1 20000
 ·exact ⟨_,_,_,rfl,fun h => by simp at h,fun _ => ⟨rfl,rfl⟩⟩
 obtain ⟨hl,hr⟩ := ribsOk_facts e1
 have hb := inR_iff'.1 e3
 have e2' := e2
 simp only [stripOk,Bool.and_eq_true] at e2'
 have hst := inR_iff'.1 e2'.1
 have hsa := inR_iff'.1 e2'.2
 simp only [Bool.not_true,Bool.false_eq_true,if_false,impl_CutRibs_p0_eq,tooLong_ok xs hl,Option.bind_some]
 cases e4 : tooLong strip xs
 rotate_left
 ·exact ⟨_,_,_,rfl,fun h => by simp at h,fun _ => ⟨rfl,rfl⟩⟩
 have hxs : ∀ x,x ∈ xs → 1 ≤ rl x ∧ rl x ≤ strip := fun x hm => ⟨(hr x hm).1,tooLong_no e4 x hm⟩
 simp only [Bool.false_eq_true,if_false,impl_CutRibs_p1_eq]
 have loop : ∀ (k m : Nat),m + k = 9 → ∀ (left : Int) (A B : List Int),0 ≤ left → left ≤ 20000 → (∀ ps f',ps.length = xs.length → runC (strip + saw) [] (wsP saw xs) ps = some f' → (m : Int) ≤ (f'.length : Int)) →
  ∃ p q e,impl_CutRibs_p2 xs strip saw left m A B = some (p,q,e) ∧ (e = 0 → ∃ f,p.length = xs.length ∧ runC (strip + saw) [] (wsP saw xs) p = some f ∧ (f.length : Int) = q ∧ ∀ ps f',ps.length = xs.length → runC (strip + saw) [] (wsP saw xs) ps = some f' → q ≤ (f'.length : Int)) ∧ (e ≠ 0 → p = [] ∧ q = 0) := by
  intro k
  induction k with
  | zero =>
    intro m hm left A B h0 h1 hall
    have : ¬ (m : Int) ≤ 8 := by omega
    rw [impl_CutRibs_p2_eq]
    simp only [this,decide_false,Bool.false_eq_true,if_false]
    exact ⟨_,_,_,rfl,fun h => by simp at h,fun _ => ⟨rfl,rfl⟩⟩
  | succ k ih =>
    intro m hm left A B h0 h1 hall
    have hle : (m : Int) ≤ 8 := by omega
    obtain ⟨⟨s1,ok1,w⟩,e,hp⟩ := search_ok xs strip saw m hl hst hsa hxs (by omega) xs.length 1000 (by omega) [] [] left (by simp) (by intro x hx; cases hx) (by simp) h0 h1
    rw [List.length_nil,List.drop_zero] at hp
    rw [impl_CutRibs_p2_eq]
    simp only [hle,decide_true,if_true,e,Option.bind_some]
    rcases hp with ⟨q1,q2,ps,f,l',q3,q4,q5,q6⟩ | ⟨q1,q2,⟨l',q3,q4,q5⟩,q6⟩ | ⟨q1,q2⟩
    ·simp only at q1 q2 q6
     subst q1
     subst q2
     subst q6
     simp only [Bool.not_true,Bool.false_eq_true,if_false,if_true,List.nil_append,List.take_length]
     have hpl : ps.length = xs.length := by rw [q3,List.length_map]
     have := hall ps f hpl q4
     exact ⟨_,_,_,rfl,fun _ => ⟨f,hpl,q4,by omega,hall⟩,fun h => absurd rfl h⟩
    ·simp only at q1 q2 q5
     subst q1
     subst q2
     subst q5
     simp only [Bool.not_true,Bool.false_eq_true,if_false]
     have hw : IntKind.i64.wrap ((m : Int) + 1) = ((m + 1 : Nat) : Int) := wsucc (by omega)
     rw [hw]
     exact ih (m + 1) (by omega) l' [] [] q3 (by omega) fun ps f' hpl hrun => by
      have := q6 ps f' (by rw [hpl,List.length_map]) trivial hrun
      omega
    ·simp only at q1 q2
     subst q1
     subst q2
     simp only [Bool.not_false,if_true]
     exact ⟨_,_,_,rfl,fun h => by simp at h,fun _ => ⟨rfl,rfl⟩⟩
 obtain ⟨p,q,e,f1,f2,f3⟩ := loop 9 0 (by omega) b [] [] (by omega) (by omega) fun ps f' _ _ => by omega
 exact ⟨p,q,e,f1,fun h => ⟨trivial,trivial,trivial,f2 h⟩,f3⟩
theorem runC_app {S : Int} : ∀ {ws ps free f : List Int} {w k : Int} {ws' : List Int},ps.length = ws.length → runC S free ws ps = some f → runC S free (ws ++ w :: ws') (ps ++ [k]) = if k < 0 then none else put1 S w f k.toNat
 | [],[],free,f,w,k,ws',hl,h => by
   simp [runC] at h
   subst h
   simp only [List.nil_append,runC]
   split
   ·rfl
   ·cases put1 S w free k.toNat <;> simp [runC]
 | [],_ :: _,free,f,w,k,ws',hl,h => by simp at hl
 | _ :: _,[],free,f,w,k,ws',hl,h => by simp at hl
 | w0 :: ws,k0 :: ps,free,f,w,k,ws',hl,h => by
   simp only [runC,List.cons_append] at h ⊢
   split at h
   ·cases h
   ·rename_i hk0
    rw [if_neg hk0]
    obtain ⟨f1,e1,e2⟩ := Option.bind_eq_some_iff.1 h
    rw [e1,Option.bind_some]
    exact runC_app (by simpa using hl) e2
theorem runC_room {S : Int} : ∀ {ws ps free f : List Int},(∀ w,w ∈ ws → 0 ≤ w ∧ w ≤ S) → Room S free → runC S free ws ps = some f → Room S f
 | [],[],free,f,hw,hr,h => by simp [runC] at h; subst h; exact hr
 | [],_ :: _,free,f,hw,hr,h => by simp [runC] at h
 | w :: ws,[],free,f,hw,hr,h => by simp [runC] at h; subst h; exact hr
 | w :: ws,k :: ps,free,f,hw,hr,h => by
   simp only [runC] at h
   split at h
   ·cases h
   ·obtain ⟨f1,e1,e2⟩ := Option.bind_eq_some_iff.1 h
    exact runC_room (fun x hx => hw x (List.mem_cons_of_mem _ hx)) (put1_room (hw w (by simp)) hr e1) e2
theorem first_ok (xs : List T_Mode.ty) (strip saw : Int) (hx : RibsSm xs) (e1 : ribsOk xs = true) (e2 : stripOk strip saw = true) (e4 : tooLong strip xs = false) : ∃ p f,impl_FirstCuts xs strip saw = some (p,(f.length : Int),0) ∧ p.length = xs.length ∧ runC (strip + saw) [] (wsP saw xs) p = some f := by
 obtain ⟨hl,hr⟩ := ribsOk_facts e1
 have e2' := e2
 simp only [stripOk,Bool.and_eq_true] at e2'
 have hst := inR_iff'.1 e2'.1
 have hsa := inR_iff'.1 e2'.2
 have hxs : ∀ x,x ∈ xs → 1 ≤ rl x ∧ rl x ≤ strip := fun x hm => ⟨(hr x hm).1,tooLong_no e4 x hm⟩
 rw [impl_FirstCuts_eq,valid_ok xs hx,isStrip_ok,e1,e2,tooLong_ok xs hl,e4]
 simp only [Option.bind_some,Bool.not_true,Bool.false_eq_true,if_false]
 have hwd : ∀ i (hi : i < xs.length),wsP saw xs = wsP saw (xs.take i) ++ (rl xs[i] + saw) :: wsP saw (xs.drop (i + 1)) := fun i hi => by
  have : xs = xs.take i ++ xs[i] :: xs.drop (i + 1) := by rw [← drop_cons hi,List.take_append_drop]
  unfold wsP
  exact (congrArg (List.map fun x => rl x + saw) this).trans (by rw [List.map_append]; rfl)
 have hwt : ∀ i (hi : i < xs.length),wsP saw (xs.take (i + 1)) = wsP saw (xs.take i) ++ [rl xs[i] + saw] := fun i hi => by
  unfold wsP
  rw [List.take_succ_eq_append_getElem hi,List.map_append]; rfl
 have hwb : ∀ ys : List T_Mode.ty,(∀ x,x ∈ ys → x ∈ xs) → ∀ w,w ∈ wsP saw ys → 0 ≤ w ∧ w ≤ strip + saw := fun ys hys w hw => by
  obtain ⟨x,hx,rfl⟩ := List.mem_map.1 hw
  have := hxs x (hys x hx)
  omega
 have outer : ∀ (k i : Nat),i + k = xs.length → ∀ (free places : List Int),places.length = i → free.length ≤ i → runC (strip + saw) [] (wsP saw (xs.take i)) places = some free →
  ∃ p f,impl_FirstCuts_p0 (xs.length : Int) i xs strip saw 0 0 free places = some (p,(f.length : Int),0) ∧ p.length = xs.length ∧ runC (strip + saw) [] (wsP saw xs) p = some f := by
  intro k
  induction k with
  | zero =>
    intro i hi free places hpl hfl hrun
    have : ¬ (i : Int) < (xs.length : Int) := by omega
    rw [impl_FirstCuts_p0_eq]
    simp only [this,decide_false,Bool.false_eq_true,if_false,List.take_length]
    rw [List.take_of_length_le (by omega)] at hrun
    exact ⟨places,free,rfl,by omega,hrun⟩
  | succ k ih =>
    intro i hi free places hpl hfl hrun
    have hil : i < xs.length := by omega
    have hlt : (i : Int) < (xs.length : Int) := by omega
    have hxi := hxs xs[i] (List.getElem_mem hil)
    have hroom : Room (strip + saw) free := runC_room (hwb (xs.take i) fun x hx => List.mem_of_mem_take hx) (by intro x hx; cases hx) hrun
    rw [impl_FirstCuts_p0_eq]
    simp only [hlt,decide_true,if_true]
    have inner : ∀ (c q : Nat),q + c = free.length → ∃ p f,impl_FirstCuts_p1 q (xs.length : Int) i xs strip saw 0 0 free places = some (p,(f.length : Int),0) ∧ p.length = xs.length ∧ runC (strip + saw) [] (wsP saw xs) p = some f := by
     have done : ∀ (q : Nat),q ≤ free.length → ∀ b F,put1 (strip + saw) (rl xs[i] + saw) free q = some F → impl_cutting_take (xs,strip,saw,free,places,0,0,()) q = some (b,true,(xs,strip,saw,F,places ++ [(q : Int)],0,0,())) → ∃ p f,impl_FirstCuts_p1 q (xs.length : Int) i xs strip saw 0 0 free places = some (p,(f.length : Int),0) ∧ p.length = xs.length ∧ runC (strip + saw) [] (wsP saw xs) p = some f := fun q hq b F hput htake => by
      rw [impl_FirstCuts_p1_eq]
      simp only [List.take_length,htake,Option.bind_some,if_true,wsucc (show i < 4611686018427387904 by omega)]
      refine ih (i + 1) (by omega) F (places ++ [(q : Int)]) (by simp; omega) ?_ ?_
      ·unfold put1 at hput
       split at hput
       ·split at hput
        ·cases hput; simp; omega
        ·cases hput
       ·split at hput
        ·cases hput; simp; omega
        ·cases hput
      ·rw [hwt i hil,runC_app (by unfold wsP; rw [List.length_map,List.length_take]; omega) hrun,if_neg (by omega),Int.toNat_natCast]
       exact hput
     intro c
     induction c with
     | zero =>
       intro q hq
       have hpli : places.length < xs.length := by omega
       obtain ⟨b,F,_,_,hqF,hcase⟩ := take_ok xs strip saw 0 0 free places q hl (by omega) hst hsa hpli (by subst hpl; exact hxi) hroom (by omega)
       subst hpl
       rcases hcase with ⟨hnone,hlt,_⟩ | ⟨hsome,e⟩
       ·omega
       ·exact done q (by omega) b F hsome e
     | succ c ihc =>
       intro q hq
       have hpli : places.length < xs.length := by omega
       obtain ⟨b,F,_,_,hqF,hcase⟩ := take_ok xs strip saw 0 0 free places q hl (by omega) hst hsa hpli (by subst hpl; exact hxi) hroom (by omega)
       subst hpl
       rcases hcase with ⟨hnone,hlt,rfl,e⟩ | ⟨hsome,e⟩
       ·rw [impl_FirstCuts_p1_eq]
        simp only [List.take_length,e,Option.bind_some,Bool.false_eq_true,if_false,wsucc (show q < 4611686018427387904 by omega)]
        exact ihc (q + 1) (by omega)
       ·exact done q (by omega) b F hsome e
    exact inner free.length 0 (by omega)
 exact outer xs.length 0 (by omega) [] [] rfl (by simp) (by simp [wsP,runC])
theorem left_ok (xs : List T_Mode.ty) (strip saw : Int) (hx : RibsSm xs) (e1 : ribsOk xs = true) (e2 : stripOk strip saw = true) (e4 : tooLong strip xs = false) (p f : List Int) (hp : p.length = xs.length) (hrun : runC (strip + saw) [] (wsP saw xs) p = some f) : impl_StripsLeft xs p strip saw = some (f,0) := by
 obtain ⟨hl,hr⟩ := ribsOk_facts e1
 have e2' := e2
 simp only [stripOk,Bool.and_eq_true] at e2'
 have hst := inR_iff'.1 e2'.1
 have hsa := inR_iff'.1 e2'.2
 have hxs : ∀ x,x ∈ xs → 1 ≤ rl x ∧ rl x ≤ strip := fun x hm => ⟨(hr x hm).1,tooLong_no e4 x hm⟩
 have hroomf : Room (strip + saw) f := runC_room (fun w hw => by
  obtain ⟨x,hx,rfl⟩ := List.mem_map.1 hw
  have := hxs x hx
  omega) (by intro x hx; cases hx) hrun
 have hpl : ((p.length : Int) != (xs.length : Int)) = false := by simp; omega
 have p2 : ∀ (k i : Nat),i + k = f.length → f.length ≤ 100 → impl_StripsLeft_p2 f.length f.length (f.length : Int) i f = some (f,0) := by
  intro k
  induction k with
  | zero =>
    intro i hi h100
    have : ¬ (i : Int) < (f.length : Int) := by omega
    rw [impl_StripsLeft_p2_eq]
    simp only [this,decide_false,Bool.false_eq_true,if_false,List.take_length]
  | succ k ih =>
    intro i hi h100
    have hil : i < f.length := by omega
    have hlt : (i : Int) < (f.length : Int) := by omega
    have hb := hroomf f[i] (List.getElem_mem hil)
    have hn : ¬ f[i] < 0 := by omega
    rw [impl_StripsLeft_p2_eq]
    simp only [hlt,decide_true,if_true,Int.natCast_nonneg,Bool.and_self,Int.toNat_natCast,getElem?_lt hil,Option.bind_some,hn,decide_false,Bool.false_eq_true,if_false,wsucc (show i < 4611686018427387904 by omega)]
    exact ih (i + 1) (by omega) h100
 have p0 : ∀ (k i : Nat),i + k = xs.length → ∀ (free : List Int),free.length ≤ i → Room (strip + saw) free → runC (strip + saw) free (wsP saw (xs.drop i)) (p.drop i) = some f → impl_StripsLeft_p0 xs strip saw free.length p (p.length : Int) i free = some (f,0) := by
  intro k
  induction k with
  | zero =>
    intro i hi free hfl hrm hrun
    have : ¬ (i : Int) < (p.length : Int) := by omega
    rw [List.drop_of_length_le (show xs.length ≤ i by omega),List.drop_of_length_le (show p.length ≤ i by omega)] at hrun
    simp [wsP,runC] at hrun
    subst hrun
    rw [impl_StripsLeft_p0_eq]
    simp only [this,decide_false,Bool.false_eq_true,if_false]
    exact p2 free.length 0 (by omega) (by omega)
  | succ k ih =>
    intro i hi free hfl hrm hrun
    have hil : i < xs.length := by omega
    have hip : i < p.length := by omega
    have hlt : (i : Int) < (p.length : Int) := by omega
    have hxi := hxs xs[i] (List.getElem_mem hil)
    have e0 : (xs[i].2.1 : Int) = rl xs[i] := rfl
    rw [drop_cons hil,drop_cons hip] at hrun
    simp only [wsP,List.map_cons,runC] at hrun
    split at hrun
    ·cases hrun
    ·rename_i hneg
     obtain ⟨f1,h1,h2⟩ := Option.bind_eq_some_iff.1 hrun
     have hlen := put1_len h1
     have hrm1 := put1_room (by omega) hrm h1
     have hin : inR p[i] 0 (free.length : Int) = true := inR_iff'.2 (by omega)
     have w1 : IntKind.i64.wrap (rl xs[i] + saw) = rl xs[i] + saw := w64 (by omega) (by omega)
     have w2 : IntKind.i64.wrap (strip + saw) = strip + saw := w64 (by omega) (by omega)
     have hp0 : 0 ≤ p[i] := by omega
     rw [impl_StripsLeft_p0_eq]
     simp only [hlt,decide_true,if_true,Int.natCast_nonneg,Int.toNat_natCast,getElem?_lt hip,Option.bind_some,impl_within_ok,hin,Bool.not_true,Bool.false_eq_true,if_false]
     unfold put1 at h1
     by_cases hk : p[i].toNat < free.length
     ·rw [if_pos hk,getElem?_lt hk,Option.getD_some] at h1
      split at h1
      ·rename_i hle
       cases h1
       have hb := hrm free[p[i].toNat] (List.getElem_mem hk)
       have hne : (p[i] == (free.length : Int)) = false := by simp; omega
       have hpl' : p[i] < (free.length : Int) := by omega
       simp only [hne,Bool.false_eq_true,if_false,impl_StripsLeft_p1_eq,hp0,hpl',decide_true,Bool.and_self,if_true,getElem?_lt hk,Option.bind_some,Int.natCast_nonneg,Int.toNat_natCast,getElem?_lt hil,e0,w1,w64 (n := free[p[i].toNat] - (rl xs[i] + saw)) (by omega) (by omega),wsucc (show i < 4611686018427387904 by omega)]
       have := ih (i + 1) (by omega) _ (by simp; omega) hrm1 h2
       rw [List.length_set] at this
       exact this
      ·cases h1
     ·rw [if_neg hk] at h1
      split at h1
      ·rename_i hke
       cases h1
       have hne : (p[i] == (free.length : Int)) = true := by simp; omega
       have hlim : free.length + 1 < lim := by rw [lim_eq]; omega
       have hpl' : p[i] < ((free ++ [strip + saw]).length : Int) := by simp; omega
       have hg : (free ++ [strip + saw])[p[i].toNat]? = some (strip + saw) := by rw [hke]; simp
       have hset : (free ++ [strip + saw]).set p[i].toNat (strip + saw - (rl xs[i] + saw)) = free ++ [strip + saw - (rl xs[i] + saw)] := by rw [hke]; simp
       have hlen2 : (free ++ [strip + saw]).length = (free ++ [strip + saw - (rl xs[i] + saw)]).length := by simp
       simp only [hne,if_true,hlim,decide_true,List.take_length,w2,impl_StripsLeft_p1_eq,hp0,hpl',Bool.and_self,hg,Option.bind_some,Int.natCast_nonneg,Int.toNat_natCast,getElem?_lt hil,e0,w1,w64 (n := strip + saw - (rl xs[i] + saw)) (by omega) (by omega),wsucc (show i < 4611686018427387904 by omega),hset]
       rw [hlen2]
       exact ih (i + 1) (by omega) _ (by simp; omega) hrm1 h2
      ·cases h1
 rw [impl_StripsLeft_eq,valid_ok xs hx,isStrip_ok,e1,e2]
 simp only [Option.bind_some,Bool.not_true,Bool.false_eq_true,if_false,hpl]
 exact p0 xs.length 0 (by omega) [] (by simp) (by intro x hx; cases hx) hrun
theorem put1_sum {S w : Int} {free f : List Int} {k : Nat} (h : put1 S w free k = some f) : isum f + w = isum free + S * ((f.length : Int) - free.length) := by
 unfold put1 at h
 split at h
 ·rename_i hk
  split at h
  ·cases h
   rw [isum_set free k _ hk,getElem?_lt hk,Option.getD_some,List.length_set,Int.sub_self,Int.mul_zero]; omega
  ·cases h
 ·split at h
  ·cases h
   rw [isum_app,List.length_append]
   simp only [isum,List.length_cons,List.length_nil]
   rw [show (((free.length + (0 + 1) : Nat) : Int) - free.length) = 1 by omega,Int.mul_one]; omega
  ·cases h
theorem runC_sum {S : Int} : ∀ {ws ps free f : List Int},ps.length = ws.length → runC S free ws ps = some f → isum f + isum ws = isum free + S * ((f.length : Int) - free.length)
 | [],[],free,f,hl,h => by simp [runC] at h; subst h; simp [isum]
 | [],_ :: _,free,f,hl,h => by simp [runC] at h
 | w :: ws,[],free,f,hl,h => by simp at hl
 | w :: ws,k :: ps,free,f,hl,h => by
   simp only [runC] at h
   split at h
   ·cases h
   ·obtain ⟨f1,e1,e2⟩ := Option.bind_eq_some_iff.1 h
    have h1 := put1_sum e1
    have h2 := runC_sum (by simpa using hl) e2
    rw [isum,show S * ((f.length : Int) - free.length) = S * ((f.length : Int) - f1.length) + S * ((f1.length : Int) - free.length) by rw [← Int.mul_add]; congr 1; omega]
    omega
theorem runC_top {S T : Int} : ∀ {ws ps free f : List Int},(∀ w,w ∈ ws → S - T ≤ w ∧ 0 ≤ w) → (∀ x ∈ free,x ≤ T) → runC S free ws ps = some f → ∀ x ∈ f,x ≤ T
 | [],[],free,f,hw,hr,h => by simp [runC] at h; subst h; exact hr
 | [],_ :: _,free,f,hw,hr,h => by simp [runC] at h
 | w :: ws,[],free,f,hw,hr,h => by simp [runC] at h; subst h; exact hr
 | w :: ws,k :: ps,free,f,hw,hr,h => by
   simp only [runC] at h
   split at h
   ·cases h
   ·obtain ⟨f1,e1,e2⟩ := Option.bind_eq_some_iff.1 h
    have hw0 := hw w (by simp)
    refine runC_top (fun x hx => hw x (List.mem_cons_of_mem _ hx)) (fun x hx => ?_) e2
    unfold put1 at e1
    split at e1
    ·rename_i hk
     split at e1
     ·cases e1
      rcases List.mem_or_eq_of_mem_set hx with hx | rfl
      ·exact hr x hx
      ·rw [getElem?_lt hk,Option.getD_some]
       have := hr free[k.toNat] (List.getElem_mem hk)
       omega
     ·cases e1
    ·split at e1
     ·cases e1
      rcases List.mem_append.1 hx with hx | hx
      ·exact hr x hx
      ·simp at hx; omega
     ·cases e1
theorem runC_cnt {S : Int} : ∀ {ws ps free f : List Int},runC S free ws ps = some f → f.length ≤ free.length + ws.length
 | [],[],free,f,h => by simp [runC] at h; subst h; simp
 | [],_ :: _,free,f,h => by simp [runC] at h
 | w :: ws,[],free,f,h => by simp [runC] at h; subst h; omega
 | w :: ws,k :: ps,free,f,h => by
   simp only [runC] at h
   split at h
   ·cases h
   ·obtain ⟨f1,e1,e2⟩ := Option.bind_eq_some_iff.1 h
    have h2 := runC_cnt e2
    unfold put1 at e1
    split at e1
    ·split at e1
     ·cases e1; simp at h2 ⊢; omega
     ·cases e1
    ·split at e1
     ·cases e1; simp at h2 ⊢; omega
     ·cases e1
theorem law_p5 (v0 : List Int) (h0 : ∀ x,x ∈ v0 → 0 ≤ x ∧ x ≤ 255) (h0l : v0.length ≤ 1048576) : laws_FnRibs_p5 v0 = some true := by
 obtain ⟨s,e0,k0⟩ := from_ok v0 h0 h0l
 obtain ⟨th,s1,e1,k1,_⟩ := among_ok k0 (by omega) [0,1,10,12,15,100,101] (by decide) (by decide)
 obtain ⟨he,s2,e2,k2,_⟩ := among_ok k1 (by omega) [0,1,20,60,150,1000,1001] (by decide) (by decide)
 obtain ⟨st,s3,e3,k3,_⟩ := among_ok k2 (by omega) [0,1,3,10,100,101,(-1)] (by decide) (by decide)
 rw [laws_FnRibs_p5_eq,spec_DrawLeastBend_eq,e0]
 simp only [Option.bind_some,src_eta,spec_l06DrawThick_eq,spec_l06DrawHeat_eq,e1,e2,e3,impl_LeastBend_eq,impl_isBend_eq,impl_within_ok]
 cases b1 : inR th 1 100
 ·rfl
 cases b2 : inR he 1 1000
 ·rfl
 cases b3 : inR st 0 100
 ·rfl
 have hth := inR_iff'.1 b1
 have hhe := inR_iff'.1 b2
 simp only [if_true,Bool.not_true,Bool.false_eq_true,if_false,Option.bind_some,impl_LeastBend_p0_eq]
 have bs : ∀ r : Int,1 ≤ r → r ≤ 10000 → ∃ x : Int,impl_bendSteps r th he = some x := fun r h1 h2 => by
  rw [impl_bendSteps_eq]
  have : ¬ r = 0 := by omega
  simp only [this,decide_false,Bool.false_eq_true,if_false]
  exact ⟨_,rfl⟩
 have loop : ∀ (k i : Nat),1 ≤ i → i + k = 10001 → (∀ r : Int,r = (i : Int) - 1 → 1 ≤ r → ∃ x,impl_bendSteps r th he = some x ∧ ¬ x ≤ st) →
  impl_LeastBend_p1 th he st i = some (0,3) ∨ ∃ (j : Nat) (x : Int),1 ≤ j ∧ j ≤ 10000 ∧ impl_LeastBend_p1 th he st i = some ((j : Int),0) ∧ impl_bendSteps (j : Int) th he = some x ∧ x ≤ st ∧ ∀ r : Int,r = (j : Int) - 1 → 1 ≤ r → ∃ x,impl_bendSteps r th he = some x ∧ ¬ x ≤ st := by
  intro k
  induction k with
  | zero =>
    intro i h1 hi hp
    have : ¬ (i : Int) ≤ 10000 := by omega
    rw [impl_LeastBend_p1_eq]
    simp only [this,decide_false,Bool.false_eq_true,if_false]
    exact .inl trivial
  | succ k ih =>
    intro i h1 hi hp
    have hle : (i : Int) ≤ 10000 := by omega
    obtain ⟨x,hx⟩ := bs i (by omega) hle
    rw [impl_LeastBend_p1_eq]
    simp only [hle,decide_true,if_true,hx,Option.bind_some,decide_eq_true_eq]
    by_cases hc : x ≤ st
    ·simp only [hc,if_true]
     exact .inr ⟨i,x,h1,by omega,rfl,hx,hc,hp⟩
    ·simp only [hc,if_false,wsucc (show i < 4611686018427387904 by omega)]
     exact ih (i + 1) (by omega) (by omega) fun r hr _ => ⟨x,by rw [show r = (i : Int) by omega]; exact hx,hc⟩
 rcases loop 10000 1 (by omega) (by omega) (fun r hr h1 => by omega) with h | ⟨j,x,j1,j2,h,hx,hxs,hp⟩
 ·have h : impl_LeastBend_p1 th he st 1 = some (0,3) := h
  rw [h]; rfl
 ·have h : impl_LeastBend_p1 th he st 1 = some ((j : Int),0) := h
  have hj : inR (j : Int) 1 10000 = true := inR_iff'.2 (by omega)
  have hn : ¬ x > st := by omega
  rw [h]
  simp only [Option.bind_some,beq_self_eq_true,if_true,impl_BendSteps_eq,impl_within_ok,hj,Bool.not_true,Bool.false_eq_true,if_false,impl_isBend_eq,b1,b2,impl_BendSteps_p0_eq,hx,bne_self_eq_false,hn,decide_false,w64 (n := (j : Int) - 1) (by omega) (by omega)]
  cases hj1 : inR ((j : Int) - 1) 1 10000
  ·rfl
  ·have hj2 := inR_iff'.1 hj1
   obtain ⟨y,hy,hys⟩ := hp _ rfl hj2.1
   simp only [Bool.not_true,Bool.false_eq_true,if_false,if_true,Option.bind_some,hy,beq_self_eq_true,hys,decide_false]
theorem rdivP_mono' {a a' b : Int} (h : a ≤ a') (hb : 1 ≤ b ∧ b ≤ 7) : rdivP a b ≤ rdivP a' b := by
 have : b = 1 ∨ b = 2 ∨ b = 3 ∨ b = 4 ∨ b = 5 ∨ b = 6 ∨ b = 7 := by omega
 rcases this with rfl | rfl | rfl | rfl | rfl | rfl | rfl <;> (unfold rdivP; split <;> split <;> omega)
theorem rdivP_exact {d b : Int} (hb : 1 ≤ b ∧ b ≤ 7) : rdivP (d * b) b = d := by
 have : b = 1 ∨ b = 2 ∨ b = 3 ∨ b = 4 ∨ b = 5 ∨ b = 6 ∨ b = 7 := by omega
 rcases this with rfl | rfl | rfl | rfl | rfl | rfl | rfl <;> (unfold rdivP; split <;> omega)
theorem rdivP_zero {b : Int} (hb : 1 ≤ b ∧ b ≤ 7) : rdivP 0 b = 0 := by
 have := rdivP_exact (d := 0) hb
 rwa [Int.zero_mul] at this
def ht (a b n : Int) (i : Nat) : Int := a + rdivP ((b - a) * (i : Int)) (n - 1)
theorem ht_first {a b n : Int} (hn : 2 ≤ n ∧ n ≤ 8) : ht a b n 0 = a := by
 unfold ht
 rw [show ((0 : Nat) : Int) = 0 from rfl,Int.mul_zero,rdivP_zero (by omega)]; omega
theorem ht_last {a b n : Int} (hn : 2 ≤ n ∧ n ≤ 8) {i : Nat} (hi : (i : Int) = n - 1) : ht a b n i = b := by
 unfold ht
 rw [hi,rdivP_exact (by omega)]; omega
theorem ht_up {a b n : Int} (hn : 2 ≤ n ∧ n ≤ 8) (h : a ≤ b) (i : Nat) : ht a b n i ≤ ht a b n (i + 1) := by
 unfold ht
 have : (b - a) * (i : Int) ≤ (b - a) * ((i + 1 : Nat) : Int) := Int.mul_le_mul_of_nonneg_left (by omega) (by omega)
 have := rdivP_mono' (b := n - 1) this (by omega)
 omega
theorem ht_down {a b n : Int} (hn : 2 ≤ n ∧ n ≤ 8) (h : b ≤ a) (i : Nat) : ht a b n (i + 1) ≤ ht a b n i := by
 unfold ht
 have h1 : (a - b) * (i : Int) ≤ (a - b) * ((i + 1 : Nat) : Int) := Int.mul_le_mul_of_nonneg_left (by omega) (by omega)
 have e : ∀ k : Int,(b - a) * k = -((a - b) * k) := fun k => by rw [← Int.neg_mul]; congr 1; omega
 have := rdivP_mono' (b := n - 1) (a := (b - a) * ((i + 1 : Nat) : Int)) (a' := (b - a) * (i : Int)) (by rw [e,e]; omega) (by omega)
 omega
theorem blend_ok (a b n : Int) (ha : 1 ≤ a ∧ a ≤ 10000) (hb : 1 ≤ b ∧ b ≤ 10000) (hn : 2 ≤ n ∧ n ≤ 8) (i : Nat) (hi : (i : Int) < n) : impl_blend 0 a (n - 1) b i = some (ht a b n i) := by
 rw [impl_blend_eq]
 by_cases h0 : (i : Int) ≤ 0
 ·have : i = 0 := by omega
  subst this
  simp only [h0,decide_true,if_true]
  rw [ht_first hn]
 ·have c2 : ¬ n - 1 ≤ 0 := by omega
  simp only [h0,c2,decide_false,Bool.false_eq_true,if_false,decide_eq_true_eq]
  by_cases h1 : (i : Int) ≥ n - 1
  ·simp only [h1,if_true]
   rw [ht_last hn (by omega)]
  ·have hm : -(10000 * 7) ≤ (b - a) * (i : Int) ∧ (b - a) * (i : Int) ≤ 10000 * 7 := by
    have h2 := mul_bd (b := (i : Int)) (d := b - a) (B := 7) (D := 10000) (by omega) (by omega)
    rw [Int.mul_comm (i : Int) (b - a)] at h2
    omega
   have hr := rdivP_bd (a := (b - a) * (i : Int)) (b := n - 1) (m := 70000) (by omega) (by omega)
   simp only [h1,if_false,impl_blend_p0_eq,Int.sub_zero,w64 (n := b - a) (by omega) (by omega),w64 (n := (i : Int)) (by omega) (by omega),w64 (n := n - 1) (by omega) (by omega),w64 (n := (b - a) * (i : Int)) (by omega) (by omega),impl_divRound_ok ((b - a) * (i : Int)) (n - 1) (by omega) (by omega),Option.bind_some,w64 (n := a + rdivP ((b - a) * (i : Int)) (n - 1)) (by omega) (by omega)]
   rfl
def hts (a b n : Int) (k : Nat) : List Int := (List.range k).map (ht a b n)
theorem taper_ok (a b n : Int) : ∃ hs e,impl_TaperHeights a b n = some (hs,e) ∧ (e = 0 → (1 ≤ a ∧ a ≤ 10000) ∧ (1 ≤ b ∧ b ≤ 10000) ∧ (2 ≤ n ∧ n ≤ 8) ∧ hs = hts a b n n.toNat) ∧ (e ≠ 0 → hs = []) := by
 rw [impl_TaperHeights_eq]
 simp only [impl_within_ok,Option.bind_some]
 cases b1 : inR a 1 10000
 ·exact ⟨_,_,rfl,fun h => by simp at h,fun _ => rfl⟩
 cases b2 : inR b 1 10000
 ·exact ⟨_,_,rfl,fun h => by simp at h,fun _ => rfl⟩
 cases b3 : inR n 2 8
 ·exact ⟨_,_,rfl,fun h => by simp at h,fun _ => rfl⟩
 have ha := inR_iff'.1 b1
 have hb := inR_iff'.1 b2
 have hn := inR_iff'.1 b3
 simp only [Bool.not_true,Bool.false_eq_true,if_false,impl_TaperHeights_p0_eq]
 have loop : ∀ (k i : Nat),(i : Int) + k = n → impl_TaperHeights_p1 a b n n i (hts a b n i) = some (hts a b n n.toNat,0) := by
  intro k
  induction k with
  | zero =>
    intro i hi
    have : ¬ (i : Int) < n := by omega
    obtain rfl : i = n.toNat := by omega
    rw [impl_TaperHeights_p1_eq]
    simp only [this,decide_false,Bool.false_eq_true,if_false,List.take_length]
  | succ k ih =>
    intro i hi
    have hlt : (i : Int) < n := by omega
    have hl : (hts a b n i).length = i := by simp [hts]
    have hlim : (hts a b n i).length + 1 < lim := by rw [lim_eq,hl]; omega
    have hnext : hts a b n i ++ [ht a b n i] = hts a b n (i + 1) := by
     unfold hts; rw [List.range_succ,List.map_append]; rfl
    rw [impl_TaperHeights_p1_eq]
    simp only [hlt,decide_true,if_true,w64 (n := n - 1) (by omega) (by omega),blend_ok a b n ha hb hn i hlt,Option.bind_some,hlim,List.take_length,hnext,wsucc (show i < 4611686018427387904 by omega)]
    exact ih (i + 1) (by omega)
 have := loop n.toNat 0 (by omega)
 exact ⟨_,_,this,fun _ => ⟨ha,hb,hn,rfl⟩,fun h => absurd rfl h⟩
theorem law_p7 (v0 : List Int) (h0 : ∀ x,x ∈ v0 → 0 ≤ x ∧ x ≤ 255) (h0l : v0.length ≤ 1048576) (a b n : Int) (hn : 2 ≤ n ∧ n ≤ 8) : ∀ (k i : Nat),1 ≤ i → (i : Int) + k = n → laws_FnRibs_p7 v0 a b n i (hts a b n n.toNat) = some true
 | 0,i,h1,hi => by
   have : ¬ (i : Int) < n := by omega
   rw [laws_FnRibs_p7_eq]
   simp only [this,decide_false,Bool.false_eq_true,if_false]
   exact law_p5 v0 h0 h0l
 | k + 1,i,h1,hi => by
   obtain ⟨j,rfl⟩ : ∃ j,i = j + 1 := ⟨i - 1,by omega⟩
   have hlt : ((j + 1 : Nat) : Int) < n := by omega
   have hl : (hts a b n n.toNat).length = n.toNat := by simp [hts]
   have hg : ∀ q : Nat,(q : Int) < n → (hts a b n n.toNat)[q]? = some (ht a b n q) := fun q hq => by
    unfold hts
    rw [List.getElem?_map,List.getElem?_range (by omega)]; rfl
   have c0 : IntKind.i64.wrap (((j + 1 : Nat) : Int) - 1) = (j : Int) := by rw [w64 (by omega) (by omega)]; omega
   have c1 : (j : Int) < ((hts a b n n.toNat).length : Int) := by omega
   have c2 : ((j + 1 : Nat) : Int) < ((hts a b n n.toNat).length : Int) := by omega
   have ih := law_p7 v0 h0 h0l a b n hn k (j + 1 + 1) (by omega) (by omega)
   rw [laws_FnRibs_p7_eq]
   simp only [hlt,decide_true,if_true,c0,c1,c2,Int.natCast_nonneg,Bool.and_self,Int.toNat_natCast,hg j (by omega),hg (j + 1) hlt,Option.bind_some,wsucc (show j + 1 < 4611686018427387904 by omega),ih,decide_eq_true_eq]
   by_cases hab : a ≤ b
   ·have hu := ht_up hn hab j
    have n1 : ¬ ht a b n j > ht a b n (j + 1) := by omega
    simp only [hab,if_true,n1,if_false]
    by_cases hba : a ≥ b
    ·have hd := ht_down hn hba j
     have n2 : ¬ ht a b n j < ht a b n (j + 1) := by omega
     simp only [hba,if_true,n2,if_false]
    ·simp only [hba,if_false]
   ·have hba : a ≥ b := by omega
    have hd := ht_down hn hba j
    have n2 : ¬ ht a b n j < ht a b n (j + 1) := by omega
    simp only [hab,if_false,hba,if_true,n2]
theorem size_draw {s : T_l00Src.ty} {c : Int} (hs : SrcOk s c) (hc : c ≤ 1000000000) : ∃ (x : Int) (s' : T_l00Src.ty),spec_l06DrawSize s = some (x,s') ∧ SrcOk s' (c + 10) := by
 obtain ⟨u,s1,e1,k1⟩ := one_ok hs (by omega) 8 (by omega)
 rw [spec_l06DrawSize_eq]
 simp only [e1,Option.bind_some,src_eta]
 cases u
 ·obtain ⟨v,s2,e2,k2,_⟩ := pick_ok k1 (by omega) 200 (by omega)
  simp only [Bool.false_eq_true,if_false,e2,Option.bind_some,src_eta]
  exact ⟨_,s2,rfl,k2.up (by omega)⟩
 ·obtain ⟨v,s2,e2,k2,_⟩ := among_ok k1 (by omega) [0,1,10000,10001] (by decide) (by decide)
  simp only [if_true,e2,Option.bind_some,src_eta]
  exact ⟨_,s2,rfl,k2.up (by omega)⟩
theorem law_p2 (v0 v1 : List Int) (h0 : ∀ x,x ∈ v0 → 0 ≤ x ∧ x ≤ 255) (h0l : v0.length ≤ 1048576) (h1 : ∀ x,x ∈ v1 → 0 ≤ x ∧ x ≤ 255) (h2 : v1.length ≤ 1048576) : laws_FnRibs_p2 v0 v1 = some true := by
 obtain ⟨s,e0,k0⟩ := from_ok v1 h1 h2
 obtain ⟨a,s1,e1,k1⟩ := size_draw k0 (by omega)
 obtain ⟨b,s2,e2,k2⟩ := size_draw k1 (by omega)
 obtain ⟨n,s3,e3,k3,_⟩ := among_ok k2 (by omega) [1,2,3,5,8,9] (by decide) (by decide)
 obtain ⟨hs,e,f1,f2,f3⟩ := taper_ok a b n
 rw [laws_FnRibs_p2_eq,spec_DrawTaperHeights_eq,e0]
 simp only [Option.bind_some,src_eta,e1,e2,e3,f1]
 by_cases he : e = 0
 ·obtain ⟨ha,hb,hn,hh⟩ := f2 he
  subst he
  subst hh
  have hl : (hts a b n n.toNat).length = n.toNat := by simp [hts]
  have c1 : ¬ n < 2 := by omega
  have c2 : (((hts a b n n.toNat).length : Int) != n) = false := by rw [hl]; simp; omega
  have c3 : (0 : Int) < ((hts a b n n.toNat).length : Int) := by rw [hl]; omega
  have hg : ∀ q : Nat,(q : Int) < n → (hts a b n n.toNat)[q]? = some (ht a b n q) := fun q hq => by
   unfold hts
   rw [List.getElem?_map,List.getElem?_range (by omega)]; rfl
  have g0 := hg 0 (by omega)
  rw [ht_first hn] at g0
  have gl := hg (n - 1).toNat (by omega)
  rw [ht_last hn (by omega)] at gl
  have c4 : (0 : Int) ≤ n - 1 := by omega
  have c5 : n - 1 < ((hts a b n n.toNat).length : Int) := by rw [hl]; omega
  have hp := law_p7 v0 h0 h0l a b n hn (n - 1).toNat 1 (by omega) (by omega)
  have hp : laws_FnRibs_p7 v0 a b n 1 (hts a b n n.toNat) = some true := hp
  simp only [beq_self_eq_true,if_true,c1,c2,c3,g0,gl,c4,c5,decide_true,decide_false,Bool.false_eq_true,if_false,Option.bind_some,bne_self_eq_false,w64 (n := n - 1) (by omega) (by omega),Bool.and_self,laws_FnRibs_p4_eq,hp]
 ·have he' : (e == 0) = false := by simpa using he
  rw [f3 he]
  simp only [he',Bool.false_eq_true,if_false,List.length_nil]
  exact law_p5 v0 h0 h0l
theorem law_p6 (v0 v1 : List Int) (h0 : ∀ x,x ∈ v0 → 0 ≤ x ∧ x ≤ 255) (h0l : v0.length ≤ 1048576) (h1 : ∀ x,x ∈ v1 → 0 ≤ x ∧ x ≤ 255) (h2 : v1.length ≤ 1048576) (xs : List T_Mode.ty) (hl : xs.length ≤ 8) (strip saw : Int) (hst : 1 ≤ strip ∧ strip ≤ 100000) (hsa : 0 ≤ saw ∧ saw ≤ 100) (f : List Int) (hf : f.length ≤ 8) (hb : ∀ x,x ∈ f → 0 ≤ x ∧ x ≤ strip) (tot : Int) (ht : 0 ≤ tot ∧ tot ≤ 80000) (hsum : tot + isum f + saw * ((xs.length : Int) - f.length) = (f.length : Int) * strip) : ∀ (k i : Nat),i + k = f.length →
 laws_FnRibs_p6 v0 v1 xs strip saw (f.length : Int) (tot + isum (f.take i)) i f = some true
 | 0,i,hi => by
   have : ¬ (i : Int) < (f.length : Int) := by omega
   have e : f.take i = f := List.take_of_length_le (by omega)
   have hfb := isum_bd (m := 100000) f fun x hx => by have := hb x hx; omega
   have hm := mul_bd (b := saw) (d := (xs.length : Int) - f.length) (B := 100) (D := 8) (by omega) (by omega)
   have hm2 := mul_bd (b := (f.length : Int)) (d := strip) (B := 8) (D := 100000) (by omega) (by omega)
   have hne : (IntKind.i64.wrap (tot + isum f + IntKind.i64.wrap (saw * IntKind.i64.wrap ((xs.length : Int) - (f.length : Int)))) != IntKind.i64.wrap ((f.length : Int) * strip)) = false := by
    rw [w64 (n := (xs.length : Int) - (f.length : Int)) (by omega) (by omega),w64 (n := saw * ((xs.length : Int) - f.length)) (by omega) (by omega),w64 (n := (f.length : Int) * strip) (by omega) (by omega),hsum,w64 (by omega) (by omega)]
    simp
   rw [laws_FnRibs_p6_eq,e]
   simp only [this,decide_false,Bool.false_eq_true,if_false,hne]
   exact law_p2 v0 v1 h0 h0l h1 h2
 | k + 1,i,hi => by
   have hil : i < f.length := by omega
   have hlt : (i : Int) < (f.length : Int) := by omega
   have hbi := hb f[i] (List.getElem_mem hil)
   have c1 : ¬ f[i] < 0 := by omega
   have c2 : ¬ f[i] > strip := by omega
   have hfb := isum_bd (m := 100000) (f.take i) fun x hx => by have := hb x (List.mem_of_mem_take hx); omega
   rw [List.length_take] at hfb
   have hw : IntKind.i64.wrap (tot + isum (f.take i) + f[i]) = tot + isum (f.take (i + 1)) := by
    rw [isum_take hil,w64 (by omega) (by omega)]; omega
   rw [laws_FnRibs_p6_eq]
   simp only [hlt,decide_true,if_true,Int.natCast_nonneg,Bool.and_self,Int.toNat_natCast,getElem?_lt hil,Option.bind_some,c1,c2,decide_false,Bool.false_eq_true,if_false,laws_FnRibs_p8_eq,hw,wsucc (show i < 4611686018427387904 by omega)]
   exact law_p6 v0 v1 h0 h0l h1 h2 xs hl strip saw hst hsa f hf hb tot ht hsum k (i + 1) (by omega)
theorem law_p3 (v0 v1 : List Int) (xs : List T_Mode.ty) (hl : xs.length ≤ 8) (hr : ∀ x,x ∈ xs → 1 ≤ rl x ∧ rl x ≤ 10000) (strip saw m : Int) (f : List Int) : ∀ (k i : Nat),i + k = xs.length →
 laws_FnRibs_p3 v0 v1 xs strip saw m (isum ((xs.map rl).take i)) i f = laws_FnRibs_p6 v0 v1 xs strip saw m (isum (xs.map rl)) 0 f
 | 0,i,hi => by
   have : ¬ (i : Int) < (xs.length : Int) := by omega
   have e : (xs.map rl).take i = xs.map rl := List.take_of_length_le (by simp; omega)
   rw [laws_FnRibs_p3_eq,e]
   simp only [this,decide_false,Bool.false_eq_true,if_false]
 | k + 1,i,hi => by
   have hil : i < xs.length := by omega
   have hlt : (i : Int) < (xs.length : Int) := by omega
   have hx := hr xs[i] (List.getElem_mem hil)
   have e0 : (xs[i].2.1 : Int) = rl xs[i] := rfl
   have hfb := isum_bd (m := 10000) ((xs.map rl).take i) fun x hx => by
    obtain ⟨y,hy,rfl⟩ := List.mem_map.1 (List.mem_of_mem_take hx)
    have := hr y hy
    omega
   rw [List.length_take,List.length_map] at hfb
   have hw : IntKind.i64.wrap (isum ((xs.map rl).take i) + rl xs[i]) = isum ((xs.map rl).take (i + 1)) := by
    rw [isum_take (l := xs.map rl) (by simpa using hil),List.getElem_map,w64 (by omega) (by omega)]
   rw [laws_FnRibs_p3_eq]
   simp only [hlt,decide_true,if_true,Int.natCast_nonneg,Int.toNat_natCast,getElem?_lt hil,Option.bind_some,e0,hw,wsucc (show i < 4611686018427387904 by omega)]
   exact law_p3 v0 v1 xs hl hr strip saw m f k (i + 1) (by omega)
theorem isum_ws (saw : Int) : ∀ xs : List T_Mode.ty,isum (wsP saw xs) = isum (xs.map rl) + saw * xs.length
 | [] => by simp [wsP,isum]
 | x :: xs => by
   have := isum_ws saw xs
   unfold wsP at this ⊢
   simp only [List.map_cons,isum,this,List.length_cons]
   rw [Int.natCast_add,Int.mul_add]
   simp
   omega
theorem rib_eta (x : T_Mode.ty) : (x.1,x.2.1,x.2.2.1,()) = x := rfl
theorem ribOne {s : T_l00Src.ty} {c : Int} (hs : SrcOk s c) (hc : c ≤ 100000000000000000) (id : List UInt8) (hid : id.length ≤ 100) : ∃ (x : T_Mode.ty) (s' : T_l00Src.ty),spec_l06DrawOne s id = some (x,s') ∧ SrcOk s' (c + 10) ∧ RibSm x := by
 obtain ⟨v1,s1,e1,k1,_⟩ := pick_ok hs (by omega) 160 (by omega)
 obtain ⟨v2,s2,e2,k2,_⟩ := pick_ok k1 (by omega) 20 (by omega)
 rw [spec_l06DrawOne_eq]
 simp only [e1,e2,Option.bind_some,src_eta]
 exact ⟨_,s2,rfl,k2.up (by omega),hid⟩
theorem ribBent {s : T_l00Src.ty} {c : Int} (hs : SrcOk s c) (hc : c ≤ 10000000000000000) (p : T_Mode.ty) (hp : RibSm p) : ∃ (x : T_Mode.ty) (s' : T_l00Src.ty),spec_l06Bent s p = some (x,s') ∧ SrcOk s' (c + 4) ∧ RibSm x := by
 obtain ⟨v,s1,e1,k1,_⟩ := pick_ok hs (by omega) 16 (by omega)
 obtain ⟨a1,t1,f1,g1,_⟩ := among_ok k1 (by omega) [0,1,10000,10001] (by decide) (by decide)
 rw [spec_l06Bent_eq]
 simp only [e1,f1,Option.bind_some,src_eta]
 repeat' split
 all_goals exact ⟨_,_,rfl,SrcOk.up (by first | exact g1 | exact k1) (by omega),hp⟩
theorem rib_draw1 (v6 : Int) (h6 : v6 ≤ 20) : ∀ (k : Nat) (v7 : Int) (s : T_l00Src.ty) (c : Int) (r : List T_Mode.ty),SrcOk s c → c + 20 * k ≤ 1000000 → 0 ≤ v7 → v7 ≤ 20 → (v6 - v7).toNat ≤ k → (r.length : Int) ≤ v7 → (∀ x,x ∈ r → RibSm x) →
 ∃ (xs : List T_Mode.ty) (s' : T_l00Src.ty),spec_l06Draw_p1 v6 v7 s.1 s.2.1 s.2.2.1 r = some (xs,s') ∧ SrcOk s' 1000000 ∧ RibsSm xs
 | 0,v7,s,c,r,hs,hc,h0,h7,hk,hr,hx => by
   have : ¬ v7 < v6 := by omega
   rw [spec_l06Draw_p1_eq]
   simp only [this,decide_false,Bool.false_eq_true,if_false,List.take_length]
   exact ⟨_,_,rfl,hs.up (by omega),by omega,hx⟩
 | k + 1,v7,s,c,r,hs,hc,h0,h7,hk,hr,hx => by
   rw [spec_l06Draw_p1_eq]
   by_cases hlt : v7 < v6
   ·have hd := itoa_len v7 (by omega)
    have hst : [(110 : UInt8)].length + (Lib.itoa v7).length ≤ strMax := by rw [strMax_eq]; simp only [List.length_cons,List.length_nil]; omega
    have hw : IntKind.i64.wrap (v7 + 1) = v7 + 1 := w64 (by omega) (by omega)
    obtain ⟨x,s1,e1,k1,m1⟩ := ribOne hs (by omega) ([110] ++ Lib.itoa v7) (by simp only [List.length_append,List.length_cons,List.length_nil]; omega)
    have hlim : r.length + 1 < lim := by rw [lim_eq]; omega
    simp only [hlt,decide_true,if_true,spec_l01Dec_itoa v7 ⟨by omega,by omega⟩,Option.bind_some,src_eta]
    refine Exists.imp (fun _ => Exists.imp fun _ h => And.imp (fun h => (if_pos (decide_eq_true hst)).trans h) id h) ?_
    simp only [e1,Option.bind_some,src_eta,rib_eta,hlim,decide_true,if_true,List.take_length,hw]
    refine rib_draw1 v6 h6 k (v7 + 1) s1 (c + 10) (r ++ [x]) k1 (by omega) (by omega) (by omega) (by omega) (by simp only [List.length_append,List.length_cons,List.length_nil]; omega) fun y hy => ?_
    rcases List.mem_append.1 hy with hy | hy
    ·exact hx y hy
    ·rw [List.mem_singleton] at hy; subst hy; exact m1
   ·simp only [hlt,decide_false,Bool.false_eq_true,if_false,List.take_length]
    exact ⟨_,_,rfl,hs.up (by omega),by omega,hx⟩
theorem rib_draw0 (r3 : List (List UInt8)) (h3 : r3.length ≤ 10) (hm : ∀ t,t ∈ r3 → t.length ≤ 100) : ∀ (k i : Nat) (s : T_l00Src.ty) (c : Int) (r : List T_Mode.ty),SrcOk s c → c + 20 * k ≤ 1000 → i + k = r3.length → r.length ≤ i → (∀ x,x ∈ r → RibSm x) →
 ∃ (xs : List T_Mode.ty) (s' : T_l00Src.ty),spec_l06Draw_p0 i s.1 s.2.1 s.2.2.1 r3 r = some (xs,s') ∧ SrcOk s' 1000000 ∧ RibsSm xs
 | 0,i,s,c,r,hs,hc,hk,hr,hx => by
   have : ¬ (i : Int) < (r3.length : Int) := by omega
   rw [spec_l06Draw_p0_eq]
   obtain ⟨v,s1,e1,k1,_⟩ := pick_ok hs (by omega) 20 (by omega)
   simp only [this,decide_false,Bool.false_eq_true,if_false,src_eta,e1,Option.bind_some,List.take_length]
   by_cases h0 : (v == 0) = true
   ·obtain ⟨x,s2,e2,k2,m2⟩ := ribOne k1 (by omega) [122,122] (by decide)
    obtain ⟨y,s3,e3,k3,m3⟩ := ribBent k2 (by omega) x m2
    have hlim : r.length + 1 < lim := by rw [lim_eq]; omega
    simp only [h0,if_true,e2,Option.bind_some,src_eta,rib_eta,e3,hlim,decide_true]
    refine ⟨_,_,rfl,k3.up (by omega),by simp only [List.length_append,List.length_cons,List.length_nil]; omega,fun z hz => ?_⟩
    rcases List.mem_append.1 hz with hz | hz
    ·exact hx z hz
    ·rw [List.mem_singleton] at hz; subst hz; exact m3
   ·have h0' : (v == 0) = false := by simpa using h0
    simp only [h0',Bool.false_eq_true,if_false]
    by_cases h1 : (v == 1) = true
    ·obtain ⟨a,t1,f1,g1,ma⟩ := among_ok k1 (by omega) [8,9] (by decide) (by decide)
     have ha : a ≤ 20 := by simp at ma; omega
     simp only [h1,if_true,f1,Option.bind_some,src_eta]
     exact rib_draw1 a ha 20 0 t1 (c + 2 + 2) [] g1 (by omega) (by omega) (by omega) (by omega) (by simp) (fun x hx => by cases hx)
    ·have h1' : (v == 1) = false := by simpa using h1
     simp only [h1',Bool.false_eq_true,if_false]
     exact ⟨_,_,rfl,k1.up (by omega),by omega,hx⟩
 | k + 1,i,s,c,r,hs,hc,hk,hr,hx => by
   have hi : i < r3.length := by omega
   have hlt : (i : Int) < (r3.length : Int) := by omega
   have hw : IntKind.i64.wrap ((i : Int) + 1) = ((i + 1 : Nat) : Int) := wsucc (by omega)
   rw [spec_l06Draw_p0_eq]
   obtain ⟨v,s1,e1,k1⟩ := one_ok hs (by omega) 4 (by omega)
   simp only [hlt,decide_true,if_true,src_eta,e1,Option.bind_some,Int.natCast_nonneg,Bool.and_self,Int.toNat_natCast,List.getElem?_eq_getElem hi,hw,List.take_length]
   cases v
   ·obtain ⟨x,s2,e2,k2,m2⟩ := ribOne k1 (by omega) r3[i] (hm _ (List.getElem_mem hi))
    have hlim : r.length + 1 < lim := by rw [lim_eq]; omega
    simp only [Bool.not_false,if_true,e2,Option.bind_some,src_eta,rib_eta,hlim,decide_true]
    refine rib_draw0 r3 h3 hm k (i + 1) s2 _ (r ++ [x]) k2 (by omega) (by omega) (by simp only [List.length_append,List.length_cons,List.length_nil]; omega) fun y hy => ?_
    rcases List.mem_append.1 hy with hy | hy
    ·exact hx y hy
    ·rw [List.mem_singleton] at hy; subst hy; exact m2
   ·simp only [Bool.not_true,Bool.false_eq_true,if_false]
    exact rib_draw0 r3 h3 hm k (i + 1) s1 _ r k1 (by omega) (by omega) (by omega) hx
theorem rib_draw {s : T_l00Src.ty} (hs : SrcOk s 0) : ∃ (xs : List T_Mode.ty) (s' : T_l00Src.ty),spec_l06Draw s = some (xs,s') ∧ SrcOk s' 1000000 ∧ RibsSm xs := by
 rw [spec_l06Draw_eq]
 exact rib_draw0 [[114,97],[114,98],[114,99],[114,100],[114,101],[114,102]] (by decide) (by decide) 6 0 s 0 [] hs (by omega) rfl (by simp) (fun x hx => by cases hx)
theorem law_core (v0 v1 : List Int) (h0 : ∀ x,x ∈ v0 → 0 ≤ x ∧ x ≤ 255) (h1 : ∀ x,x ∈ v1 → 0 ≤ x ∧ x ≤ 255) : laws_FnRibs v0 v1 = some true := by
 rw [laws_FnRibs_eq,laws_b10Long_eq,laws_b10Long_eq]
 simp only [Option.bind_some,decide_eq_true_eq]
 by_cases c1 : (v0.length : Int) > 1048576
 ·simp [c1]
 by_cases c2 : (v1.length : Int) > 1048576
 ·simp [c2]
 simp only [c1,c2,if_false]
 obtain ⟨s,e0,k0⟩ := from_ok v0 h0 (by omega)
 obtain ⟨xs,s1,e1,k1,m1⟩ := rib_draw k0
 have hstrip : ∃ (x : Int) (s' : T_l00Src.ty),spec_l06DrawStrip s1 = some (x,s') ∧ SrcOk s' 1000010 := by
  obtain ⟨b,t1,f1,g1⟩ := one_ok k1 (by omega) 9 (by omega)
  rw [spec_l06DrawStrip_eq]
  simp only [f1,Option.bind_some,src_eta]
  cases b
  ·obtain ⟨a,t2,f2,g2,_⟩ := pick_ok g1 (by omega) 40 (by omega)
   simp only [Bool.false_eq_true,if_false,f2,Option.bind_some,src_eta]
   exact ⟨_,_,rfl,g2.up (by omega)⟩
  ·obtain ⟨a,t2,f2,g2,_⟩ := among_ok g1 (by omega) [0,1,100000,100001] (by decide) (by decide)
   simp only [if_true,f2,Option.bind_some,src_eta]
   exact ⟨_,_,rfl,g2.up (by omega)⟩
 obtain ⟨strip,s2,e2,k2⟩ := hstrip
 obtain ⟨saw,s3,e3,k3,_⟩ := among_ok k2 (by omega) [0,5,10,100,101,(-1),0,20] (by decide) (by decide)
 obtain ⟨b,s4,e4,k4,_⟩ := among_ok k3 (by omega) [1,10,100,1000,20000,0,20001] (by decide) (by decide)
 obtain ⟨p,m,e,f1,f2,f3⟩ := cut_ok xs strip saw b m1
 rw [laws_FnRibs_p0_eq,spec_DrawCutRibs_eq,e0]
 simp only [Option.bind_some,src_eta,e1,e2,spec_l06DrawSaw_eq,e3,spec_l06DrawBudget_eq,e4,List.take_length,f1]
 by_cases he : e = 0
 ·obtain ⟨g1,g2,g3,f,g4,g5,g6,g7⟩ := f2 he
  subst he
  subst g6
  obtain ⟨pg,fg,q1,q2,q3⟩ := first_ok xs strip saw m1 g1 g2 g3
  have hmin := g7 pg fg q2 q3
  have d1 : ((pg.length : Int) != (xs.length : Int)) = false := by simp; omega
  have d2 : ¬ (f.length : Int) > (fg.length : Int) := by omega
  obtain ⟨hl,hr⟩ := ribsOk_facts g1
  have g2' := g2
  simp only [stripOk,Bool.and_eq_true] at g2'
  have hst := inR_iff'.1 g2'.1
  have hsa := inR_iff'.1 g2'.2
  have hwl : (wsP saw xs).length = xs.length := by simp [wsP]
  have hfl := runC_cnt g5
  rw [hwl,List.length_nil,Nat.zero_add] at hfl
  have hws : ∀ w,w ∈ wsP saw xs → saw + 1 ≤ w ∧ w ≤ strip + saw := fun w hw => by
   obtain ⟨x,hx,rfl⟩ := List.mem_map.1 hw
   have := (hr x hx).1
   have := tooLong_no g3 x hx
   omega
  have htop := runC_top (T := strip) (fun w hw => by have := hws w hw; omega) (by intro x hx; cases hx) g5
  have hroom := runC_room (fun w hw => by have := hws w hw; omega) (by intro x hx; cases hx) g5
  have hsum := runC_sum (by omega) g5
  rw [isum_ws] at hsum
  have hrb := isum_bd (m := 10000) (xs.map rl) fun x hx => by
   obtain ⟨y,hy,rfl⟩ := List.mem_map.1 hx
   have := hr y hy
   omega
  rw [List.length_map] at hrb
  simp only [beq_self_eq_true,if_true,left_ok xs strip saw m1 g1 g2 g3 p f g4 g5,q1,Option.bind_some,bne_self_eq_false,Bool.false_eq_true,if_false,d1,d2,decide_false,laws_FnRibs_p1_eq]
  have e5 := law_p3 v0 v1 xs hl hr strip saw (f.length : Int) f xs.length 0 (by omega)
  have e5 : laws_FnRibs_p3 v0 v1 xs strip saw (f.length : Int) 0 0 f = _ := e5
  rw [e5]
  have e6 := law_p6 v0 v1 h0 (by omega) h1 (by omega) xs hl strip saw hst hsa f (by omega) (fun x hx => ⟨(hroom x hx).1,htop x hx⟩) (isum (xs.map rl)) (by omega) (by
   simp only [isum,List.length_nil] at hsum
   have a1 : saw * ((xs.length : Int) - f.length) = saw * xs.length - saw * f.length := Int.mul_sub _ _ _
   have a2 : (strip + saw) * ((f.length : Int) - ((0 : Nat) : Int)) = (f.length : Int) * strip + saw * f.length := by
    rw [show ((0 : Nat) : Int) = 0 from rfl,Int.sub_zero,Int.add_mul,Int.mul_comm strip]
   rw [a2] at hsum
   rw [a1]
   omega) f.length 0 (by omega)
  have e6 : laws_FnRibs_p6 v0 v1 xs strip saw (f.length : Int) (isum (xs.map rl) + 0) 0 f = some true := e6
  rw [Int.add_zero] at e6
  exact e6
 ·obtain ⟨rfl,rfl⟩ := f3 he
  have he' : (e == 0) = false := by simpa using he
  simp only [he',Bool.false_eq_true,if_false,List.length_nil]
  exact law_p2 v0 v1 h0 (by omega) h1 (by omega)
theorem laws_FnRibs_true (code more : List Int) (h : CT.wf (.sl (.one (.int .u8))) code) (h' : CT.wf (.sl (.one (.int .u8))) more) : laws_FnRibs code more = some true :=
 law_core code more (bytes_ok h) (bytes_ok h')
end Go.Ab.P
