/- Documents: the most trusted papers agree, no pair is trusted more, their span lies in all of them; an added paper is among the next ones and is read back. Conditions: bytes are bytes. -/
import Derived.Test.YtknkhfhabagfeaaGreatDoorBFnDocuments
set_option linter.unusedVariables false
set_option linter.unusedSectionVars false
set_option linter.unusedSimpArgs false
set_option maxRecDepth 4000
namespace Go.Ab.P
open Go.Ab
def ix (T : List Nat) : List Int := T.map fun t : Nat => (t : Int)
theorem ix_len (T : List Nat) : (ix T).length = T.length := List.length_map _
theorem ix_get {T : List Nat} {i : Nat} (h : i < T.length) : (ix T)[i]? = some ((T[i] : Nat) : Int) := by rw [ix,List.getElem?_map,List.getElem?_eq_getElem h]; rfl
theorem ix_app (T S : List Nat) : ix (T ++ S) = ix T ++ ix S := List.map_append
structure Calm (xs : List T_Paper.ty) (T : List Nat) : Prop where
 up : T.Pairwise fun a b => a < b ∧ clB (pAt xs a) (pAt xs b) = false
 lt : ∀ t,t ∈ T → t < xs.length
def tr (xs : List T_Paper.ty) (T : List Nat) : Int := (T.map fun t => pT (pAt xs t)).sum
theorem tr_nil (xs : List T_Paper.ty) : tr xs [] = 0 := rfl
theorem tr_cons (xs : List T_Paper.ty) (t : Nat) (T : List Nat) : tr xs (t :: T) = pT (pAt xs t) + tr xs T := by simp [tr]
theorem tr_snoc (xs : List T_Paper.ty) (t : Nat) : ∀ T : List Nat,tr xs (T ++ [t]) = tr xs T + pT (pAt xs t)
 | [] => by rw [List.nil_append,tr_cons,tr_nil]; omega
 | a :: T => by rw [List.cons_append,tr_cons,tr_cons,tr_snoc xs t T]; omega
theorem rising_len : ∀ {T : List Nat} {lo m : Nat},T.Pairwise (· < ·) → (∀ t,t ∈ T → lo ≤ t ∧ t < m) → T.length ≤ m - lo
 | [],_,_,_,_ => Nat.zero_le _
 | a :: T,lo,m,h1,h2 => by
   obtain ⟨h3,h4⟩ := List.pairwise_cons.1 h1
   have ha := h2 a List.mem_cons_self
   have := rising_len (T := T) (lo := a + 1) (m := m) h4 fun t ht => ⟨h3 t ht,(h2 t (List.mem_cons_of_mem _ ht)).2⟩
   rw [List.length_cons]; omega
theorem Calm.len {xs : List T_Paper.ty} {T : List Nat} (h : Calm xs T) : T.length ≤ xs.length :=
 rising_len (lo := 0) (h.up.imp fun h => h.1) fun t ht => ⟨Nat.zero_le _,h.lt t ht⟩
theorem tr_bd {xs : List T_Paper.ty} (h : Papers xs) : ∀ {T : List Nat},(∀ t,t ∈ T → t < xs.length) → 0 ≤ tr xs T ∧ tr xs T ≤ 1000 * (T.length : Int)
 | [],_ => by rw [tr_nil]; simp
 | a :: T,ht => by
   have g := h.good (pAt_mem (ht a List.mem_cons_self))
   have := tr_bd h (T := T) fun t h => ht t (List.mem_cons_of_mem _ h)
   have g0 := g.t0; have g1 := g.t1
   rw [tr_cons,List.length_cons]; omega
theorem Calm.bd {xs : List T_Paper.ty} (h : Papers xs) {T : List Nat} (c : Calm xs T) : 0 ≤ tr xs T ∧ tr xs T ≤ 12000 := by
 have h1 := tr_bd h c.lt
 have h2 := c.len
 have h3 := h.few
 omega
theorem calm_nil (xs : List T_Paper.ty) : Calm xs [] := ⟨.nil,fun t h => by cases h⟩
theorem calm_one {xs : List T_Paper.ty} {i : Nat} (h : i < xs.length) : Calm xs [i] := ⟨List.pairwise_singleton _ _,fun t ht => by rw [List.mem_singleton.1 ht]; exact h⟩
theorem calm_two {xs : List T_Paper.ty} {i k : Nat} (hik : i < k) (h : k < xs.length) (hc : clB (pAt xs i) (pAt xs k) = false) : Calm xs [i,k] := by
 refine ⟨List.pairwise_cons.2 ⟨fun b hb => by rw [List.mem_singleton.1 hb]; exact ⟨hik,hc⟩,List.pairwise_singleton _ _⟩,fun t ht => ?_⟩
 rcases List.mem_cons.1 ht with rfl | ht
 ·omega
 ·rw [List.mem_singleton.1 ht]; exact h
theorem Calm.snoc {xs : List T_Paper.ty} {T : List Nat} (c : Calm xs T) {i : Nat} (h : i < xs.length) (hT : ∀ t,t ∈ T → t < i) (hc : ∀ t,t ∈ T → clB (pAt xs t) (pAt xs i) = false) : Calm xs (T ++ [i]) := by
 refine ⟨List.pairwise_append.2 ⟨c.up,List.pairwise_singleton _ _,fun a ha b hb => ?_⟩,fun t ht => ?_⟩
 ·rw [List.mem_singleton.1 hb]; exact ⟨hT a ha,hc a ha⟩
 ·rcases List.mem_append.1 ht with ht | ht
  ·exact c.lt t ht
  ·rw [List.mem_singleton.1 ht]; exact h
def foe (xs : List T_Paper.ty) (x : T_Paper.ty) (T : List Nat) : Bool := T.any fun t => clB (pAt xs t) x
theorem with_loop {xs : List T_Paper.ty} (h : Papers xs) {x : T_Paper.ty} (hx : GoodP x) {T : List Nat} (hT : ∀ t,t ∈ T → t < xs.length) (hl : T.length ≤ 1000) : ∀ (n i : Nat),i + n = T.length →
 ∃ r : Int,slices_IndexFunc___int64_int64__impl_clashesWith_1_p0 (ix T) xs x.1 x.2.1 x.2.2.1 x.2.2.2.1 x.2.2.2.2.1 T.length i = some r ∧ decide (r ≥ 0) = foe xs x (T.drop i)
 | 0,i,hn => by
   have : i = T.length := by omega
   subst this
   rw [slices_IndexFunc___int64_int64__impl_clashesWith_1_p0_eq,if_neg (by simp),List.drop_length]
   exact ⟨_,rfl,rfl⟩
 | n + 1,i,hn => by
   have hi : i < T.length := by omega
   have hlt : (i : Int) < (T.length : Int) := by omega
   have hti := hT _ (List.getElem_mem hi)
   obtain ⟨r,e1,e2⟩ := with_loop h hx hT hl n (i + 1) (by omega)
   have hcl := (clash_ok (h.good (pAt_mem hti)) hx).1
   have hc1 : impl_clashesWith_1 ((T[i] : Nat) : Int) xs (x.1,x.2.1,x.2.2.1,x.2.2.2.1,x.2.2.2.2.1,()) = some (clB (pAt xs T[i]) x) := by
    rw [impl_clashesWith_1_eq]
    simp only [Int.natCast_nonneg,decide_true,if_true,Int.toNat_natCast,pAt_get hti,Option.bind_some]
    rw [show ((x.1,x.2.1,x.2.2.1,x.2.2.2.1,x.2.2.2.2.1,()) : T_Paper.ty) = x from rfl,hcl]; rfl
   rw [slices_IndexFunc___int64_int64__impl_clashesWith_1_p0_eq]
   simp only [hlt,decide_true,if_true,Int.natCast_nonneg,Int.toNat_natCast,ix_get hi,Option.bind_some,hc1,wsucc (show i < 4611686018427387904 by omega)]
   have hd : foe xs x (T.drop i) = (clB (pAt xs T[i]) x || foe xs x (T.drop (i + 1))) := by
    rw [foe,List.drop_eq_getElem_cons hi,List.any_cons]; rfl
   by_cases c : clB (pAt xs T[i]) x = true
   ·rw [if_pos c]
    refine ⟨_,rfl,?_⟩
    rw [hd,c,Bool.true_or]; simp
   ·rw [if_neg c]
    refine ⟨r,e1,?_⟩
    rw [hd,e2]
    have : clB (pAt xs T[i]) x = false := by simpa using c
    rw [this,Bool.false_or]
theorem with_ok {xs : List T_Paper.ty} (h : Papers xs) {x : T_Paper.ty} (hx : GoodP x) {T : List Nat} (hT : ∀ t,t ∈ T → t < xs.length) (hl : T.length ≤ 1000) : impl_clashesWith xs (ix T) x = some (foe xs x T) := by
 obtain ⟨r,e1,e2⟩ := with_loop h hx hT hl T.length 0 (by omega)
 rw [impl_clashesWith_eq,slices_ContainsFunc___int64_int64__impl_clashesWith_1_eq,slices_IndexFunc___int64_int64__impl_clashesWith_1_eq,ix_len]
 have e1' : slices_IndexFunc___int64_int64__impl_clashesWith_1_p0 (ix T) xs x.1 x.2.1 x.2.2.1 x.2.2.2.1 x.2.2.2.2.1 T.length 0 = some r := e1
 simp only [e1',Option.bind_some,e2,List.drop_zero]
theorem foe_no {xs : List T_Paper.ty} {x : T_Paper.ty} {T : List Nat} : foe xs x T = false ↔ ∀ t,t ∈ T → clB (pAt xs t) x = false := by
 rw [foe,List.any_eq_false]
 exact ⟨fun h t ht => by simpa using h t ht,fun h t ht => by rw [h t ht]; simp⟩
theorem cloneInts {l : List Int} (h : l.length ≤ 1048576) : impl_clone_int64_ l = some l := by
 have h1 : (0 : Int) ≤ (l.length : Int) := by omega
 have h2 : ((l.length : Int)).toNat < lim := by unfold lim; omega
 have h3 : 0 + l.length < lim := by unfold lim; omega
 rw [impl_clone_int64__eq]
 simp only [h1,h2,h3,decide_true,Bool.and_self,if_true,List.nil_append,List.take_length]
def Found (xs : List T_Paper.ty) (i : Nat) (T B : List Nat) (left : Int) (r : Option (Bool × T_trustingO.ty)) : Prop :=
 ∃ (ok : Bool) (left' : Int) (B' : List Nat),r = some (ok,(xs,left',ix T,tr xs T,ix B',tr xs B',())) ∧ Calm xs B' ∧
   (ok = true → 0 ≤ left' ∧ left' ≤ left ∧ tr xs B ≤ tr xs B' ∧ ∀ S,Calm xs (T ++ S) → (∀ s,s ∈ S → i ≤ s) → tr xs (T ++ S) ≤ tr xs B')
theorem node_ok (xs : List T_Paper.ty) {left : Int} (h0 : 0 ≤ left) (h1 : left ≤ 100000) (T : List Int) (s : Int) (B : List Int) (t : Int) :
 impl_trusting_node (xs,left,T,s,B,t,()) = some (decide (left - 1 ≥ 0),(xs,left - 1,T,s,B,t,())) := by
 rw [impl_trusting_node_eq]
 have w : IntKind.i64.wrap (left - 1) = left - 1 := w64 (by omega) (by omega)
 simp only [w,List.take_length]
theorem p0_ok {xs : List T_Paper.ty} {i n : Nat} (hi : i < 1000) {T : List Nat} {B : List Nat} {left : Int} (h0 : 0 ≤ left) (h1 : left ≤ 100000) {R : List Int} (hR : R.take T.length = ix T) (hB : Calm xs B)
 (IH : ∀ left : Int,0 ≤ left → left ≤ 100000 → Found xs (i + 1) T B left (impl_trusting_search n (xs,left,ix T,tr xs T,ix B,tr xs B,()) ((i + 1 : Nat) : Int))) :
 Found xs (i + 1) T B left (impl_trusting_search_p0 n i xs left T.length (tr xs T) (tr xs B) R (ix B)) := by
 rw [impl_trusting_search_p0_eq,hR,List.take_length,node_ok xs h0 h1,Option.bind_some]
 by_cases c : left - 1 ≥ 0
 ·rw [if_pos (by simpa using c),wsucc (by omega)]
  obtain ⟨ok,left',B',e,q1,q2⟩ := IH (left - 1) c (by omega)
  simp only [List.take_length,e,Option.bind_some]
  exact ⟨ok,left',B',rfl,q1,fun hk => by obtain ⟨a,b,d⟩ := q2 hk; exact ⟨a,by omega,d⟩⟩
 ·rw [if_neg (by simpa using c)]
  simp only [List.take_length]
  exact ⟨false,left - 1,B,rfl,hB,fun h => by cases h⟩
theorem search_ok {xs : List T_Paper.ty} (h : Papers xs) : ∀ (d n : Nat),d < n → ∀ (i : Nat) (T B : List Nat) (left : Int),i + d = xs.length → Calm xs T → (∀ t,t ∈ T → t < i) → Calm xs B → 0 ≤ left → left ≤ 100000 →
 Found xs i T B left (impl_trusting_search n (xs,left,ix T,tr xs T,ix B,tr xs B,()) (i : Int)) := by
 intro d
 induction d with
 | zero =>
   intro n hn i T B left hi hT hTi hB h0 h1
   obtain ⟨n,rfl⟩ : ∃ m,n = m + 1 := ⟨n - 1,by omega⟩
   have hil : i = xs.length := by omega
   have hTl := hT.len
   have hfew := h.few
   rw [impl_trusting_search_eq,if_pos (by simp [hil])]
   have none : ∀ S,Calm xs (T ++ S) → (∀ s,s ∈ S → i ≤ s) → S = [] := fun S hS hs => by
    cases S with
    | nil => rfl
    | cons s S =>
      have a := hS.lt s (by simp)
      have b := hs s List.mem_cons_self
      omega
   by_cases c : tr xs T > tr xs B
   ·rw [if_pos (by simpa using c)]
    simp only [List.take_length,cloneInts (show (ix T).length ≤ 1048576 by rw [ix_len]; omega),Option.bind_some]
    refine ⟨true,left,T,rfl,hT,fun _ => ⟨h0,Int.le_refl _,by omega,fun S hS hs => ?_⟩⟩
    rw [none S hS hs,List.append_nil]; exact Int.le_refl _
   ·rw [if_neg (by simpa using c)]
    simp only [List.take_length]
    refine ⟨true,left,B,rfl,hB,fun _ => ⟨h0,Int.le_refl _,Int.le_refl _,fun S hS hs => ?_⟩⟩
    rw [none S hS hs,List.append_nil]; omega
 | succ d IHd =>
   intro n hn i T B left hi hT hTi hB h0 h1
   obtain ⟨n,rfl⟩ : ∃ m,n = m + 1 := ⟨n - 1,by omega⟩
   have hix : i < xs.length := by omega
   have hfew := h.few
   have hTl := hT.len
   have hTb := hT.bd h
   have hg := h.good (pAt_mem hix)
   have g0 := hg.t0; have g1 := hg.t1
   have hne : ¬ ((i : Int) == (xs.length : Int)) = true := by simp; omega
   have hw := with_ok h hg hT.lt (by omega)
   have rest : ∀ (B1 : List Nat) (left1 : Int) (R : List Int),Calm xs B1 → 0 ≤ left1 → left1 ≤ 100000 → R.take T.length = ix T → Found xs (i + 1) T B1 left1 (impl_trusting_search_p0 n i xs left1 T.length (tr xs T) (tr xs B1) R (ix B1)) := fun B1 left1 R b1 b2 b3 b4 =>
    p0_ok (by omega) b2 b3 b4 b1 fun l l0 l1 => IHd n (by omega) (i + 1) T B1 l (by omega) hT (fun t ht => by have := hTi t ht; omega) b1 l0 l1
   rw [impl_trusting_search_eq,if_neg hne]
   simp only [Int.natCast_nonneg,decide_true,if_true,Int.toNat_natCast,pAt_get hix,Option.bind_some,List.take_length,hw]
   cases c : foe xs (pAt xs i) T with
   | false =>
     rw [if_pos (show (!false) = true from rfl),node_ok xs h0 h1,Option.bind_some]
     by_cases c1 : left - 1 ≥ 0
     ·have hc1 : (!(decide (left - 1 ≥ 0),(xs,left - 1,ix T,tr xs T,ix B,tr xs B,())).1) = false := by simp only [c1,decide_true,Bool.not_true]
      rw [if_neg (by rw [hc1]; decide)]
      have hTn := hT.snoc hix hTi (foe_no.1 c)
      have hlim : (ix T).length + 1 < lim := by rw [ix_len]; unfold lim; omega
      have hs : IntKind.i64.wrap (tr xs T + (pAt xs i).2.2.2.2.1) = tr xs (T ++ [i]) := by
       rw [tr_snoc]; exact w64 (n := tr xs T + pT (pAt xs i)) (by omega) (by omega)
      have happ : ix T ++ [(i : Int)] = ix (T ++ [i]) := by rw [ix_app]; rfl
      obtain ⟨ok,left',B',e,q1,q2⟩ := IHd n (by omega) (i + 1) (T ++ [i]) B (left - 1) (by omega) hTn (fun t ht => by
       rcases List.mem_append.1 ht with ht | ht
       ·have := hTi t ht; omega
       ·rw [List.mem_singleton.1 ht]; omega) hB c1 (by omega)
      have hwi := wsucc (show i < 4611686018427387904 by omega)
      simp only [List.take_length,hlim,decide_true,if_true,hs,happ,hwi,e,Option.bind_some]
      have hk1 : ((ix T).length : Int) ≤ ((ix (T ++ [i])).length : Int) := by rw [ix_len,ix_len,List.length_append]; omega
      have hk2 : (0 : Int) ≤ ((ix T).length : Int) := by omega
      have htk : (ix (T ++ [i])).take (ix T).length = ix T := by rw [ix_app,List.take_left']; rfl
      have hsub : IntKind.i64.wrap (tr xs (T ++ [i]) - (pAt xs i).2.2.2.2.1) = tr xs T := by
       rw [tr_snoc]
       have : tr xs T + pT (pAt xs i) - pT (pAt xs i) = tr xs T := by omega
       have e2 : tr xs T + pT (pAt xs i) - (pAt xs i).2.2.2.2.1 = tr xs T := this
       rw [e2]; exact w64 (by omega) (by omega)
      simp only [hk1,hk2,decide_true,Bool.and_self,if_true,htk,hsub,List.take_length,Int.toNat_natCast]
      cases ok with
      | false =>
        rw [if_pos (show (!false) = true from rfl)]
        exact ⟨false,left',B',rfl,q1,fun h => by cases h⟩
      | true =>
        rw [if_neg (by decide)]
        obtain ⟨k1,k2,k3,k4⟩ := q2 rfl
        rw [ix_len] at htk ⊢
        obtain ⟨ok2,left2,B2,e2,z1,z2⟩ := rest B' left' (ix (T ++ [i])) q1 k1 (by omega) htk
        refine ⟨ok2,left2,B2,e2,z1,fun hk => ?_⟩
        obtain ⟨y1,y2,y3,y4⟩ := z2 hk
        refine ⟨y1,by omega,by omega,fun S hS hs => ?_⟩
        cases S with
        | nil => exact y4 [] hS fun s h => by cases h
        | cons s S =>
          have hrise : ∀ t,t ∈ S → s < t := fun t ht => by
           have := (List.pairwise_append.1 hS.up).2.1
           exact ((List.pairwise_cons.1 this).1 t ht).1
          by_cases hsi : s = i
          ·subst hsi
           have e3 : T ++ s :: S = (T ++ [s]) ++ S := by simp
           rw [e3] at hS ⊢
           have := k4 S hS fun t ht => hrise t ht
           omega
          ·have hs0 := hs s List.mem_cons_self
           exact y4 (s :: S) hS fun t ht => by
            rcases List.mem_cons.1 ht with rfl | ht
            ·omega
            ·have := hrise t ht; omega
     ·have hc1 : (!(decide (left - 1 ≥ 0),(xs,left - 1,ix T,tr xs T,ix B,tr xs B,())).1) = true := by simp only [c1,decide_false,Bool.not_false]
      rw [if_pos hc1]
      simp only [List.take_length]
      exact ⟨false,left - 1,B,rfl,hB,fun h => by cases h⟩
   | true =>
     rw [if_neg (by decide)]
     rw [ix_len]
     obtain ⟨ok2,left2,B2,e2,z1,z2⟩ := rest B left (ix T) hB h0 h1 (by rw [← ix_len,List.take_length])
     refine ⟨ok2,left2,B2,e2,z1,fun hk => ?_⟩
     obtain ⟨y1,y2,y3,y4⟩ := z2 hk
     refine ⟨y1,y2,y3,fun S hS hs => ?_⟩
     cases S with
     | nil => exact y4 [] hS fun s h => by cases h
     | cons s S =>
       have hrise : ∀ t,t ∈ S → s < t := fun t ht => by
        have := (List.pairwise_append.1 hS.up).2.1
        exact ((List.pairwise_cons.1 this).1 t ht).1
       have hsi : s ≠ i := fun e => by
        subst e
        have : foe xs (pAt xs s) T = false := foe_no.2 fun t ht => ((List.pairwise_append.1 hS.up).2.2 t ht s List.mem_cons_self).2
        rw [this] at c; cases c
       have hs0 := hs s List.mem_cons_self
       exact y4 (s :: S) hS fun t ht => by
        rcases List.mem_cons.1 ht with rfl | ht
        ·omega
        ·have := hrise t ht; omega
theorem most_ok {xs : List T_Paper.ty} (hl : xs.length ≤ 20) (hs : Shorts xs) (b : Int) : ∃ (l : List Int) (t e : Int),impl_MostTrusted xs b = some (l,t,e) ∧ (e ≠ 0 ∧ l = [] ∧ t = 0 ∨ e = 0 ∧ Papers xs ∧ ∃ B,Calm xs B ∧ l = ix B ∧ t = tr xs B ∧ ∀ S,Calm xs S → tr xs S ≤ tr xs B) := by
 rw [impl_MostTrusted_eq,(valid_iff hl hs).1,Option.bind_some]
 by_cases hv : papersOk xs = true
 ·have h := papers_iff.1 hv
  rw [if_neg (by simp [hv]),impl_within_ok,Option.bind_some]
  by_cases hb : inR b 1 20000 = true
  ·rw [if_neg (by simp [hb])]
   have hb' : 1 ≤ b ∧ b ≤ 20000 := by simpa [inR] using hb
   have hf := h.few
   obtain ⟨ok,left',B,e,q1,q2⟩ := search_ok h xs.length 1000 (by omega) 0 [] [] b (by omega) (calm_nil xs) (fun t ht => by cases ht) (calm_nil xs) (by omega) (by omega)
   have e' : impl_trusting_search 1000 (xs,b,[],0,[],0,()) 0 = some (ok,(xs,left',ix [],tr xs [],ix B,tr xs B,())) := e
   rw [e',Option.bind_some]
   cases ok with
   | false => exact ⟨_,_,_,rfl,.inl ⟨by decide,rfl,rfl⟩⟩
   | true =>
     obtain ⟨_,_,_,k⟩ := q2 rfl
     rw [if_neg (by simp)]
     simp only [List.take_length]
     exact ⟨_,_,_,rfl,.inr ⟨rfl,h,B,q1,rfl,rfl,fun S hS => k S hS fun s _ => Nat.zero_le _⟩⟩
  ·rw [if_pos (by simpa using hb)]
   exact ⟨_,_,_,rfl,.inl ⟨by decide,rfl,rfl⟩⟩
 ·rw [if_pos (by simpa using hv)]
  exact ⟨_,_,_,rfl,.inl ⟨by decide,rfl,rfl⟩⟩
theorem calm_step {xs : List T_Paper.ty} {T : List Nat} (c : Calm xs T) {i j : Nat} (hij : i < j) (hj : j < T.length) : T[i] < T[j] ∧ clB (pAt xs T[i]) (pAt xs T[j]) = false :=
 List.pairwise_iff_getElem.1 c.up i j (by omega) hj hij
theorem calm_lt {xs : List T_Paper.ty} {T : List Nat} (c : Calm xs T) {i : Nat} (hi : i < T.length) : T[i] < xs.length := c.lt _ (List.getElem_mem hi)
theorem rises_loop {xs : List T_Paper.ty} {T : List Nat} (c : Calm xs T) (h12 : xs.length ≤ 12) : ∀ (n i : Nat),i + n = T.length → laws_b10Rises_p0 (ix T) xs.length i = some true ∧ spec_l00Rises_p0 (ix T) 0 (IntKind.i64.wrap ((xs.length : Int) - 1)) i = some true
 | 0,i,hn => by
   rw [laws_b10Rises_p0_eq,spec_l00Rises_p0_eq,ix_len,if_neg (by simp; omega),if_neg (by simp; omega)]
   exact ⟨rfl,rfl⟩
 | n + 1,i,hn => by
   have hTl := c.len
   have hi : i < T.length := by omega
   have hlt : (i : Int) < ((ix T).length : Int) := by rw [ix_len]; omega
   have hb := calm_lt c hi
   obtain ⟨I1,I2⟩ := rises_loop c h12 n (i + 1) (by omega)
   have n1 : ¬ ((T[i] : Nat) : Int) < 0 := by omega
   have n2 : ¬ ((T[i] : Nat) : Int) ≥ (xs.length : Int) := by omega
   have wl : IntKind.i64.wrap ((xs.length : Int) - 1) = (xs.length : Int) - 1 := w64 (by omega) (by omega)
   have hin : inR ((T[i] : Nat) : Int) 0 ((xs.length : Int) - 1) = true := by unfold inR; simp; omega
   have hw := wsucc (show i < 4611686018427387904 by omega)
   rw [wl] at I2 ⊢
   rw [laws_b10Rises_p0_eq,spec_l00Rises_p0_eq]
   simp only [hlt,decide_true,if_true,Int.natCast_nonneg,Int.toNat_natCast,ix_get hi,Option.bind_some,n1,n2,decide_false,Bool.false_eq_true,if_false,spec_l00In_ok,hin,Bool.not_true,hw]
   by_cases h0 : (i : Int) > 0
   ·have hw2 : IntKind.i64.wrap ((i : Int) - 1) = ((i - 1 : Nat) : Int) := by rw [w64 (by omega) (by omega)]; omega
    have hs := (calm_step c (show i - 1 < i by omega) hi).1
    have n3 : ¬ ((T[i - 1] : Nat) : Int) ≥ ((T[i] : Nat) : Int) := by omega
    simp only [h0,decide_true,if_true,hw2,Int.natCast_nonneg,Int.toNat_natCast,ix_get (show i - 1 < T.length by omega),Option.bind_some,n3,decide_false,Bool.false_eq_true,if_false]
    exact ⟨I1,I2⟩
   ·simp only [h0,decide_false,Bool.false_eq_true,if_false]
    exact ⟨I1,I2⟩
theorem agrees_loop {xs : List T_Paper.ty} (h : Papers xs) {T : List Nat} (c : Calm xs T) : ∀ (n i : Nat),i + n = T.length → impl_Agrees_p0 xs (ix T) (ix T) T.length i = some true
 | 0,i,hn => by
   have : i = T.length := by omega
   subst this
   rw [impl_Agrees_p0_eq,if_neg (by simp)]
 | n + 1,i,hn => by
   have hTl := c.len
   have h12 := h.few
   have hi : i < T.length := by omega
   have hlt : (i : Int) < (T.length : Int) := by omega
   have hle : (i : Int) ≤ ((ix T).length : Int) := by rw [ix_len]; omega
   have hb := calm_lt c hi
   have hbi : ((T[i] : Nat) : Int) < (xs.length : Int) := by omega
   have hge : ((T[i] : Nat) : Int) ≥ 0 := by omega
   have IH := agrees_loop h c n (i + 1) (by omega)
   have hw := wsucc (show i < 4611686018427387904 by omega)
   have hat : impl_at ((T[i] : Nat) : Int) (xs.length : Int) = some true := by
    rw [impl_at_eq,if_pos (decide_eq_true hge),decide_eq_true hbi]
   have htk : (ix T).take i = ix (T.take i) := by rw [ix,ix,List.map_take]
   have hcl : impl_clashesWith xs ((ix T).take i) (pAt xs T[i]) = some false := by
    rw [htk,with_ok h (h.good (pAt_mem hb)) (fun t ht => c.lt t (List.mem_of_mem_take ht)) (by rw [List.length_take]; omega)]
    congr 1
    rw [foe_no]
    intro t ht
    obtain ⟨j,hj,rfl⟩ := List.mem_iff_getElem.1 ht
    rw [List.length_take] at hj
    rw [List.getElem_take]
    exact (calm_step c (show j < i by omega) hi).2
   rw [impl_Agrees_p0_eq]
   simp only [hlt,hle,decide_true,if_true,Int.natCast_nonneg,Bool.and_self,Int.toNat_natCast,ix_get hi,Option.bind_some,hat,Bool.not_true,Bool.false_eq_true,if_false,pAt_get hb,hcl,hw]
   by_cases h0 : (i : Int) > 0
   ·have hw2 : IntKind.i64.wrap ((i : Int) - 1) = ((i - 1 : Nat) : Int) := by rw [w64 (by omega) (by omega)]; omega
    have hs := (calm_step c (show i - 1 < i by omega) hi).1
    have n3 : ¬ ((T[i - 1] : Nat) : Int) ≥ ((T[i] : Nat) : Int) := by omega
    simp only [h0,decide_true,if_true,hw2,Int.natCast_nonneg,Int.toNat_natCast,ix_get (show i - 1 < T.length by omega),Option.bind_some,n3,decide_false,Bool.false_eq_true,if_false]
    exact IH
   ·simp only [h0,decide_false,Bool.false_eq_true,if_false]
    exact IH
theorem agrees_ok {xs : List T_Paper.ty} (h : Papers xs) {T : List Nat} (c : Calm xs T) : impl_Agrees xs (ix T) = some true := by
 rw [impl_Agrees_eq,h.valid.1,Option.bind_some,if_neg (by decide),ix_len]
 exact agrees_loop h c T.length 0 (by omega)
theorem again_in {xs : List T_Paper.ty} (h : Papers xs) {T : List Nat} (c : Calm xs T) {i : Nat} (hi : i < T.length) : ∀ (n k : Nat),k + n = i → spec_l20Agrees_p1 xs (ix T) i k = spec_l20Agrees_p0 xs (ix T) ((i + 1 : Nat) : Int)
 | 0,k,hn => by
   have hTl := c.len
   have h12 := h.few
   rw [spec_l20Agrees_p1_eq,if_neg (by simp; omega),wsucc (by omega)]
 | n + 1,k,hn => by
   have hTl := c.len
   have h12 := h.few
   have hlt : (k : Int) < (i : Int) := by omega
   have hk : k < T.length := by omega
   have hcl : spec_l20Clash (pAt xs T[i]) (pAt xs T[k]) = some false := by
    rw [(clash_ok (h.good (pAt_mem (calm_lt c hi))) (h.good (pAt_mem (calm_lt c hk)))).2,clB_symm,(calm_step c (show k < i by omega) hi).2]
   rw [spec_l20Agrees_p1_eq]
   simp only [hlt,decide_true,if_true,Int.natCast_nonneg,Int.toNat_natCast,ix_get hi,ix_get hk,Option.bind_some,pAt_get (calm_lt c hi),pAt_get (calm_lt c hk),hcl,Bool.false_eq_true,if_false,wsucc (show k < 4611686018427387904 by omega)]
   exact again_in h c hi n (k + 1) (by omega)
theorem again_out {xs : List T_Paper.ty} (h : Papers xs) {T : List Nat} (c : Calm xs T) : ∀ (n i : Nat),i + n = T.length → spec_l20Agrees_p0 xs (ix T) i = some true
 | 0,i,hn => by
   rw [spec_l20Agrees_p0_eq,ix_len,if_neg (by simp; omega)]
 | n + 1,i,hn => by
   have hlt : (i : Int) < (T.length : Int) := by omega
   rw [spec_l20Agrees_p0_eq,ix_len,if_pos (decide_eq_true hlt)]
   exact (again_in h c (show i < T.length by omega) i 0 (by omega)).trans (again_out h c n (i + 1) (by omega))
theorem again_ok {xs : List T_Paper.ty} (h : Papers xs) {T : List Nat} (c : Calm xs T) : spec_Agrees xs (ix T) = some true := by
 rw [spec_Agrees_eq,h.valid.2,Option.bind_some,if_pos rfl,spec_l00Rises_eq]
 have r := (rises_loop c h.few T.length 0 (by omega)).2
 have r' : spec_l00Rises_p0 (ix T) 0 (IntKind.i64.wrap ((xs.length : Int) - 1)) 0 = some true := r
 have a : spec_l20Agrees xs (ix T) = some true := by rw [spec_l20Agrees_eq]; exact again_out h c T.length 0 (by omega)
 rw [r',Option.bind_some,if_pos rfl,a]; rfl
theorem again_two {xs : List T_Paper.ty} (h : Papers xs) {i k : Nat} (hik : i < k) (hk : k < xs.length) : spec_Agrees xs [(i : Int),(k : Int)] = some (!clB (pAt xs i) (pAt xs k)) := by
 by_cases c : clB (pAt xs i) (pAt xs k) = true
 ·have h12 := h.few
  have hlen : (([(i : Int),(k : Int)] : List Int).length : Int) = 2 := rfl
  have wl : IntKind.i64.wrap ((xs.length : Int) - 1) = (xs.length : Int) - 1 := w64 (by omega) (by omega)
  have in1 : inR (i : Int) 0 ((xs.length : Int) - 1) = true := by unfold inR; simp; omega
  have in2 : inR (k : Int) 0 ((xs.length : Int) - 1) = true := by unfold inR; simp; omega
  have n3 : ¬ (i : Int) ≥ (k : Int) := by omega
  have r2 : spec_l00Rises_p0 [(i : Int),(k : Int)] 0 ((xs.length : Int) - 1) 2 = some true := by
   rw [spec_l00Rises_p0_eq,if_neg (by simp)]
  have r1 : spec_l00Rises_p0 [(i : Int),(k : Int)] 0 ((xs.length : Int) - 1) 1 = some true := by
   rw [spec_l00Rises_p0_eq,if_pos (by simp),if_pos (by decide)]
   rw [show ([(i : Int),(k : Int)] : List Int)[(1 : Int).toNat]? = some (k : Int) from rfl,Option.bind_some,spec_l00In_ok,in2,Option.bind_some,if_neg (by decide),if_pos (by decide),if_pos (by decide)]
   rw [show ([(i : Int),(k : Int)] : List Int)[(IntKind.i64.wrap (1 - 1)).toNat]? = some (i : Int) from rfl,Option.bind_some,if_pos (by decide),Option.bind_some,if_neg (by simpa using n3)]
   exact r2
  have r0 : spec_l00Rises_p0 [(i : Int),(k : Int)] 0 ((xs.length : Int) - 1) 0 = some true := by
   rw [spec_l00Rises_p0_eq,if_pos (by simp),if_pos (by decide)]
   rw [show ([(i : Int),(k : Int)] : List Int)[(0 : Int).toNat]? = some (i : Int) from rfl,Option.bind_some,spec_l00In_ok,in1,Option.bind_some,if_neg (by decide),if_neg (by decide)]
   exact r1
  have cl : spec_l20Clash (pAt xs k) (pAt xs i) = some true := by
   rw [(clash_ok (h.good (pAt_mem hk)) (h.good (pAt_mem (show i < xs.length by omega)))).2,clB_symm,c]
  have a1 : spec_l20Agrees_p1 xs [(i : Int),(k : Int)] 1 0 = some false := by
   rw [spec_l20Agrees_p1_eq,if_pos (by decide),if_pos (by decide),show ([(i : Int),(k : Int)] : List Int)[(1 : Int).toNat]? = some (k : Int) from rfl,Option.bind_some,if_pos (by simp),Int.toNat_natCast,pAt_get hk,Option.bind_some,if_pos (by decide)]
   rw [show ([(i : Int),(k : Int)] : List Int)[(0 : Int).toNat]? = some (i : Int) from rfl,Option.bind_some,if_pos (by simp),Int.toNat_natCast,pAt_get (show i < xs.length by omega),Option.bind_some,cl,Option.bind_some,if_pos rfl]
  have a0 : spec_l20Agrees_p0 xs [(i : Int),(k : Int)] 0 = some false := by
   rw [spec_l20Agrees_p0_eq,if_pos (by simp),spec_l20Agrees_p1_eq,if_neg (by decide)]
   rw [show IntKind.i64.wrap (0 + 1) = 1 from by decide,spec_l20Agrees_p0_eq,if_pos (by simp)]
   exact a1
  rw [spec_Agrees_eq,h.valid.2,Option.bind_some,if_pos rfl,spec_l00Rises_eq,wl,r0,Option.bind_some,if_pos rfl,spec_l20Agrees_eq,a0,c]
  rfl
 ·have c' : clB (pAt xs i) (pAt xs k) = false := by simpa using c
  rw [c']
  exact again_ok h (calm_two hik hk c')
theorem sum_loop (v1 : List Int) {xs : List T_Paper.ty} (h : Papers xs) {T : List Nat} (c : Calm xs T) : ∀ (n i : Nat),i + n = T.length → laws_FnDocuments_p3 v1 xs (ix T) (tr xs T) (tr xs (T.take i)) i = laws_FnDocuments_p5 v1 xs (ix T) (tr xs T) 0
 | 0,i,hn => by
   have : i = T.length := by omega
   subst this
   rw [laws_FnDocuments_p3_eq,ix_len,if_neg (by simp),List.take_length,if_neg (by simp)]
 | n + 1,i,hn => by
   have hTl := c.len
   have h12 := h.few
   have hi : i < T.length := by omega
   have hlt : (i : Int) < ((ix T).length : Int) := by rw [ix_len]; omega
   have hb := calm_lt c hi
   have g := h.good (pAt_mem hb)
   have g0 := g.t0; have g1 := g.t1
   have hbd := tr_bd h (T := T.take i) fun t ht => c.lt t (List.mem_of_mem_take ht)
   rw [List.length_take] at hbd
   have hs : IntKind.i64.wrap (tr xs (T.take i) + (pAt xs T[i]).2.2.2.2.1) = tr xs (T.take (i + 1)) := by
    rw [List.take_succ_eq_append_getElem hi,tr_snoc]
    exact w64 (n := tr xs (T.take i) + pT (pAt xs T[i])) (by omega) (by omega)
   rw [laws_FnDocuments_p3_eq]
   simp only [hlt,decide_true,if_true,Int.natCast_nonneg,Int.toNat_natCast,ix_get hi,Option.bind_some,pAt_get hb,hs,wsucc (show i < 4611686018427387904 by omega)]
   exact sum_loop v1 h c n (i + 1) (by omega)
def Best (xs : List T_Paper.ty) (B : List Nat) : Prop := ∀ S,Calm xs S → tr xs S ≤ tr xs B
theorem pair_loop (v1 : List Int) {xs : List T_Paper.ty} (h : Papers xs) {B : List Nat} (hB : Best xs B) {i : Nat} (hi : i < xs.length) : ∀ (n k : Nat) (p : Int),k + n = xs.length → i < k → p ≤ tr xs B → laws_FnDocuments_p6 v1 xs (ix B) (tr xs B) i p k = laws_FnDocuments_p5 v1 xs (ix B) (tr xs B) ((i + 1 : Nat) : Int)
 | 0,k,p,hn,hik,hp => by
   have h12 := h.few
   have hn1 : ¬ p > tr xs B := by omega
   rw [laws_FnDocuments_p6_eq,if_neg (by simp; omega),if_neg (by simpa using hn1),wsucc (by omega)]
 | n + 1,k,p,hn,hik,hp => by
   have h12 := h.few
   have hk : k < xs.length := by omega
   have hlt : (k : Int) < (xs.length : Int) := by omega
   have g1 := h.good (pAt_mem hi)
   have g2 := h.good (pAt_mem hk)
   have a1 := g1.t0; have a2 := g1.t1; have a3 := g2.t0; have a4 := g2.t1
   have hw := wsucc (show k < 4611686018427387904 by omega)
   rw [laws_FnDocuments_p6_eq]
   simp only [hlt,decide_true,if_true,again_two h hik hk,Option.bind_some]
   cases c : clB (pAt xs i) (pAt xs k) with
   | true =>
     rw [if_neg (by decide),hw]
     exact pair_loop v1 h hB hi n (k + 1) p (by omega) (by omega) hp
   | false =>
     rw [if_pos (by rfl)]
     have hs : IntKind.i64.wrap ((pAt xs i).2.2.2.2.1 + (pAt xs k).2.2.2.2.1) = pT (pAt xs i) + pT (pAt xs k) := w64 (n := pT (pAt xs i) + pT (pAt xs k)) (by omega) (by omega)
     have htr := hB _ (calm_two hik hk c)
     rw [tr_cons,tr_cons,tr_nil] at htr
     simp only [Int.natCast_nonneg,decide_true,if_true,Int.toNat_natCast,pAt_get hi,pAt_get hk,Option.bind_some,hs,hw]
     refine pair_loop v1 h hB hi n (k + 1) _ (by omega) (by omega) ?_
     split <;> omega
theorem pairs_loop (v1 : List Int) {xs : List T_Paper.ty} (h : Papers xs) {B : List Nat} (hB : Best xs B) : ∀ (n i : Nat),i + n = xs.length → laws_FnDocuments_p5 v1 xs (ix B) (tr xs B) i = laws_FnDocuments_p5 v1 xs (ix B) (tr xs B) xs.length
 | 0,i,hn => by
   have : i = xs.length := by omega
   subst this; rfl
 | n + 1,i,hn => by
   have h12 := h.few
   have hi : i < xs.length := by omega
   have hlt : (i : Int) < (xs.length : Int) := by omega
   have htr := hB _ (calm_one hi)
   rw [tr_cons,tr_nil] at htr
   have hp : (pAt xs i).2.2.2.2.1 ≤ tr xs B := by
    have : pT (pAt xs i) ≤ tr xs B := by omega
    exact this
   rw [laws_FnDocuments_p5_eq v1 xs (ix B) (tr xs B) i]
   simp only [hlt,decide_true,if_true,Int.natCast_nonneg,Int.toNat_natCast,pAt_get hi,Option.bind_some,wsucc (show i < 4611686018427387904 by omega)]
   exact (pair_loop v1 h hB hi _ (i + 1) _ (show (i + 1) + (xs.length - (i + 1)) = xs.length by omega) (by omega) hp).trans (pairs_loop v1 h hB n (i + 1) (by omega))
structure SpanI (xs : List T_Paper.ty) (T : List Nat) (i : Nat) (e l : Int) : Prop where
 ea : ∀ t (ht : t < T.length),t < i → pE (pAt xs T[t]) ≤ e
 la : ∀ t (ht : t < T.length),t < i → l ≤ pL (pAt xs T[t])
 e1 : e = 1500 ∨ ∃ t,∃ (ht : t < T.length),e = pE (pAt xs T[t])
 l1 : l = 2100 ∨ ∃ t,∃ (ht : t < T.length),l = pL (pAt xs T[t])
theorem span_loop {xs : List T_Paper.ty} (h : Papers xs) {T : List Nat} (c : Calm xs T) (h0 : 0 < T.length) : ∀ (n i : Nat) (e l : Int),i + n = T.length → SpanI xs T i e l →
 ∃ e' l',impl_SpanOf_p0 xs (ix T) e l (ix T) T.length i = some (pK (pAt xs T[0]),e',l',0) ∧ SpanI xs T T.length e' l'
 | 0,i,e,l,hn,hs => by
   have : i = T.length := by omega
   subst this
   have hb := calm_lt c h0
   rw [impl_SpanOf_p0_eq,if_neg (by simp),ix_get h0,Option.bind_some]
   simp only [Int.natCast_nonneg,decide_true,if_true,Int.toNat_natCast,pAt_get hb,Option.bind_some]
   exact ⟨e,l,rfl,hs⟩
 | n + 1,i,e,l,hn,hs => by
   have hTl := c.len
   have h12 := h.few
   have hi : i < T.length := by omega
   have hlt : (i : Int) < (T.length : Int) := by omega
   have hb := calm_lt c hi
   rw [impl_SpanOf_p0_eq]
   simp only [hlt,decide_true,if_true,Int.natCast_nonneg,Int.toNat_natCast,ix_get hi,Option.bind_some,pAt_get hb,wsucc (show i < 4611686018427387904 by omega)]
   refine span_loop h c h0 n (i + 1) _ _ (by omega) ⟨fun t ht hti => ?_,fun t ht hti => ?_,?_,?_⟩
   ·have k : ∀ a : Int,a = pE (pAt xs T[i]) → pE (pAt xs T[t]) ≤ if a > e then a else e := fun a ha => by
     by_cases q : t = i
     ·subst q; split <;> omega
     ·have := hs.ea t ht (by omega); split <;> omega
    exact k _ rfl
   ·have k : ∀ a : Int,a = pL (pAt xs T[i]) → (if a < l then a else l) ≤ pL (pAt xs T[t]) := fun a ha => by
     by_cases q : t = i
     ·subst q; split <;> omega
     ·have := hs.la t ht (by omega); split <;> omega
    exact k _ rfl
   ·have k : ∀ a : Int,a = pE (pAt xs T[i]) → (if a > e then a else e) = 1500 ∨ ∃ t,∃ (ht : t < T.length),(if a > e then a else e) = pE (pAt xs T[t]) := fun a ha => by
     split
     ·exact .inr ⟨i,hi,ha⟩
     ·exact hs.e1
    exact k _ rfl
   ·have k : ∀ a : Int,a = pL (pAt xs T[i]) → (if a < l then a else l) = 2100 ∨ ∃ t,∃ (ht : t < T.length),(if a < l then a else l) = pL (pAt xs T[t]) := fun a ha => by
     split
     ·exact .inr ⟨i,hi,ha⟩
     ·exact hs.l1
    exact k _ rfl
theorem clB_no {a b : T_Paper.ty} (h : clB a b = false) : pK a = pK b ∧ pE b ≤ pL a ∧ pE a ≤ pL b := by
 simp only [clB,Bool.or_eq_false_iff,Bool.not_eq_false',beq_iff_eq,decide_eq_false_iff_not] at h
 exact ⟨h.1,by omega,by omega⟩
theorem calm_any {xs : List T_Paper.ty} (h : Papers xs) {T : List Nat} (c : Calm xs T) {i j : Nat} (hi : i < T.length) (hj : j < T.length) : pK (pAt xs T[i]) = pK (pAt xs T[j]) ∧ pE (pAt xs T[i]) ≤ pL (pAt xs T[j]) := by
 rcases Nat.lt_trichotomy i j with q | q | q
 ·have := clB_no (calm_step c q hj).2; exact ⟨this.1,this.2.2⟩
 ·subst q; exact ⟨rfl,(h.good (pAt_mem (calm_lt c hi))).el⟩
 ·have := clB_no (calm_step c q hi).2; exact ⟨this.1.symm,this.2.1⟩
theorem span_ok {xs : List T_Paper.ty} (h : Papers xs) {T : List Nat} (c : Calm xs T) (h0 : 0 < T.length) : ∃ e l,impl_SpanOf xs (ix T) = some (pK (pAt xs T[0]),e,l,0) ∧ SpanI xs T T.length e l ∧ e ≤ l := by
 have hTl := c.len
 have h12 := h.few
 obtain ⟨e,l,q1,q2⟩ := span_loop h c h0 T.length 0 1500 2100 (by omega) ⟨fun t ht h => by omega,fun t ht h => by omega,.inl rfl,.inl rfl⟩
 have q1' : impl_SpanOf_p0 xs (ix T) 1500 2100 (ix T) T.length 0 = some (pK (pAt xs T[0]),e,l,0) := q1
 refine ⟨e,l,?_,q2,?_⟩
 ·rw [impl_SpanOf_eq,h.valid.1,Option.bind_some,if_neg (by decide),agrees_ok h c,Option.bind_some,if_neg (by decide),ix_len,if_neg (by rw [beq_iff_eq]; omega)]
  exact q1'
 ·rcases q2.e1 with a | ⟨a,ha,a1⟩
  ·rcases q2.l1 with b | ⟨b,hb,b1⟩
   ·omega
   ·have g := h.good (pAt_mem (calm_lt c hb))
    have := g.e0; have := g.el
    omega
  ·rcases q2.l1 with b | ⟨b,hb,b1⟩
   ·have g := h.good (pAt_mem (calm_lt c ha))
    have := g.l1; have := g.el
    omega
   ·have := (calm_any h c ha hb).2
    omega
theorem inside_loop (v1 : List Int) {xs : List T_Paper.ty} (h : Papers xs) {T : List Nat} (c : Calm xs T) (h0 : 0 < T.length) {e l : Int} (hs : SpanI xs T T.length e l) : ∀ (n i : Nat),i + n = T.length → laws_FnDocuments_p8 v1 xs (ix T) (pK (pAt xs T[0])) e l i = laws_FnDocuments_p2 v1
 | 0,i,hn => by
   rw [laws_FnDocuments_p8_eq,ix_len,if_neg (by simp; omega)]
 | n + 1,i,hn => by
   have hTl := c.len
   have h12 := h.few
   have hi : i < T.length := by omega
   have hlt : (i : Int) < ((ix T).length : Int) := by rw [ix_len]; omega
   have hb := calm_lt c hi
   have k1 : ((pAt xs T[i]).2.1 == pK (pAt xs T[0])) = true := by rw [beq_iff_eq]; exact (calm_any h c hi h0).1
   have k2 : ¬ (pAt xs T[i]).2.2.1 > e := by have : pE (pAt xs T[i]) ≤ e := hs.ea i hi hi; exact Int.not_lt.2 this
   have k3 : ¬ (pAt xs T[i]).2.2.2.1 < l := by have : l ≤ pL (pAt xs T[i]) := hs.la i hi hi; exact Int.not_lt.2 this
   rw [laws_FnDocuments_p8_eq]
   simp only [hlt,decide_true,if_true,Int.natCast_nonneg,Int.toNat_natCast,ix_get hi,Option.bind_some,pAt_get hb,k1,k2,k3,Bool.not_true,Bool.false_eq_true,decide_false,if_false,wsucc (show i < 4611686018427387904 by omega)]
   exact inside_loop v1 h c h0 hs n (i + 1) (by omega)
theorem add_draw (code : List Int) (h1 : ∀ x,x ∈ code → 0 ≤ x ∧ x ≤ 255) (h2 : code.length ≤ 1048576) : ∃ xs x,spec_DrawAddPaper code = some (xs,x) ∧ xs.length ≤ 20 ∧ Shorts xs ∧ Short x := by
 obtain ⟨s,e,k⟩ := from_ok code h1 h2
 obtain ⟨r,s',c',e2,k2,hc,hl,hr⟩ := papers_draw k
 obtain ⟨t,s3,q3,k3,m3⟩ := text_ok k2 (by omega) [[97,97],[112,99,99],[122,122],[112,97]] (by decide) (by decide)
 have ht : t.length ≤ 100 := (by decide : ∀ t,t ∈ ([[97,97],[112,99,99],[122,122],[112,97]] : List (List UInt8)) → t.length ≤ 100) t m3
 obtain ⟨x,s4,q4,k4,hx⟩ := drawPaper k3 (by omega) t ht
 obtain ⟨y,s5,q5,k5,hy⟩ := bentPaper k4 (by omega) hx
 have q5' : spec_l20Bent s4 (x.1,x.2.1,x.2.2.1,x.2.2.2.1,x.2.2.2.2.1,()) = some (y,s5) := q5
 refine ⟨r,y,?_,hl,hr,hy⟩
 rw [spec_DrawAddPaper_eq]
 simp only [e,e2,q3,q4,q5',Option.bind_some,src_eta,List.take_length]
theorem most_draw (code : List Int) (h1 : ∀ x,x ∈ code → 0 ≤ x ∧ x ≤ 255) (h2 : code.length ≤ 1048576) : ∃ xs b,spec_DrawMostTrusted code = some (xs,b) ∧ xs.length ≤ 20 ∧ Shorts xs := by
 obtain ⟨s,e,k⟩ := from_ok code h1 h2
 obtain ⟨r,s',c',e2,k2,hc,hl,hr⟩ := papers_draw k
 obtain ⟨u,s3,q3,k3,m3⟩ := among_ok k2 (by omega) [1,10,100,1000,20000,0,20001] (by decide) (by decide)
 refine ⟨r,u,?_,hl,hr⟩
 rw [spec_DrawMostTrusted_eq]
 simp only [e,e2,Option.bind_some,src_eta,List.take_length,spec_l06DrawBudget_eq,q3]
theorem add_ok {xs : List T_Paper.ty} {x : T_Paper.ty} (hl : xs.length ≤ 20) (hs : Shorts xs) (hx : Short x) : ∃ (l : List T_Paper.ty) (e : Int),impl_AddPaper xs x = some (l,e) ∧
 (e ≠ 0 ∧ l = [] ∨ e = 0 ∧ GoodP x ∧ Papers l ∧ l.length = xs.length + 1 ∧ x ∈ l) := by
 have bad : ∀ (e : Int),e ≠ 0 → ∃ (l : List T_Paper.ty) (e' : Int),(some (([] : List T_Paper.ty),e) : Option (List T_Paper.ty × Int)) = some (l,e') ∧ (e' ≠ 0 ∧ l = [] ∨ e' = 0 ∧ GoodP x ∧ Papers l ∧ l.length = xs.length + 1 ∧ x ∈ l) := fun e he => ⟨_,_,rfl,.inl ⟨he,rfl⟩⟩
 rw [impl_AddPaper_eq,(valid_iff hl hs).1,Option.bind_some]
 by_cases hv : papersOk xs = true
 rotate_left
 ·rw [if_pos (by simpa using hv)]; exact bad 1 (by decide)
 have h := papers_iff.1 hv
 have h12 := h.few
 rw [if_neg (by simp [hv]),impl_Paper_valid_ok x (Nat.lt_of_le_of_lt hx.1 (by decide)) (Nat.lt_of_le_of_lt hx.2 (by decide)),Option.bind_some]
 by_cases hp : paperOk x = true
 rotate_left
 ·rw [if_pos (by simpa using hp)]; exact bad 2 (by decide)
 rw [if_neg (by simp [hp])]
 have p2 : ∀ i : Nat,i ≤ xs.length → xs.length ≤ 11 → (∀ t,t < i → pI (pAt xs t) < pI x) → (∀ t,i ≤ t → t < xs.length → pI x < pI (pAt xs t)) →
  ∃ (l : List T_Paper.ty) (e : Int),impl_AddPaper_p2 xs i x.1 x.2.1 x.2.2.1 x.2.2.2.1 x.2.2.2.2.1 = some (l,e) ∧ (e ≠ 0 ∧ l = [] ∨ e = 0 ∧ GoodP x ∧ Papers l ∧ l.length = xs.length + 1 ∧ x ∈ l) := fun i hi h11 a1 a2 => by
  have e1 : ([(x.1,x.2.1,x.2.2.1,x.2.2.2.1,x.2.2.2.2.1,())] : List T_Paper.ty) = [x] := rfl
  have hle : (i : Int) ≤ (xs.length : Int) := by omega
  have hlim : xs.length + 1 < 1099511627776 := by omega
  have e2 : slices_Insert___impl_Paper_impl_Paper_ xs i [x] = some (xs.take i ++ [x] ++ xs.drop i,()) := by
   rw [slices_Insert___impl_Paper_impl_Paper__eq]
   simp only [List.length_singleton,Int.natCast_nonneg,hle,hlim,decide_true,Bool.and_self,if_true,Int.toNat_natCast]
  rw [impl_AddPaper_p2_eq,clonePapers (by omega),Option.bind_some,if_pos (by simp),e1,e2,Option.bind_some]
  simp only [List.take_length]
  refine ⟨_,_,rfl,.inr ⟨rfl,goodP hp,⟨fun y hy => ?_,?_,?_⟩,?_,by simp⟩⟩
  ·rcases List.mem_append.1 hy with hy | hy
   ·rcases List.mem_append.1 hy with hy | hy
    ·exact h.ok y (List.mem_of_mem_take hy)
    ·rw [List.mem_singleton.1 hy]; exact hp
   ·exact h.ok y (List.mem_of_mem_drop hy)
  ·rw [List.append_assoc,List.pairwise_append]
   refine ⟨h.up.sublist (List.take_sublist _ _),?_,fun a ha b hb => ?_⟩
   ·rw [List.singleton_append,List.pairwise_cons]
    refine ⟨fun b hb => ?_,h.up.sublist (List.drop_sublist _ _)⟩
    obtain ⟨t,ht,rfl⟩ := List.mem_iff_getElem.1 hb
    rw [List.length_drop] at ht
    have := a2 (i + t) (by omega) (by omega)
    rw [List.getElem_drop]
    simpa [pAt,List.getElem?_eq_getElem (show i + t < xs.length by omega)] using this
   ·obtain ⟨t,ht,rfl⟩ := List.mem_iff_getElem.1 ha
    rw [List.length_take] at ht
    have hax := a1 t (by omega)
    have e3 : (xs.take i)[t] = pAt xs t := by
     rw [List.getElem_take]; simp [pAt,List.getElem?_eq_getElem (show t < xs.length by omega)]
    rw [List.singleton_append] at hb
    rcases List.mem_cons.1 hb with rfl | hb
    ·rw [e3]; exact hax
    ·obtain ⟨u,hu,rfl⟩ := List.mem_iff_getElem.1 hb
     rw [List.length_drop] at hu
     have := a2 (i + u) (by omega) (by omega)
     rw [e3,List.getElem_drop]
     have e4 : xs[i + u] = pAt xs (i + u) := by simp [pAt,List.getElem?_eq_getElem (show i + u < xs.length by omega)]
     rw [e4]
     exact List.lt_trans hax this
  ·simp; omega
  ·simp; omega
 have p1 : ∀ i : Nat,i ≤ xs.length → (∀ t,t < i → pI (pAt xs t) < pI x) → (i < xs.length → ¬ pI (pAt xs i) < pI x) →
  ∃ (l : List T_Paper.ty) (e : Int),impl_AddPaper_p1 xs i x.1 x.2.1 x.2.2.1 x.2.2.2.1 x.2.2.2.2.1 = some (l,e) ∧ (e ≠ 0 ∧ l = [] ∨ e = 0 ∧ GoodP x ∧ Papers l ∧ l.length = xs.length + 1 ∧ x ∈ l) := fun i hi a1 a2 => by
  rw [impl_AddPaper_p1_eq]
  by_cases c : i < xs.length
  ·have hlt : (i : Int) < (xs.length : Int) := by omega
   simp only [hlt,decide_true,if_true,Int.natCast_nonneg,Int.toNat_natCast,pAt_get c,Option.bind_some]
   by_cases c2 : ((pAt xs i).1 == x.1) = true
   ·rw [if_pos c2]; exact bad 4 (by decide)
   ·rw [if_neg c2]
    by_cases c3 : ((xs.length : Int) == 12) = true
    ·rw [if_pos c3]; exact bad 5 (by decide)
    ·rw [if_neg c3]
     have c3' : ¬ xs.length = 12 := fun e => c3 (by rw [e]; rfl)
     have hix : pI x < pI (pAt xs i) := by
      have n1 := a2 c
      rcases List.le_iff_lt_or_eq.1 (List.not_lt.1 n1) with q | q
      ·exact q
      ·exact absurd (beq_iff_eq.2 q.symm) c2
     refine p2 i hi (by omega) a1 fun t ht htl => ?_
     by_cases q : t = i
     ·subst q; exact hix
     ·have hup := List.pairwise_iff_getElem.1 h.up i t c htl (by omega)
      have e1 : xs[i] = pAt xs i := by simp [pAt,List.getElem?_eq_getElem c]
      have e2 : xs[t] = pAt xs t := by simp [pAt,List.getElem?_eq_getElem htl]
      rw [e1,e2] at hup
      exact List.lt_trans hix hup
  ·have hlt : ¬ (i : Int) < (xs.length : Int) := by omega
   simp only [hlt,decide_false,Bool.false_eq_true,if_false]
   by_cases c3 : ((xs.length : Int) == 12) = true
   ·rw [if_pos c3]; exact bad 5 (by decide)
   ·rw [if_neg c3]
    have c3' : ¬ xs.length = 12 := fun e => c3 (by rw [e]; rfl)
    exact p2 i hi (by omega) a1 fun t ht htl => by omega
 have p0 : ∀ (n i : Nat),i + n = xs.length → (∀ t,t < i → pI (pAt xs t) < pI x) →
  ∃ (l : List T_Paper.ty) (e : Int),impl_AddPaper_p0 xs i x.1 x.2.1 x.2.2.1 x.2.2.2.1 x.2.2.2.2.1 = some (l,e) ∧ (e ≠ 0 ∧ l = [] ∨ e = 0 ∧ GoodP x ∧ Papers l ∧ l.length = xs.length + 1 ∧ x ∈ l) := by
  intro n
  induction n with
  | zero =>
    intro i hn a1
    rw [impl_AddPaper_p0_eq,if_neg (by simp; omega)]
    exact p1 i (by omega) a1 fun hc => by omega
  | succ n ih =>
    intro i hn a1
    have hi : i < xs.length := by omega
    have hlt : (i : Int) < (xs.length : Int) := by omega
    rw [impl_AddPaper_p0_eq]
    simp only [hlt,decide_true,if_true,Int.natCast_nonneg,Int.toNat_natCast,pAt_get hi,Option.bind_some,Proofs.bytesLess_eq,decide_eq_true_eq,wsucc (show i < 4611686018427387904 by omega)]
    by_cases c : pI (pAt xs i) < pI x
    ·rw [if_pos (show (pAt xs i).1 < x.1 from c)]
     exact ih (i + 1) (by omega) fun t ht => by
      by_cases q : t = i
      ·subst q; exact c
      ·exact a1 t (by omega)
    ·rw [if_neg (show ¬ (pAt xs i).1 < x.1 from c)]
     exact p1 i (by omega) a1 fun _ => c
 exact p0 xs.length 0 (by omega) fun t ht => by omega
def numP (x : T_Paper.ty) : List UInt8 := listP [x.2.2.1,x.2.2.2.1,x.2.2.2.2.1]
def papT (x : T_Paper.ty) : List UInt8 := x.1 ++ 32 :: (x.2.1 ++ 32 :: numP x)
theorem nump_in0 {x : T_Paper.ty} (h : GoodP x) : ∀ n,n ∈ [pE x,pL x,pT x] → -1000000000000 ≤ n ∧ n ≤ 1000000000000 := fun n hn => by
 have a0 := h.e0; have a1 := h.el; have b0 := h.l1; have c0 := h.t0; have c1 := h.t1
 simp only [List.mem_cons,List.not_mem_nil,or_false] at hn
 rcases hn with rfl | rfl | rfl <;> omega
theorem nump_in {x : T_Paper.ty} (h : GoodP x) : ∀ n,n ∈ [x.2.2.1,x.2.2.2.1,x.2.2.2.2.1] → -1000000000000 ≤ n ∧ n ≤ 1000000000000 := nump_in0 h
theorem pap_ok {x : T_Paper.ty} (h : GoodP x) : paperOk x = true := by
 have e : paperOk x = (isName (pI x) && (isName (pK x) && (decide (1500 ≤ pE x) && (decide (pE x ≤ pL x) && (decide (pL x ≤ 2100) && inR (pT x) 1 1000))))) := rfl
 have r : inR (pT x) 1 1000 = true := by unfold inR; simp only [Bool.and_eq_true,decide_eq_true_eq]; exact ⟨h.t0,h.t1⟩
 rw [e,h.i,h.k,decide_eq_true h.e0,decide_eq_true h.el,decide_eq_true h.l1,r]; rfl
theorem name_ne {s : List UInt8} (h : isName s = true) : s ≠ [] := fun e => by rw [e] at h; simp [isName] at h
theorem nump_len {x : T_Paper.ty} (h : GoodP x) : (numP x).length ≤ 1024 := listP_len _ (by simp) (nump_in h)
theorem pap_text {x : T_Paper.ty} (h : GoodP x) : impl_PaperText x = some (papT x) := by
 have i2 : x.1.length ≤ 10 := nameLen h.i
 have n2 : x.2.1.length ≤ 10 := nameLen h.k
 have hl := nump_len h
 have hv := impl_Paper_valid_ok x (by omega) (by omega)
 rw [pap_ok h] at hv
 have hn := impl_named_ok x.2.1 [x.2.2.1,x.2.2.2.1,x.2.2.2.2.1] (by omega) (by simp) (by simp) (nump_in h)
 have e1 : x.1.length + ([32] : List UInt8).length ≤ strMax := by simp only [List.length_cons,List.length_nil]; unfold strMax; omega
 have e2 : (x.1 ++ [32]).length + (x.2.1 ++ 32 :: listP [x.2.2.1,x.2.2.2.1,x.2.2.2.2.1]).length ≤ strMax := by
  have hl' : (listP [x.2.2.1,x.2.2.2.1,x.2.2.2.2.1]).length ≤ 1024 := hl
  simp only [List.length_append,List.length_cons,List.length_nil]; unfold strMax; omega
 rw [impl_PaperText_eq,hv,Option.bind_some,if_neg (by decide)]
 split
 ·rw [hn,Option.bind_some]
  split
  ·rw [papT,numP]; simp
  ·rename_i hne; exact absurd (decide_eq_true e2) hne
 ·rename_i hne; exact absurd (decide_eq_true e1) hne
theorem read_pap {x : T_Paper.ty} (h : GoodP x) : impl_ReadPaper (papT x) = some ((x.1,x.2.1,x.2.2.1,x.2.2.2.1,x.2.2.2.2.1,()),true) := by
 have i2 : x.1.length ≤ 10 := nameLen h.i
 have n2 : x.2.1.length ≤ 10 := nameLen h.k
 have hl := nump_len h
 have hs := impl_SplitWords_3 x.1 x.2.1 (numP x) (name_ne h.i) (name_ne h.k) (listP_ne (by simp)) (isName_no h.i (by decide)) (isName_no h.k (by decide)) (listP_no (by simp) (by decide) (by decide) (by decide)) (by omega)
 have hr : impl_ReadList (numP x) = some ([x.2.2.1,x.2.2.2.1,x.2.2.2.2.1],true) := impl_ReadList_ok _ (by simp) (by simp) (nump_in h)
 have ht : impl_PaperText (x.1,x.2.1,x.2.2.1,x.2.2.2.1,x.2.2.2.2.1,()) = some (papT x) := pap_text h
 rw [impl_ReadPaper_eq,papT,hs,Option.bind_some,if_neg (by simp),if_pos (by simp)]
 rw [show ([x.1,x.2.1,numP x] : List (List UInt8))[2]? = some (numP x) from rfl,Option.bind_some,hr,Option.bind_some,if_neg (by simp),if_neg (by simp),impl_ReadPaper_p0_eq]
 rw [if_pos (by simp),show ([x.1,x.2.1,numP x] : List (List UInt8))[0]? = some x.1 from rfl,Option.bind_some,if_pos (by simp),show ([x.1,x.2.1,numP x] : List (List UInt8))[1]? = some x.2.1 from rfl,Option.bind_some]
 rw [if_pos (by simp),show ([x.2.2.1,x.2.2.2.1,x.2.2.2.2.1] : List Int)[0]? = some x.2.2.1 from rfl,Option.bind_some,if_pos (by simp),show ([x.2.2.1,x.2.2.2.1,x.2.2.2.2.1] : List Int)[1]? = some x.2.2.2.1 from rfl,Option.bind_some,if_pos (by simp),show ([x.2.2.1,x.2.2.2.1,x.2.2.2.2.1] : List Int)[2]? = some x.2.2.2.2.1 from rfl,Option.bind_some]
 rw [ht,Option.bind_some,if_neg (by simp [papT])]
theorem eq5 (a b : T_Paper.ty) : ((a.1 == b.1) && ((a.2.1 == b.2.1) && ((a.2.2.1 == b.2.2.1) && ((a.2.2.2.1 == b.2.2.2.1) && (a.2.2.2.2.1 == b.2.2.2.2.1))))) = true ↔ a = b := by
 obtain ⟨a1,a2,a3,a4,a5,a6⟩ := a
 obtain ⟨b1,b2,b3,b4,b5,b6⟩ := b
 simp only [Bool.and_eq_true,beq_iff_eq]
 constructor
 ·rintro ⟨h1,h2,h3,h4,h5⟩
  subst h1; subst h2; subst h3; subst h4; subst h5; rfl
 ·intro h; cases h; exact ⟨rfl,rfl,rfl,rfl,rfl⟩
theorem found_loop {xs l : List T_Paper.ty} {x : T_Paper.ty} (hl : Papers l) (hlen : l.length = xs.length + 1) (hx : x ∈ l) : ∀ (n i : Nat) (f : Bool),i + n = l.length → (f = true ↔ x ∈ l.take i) →
 laws_FnDocuments_p4 xs l true f i x.1 x.2.1 x.2.2.1 x.2.2.2.1 x.2.2.2.2.1 x.1 x.2.1 x.2.2.1 x.2.2.2.1 x.2.2.2.2.1 = some true
 | 0,i,f,hn,hf => by
   have h12 := hl.few
   have : i = l.length := by omega
   subst this
   rw [List.take_length] at hf
   have hft : f = true := hf.2 hx
   have hw : ((l.length : Int) == IntKind.i64.wrap ((xs.length : Int) + 1)) = true := by rw [w64 (by omega) (by omega),beq_iff_eq]; omega
   have hv : spec_ValidPapers l = some true := by rw [spec_ValidPapers_eq,hl.valid.2]; rfl
   rw [laws_FnDocuments_p4_eq,if_neg (by simp),hv,Option.bind_some,if_pos rfl,if_pos hw,if_pos hft,if_pos rfl]
   rw [(eq5 x x).2 rfl]
 | n + 1,i,f,hn,hf => by
   have h12 := hl.few
   have hi : i < l.length := by omega
   have hlt : (i : Int) < (l.length : Int) := by omega
   have hw := wsucc (show i < 4611686018427387904 by omega)
   have ht : l.take (i + 1) = l.take i ++ [pAt l i] := by
    rw [List.take_succ_eq_append_getElem hi]; simp [pAt,List.getElem?_eq_getElem hi]
   rw [laws_FnDocuments_p4_eq]
   simp only [hlt,decide_true,if_true,hw]
   cases f with
   | true =>
     rw [if_pos rfl]
     refine found_loop hl hlen hx n (i + 1) true (by omega) ⟨fun _ => ?_,fun _ => rfl⟩
     rw [ht]; exact List.mem_append_left _ (hf.1 rfl)
   | false =>
     rw [if_neg (by decide)]
     simp only [Int.natCast_nonneg,decide_true,if_true,Int.toNat_natCast,pAt_get hi,Option.bind_some]
     refine found_loop hl hlen hx n (i + 1) _ (by omega) ?_
     rw [eq5 (pAt l i) x,ht,List.mem_append,List.mem_singleton]
     exact ⟨fun e => .inr e.symm,fun e => e.elim (fun e => by have := hf.2 e; cases this) fun e => e.symm⟩
theorem law_p2 (v1 : List Int) (h1 : ∀ x,x ∈ v1 → 0 ≤ x ∧ x ≤ 255) (h2 : v1.length ≤ 1048576) : laws_FnDocuments_p2 v1 = some true := by
 obtain ⟨xs,x,e,hl,hs,hx⟩ := add_draw v1 h1 h2
 obtain ⟨l,c,e2,hc⟩ := add_ok hl hs hx
 have e2' : impl_AddPaper xs (x.1,x.2.1,x.2.2.1,x.2.2.2.1,x.2.2.2.2.1,()) = some (l,c) := e2
 rw [laws_FnDocuments_p2_eq,e,Option.bind_some]
 simp only [List.take_length,e2',Option.bind_some]
 rcases hc with ⟨hc,rfl⟩ | ⟨rfl,hg,hp,hlen,hm⟩
 ·rw [if_pos (by simpa using hc)]; rfl
 ·have t1 : impl_PaperText (x.1,x.2.1,x.2.2.1,x.2.2.2.1,x.2.2.2.2.1,()) = some (papT x) := pap_text hg
  rw [if_neg (by simp),t1,Option.bind_some,read_pap hg,Option.bind_some]
  exact found_loop hp hlen hm l.length 0 false (by omega) (by simp)
theorem longB (a : List Int) : laws_b10Long a = some (decide ((a.length : Int) > 1048576)) := by
 rw [laws_b10Long_eq]
theorem laws_FnDocuments_true (a0 a1 : List Int) (h0 : ET.wf (.one (.sl (.one (.int .u8)))) a0) (h1 : ET.wf (.one (.sl (.one (.int .u8)))) a1) : laws_FnDocuments a0 a1 = some true := by
 rw [laws_FnDocuments_eq,longB,Option.bind_some]
 by_cases c0 : (a0.length : Int) > 1048576
 ·rw [if_pos (decide_eq_true c0)]
 rw [if_neg (by simpa using c0),longB,Option.bind_some]
 by_cases c1 : (a1.length : Int) > 1048576
 ·rw [if_pos (decide_eq_true c1)]
 rw [if_neg (by simpa using c1)]
 have h2 := law_p2 a1 (bytes_ok h1) (by omega)
 obtain ⟨xs,b,e,hl,hs⟩ := most_draw a0 (bytes_ok h0) (by omega)
 obtain ⟨l,t,c,e2,hc⟩ := most_ok hl hs b
 rw [laws_FnDocuments_p0_eq,e,Option.bind_some]
 simp only [List.take_length,e2,Option.bind_some]
 rcases hc with ⟨hc,rfl,rfl⟩ | ⟨rfl,hp,B,hB,rfl,rfl,hbest⟩
 ·rw [if_neg (by simpa using hc),if_neg (by simp),if_neg (by simp)]
  exact h2
 ·have h12 := hp.few
  have r1 : laws_b10Rises (ix B) xs.length = some true := by rw [laws_b10Rises_eq]; exact (rises_loop hB hp.few B.length 0 (by omega)).1
  have fin : laws_FnDocuments_p1 a1 xs (ix B) (tr xs B) 0 = some true := by
   rw [laws_FnDocuments_p1_eq]
   have s0 := sum_loop a1 hp hB B.length 0 (by omega)
   have s0' : laws_FnDocuments_p3 a1 xs (ix B) (tr xs B) 0 0 = laws_FnDocuments_p5 a1 xs (ix B) (tr xs B) 0 := s0
   rw [s0']
   have s1 : laws_FnDocuments_p5 a1 xs (ix B) (tr xs B) 0 = laws_FnDocuments_p5 a1 xs (ix B) (tr xs B) xs.length := pairs_loop a1 hp hbest xs.length 0 (by omega)
   rw [s1,laws_FnDocuments_p5_eq,if_neg (by simp),ix_len]
   by_cases hb : 0 < B.length
   ·have hbi : (B.length : Int) > 0 := by omega
    obtain ⟨e',l',q1,q2,q3⟩ := span_ok hp hB hb
    rw [if_pos (decide_eq_true hbi),q1,Option.bind_some,if_neg (by simp),if_neg (by simpa using Int.not_lt.2 q3),laws_FnDocuments_p7_eq]
    exact (inside_loop a1 hp hB hb q2 B.length 0 (by omega)).trans h2
   ·rw [if_neg (by rw [decide_eq_true_eq]; omega)]
    exact h2
  rw [if_pos (by rfl),r1,Option.bind_some,if_neg (by decide),agrees_ok hp hB,Option.bind_some,if_neg (by decide),again_ok hp hB,Option.bind_some,if_neg (by decide)]
  by_cases hpos : (xs.length : Int) > 0
  ·rw [if_pos (decide_eq_true hpos)]
   have hBn : ¬ ((ix B).length : Int) = 0 := fun e => by
    rw [ix_len] at e
    have hB0 : B = [] := List.eq_nil_of_length_eq_zero (by omega)
    have := hbest [0] (calm_one (by omega))
    have g := (hp.good (pAt_mem (show 0 < xs.length by omega))).t0
    rw [hB0,tr_cons,tr_nil] at this
    omega
   rw [if_neg (by simpa using hBn)]
   exact fin
  ·rw [if_neg (by simpa using hpos)]
   exact fin
end Go.Ab.P
