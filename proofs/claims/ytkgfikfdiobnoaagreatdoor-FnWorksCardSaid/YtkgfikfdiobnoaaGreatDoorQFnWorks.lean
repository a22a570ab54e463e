/- Works: a plan that is found keeps all works, the fewest benches are told, and loose days are right. Conditions: the arguments are bytes. -/
import Derived.Test.YtkgfikfdiobnoaaGreatDoorBFnWorks
set_option linter.unusedVariables false
set_option linter.unusedSectionVars false
set_option linter.unusedSimpArgs false
set_option maxRecDepth 4000
namespace Go.Ab.P
open Go.Ab
def WkSm (x : T_Peg.ty) : Prop := List.length (α := UInt8) x.1 ≤ 100
def WksSm (xs : List T_Peg.ty) : Prop := xs.length ≤ 100 ∧ ∀ x,x ∈ xs → WkSm x
theorem wk_eta (x : T_Peg.ty) : (x.1,x.2.1,x.2.2.1,x.2.2.2.1,()) = x := rfl
theorem workOne {s : Zaa.ty} {c : Int} (hs : SrcOk s c) (hc : c ≤ 100000000000000000) (id : List UInt8) (hid : id.length ≤ 100) : ∃ (x : T_Peg.ty) (s' : Zaa.ty),Zbt s id = some (x,s') ∧ SrcOk s' (c + 10) ∧ WkSm x := by
 obtain ⟨v1,s1,e1,k1,_⟩ := Zg5 hs (by omega) 8 (by omega)
 obtain ⟨v2,s2,e2,k2,_⟩ := Zg5 k1 (by omega) 20 (by omega)
 obtain ⟨v3,s3,e3,k3,_⟩ := Zg5 k2 (by omega) 8 (by omega)
 rw [Zor]
 simp only [e1,e2,e3,Option.bind_some,Za1,Zut]
 exact ⟨_,s3,rfl,k3.up (by omega),hid⟩
theorem Z35 {s : Zaa.ty} {c : Int} (hs : SrcOk s c) (hc : c ≤ 10000000000000000) (p : T_Peg.ty) (hp : WkSm p) : ∃ (x : T_Peg.ty) (s' : Zaa.ty),Zj1 s p = some (x,s') ∧ SrcOk s' (c + 4) ∧ WkSm x := by
 obtain ⟨v,s1,e1,k1,_⟩ := Zg5 hs (by omega) 16 (by omega)
 obtain ⟨a1,t1,f1,g1,_⟩ := Zkn k1 (by omega) [0,1,40,41] (by decide) (by decide)
 obtain ⟨a2,t2,f2,g2,_⟩ := Zkn k1 (by omega) [39,40,p.2.2.1] (Nat.zero_lt_succ 2) (show 3 ≤ 65536 by decide)
 rw [Ztf]
 simp only [e1,f1,f2,Option.bind_some,Za1]
 repeat' split
 all_goals exact ⟨_,_,rfl,SrcOk.up (by first | exact g1 | exact g2 | exact k1) (by omega),hp⟩
theorem Zss (v6 : Int) (h6 : v6 ≤ 20) : ∀ (k : Nat) (v7 : Int) (s : Zaa.ty) (c : Int) (r : List T_Peg.ty),SrcOk s c → c + 20 * k ≤ 1000000 → 0 ≤ v7 → v7 ≤ 20 → (v6 - v7).toNat ≤ k → (r.length : Int) ≤ v7 → (∀ x,x ∈ r → WkSm x) →
 ∃ (xs : List T_Peg.ty) (s' : Zaa.ty),Zc4 v6 v7 s.1 s.2.1 s.2.2.1 r = some (xs,s') ∧ SrcOk s' 1000000 ∧ WksSm xs
 | 0,v7,s,c,r,hs,hc,h0,h7,hk,hr,hx => by
   have : ¬ v7 < v6 := by omega
   rw [Zhn]
   simp only [this,decide_false,Bool.false_eq_true,if_false,List.take_length]
   exact ⟨_,_,rfl,hs.up (by omega),by omega,hx⟩
 | k + 1,v7,s,c,r,hs,hc,h0,h7,hk,hr,hx => by
   rw [Zhn]
   by_cases hlt : v7 < v6
   ·have hd := Zsa v7 (by omega)
    have hst : [(110 : UInt8)].length + (Lib.itoa v7).length ≤ strMax := by rw [Zp5]; simp only [List.length_cons,List.length_nil]; omega
    have hw : IntKind.i64.wrap (v7 + 1) = v7 + 1 := w64 (by omega) (by omega)
    obtain ⟨x,s1,e1,k1,m1⟩ := workOne hs (by omega) ([110] ++ Lib.itoa v7) (by simp only [List.length_append,List.length_cons,List.length_nil]; omega)
    have hlim : r.length + 1 < lim := by rw [lim_eq]; omega
    simp only [hlt,decide_true,if_true,Zrm v7 ⟨by omega,by omega⟩,Option.bind_some,Za1]
    refine Exists.imp (fun _ => Exists.imp fun _ h => And.imp (fun h => (if_pos (decide_eq_true hst)).trans h) id h) ?_
    simp only [e1,Option.bind_some,Za1,wk_eta,hlim,decide_true,if_true,List.take_length,hw]
    refine Zss v6 h6 k (v7 + 1) s1 (c + 10) (r ++ [x]) k1 (by omega) (by omega) (by omega) (by omega) (by simp only [List.length_append,List.length_cons,List.length_nil]; omega) fun y hy => ?_
    rcases List.mem_append.1 hy with hy | hy
    ·exact hx y hy
    ·rw [List.mem_singleton] at hy; subst hy; exact m1
   ·simp only [hlt,decide_false,Bool.false_eq_true,if_false,List.take_length]
    exact ⟨_,_,rfl,hs.up (by omega),by omega,hx⟩
theorem Znv (r3 : List (List UInt8)) (h3 : r3.length ≤ 10) (hm : ∀ t,t ∈ r3 → t.length ≤ 100) : ∀ (k i : Nat) (s : Zaa.ty) (c : Int) (r : List T_Peg.ty),SrcOk s c → c + 20 * k ≤ 1000 → i + k = r3.length → r.length ≤ i → (∀ x,x ∈ r → WkSm x) →
 ∃ (xs : List T_Peg.ty) (s' : Zaa.ty),Zby i s.1 s.2.1 s.2.2.1 r3 r = some (xs,s') ∧ SrcOk s' 1000000 ∧ WksSm xs
 | 0,i,s,c,r,hs,hc,hk,hr,hx => by
   have : ¬ (i : Int) < (r3.length : Int) := by omega
   rw [Zhg]
   obtain ⟨v,s1,e1,k1,_⟩ := Zg5 hs (by omega) 20 (by omega)
   simp only [this,decide_false,Bool.false_eq_true,if_false,Za1,e1,Option.bind_some,List.take_length]
   by_cases h0 : (v == 0) = true
   ·obtain ⟨x,s2,e2,k2,m2⟩ := workOne k1 (by omega) [122,122] (by decide)
    obtain ⟨y,s3,e3,k3,m3⟩ := Z35 k2 (by omega) x m2
    have hlim : r.length + 1 < lim := by rw [lim_eq]; omega
    simp only [h0,if_true,e2,Option.bind_some,Za1,wk_eta,e3,hlim,decide_true]
    refine ⟨_,_,rfl,k3.up (by omega),by simp only [List.length_append,List.length_cons,List.length_nil]; omega,fun z hz => ?_⟩
    rcases List.mem_append.1 hz with hz | hz
    ·exact hx z hz
    ·rw [List.mem_singleton] at hz; subst hz; exact m3
   ·have h0' : (v == 0) = false := by simpa using h0
    simp only [h0',Bool.false_eq_true,if_false]
    by_cases h1 : (v == 1) = true
    ·obtain ⟨a,t1,f1,g1,ma⟩ := Zkn k1 (by omega) [8,9] (by decide) (by decide)
     have ha : a ≤ 20 := by simp at ma; omega
     simp only [h1,if_true,f1,Option.bind_some,Za1]
     exact Zss a ha 20 0 t1 (c + 2 + 2) [] g1 (by omega) (by omega) (by omega) (by omega) (by simp) (fun x hx => by cases hx)
    ·have h1' : (v == 1) = false := by simpa using h1
     simp only [h1',Bool.false_eq_true,if_false]
     exact ⟨_,_,rfl,k1.up (by omega),by omega,hx⟩
 | k + 1,i,s,c,r,hs,hc,hk,hr,hx => by
   have hi : i < r3.length := by omega
   have hlt : (i : Int) < (r3.length : Int) := by omega
   have hw : IntKind.i64.wrap ((i : Int) + 1) = ((i + 1 : Nat) : Int) := wsucc (by omega)
   rw [Zhg]
   obtain ⟨v,s1,e1,k1⟩ := one_ok hs (by omega) 4 (by omega)
   simp only [hlt,decide_true,if_true,Za1,e1,Option.bind_some,Int.natCast_nonneg,Bool.and_self,Int.toNat_natCast,List.getElem?_eq_getElem hi,hw,List.take_length]
   cases v
   ·obtain ⟨x,s2,e2,k2,m2⟩ := workOne k1 (by omega) r3[i] (hm _ (List.getElem_mem hi))
    have hlim : r.length + 1 < lim := by rw [lim_eq]; omega
    simp only [Bool.not_false,if_true,e2,Option.bind_some,Za1,wk_eta,hlim,decide_true]
    refine Znv r3 h3 hm k (i + 1) s2 _ (r ++ [x]) k2 (by omega) (by omega) (by simp only [List.length_append,List.length_cons,List.length_nil]; omega) fun y hy => ?_
    rcases List.mem_append.1 hy with hy | hy
    ·exact hx y hy
    ·rw [List.mem_singleton] at hy; subst hy; exact m2
   ·simp only [Bool.not_true,Bool.false_eq_true,if_false]
    exact Znv r3 h3 hm k (i + 1) s1 _ r k1 (by omega) (by omega) (by omega) hx
theorem Zvv {s : Zaa.ty} {c : Int} (hs : SrcOk s c) (hc : c ≤ 900) : ∃ (xs : List T_Peg.ty) (s' : Zaa.ty),Zga s = some (xs,s') ∧ SrcOk s' 1000000 ∧ WksSm xs := by
 rw [Zt3]
 exact Znv [[119,97],[119,98],[119,99],[119,100]] (by decide) (by decide) 4 0 s c [] hs (by omega) rfl (by simp) (fun x hx => by cases hx)
/-! What a valid work is. -/
theorem Zdy {x : T_Peg.ty} (h : workOk x = true) : isName x.1 = true ∧ (1 ≤ wkD x ∧ wkD x ≤ 40) ∧ (0 ≤ wkF x ∧ wkF x ≤ 39) ∧ (0 ≤ wkL x ∧ wkL x ≤ 39) ∧ wkF x + wkD x - 1 ≤ wkL x := by
 simp only [workOk,Bool.and_eq_true,inR_iff',decide_eq_true_eq] at h
 obtain ⟨h1,h2,h3,h4,h5⟩ := h
 have h2 : 1 ≤ wkD x ∧ wkD x ≤ 40 := h2
 have h3 : 0 ≤ wkF x ∧ wkF x ≤ 39 := h3
 have h4 : 0 ≤ wkL x ∧ wkL x ≤ 39 := h4
 have h5 : IntKind.i64.wrap ((IntKind.i64.wrap (wkF x + wkD x)) - 1) ≤ wkL x := h5
 rw [w64 (n := wkF x + wkD x) (by omega) (by omega),w64 (by omega) (by omega)] at h5
 exact ⟨h1,h2,h3,h4,h5⟩
theorem Z12 {x : T_Peg.ty} (h : workOk x = true) : smallW x = true := by
 obtain ⟨_,h2,h3,h4,_⟩ := Zdy h
 simp only [smallW,Bool.and_eq_true,decide_eq_true_eq]
 omega
theorem Zwz {xs : List T_Peg.ty} (h : worksOk xs = true) : xs.length ≤ 8 := by
 simp only [worksOk,Bool.and_eq_true,decide_eq_true_eq] at h
 omega
theorem Zno (xs : List T_Peg.ty) (h : WksSm xs) : Zax xs = some (worksOk xs) := Zpg xs (Nat.le_trans h.1 (by decide)) fun x hx => Nat.le_trans (h.2 x hx) (by decide)
theorem Z5a (xs : List T_Peg.ty) (h : WksSm xs) : Zjl xs = some (worksOk xs) := Zxr xs (Nat.le_trans h.1 (by decide)) fun x hx => Nat.le_trans (h.2 x hx) (by decide)
theorem Z39 (x : T_Peg.ty) (hv : workOk x = true) : ∃ t,Zil x = some t ∧ Zii t = some (x,true) := by
 obtain ⟨h1,h2,h3,h4,_⟩ := Zdy hv
 obtain ⟨id,d,f,l,⟨⟩⟩ := x
 have g2 : 1 ≤ wkD (id,d,f,l,()) ∧ wkD (id,d,f,l,()) ≤ 40 := h2
 have g3 : 0 ≤ wkF (id,d,f,l,()) ∧ wkF (id,d,f,l,()) ≤ 39 := h3
 have g4 : 0 ≤ wkL (id,d,f,l,()) ∧ wkL (id,d,f,l,()) ≤ 39 := h4
 clear h2 h3 h4
 have h1 : isName id = true := h1
 have hn := Zts h1
 have hx : ∀ x : Int,x ∈ [(d : Int),f,l] → -1000000000000 ≤ x ∧ x ≤ 1000000000000 := fun x hx => by
  simp only [List.mem_cons,List.not_mem_nil,or_false] at hx
  rcases hx with h | h | h
  ·have : x = wkD (id,d,f,l,()) := h
   omega
  ·have : x = wkF (id,d,f,l,()) := h
   omega
  ·have : x = wkL (id,d,f,l,()) := h
   omega
 have hv' : Zaw (id,d,f,l,()) = some true := by rw [Zhi _ (show id.length < _ by omega),hv]
 refine ⟨id ++ 32 :: listP [d,f,l],?_,?_⟩
 ·rw [Zr2,hv']
  simp only [Option.bind_some,Bool.not_true,Bool.false_eq_true,if_false]
  rw [Zxh id [d,f,l] (by omega) (by simp) (by simp) hx,Option.bind_some]
 ·rw [Zr3,Zqt id [d,f,l] 3 (Z3k h1 (by decide)) (by omega) (by simp) (by simp) hx,Option.bind_some]
  simp [hv']
/-! Plans. -/
abbrev Pt := Nat × Nat × Nat
def inP (t : Pt) (b d : Nat) : Prop := t.1 = b ∧ t.2.1 ≤ d ∧ d < t.2.1 + t.2.2
structure Plan (n : Nat) (rows : List (List Int)) (L : List Pt) : Prop where
 len : rows.length = n
 row : ∀ b,b < n → (rowAt rows b).length = 40
 dom : ∀ t,t ∈ L → t.1 < n ∧ t.2.1 + t.2.2 ≤ 40 ∧ 1 ≤ t.2.2
 cell : ∀ b d,b < n → d < 40 → ((∀ t,t ∈ L → ¬ inP t b d) ∧ (rowAt rows b)[d]? = some 0) ∨ ∃ (j : Nat) (t : Pt),L[j]? = some t ∧ inP t b d ∧ (rowAt rows b)[d]? = some ((j : Int) + 1) ∧ ∀ (i : Nat) (u : Pt),L[i]? = some u → inP u b d → i = j
theorem Plan.add {n : Nat} {rows : List (List Int)} {L : List Pt} (h : Plan n rows L) {i d m : Nat} (hi : i < n) (hdm : d + m ≤ 40) (hm : 1 ≤ m) (hf : ∀ q,q < m → (rowAt rows i)[d + q]? = some 0) :
 Plan n (rows.set i (fillN (rowAt rows i) d m ((L.length : Int) + 1))) (L ++ [(i,d,m)]) := by
 have hil : i < rows.length := by rw [h.len]; exact hi
 have hrl := h.row i hi
 refine ⟨by rw [List.length_set]; exact h.len,fun b hb => ?_,fun t ht => ?_,fun b q hb hq => ?_⟩
 ·rw [Zcl hil]
  split
  ·rw [Ze5 (by omega)]; exact hrl
  ·exact h.row b hb
 ·rcases List.mem_append.1 ht with ht | ht
  ·exact h.dom t ht
  ·rw [List.mem_singleton] at ht; subst ht; exact ⟨hi,hdm,hm⟩
 ·by_cases hin : inP (i,d,m) b q
  ·obtain ⟨e,q1,q2⟩ := hin
   have e : i = b := e
   have q1 : d ≤ q := q1
   have q2 : q < d + m := q2
   subst e
   have h0 : (rowAt rows i)[q]? = some 0 := by
    have := hf (q - d) (by omega)
    rwa [show d + (q - d) = q from by omega] at this
   refine .inr ⟨L.length,(i,d,m),by simp,⟨rfl,q1,q2⟩,by rw [Zcl hil,if_pos rfl,Ze2 (by omega),if_pos ⟨q1,q2⟩],fun j u hj hu => ?_⟩
   rcases Nat.lt_or_ge j L.length with hjl | hjl
   ·exfalso
    rw [List.getElem?_append_left hjl] at hj
    rcases h.cell i q hi hq with ⟨c1,_⟩ | ⟨j',t',c1,c2,c3,c4⟩
    ·exact c1 u (List.mem_of_getElem? hj) hu
    ·rw [h0] at c3
     have := Option.some.inj c3
     omega
   ·rw [List.getElem?_append_right hjl] at hj
    rcases Nat.eq_zero_or_pos (j - L.length) with e | e
    ·omega
    ·rw [List.getElem?_eq_none (by simp; omega)] at hj; cases hj
  ·have hsame : (rowAt (rows.set i (fillN (rowAt rows i) d m ((L.length : Int) + 1))) b)[q]? = (rowAt rows b)[q]? := by
    rw [Zcl hil]
    split
    ·rename_i e
     subst e
     rw [Ze2 (by omega),if_neg (fun c => hin ⟨rfl,c.1,c.2⟩)]
    ·rfl
   rw [hsame]
   rcases h.cell b q hb hq with ⟨c1,c2⟩ | ⟨j',t',c1,c2,c3,c4⟩
   ·refine .inl ⟨fun t ht => ?_,c2⟩
    rcases List.mem_append.1 ht with ht | ht
    ·exact c1 t ht
    ·rw [List.mem_singleton] at ht; subst ht; exact hin
   ·have hjl : j' < L.length := by
     rcases Nat.lt_or_ge j' L.length with h | h
     ·exact h
     ·rw [List.getElem?_eq_none h] at c1; cases c1
    refine .inr ⟨j',t',by rw [List.getElem?_append_left hjl]; exact c1,c2,c3,fun j u hj hu => ?_⟩
    rcases Nat.lt_or_ge j L.length with hjl | hjl
    ·rw [List.getElem?_append_left hjl] at hj
     exact c4 j u hj hu
    ·rw [List.getElem?_append_right hjl] at hj
     have := List.mem_of_getElem? hj
     rw [List.mem_singleton] at this
     subst this
     exact absurd hu hin
theorem Plan.drop {n : Nat} {rows : List (List Int)} {L : List Pt} {i d m : Nat} (h : Plan n rows (L ++ [(i,d,m)])) : Plan n (rows.set i (fillN (rowAt rows i) d m 0)) L := by
 obtain ⟨hi,hdm,hm⟩ := h.dom (i,d,m) (by simp)
 have hi : i < n := hi
 have hdm : d + m ≤ 40 := hdm
 have hil : i < rows.length := by rw [h.len]; exact hi
 have hrl := h.row i hi
 have hlast : (L ++ [(i,d,m)])[L.length]? = some (i,d,m) := by simp
 refine ⟨by rw [List.length_set]; exact h.len,fun b hb => ?_,fun t ht => h.dom t (List.mem_append_left _ ht),fun b q hb hq => ?_⟩
 ·rw [Zcl hil]
  split
  ·rw [Ze5 (by omega)]; exact hrl
  ·exact h.row b hb
 ·by_cases hin : inP (i,d,m) b q
  ·refine .inl ⟨fun t ht hu => ?_,?_⟩
   ·obtain ⟨j,hj,hjt⟩ := List.getElem_of_mem ht
    have hj' : (L ++ [(i,d,m)])[j]? = some t := by rw [List.getElem?_append_left hj,List.getElem?_eq_getElem hj,hjt]
    rcases h.cell b q hb hq with ⟨c1,_⟩ | ⟨j',t',c1,c2,c3,c4⟩
    ·exact c1 _ (by simp) hin
    ·have a1 := c4 _ _ hlast hin
     have a2 := c4 _ _ hj' hu
     omega
   ·obtain ⟨e,q1,q2⟩ := hin
    have e : i = b := e
    have q1 : d ≤ q := q1
    have q2 : q < d + m := q2
    subst e
    rw [Zcl hil,if_pos rfl,Ze2 (by omega),if_pos ⟨q1,q2⟩]
  ·have hsame : (rowAt (rows.set i (fillN (rowAt rows i) d m 0)) b)[q]? = (rowAt rows b)[q]? := by
    rw [Zcl hil]
    split
    ·rename_i e
     subst e
     rw [Ze2 (by omega),if_neg (fun c => hin ⟨rfl,c.1,c.2⟩)]
    ·rfl
   rw [hsame]
   rcases h.cell b q hb hq with ⟨c1,c2⟩ | ⟨j',t',c1,c2,c3,c4⟩
   ·exact .inl ⟨fun t ht => c1 t (List.mem_append_left _ ht),c2⟩
   ·have hjl : j' < L.length := by
     rcases Nat.lt_or_ge j' L.length with h | h
     ·exact h
     ·rw [List.getElem?_append_right h] at c1
      have := List.mem_of_getElem? c1
      rw [List.mem_singleton] at this
      subst this
      exact absurd c2 hin
    rw [List.getElem?_append_left hjl] at c1
    refine .inr ⟨j',t',c1,c2,c3,fun j u hj hu => ?_⟩
    have hjl : j < L.length := by
     rcases Nat.lt_or_ge j L.length with h | h
     ·exact h
     ·rw [List.getElem?_eq_none h] at hj; cases hj
    exact c4 j u (by rw [List.getElem?_append_left hjl]; exact hj) hu
def Fits : List T_Peg.ty → List Pt → Prop
 | [],[] => True
 | x :: xs,t :: ts => ((t.2.2 : Int) = wkD x ∧ wkF x ≤ t.2.1 ∧ (t.2.1 : Int) + wkD x - 1 ≤ wkL x) ∧ Fits xs ts
 | _,_ => False
def Post (n : Nat) (L : List Pt) (xs : List T_Peg.ty) (r : PwR) : Prop :=
 (r.1 = true → ∃ L',Plan n r.2.2.1 (L ++ L') ∧ Fits xs L') ∧ (r.1 = false → r.2.1 = true → Plan n r.2.2.1 L)
theorem Zup {n i : Nat} {L : List Pt} {x : T_Peg.ty} {xs : List T_Peg.ty} {rec : List (List Int) → Int → PwR} (hx : workOk x = true) (hi : i < n)
 (hrec : ∀ rows left t,Plan n rows (L ++ [t]) → Post n (L ++ [t]) xs (rec rows left)) : ∀ (f : Nat) (d : Int) (rows : List (List Int)) (left : Int),Plan n rows L → wkF x ≤ d →
 (match dayL rec i (wkD x) (wkL x) (L.length : Int) f d rows left with
 | .inl r => Post n L (x :: xs) r ∧ (r.1 = true ∨ r.2.1 = false)
 | .inr p => Plan n p.1 L)
 | 0,d,rows,left,hp,hd => hp
 | f + 1,d,rows,left,hp,hd => by
   obtain ⟨_,h2,h3,h4,_⟩ := Zdy hx
   rw [dayL]
   by_cases c1 : d + wkD x - 1 ≤ wkL x
   ·rw [if_pos c1]
    by_cases c2 : freeB (rowAt rows i) d (wkD x) = true
    ·rw [if_pos c2]
     by_cases c3 : left = 0
     ·rw [if_pos c3]
      exact ⟨⟨fun h => (by cases h),fun _ h => (by cases h)⟩,.inr rfl⟩
     ·rw [if_neg c3]
      have c2' := of_decide_eq_true c2
      obtain ⟨dd,hdd⟩ : ∃ m : Nat,d = m := ⟨d.toNat,by omega⟩
      obtain ⟨mm,hmm⟩ : ∃ m : Nat,wkD x = m := ⟨(wkD x).toNat,by omega⟩
      have hP := hp.add (d := dd) (m := mm) hi (by omega) (by omega) (fun q hq => by
       have := c2'.2 q (by omega)
       rwa [hdd,Int.toNat_natCast] at this)
      have hR := hrec _ (left - 1) _ hP
      rw [hmm,hdd,Int.toNat_natCast,Int.toNat_natCast]
      generalize rec (rows.set i (fillN (rowAt rows i) dd mm ((L.length : Int) + 1))) (left - 1) = r at hR
      by_cases c4 : r.1 = true ∨ r.2.1 = false
      ·rw [if_pos c4]
       refine ⟨⟨fun h => ?_,fun h1 h2 => ?_⟩,c4⟩
       ·obtain ⟨L',a1,a2⟩ := hR.1 h
        exact ⟨(i,dd,mm) :: L',by rw [List.append_assoc] at a1; exact a1,⟨hmm.symm,by show wkF x ≤ (dd : Int); omega,by show (dd : Int) + wkD x - 1 ≤ _; omega⟩,a2⟩
       ·rw [h1,h2] at c4; simp at c4
      ·rw [if_neg c4]
       have hf : r.1 = false := by cases h : r.1 with | false => rfl | true => exact absurd (.inl h) c4
       have ho : r.2.1 = true := by cases h : r.2.1 with | true => rfl | false => exact absurd (.inr h) c4
       have := Zup hx hi hrec f (dd + 1) _ r.2.2.2 (hR.2 hf ho).drop (by omega)
       rw [hmm] at this
       exact this
    ·rw [if_neg c2]
     exact Zup hx hi hrec f (d + 1) rows left hp (by omega)
   ·rw [if_neg c1]
    exact hp
theorem Z1d {n : Nat} {L : List Pt} {x : T_Peg.ty} {xs : List T_Peg.ty} {rec : List (List Int) → Int → PwR} (hx : workOk x = true)
 (hrec : ∀ rows left t,Plan n rows (L ++ [t]) → Post n (L ++ [t]) xs (rec rows left)) : ∀ (m i : Nat) (rows : List (List Int)) (left : Int),i + m = n → Plan n rows L →
 (match rowL rec (wkF x) (wkD x) (wkL x) (L.length : Int) m i rows left with
 | .inl r => Post n L (x :: xs) r ∧ (r.1 = true ∨ r.2.1 = false)
 | .inr p => Plan n p.1 L)
 | 0,i,rows,left,hm,hp => hp
 | m + 1,i,rows,left,hm,hp => by
   have h := Zup hx (by omega) hrec (wkL x + 1 - wkF x).toNat (wkF x) rows left hp (Int.le_refl _) (i := i)
   rw [rowL]
   cases hd : dayL rec i (wkD x) (wkL x) (L.length : Int) (wkL x + 1 - wkF x).toNat (wkF x) rows left with
   | inl r => rw [hd] at h; exact h
   | inr p => rw [hd] at h; exact Z1d hx hrec m (i + 1) p.1 p.2 (by omega) h
theorem Z0y {n : Nat} : ∀ (xs : List T_Peg.ty),(∀ x,x ∈ xs → workOk x = true) → ∀ (k : Int) (rows : List (List Int)) (left : Int) (L : List Pt),k = L.length → Plan n rows L → Post n L xs (srch xs k rows left)
 | [],_,k,rows,left,L,hk,hp => ⟨fun _ => ⟨[],by rw [srch,List.append_nil]; exact hp,trivial⟩,fun h => by cases h⟩
 | x :: xs,hx,k,rows,left,L,hk,hp => by
   subst hk
   have hrec : ∀ rows left t,Plan n rows (L ++ [t]) → Post n (L ++ [t]) xs (srch xs ((L.length : Int) + 1) rows left) := fun rows left t h =>
    Z0y xs (fun y hy => hx y (List.mem_cons_of_mem _ hy)) _ rows left (L ++ [t]) (by simp) h
   have h := Z1d (hx x (List.mem_cons_self ..)) hrec n 0 rows left (by omega) hp
   have hu : srch (x :: xs) (L.length : Int) rows left = finR (rowL (srch xs ((L.length : Int) + 1)) (wkF x) (wkD x) (wkL x) (L.length : Int) rows.length 0 rows left) := Zwe x xs _ rows left
   rw [hu,hp.len]
   cases hd : rowL (srch xs ((L.length : Int) + 1)) (wkF x) (wkD x) (wkL x) (L.length : Int) n 0 rows left with
   | inl r => rw [hd] at h; exact h.1
   | inr p => rw [hd] at h; exact ⟨fun h => (by cases h),fun _ _ => h⟩
theorem Z3p (n : Nat) : Plan n (List.replicate n (List.replicate 40 0)) [] := by
 have e : ∀ b,b < n → rowAt (List.replicate n (List.replicate 40 (0 : Int))) b = List.replicate 40 0 := fun b hb => by simp [rowAt,hb]
 exact ⟨by simp,fun b hb => by rw [e b hb]; simp,fun t ht => (by cases ht),fun b d hb hd => .inl ⟨fun t ht => (by cases ht),by rw [e b hb,List.getElem?_replicate,if_pos hd]⟩⟩
/-! The parts of a work in a plan. -/
theorem Zoq (work b : Int) (row : List Int) (h : ∀ y,y ∈ row → y ≠ work) : ∀ d,runsR work b d none row = [] := by
 induction row with
 | nil => intro d; rfl
 | cons y r ih =>
   intro d
   rw [runsR,if_neg (h y (List.mem_cons_self ..))]
   exact ih (fun z hz => h z (List.mem_cons_of_mem _ hz)) _
theorem Z05 (work b a : Int) (post : List Int) (h : ∀ y,y ∈ post → y ≠ work) : ∀ (n : Nat) (d c : Int),runsR work b d (some (a,c)) (List.replicate n work ++ post) = [[b,a,c + n]]
 | 0,d,c => by
   cases post with
   | nil => simp [runsR,curR]
   | cons y r =>
     show runsR work b d (some (a,c)) (y :: r) = _
     rw [runsR,if_neg (h y (List.mem_cons_self ..)),Zoq work b r (fun z hz => h z (List.mem_cons_of_mem _ hz))]
     simp
 | n + 1,d,c => by
   rw [List.replicate_succ,List.cons_append,runsR,if_pos rfl,Z05 work b a post h n (d + 1) (c + 1)]
   have e : c + 1 + (n : Int) = c + ((n + 1 : Nat) : Int) := by omega
   rw [e]
theorem Z48 (work b : Int) (post : List Int) (n : Nat) (h2 : ∀ y,y ∈ post → y ≠ work) (pre : List Int) : (∀ y,y ∈ pre → y ≠ work) → ∀ d : Int,runsR work b d none (pre ++ (List.replicate (n + 1) work ++ post)) = [[b,d + pre.length,(n : Int) + 1]] := by
 induction pre with
 | nil =>
   intro h1 d
   rw [List.nil_append,List.replicate_succ,List.cons_append,runsR,if_pos rfl,Z05 work b d post h2 n (d + 1) 1,Int.add_comm 1 (n : Int)]
   simp
 | cons y r ih =>
   intro h1 d
   rw [List.cons_append,runsR,if_neg (h1 y (List.mem_cons_self ..)),ih (fun z hz => h1 z (List.mem_cons_of_mem _ hz)) (d + 1)]
   have e : d + 1 + (r.length : Int) = d + ((y :: r).length : Int) := by rw [List.length_cons]; omega
   rw [e]
theorem Z42 (work b : Int) (row : List Int) (a n : Nat) (hn : 1 ≤ n) (hl : a + n ≤ row.length) (h : ∀ (d : Nat) (y : Int),row[d]? = some y → (y = work ↔ a ≤ d ∧ d < a + n)) : runsR work b 0 none row = [[b,(a : Int),(n : Int)]] := by
 have e : row = row.take a ++ (List.replicate n work ++ row.drop (a + n)) := by
  apply List.ext_getElem?
  intro d
  rcases Nat.lt_or_ge d a with h1 | h1
  ·rw [List.getElem?_append_left (by simp; omega),List.getElem?_take,if_pos h1]
  ·rw [List.getElem?_append_right (by simp; omega),List.length_take,Nat.min_eq_left (by omega)]
   rcases Nat.lt_or_ge d (a + n) with h2 | h2
   ·rw [List.getElem?_append_left (by simp; omega),List.getElem?_replicate,if_pos (by omega),List.getElem?_eq_getElem (by omega)]
    congr 1
    exact (h d _ (List.getElem?_eq_getElem (by omega))).2 ⟨h1,h2⟩
   ·rw [List.getElem?_append_right (by simp; omega),List.getElem?_drop,List.length_replicate]
    congr 1
    omega
 obtain ⟨m,rfl⟩ : ∃ m,n = m + 1 := ⟨n - 1,by omega⟩
 have h1 : ∀ y,y ∈ row.take a → y ≠ work := fun y hy e => by
  obtain ⟨d,hd,hdy⟩ := List.getElem_of_mem hy
  have hd' : d < a := by rw [List.length_take] at hd; omega
  have : row[d]? = some y := by rw [List.getElem_take] at hdy; rw [List.getElem?_eq_getElem (by omega),hdy]
  have := (h d y this).1 e
  omega
 have h2 : ∀ y,y ∈ row.drop (a + (m + 1)) → y ≠ work := fun y hy e => by
  obtain ⟨d,hd,hdy⟩ := List.getElem_of_mem hy
  rw [List.length_drop] at hd
  have : row[a + (m + 1) + d]? = some y := by rw [List.getElem_drop] at hdy; rw [List.getElem?_eq_getElem (by omega),hdy]
  have := (h _ y this).1 e
  omega
 rw [e,Z48 work b _ m h2 _ h1 0]
 simp
 omega
theorem Zv8 (work : Int) (i : Nat) (p : List (List Int)) : ∀ (rs : List (List Int)) (o : Nat),(∀ (j : Nat) (row : List Int),rs[j]? = some row → runsR work ((o + j : Nat) : Int) 0 none row = if o + j = i then p else []) → partsL work (o : Int) rs = if o ≤ i ∧ i < o + rs.length then p else []
 | [],o,h => by rw [partsL,if_neg (by simp)]
 | r :: rs,o,h => by
   have h0 := h 0 r rfl
   have h1 := Zv8 work i p rs (o + 1) (fun j row hj => by
    have := h (j + 1) row (by simpa using hj)
    rwa [show o + (j + 1) = o + 1 + j from by omega] at this)
   rw [partsL]
   have e : ((o : Int) + 1) = ((o + 1 : Nat) : Int) := by omega
   rw [e,h1]
   rw [Nat.add_zero] at h0
   rw [h0,List.length_cons]
   by_cases c : o = i
   ·subst c
    rw [if_pos rfl,if_neg (by omega),if_pos (by omega),List.append_nil]
   ·rw [if_neg c,List.nil_append]
    by_cases c2 : o + 1 ≤ i ∧ i < o + 1 + rs.length
    ·rw [if_pos c2,if_pos (by omega)]
    ·rw [if_neg c2,if_neg (by omega)]
theorem Zz2 (work : Int) (rs : List (List Int)) (h : ∀ row,row ∈ rs → ∀ y,y ∈ row → y ≠ work) : ∀ o : Int,partsL work o rs = [] := by
 induction rs with
 | nil => intro o; rfl
 | cons r rs ih =>
   intro o
   rw [partsL,Zoq work o r (h r (List.mem_cons_self ..)),ih (fun row hr => h row (List.mem_cons_of_mem _ hr))]
   rfl
theorem Zjr {n : Nat} {rows : List (List Int)} {L : List Pt} (h : Plan n rows L) {row : List Int} {b : Nat} (hb : rows[b]? = some row) : b < n ∧ rowAt rows b = row ∧ row.length = 40 := by
 have hl : b < rows.length := by
  rcases Nat.lt_or_ge b rows.length with h | h
  ·exact h
  ·rw [List.getElem?_eq_none h] at hb; cases hb
 have e : rowAt rows b = row := by simp [rowAt,hb]
 have hn : b < n := by rw [← h.len]; exact hl
 exact ⟨hn,e,by rw [← e]; exact h.row b hn⟩
theorem Z2e {n : Nat} {rows : List (List Int)} {L : List Pt} (h : Plan n rows L) (hn : n ≤ 6) : (∀ (j : Nat) (t : Pt),L[j]? = some t → partsF rows ((j : Int) + 1) = some [[(t.1 : Int),(t.2.1 : Int),(t.2.2 : Int)]]) ∧ ∀ w : Int,(L.length : Int) < w → partsF rows w = some [] := by
 have hc : rows.length ≤ 1000 ∧ (rows.all fun r => decide (r.length = 40)) = true := ⟨by rw [h.len]; omega,List.all_eq_true.2 fun r hr => by
  obtain ⟨b,hb,e⟩ := List.getElem_of_mem hr
  exact decide_eq_true (Zjr h (by rw [List.getElem?_eq_getElem hb,e])).2.2⟩
 constructor
 ·intro j t hj
  obtain ⟨d1,d2,d3⟩ := h.dom t (List.mem_of_getElem? hj)
  unfold partsF
  rw [if_pos hc]
  have := Zv8 ((j : Int) + 1) t.1 [[(t.1 : Int),(t.2.1 : Int),(t.2.2 : Int)]] rows 0 (fun b row hb => by
   obtain ⟨q1,q2,q3⟩ := Zjr h hb
   rw [Nat.zero_add]
   by_cases c : b = t.1
   ·rw [if_pos c]
    subst c
    refine Z42 _ _ row t.2.1 t.2.2 d3 (by omega) fun d y hy => ?_
    have hd : d < 40 := by
     rcases Nat.lt_or_ge d 40 with h | h
     ·exact h
     ·rw [List.getElem?_eq_none (by omega)] at hy; cases hy
    rw [← q2] at hy
    rcases h.cell t.1 d q1 hd with ⟨c1,c2⟩ | ⟨j',t',c1,c2,c3,c4⟩
    ·rw [hy] at c2
     have := Option.some.inj c2
     refine ⟨fun e => by omega,fun e => absurd ⟨rfl,e.1,e.2⟩ (c1 t (List.mem_of_getElem? hj))⟩
    ·rw [hy] at c3
     have e9 := Option.some.inj c3
     refine ⟨fun e => ?_,fun e => ?_⟩
     ·obtain rfl : j = j' := by omega
      rw [hj] at c1
      cases c1
      exact c2.2
     ·have := c4 j t hj ⟨rfl,e.1,e.2⟩
      omega
   ·rw [if_neg c]
    refine Zoq _ _ row (fun y hy e => ?_) _
    obtain ⟨d,hd,hdy⟩ := List.getElem_of_mem hy
    have hy' : (rowAt rows b)[d]? = some y := by rw [q2,List.getElem?_eq_getElem hd,hdy]
    rcases h.cell b d q1 (by omega) with ⟨c1,c2⟩ | ⟨j',t',c1,c2,c3,c4⟩
    ·rw [hy'] at c2
     have := Option.some.inj c2
     omega
    ·rw [hy'] at c3
     have e9 := Option.some.inj c3
     obtain rfl : j = j' := by omega
     rw [hj] at c1
     cases c1
     exact c c2.1.symm)
  rw [show (((0 : Nat) : Int)) = 0 from rfl] at this
  rw [this,if_pos ⟨Nat.zero_le _,by rw [h.len]; omega⟩]
 ·intro w hw
  unfold partsF
  rw [if_pos hc,Zz2]
  intro row hr y hy e
  obtain ⟨b,hb,eb⟩ := List.getElem_of_mem hr
  obtain ⟨q1,q2,q3⟩ := Zjr h (show rows[b]? = some row by rw [List.getElem?_eq_getElem hb,eb])
  obtain ⟨d,hd,hdy⟩ := List.getElem_of_mem hy
  have hy' : (rowAt rows b)[d]? = some y := by rw [q2,List.getElem?_eq_getElem hd,hdy]
  rcases h.cell b d q1 (by omega) with ⟨c1,c2⟩ | ⟨j',t',c1,c2,c3,c4⟩
  ·rw [hy'] at c2
   have := Option.some.inj c2
   omega
  ·rw [hy'] at c3
   have e9 := Option.some.inj c3
   have : j' < L.length := by
    rcases Nat.lt_or_ge j' L.length with h | h
    ·exact h
    ·rw [List.getElem?_eq_none h] at c1; cases c1
   omega
theorem Zrg : ∀ {xs : List T_Peg.ty} {L : List Pt},Fits xs L → L.length = xs.length
 | [],[],_ => rfl
 | _ :: _,_ :: _,h => by simp [Zrg h.2]
 | [],_ :: _,h => h.elim
 | _ :: _,[],h => h.elim
theorem Z06 : ∀ {xs : List T_Peg.ty} {L : List Pt},Fits xs L → ∀ (j : Nat) (x : T_Peg.ty),xs[j]? = some x → ∃ t,L[j]? = some t ∧ (t.2.2 : Int) = wkD x ∧ wkF x ≤ t.2.1 ∧ (t.2.1 : Int) + wkD x - 1 ≤ wkL x
 | [],[],_,j,x,hj => by simp at hj
 | y :: ys,t :: ts,h,0,x,hj => by cases hj; exact ⟨t,rfl,h.1⟩
 | y :: ys,t :: ts,h,j + 1,x,hj => by
   obtain ⟨u,u1,u2⟩ := Z06 h.2 j x (by simpa using hj)
   exact ⟨u,by simpa using u1,u2⟩
 | [],_ :: _,h,_,_,_ => h.elim
 | _ :: _,[],h,_,_,_ => h.elim
/-! The checks of a plan. -/
theorem Z0z {n : Nat} {rows : List (List Int)} {L : List Pt} (h : Plan n rows L) (hL : L.length ≤ 8) {b d : Nat} {y : Int} {row : List Int} (hb : rows[b]? = some row) (hd : row[d]? = some y) : 0 ≤ y ∧ y ≤ 8 := by
 obtain ⟨q1,q2,q3⟩ := Zjr h hb
 have hd40 : d < 40 := by
  rcases Nat.lt_or_ge d 40 with h | h
  ·exact h
  ·rw [List.getElem?_eq_none (by omega)] at hd; cases hd
 rw [← q2] at hd
 rcases h.cell b d q1 hd40 with ⟨c1,c2⟩ | ⟨j',t',c1,c2,c3,c4⟩
 ·rw [hd] at c2; have := Option.some.inj c2; omega
 ·rw [hd] at c3
  have := Option.some.inj c3
  have : j' < L.length := by
   rcases Nat.lt_or_ge j' L.length with h | h
   ·exact h
   ·rw [List.getElem?_eq_none h] at c1; cases c1
  omega
theorem Zpd (v0 v7 : List (List Int)) (v8 v9 : Int) (row : List Int) (hl : row.length = 40) (hb : ∀ (d : Nat) (y : Int),row[d]? = some y → 0 ≤ y ∧ y ≤ 8) : ∀ (k i : Nat),i + k = 40 → Zb6 v0 v7 v8 v9 row (row.length : Int) i = Zbd v0 v7 v8 (IntKind.i64.wrap (v9 + 1))
 | 0,i,hk => by
   rw [Zfi]
   have : ¬ (i : Int) < (row.length : Int) := by omega
   simp only [this,decide_false,Bool.false_eq_true,if_false]
 | k + 1,i,hk => by
   have hi : i < row.length := by omega
   have hlt : (i : Int) < (row.length : Int) := by omega
   have hin : inR row[i] 0 8 = true := inR_iff'.2 (hb i _ (getElem?_lt hi))
   rw [Zfi]
   simp only [hlt,decide_true,if_true,Int.natCast_nonneg,Int.toNat_natCast,getElem?_lt hi,Option.bind_some,Zca,hin,Bool.not_true,Bool.false_eq_true,if_false,wsucc (i := i) (by omega)]
   exact Zpd v0 v7 v8 v9 row hl hb k (i + 1) (by omega)
theorem Zpw {n : Nat} {rows : List (List Int)} {L : List Pt} (h : Plan n rows L) (hL : L.length ≤ 8) (hn : 1 ≤ n ∧ n ≤ 6) : ∀ (k i : Nat),i + k = rows.length → Zbd rows rows (rows.length : Int) i = some true
 | 0,i,hk => by
   rw [Zfv]
   have : ¬ (i : Int) < (rows.length : Int) := by omega
   have hin : inR (rows.length : Int) 1 6 = true := inR_iff'.2 (by rw [h.len]; omega)
   simp only [this,decide_false,Bool.false_eq_true,if_false,Zca,hin,Option.bind_some]
 | k + 1,i,hk => by
   have hi : i < rows.length := by omega
   have hlt : (i : Int) < (rows.length : Int) := by omega
   have hn9 : rows.length ≤ 6 := by rw [h.len]; omega
   obtain ⟨q1,q2,q3⟩ := Zjr h (getElem?_lt hi)
   have h40 : (((rows[i]).length : Int) != 40) = false := by rw [q3]; rfl
   have hw := wsucc (i := i) (by omega)
   rw [Zfv]
   simp only [hlt,decide_true,if_true,Int.natCast_nonneg,Int.toNat_natCast,getElem?_lt hi,Option.bind_some,h40,Bool.false_eq_true,if_false]
   have e := Zpd rows rows (rows.length : Int) i rows[i] q3 (fun d y hd => Z0z h hL (getElem?_lt hi) hd) 40 0 (by omega)
   rw [hw] at e
   exact e.trans (Zpw h hL hn k (i + 1) (by omega))
theorem Ztj (rows : List (List Int)) (i : Nat) (hi : i < rows.length) (hl : (rows[i]).length = 40) (hb : ∀ (d : Nat) (y : Int),(rows[i])[d]? = some y → 0 ≤ y ∧ y ≤ 8) : ∀ (k d : Nat),d + k = 40 → Zc8 rows i d = Zbv rows (IntKind.i64.wrap ((i : Int) + 1))
 | 0,d,hk => by
   rw [Zh8]
   have : ¬ (d : Int) < ((rows[i]).length : Int) := by omega
   simp only [Int.natCast_nonneg,decide_true,if_true,Int.toNat_natCast,getElem?_lt hi,Option.bind_some,this,decide_false,Bool.false_eq_true,if_false]
 | k + 1,d,hk => by
   have hd : d < (rows[i]).length := by omega
   have hlt : (d : Int) < ((rows[i]).length : Int) := by omega
   have hin : inR (rows[i])[d] 0 8 = true := inR_iff'.2 (hb d _ (getElem?_lt hd))
   rw [Zh8]
   simp only [hlt,decide_true,if_true,Int.natCast_nonneg,Int.toNat_natCast,getElem?_lt hi,getElem?_lt hd,Option.bind_some,Zn8,hin,Bool.not_true,Bool.false_eq_true,if_false,wsucc (i := d) (by omega)]
   exact Ztj rows i hi hl hb k (d + 1) (by omega)
theorem Zst {n : Nat} {rows : List (List Int)} {L : List Pt} (h : Plan n rows L) (hL : L.length ≤ 8) (hn : 1 ≤ n ∧ n ≤ 6) : ∀ (k i : Nat),i + k = rows.length → Zbv rows i = some true
 | 0,i,hk => by
   rw [Zhu]
   have h1 : ¬ (i : Int) < (rows.length : Int) := by omega
   have h2 : (rows.length : Int) ≥ 1 := by rw [h.len]; omega
   have h3 : (rows.length : Int) ≤ 6 := by rw [h.len]; omega
   simp only [h1,decide_false,Bool.false_eq_true,if_false,h2,h3,decide_true,if_true]
 | k + 1,i,hk => by
   have hi : i < rows.length := by omega
   have hlt : (i : Int) < (rows.length : Int) := by omega
   have hn9 : rows.length ≤ 6 := by rw [h.len]; omega
   obtain ⟨q1,q2,q3⟩ := Zjr h (getElem?_lt hi)
   have h40 : (((rows[i]).length : Int) != 40) = false := by rw [q3]; rfl
   have hw := wsucc (i := i) (by omega)
   rw [Zhu]
   simp only [hlt,decide_true,if_true,Int.natCast_nonneg,Int.toNat_natCast,getElem?_lt hi,Option.bind_some,h40,Bool.false_eq_true,if_false]
   have e := Ztj rows i hi q3 (fun d y hd => Z0z h hL (getElem?_lt hi) hd) 40 0 (by omega)
   rw [hw] at e
   exact e.trans (Zst h hL hn k (i + 1) (by omega))
theorem at_okW (i n : Nat) : Zu8 (i : Int) (n : Int) = some (decide (i < n)) := by
 rw [Z16]
 have : (i : Int) ≥ 0 := by omega
 simp only [this,decide_true,if_true,Int.ofNat_lt]
theorem Zs3 {xs : List T_Peg.ty} {rows : List (List Int)} {L : List Pt} {n : Nat} (h : Plan n rows L) (hn : n ≤ 6) (hf : Fits xs L) (hx : ∀ x,x ∈ xs → workOk x = true) :
 ∀ (k i : Nat),i + k = 8 → Za3 rows xs ((i + 1 : Nat) : Int) = some true ∧ Za4 rows xs ((i + 1 : Nat) : Int) = some true
 | 0,i,hk => by
   have : ¬ ((i + 1 : Nat) : Int) ≤ 8 := by omega
   constructor
   ·rw [Zce]; simp only [this,decide_false,Bool.false_eq_true,if_false]
   ·rw [Zcf]; simp only [this,decide_false,Bool.false_eq_true,if_false]
 | k + 1,i,hk => by
   obtain ⟨p1,p2⟩ := Z2e h hn
   have hle : ((i + 1 : Nat) : Int) ≤ 8 := by omega
   have hw1 : IntKind.i64.wrap (((i + 1 : Nat) : Int) - 1) = (i : Int) := by rw [w64 (by omega) (by omega)]; omega
   have hw2 := wsucc (i := i + 1) (by omega)
   have ih := Zs3 h hn hf hx k (i + 1) (by omega)
   have hLx := Zrg hf
   rcases Nat.lt_or_ge i xs.length with hlt | hge
   ·obtain ⟨t,t1,t2,t3,t4⟩ := Z06 hf i xs[i] (getElem?_lt hlt)
    obtain ⟨_,w2,w3,w4,_⟩ := Zdy (hx _ (List.getElem_mem hlt))
    have hp := p1 i t t1
    rw [show ((i : Int) + 1) = ((i + 1 : Nat) : Int) from by omega] at hp
    have hgt : ¬ ((i + 1 : Nat) : Int) > (xs.length : Int) := by omega
    have c1 : ((t.2.2 : Int) != (xs[i]).2.1) = false := by rw [show (xs[i]).2.1 = wkD xs[i] from rfl,t2]; simp
    have c2 : ¬ ((t.2.1 : Int) < (xs[i]).2.2.1) := by show ¬ ((t.2.1 : Int) < wkF xs[i]); omega
    have c3 : IntKind.i64.wrap (IntKind.i64.wrap ((t.2.1 : Int) + (xs[i]).2.1) - 1) = (t.2.1 : Int) + wkD xs[i] - 1 := by
     show IntKind.i64.wrap (IntKind.i64.wrap ((t.2.1 : Int) + wkD xs[i]) - 1) = _
     rw [w64 (n := (t.2.1 : Int) + wkD xs[i]) (by omega) (by omega),w64 (by omega) (by omega)]
    have c4 : ¬ ((t.2.1 : Int) + wkD xs[i] - 1 > (xs[i]).2.2.2.1) := by show ¬ ((t.2.1 : Int) + wkD xs[i] - 1 > wkL xs[i]); omega
    have hlen1 : ((([[(t.1 : Int),(t.2.1 : Int),(t.2.2 : Int)]] : List (List Int)).length : Int) != 1) = false := rfl
    constructor
    ·rw [Zce,Zlt,hp,hw1,at_okW]
     simp only [hle,decide_true,if_true,Option.bind_some,hlt,Bool.not_true,Bool.false_eq_true,if_false,Int.natCast_nonneg,Int.toNat_natCast,getElem?_lt hlt,hlen1,List.getElem?_cons_zero,List.getElem?_cons_succ,c1,c2,c3,c4,decide_false,hw2]
     exact ih.1
    ·rw [Zcf,Zj9,hp,hw1]
     simp only [hle,decide_true,if_true,Option.bind_some,hgt,decide_false,Bool.false_eq_true,if_false,Int.natCast_nonneg,Int.toNat_natCast,getElem?_lt hlt,hlen1,List.getElem?_cons_zero,List.getElem?_cons_succ,c1,c2,c3,c4,hw2]
     exact ih.2
   ·have hp := p2 ((i + 1 : Nat) : Int) (by omega)
    have hnl : ¬ i < xs.length := by omega
    have hgt : ((i + 1 : Nat) : Int) > (xs.length : Int) := by omega
    have h0 : ¬ ((([] : List (List Int)).length : Int) > 0) := by simp
    constructor
    ·rw [Zce,Zlt,hp,hw1,at_okW]
     simp only [hle,decide_true,if_true,Option.bind_some,hnl,decide_false,Bool.not_false,h0,Bool.false_eq_true,if_false,hw2]
     exact ih.1
    ·rw [Zcf,Zj9,hp]
     simp only [hle,decide_true,if_true,Option.bind_some,hgt,h0,decide_false,Bool.false_eq_true,if_false,hw2]
     exact ih.2
theorem Z37 {xs : List T_Peg.ty} {rows : List (List Int)} {L : List Pt} {n : Nat} (h : Plan n rows L) (hn : 1 ≤ n ∧ n ≤ 6) (hf : Fits xs L) (hs : WksSm xs) (hv : worksOk xs = true) : Zf4 rows xs = some true ∧ Zf5 rows xs = some true := by
 have hx := Zeg hv
 have hL : L.length ≤ 8 := by rw [Zrg hf]; exact Zwz hv
 obtain ⟨k1,k2⟩ := Zs3 h hn.2 hf hx 8 0 (by omega)
 constructor
 ·rw [Zop,Zqq,show ((0 : Int)) = ((0 : Nat) : Int) from rfl,Zpw h hL hn rows.length 0 (by omega),Zno xs hs,hv]
  simp only [Option.bind_some,Bool.not_true,Bool.false_eq_true,if_false,Zm0]
  exact k1
 ·rw [Zpi,Zue,show ((0 : Int)) = ((0 : Nat) : Int) from rfl,Zst h hL hn rows.length 0 (by omega),Z5a xs hs,hv]
  simp only [Option.bind_some,Bool.not_true,Bool.false_eq_true,if_false,Zm5]
  exact k2
/-! Placing. -/
def srP (n : Int) (xs : List T_Peg.ty) (c : Int) : PwR := srch xs 0 (List.replicate n.toNat (List.replicate 40 0)) c
def placeP (n : Int) (xs : List T_Peg.ty) (c : Int) : List (List Int) × Int :=
 if worksOk xs = false then ([],1)
 else if ¬ (1 ≤ n ∧ n ≤ 6 ∧ 1 ≤ c ∧ c ≤ 20000) then ([],2)
 else if (srP n xs c).2.1 = false then ([],5)
 else if (srP n xs c).1 = false then ([],3)
 else ((srP n xs c).2.2.1,0)
theorem Zrr (n : Int) (xs : List T_Peg.ty) (c : Int) (h : WksSm xs) : Za6 n xs c = some (placeP n xs c) := by
 rw [Zos]
 unfold placeF placeP
 rw [Zno xs h,Option.bind_some]
 cases hv : worksOk xs with
 | false => rfl
 | true =>
   have ht : ¬ (true = false) := by decide
   rw [if_neg ht,if_neg ht]
   by_cases hc : ¬ (1 ≤ n ∧ n ≤ 6 ∧ 1 ≤ c ∧ c ≤ 20000)
   ·rw [if_pos hc,if_pos hc]
   ·rw [if_neg hc,if_neg hc]
    have hs : xs.length ≤ 1000 ∧ xs.all smallW = true := ⟨Nat.le_trans h.1 (by decide),List.all_eq_true.2 fun x hx => Z12 (Zeg hv x hx)⟩
    rw [if_pos hs]
    show (if (srP n xs c).2.1 = false then some ([],5) else if (srP n xs c).1 = false then some ([],3) else some ((srP n xs c).2.2.1,0)) = _
    split
    ·rfl
    ·split <;> rfl
theorem Zz8 {n : Int} {xs : List T_Peg.ty} {c : Int} (h : (placeP n xs c).2 = 0) : worksOk xs = true ∧ (1 ≤ n ∧ n ≤ 6) ∧ ∃ L,Plan n.toNat (placeP n xs c).1 L ∧ Fits xs L := by
 unfold placeP at h ⊢
 cases hv : worksOk xs with
 | false => rw [hv] at h; simp at h
 | true =>
   rw [hv,if_neg (by decide)] at h
   rw [if_neg (by decide)]
   by_cases hc : ¬ (1 ≤ n ∧ n ≤ 6 ∧ 1 ≤ c ∧ c ≤ 20000)
   ·rw [if_pos hc] at h; simp at h
   ·rw [if_neg hc] at h ⊢
    have hc : 1 ≤ n ∧ n ≤ 6 ∧ 1 ≤ c ∧ c ≤ 20000 := Decidable.not_not.1 hc
    have hp := (Z0y (n := n.toNat) xs (Zeg hv) 0 _ c [] rfl (Z3p n.toNat)).1
    have hp : (srP n xs c).1 = true → ∃ L',Plan n.toNat (srP n xs c).2.2.1 ([] ++ L') ∧ Fits xs L' := hp
    generalize srP n xs c = r at h hp ⊢
    by_cases c1 : r.2.1 = false
    ·rw [if_pos c1] at h; simp at h
    ·rw [if_neg c1] at h ⊢
     by_cases c2 : r.1 = false
     ·rw [if_pos c2] at h; simp at h
     ·rw [if_neg c2]
      obtain ⟨L,l1,l2⟩ := hp (by simpa using c2)
      exact ⟨rfl,⟨hc.1,hc.2.1⟩,L,l1,l2⟩
theorem Z2f {n : Int} {xs : List T_Peg.ty} {c : Int} (h : (placeP n xs c).2 ≠ 0) : (placeP n xs c).1 = [] := by
 unfold placeP at h ⊢
 split
 ·rfl
 ·rename_i h1
  rw [if_neg h1] at h
  split
  ·rfl
  ·rename_i h2
   rw [if_neg h2] at h
   split
   ·rfl
   ·rename_i h3
    rw [if_neg h3] at h
    split
    ·rfl
    ·rename_i h4
     rw [if_neg h4] at h
     exact absurd rfl h
theorem few_p0 (xs : List T_Peg.ty) (c : Int) (h : WksSm xs) : ∀ (k i : Nat),i + k = 6 → (i = 0 ∨ (placeP (i : Int) xs c).2 = 3) →
 ∃ f e,Zau xs c ((i + 1 : Nat) : Int) = some (f,e) ∧ (e = 0 → 1 ≤ f ∧ f ≤ 6 ∧ (placeP f xs c).2 = 0 ∧ (f > 1 → (placeP (f - 1) xs c).2 = 3)) ∧ (e ≠ 0 → f = 0)
 | 0,i,hk,hp => by
   have : ¬ ((i + 1 : Nat) : Int) ≤ 6 := by omega
   rw [Zde]
   simp only [this,decide_false,Bool.false_eq_true,if_false]
   exact ⟨0,3,rfl,fun h => by omega,fun _ => rfl⟩
 | k + 1,i,hk,hp => by
   have hle : ((i + 1 : Nat) : Int) ≤ 6 := by omega
   rw [Zde]
   simp only [hle,decide_true,if_true,Zrr _ xs c h,Option.bind_some]
   by_cases h0 : (placeP ((i + 1 : Nat) : Int) xs c).2 = 0
   ·have h0' : ((placeP ((i + 1 : Nat) : Int) xs c).2 == 0) = true := by simpa using h0
    rw [if_pos h0']
    refine ⟨_,_,rfl,fun _ => ⟨by omega,hle,h0,fun hf => ?_⟩,fun h => absurd rfl h⟩
    rcases hp with rfl | hp
    ·omega
    ·rw [show ((i + 1 : Nat) : Int) - 1 = (i : Int) from by omega]; exact hp
   ·have h0' : ((placeP ((i + 1 : Nat) : Int) xs c).2 == 0) = false := by simpa using h0
    rw [if_neg (by rw [h0']; decide)]
    by_cases h3 : (placeP ((i + 1 : Nat) : Int) xs c).2 = 3
    ·have h3' : ((placeP ((i + 1 : Nat) : Int) xs c).2 == 3) = true := by simpa using h3
     rw [if_pos h3',wsucc (i := i + 1) (by omega)]
     exact few_p0 xs c h k (i + 1) (by omega) (.inr h3)
    ·have h3' : ((placeP ((i + 1 : Nat) : Int) xs c).2 == 3) = false := by simpa using h3
     rw [if_neg (by rw [h3']; decide)]
     exact ⟨0,_,rfl,fun e => absurd e h0,fun _ => rfl⟩
/-! Loose days. -/
def looseX (x : T_Peg.ty) : Int := wkL x - wkF x + 1 - wkD x
theorem Zyy (xs : List T_Peg.ty) (hl : xs.length ≤ 8) (hx : ∀ x,x ∈ xs → workOk x = true) : ∀ (k i : Nat),i + k = xs.length → Zbc xs (xs.length : Int) i ((xs.take i).map looseX) = some (xs.map looseX,0)
 | 0,i,hk => by
   have : ¬ (i : Int) < (xs.length : Int) := by omega
   rw [Zf2]
   simp only [this,decide_false,Bool.false_eq_true,if_false,List.take_length]
   rw [List.take_of_length_le (by omega)]
 | k + 1,i,hk => by
   have hi : i < xs.length := by omega
   have hlt : (i : Int) < (xs.length : Int) := by omega
   have hlim : ((xs.take i).map looseX).length + 1 < lim := by rw [lim_eq,List.length_map,List.length_take]; omega
   obtain ⟨_,w2,w3,w4,w5⟩ := Zdy (hx _ (List.getElem_mem hi))
   have hw : IntKind.i64.wrap (IntKind.i64.wrap (IntKind.i64.wrap ((xs[i]).2.2.2.1 - (xs[i]).2.2.1) + 1) - (xs[i]).2.1) = looseX xs[i] := by
    show IntKind.i64.wrap (IntKind.i64.wrap (IntKind.i64.wrap (wkL xs[i] - wkF xs[i]) + 1) - wkD xs[i]) = _
    rw [w64 (n := wkL xs[i] - wkF xs[i]) (by omega) (by omega),w64 (n := wkL xs[i] - wkF xs[i] + 1) (by omega) (by omega),w64 (by omega) (by omega)]
    rfl
   rw [Zf2]
   simp only [hlt,decide_true,if_true,Int.natCast_nonneg,Int.toNat_natCast,getElem?_lt hi,Option.bind_some,hlim,List.take_length,hw,wsucc (i := i) (by omega)]
   have := Zyy xs hl hx k (i + 1) (by omega)
   rw [List.take_succ_eq_append_getElem hi,List.map_append] at this
   exact this
theorem law_p3 (xs : List T_Peg.ty) (hl : xs.length ≤ 8) (hx : ∀ x,x ∈ xs → workOk x = true) : ∀ (k i : Nat),i + k = xs.length → Zc5 xs i (xs.map looseX) = some true
 | 0,i,hk => by
   have : ¬ (i : Int) < (xs.length : Int) := by omega
   rw [Zib]
   simp only [this,decide_false,Bool.false_eq_true,if_false]
 | k + 1,i,hk => by
   have hi : i < xs.length := by omega
   have hlt : (i : Int) < (xs.length : Int) := by omega
   have hlm : (i : Int) < ((xs.map looseX).length : Int) := by rw [List.length_map]; exact hlt
   have hg : (xs.map looseX)[i]? = some (looseX xs[i]) := by rw [List.getElem?_map,getElem?_lt hi]; rfl
   have hv := hx _ (List.getElem_mem hi)
   obtain ⟨_,w2,w3,w4,w5⟩ := Zdy hv
   obtain ⟨t,t1,t2⟩ := Z39 _ hv
   have h0 : ¬ looseX xs[i] < 0 := by unfold looseX; omega
   have hw1 : IntKind.i64.wrap (IntKind.i64.wrap ((xs[i]).2.2.1 + (xs[i]).2.1) + looseX xs[i]) = wkL xs[i] + 1 := by
    show IntKind.i64.wrap (IntKind.i64.wrap (wkF xs[i] + wkD xs[i]) + (wkL xs[i] - wkF xs[i] + 1 - wkD xs[i])) = _
    rw [w64 (n := wkF xs[i] + wkD xs[i]) (by omega) (by omega),w64 (by omega) (by omega)]
    omega
   have hw2 : IntKind.i64.wrap ((xs[i]).2.2.2.1 + 1) = wkL xs[i] + 1 := w64 (n := wkL xs[i] + 1) (by omega) (by omega)
   have hne : (wkL xs[i] + 1 != wkL xs[i] + 1) = false := by simp
   have heq : (!(((xs[i]).1 == (xs[i]).1) && (((xs[i]).2.1 == (xs[i]).2.1) && (((xs[i]).2.2.1 == (xs[i]).2.2.1) && ((xs[i]).2.2.2.1 == (xs[i]).2.2.2.1))))) = false := by simp
   rw [Zib]
   simp only [hlt,hlm,decide_true,if_true,Bool.and_self,Int.natCast_nonneg,Int.toNat_natCast,getElem?_lt hi,hg,Option.bind_some,t1,t2,h0,decide_false,Bool.false_eq_true,if_false,hw1,hw2,hne,Bool.not_true,heq,wsucc (i := i) (by omega)]
   exact law_p3 xs hl hx k (i + 1) (by omega)
theorem law_p2 (xs : List T_Peg.ty) (h : WksSm xs) : Zbu xs = some true := by
 rw [Zp4,Zqx,Zno xs h]
 cases hv : worksOk xs with
 | false => rfl
 | true =>
   have hl := Zwz hv
   have e := Zyy xs hl (Zeg hv) xs.length 0 (by omega)
   have e : Zbc xs (xs.length : Int) 0 [] = some (xs.map looseX,0) := e
   have h0 : ((0 : Int) != 0) = false := rfl
   have h1 : (((xs.map looseX).length : Int) != (xs.length : Int)) = false := by rw [List.length_map]; simp
   simp only [Option.bind_some,Bool.not_true,Bool.false_eq_true,if_false,e,h0,h1]
   exact law_p3 xs hl (Zeg hv) xs.length 0 (by omega)
theorem Zq1 {s : Zaa.ty} {c : Int} (hs : SrcOk s c) (hc : c ≤ 1000000000) : ∃ (b : Int) (s' : Zaa.ty),Zbx s = some (b,s') := by
 obtain ⟨b,s',e,_,_⟩ := Zkn hs (by omega) [1,10,100,1000,20000,0,20001] (by decide) (by decide)
 rw [Zm1,e]
 exact ⟨_,_,rfl⟩
theorem Zzc (v : List Int) (h : ∀ x,x ∈ v → 0 ≤ x ∧ x ≤ 255) (hl : v.length ≤ 1048576) : SrcOk (v,0,0,()) 0 := ⟨h,hl,Int.le_refl _,Int.le_refl _⟩
theorem law_p1 (v : List Int) (h : ∀ x,x ∈ v → 0 ≤ x ∧ x ≤ 255) (hl : v.length ≤ 1048576) : Zc7 v = some true := by
 obtain ⟨xs,s1,e1,k1,m1⟩ := Zvv (Zzc v h hl) (by omega)
 obtain ⟨c,s2,e2⟩ := Zq1 k1 (by omega)
 obtain ⟨f,e,f1,f2,f3⟩ := few_p0 xs c m1 6 0 (by omega) (.inl rfl)
 have f1 : Zau xs c 1 = some (f,e) := f1
 have fin := law_p2 xs m1
 rw [Zov,Zjp,Zkv]
 simp only [Option.bind_some,e1,Za1,e2,List.take_length,Zmv,f1]
 by_cases h0 : e = 0
 ·subst h0
  obtain ⟨q1,q2,q3,q4⟩ := f2 rfl
  have hw : IntKind.i64.wrap (f - 1) = f - 1 := w64 (by omega) (by omega)
  have hlt : ¬ f < 1 := by omega
  have hne : ((placeP f xs c).2 != 0) = false := by rw [q3]; rfl
  simp only [beq_self_eq_true,if_true,Zrr _ xs c m1,Option.bind_some,hw,hlt,decide_false,Bool.false_eq_true,if_false,hne]
  by_cases hf : f > 1
  ·have h3 : ((placeP (f - 1) xs c).2 != 3) = false := by rw [q4 hf]; rfl
   simp only [hf,decide_true,if_true,h3,Bool.false_eq_true,if_false]
   exact fin
  ·simp only [hf,decide_false,Bool.false_eq_true,if_false]
   exact fin
 ·have h0' : (e == 0) = false := by simpa using h0
  have := f3 h0
  subst this
  simp only [h0',Bool.false_eq_true,if_false]
  exact fin
theorem Z4c (v0 v1 : List Int) (h0 : ∀ x,x ∈ v0 → 0 ≤ x ∧ x ≤ 255) (h1 : ∀ x,x ∈ v1 → 0 ≤ x ∧ x ≤ 255) : Zjt v0 v1 = some true := by
 rw [Zsj,Zle,Zle]
 simp only [Option.bind_some]
 by_cases l0 : (v0.length : Int) > 1048576
 ·simp only [l0,decide_true,if_true]
 ·by_cases l1 : (v1.length : Int) > 1048576
  ·simp only [l0,l1,decide_true,decide_false,Bool.false_eq_true,if_true,if_false]
  ·simp only [l0,l1,decide_false,Bool.false_eq_true,if_false]
   have fin := law_p1 v1 h1 (by omega)
   obtain ⟨n,s0,e0,k0,_⟩ := Zkn (Zzc v0 h0 (by omega)) (by omega) [1,1,2,3,6,7,0] (by decide) (by decide)
   obtain ⟨xs,s1,e1,k1,m1⟩ := Zvv k0 (by omega)
   obtain ⟨c,s2,e2⟩ := Zq1 k1 (by omega)
   rw [Zo1,Zl0,Zkv]
   simp only [Option.bind_some,e0,e1,Za1,e2,List.take_length,Zrr _ xs c m1]
   by_cases hp : (placeP n xs c).2 = 0
   ·obtain ⟨hv,hn,L,hP,hF⟩ := Zz8 hp
    obtain ⟨q1,q2⟩ := Z37 hP (by omega) hF m1 hv
    have hp' : ((placeP n xs c).2 == 0) = true := by simpa using hp
    have hlen : (((placeP n xs c).1.length : Int) != n) = false := by rw [hP.len,Int.toNat_of_nonneg (by omega)]; simp
    simp only [hp',if_true,hlen,Bool.false_eq_true,if_false,q1,q2,Option.bind_some,Bool.not_true]
    exact fin
   ·have hp' : ((placeP n xs c).2 == 0) = false := by simpa using hp
    have hnil := Z2f hp
    have hlen : (((placeP n xs c).1.length : Int) != 0) = false := by rw [hnil]; rfl
    simp only [hp',Bool.false_eq_true,if_false,hlen]
    exact fin
theorem laws_FnWorks_true (code more : List Int) (h : CT.wf (.sl (.one (.int .u8))) code) (h' : CT.wf (.sl (.one (.int .u8))) more) : Zjt code more = some true :=
 Z4c code more (Zy7 h) (Zy7 h')
end Go.Ab.P
