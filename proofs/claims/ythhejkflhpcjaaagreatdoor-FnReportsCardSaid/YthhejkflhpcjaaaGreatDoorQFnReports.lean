/- Reports, sorted lines and a report read back, over drawn pots, papers and lines: the law answers true. Conditions: the two inputs are bytes. -/
import Derived.Test.YthhejkflhpcjaaaGreatDoorBFnReports
set_option linter.unusedVariables false
set_option linter.unusedSimpArgs false
namespace Go.Ab.P
open Go.Ab
theorem keep_flat {T : List (List UInt8)} {a : List UInt8} : ∀ {E : List (List UInt8)},(∀ d,d ∈ E → d ≠ a) → (E.flatMap fun d => List.replicate ((T ++ [a]).count d) d) = E.flatMap fun d => List.replicate (T.count d) d
 | [],_ => rfl
 | d :: r,h => by
   have h0 : [a].count d = 0 := List.count_eq_zero.2 (by simpa using h d List.mem_cons_self)
   rw [List.flatMap_cons,List.flatMap_cons,keep_flat fun d hd => h d (List.mem_cons_of_mem _ hd),List.count_append,h0,Nat.add_zero]
theorem runs_new {T E : List (List UInt8)} {a : List UInt8} (h1 : T = E.flatMap fun d => List.replicate (T.count d) d) (h2 : E.Pairwise (· < ·)) (h3 : ∀ d,d ∈ E → d ∈ T) (hlt : ∀ d,d ∈ T → d < a) :
 (T ++ [a] = (E ++ [a]).flatMap fun d => List.replicate ((T ++ [a]).count d) d) ∧ (E ++ [a]).Pairwise (· < ·) ∧ ∀ d,d ∈ E ++ [a] → d ∈ T ++ [a] := by
 have ne : ∀ d,d ∈ T → d ≠ a := fun d hd e => List.lt_irrefl a (e ▸ hlt d hd)
 have hc : T.count a = 0 := List.count_eq_zero.2 fun h => ne a h rfl
 refine ⟨?_,?_,fun d hd => ?_⟩
 ·rw [List.flatMap_append,keep_flat fun d hd => ne d (h3 d hd),← h1]
  simp [List.count_append,hc]
 ·rw [List.pairwise_append]
  refine ⟨h2,List.pairwise_singleton _ _,fun x hx y hy => ?_⟩
  rw [List.mem_singleton] at hy
  subst hy
  exact hlt x (h3 x hx)
 ·rcases List.mem_append.1 hd with hd | hd
  ·exact List.mem_append.2 (.inl (h3 d hd))
  ·exact List.mem_append.2 (.inr hd)
theorem runs_same {T E : List (List UInt8)} {a : List UInt8} (h1 : T = (E ++ [a]).flatMap fun d => List.replicate (T.count d) d) (h2 : (E ++ [a]).Pairwise (· < ·)) :
 T ++ [a] = (E ++ [a]).flatMap fun d => List.replicate ((T ++ [a]).count d) d := by
 have ne : ∀ d,d ∈ E → d ≠ a := fun d hd e => by
  rw [List.pairwise_append] at h2
  exact List.lt_irrefl a (e ▸ h2.2.2 d hd a (by simp))
 rw [List.flatMap_append,keep_flat ne]
 have hc : (T ++ [a]).count a = T.count a + 1 := by simp [List.count_append]
 have e : ([a].flatMap fun d => List.replicate ((T ++ [a]).count d) d) = ([a].flatMap fun d => List.replicate (T.count d) d) ++ [a] := by
  simp only [List.flatMap_cons,List.flatMap_nil,List.append_nil,hc,List.replicate_succ']
 rw [e,← List.append_assoc,← List.flatMap_append,← h1]
structure RunsOf (S : List (List UInt8)) (m : Nat) (E : List (List UInt8)) : Prop where
 run : S.take m = E.flatMap fun d => List.replicate ((S.take m).count d) d
 up : E.Pairwise (· < ·)
 mem : ∀ d,d ∈ E → d ∈ S.take m
 last : ∀ a,0 < m → S[m - 1]? = some a → ∃ E',E = E' ++ [a]
theorem runs_ok (S : List (List UInt8)) (hs : S.Pairwise (· ≤ ·)) : ∀ m,m ≤ S.length → RunsOf S m (Lib.compactUpTo S.toArray m)
 | 0,_ => ⟨by simp [Lib.compactUpTo],by simp [Lib.compactUpTo],by simp [Lib.compactUpTo],fun a h => absurd h (by omega)⟩
 | m + 1,hm => by
   have ih := runs_ok S hs m (by omega)
   have hT : S.take (m + 1) = S.take m ++ [S[m]] := by rw [List.take_add_one,List.getElem?_eq_getElem (by omega)]; rfl
   have e1 : S.toArray[m]! = S[m] := by simp [getElem!_pos,show m < S.length by omega]
   have le : ∀ (j : Nat) (hj : j < S.length),j < m → S[j] ≤ S[m] := fun j hj h => List.pairwise_iff_getElem.1 hs j m hj (by omega) h
   rw [Lib.compactUpTo_succ,e1]
   generalize hE : Lib.compactUpTo S.toArray m = E at ih
   by_cases hk : Lib.keeps S.toArray m = true
   ·rw [if_pos hk]
    have hlt : ∀ d,d ∈ S.take m → d < S[m] := fun d hd => by
     obtain ⟨j,hj,rfl⟩ := List.mem_iff_getElem.1 hd
     rw [List.length_take] at hj
     rw [List.getElem_take]
     have l1 := le j (by omega) (by omega)
     have e2 : S.toArray[m - 1]! = S[m - 1] := by simp [getElem!_pos,show m - 1 < S.length by omega]
     have hne : S[m] ≠ S[m - 1] := by
      simp only [Lib.keeps,decide_eq_true_eq,e1,e2] at hk
      exact hk.resolve_left (by omega)
     have l2 := le (m - 1) (by omega) (by omega)
     have l3 : S[j] ≤ S[m - 1] := by
      by_cases h : j = m - 1
      ·subst h; exact List.le_refl _
      ·exact List.pairwise_iff_getElem.1 hs j (m - 1) (by omega) (by omega) (by omega)
     rcases Classical.em (S[j] < S[m]) with h | h
     ·exact h
     ·exact absurd (List.le_antisymm (List.le_trans (show S[m] ≤ S[j] from h) l3) l2) hne
    obtain ⟨h1,h2,h3⟩ := runs_new ih.run ih.up ih.mem hlt
    refine ⟨?_,h2,?_,fun a _ ha => ?_⟩
    ·rw [hT]; exact h1
    ·rw [hT]; exact h3
    ·rw [Nat.add_sub_cancel,List.getElem?_eq_getElem (by omega)] at ha
     exact ⟨E,by rw [Option.some.inj ha]⟩
   ·rw [if_neg hk,List.append_nil]
    simp only [Lib.keeps,decide_eq_true_eq,not_or,Classical.not_not] at hk
    have hm0 : 0 < m := by omega
    have e2 : S.toArray[m - 1]! = S[m - 1] := by simp [getElem!_pos,show m - 1 < S.length by omega]
    have he : S[m] = S[m - 1] := by rw [← e1,← e2]; exact hk.2
    obtain ⟨E',rfl⟩ := ih.last S[m] hm0 (by rw [he,List.getElem?_eq_getElem])
    refine ⟨?_,ih.up,fun d hd => ?_,fun a _ ha => ?_⟩
    ·rw [hT]; exact runs_same ih.run ih.up
    ·rw [hT]; exact List.mem_append.2 (.inl (ih.mem d hd))
    ·rw [Nat.add_sub_cancel,List.getElem?_eq_getElem (by omega)] at ha
     exact ⟨E',by rw [Option.some.inj ha]⟩
def sortP (rows : List (List UInt8)) : List (List UInt8) := rows.mergeSort fun a b => decide (a ≤ b)
def lessP (rows : List (List UInt8)) : List (List UInt8) := Lib.compact (sortP rows)
theorem sortP_perm (rows : List (List UInt8)) : (sortP rows).Perm rows := List.mergeSort_perm _ _
theorem sortP_up (rows : List (List UInt8)) : (sortP rows).Pairwise (· ≤ ·) := by
 have := List.pairwise_mergeSort (le := fun a b : List UInt8 => decide (a ≤ b)) (fun a b c h h' => by
  simp only [decide_eq_true_eq] at h h' ⊢; exact List.le_trans h h') (fun a b => by
  simp only [Bool.or_eq_true,decide_eq_true_eq]; exact List.le_total a b) rows
 exact this.imp fun h => by simpa using h
theorem less_runs (rows : List (List UInt8)) : (sortP rows = (lessP rows).flatMap fun d => List.replicate (rows.count d) d) ∧ (lessP rows).Pairwise (· < ·) ∧ ∀ d,d ∈ lessP rows ↔ d ∈ rows := by
 have h := runs_ok (sortP rows) (sortP_up rows) _ (Nat.le_refl _)
 have h1 := h.run
 have h3 := h.mem
 rw [List.take_length] at h1 h3
 have hc : ∀ d,(sortP rows).count d = rows.count d := fun d => (sortP_perm rows).count_eq d
 simp only [hc] at h1
 refine ⟨h1,h.up,fun d => ⟨fun hd => (sortP_perm rows).mem_iff.1 (h3 d hd),fun hd => ?_⟩⟩
 have := (sortP_perm rows).mem_iff.2 hd
 rw [h1,List.mem_flatMap] at this
 obtain ⟨e,he,hm⟩ := this
 rw [List.eq_of_mem_replicate hm]; exact he
theorem text_ok {s : T_l00Src.ty} {c : Int} (hs : SrcOk s c) (hc : c ≤ 1000000000000000000) (l : List (List UInt8)) (h0 : 0 < l.length) (hn : l.length ≤ 65536) :
 ∃ (u : List UInt8) (s' : T_l00Src.ty),spec_l00Src_text s l = some (u,s') ∧ SrcOk s' (c + 2) ∧ u ∈ l := by
 obtain ⟨u,s1,e1,k1,b1,b2⟩ := pick_ok hs hc (l.length : Int) (by omega)
 have hi : u.toNat < l.length := by omega
 rw [spec_l00Src_text_eq]
 simp only [e1,Option.bind_some,src_eta,b1,decide_true,if_true,List.getElem?_eq_getElem hi]
 exact ⟨_,s1,rfl,k1,List.getElem_mem hi⟩
theorem paper_eta (x : T_Paper.ty) : (x.1,x.2.1,x.2.2.1,x.2.2.2.1,x.2.2.2.2.1,()) = x := rfl
def PotSm (x : T_Pot.ty) : Prop := x.1.length ≤ 100
def PaperSm (x : T_Paper.ty) : Prop := x.1.length ≤ 100 ∧ x.2.1.length ≤ 100
theorem potOne {s : T_l00Src.ty} {c : Int} (hs : SrcOk s c) (hc : c ≤ 100000000000000000) (id : List UInt8) (hid : id.length ≤ 100) : ∃ (x : T_Pot.ty) (s' : T_l00Src.ty),spec_l14DrawOne s id = some (x,s') ∧ SrcOk s' (c + 10) ∧ PotSm x := by
 obtain ⟨x,s',e,k,h⟩ := spec_l14DrawOne_ok hs hc id
 exact ⟨x,s',e,k,by rw [PotSm,h]; exact hid⟩
theorem potBent {s : T_l00Src.ty} {c : Int} (hs : SrcOk s c) (hc : c ≤ 10000000000000000) (p : T_Pot.ty) (hp : PotSm p) : ∃ (x : T_Pot.ty) (s' : T_l00Src.ty),spec_l14Bent s p = some (x,s') ∧ SrcOk s' (c + 4) ∧ PotSm x := by
 obtain ⟨x,s',e,k,h⟩ := spec_l14Bent_ok hs hc p
 exact ⟨x,s',e,k,by rw [PotSm,h]; exact hp⟩
theorem paperOne {s : T_l00Src.ty} {c : Int} (hs : SrcOk s c) (hc : c ≤ 100000000000000000) (id : List UInt8) (hid : id.length ≤ 100) : ∃ (x : T_Paper.ty) (s' : T_l00Src.ty),spec_l20DrawOne s id = some (x,s') ∧ SrcOk s' (c + 10) ∧ PaperSm x := by
 obtain ⟨v1,s1,e1,k1,m1⟩ := text_ok hs (by omega) [[97,109,97,116,105],[103,117,97,100,97,103,110,105,110,105],[114,111,99,99,97],[97,109,97,116,105]] (by decide) (by decide)
 obtain ⟨v2,s2,e2,k2,_⟩ := pick_ok k1 (by omega) 60 (by omega)
 obtain ⟨v3,s3,e3,k3,_⟩ := pick_ok k2 (by omega) 30 (by omega)
 obtain ⟨v4,s4,e4,k4,_⟩ := pick_ok k3 (by omega) 20 (by omega)
 have hv : v1.length ≤ 100 := by
  simp only [List.mem_cons,List.not_mem_nil,or_false] at m1
  rcases m1 with rfl | rfl | rfl | rfl <;> decide
 rw [spec_l20DrawOne_eq]
 simp only [e1,e2,e3,e4,Option.bind_some,src_eta]
 exact ⟨_,s4,rfl,k4.up (by omega),hid,hv⟩
theorem paperBent {s : T_l00Src.ty} {c : Int} (hs : SrcOk s c) (hc : c ≤ 10000000000000000) (p : T_Paper.ty) (hp : PaperSm p) : ∃ (x : T_Paper.ty) (s' : T_l00Src.ty),spec_l20Bent s p = some (x,s') ∧ SrcOk s' (c + 4) ∧ PaperSm x := by
 obtain ⟨v,s1,e1,k1,_⟩ := pick_ok hs (by omega) 18 (by omega)
 obtain ⟨a1,t1,f1,g1,_⟩ := among_ok k1 (by omega) [1499,1500,p.2.2.2.1,IntKind.i64.wrap (p.2.2.2.1 + 1)] (by simp) (by simp)
 obtain ⟨a2,t2,f2,g2,_⟩ := among_ok k1 (by omega) [2100,2101] (by decide) (by decide)
 obtain ⟨a3,t3,f3,g3,_⟩ := among_ok k1 (by omega) [0,1,1000,1001] (by decide) (by decide)
 rw [spec_l20Bent_eq]
 simp only [e1,f1,f2,f3,Option.bind_some,src_eta]
 repeat' split
 all_goals exact ⟨_,_,rfl,SrcOk.up (by first | exact g1 | exact g2 | exact g3 | exact k1) (by omega),hp⟩
theorem pot_draw1 (v6 : Int) (h6 : v6 ≤ 20) : ∀ (k : Nat) (v7 : Int) (s : T_l00Src.ty) (c : Int) (r : List T_Pot.ty),SrcOk s c → c + 20 * k ≤ 1000000 → 0 ≤ v7 → v7 ≤ 20 → (v6 - v7).toNat ≤ k → (r.length : Int) ≤ v7 → (∀ x,x ∈ r → PotSm x) →
 ∃ (xs : List T_Pot.ty) (s' : T_l00Src.ty),spec_l14Draw_p1 v6 v7 s.1 s.2.1 s.2.2.1 r = some (xs,s') ∧ xs.length ≤ 100 ∧ ∀ x,x ∈ xs → PotSm x
 | 0,v7,s,c,r,hs,hc,h0,h7,hk,hr,hx => by
   have : ¬ v7 < v6 := by omega
   rw [spec_l14Draw_p1_eq]
   simp only [this,decide_false,Bool.false_eq_true,if_false,List.take_length]
   exact ⟨_,_,rfl,by omega,hx⟩
 | k + 1,v7,s,c,r,hs,hc,h0,h7,hk,hr,hx => by
   rw [spec_l14Draw_p1_eq]
   by_cases hlt : v7 < v6
   ·have hd := itoa_len v7 (by omega)
    have hst : [(110 : UInt8)].length + (Lib.itoa v7).length ≤ strMax := by rw [strMax_eq]; simp only [List.length_cons,List.length_nil]; omega
    have hw : IntKind.i64.wrap (v7 + 1) = v7 + 1 := w64 (by omega) (by omega)
    obtain ⟨x,s1,e1,k1,m1⟩ := potOne hs (by omega) ([110] ++ Lib.itoa v7) (by simp only [List.length_append,List.length_cons,List.length_nil]; omega)
    have hlim : r.length + 1 < lim := by rw [lim_eq]; omega
    simp only [hlt,decide_true,if_true,spec_l01Dec_itoa v7 ⟨by omega,by omega⟩,Option.bind_some,src_eta]
    refine Exists.imp (fun _ => Exists.imp fun _ h => And.imp (fun h => (if_pos (decide_eq_true hst)).trans h) id h) ?_
    simp only [e1,Option.bind_some,src_eta,pot_eta,hlim,decide_true,if_true,List.take_length,hw]
    refine pot_draw1 v6 h6 k (v7 + 1) s1 (c + 10) (r ++ [x]) k1 (by omega) (by omega) (by omega) (by omega) (by simp only [List.length_append,List.length_cons,List.length_nil]; omega) fun y hy => ?_
    rcases List.mem_append.1 hy with hy | hy
    ·exact hx y hy
    ·rw [List.mem_singleton] at hy; subst hy; exact m1
   ·simp only [hlt,decide_false,Bool.false_eq_true,if_false,List.take_length]
    exact ⟨_,_,rfl,by omega,hx⟩
theorem pot_draw0 (r3 : List (List UInt8)) (h3 : r3.length ≤ 10) (hm : ∀ t,t ∈ r3 → t.length ≤ 100) : ∀ (k i : Nat) (s : T_l00Src.ty) (c : Int) (r : List T_Pot.ty),SrcOk s c → c + 20 * k ≤ 1000 → i + k = r3.length → r.length ≤ i → (∀ x,x ∈ r → PotSm x) →
 ∃ (xs : List T_Pot.ty) (s' : T_l00Src.ty),spec_l14Draw_p0 i s.1 s.2.1 s.2.2.1 r3 r = some (xs,s') ∧ xs.length ≤ 100 ∧ ∀ x,x ∈ xs → PotSm x
 | 0,i,s,c,r,hs,hc,hk,hr,hx => by
   have : ¬ (i : Int) < (r3.length : Int) := by omega
   rw [spec_l14Draw_p0_eq]
   obtain ⟨v,s1,e1,k1,_⟩ := pick_ok hs (by omega) 20 (by omega)
   simp only [this,decide_false,Bool.false_eq_true,if_false,src_eta,e1,Option.bind_some,List.take_length]
   by_cases h0 : (v == 0) = true
   ·obtain ⟨x,s2,e2,k2,m2⟩ := potOne k1 (by omega) [122,122] (by decide)
    obtain ⟨y,s3,e3,k3,m3⟩ := potBent k2 (by omega) x m2
    have hlim : r.length + 1 < lim := by rw [lim_eq]; omega
    simp only [h0,if_true,e2,Option.bind_some,src_eta,pot_eta,e3,hlim,decide_true]
    refine ⟨_,_,rfl,by simp only [List.length_append,List.length_cons,List.length_nil]; omega,fun z hz => ?_⟩
    rcases List.mem_append.1 hz with hz | hz
    ·exact hx z hz
    ·rw [List.mem_singleton] at hz; subst hz; exact m3
   ·by_cases h1 : (v == 1) = true
    ·obtain ⟨a,t1,f1,g1,ma⟩ := among_ok k1 (by omega) [8,9] (by decide) (by decide)
     have ha : a ≤ 20 := by simp at ma; omega
     simp only [h0,h1,if_true,f1,Option.bind_some,Bool.false_eq_true,if_false,src_eta]
     exact pot_draw1 a ha 20 0 t1 (c + 2 + 2) [] g1 (by omega) (by omega) (by omega) (by omega) (by simp) (fun x hx => by cases hx)
    ·simp only [h0,h1,Bool.false_eq_true,if_false]
     exact ⟨_,_,rfl,by omega,hx⟩
 | k + 1,i,s,c,r,hs,hc,hk,hr,hx => by
   have hi : i < r3.length := by omega
   have hlt : (i : Int) < (r3.length : Int) := by omega
   have hw : IntKind.i64.wrap ((i : Int) + 1) = ((i + 1 : Nat) : Int) := by rw [w64 (by omega) (by omega)]; omega
   rw [spec_l14Draw_p0_eq]
   obtain ⟨v,s1,e1,k1⟩ := one_ok hs (by omega) 3 (by omega)
   simp only [hlt,decide_true,if_true,src_eta,e1,Option.bind_some,Int.natCast_nonneg,Bool.and_self,Int.toNat_natCast,List.getElem?_eq_getElem hi,hw,List.take_length]
   cases v
   ·obtain ⟨x,s2,e2,k2,m2⟩ := potOne k1 (by omega) r3[i] (hm _ (List.getElem_mem hi))
    have hlim : r.length + 1 < lim := by rw [lim_eq]; omega
    simp only [Bool.not_false,if_true,e2,Option.bind_some,src_eta,pot_eta,hlim,decide_true]
    refine pot_draw0 r3 h3 hm k (i + 1) s2 _ (r ++ [x]) k2 (by omega) (by omega) (by simp only [List.length_append,List.length_cons,List.length_nil]; omega) fun y hy => ?_
    rcases List.mem_append.1 hy with hy | hy
    ·exact hx y hy
    ·rw [List.mem_singleton] at hy; subst hy; exact m2
   ·simp only [Bool.not_true,Bool.false_eq_true,if_false]
    exact pot_draw0 r3 h3 hm k (i + 1) s1 _ r k1 (by omega) (by omega) (by omega) hx
theorem pot_draw (v : List Int) (h1 : ∀ x,x ∈ v → 0 ≤ x ∧ x ≤ 255) (h2 : v.length ≤ 1048576) : ∃ xs : List T_Pot.ty,spec_DrawPotReport v = some xs ∧ xs.length ≤ 100 ∧ ∀ x,x ∈ xs → PotSm x := by
 obtain ⟨s,e,k⟩ := from_ok v h1 h2
 obtain ⟨xs,s',e2,l,m⟩ := pot_draw0 [[98,111,110,101],[102,105,115,104],[104,105,100,101],[114,97,98,98,105,116]] (by decide) (by decide) 4 0 s 0 [] k (by omega) rfl (by simp) (fun x hx => by cases hx)
 have e2 : spec_l14Draw_p0 0 s.1 s.2.1 s.2.2.1 [[98,111,110,101],[102,105,115,104],[104,105,100,101],[114,97,98,98,105,116]] [] = _ := e2
 rw [spec_DrawPotReport_eq,e,Option.bind_some,spec_l14Draw_eq,e2,Option.bind_some,List.take_length]
 exact ⟨xs,rfl,l,m⟩
theorem paper_draw1 (v6 : Int) (h6 : v6 ≤ 20) : ∀ (k : Nat) (v7 : Int) (s : T_l00Src.ty) (c : Int) (r : List T_Paper.ty),SrcOk s c → c + 20 * k ≤ 1000000 → 0 ≤ v7 → v7 ≤ 20 → (v6 - v7).toNat ≤ k → (r.length : Int) ≤ v7 → (∀ x,x ∈ r → PaperSm x) →
 ∃ (xs : List T_Paper.ty) (s' : T_l00Src.ty),spec_l20Draw_p1 v6 v7 s.1 s.2.1 s.2.2.1 r = some (xs,s') ∧ xs.length ≤ 100 ∧ ∀ x,x ∈ xs → PaperSm x
 | 0,v7,s,c,r,hs,hc,h0,h7,hk,hr,hx => by
   have : ¬ v7 < v6 := by omega
   rw [spec_l20Draw_p1_eq]
   simp only [this,decide_false,Bool.false_eq_true,if_false,List.take_length]
   exact ⟨_,_,rfl,by omega,hx⟩
 | k + 1,v7,s,c,r,hs,hc,h0,h7,hk,hr,hx => by
   rw [spec_l20Draw_p1_eq]
   by_cases hlt : v7 < v6
   ·have hst : [(110 : UInt8)].length + ([IntKind.u8.wrap (IntKind.i64.wrap (97 + v7))].map vu8).length ≤ strMax := by rw [strMax_eq]; simp only [List.length_cons,List.length_nil,List.length_map]; omega
    have hw : IntKind.i64.wrap (v7 + 1) = v7 + 1 := w64 (by omega) (by omega)
    obtain ⟨x,s1,e1,k1,m1⟩ := paperOne hs (by omega) ([110] ++ ([IntKind.u8.wrap (IntKind.i64.wrap (97 + v7))].map vu8)) (by simp only [List.length_append,List.length_cons,List.length_nil,List.length_map]; omega)
    have hlim : r.length + 1 < lim := by rw [lim_eq]; omega
    simp only [hlt,decide_true,if_true,Option.bind_some,src_eta]
    refine Exists.imp (fun _ => Exists.imp fun _ h => And.imp (fun h => (if_pos (decide_eq_true hst)).trans h) id h) ?_
    simp only [e1,Option.bind_some,src_eta,paper_eta,hlim,decide_true,if_true,List.take_length,hw]
    refine paper_draw1 v6 h6 k (v7 + 1) s1 (c + 10) (r ++ [x]) k1 (by omega) (by omega) (by omega) (by omega) (by simp only [List.length_append,List.length_cons,List.length_nil]; omega) fun y hy => ?_
    rcases List.mem_append.1 hy with hy | hy
    ·exact hx y hy
    ·rw [List.mem_singleton] at hy; subst hy; exact m1
   ·simp only [hlt,decide_false,Bool.false_eq_true,if_false,List.take_length]
    exact ⟨_,_,rfl,by omega,hx⟩
theorem paper_draw0 (r3 : List (List UInt8)) (h3 : r3.length ≤ 10) (hm : ∀ t,t ∈ r3 → t.length ≤ 100) : ∀ (k i : Nat) (s : T_l00Src.ty) (c : Int) (r : List T_Paper.ty),SrcOk s c → c + 20 * k ≤ 1000 → i + k = r3.length → r.length ≤ i → (∀ x,x ∈ r → PaperSm x) →
 ∃ (xs : List T_Paper.ty) (s' : T_l00Src.ty),spec_l20Draw_p0 i s.1 s.2.1 s.2.2.1 r3 r = some (xs,s') ∧ xs.length ≤ 100 ∧ ∀ x,x ∈ xs → PaperSm x
 | 0,i,s,c,r,hs,hc,hk,hr,hx => by
   have : ¬ (i : Int) < (r3.length : Int) := by omega
   rw [spec_l20Draw_p0_eq]
   obtain ⟨v,s1,e1,k1,_⟩ := pick_ok hs (by omega) 20 (by omega)
   simp only [this,decide_false,Bool.false_eq_true,if_false,src_eta,e1,Option.bind_some,List.take_length]
   by_cases h0 : (v == 0) = true
   ·obtain ⟨x,s2,e2,k2,m2⟩ := paperOne k1 (by omega) [122,122] (by decide)
    obtain ⟨y,s3,e3,k3,m3⟩ := paperBent k2 (by omega) x m2
    have hlim : r.length + 1 < lim := by rw [lim_eq]; omega
    simp only [h0,if_true,e2,Option.bind_some,src_eta,paper_eta,e3,hlim,decide_true]
    refine ⟨_,_,rfl,by simp only [List.length_append,List.length_cons,List.length_nil]; omega,fun z hz => ?_⟩
    rcases List.mem_append.1 hz with hz | hz
    ·exact hx z hz
    ·rw [List.mem_singleton] at hz; subst hz; exact m3
   ·by_cases h1 : (v == 1) = true
    ·obtain ⟨a,t1,f1,g1,ma⟩ := among_ok k1 (by omega) [12,13] (by decide) (by decide)
     have ha : a ≤ 20 := by simp at ma; omega
     simp only [h0,h1,if_true,f1,Option.bind_some,Bool.false_eq_true,if_false,src_eta]
     exact paper_draw1 a ha 20 0 t1 (c + 2 + 2) [] g1 (by omega) (by omega) (by omega) (by omega) (by simp) (fun x hx => by cases hx)
    ·simp only [h0,h1,Bool.false_eq_true,if_false]
     exact ⟨_,_,rfl,by omega,hx⟩
 | k + 1,i,s,c,r,hs,hc,hk,hr,hx => by
   have hi : i < r3.length := by omega
   have hlt : (i : Int) < (r3.length : Int) := by omega
   have hw : IntKind.i64.wrap ((i : Int) + 1) = ((i + 1 : Nat) : Int) := by rw [w64 (by omega) (by omega)]; omega
   rw [spec_l20Draw_p0_eq]
   obtain ⟨v,s1,e1,k1⟩ := one_ok hs (by omega) 3 (by omega)
   simp only [hlt,decide_true,if_true,src_eta,e1,Option.bind_some,Int.natCast_nonneg,Bool.and_self,Int.toNat_natCast,List.getElem?_eq_getElem hi,hw,List.take_length]
   cases v
   ·obtain ⟨x,s2,e2,k2,m2⟩ := paperOne k1 (by omega) r3[i] (hm _ (List.getElem_mem hi))
    have hlim : r.length + 1 < lim := by rw [lim_eq]; omega
    simp only [Bool.not_false,if_true,e2,Option.bind_some,src_eta,paper_eta,hlim,decide_true]
    refine paper_draw0 r3 h3 hm k (i + 1) s2 _ (r ++ [x]) k2 (by omega) (by omega) (by simp only [List.length_append,List.length_cons,List.length_nil]; omega) fun y hy => ?_
    rcases List.mem_append.1 hy with hy | hy
    ·exact hx y hy
    ·rw [List.mem_singleton] at hy; subst hy; exact m2
   ·simp only [Bool.not_true,Bool.false_eq_true,if_false]
    exact paper_draw0 r3 h3 hm k (i + 1) s1 _ r k1 (by omega) (by omega) (by omega) hx
theorem paper_draw (v : List Int) (h1 : ∀ x,x ∈ v → 0 ≤ x ∧ x ≤ 255) (h2 : v.length ≤ 1048576) : ∃ xs : List T_Paper.ty,spec_DrawPaperReport v = some xs ∧ xs.length ≤ 100 ∧ ∀ x,x ∈ xs → PaperSm x := by
 obtain ⟨s,e,k⟩ := from_ok v h1 h2
 obtain ⟨xs,s',e2,l,m⟩ := paper_draw0 [[112,97],[112,98],[112,99],[112,100],[112,101],[112,102]] (by decide) (by decide) 6 0 s 0 [] k (by omega) rfl (by simp) (fun x hx => by cases hx)
 have e2 : spec_l20Draw_p0 0 s.1 s.2.1 s.2.2.1 [[112,97],[112,98],[112,99],[112,100],[112,101],[112,102]] [] = _ := e2
 rw [spec_DrawPaperReport_eq,e,Option.bind_some,spec_l20Draw_eq,e2,Option.bind_some,List.take_length]
 exact ⟨xs,rfl,l,m⟩
theorem name_cell {s : List UInt8} (h : isName s = true) : (s.all fun ch => inR (ch.toNat : Int) 33 126) = true ∧ s.length ≤ 10 := by
 cases s with
 | nil => cases h
 | cons c r =>
   simp only [isName,Bool.and_eq_true,decide_eq_true_eq] at h
   refine ⟨?_,h.2⟩
   rw [List.all_cons,Bool.and_eq_true]
   have one : ∀ x : UInt8,(small x || digit x) = true → inR (x.toNat : Int) 33 126 = true := fun x hx => by
    rw [inR_iff']
    simp only [small,digit,Bool.or_eq_true,Bool.and_eq_true,decide_eq_true_eq] at hx
    omega
   refine ⟨one c (by rw [h.1.1]; rfl),List.all_eq_true.2 fun x hx => one x (List.all_eq_true.1 h.1.2 x hx)⟩
theorem itoa_cell (n : Int) : ((Lib.itoa n).all fun ch => inR (ch.toNat : Int) 33 126) = true := by
 refine List.all_eq_true.2 fun x hx => ?_
 rw [inR_iff']
 rcases itoa_mem n x hx with rfl | h
 ·decide
 ·omega
theorem fix1 (u : Nat) : fixP (u : Int) 1 = Lib.decDigits (u / 10) ++ 46 :: [UInt8.ofNat (48 + u % 10)] := by
 have hn : ¬ (u : Int) < 0 := by omega
 unfold fixP
 simp only [Int.natAbs_natCast,hn,if_false]
 unfold padP
 rw [itoa_pos]
 by_cases h : u < 10
 ·rw [decDigits_one h,show u / 10 = 0 by omega,show u % 10 = u by omega,decDigits_one (show 0 < 10 by omega)]; rfl
 ·have hne := dec_ne (u / 10)
  rw [decDigits_more h]
  generalize Lib.decDigits (u / 10) = d at hne
  have h0 : 1 + 1 - (d ++ [UInt8.ofNat (48 + u % 10)]).length = 0 := by
   cases d with
   | nil => exact absurd rfl hne
   | cons a r => simp only [List.length_append,List.length_cons,List.length_nil]; omega
  rw [h0]
  have hr : (Lib.repeatL [48] 0 : List UInt8) = [] := rfl
  rw [hr,List.nil_append,List.length_append,List.length_singleton,Nat.add_sub_cancel,List.take_left,List.drop_left]
def rowP (x : T_Pot.ty) : List (List UInt8) := [x.1,Lib.itoa x.2.1,Lib.itoa x.2.2.1,fixP (potStrong x.2.1 x.2.2.1 x.2.2.2.1 x.2.2.2.2.1) 1]
def headP : List (List UInt8) := [[112,111,116],[100,114,121],[119,97,116,101,114],[115,116,114,101,110,103,116,104]]
theorem rowP_core (nm : List UInt8) (a b : Int) (u : Nat) (h1 : isName nm = true) (h3 : 1 ≤ a ∧ a ≤ 10000) (h4 : 1 ≤ b ∧ b ≤ 10000) (hu : u ≤ 10000001) :
 (([nm,Lib.itoa a,Lib.itoa b,fixP (u : Int) 1] : List (List UInt8)).length ≤ 12 ∧ ∀ c,c ∈ ([nm,Lib.itoa a,Lib.itoa b,fixP (u : Int) 1] : List (List UInt8)) → c.length ≤ 1000) ∧ cellsOk [nm,Lib.itoa a,Lib.itoa b,fixP (u : Int) 1] = true := by
 have n1 := name_cell h1
 have l3 := itoa_len a (by omega)
 have l4 := itoa_len b (by omega)
 have l5 := itoa_len ((u / 10 : Nat) : Int) (by omega)
 have ef : fixP (u : Int) 1 = Lib.itoa ((u / 10 : Nat) : Int) ++ [46,UInt8.ofNat (48 + u % 10)] := by rw [fix1,itoa_pos]
 rw [ef]
 refine ⟨⟨by simp,fun c hc => ?_⟩,?_⟩
 ·simp only [List.mem_cons,List.not_mem_nil,or_false] at hc
  rcases hc with rfl | rfl | rfl | rfl
  ·omega
  ·omega
  ·omega
  ·simp only [List.length_append,List.length_cons,List.length_nil]; omega
 ·have hd : inR ((46 : UInt8).toNat : Int) 33 126 = true := rfl
  have hd2 : inR ((UInt8.ofNat (48 + u % 10)).toNat : Int) 33 126 = true := by
   rw [dig48 (by omega),inR_iff']; omega
  simp only [cellsOk,List.all_cons,List.all_nil,List.all_append,n1.1,itoa_cell,Bool.and_self,hd,hd2]
  rfl
theorem pot_iff {x : T_Pot.ty} (h : potOkT x = true) : isName x.1 = true ∧ (1 ≤ x.2.1 ∧ x.2.1 ≤ 10000) ∧ (1 ≤ x.2.2.1 ∧ x.2.2.1 ≤ 10000) ∧ (20 ≤ x.2.2.2.1 ∧ x.2.2.2.1 ≤ 95) ∧ 0 ≤ x.2.2.2.2.1 ∧ x.2.2.2.2.1 ≤ 1000 := potOk_iff.1 h
theorem strong_nat {dry water heat hours : Int} (h1 : 1 ≤ dry ∧ dry ≤ 10000) (h2 : 1 ≤ water ∧ water ≤ 10000) (h3 : 20 ≤ heat ∧ heat ≤ 95) (h4 : 0 ≤ hours ∧ hours ≤ 1000) : ∃ u : Nat,potStrong dry water heat hours = (u : Int) ∧ u ≤ 10000001 := by
 have := strong_bounds h1 (show 1 ≤ water ∧ water ≤ 100000 by omega) h3 (show 0 ≤ hours ∧ hours ≤ 100000 by omega)
 exact ⟨(potStrong dry water heat hours).toNat,by omega,by omega⟩
theorem rowP_ok {x : T_Pot.ty} (h : potOkT x = true) : ((rowP x).length ≤ 12 ∧ ∀ c,c ∈ rowP x → c.length ≤ 1000) ∧ cellsOk (rowP x) = true := by
 obtain ⟨h1,h2,h3,h4,h5⟩ := pot_iff h
 obtain ⟨u,e,hu⟩ := strong_nat h2 h3 h4 h5
 rw [rowP,e]
 exact rowP_core _ _ _ u h1 h2 h3 hu
theorem headP_ok : (headP.length ≤ 12 ∧ ∀ c,c ∈ headP → c.length ≤ 1000) ∧ cellsOk headP = true := by
 refine ⟨⟨by decide,fun c hc => ?_⟩,by decide⟩
 simp only [headP,List.mem_cons,List.not_mem_nil,or_false] at hc
 rcases hc with rfl | rfl | rfl | rfl <;> decide
theorem pot_steps (id : List UInt8) (dry water heat hours : Int) (h1 : 1 ≤ dry ∧ dry ≤ 10000) (h2 : 1 ≤ water ∧ water ≤ 10000) (h3 : 20 ≤ heat ∧ heat ≤ 95) (h4 : 0 ≤ hours ∧ hours ≤ 1000) :
 impl_Decimal dry = some (Lib.itoa dry) ∧ impl_Decimal water = some (Lib.itoa water) ∧ impl_Pot_strength (id,dry,water,heat,hours,()) = some (potStrong dry water heat hours) ∧ impl_FixedText (potStrong dry water heat hours) 1 = some (fixP (potStrong dry water heat hours) 1) := by
 have a2 := impl_Pot_strength_ok id dry water heat hours h1 (by omega) h3 (by omega)
 obtain ⟨u,e,hu⟩ := strong_nat h1 h2 h3 h4
 rw [a2,e]
 exact ⟨impl_Decimal_ok dry (by omega),impl_Decimal_ok water (by omega),rfl,impl_FixedText_ok (u : Int) 1 (by omega) (by omega)⟩
theorem pot_rows (xs : List T_Pot.ty) (hs : xs.length ≤ 1048576) (hx : ∀ x,x ∈ xs → potOkT x = true) : ∀ (k i : Nat) (r : List (List (List UInt8))),i + k = xs.length → r.length = i + 1 →
 impl_PotReport_p0 xs xs.length i r = ((impl_TableLines (r ++ (xs.drop i).map rowP)).bind fun x5 => some ((x5.1.take x5.1.length),x5.2))
 | 0,i,r,hk,hr => by
   have : ¬ (i : Int) < (xs.length : Int) := by omega
   rw [impl_PotReport_p0_eq,List.drop_eq_nil_of_le (by omega)]
   simp only [this,decide_false,Bool.false_eq_true,if_false,List.map_nil,List.append_nil,List.take_length]
 | k + 1,i,r,hk,hr => by
   have hi : i < xs.length := by omega
   have hlt : (i : Int) < (xs.length : Int) := by omega
   have hw : IntKind.i64.wrap ((i : Int) + 1) = ((i + 1 : Nat) : Int) := by rw [w64 (by omega) (by omega)]; omega
   have hp := pot_iff (hx xs[i] (List.getElem_mem hi))
   have ih := pot_rows xs hs hx k (i + 1) (r ++ [rowP xs[i]]) (by omega) (by simp [hr])
   have hlim : r.length + 1 < lim := by rw [lim_eq]; omega
   obtain ⟨k5,k6,k7,k8⟩ := pot_steps xs[i].1 _ _ _ _ hp.2.1 hp.2.2.1 hp.2.2.2.1 hp.2.2.2.2
   have k7 : impl_Pot_strength xs[i] = _ := k7
   rw [impl_PotReport_p0_eq,List.drop_eq_getElem_cons hi,List.map_cons]
   simp only [hlt,decide_true,if_true,Int.natCast_nonneg,Int.toNat_natCast,List.getElem?_eq_getElem hi,Option.bind_some,hw]
   rw [k5,Option.bind_some,k6,Option.bind_some,k7,Option.bind_some,k8,Option.bind_some,if_pos (decide_eq_true hlim),List.take_length]
   rw [List.append_assoc] at ih
   exact ih
def rowQ (x : T_Paper.ty) : List (List UInt8) := [x.1,x.2.1,(Lib.itoa x.2.2.1 ++ [45]) ++ Lib.itoa x.2.2.2.1,Lib.itoa x.2.2.2.2.1]
def headQ : List (List UInt8) := [[112,97,112,101,114],[109,97,107,101,114],[121,101,97,114,115],[116,114,117,115,116]]
theorem paper_iff {x : T_Paper.ty} (h : paperOk x = true) : isName x.1 = true ∧ isName x.2.1 = true ∧ (1500 ≤ x.2.2.1 ∧ x.2.2.1 ≤ 2100) ∧ (1500 ≤ x.2.2.2.1 ∧ x.2.2.2.1 ≤ 2100) ∧ (1 ≤ x.2.2.2.2.1 ∧ x.2.2.2.2.1 ≤ 1000) := by
 simp only [paperOk,Bool.and_eq_true,decide_eq_true_eq,inR_iff'] at h
 obtain ⟨h1,h2,h3,h4,h5,h6⟩ := h
 exact ⟨h1,h2,⟨h3,Int.le_trans h4 h5⟩,⟨Int.le_trans h3 h4,h5⟩,h6⟩
theorem rowQ_core (nm mk : List UInt8) (a b t : Int) (h1 : isName nm = true) (h2 : isName mk = true) (h3 : 1500 ≤ a ∧ a ≤ 2100) (h4 : 1500 ≤ b ∧ b ≤ 2100) (h5 : 1 ≤ t ∧ t ≤ 1000) :
 (([nm,mk,(Lib.itoa a ++ [45]) ++ Lib.itoa b,Lib.itoa t] : List (List UInt8)).length ≤ 12 ∧ ∀ c,c ∈ ([nm,mk,(Lib.itoa a ++ [45]) ++ Lib.itoa b,Lib.itoa t] : List (List UInt8)) → c.length ≤ 1000) ∧ cellsOk [nm,mk,(Lib.itoa a ++ [45]) ++ Lib.itoa b,Lib.itoa t] = true := by
 have n1 := name_cell h1
 have n2 := name_cell h2
 have l3 := itoa_len a (by omega)
 have l4 := itoa_len b (by omega)
 have l5 := itoa_len t (by omega)
 refine ⟨⟨by simp,fun c hc => ?_⟩,?_⟩
 ·simp only [List.mem_cons,List.not_mem_nil,or_false] at hc
  rcases hc with rfl | rfl | rfl | rfl
  ·omega
  ·omega
  ·simp only [List.length_append,List.length_cons,List.length_nil]; omega
  ·omega
 ·have hd : inR ((45 : UInt8).toNat : Int) 33 126 = true := rfl
  simp only [cellsOk,List.all_cons,List.all_nil,List.all_append,n1.1,n2.1,itoa_cell,Bool.and_self,hd]
  rfl
theorem rowQ_ok {x : T_Paper.ty} (h : paperOk x = true) : ((rowQ x).length ≤ 12 ∧ ∀ c,c ∈ rowQ x → c.length ≤ 1000) ∧ cellsOk (rowQ x) = true := by
 obtain ⟨h1,h2,h3,h4,h5⟩ := paper_iff h
 exact rowQ_core _ _ _ _ _ h1 h2 h3 h4 h5
theorem headQ_ok : (headQ.length ≤ 12 ∧ ∀ c,c ∈ headQ → c.length ≤ 1000) ∧ cellsOk headQ = true := by
 refine ⟨⟨by decide,fun c hc => ?_⟩,by decide⟩
 simp only [headQ,List.mem_cons,List.not_mem_nil,or_false] at hc
 rcases hc with rfl | rfl | rfl | rfl <;> decide
theorem paper_rows (xs : List T_Paper.ty) (hs : xs.length ≤ 1048576) (hx : ∀ x,x ∈ xs → paperOk x = true) : ∀ (k i : Nat) (r : List (List (List UInt8))),i + k = xs.length → r.length = i + 1 →
 impl_PaperReport_p0 xs xs.length i r = ((impl_TableLines (r ++ (xs.drop i).map rowQ)).bind fun x5 => some ((x5.1.take x5.1.length),x5.2))
 | 0,i,r,hk,hr => by
   have : ¬ (i : Int) < (xs.length : Int) := by omega
   rw [impl_PaperReport_p0_eq,List.drop_eq_nil_of_le (by omega)]
   simp only [this,decide_false,Bool.false_eq_true,if_false,List.map_nil,List.append_nil,List.take_length]
 | k + 1,i,r,hk,hr => by
   have hi : i < xs.length := by omega
   have hlt : (i : Int) < (xs.length : Int) := by omega
   have hw : IntKind.i64.wrap ((i : Int) + 1) = ((i + 1 : Nat) : Int) := by rw [w64 (by omega) (by omega)]; omega
   have hp := paper_iff (hx xs[i] (List.getElem_mem hi))
   have ih := paper_rows xs hs hx k (i + 1) (r ++ [rowQ xs[i]]) (by omega) (by simp [hr])
   have hlim : r.length + 1 < lim := by rw [lim_eq]; omega
   rw [impl_PaperReport_p0_eq,List.drop_eq_getElem_cons hi,List.map_cons]
   simp only [hlt,decide_true,if_true,Int.natCast_nonneg,Int.toNat_natCast,List.getElem?_eq_getElem hi,Option.bind_some,hw]
   have key : ∀ a b t : Int,1500 ≤ a ∧ a ≤ 2100 → 1500 ≤ b ∧ b ≤ 2100 → 1 ≤ t ∧ t ≤ 1000 → (impl_Decimal a = some (Lib.itoa a) ∧ impl_Decimal b = some (Lib.itoa b) ∧ impl_Decimal t = some (Lib.itoa t)) ∧ (Lib.itoa a).length + [45].length ≤ strMax ∧ ((Lib.itoa a) ++ [(45 : UInt8)]).length + (Lib.itoa b).length ≤ strMax := fun a b t ha hb ht => by
    have l1 := itoa_len a (by omega)
    have l2 := itoa_len b (by omega)
    refine ⟨⟨impl_Decimal_ok a (by omega),impl_Decimal_ok b (by omega),impl_Decimal_ok t (by omega)⟩,?_,?_⟩
    ·rw [strMax_eq]; simp only [List.length_cons,List.length_nil]; omega
    ·rw [strMax_eq]; simp only [List.length_append,List.length_cons,List.length_nil]; omega
   obtain ⟨⟨k4,k5,k6⟩,k7,k8⟩ := key _ _ _ hp.2.2.1 hp.2.2.2.1 hp.2.2.2.2
   rw [k4,Option.bind_some,if_pos (decide_eq_true k7),k5,Option.bind_some,if_pos (decide_eq_true k8),k6,Option.bind_some,if_pos (decide_eq_true hlim),List.take_length]
   rw [List.append_assoc] at ih
   exact ih
theorem pot_report (xs : List T_Pot.ty) (hs : xs.length ≤ 1048576) (hx : ∀ x,x ∈ xs → x.1.length ≤ 1048576) : ∃ (r : List (List UInt8)) (c : Int),impl_PotReport xs = some (r,c) ∧ (c = 0 → reportOk r = true ∧ (∀ x,x ∈ xs → potOkT x = true) ∧ ∃ W,r = (headP :: xs.map rowP).map (lineP W)) := by
 rw [impl_PotReport_eq,impl_ValidPots_ok xs hs hx,Option.bind_some]
 cases h : potsOk xs
 ·exact ⟨[],1,by simp,fun h => by cases h⟩
 have hall := fun x hx => potsOk_all h x hx
 have s2 := pot_rows xs hs hall xs.length 0 [headP] (by omega) rfl
 have s2 : impl_PotReport_p0 xs xs.length 0 [headP] = _ := s2
 rw [List.drop_zero] at s2
 have h12 : (xs.length : Int) ≤ 8 := by simp only [potsOk,Bool.and_eq_true,decide_eq_true_eq] at h; exact h.2
 have hm : ∀ row,row ∈ [headP] ++ xs.map rowP → (row.length ≤ 12 ∧ ∀ c,c ∈ row → c.length ≤ 1000) ∧ cellsOk row = true := fun row hm => by
  rcases List.mem_append.1 hm with hm | hm
  ·rw [List.mem_singleton] at hm; subst hm; exact headP_ok
  ·obtain ⟨x,h1,rfl⟩ := List.mem_map.1 hm; exact rowP_ok (hall x h1)
 have hlen : ([headP] ++ xs.map rowP).length ≤ 1048576 := by simp only [List.length_append,List.length_map,List.length_cons,List.length_nil]; omega
 have hT : TabOk ([headP] ++ xs.map rowP) := fun row h => (hm row h).1
 rw [impl_TableLines_ok _ hlen hT (fun row h => (hm row h).2),Option.bind_some] at s2
 show ∃ (r : List (List UInt8)) (c : Int),impl_PotReport_p0 xs xs.length 0 [headP] = some (r,c) ∧ _
 rw [s2]
 generalize hls : ([headP] ++ xs.map rowP).map (lineP (tabW ([headP] ++ xs.map rowP))) = ls
 cases hr : reportOk ls
 ·exact ⟨[],5,rfl,fun h => by cases h⟩
 ·refine ⟨ls,0,?_,fun _ => ⟨hr,hall,tabW ([headP] ++ xs.map rowP),hls.symm⟩⟩
  simp only [if_true,List.take_length]
theorem paper_report (xs : List T_Paper.ty) (hs : xs.length ≤ 1048576) (hx : ∀ x,x ∈ xs → x.1.length ≤ 1048576 ∧ x.2.1.length ≤ 1048576) : ∃ (r : List (List UInt8)) (c : Int),impl_PaperReport xs = some (r,c) ∧ (c = 0 → reportOk r = true ∧ (∀ x,x ∈ xs → paperOk x = true) ∧ ∃ W,r = (headQ :: xs.map rowQ).map (lineP W)) := by
 rw [impl_PaperReport_eq,impl_ValidPapers_ok xs hs hx,Option.bind_some]
 cases h : papersOk xs
 ·exact ⟨[],1,by simp,fun h => by cases h⟩
 have hall := fun x hx => papersOk_all h x hx
 have s2 := paper_rows xs hs hall xs.length 0 [headQ] (by omega) rfl
 have s2 : impl_PaperReport_p0 xs xs.length 0 [headQ] = _ := s2
 rw [List.drop_zero] at s2
 have h12 : (xs.length : Int) ≤ 12 := by simp only [papersOk,Bool.and_eq_true,decide_eq_true_eq] at h; exact h.2
 have hm : ∀ row,row ∈ [headQ] ++ xs.map rowQ → (row.length ≤ 12 ∧ ∀ c,c ∈ row → c.length ≤ 1000) ∧ cellsOk row = true := fun row hm => by
  rcases List.mem_append.1 hm with hm | hm
  ·rw [List.mem_singleton] at hm; subst hm; exact headQ_ok
  ·obtain ⟨x,h1,rfl⟩ := List.mem_map.1 hm; exact rowQ_ok (hall x h1)
 have hlen : ([headQ] ++ xs.map rowQ).length ≤ 1048576 := by simp only [List.length_append,List.length_map,List.length_cons,List.length_nil]; omega
 have hT : TabOk ([headQ] ++ xs.map rowQ) := fun row h => (hm row h).1
 rw [impl_TableLines_ok _ hlen hT (fun row h => (hm row h).2),Option.bind_some] at s2
 show ∃ (r : List (List UInt8)) (c : Int),impl_PaperReport_p0 xs xs.length 0 [headQ] = some (r,c) ∧ _
 rw [s2]
 generalize hls : ([headQ] ++ xs.map rowQ).map (lineP (tabW ([headQ] ++ xs.map rowQ))) = ls
 cases hr : reportOk ls
 ·exact ⟨[],5,rfl,fun h => by cases h⟩
 ·refine ⟨ls,0,?_,fun _ => ⟨hr,hall,tabW ([headQ] ++ xs.map rowQ),hls.symm⟩⟩
  simp only [if_true,List.take_length]
theorem drop_past {ch : UInt8} {b : List UInt8} (hc : (ch == 32) = false) : ∀ w : List UInt8,∃ w',(w ++ ch :: b).dropWhile (fun c => c == 32) = w' ++ ch :: b
 | [] => ⟨[],by simp [List.dropWhile_cons,hc]⟩
 | x :: w => by
   rw [List.cons_append,List.dropWhile_cons]
   split
   ·exact drop_past hc w
   ·exact ⟨x :: w,rfl⟩
theorem trimP_past {ch : UInt8} (hc : (ch == 32) = false) (a v : List UInt8) : ∃ v',trimP (a ++ ch :: v) = a ++ ch :: v' := by
 obtain ⟨w',e⟩ := drop_past (b := a.reverse) hc v.reverse
 refine ⟨w'.reverse,?_⟩
 rw [trimP,List.reverse_append,List.reverse_cons,List.append_assoc,List.singleton_append,e]
 simp
theorem line_id (W : List Int) (id : List UInt8) (c : UInt8) (v : List UInt8) (r : List (List UInt8)) (hc : (c == 32) = false) : ∃ t,lineP W (id :: (c :: v) :: r) = id ++ t ∧ t ≠ [] := by
 obtain ⟨v',e⟩ := trimP_past hc (id ++ (List.replicate (wd W 0 - (id.length : Int)).toNat 32 ++ [32,32])) (v ++ (List.replicate (wd W 1 - ((c :: v).length : Int)).toNat 32 ++ Lib.joinTail [32,32] (cellsP W 2 r)))
 refine ⟨(List.replicate (wd W 0 - (id.length : Int)).toNat 32 ++ [32,32]) ++ c :: v',?_,by simp⟩
 rw [List.append_assoc,← List.append_assoc] at e
 rw [← List.append_assoc,← e,lineP,cellsP,cellsP,Lib.join_cons]
 simp [padC,Lib.joinTail]
theorem itoa_first (n : Int) (h : 1 ≤ n ∧ n ≤ 100000) : ∃ c v,Lib.itoa n = c :: v ∧ (c == 32) = false := by
 have h1 := (itoa_len n (by omega)).1
 cases e : Lib.itoa n with
 | nil => rw [e] at h1; simp at h1
 | cons c v =>
   refine ⟨c,v,rfl,?_⟩
   have := itoa_mem n c (by rw [e]; exact List.mem_cons_self)
   rw [beq_eq_false_iff_ne]
   rintro rfl
   rcases this with h | h
   ·cases h
   ·simp at h
theorem index_ok (E : List (List UInt8)) (x : List UInt8) (hE : E.length ≤ 1048576) : ∀ (k i : Nat),i + k = E.length → x ∈ E.drop i → ∃ (j : Nat) (h : j < E.length),slices_Index___string_string__p0 E x E.length i = some (j : Int) ∧ E[j] = x
 | 0,i,hk,hm => by rw [List.drop_eq_nil_of_le (by omega)] at hm; cases hm
 | k + 1,i,hk,hm => by
   have hi : i < E.length := by omega
   have hlt : (i : Int) < (E.length : Int) := by omega
   have hw : IntKind.i64.wrap ((i : Int) + 1) = ((i + 1 : Nat) : Int) := by rw [w64 (by omega) (by omega)]; omega
   rw [slices_Index___string_string__p0_eq]
   simp only [hlt,decide_true,if_true,Int.natCast_nonneg,Int.toNat_natCast,List.getElem?_eq_getElem hi,Option.bind_some,hw]
   by_cases he : x = E[i]
   ·rw [if_pos (by simpa using he)]
    exact ⟨i,hi,rfl,he.symm⟩
   ·rw [if_neg (by simpa using he)]
    rw [List.drop_eq_getElem_cons hi] at hm
    exact index_ok E x hE k (i + 1) (by omega) ((List.mem_cons.1 hm).resolve_left he)
def countsP (E rows : List (List UInt8)) : List Int := E.map fun d => ((rows.count d : Nat) : Int)
theorem countsP_get {E : List (List UInt8)} (rows : List (List UInt8)) {j : Nat} (h : j < E.length) : (countsP E rows)[j]? = some ((rows.count E[j] : Nat) : Int) := by
 simp [countsP,List.getElem?_eq_getElem h]
theorem count_loop (E rows : List (List UInt8)) (hE : E.length ≤ 1048576) (hr : rows.length ≤ 1048576) (hN : E.Pairwise (· < ·)) (hm : ∀ x,x ∈ rows → x ∈ E) : ∀ (k i : Nat),i + k = rows.length →
 impl_CountLines_p0 E E.length rows rows.length i (countsP E (rows.take i)) = some (E,countsP E rows,0)
 | 0,i,hk => by
   rw [impl_CountLines_p0_eq]
   have : ¬ (i : Int) < (rows.length : Int) := by omega
   have hl : (countsP E rows).length = E.length := by simp [countsP]
   simp only [this,decide_false,Bool.false_eq_true,if_false]
   rw [List.take_of_length_le (show rows.length ≤ i by omega),List.take_of_length_le (by omega)]
 | k + 1,i,hk => by
   have hi : i < rows.length := by omega
   have hlt : (i : Int) < (rows.length : Int) := by omega
   have hw : IntKind.i64.wrap ((i : Int) + 1) = ((i + 1 : Nat) : Int) := by rw [w64 (by omega) (by omega)]; omega
   obtain ⟨j,hj,e1,e2⟩ := index_ok E rows[i] hE E.length 0 (by omega) (by rw [List.drop_zero]; exact hm _ (List.getElem_mem hi))
   have e1 : slices_Index___string_string__p0 E rows[i] E.length 0 = _ := e1
   have hj' : (j : Int) < (E.length : Int) := by omega
   have hc : (rows.take i).count E[j] ≤ 1048576 := Nat.le_trans List.count_le_length (by rw [List.length_take]; omega)
   rw [impl_CountLines_p0_eq]
   simp only [hlt,decide_true,if_true,Int.natCast_nonneg,Int.toNat_natCast,List.getElem?_eq_getElem hi,Option.bind_some,hw,slices_Index___string_string__eq,e1,hj',Bool.and_self,countsP_get (rows.take i) hj]
   have e3 : (countsP E (rows.take i)).set j (IntKind.i64.wrap (((rows.take i).count E[j] : Nat) + 1 : Int)) = countsP E (rows.take (i + 1)) := by
    rw [w64 (by omega) (by omega)]
    apply List.ext_getElem?
    intro q
    by_cases hq : q < E.length
    ·rw [countsP_get _ hq,List.take_add_one,List.getElem?_eq_getElem hi,Option.toList_some,List.count_append]
     by_cases hjq : j = q
     ·subst hjq
      rw [List.getElem?_set_self (by simp [countsP]; omega),e2,List.count_singleton_self]; rfl
     ·rw [List.getElem?_set_ne hjq,countsP_get _ hq]
      have hne : E[q] ≠ rows[i] := by
       rw [← e2]
       intro h
       rcases Nat.lt_or_ge j q with h1 | h1
       ·exact List.lt_irrefl E[q] (by have := List.pairwise_iff_getElem.1 hN j q hj hq h1; rw [← h] at this; exact this)
       ·exact List.lt_irrefl E[j] (by have := List.pairwise_iff_getElem.1 hN q j hq hj (by omega); rw [h] at this; exact this)
      have h0 : [rows[i]].count E[q] = 0 := List.count_eq_zero.2 (by simpa using hne)
      rw [h0,Nat.add_zero]
    ·rw [List.getElem?_eq_none (by simp [countsP]; omega),List.getElem?_eq_none (by simp [countsP]; omega)]
   rw [e3]
   exact count_loop E rows hE hr hN hm k (i + 1) (by omega)
theorem sum_loop (xs : List Nat) (hl : xs.length ≤ 1048576) : ∀ (k i a : Nat),i + k = xs.length → a + (xs.drop i).sum ≤ 1048576 → laws_b10Sum_p0 (xs.map fun n : Nat => (n : Int)) (a : Int) (i : Int) = some ((a + (xs.drop i).sum : Nat) : Int)
 | 0,i,a,hk,ha => by
   rw [laws_b10Sum_p0_eq,List.drop_eq_nil_of_le (by omega)]
   have : ¬ (i : Int) < ((xs.map fun n : Nat => (n : Int)).length : Int) := by rw [List.length_map]; omega
   simp only [this,decide_false,Bool.false_eq_true,if_false,List.sum_nil,Nat.add_zero]
 | k + 1,i,a,hk,ha => by
   have hi : i < xs.length := by omega
   have hlt : (i : Int) < ((xs.map fun n : Nat => (n : Int)).length : Int) := by rw [List.length_map]; omega
   have hw : IntKind.i64.wrap ((i : Int) + 1) = ((i + 1 : Nat) : Int) := by rw [w64 (by omega) (by omega)]; omega
   have hg : (xs.map fun n : Nat => (n : Int))[i]? = some (xs[i] : Int) := by simp [List.getElem?_eq_getElem hi]
   rw [List.drop_eq_getElem_cons hi,List.sum_cons] at ha ⊢
   have hw2 : IntKind.i64.wrap ((a : Int) + (xs[i] : Int)) = ((a + xs[i] : Nat) : Int) := by rw [w64 (by omega) (by omega)]; omega
   rw [laws_b10Sum_p0_eq]
   simp only [hlt,decide_true,if_true,Int.natCast_nonneg,Int.toNat_natCast,hg,Option.bind_some,hw,hw2]
   rw [sum_loop xs hl k (i + 1) (a + xs[i]) (by omega) (by omega),Nat.add_assoc]
def runP (rows : List (List UInt8)) (d : List UInt8) : List (List UInt8) := List.replicate (rows.count d) d
theorem p11_loop (rows D S : List (List UInt8)) (a i n : Nat) (hi : i < D.length) (hD : D.length ≤ 1048576) (hn : n = rows.count D[i]) (hS : ∀ k,k < n → S[a + k]? = some D[i]) (hl : a + n ≤ S.length) (hs : S.length ≤ 1048576) : ∀ (k j : Nat),j + k = n →
 laws_FnReports_p11 rows D a i j S (countsP D rows) = laws_FnReports_p6 rows D ((a + n : Nat) : Int) ((i + 1 : Nat) : Int) S (countsP D rows)
 | 0,j,hk => by
   have hi' : (i : Int) < ((countsP D rows).length : Int) := by simp [countsP]; omega
   have hj : ¬ (j : Int) < ((rows.count D[i] : Nat) : Int) := by omega
   have hw : IntKind.i64.wrap ((i : Int) + 1) = ((i + 1 : Nat) : Int) := by rw [w64 (by omega) (by omega)]; omega
   have hw2 : IntKind.i64.wrap ((a : Int) + ((rows.count D[i] : Nat) : Int)) = ((a + n : Nat) : Int) := by rw [w64 (by omega) (by omega)]; omega
   rw [laws_FnReports_p11_eq]
   simp only [hi',Int.natCast_nonneg,decide_true,Bool.and_self,if_true,Int.toNat_natCast,countsP_get rows hi,Option.bind_some,hj,decide_false,Bool.false_eq_true,if_false,hw,hw2]
 | k + 1,j,hk => by
   have hi' : (i : Int) < ((countsP D rows).length : Int) := by simp [countsP]; omega
   have hj : (j : Int) < ((rows.count D[i] : Nat) : Int) := by omega
   have hw : IntKind.i64.wrap ((j : Int) + 1) = ((j + 1 : Nat) : Int) := by rw [w64 (by omega) (by omega)]; omega
   have hw2 : IntKind.i64.wrap ((a : Int) + (j : Int)) = ((a + j : Nat) : Int) := by rw [w64 (by omega) (by omega)]; omega
   have hlt : ((a + j : Nat) : Int) < (S.length : Int) := by omega
   rw [laws_FnReports_p11_eq]
   simp only [hi',Int.natCast_nonneg,decide_true,Bool.and_self,if_true,Int.toNat_natCast,countsP_get rows hi,Option.bind_some,hj,hw,hw2,hlt,hS j (by omega),List.getElem?_eq_getElem hi,beq_self_eq_true,Bool.not_true,Bool.false_eq_true,if_false]
   exact p11_loop rows D S a i n hi hD hn hS hl hs k (j + 1) (by omega)
theorem p9_loop (rows D S : List (List UInt8)) (a : Int) (i : Nat) (hi : i < D.length) (hr : rows.length ≤ 1048576) : ∀ (k j : Nat),j + k = rows.length →
 laws_FnReports_p9 rows D a i (((rows.take j).count D[i] : Nat) : Int) j S (countsP D rows) = laws_FnReports_p11 rows D a i 0 S (countsP D rows)
 | 0,j,hk => by
   have hi' : (i : Int) < ((countsP D rows).length : Int) := by simp [countsP]; omega
   have hj : ¬ (j : Int) < (rows.length : Int) := by omega
   rw [laws_FnReports_p9_eq,List.take_of_length_le (show rows.length ≤ j by omega)]
   simp only [hj,hi',Int.natCast_nonneg,decide_true,decide_false,Bool.and_self,Bool.false_eq_true,if_false,if_true,Int.toNat_natCast,countsP_get rows hi,Option.bind_some,bne_self_eq_false]
 | k + 1,j,hk => by
   have hj : j < rows.length := by omega
   have hlt : (j : Int) < (rows.length : Int) := by omega
   have hw : IntKind.i64.wrap ((j : Int) + 1) = ((j + 1 : Nat) : Int) := by rw [w64 (by omega) (by omega)]; omega
   have hc : (rows.take j).count D[i] ≤ 1048576 := Nat.le_trans List.count_le_length (by rw [List.length_take]; omega)
   have ih := p9_loop rows D S a i hi hr k (j + 1) (by omega)
   rw [List.take_add_one,List.getElem?_eq_getElem hj,Option.toList_some,List.count_append] at ih
   rw [laws_FnReports_p9_eq]
   simp only [hlt,Int.natCast_nonneg,decide_true,if_true,Int.toNat_natCast,List.getElem?_eq_getElem hj,List.getElem?_eq_getElem hi,Option.bind_some,hw]
   by_cases he : rows[j] = D[i]
   ·have hw2 : IntKind.i64.wrap ((((rows.take j).count D[i] : Nat) : Int) + 1) = (((rows.take j).count D[i] + 1 : Nat) : Int) := by rw [w64 (by omega) (by omega)]; omega
    rw [he,List.count_singleton_self] at ih
    rw [if_pos (by simpa using he),hw2]; exact ih
   ·have h0 : [rows[j]].count D[i] = 0 := List.count_eq_zero.2 (by simpa using Ne.symm he)
    rw [h0,Nat.add_zero] at ih
    rw [if_neg (by simpa using he)]; exact ih
theorem p6_loop (rows D S : List (List UInt8)) (hr : rows.length ≤ 1048576) (hD : D.length ≤ 1048576) (hs : S.length ≤ 1048576) (hS : S = D.flatMap (runP rows)) (hup : D.Pairwise (· < ·)) (hm : ∀ d,d ∈ D → d ∈ rows)
 (hend : ∀ a : Int,laws_FnReports_p6 rows D a D.length S (countsP D rows) = some true) : ∀ (k i : Nat),i + k = D.length → laws_FnReports_p6 rows D ((((D.take i).flatMap (runP rows)).length : Nat) : Int) i S (countsP D rows) = some true
 | 0,i,hk => by
   have : i = D.length := by omega
   subst this
   exact hend _
 | k + 1,i,hk => by
   have hi : i < D.length := by omega
   have hlt : (i : Int) < (D.length : Int) := by omega
   have hi' : (i : Int) < ((countsP D rows).length : Int) := by simp [countsP]; omega
   have ih := p6_loop rows D S hr hD hs hS hup hm hend k (i + 1) (by omega)
   have eT : D.take (i + 1) = D.take i ++ [D[i]] := by rw [List.take_add_one,List.getElem?_eq_getElem hi]; rfl
   have eS : S = (D.take i).flatMap (runP rows) ++ (List.replicate (rows.count D[i]) D[i] ++ (D.drop (i + 1)).flatMap (runP rows)) := by
    conv => lhs; rw [hS,← List.take_append_drop i D,List.drop_eq_getElem_cons hi,List.flatMap_append,List.flatMap_cons]
    rfl
   rw [eT,List.flatMap_append,List.length_append,List.flatMap_cons,List.flatMap_nil,List.append_nil,runP,List.length_replicate] at ih
   generalize (D.take i).flatMap (runP rows) = A at ih eS ⊢
   have hlen : A.length + rows.count D[i] ≤ S.length := by rw [eS]; simp only [List.length_append,List.length_replicate]; omega
   have hget : ∀ q,q < rows.count D[i] → S[A.length + q]? = some D[i] := fun q hq => by
    rw [eS,List.getElem?_append_right (by omega),Nat.add_sub_cancel_left,List.getElem?_append_left (by rw [List.length_replicate]; exact hq),List.getElem?_replicate,if_pos hq]
   have hpos : 0 < rows.count D[i] := List.count_pos_iff.2 (hm _ (List.getElem_mem hi))
   have h7 : laws_FnReports_p7 rows D (A.length : Int) i S (countsP D rows) = some true := by
    have h9 := p9_loop rows D S (A.length : Int) i hi hr rows.length 0 (by omega)
    rw [List.take_zero,List.count_nil] at h9
    have h9 : laws_FnReports_p9 rows D (A.length : Int) i 0 0 S (countsP D rows) = _ := h9
    have h11 := p11_loop rows D S A.length i _ hi hD rfl hget hlen hs (rows.count D[i]) 0 (by omega)
    have h11 : laws_FnReports_p11 rows D (A.length : Int) i 0 S (countsP D rows) = _ := h11
    rw [laws_FnReports_p7_eq,h9,h11]; exact ih
   have hc1 : ¬ ((rows.count D[i] : Nat) : Int) < 1 := by omega
   have hw : IntKind.i64.wrap ((A.length : Int) + ((rows.count D[i] : Nat) : Int)) = ((A.length + rows.count D[i] : Nat) : Int) := by rw [w64 (by omega) (by omega)]; omega
   have hc2 : ¬ ((A.length + rows.count D[i] : Nat) : Int) > (S.length : Int) := by omega
   rw [laws_FnReports_p6_eq]
   simp only [hlt,hi',Int.natCast_nonneg,decide_true,Bool.and_self,if_true,Int.toNat_natCast,countsP_get rows hi,Option.bind_some,hc1,decide_false,Bool.false_eq_true,if_false,hw,hc2]
   by_cases h0 : i = 0
   ·subst h0
    rw [if_neg (by simp)]; exact h7
   ·have hi0 : (i : Int) > 0 := by omega
    have hw3 : IntKind.i64.wrap ((i : Int) - 1) = ((i - 1 : Nat) : Int) := by rw [w64 (by omega) (by omega)]; omega
    have hb : Op.bytesLess D[i - 1] D[i] = true := by
     rw [Proofs.bytesLess_eq]
     exact decide_eq_true (List.pairwise_iff_getElem.1 hup (i - 1) i (by omega) hi (by omega))
    simp only [hi0,decide_true,if_true,hw3,Int.natCast_nonneg,Int.toNat_natCast,List.getElem?_eq_getElem (show i - 1 < D.length by omega),List.getElem?_eq_getElem hi,Option.bind_some,hb,Bool.not_true,Bool.false_eq_true,if_false]
    exact h7
theorem word_draw (s : T_l00Src.ty) (c : Int) (hs : SrcOk s c) (hc : c ≤ 100000) : ∃ (u : List UInt8) (s' : T_l00Src.ty),spec_l30DrawWord s = some (u,s') ∧ SrcOk s' (c + 2) ∧ u.length ≤ 10 := by
 obtain ⟨u,s',e,k,m⟩ := text_ok hs (by omega) [[97],[99,99,99],[49,50],[45,53],[119,111,111,100],[],[120,44,121],[126]] (by decide) (by decide)
 rw [spec_l30DrawWord_eq]
 simp only [e,Option.bind_some,src_eta]
 refine ⟨u,s',rfl,k,?_⟩
 simp only [List.mem_cons,List.not_mem_nil,or_false] at m
 rcases m with rfl | rfl | rfl | rfl | rfl | rfl | rfl | rfl <;> decide
def LinesSm (xs : List (List UInt8)) : Prop := xs.length ≤ 1000 ∧ ∀ x,x ∈ xs → x.length ≤ 1000
theorem LinesSm.snoc {xs : List (List UInt8)} {x : List UInt8} (h : ∀ y,y ∈ xs → y.length ≤ 1000) (hl : xs.length ≤ 999) (hx : x.length ≤ 1000) : LinesSm (xs ++ [x]) := by
 refine ⟨by simp only [List.length_append,List.length_cons,List.length_nil]; omega,fun y hy => ?_⟩
 rcases List.mem_append.1 hy with hy | hy
 ·exact h y hy
 ·rw [List.mem_singleton] at hy; subst hy; exact hx
theorem lines_draw1 (v6 : Int) (h6 : v6 ≤ 200) (r3 : List (List UInt8)) (hx : ∀ x,x ∈ r3 → x.length ≤ 1000) (hl : r3.length ≤ 100) : ∀ (k : Nat) (v7 : List UInt8) (s : T_l00Src.ty),(v6 - (v7.length : Int)).toNat ≤ k → v7.length ≤ 200 →
 ∃ (xs : List (List UInt8)) (s' : T_l00Src.ty),spec_l30Draw_p1 v6 v7 s.1 s.2.1 s.2.2.1 r3 = some (xs,s') ∧ LinesSm xs
 | 0,v7,s,hk,h7 => by
   have : ¬ (v7.length : Int) < v6 := by omega
   have hlim : r3.length + 1 < lim := by rw [lim_eq]; omega
   rw [spec_l30Draw_p1_eq]
   simp only [this,decide_false,Bool.false_eq_true,if_false,hlim,decide_true,if_true,List.take_length]
   exact ⟨_,_,rfl,LinesSm.snoc hx (by omega) (by omega)⟩
 | k + 1,v7,s,hk,h7 => by
   have hlim : r3.length + 1 < lim := by rw [lim_eq]; omega
   rw [spec_l30Draw_p1_eq]
   by_cases hlt : (v7.length : Int) < v6
   ·have hst : v7.length + [(121 : UInt8)].length ≤ strMax := by rw [strMax_eq]; simp only [List.length_cons,List.length_nil]; omega
    simp only [hlt,decide_true,if_true]
    refine Exists.imp (fun _ => Exists.imp fun _ h => And.imp (fun h => (if_pos (decide_eq_true hst)).trans h) id h) ?_
    exact lines_draw1 v6 h6 r3 hx hl k (v7 ++ [121]) s (by simp only [List.length_append,List.length_cons,List.length_nil]; omega) (by simp only [List.length_append,List.length_cons,List.length_nil]; omega)
   ·simp only [hlt,decide_false,Bool.false_eq_true,if_false,hlim,decide_true,if_true,List.take_length]
    exact ⟨_,_,rfl,LinesSm.snoc hx (by omega) (by omega)⟩
theorem lines_draw0 : ∀ (k : Nat) (v4 : Int) (s : T_l00Src.ty) (c : Int) (r : List (List UInt8)),SrcOk s c → c + 20 * k ≤ 1000 → v4.toNat ≤ k → k + r.length ≤ 20 → (∀ x,x ∈ r → x.length ≤ 1000) →
 ∃ (xs : List (List UInt8)) (s' : T_l00Src.ty),spec_l30Draw_p0 v4 s.1 s.2.1 s.2.2.1 r = some (xs,s') ∧ LinesSm xs := by
 have tail : ∀ (v4 : Int) (s : T_l00Src.ty) (c : Int) (r : List (List UInt8)),SrcOk s c → c ≤ 1000 → ¬ v4 > 0 → r.length ≤ 20 → (∀ x,x ∈ r → x.length ≤ 1000) →
  ∃ (xs : List (List UInt8)) (s' : T_l00Src.ty),spec_l30Draw_p0 v4 s.1 s.2.1 s.2.2.1 r = some (xs,s') ∧ LinesSm xs := fun v4 s c r hs hc h4 hr hx => by
  have hlim : r.length + 1 < lim := by rw [lim_eq]; omega
  obtain ⟨v,s1,e1,k1,_⟩ := pick_ok hs (by omega) 20 (by omega)
  rw [spec_l30Draw_p0_eq]
  simp only [h4,decide_false,Bool.false_eq_true,if_false,src_eta,e1,Option.bind_some,List.take_length]
  by_cases h0 : (v == 0) = true
  ·obtain ⟨u,s2,e2,k2,m2⟩ := text_ok k1 (by omega) [[10],[97,127],[9]] (by decide) (by decide)
   have hu : u.length ≤ 1000 := by
    simp only [List.mem_cons,List.not_mem_nil,or_false] at m2
    rcases m2 with rfl | rfl | rfl <;> decide
   simp only [h0,if_true,e2,Option.bind_some,src_eta,hlim,decide_true]
   exact ⟨_,_,rfl,LinesSm.snoc hx (by omega) hu⟩
  ·by_cases h1 : (v == 1) = true
   ·obtain ⟨a,t1,f1,g1,ma⟩ := among_ok k1 (by omega) [200,201] (by decide) (by decide)
    have ha : 0 ≤ a ∧ a ≤ 201 := by simp at ma; omega
    have hl2 : a.toNat < lim := by rw [lim_eq]; omega
    simp only [h0,h1,if_true,f1,Option.bind_some,Bool.false_eq_true,if_false,ha.1,Int.le_refl,hl2,decide_true,Bool.and_self]
    refine ⟨_,_,rfl,by rw [List.length_replicate]; omega,fun x hx => ?_⟩
    rw [List.eq_of_mem_replicate hx]; decide
   ·by_cases h2 : (v == 2) = true
    ·obtain ⟨a,t1,f1,g1,ma⟩ := among_ok k1 (by omega) [100,101] (by decide) (by decide)
     have ha : a ≤ 200 := by simp at ma; omega
     simp only [h0,h1,h2,if_true,f1,Option.bind_some,Bool.false_eq_true,if_false]
     exact lines_draw1 a ha r hx (by omega) 200 [] t1 (by simp only [List.length_nil]; omega) (by simp)
    ·simp only [h0,h1,h2,Bool.false_eq_true,if_false]
     exact ⟨_,_,rfl,by omega,hx⟩
 intro k
 induction k with
 | zero => intro v4 s c r hs hc hv hr hx; exact tail v4 s c r hs (by omega) (by omega) (by omega) hx
 | succ k ih =>
   intro v4 s c r hs hc hv hr hx
   by_cases h4 : v4 > 0
   ·have hlim : r.length + 1 < lim := by rw [lim_eq]; omega
    obtain ⟨w1,s1,e1,k1,l1⟩ := word_draw s c hs (by omega)
    obtain ⟨w2,s2,e2,k2,m2⟩ := text_ok k1 (by omega) [[],[32],[32,32]] (by decide) (by decide)
    have l2 : w2.length ≤ 10 := by
     simp only [List.mem_cons,List.not_mem_nil,or_false] at m2
     rcases m2 with rfl | rfl | rfl <;> decide
    obtain ⟨w3,s3,e3,k3,l3⟩ := word_draw s2 _ k2 (by omega)
    have h1 : w1.length + w2.length ≤ strMax := by rw [strMax_eq]; omega
    have h2 : (w1 ++ w2).length + w3.length ≤ strMax := by rw [strMax_eq,List.length_append]; omega
    have hw : IntKind.i64.wrap (v4 - 1) = v4 - 1 ∨ ¬ v4 ≤ 9223372036854775807 := by
     by_cases h : v4 ≤ 9223372036854775807
     ·exact .inl (w64 (by omega) (by omega))
     ·exact .inr h
    have hw : IntKind.i64.wrap (v4 - 1) = v4 - 1 := hw.resolve_right (by omega)
    rw [spec_l30Draw_p0_eq]
    simp only [h4,decide_true,if_true,src_eta,e1,Option.bind_some,e2,h1,e3,h2,hlim,List.take_length,hw]
    refine ih (v4 - 1) s3 _ (r ++ [(w1 ++ w2) ++ w3]) k3 (by omega) (by omega) (by simp only [List.length_append,List.length_cons,List.length_nil]; omega) fun y hy => ?_
    rcases List.mem_append.1 hy with hy | hy
    ·exact hx y hy
    ·rw [List.mem_singleton] at hy; subst hy; simp only [List.length_append]; omega
   ·exact tail v4 s c r hs (by omega) h4 (by omega) hx
theorem lines_draw (v : List Int) (h1 : ∀ x,x ∈ v → 0 ≤ x ∧ x ≤ 255) (h2 : v.length ≤ 1048576) : ∃ xs,spec_DrawSortLines v = some xs ∧ LinesSm xs := by
 obtain ⟨s,e,k⟩ := from_ok v h1 h2
 obtain ⟨a,s1,e1,k1,b1,b2⟩ := pick_ok k (by omega) 8 (by omega)
 obtain ⟨xs,s',e2,l⟩ := lines_draw0 8 a s1 _ [] k1 (by omega) (by omega) (by simp) (fun x hx => by cases hx)
 rw [spec_DrawSortLines_eq,e,Option.bind_some,spec_l30Draw_eq]
 simp only [e1,Option.bind_some,e2,List.take_length]
 exact ⟨xs,rfl,l⟩
theorem flat_join : ∀ (x : List UInt8) (r : List (List UInt8)),((x :: r).flatMap fun l => l ++ [10]) = Lib.join (x :: r) [10] ++ [10]
 | x,[] => by rw [Lib.join_one]; simp
 | x,y :: r => by rw [List.flatMap_cons,flat_join y r,join_cons2]; simp
theorem ended_loop (rows : List (List UInt8)) (hr : rows.length ≤ 200) (hx : ∀ x,x ∈ rows → x.length ≤ 100) : ∀ (k i : Nat) (t : List UInt8),i + k = rows.length → t.length ≤ 101 * i →
 impl_endedLines_p0 t rows rows.length i = some (t ++ (rows.drop i).flatMap fun l => l ++ [10])
 | 0,i,t,hk,ht => by
   rw [impl_endedLines_p0_eq,List.drop_eq_nil_of_le (by omega)]
   have : ¬ (i : Int) < (rows.length : Int) := by omega
   simp only [this,decide_false,Bool.false_eq_true,if_false,List.flatMap_nil,List.append_nil]
 | k + 1,i,t,hk,ht => by
   have hi : i < rows.length := by omega
   have hlt : (i : Int) < (rows.length : Int) := by omega
   have hw : IntKind.i64.wrap ((i : Int) + 1) = ((i + 1 : Nat) : Int) := by rw [w64 (by omega) (by omega)]; omega
   have hxi := hx rows[i] (List.getElem_mem hi)
   have h1 : rows[i].length + [(10 : UInt8)].length ≤ strMax := by rw [strMax_eq]; simp only [List.length_cons,List.length_nil]; omega
   have h2 : t.length + (rows[i] ++ [(10 : UInt8)]).length ≤ strMax := by rw [strMax_eq]; simp only [List.length_append,List.length_cons,List.length_nil]; omega
   rw [impl_endedLines_p0_eq,List.drop_eq_getElem_cons hi,List.flatMap_cons]
   simp only [hlt,decide_true,if_true,Int.natCast_nonneg,Int.toNat_natCast,List.getElem?_eq_getElem hi,Option.bind_some,hw]
   refine (if_pos (decide_eq_true h1)).trans ((if_pos (decide_eq_true h2)).trans ?_)
   rw [ended_loop rows hr hx k (i + 1) _ (by omega) (by simp only [List.length_append,List.length_cons,List.length_nil]; omega),List.append_assoc]
theorem flat_len (rows : List (List UInt8)) (hx : ∀ x,x ∈ rows → x.length ≤ 100) : (rows.flatMap fun l => l ++ [(10 : UInt8)]).length ≤ 101 * rows.length := by
 induction rows with
 | nil => simp
 | cons x r ih =>
   have := ih fun y hy => hx y (List.mem_cons_of_mem _ hy)
   have h0 := hx x List.mem_cons_self
   rw [List.flatMap_cons]
   simp only [List.length_append,List.length_cons,List.length_nil] at this ⊢
   omega
theorem reportOk_all {rows : List (List UInt8)} (h : reportOk rows = true) : rows.length ≤ 200 ∧ ∀ x,x ∈ rows → x.length ≤ 100 ∧ (10 : UInt8) ∉ x := by
 rw [reportOk,Bool.and_eq_true,decide_eq_true_eq] at h
 refine ⟨by omega,fun x hx => ?_⟩
 have := List.all_eq_true.1 h.1 x hx
 rw [lineOk,Bool.and_eq_true,decide_eq_true_eq] at this
 refine ⟨by omega,fun hm => ?_⟩
 have h2 := List.all_eq_true.1 this.1 10 hm
 exact absurd h2 (by decide)
theorem text_read (rows : List (List UInt8)) (h : reportOk rows = true) : ∃ t,impl_ReportText rows = some t ∧ impl_ReadReport t = some (rows,true) := by
 obtain ⟨h1,h2⟩ := reportOk_all h
 have hv := impl_ValidReport_ok rows (by omega) fun x hx => by have := (h2 x hx).1; omega
 have he := ended_loop rows h1 (fun x hx => (h2 x hx).1) rows.length 0 [] (by omega) (by simp)
 have he : impl_endedLines_p0 [] rows rows.length 0 = _ := he
 rw [List.drop_zero,List.nil_append] at he
 refine ⟨_,by rw [impl_ReportText_eq,hv,h,Option.bind_some]; simp only [Bool.not_true,Bool.false_eq_true,if_false]; rw [impl_endedLines_eq,he,Option.bind_some],?_⟩
 cases rows with
 | nil => rw [impl_ReadReport_eq]; rfl
 | cons x r =>
   have hl := flat_len (x :: r) fun x hx => (h2 x hx).1
   rw [flat_join] at hl ⊢
   have hsp := split_join x r fun y hy => (h2 y hy).2
   generalize Lib.join (x :: r) [10] = t at hl hsp ⊢
   have hne : ((t ++ [10]) == ([] : List UInt8)) = false := by cases t <;> rfl
   have hsu : Lib.hasSuffix (t ++ [10]) [10] = true := by
    rw [Lib.hasSuffix,List.isSuffixOf_iff_suffix]; exact List.suffix_append _ _
   have htr : Lib.trimSuffix (t ++ [10]) [10] = t := by
    rw [Lib.trimSuffix,if_pos hsu]; simp
   have hb : (t ++ [(10 : UInt8)]).length ≤ 9223372036854775807 := by omega
   have hb2 : t.length < 4294967281 := by
    simp only [List.length_append,List.length_cons,List.length_nil] at hl h1; omega
   rw [impl_ReadReport_eq,hne]
   simp only [Bool.false_eq_true,if_false]
   rw [strings_CutSuffix_eq,if_pos (decide_eq_true hb),Option.bind_some]
   simp only [htr,hsu]
   rw [strings_Split_eq,if_pos (by rw [decide_eq_true hb2]; rfl),Option.bind_some,hsp]
   simp only [Bool.not_true,Bool.false_eq_true,if_false,List.take_length]
   rw [hv,h,Option.bind_some]
   rfl
theorem p10_loop (rows : List (List UInt8)) (hr : rows.length ≤ 1048576) : ∀ (k i : Nat),i + k = rows.length → laws_FnReports_p10 rows i rows = some true
 | 0,i,hk => by
   rw [laws_FnReports_p10_eq]
   have : ¬ (i : Int) < (rows.length : Int) := by omega
   simp only [this,decide_false,Bool.false_eq_true,if_false]
 | k + 1,i,hk => by
   have hi : i < rows.length := by omega
   have hlt : (i : Int) < (rows.length : Int) := by omega
   have hw : IntKind.i64.wrap ((i : Int) + 1) = ((i + 1 : Nat) : Int) := by rw [w64 (by omega) (by omega)]; omega
   rw [laws_FnReports_p10_eq]
   simp only [hlt,decide_true,if_true,Int.natCast_nonneg,Bool.and_self,Int.toNat_natCast,List.getElem?_eq_getElem hi,Option.bind_some,hw,beq_self_eq_true,Bool.not_true,Bool.false_eq_true,if_false]
   exact p10_loop rows hr k (i + 1) (by omega)
theorem clone_ok (xs : List (List UInt8)) (h : xs.length ≤ 1048576) : impl_clone_string_ xs = some xs := by
 have h1 : (xs.length : Int).toNat < lim := by rw [lim_eq,Int.toNat_natCast]; omega
 have h2 : 0 + xs.length < lim := by rw [lim_eq]; omega
 rw [impl_clone_string__eq]
 simp only [Int.natCast_nonneg,h1,h2,decide_true,Bool.and_self,if_true,List.nil_append,List.take_length]
theorem sorted_is (xs : List (List UInt8)) (h : reportOk xs = true) : impl_SortLines xs = some (sortP xs,0) := by
 obtain ⟨h1,h2⟩ := reportOk_all h
 have hv := impl_ValidReport_ok xs (by omega) fun x hx => by have := (h2 x hx).1; omega
 have hl : (sortP xs).length = xs.length := (sortP_perm xs).length_eq
 have hb : xs.length < 4611686018427387904 := by omega
 have hs : slices_Sort___string_string_ xs = some (sortP xs) := by rw [slices_Sort___string_string__eq,if_pos (decide_eq_true hb)]; rfl
 rw [impl_SortLines_eq,hv,h]
 simp only [Option.bind_some,Bool.not_true,Bool.false_eq_true,if_false,clone_ok xs (by omega),decide_true,if_true,hs]
 rw [List.take_of_length_le (by omega)]
theorem counted_is (xs : List (List UInt8)) (h : reportOk xs = true) : impl_CountLines xs = some (lessP xs,countsP (lessP xs) xs,0) := by
 obtain ⟨h1,h2⟩ := reportOk_all h
 have hv := impl_ValidReport_ok xs (by omega) fun x hx => by have := (h2 x hx).1; omega
 have hl : (sortP xs).length = xs.length := (sortP_perm xs).length_eq
 have hb : xs.length < 4611686018427387904 := by omega
 have hb2 : (sortP xs).length ≤ 9223372036854775807 := by omega
 have hs : slices_Sort___string_string_ xs = some (sortP xs) := by rw [slices_Sort___string_string__eq,if_pos (decide_eq_true hb)]; rfl
 have hc : slices_Compact___string_string_ (sortP xs) = some (lessP xs,()) := by rw [slices_Compact___string_string__eq,if_pos (decide_eq_true hb2)]; rfl
 have hset : impl_sortedSet xs = some (lessP xs,()) := by
  rw [impl_sortedSet_eq]
  simp only [decide_true,if_true,hs,Option.bind_some,hl,hc,List.take_length]
 obtain ⟨r1,r2,r3⟩ := less_runs xs
 have hE : (lessP xs).length ≤ xs.length := by
  have e := congrArg List.length r1
  rw [hl,List.length_flatMap] at e
  have : ∀ (D : List (List UInt8)),(∀ d,d ∈ D → d ∈ xs) → D.length ≤ (D.map fun d => (List.replicate (xs.count d) d).length).sum := fun D => by
   induction D with
   | nil => intro _; simp
   | cons d r ih =>
     intro hd
     have := ih fun x hx => hd x (List.mem_cons_of_mem _ hx)
     have h0 : 0 < xs.count d := List.count_pos_iff.2 (hd d List.mem_cons_self)
     simp only [List.map_cons,List.sum_cons,List.length_cons,List.length_replicate] at this ⊢
     omega
  have := this (lessP xs) fun d hd => (r3 d).1 hd
  omega
 have hlim : (lessP xs).length < lim := by rw [lim_eq]; omega
 have h0 := count_loop (lessP xs) xs (by omega) (by omega) r2 (fun x hx => (r3 x).2 hx) xs.length 0 (by omega)
 have hz : countsP (lessP xs) (xs.take 0) = List.replicate (lessP xs).length 0 := by
  rw [List.take_zero,countsP]
  apply List.ext_getElem
  ·simp
  ·intro i a b; simp
 rw [hz] at h0
 have h0 : impl_CountLines_p0 (lessP xs) (lessP xs).length xs xs.length 0 (List.replicate (lessP xs).length 0) = _ := h0
 rw [impl_CountLines_eq,hv,h]
 simp only [Option.bind_some,Bool.not_true,Bool.false_eq_true,if_false,clone_ok xs (by omega),decide_true,if_true,hset,Int.natCast_nonneg,Int.le_refl,hlim,Bool.and_self,List.length_replicate,Int.toNat_natCast]
 exact h0
theorem less_len (xs : List (List UInt8)) : (lessP xs).length ≤ xs.length := by
 obtain ⟨r1,r2,r3⟩ := less_runs xs
 have hl : (sortP xs).length = xs.length := (sortP_perm xs).length_eq
 have e := congrArg List.length r1
 rw [hl,List.length_flatMap] at e
 have : ∀ (D : List (List UInt8)),(∀ d,d ∈ D → d ∈ xs) → D.length ≤ (D.map fun d => (List.replicate (xs.count d) d).length).sum := fun D => by
  induction D with
  | nil => intro _; simp
  | cons d r ih =>
    intro hd
    have := ih fun x hx => hd x (List.mem_cons_of_mem _ hx)
    have h0 : 0 < xs.count d := List.count_pos_iff.2 (hd d List.mem_cons_self)
    simp only [List.map_cons,List.sum_cons,List.length_cons,List.length_replicate] at this ⊢
    omega
 have := this (lessP xs) fun d hd => (r3 d).1 hd
 omega
theorem sum_is (xs : List (List UInt8)) (h : xs.length ≤ 1048576) : laws_b10Sum (countsP (lessP xs) xs) = some (xs.length : Int) := by
 obtain ⟨r1,r2,r3⟩ := less_runs xs
 have hl : (sortP xs).length = xs.length := (sortP_perm xs).length_eq
 have e := congrArg List.length r1
 rw [hl,List.length_flatMap] at e
 have e : xs.length = ((lessP xs).map fun d => xs.count d).sum := by
  rw [e]; congr 1; exact List.map_congr_left fun d _ => List.length_replicate
 have hn := less_len xs
 have hs := sum_loop ((lessP xs).map fun d => xs.count d) (by rw [List.length_map]; omega) _ 0 0 (Nat.zero_add _) (by rw [List.drop_zero]; omega)
 have hs : laws_b10Sum_p0 (((lessP xs).map fun d => xs.count d).map fun n : Nat => (n : Int)) 0 0 = _ := hs
 rw [List.drop_zero,Nat.zero_add,← e,List.map_map] at hs
 rw [laws_b10Sum_eq]
 exact hs
theorem law_p5 (xs : List (List UInt8)) (h : reportOk xs = true) : laws_FnReports_p5 xs (lessP xs) (sortP xs) (countsP (lessP xs) xs) = some true := by
 obtain ⟨h1,h2⟩ := reportOk_all h
 obtain ⟨r1,r2,r3⟩ := less_runs xs
 have hl : (sortP xs).length = xs.length := (sortP_perm xs).length_eq
 have hn := less_len xs
 have h6 := p6_loop xs (lessP xs) (sortP xs) (by omega) (by omega) (by omega) r1 r2 (fun d hd => (r3 d).1 hd) (fun a => by
  obtain ⟨t,t1,t2⟩ := text_read xs h
  rw [laws_FnReports_p6_eq,t1,Option.bind_some,t2,Option.bind_some]
  have hlt : ¬ ((lessP xs).length : Int) < ((lessP xs).length : Int) := by omega
  have h10 := p10_loop xs (by omega) xs.length 0 (by omega)
  have h10 : laws_FnReports_p10 xs 0 xs = _ := h10
  simp only [hlt,decide_false,Bool.false_eq_true,if_false,Bool.not_true,bne_self_eq_false,laws_FnReports_p8_eq,h10]) _ 0 (Nat.zero_add _)
 rw [List.take_zero,List.flatMap_nil] at h6
 have h6 : laws_FnReports_p6 xs (lessP xs) 0 0 (sortP xs) (countsP (lessP xs) xs) = _ := h6
 rw [laws_FnReports_p5_eq,h6]
theorem law_p4 (v1 : List Int) (h1 : ∀ x,x ∈ v1 → 0 ≤ x ∧ x ≤ 255) (h2 : v1.length ≤ 1048576) : laws_FnReports_p4 v1 = some true := by
 obtain ⟨xs,e,hl,hx⟩ := lines_draw v1 h1 h2
 rw [laws_FnReports_p4_eq,e,Option.bind_some,List.take_length]
 cases h : reportOk xs
 ·have hv := impl_ValidReport_ok xs (by omega) fun x hm => by have := hx x hm; omega
  have s1 : impl_SortLines xs = some ([],1) := by rw [impl_SortLines_eq,hv,h]; rfl
  have s2 : impl_CountLines xs = some ([],[],1) := by rw [impl_CountLines_eq,hv,h]; rfl
  rw [s1,s2]; rfl
 ·have hn := less_len xs
  have hsl : (sortP xs).length = xs.length := (sortP_perm xs).length_eq
  have hcl : (countsP (lessP xs) xs).length = (lessP xs).length := by simp [countsP]
  rw [sorted_is xs h,counted_is xs h]
  simp only [Option.bind_some,bne_self_eq_false,Bool.false_eq_true,if_false,hsl,hcl,List.take_length]
  rw [sum_is xs (by omega)]
  simp only [Option.bind_some,bne_self_eq_false,Bool.false_eq_true,if_false]
  exact law_p5 xs h
theorem law_p2 (v1 : List Int) (h1 : ∀ x,x ∈ v1 → 0 ≤ x ∧ x ≤ 255) (h2 : v1.length ≤ 1048576) : laws_FnReports_p2 v1 = some true := by
 obtain ⟨xs,e,hl,hx⟩ := paper_draw v1 h1 h2
 obtain ⟨r,c,er,hr⟩ := paper_report xs (by omega) fun x hm => by have := hx x hm; rw [PaperSm] at this; omega
 rw [laws_FnReports_p2_eq,e,Option.bind_some,List.take_length,er,Option.bind_some]
 by_cases hc : c = 0
 ·obtain ⟨k1,_,W,k2⟩ := hr hc
  have k3 : r.length = xs.length + 1 := by rw [k2]; simp
  have hw : IntKind.i64.wrap ((xs.length : Int) + 1) = (r.length : Int) := by rw [w64 (by omega) (by omega)]; omega
  obtain ⟨m1,m2⟩ := reportOk_all k1
  have hv : spec_ValidReport r = some true := by
   rw [spec_ValidReport_eq,spec_l30Ok_ok r (by omega) (fun x hm => by have := (m2 x hm).1; omega),k1]; rfl
  subst hc
  simp only [beq_self_eq_true,if_true,hw,bne_self_eq_false,Bool.false_eq_true,if_false,List.take_length,hv,Option.bind_some,Bool.not_true]
  exact law_p4 v1 h1 h2
 ·have : (c == 0) = false := by simpa using hc
  simp only [this,Bool.false_eq_true,if_false]
  exact law_p4 v1 h1 h2
theorem p3_loop (v1 : List Int) (xs : List T_Pot.ty) (r : List (List UInt8)) (hs : xs.length ≤ 1000) (hr : r.length = xs.length + 1) (hx : ∀ (i : Nat) (h : i < xs.length),∃ t,r[i + 1]? = some (xs[i].1 ++ t) ∧ t ≠ []) (hend : laws_FnReports_p2 v1 = some true) : ∀ (k i : Nat),i + k = xs.length → laws_FnReports_p3 v1 i xs r = some true
 | 0,i,hk => by
   rw [laws_FnReports_p3_eq]
   have : ¬ (i : Int) < (xs.length : Int) := by omega
   simp only [this,decide_false,Bool.false_eq_true,if_false]
   exact hend
 | k + 1,i,hk => by
   have hi : i < xs.length := by omega
   have hlt : (i : Int) < (xs.length : Int) := by omega
   have hw : IntKind.i64.wrap ((i : Int) + 1) = ((i + 1 : Nat) : Int) := by rw [w64 (by omega) (by omega)]; omega
   have hlt2 : ((i + 1 : Nat) : Int) < (r.length : Int) := by omega
   obtain ⟨t,et,ht⟩ := hx i hi
   have hpos : 0 < t.length := List.length_pos_iff.2 ht
   have c1 : ∀ id : List UInt8,¬ ((id ++ t).length : Int) ≤ (id.length : Int) := fun id => by rw [List.length_append]; omega
   have c2 : ∀ id : List UInt8,(id.length : Int) ≤ ((id ++ t).length : Int) := fun id => by rw [List.length_append]; omega
   rw [laws_FnReports_p3_eq]
   simp only [hlt,decide_true,if_true,Int.natCast_nonneg,Bool.and_self,Int.toNat_natCast,List.getElem?_eq_getElem hi,Option.bind_some,hw,hlt2,et,c1,c2,decide_false,Bool.false_eq_true,if_false,List.take_left',beq_self_eq_true,Bool.not_true]
   exact p3_loop v1 xs r hs hr hx hend k (i + 1) (by omega)
theorem law_p0 (v0 v1 : List Int) (h1 : ∀ x,x ∈ v0 → 0 ≤ x ∧ x ≤ 255) (h2 : v0.length ≤ 1048576) (m1 : ∀ x,x ∈ v1 → 0 ≤ x ∧ x ≤ 255) (m2 : v1.length ≤ 1048576) : laws_FnReports_p0 v0 v1 = some true := by
 have hend := law_p2 v1 m1 m2
 obtain ⟨xs,e,hl,hx⟩ := pot_draw v0 h1 h2
 obtain ⟨r,c,er,hr⟩ := pot_report xs (by omega) fun x hm => by have := hx x hm; rw [PotSm] at this; omega
 rw [laws_FnReports_p0_eq,e,Option.bind_some,List.take_length,er,Option.bind_some]
 by_cases hc : c = 0
 ·obtain ⟨k1,hok,W,k2⟩ := hr hc
  have k3 : r.length = xs.length + 1 := by rw [k2]; simp
  have hw : IntKind.i64.wrap ((xs.length : Int) + 1) = (r.length : Int) := by rw [w64 (by omega) (by omega)]; omega
  obtain ⟨n1,n2⟩ := reportOk_all k1
  have hv : spec_ValidReport r = some true := by
   rw [spec_ValidReport_eq,spec_l30Ok_ok r (by omega) (fun x hm => by have := (n2 x hm).1; omega),k1]; rfl
  subst hc
  simp only [beq_self_eq_true,if_true,hw,bne_self_eq_false,Bool.false_eq_true,if_false,List.take_length,hv,Option.bind_some,Bool.not_true,laws_FnReports_p1_eq]
  refine p3_loop v1 xs r (by omega) k3 (fun i hi => ?_) hend xs.length 0 (by omega)
  have hp := pot_iff (hok xs[i] (List.getElem_mem hi))
  obtain ⟨ch,v,ei,hch⟩ := itoa_first xs[i].2.1 ⟨hp.2.1.1,Int.le_trans hp.2.1.2 (by decide)⟩
  obtain ⟨t,et,ht⟩ := line_id W xs[i].1 ch v [Lib.itoa xs[i].2.2.1,fixP (potStrong xs[i].2.1 xs[i].2.2.1 xs[i].2.2.2.1 xs[i].2.2.2.2.1) 1] hch
  refine ⟨t,?_,ht⟩
  rw [k2,List.map_cons,List.getElem?_cons_succ,List.map_map,List.getElem?_map,List.getElem?_eq_getElem hi,Option.map_some,Function.comp,rowP,ei,et]
 ·have : (c == 0) = false := by simpa using hc
  simp only [this,Bool.false_eq_true,if_false]
  exact hend
theorem laws_FnReports_true (code more : List Int) (h : CT.wf (.sl (.one (.int .u8))) code) (h' : CT.wf (.sl (.one (.int .u8))) more) : laws_FnReports code more = some true := by
 rw [laws_FnReports_eq,laws_b10Long_eq,laws_b10Long_eq,Option.bind_some,Option.bind_some]
 by_cases c1 : (code.length : Int) > 1048576
 ·simp only [c1,decide_true,if_true]
 by_cases c2 : (more.length : Int) > 1048576
 ·simp only [c1,c2,decide_true,decide_false,Bool.false_eq_true,if_true,if_false]
 simp only [c1,c2,decide_false,Bool.false_eq_true,if_false]
 exact law_p0 code more (bytes_ok h) (by omega) (bytes_ok h') (by omega)
end Go.Ab.P
