/- Pages hold all lines in order, lines with a word are found, bars are as long as their values tell. Conditions: bytes are bytes. -/
import Derived.Test.YtljcekgbidbkbaaBFnPages
set_option linter.unusedVariables false
set_option linter.unusedSectionVars false
set_option linter.unusedSimpArgs false
set_option maxRecDepth 4000
namespace Go.Ab.P
open Go.Ab
def mostOf : Int → List Int → Int
 | m,[] => m
 | m,v :: r => mostOf (if v > m then v else m) r
theorem mostOf_ok : ∀ (l : List Int) (m : Int),0 ≤ m → m ≤ 1000000000000 → (∀ v,v ∈ l → 0 ≤ v ∧ v ≤ 1000000000000) → (m ≤ mostOf m l ∧ mostOf m l ≤ 1000000000000) ∧ ∀ v,v ∈ l → v ≤ mostOf m l
 | [],m,h0,h1,_ => ⟨⟨Int.le_refl _,h1⟩,fun v h => by cases h⟩
 | x :: r,m,h0,h1,hl => by
   have hx := hl x List.mem_cons_self
   have hm : 0 ≤ (if x > m then x else m) ∧ (if x > m then x else m) ≤ 1000000000000 ∧ m ≤ (if x > m then x else m) ∧ x ≤ (if x > m then x else m) := by split <;> omega
   obtain ⟨h2,h3⟩ := mostOf_ok r (if x > m then x else m) hm.1 hm.2.1 (fun v hv => hl v (List.mem_cons_of_mem _ hv))
   refine ⟨⟨?_,h2.2⟩,fun v hv => ?_⟩
   ·rw [mostOf]; omega
   ·rw [mostOf]
    rcases List.mem_cons.1 hv with rfl | hv
    ·omega
    ·exact h3 v hv
def barN (M w v : Int) : Nat := (v * w / (if M > 1 then M else 1)).toNat
def barOf (M w v : Int) : List UInt8 := List.replicate (barN M w v) 35
theorem bar_bd {M w v : Int} (hM : M ≤ 1000000000000) (hw : 1 ≤ w ∧ w ≤ 100) (hv : 0 ≤ v ∧ v ≤ M) : (0 ≤ v * w ∧ v * w ≤ 100000000000000) ∧ (0 ≤ v * w / (if M > 1 then M else 1) ∧ v * w / (if M > 1 then M else 1) ≤ 100) := by
 have h1 : 0 ≤ v * w := Int.mul_nonneg hv.1 (by omega)
 have h2 : v * w ≤ 1000000000000 * 100 := Int.mul_le_mul (by omega) hw.2 (by omega) (by omega)
 refine ⟨⟨h1,h2⟩,Int.ediv_nonneg h1 (by split <;> omega),?_⟩
 apply Int.ediv_le_of_le_mul (by split <;> omega)
 by_cases h : M > 1
 ·rw [if_pos h,Int.mul_comm v w]
  exact Int.mul_le_mul hw.2 hv.2 hv.1 (by omega)
 ·rw [if_neg h]
  have := Int.mul_le_mul (show v ≤ 1 by omega) hw.2 (by omega) (by omega)
  omega
theorem repeat35 : ∀ n,Lib.repeatL [35] n = List.replicate n 35
 | 0 => rfl
 | n + 1 => by
   show 35 :: Lib.repeatL [35] n = _
   rw [repeat35 n]; rfl
theorem impl_bars (vs : List Int) (w M : Int) (hs : vs.length ≤ 1048576) (hM : 0 ≤ M ∧ M ≤ 1000000000000) (hw : 1 ≤ w ∧ w ≤ 100) (hv : ∀ v,v ∈ vs → 0 ≤ v ∧ v ≤ M) :
 ∀ (k i : Nat) (r : List (List UInt8)),i + k = vs.length → r.length = i → impl_BarLines_p1 w M vs vs.length i r = (impl_report (r ++ (vs.drop i).map (barOf M w))).bind fun x => some (x.1,x.2.1)
 | 0,i,r,hk,hr => by
   rw [impl_BarLines_p1_eq,List.drop_eq_nil_of_le (by omega)]
   have : ¬ (i : Int) < (vs.length : Int) := by omega
   simp only [this,decide_false,decide_true,if_true,Bool.false_eq_true,if_false,List.map_nil,List.append_nil,List.take_length]
 | k + 1,i,r,hk,hr => by
   have hi : i < vs.length := by omega
   have hlt : (i : Int) < (vs.length : Int) := by omega
   have hvi := hv vs[i] (List.getElem_mem hi)
   have hb := bar_bd hM.2 hw hvi
   have ih := impl_bars vs w M hs hM hw hv k (i + 1) (r ++ [barOf M w vs[i]]) (by omega) (by simp [hr])
   have e1 : IntKind.i64.wrap (vs[i] * w) = vs[i] * w := w64 (by omega) (by omega)
   have e2 : IntKind.i64.wrap ((vs[i] * w).tdiv (if M > 1 then M else 1)) = vs[i] * w / (if M > 1 then M else 1) := by rw [tdiv_nonneg_eq hb.1.1,w64 (by omega) (by omega)]
   have e4 : ¬ (if M > 1 then M else 1) = 0 := by split <;> omega
   have hlim : r.length + 1 < lim := by rw [lim_eq]; omega
   have hw2 : IntKind.i64.wrap ((i : Int) + 1) = ((i + 1 : Nat) : Int) := by rw [w64 (by omega) (by omega)]; omega
   have hrep : strings_Repeat [35] (vs[i] * w / (if M > 1 then M else 1)) = some (barOf M w vs[i]) := by
    have h3 : vs[i] * w / (if M > 1 then M else 1) ≤ 9223372036854775807 := by omega
    have h4 : [(35 : UInt8)].length * (vs[i] * w / (if M > 1 then M else 1)).toNat ≤ 140737488355328 := by simp only [List.length_cons,List.length_nil]; omega
    rw [strings_Repeat_eq,decide_eq_true hb.2.1,decide_eq_true h3,decide_eq_true h4,repeat35]
    rfl
   rw [impl_BarLines_p1_eq,List.drop_eq_getElem_cons hi,List.map_cons]
   simp only [hlt,decide_true,decide_false,if_true,Int.natCast_nonneg,Int.toNat_natCast,List.getElem?_eq_getElem hi,Option.bind_some,e1,e2,e4,Bool.false_eq_true,if_false,hrep,hlim,hw2,List.take_length]
   rw [ih,List.append_assoc]; rfl
theorem impl_most (vs : List Int) (w : Int) (hs : vs.length ≤ 1048576) : ∀ (k i : Nat) (m : Int),i + k = vs.length →
 impl_BarLines_p0 vs w m vs vs.length i = if (vs.drop i).all (fun v => inR v 0 1000000000000) then impl_BarLines_p1 w (mostOf m (vs.drop i)) vs vs.length 0 [] else some ([],2)
 | 0,i,m,hk => by
   rw [impl_BarLines_p0_eq,List.drop_eq_nil_of_le (by omega)]
   have : ¬ (i : Int) < (vs.length : Int) := by omega
   simp only [this,decide_false,Bool.false_eq_true,if_false,List.all_nil,if_true,mostOf]
 | k + 1,i,m,hk => by
   have hi : i < vs.length := by omega
   have hlt : (i : Int) < (vs.length : Int) := by omega
   have hw2 : IntKind.i64.wrap ((i : Int) + 1) = ((i + 1 : Nat) : Int) := by rw [w64 (by omega) (by omega)]; omega
   rw [impl_BarLines_p0_eq,List.drop_eq_getElem_cons hi]
   simp only [hlt,decide_true,if_true,Int.natCast_nonneg,Int.toNat_natCast,List.getElem?_eq_getElem hi,Option.bind_some,impl_within_ok,hw2,List.all_cons,mostOf]
   rw [impl_most vs w hs k (i + 1) _ (by omega)]
   by_cases h : inR vs[i] 0 1000000000000 = true <;> simp [h]
theorem longS (a : List Int) : laws_b10Long a = some (decide ((a.length : Int) > 1048576)) := by rw [laws_b10Long_eq]
def LinesOk (ls : List (List UInt8)) : Prop := ls.length ≤ 1000 ∧ ∀ x,x ∈ ls → x.length ≤ 1000
theorem word_ok {s : T_l00Src.ty} {c : Int} (hs : SrcOk s c) (hc : c ≤ 1000000000000000000) : ∃ (u : List UInt8) (s' : T_l00Src.ty),spec_l30DrawWord s = some (u,s') ∧ SrcOk s' (c + 2) ∧ u.length ≤ 4 := by
 obtain ⟨u,s1,e1,q1,hu⟩ := text_ok hs hc [[97],[99,99,99],[49,50],[45,53],[119,111,111,100],[],[120,44,121],[126]] (by decide) (by decide)
 refine ⟨u,s1,?_,q1,?_⟩
 ·rw [spec_l30DrawWord_eq,e1,Option.bind_some]
 ·revert u
  intro u _ hu
  have : ∀ u,u ∈ ([[97],[99,99,99],[49,50],[45,53],[119,111,111,100],[],[120,44,121],[126]] : List (List UInt8)) → u.length ≤ 4 := by decide
  exact this u hu
theorem draw_y : ∀ (k : Nat) (n : Int) (w : List UInt8) (s : T_l00Src.ty) (r : List (List UInt8)),w.length + k = n.toNat → n ≤ 200 → r.length ≤ 100 → ∃ w',spec_l30Draw_p1 n w s.1 s.2.1 s.2.2.1 r = some (r ++ [w'],s) ∧ w'.length ≤ max 200 w.length
 | 0,n,w,s,r,hk,hn,hr => by
   have hlt : ¬ (w.length : Int) < n := by omega
   have hlim : r.length + 1 < lim := by unfold lim; omega
   refine ⟨w,?_,by omega⟩
   rw [spec_l30Draw_p1_eq,if_neg (by simp only [hlt,decide_false,Bool.false_eq_true,not_false_eq_true]),if_pos (decide_eq_true hlim),List.take_length,List.take_length]
 | k + 1,n,w,s,r,hk,hn,hr => by
   have hlt : (w.length : Int) < n := by omega
   have hst : w.length + [(121 : UInt8)].length ≤ strMax := by unfold strMax; simp only [List.length_cons,List.length_nil]; omega
   obtain ⟨w',e,hw⟩ := draw_y k n (w ++ [121]) s r (by rw [List.length_append,List.length_singleton]; omega) hn hr
   refine ⟨w',?_,by rw [List.length_append,List.length_singleton] at hw; omega⟩
   rw [spec_l30Draw_p1_eq,if_pos (decide_eq_true hlt)]
   exact (if_pos (decide_eq_true hst)).trans e
theorem lines_snoc {r : List (List UInt8)} (h : LinesOk r) (hl : r.length ≤ 900) {w : List UInt8} (hw : w.length ≤ 1000) : LinesOk (r ++ [w]) := by
 refine ⟨by rw [List.length_append,List.length_singleton]; omega,fun x hx => ?_⟩
 rcases List.mem_append.1 hx with hx | hx
 ·exact h.2 x hx
 ·rw [List.mem_singleton.1 hx]; exact hw
theorem draw_loop : ∀ (k : Nat) (v : Int) (s : T_l00Src.ty) (c : Int) (r : List (List UInt8)),v ≤ k → SrcOk s c → c + 6 * (k : Int) ≤ 900000000000000000 → LinesOk r → r.length + k ≤ 100 →
 ∃ (r' : List (List UInt8)) (s' : T_l00Src.ty),spec_l30Draw_p0 v s.1 s.2.1 s.2.2.1 r = some (r',s') ∧ SrcOk s' (c + 6 * (k : Int) + 4) ∧ LinesOk r'
 | k,v,s,c,r,hk,hs,hc,hr,hrl => by
   have hc0 : 0 ≤ c := Int.le_trans hs.2.2.1 hs.2.2.2
   by_cases v0 : v > 0
   ·obtain ⟨k,rfl⟩ : ∃ k',k = k' + 1 := ⟨k - 1,by omega⟩
    have hwv : IntKind.i64.wrap (v - 1) = v - 1 := w64 (by omega) (by omega)
    obtain ⟨a,s1,e1,q1,l1⟩ := word_ok hs (by omega)
    obtain ⟨b,s2,e2,q2,hb⟩ := text_ok q1 (by omega) [[],[32],[32,32]] (by decide) (by decide)
    have l2 : b.length ≤ 2 := (by decide : ∀ u,u ∈ ([[],[32],[32,32]] : List (List UInt8)) → u.length ≤ 2) b hb
    obtain ⟨d,s3,e3,q3,l3⟩ := word_ok q2 (by omega)
    have e1' : spec_l30DrawWord (s.1,s.2.1,s.2.2.1,()) = some (a,s1) := e1
    have e2' : spec_l00Src_text (s1.1,s1.2.1,s1.2.2.1,()) [[],[32],[32,32]] = some (b,s2) := e2
    have e3' : spec_l30DrawWord (s2.1,s2.2.1,s2.2.2.1,()) = some (d,s3) := e3
    have h1 : a.length + b.length ≤ strMax := by unfold strMax; omega
    have h2 : (a ++ b).length + d.length ≤ strMax := by rw [List.length_append]; unfold strMax; omega
    have hlim : r.length + 1 < lim := by unfold lim; omega
    obtain ⟨r',s',e,q,h⟩ := draw_loop k (v - 1) s3 (c + 2 + 2 + 2) (r ++ [(a ++ b) ++ d]) (by omega) q3 (by omega) (lines_snoc hr (by omega) (by rw [List.length_append,List.length_append]; omega)) (by rw [List.length_append,List.length_singleton]; omega)
    refine ⟨r',s',?_,q.up (by omega),h⟩
    rw [spec_l30Draw_p0_eq,if_pos (decide_eq_true v0),e1',Option.bind_some,e2',Option.bind_some,if_pos (decide_eq_true h1),e3',Option.bind_some,if_pos (decide_eq_true h2),if_pos (decide_eq_true hlim),hwv,List.take_length]
    exact e
   ·obtain ⟨u,s1,e1,q1,u0,u1⟩ := pick_ok hs (by omega) 20 (by omega)
    have e1' : spec_l00Src_pick (s.1,s.2.1,s.2.2.1,()) 20 = some (u,s1) := e1
    have hlim : r.length + 1 < lim := by unfold lim; omega
    rw [spec_l30Draw_p0_eq,if_neg (by simp only [v0,decide_false,Bool.false_eq_true,not_false_eq_true]),e1',Option.bind_some]
    by_cases c0 : u = 0
    ·obtain ⟨b,s2,e2,q2,hb⟩ := text_ok q1 (by omega) [[10],[97,127],[9]] (by decide) (by decide)
     have l2 : b.length ≤ 2 := (by decide : ∀ u,u ∈ ([[10],[97,127],[9]] : List (List UInt8)) → u.length ≤ 2) b hb
     have e2' : spec_l00Src_text (s1.1,s1.2.1,s1.2.2.1,()) [[10],[97,127],[9]] = some (b,s2) := e2
     refine ⟨r ++ [b],s2,?_,q2.up (by omega),lines_snoc hr (by omega) (by omega)⟩
     rw [if_pos (beq_iff_eq.2 c0),e2',Option.bind_some,if_pos (decide_eq_true hlim),List.take_length,List.take_length]
    ·rw [if_neg (by rw [beq_iff_eq]; exact c0)]
     by_cases c1 : u = 1
     ·obtain ⟨b,s2,e2,q2,hb⟩ := among_ok q1 (by omega) [200,201] (by decide) (by decide)
      have l2 : 200 ≤ b ∧ b ≤ 201 := (by decide : ∀ u,u ∈ ([200,201] : List Int) → 200 ≤ u ∧ u ≤ 201) b hb
      have e2' : spec_l00Src_among (s1.1,s1.2.1,s1.2.2.1,()) [200,201] = some (b,s2) := e2
      have h0 : 0 ≤ b := by omega
      have hlim2 : b.toNat < lim := by unfold lim; omega
      refine ⟨List.replicate b.toNat [],s2,?_,q2.up (by omega),by rw [List.length_replicate]; omega,fun x hx => ?_⟩
      ·rw [if_pos (beq_iff_eq.2 c1),e2',Option.bind_some,if_pos (by rw [decide_eq_true h0,decide_eq_true (Int.le_refl b),decide_eq_true hlim2]; rfl),List.take_length]
      ·rw [List.eq_of_mem_replicate hx]; exact Nat.zero_le _
     ·rw [if_neg (by rw [beq_iff_eq]; exact c1)]
      by_cases c2 : u = 2
      ·obtain ⟨b,s2,e2,q2,hb⟩ := among_ok q1 (by omega) [100,101] (by decide) (by decide)
       have l2 : 100 ≤ b ∧ b ≤ 101 := (by decide : ∀ u,u ∈ ([100,101] : List Int) → 100 ≤ u ∧ u ≤ 101) b hb
       have e2' : spec_l00Src_among (s1.1,s1.2.1,s1.2.2.1,()) [100,101] = some (b,s2) := e2
       obtain ⟨w,e3,hw⟩ := draw_y b.toNat b [] s2 r (by simp) (by omega) (by omega)
       refine ⟨r ++ [w],s2,?_,q2.up (by omega),lines_snoc hr (by omega) (by simp at hw; omega)⟩
       rw [if_pos (beq_iff_eq.2 c2),e2',Option.bind_some]
       exact e3
      ·refine ⟨r,s1,?_,q1.up (by omega),hr⟩
       rw [if_neg (by rw [beq_iff_eq]; exact c2),List.take_length]
 termination_by k => k
 decreasing_by all_goals omega
theorem draw_ok {s : T_l00Src.ty} {c : Int} (hs : SrcOk s c) (hc : c ≤ 100000000000000000) : ∃ (r : List (List UInt8)) (s' : T_l00Src.ty),spec_l30Draw s = some (r,s') ∧ SrcOk s' (c + 60) ∧ LinesOk r := by
 obtain ⟨u,s1,e1,q1,u0,u1⟩ := pick_ok hs (by omega) 8 (by omega)
 obtain ⟨r,s',e,q,h⟩ := draw_loop 8 u s1 (c + 2) [] (by omega) q1 (by omega) ⟨by simp,fun x hx => (by cases hx)⟩ (by simp)
 refine ⟨r,s',?_,q.up (by omega),h⟩
 rw [spec_l30Draw_eq,e1,Option.bind_some]
 exact e
theorem dPages_ok {a : List Int} (h1 : ∀ x,x ∈ a → 0 ≤ x ∧ x ≤ 255) (h2 : a.length ≤ 1048576) : ∃ (ls : List (List UInt8)) (h : Int) (hd : List UInt8),spec_DrawPagesOf a = some (ls,h,hd) ∧ LinesOk ls ∧ hd.length ≤ 1000 := by
 obtain ⟨s,e,q⟩ := from_ok a h1 h2
 obtain ⟨ls,s1,e1,q1,hl⟩ := draw_ok q (by omega)
 obtain ⟨h,s2,e2,q2,_⟩ := among_ok q1 (by omega) [2,3,5,200,201,1] (by decide) (by decide)
 obtain ⟨hd,s3,e3,q3,hh⟩ := text_ok q2 (by omega) [[104,101,97,100],[],[10],[80,97,103,101]] (by decide) (by decide)
 have e2' : spec_l00Src_among (s1.1,s1.2.1,s1.2.2.1,()) [2,3,5,200,201,1] = some (h,s2) := e2
 have e3' : spec_l00Src_text (s2.1,s2.2.1,s2.2.2.1,()) [[104,101,97,100],[],[10],[80,97,103,101]] = some (hd,s3) := e3
 refine ⟨ls,h,hd,?_,hl,?_⟩
 ·rw [spec_DrawPagesOf_eq,e,Option.bind_some,e1,Option.bind_some,e2',Option.bind_some,e3',Option.bind_some,List.take_length]
 ·have := (by decide : ∀ u,u ∈ ([[104,101,97,100],[],[10],[80,97,103,101]] : List (List UInt8)) → u.length ≤ 4) hd hh
  omega
theorem dFind_ok {a : List Int} (h1 : ∀ x,x ∈ a → 0 ≤ x ∧ x ≤ 255) (h2 : a.length ≤ 1048576) : ∃ (ls : List (List UInt8)) (w : List UInt8),spec_DrawFindLines a = some (ls,w) ∧ LinesOk ls := by
 obtain ⟨s,e,q⟩ := from_ok a h1 h2
 obtain ⟨ls,s1,e1,q1,hl⟩ := draw_ok q (by omega)
 obtain ⟨w,s2,e2,q2,_⟩ := text_ok q1 (by omega) [[97],[99],[49,50],[99,99],[],[32],[119,111,111,100],[113]] (by decide) (by decide)
 have e2' : spec_l00Src_text (s1.1,s1.2.1,s1.2.2.1,()) [[97],[99],[49,50],[99,99],[],[32],[119,111,111,100],[113]] = some (w,s2) := e2
 refine ⟨ls,w,?_,hl⟩
 rw [spec_DrawFindLines_eq,e,Option.bind_some,e1,Option.bind_some,e2',Option.bind_some,List.take_length]
theorem bar_p1 {s : T_l00Src.ty} {c : Int} (hs : SrcOk s c) (hc : c ≤ 900000000000000000) {r : List Int} (hr : r.length ≤ 1000) : ∃ (w : Int),spec_DrawBarLines_p1 r s.1 s.2.1 s.2.2.1 = some (r,w) := by
 obtain ⟨w,s1,e1,q1,_⟩ := among_ok hs (by omega) [1,10,40,100,101,0] (by decide) (by decide)
 have e1' : spec_l00Src_among (s.1,s.2.1,s.2.2.1,()) [1,10,40,100,101,0] = some (w,s1) := e1
 exact ⟨w,by rw [spec_DrawBarLines_p1_eq,e1',Option.bind_some,List.take_length]⟩
theorem bar_loop : ∀ (k : Nat) (v : Int) (s : T_l00Src.ty) (c : Int) (r : List Int),v ≤ k → SrcOk s c → c + 2 * (k : Int) ≤ 800000000000000000 → r.length + k ≤ 100 →
 ∃ (r' : List Int) (w : Int),spec_DrawBarLines_p0 v r s.1 s.2.1 s.2.2.1 = some (r',w) ∧ r'.length ≤ 1000
 | k,v,s,c,r,hk,hs,hc,hrl => by
   have hc0 : 0 ≤ c := Int.le_trans hs.2.2.1 hs.2.2.2
   have hlim : r.length + 1 < lim := by unfold lim; omega
   by_cases v0 : v > 0
   ·obtain ⟨k,rfl⟩ : ∃ k',k = k' + 1 := ⟨k - 1,by omega⟩
    have hwv : IntKind.i64.wrap (v - 1) = v - 1 := w64 (by omega) (by omega)
    obtain ⟨a,s1,e1,q1,_⟩ := among_ok hs (by omega) [0,1,5,20,77,1000] (by decide) (by decide)
    have e1' : spec_l00Src_among (s.1,s.2.1,s.2.2.1,()) [0,1,5,20,77,1000] = some (a,s1) := e1
    obtain ⟨r',w,e,h⟩ := bar_loop k (v - 1) s1 (c + 2) (r ++ [a]) (by omega) q1 (by omega) (by rw [List.length_append,List.length_singleton]; omega)
    refine ⟨r',w,?_,h⟩
    rw [spec_DrawBarLines_p0_eq,if_pos (decide_eq_true v0),e1',Option.bind_some,if_pos (decide_eq_true hlim),hwv,List.take_length]
    exact e
   ·obtain ⟨u,s1,e1,q1,u0,u1⟩ := pick_ok hs (by omega) 16 (by omega)
    have e1' : spec_l00Src_pick (s.1,s.2.1,s.2.2.1,()) 16 = some (u,s1) := e1
    rw [spec_DrawBarLines_p0_eq,if_neg (by simp only [v0,decide_false,Bool.false_eq_true,not_false_eq_true]),e1',Option.bind_some]
    by_cases c0 : u = 0
    ·obtain ⟨b,s2,e2,q2,hb⟩ := among_ok q1 (by omega) [(-1),1000000000000,1000000000001] (by decide) (by decide)
     have e2' : spec_l00Src_among (s1.1,s1.2.1,s1.2.2.1,()) [(-1),1000000000000,1000000000001] = some (b,s2) := e2
     obtain ⟨w,e3⟩ := bar_p1 q2 (by omega) (r := r ++ [b]) (by rw [List.length_append,List.length_singleton]; omega)
     refine ⟨r ++ [b],w,?_,by rw [List.length_append,List.length_singleton]; omega⟩
     rw [if_pos (beq_iff_eq.2 c0),e2',Option.bind_some,if_pos (decide_eq_true hlim),List.take_length]
     exact e3
    ·rw [if_neg (by rw [beq_iff_eq]; exact c0)]
     by_cases c1 : u = 1
     ·obtain ⟨b,s2,e2,q2,hb⟩ := among_ok q1 (by omega) [200,201] (by decide) (by decide)
      have l2 : 200 ≤ b ∧ b ≤ 201 := (by decide : ∀ u,u ∈ ([200,201] : List Int) → 200 ≤ u ∧ u ≤ 201) b hb
      have e2' : spec_l00Src_among (s1.1,s1.2.1,s1.2.2.1,()) [200,201] = some (b,s2) := e2
      have h0 : 0 ≤ b := by omega
      have hlim2 : b.toNat < lim := by unfold lim; omega
      obtain ⟨w,e3⟩ := bar_p1 q2 (by omega) (r := List.replicate b.toNat 0) (by rw [List.length_replicate]; omega)
      refine ⟨List.replicate b.toNat 0,w,?_,by rw [List.length_replicate]; omega⟩
      rw [if_pos (beq_iff_eq.2 c1),e2',Option.bind_some,if_pos (by rw [decide_eq_true h0,decide_eq_true (Int.le_refl b),decide_eq_true hlim2]; rfl)]
      exact e3
     ·obtain ⟨w,e3⟩ := bar_p1 q1 (by omega) (r := r) (by omega)
      exact ⟨r,w,by rw [if_neg (by rw [beq_iff_eq]; exact c1)]; exact e3,by omega⟩
 termination_by k => k
 decreasing_by all_goals omega
theorem dBar_ok {a : List Int} (h1 : ∀ x,x ∈ a → 0 ≤ x ∧ x ≤ 255) (h2 : a.length ≤ 1048576) : ∃ (vs : List Int) (w : Int),spec_DrawBarLines a = some (vs,w) ∧ vs.length ≤ 1000 := by
 obtain ⟨s,e,q⟩ := from_ok a h1 h2
 obtain ⟨u,s1,e1,q1,u0,u1⟩ := pick_ok q (by omega) 8 (by omega)
 obtain ⟨vs,w,e2,hl⟩ := bar_loop 8 u s1 (0 + 2) [] (by omega) q1 (by omega) (by simp)
 exact ⟨vs,w,by rw [spec_DrawBarLines_eq,e,Option.bind_some,e1,Option.bind_some]; exact e2,hl⟩
theorem has_self (w : List UInt8) : Lib.contains w w = true := by
 unfold Lib.contains
 refine decide_eq_true ?_
 cases w with
 | nil => exact Int.le_refl 0
 | cons b l =>
   have h : (b :: l).isPrefixOf (b :: l) = true := by simp
   rw [Lib.index,if_pos h]
   exact Int.le_refl 0
def fndP (w : List UInt8) (ls : List (List UInt8)) (n : Nat) : List Int := ((List.range n).filter fun (i : Nat) => Lib.contains ((ls[i]?).getD []) w).map fun (i : Nat) => (i : Int)
theorem fndP_succ (w : List UInt8) (ls : List (List UInt8)) (n : Nat) : fndP w ls (n + 1) = fndP w ls n ++ (if Lib.contains ((ls[n]?).getD []) w then [(n : Int)] else []) := by
 rw [fndP,List.range_succ,List.filter_append,List.map_append,← fndP]
 congr 1
 by_cases c : Lib.contains ((ls[n]?).getD []) w = true <;> simp [List.filter_cons,c]
theorem fndP_len (w : List UInt8) (ls : List (List UInt8)) (n : Nat) : (fndP w ls n).length ≤ n := by
 have := List.length_filter_le (fun i => Lib.contains ((ls[i]?).getD []) w) (List.range n)
 rw [fndP,List.length_map]; rw [List.length_range] at this; exact this
theorem find_loop {w : List UInt8} {ls : List (List UInt8)} (h : LinesOk ls) : ∀ (k i : Nat),i + k = ls.length → impl_FindLines_p0 w ls ls.length i (fndP w ls i) = some (fndP w ls ls.length,0)
 | 0,i,hi => by
   have hlt : ¬ (i : Int) < (ls.length : Int) := by omega
   obtain rfl : i = ls.length := by omega
   rw [impl_FindLines_p0_eq,if_neg (by simp only [hlt,decide_false,Bool.false_eq_true,not_false_eq_true]),List.take_length]
 | k + 1,i,hi => by
   have hi' : i < ls.length := by omega
   have hlt : (i : Int) < (ls.length : Int) := by omega
   have hx := h.2 _ (List.getElem_mem hi')
   have hl := h.1
   have hfl := fndP_len w ls i
   have hlim : (fndP w ls i).length + 1 < lim := by unfold lim; omega
   have hc : strings_Contains ls[i] w = some (Lib.contains ls[i] w) := by
    rw [strings_Contains_eq,if_pos (decide_eq_true (by omega))]
   have IH := find_loop (w := w) h k (i + 1) (by omega)
   rw [fndP_succ,show ((ls[i]?).getD []) = ls[i] by rw [List.getElem?_eq_getElem hi']; rfl] at IH
   rw [impl_FindLines_p0_eq]
   simp only [hlt,decide_true,if_true,Int.natCast_nonneg,Int.toNat_natCast,List.getElem?_eq_getElem hi',Option.bind_some,hc,wsucc (show i < 4611686018427387904 by omega),List.take_length,hlim]
   cases hq : Lib.contains ls[i] w
   ·rw [hq] at IH
    simp only [Bool.false_eq_true,if_false,List.append_nil] at IH ⊢
    exact IH
   ·rw [hq] at IH
    simp only [if_true] at IH ⊢
    exact IH
theorem valid_ok {ls : List (List UInt8)} (h : LinesOk ls) : impl_ValidReport ls = some (reportOk ls) := impl_ValidReport_ok ls (by have := h.1; omega) fun x hx => by have := h.2 x hx; omega
theorem find_ok {w : List UInt8} {ls : List (List UInt8)} (h : LinesOk ls) : (∃ c : Int,impl_FindLines ls w = some ([],c) ∧ (c == 0) = false) ∨ impl_FindLines ls w = some (fndP w ls ls.length,0) := by
 rw [impl_FindLines_eq,valid_ok h,Option.bind_some]
 cases reportOk ls
 ·exact .inl ⟨1,by rw [if_pos (by decide)],rfl⟩
 ·rw [if_neg (by decide)]
  by_cases c : w = []
  ·exact .inl ⟨2,by rw [if_pos (by rw [c]; rfl)],rfl⟩
  ·rw [if_neg (by rw [beq_iff_eq]; exact c)]
   exact .inr (find_loop h ls.length 0 (by omega))
theorem fnd_mem {w : List UInt8} {ls : List (List UInt8)} {n : Nat} {x : Int} : x ∈ fndP w ls n ↔ ∃ i : Nat,i < n ∧ Lib.contains ((ls[i]?).getD []) w = true ∧ x = (i : Int) := by
 rw [fndP,List.mem_map]
 constructor
 ·rintro ⟨i,hi,rfl⟩
  obtain ⟨h1,h2⟩ := List.mem_filter.1 hi
  exact ⟨i,List.mem_range.1 h1,h2,rfl⟩
 ·rintro ⟨i,h1,h2,rfl⟩
  exact ⟨i,List.mem_filter.2 ⟨List.mem_range.2 h1,h2⟩,rfl⟩
theorem fnd_up (w : List UInt8) (ls : List (List UInt8)) (n : Nat) : (fndP w ls n).Pairwise (· < ·) := by
 rw [fndP,List.pairwise_map]
 exact (List.pairwise_lt_range.sublist List.filter_sublist).imp fun h => by omega
theorem p4_loop {a : List Int} {w : List UInt8} {ls : List (List UInt8)} (h : LinesOk ls) (h5 : laws_FnPages_p5 a = some true) : ∀ (k i : Nat),i + k = ls.length → laws_FnPages_p4 a w i ls (fndP w ls ls.length) = some true
 | 0,i,hi => by
   have hlt : ¬ (i : Int) < (ls.length : Int) := by omega
   rw [laws_FnPages_p4_eq,if_neg (by simp only [hlt,decide_false,Bool.false_eq_true,not_false_eq_true])]
   exact h5
 | k + 1,i,hi => by
   have hi' : i < ls.length := by omega
   have hlt : (i : Int) < (ls.length : Int) := by omega
   have hl := h.1
   have hfl := fndP_len w ls ls.length
   have IH := p4_loop (w := w) h h5 k (i + 1) (by omega)
   rw [laws_FnPages_p4_eq]
   simp only [hlt,decide_true,if_true,Int.natCast_nonneg,Bool.and_self,Int.toNat_natCast,List.getElem?_eq_getElem hi',Option.bind_some,wsucc (show i < 4611686018427387904 by omega),List.take_length]
   by_cases c : ls[i] = w
   ·have hm : (i : Int) ∈ fndP w ls ls.length := fnd_mem.2 ⟨i,hi',by rw [List.getElem?_eq_getElem hi',Option.getD_some,c]; exact has_self w,rfl⟩
    rw [if_pos (beq_iff_eq.2 c),laws_b10Has_ok _ _ (by omega),Option.bind_some,decide_eq_true hm]
    exact IH
   ·rw [if_neg (by rw [beq_iff_eq]; exact c)]
    exact IH
theorem barN_mono {M w a b : Int} (hw : 1 ≤ w) (h : a ≤ b) : barN M w a ≤ barN M w b := by
 unfold barN
 have h1 : a * w ≤ b * w := Int.mul_le_mul_of_nonneg_right h (by omega)
 have h2 : a * w / (if M > 1 then M else 1) ≤ b * w / (if M > 1 then M else 1) := Int.ediv_le_ediv (by split <;> omega) h1
 omega
theorem p8_loop {w M : Int} {vs : List Int} (hl : vs.length ≤ 1000) (hw : 1 ≤ w ∧ w ≤ 100) (hM : M ≤ 1000000000000) (hv : ∀ v,v ∈ vs → 0 ≤ v ∧ v ≤ M) {i : Nat} (hi : i < vs.length) : ∀ (k j : Nat),j + k = vs.length →
 laws_FnPages_p8 w i j vs (vs.map (barOf M w)) = laws_FnPages_p7 w ((i + 1 : Nat) : Int) vs (vs.map (barOf M w))
 | 0,j,hj => by
   have hlt : ¬ (j : Int) < (vs.length : Int) := by omega
   have hm : (i : Int) < ((vs.map (barOf M w)).length : Int) := by rw [List.length_map]; omega
   have hg : (vs.map (barOf M w))[i]? = some (barOf M w vs[i]) := by rw [List.getElem?_map,List.getElem?_eq_getElem hi]; rfl
   have hb := bar_bd hM hw (hv _ (List.getElem_mem hi))
   have hn : ¬ ((barOf M w vs[i]).length : Int) > w := by
    rw [barOf,List.length_replicate,barN]
    have h1 := (bar_bd hM hw (hv _ (List.getElem_mem hi))).2.1
    have h2 : vs[i] * w / (if M > 1 then M else 1) ≤ w := by
     have hvi := hv _ (List.getElem_mem hi)
     apply Int.ediv_le_of_le_mul (by split <;> omega)
     by_cases h : M > 1
     ·rw [if_pos h,Int.mul_comm]; exact Int.mul_le_mul_of_nonneg_left hvi.2 (by omega)
     ·rw [if_neg h]
      have := Int.mul_le_mul_of_nonneg_right (show vs[i] ≤ 1 by omega) (show 0 ≤ w by omega)
      omega
    omega
   rw [laws_FnPages_p8_eq,if_neg (by simp only [hlt,decide_false,Bool.false_eq_true,not_false_eq_true])]
   simp only [Int.natCast_nonneg,hm,decide_true,Bool.and_self,if_true,Int.toNat_natCast,hg,Option.bind_some,hn,decide_false,Bool.false_eq_true,if_false,wsucc (show i < 4611686018427387904 by omega)]
 | k + 1,j,hj => by
   have hj' : j < vs.length := by omega
   have hlt : (j : Int) < (vs.length : Int) := by omega
   have hlti : (i : Int) < (vs.length : Int) := by omega
   have hm : (i : Int) < ((vs.map (barOf M w)).length : Int) := by rw [List.length_map]; omega
   have hmj : (j : Int) < ((vs.map (barOf M w)).length : Int) := by rw [List.length_map]; omega
   have hg : (vs.map (barOf M w))[i]? = some (barOf M w vs[i]) := by rw [List.getElem?_map,List.getElem?_eq_getElem hi]; rfl
   have hgj : (vs.map (barOf M w))[j]? = some (barOf M w vs[j]) := by rw [List.getElem?_map,List.getElem?_eq_getElem hj']; rfl
   have IH := p8_loop hl hw hM hv hi k (j + 1) (by omega)
   rw [laws_FnPages_p8_eq]
   simp only [hlt,hlti,decide_true,if_true,Int.natCast_nonneg,Bool.and_self,Int.toNat_natCast,List.getElem?_eq_getElem hi,List.getElem?_eq_getElem hj',Option.bind_some,wsucc (show j < 4611686018427387904 by omega)]
   by_cases c : vs[i] ≤ vs[j]
   ·have hn : ¬ ((barOf M w vs[i]).length : Int) > ((barOf M w vs[j]).length : Int) := by
     rw [barOf,barOf,List.length_replicate,List.length_replicate]
     have := barN_mono (M := M) hw.1 c
     omega
    simp only [c,decide_true,if_true,hm,hmj,Bool.and_self,hg,hgj,Option.bind_some,hn,decide_false,Bool.false_eq_true,if_false]
    exact IH
   ·simp only [c,decide_false,Bool.false_eq_true,if_false]
    exact IH
theorem p7_loop {w M : Int} {vs : List Int} (hl : vs.length ≤ 1000) (hw : 1 ≤ w ∧ w ≤ 100) (hM : M ≤ 1000000000000) (hv : ∀ v,v ∈ vs → 0 ≤ v ∧ v ≤ M) : ∀ (k i : Nat),i + k = vs.length → laws_FnPages_p7 w i vs (vs.map (barOf M w)) = some true
 | 0,i,hi => by
   have hlt : ¬ (i : Int) < (vs.length : Int) := by omega
   rw [laws_FnPages_p7_eq,if_neg (by simp only [hlt,decide_false,Bool.false_eq_true,not_false_eq_true])]
 | k + 1,i,hi => by
   have hi' : i < vs.length := by omega
   have hlt : (i : Int) < (vs.length : Int) := by omega
   have h8 := p8_loop hl hw hM hv hi' vs.length 0 (by omega)
   have h8' : laws_FnPages_p8 w i 0 vs (vs.map (barOf M w)) = laws_FnPages_p7 w ((i + 1 : Nat) : Int) vs (vs.map (barOf M w)) := h8
   rw [laws_FnPages_p7_eq,if_pos (decide_eq_true hlt),h8']
   exact p7_loop hl hw hM hv k (i + 1) (by omega)
theorem p5_ok {a : List Int} (h1 : ∀ x,x ∈ a → 0 ≤ x ∧ x ≤ 255) (h2 : a.length ≤ 1048576) : laws_FnPages_p5 a = some true := by
 obtain ⟨vs,w,e,hl⟩ := dBar_ok h1 h2
 rw [laws_FnPages_p5_eq,e,Option.bind_some,List.take_length,impl_BarLines_eq,impl_within_ok]
 have s2 := impl_most vs w (by omega) vs.length 0 0 (by omega)
 simp only [Int.ofNat_zero,Int.natCast_zero,List.drop_zero] at s2
 have z2 : ((2 : Int) != 0) = true := rfl
 have z5 : ((5 : Int) != 0) = true := rfl
 have z0 : ((0 : Int) != 0) = false := rfl
 cases hw : inR w 1 100
 ·rfl
 have hb0 : (!true) = false := rfl
 rw [Option.bind_some,if_neg (by decide),s2]
 cases hv : vs.all fun v => inR v 0 1000000000000
 ·rfl
 have hw' := inR_iff'.1 hw
 have hv' : ∀ v,v ∈ vs → 0 ≤ v ∧ v ≤ 1000000000000 := fun v h => inR_iff'.1 (List.all_eq_true.1 hv v h)
 obtain ⟨m1,m2⟩ := mostOf_ok vs 0 (by omega) (by omega) hv'
 have hvm : ∀ v,v ∈ vs → 0 ≤ v ∧ v ≤ mostOf 0 vs := fun v h => ⟨(hv' v h).1,m2 v h⟩
 have t2 := impl_bars vs w (mostOf 0 vs) (by omega) m1 hw' hvm vs.length 0 [] (by omega) rfl
 simp only [Int.ofNat_zero,Int.natCast_zero,List.drop_zero,List.nil_append] at t2
 have hb : ∀ x,x ∈ vs.map (barOf (mostOf 0 vs) w) → x.length ≤ 1048576 := by
  intro x hx
  obtain ⟨v,h1,rfl⟩ := List.mem_map.1 hx
  have := bar_bd m1.2 hw' (hvm v h1)
  rw [barOf,List.length_replicate,barN]; omega
 have hll : (vs.map (barOf (mostOf 0 vs) w)).length ≤ 1048576 := by rw [List.length_map]; omega
 rw [if_pos rfl,t2,impl_report_ok _ hll hb,Option.bind_some]
 cases hr : reportOk (vs.map (barOf (mostOf 0 vs) w))
 ·rfl
 ·have h7 := p7_loop hl hw' m1.2 hvm vs.length 0 (by omega)
  have h7' : laws_FnPages_p7 w 0 vs (vs.map (barOf (mostOf 0 vs) w)) = some true := h7
  simp only [if_true,Option.bind_some,z0,Bool.false_eq_true,if_false,List.length_map,bne_self_eq_false,List.take_length]
  exact h7'
theorem p2_ok {a b : List Int} (ha : ∀ x,x ∈ a → 0 ≤ x ∧ x ≤ 255) (hal : a.length ≤ 1048576) (hb : ∀ x,x ∈ b → 0 ≤ x ∧ x ≤ 255) (hbl : b.length ≤ 1048576) : laws_FnPages_p2 a b = some true := by
 obtain ⟨ls,w,e,hl⟩ := dFind_ok hb hbl
 have h5 := p5_ok ha hal
 have hll := hl.1
 rw [laws_FnPages_p2_eq,e,Option.bind_some,List.take_length]
 rcases find_ok (w := w) hl with ⟨c,e2,hc⟩ | e2
 ·rw [e2,Option.bind_some,if_neg (by rw [hc]; decide)]
  exact h5
 ·have hfl := fndP_len w ls ls.length
  rw [e2,Option.bind_some,if_pos (by rfl),List.take_length,laws_b10Rises_ok _ _ (by omega) (fun x hx => by
   obtain ⟨i,h1,_,rfl⟩ := fnd_mem.1 hx
   exact ⟨Int.natCast_nonneg _,by show (i : Int) < (ls.length : Int); omega⟩) (fnd_up w ls _),Option.bind_some,if_neg (by decide)]
  exact p4_loop hl h5 ls.length 0 (by omega)
def rowP (hd : List UInt8) (xs : List (List UInt8)) (m i : Nat) : List (List UInt8) := pgRow hd xs m i
theorem row_len {hd : List UInt8} {xs : List (List UInt8)} {m i : Nat} : (pgRow hd xs m i).length = 1 + min m (xs.length - i * m) := by
 rw [pgRow,List.length_cons,List.length_take,List.length_drop]; omega
theorem row_at {hd : List UInt8} {xs : List (List UInt8)} {m i k : Nat} (hk : k < min m (xs.length - i * m)) (hx : i * m + k < xs.length) : (pgRow hd xs m i)[k + 1]? = some xs[i * m + k] := by
 rw [pgRow,List.getElem?_cons_succ,List.getElem?_take,if_pos (by omega),List.getElem?_drop,List.getElem?_eq_getElem hx]
theorem p6_loop {a b : List Int} {hd : List UInt8} {xs : List (List UInt8)} {m r i : Nat} (hl : xs.length ≤ 1000) (hm : m ≤ 1000) (hi : i < r) (h : Int) : ∀ (n k : Nat),k + n = min m (xs.length - i * m) →
 laws_FnPages_p6 a b xs h hd ((List.range r).map (pgRow hd xs m)) ((i * m + k : Nat) : Int) (i : Int) ((k + 1 : Nat) : Int) = laws_FnPages_p1 a b xs h hd ((List.range r).map (pgRow hd xs m)) ((i * m + min m (xs.length - i * m) : Nat) : Int) (IntKind.i64.wrap ((i : Int) + 1))
 | n,k,hk => by
   have hg : ((List.range r).map (pgRow hd xs m))[i]? = some (pgRow hd xs m i) := by
    rw [List.getElem?_map,List.getElem?_range hi]; rfl
   rw [laws_FnPages_p6_eq]
   simp only [Int.natCast_nonneg,decide_true,if_true,Int.toNat_natCast,hg,Option.bind_some]
   cases n with
   | zero =>
     have hlt : ¬ ((k + 1 : Nat) : Int) < ((pgRow hd xs m i).length : Int) := by rw [row_len]; omega
     have hk' : k = min m (xs.length - i * m) := by omega
     rw [if_neg (by simp only [hlt,decide_false,Bool.false_eq_true,not_false_eq_true]),hk']
   | succ n =>
     have hlt : ((k + 1 : Nat) : Int) < ((pgRow hd xs m i).length : Int) := by rw [row_len]; omega
     have hx : i * m + k < xs.length := by omega
     have hge : ¬ ((i * m + k : Nat) : Int) ≥ (xs.length : Int) := by omega
     have w1 := wsucc (show i * m + k < 4611686018427387904 by omega)
     have w2 := wsucc (show k + 1 < 4611686018427387904 by omega)
     rw [if_pos (decide_eq_true hlt)]
     simp only [hge,decide_false,Bool.false_eq_true,if_false,row_at (hd := hd) (xs := xs) (m := m) (i := i) (k := k) (by omega) hx,List.getElem?_eq_getElem hx,Option.bind_some,w1,w2]
     rw [if_neg (by simp)]
     exact p6_loop hl hm hi h n (k + 1) (by omega)
 termination_by n => n
theorem p1_loop {a b : List Int} {hd : List UInt8} {xs : List (List UInt8)} {m : Nat} (hl : xs.length ≤ 1000) (hm1 : 1 ≤ m) (hm : m ≤ 1000) (h2 : laws_FnPages_p2 a b = some true) : ∀ (k i : Nat),i + k = pgR xs.length m →
 laws_FnPages_p1 a b xs ((m : Int) + 1) hd ((List.range (pgR xs.length m)).map (pgRow hd xs m)) ((min (i * m) xs.length : Nat) : Int) (i : Int) = some true
 | 0,i,hi => by
   have hlt : ¬ (i : Int) < (((List.range (pgR xs.length m)).map (pgRow hd xs m)).length : Int) := by rw [List.length_map,List.length_range]; omega
   have hr := (pgR_ok (len := xs.length) hm1).2
   obtain rfl : i = pgR xs.length m := by omega
   have he : ((min (pgR xs.length m * m) xs.length : Nat) : Int) = (xs.length : Int) := by omega
   rw [laws_FnPages_p1_eq,if_neg (by simp only [hlt,decide_false,Bool.false_eq_true,not_false_eq_true]),he,if_neg (by simp)]
   exact h2
 | k + 1,i,hi => by
   have hir : i < pgR xs.length m := by omega
   have hr := pgR_ok (len := xs.length) hm1
   have hrl := pgR_le (len := xs.length) hm1
   have hlt : (i : Int) < (((List.range (pgR xs.length m)).map (pgRow hd xs m)).length : Int) := by rw [List.length_map,List.length_range]; omega
   have hmul : (i + 1) * m ≤ pgR xs.length m * m := Nat.mul_le_mul_right _ (by omega)
   have hs1 : (i + 1) * m = i * m + m := Nat.succ_mul _ _
   have him : i * m < xs.length := by omega
   have hg : ((List.range (pgR xs.length m)).map (pgRow hd xs m))[i]? = some (pgRow hd xs m i) := by
    rw [List.getElem?_map,List.getElem?_range hir]; rfl
   have n1 : ¬ ((pgRow hd xs m i).length : Int) < 2 := by rw [row_len]; omega
   have n2 : ¬ ((pgRow hd xs m i).length : Int) > (m : Int) + 1 := by rw [row_len]; omega
   have hw := wsucc (show i < 4611686018427387904 by omega)
   have h0 : (pgRow hd xs m i)[0]? = some hd := rfl
   have IH := p1_loop (a := a) (b := b) (hd := hd) hl hm1 hm h2 k (i + 1) (by omega)
   have h3 : laws_FnPages_p3 a b xs ((m : Int) + 1) hd ((List.range (pgR xs.length m)).map (pgRow hd xs m)) ((min (i * m) xs.length : Nat) : Int) (i : Int) = some true := by
    have h6 := p6_loop (a := a) (b := b) (hd := hd) hl hm hir ((m : Int) + 1) (min m (xs.length - i * m)) 0 (by omega)
    have e1 : ((min (i * m) xs.length : Nat) : Int) = ((i * m + 0 : Nat) : Int) := by omega
    have e2 : ((i * m + min m (xs.length - i * m) : Nat) : Int) = ((min ((i + 1) * m) xs.length : Nat) : Int) := by omega
    rw [laws_FnPages_p3_eq,e1]
    rw [e2,hw] at h6
    exact h6.trans IH
   rw [laws_FnPages_p1_eq]
   simp only [hlt,decide_true,if_true,Int.natCast_nonneg,Int.toNat_natCast,hg,h0,Option.bind_some,n1,n2,decide_false,Bool.false_eq_true,if_false,beq_self_eq_true,Bool.not_true,hw]
   by_cases c : ((i + 1 : Nat) : Int) < (((List.range (pgR xs.length m)).map (pgRow hd xs m)).length : Int)
   ·have c' : i + 1 < pgR xs.length m := by rw [List.length_map,List.length_range] at c; omega
    have hmul2 : (i + 2) * m ≤ pgR xs.length m * m := Nat.mul_le_mul_right _ (by omega)
    have hs2 : (i + 2) * m = i * m + m + m := by rw [show i + 2 = (i + 1) + 1 from rfl,Nat.succ_mul,Nat.succ_mul]
    have he : (((pgRow hd xs m i).length : Int) != (m : Int) + 1) = false := by
     rw [row_len]
     exact bne_eq_false_iff_eq.2 (by omega)
    simp only [c,decide_true,if_true,he,Bool.false_eq_true,if_false]
    exact h3
   ·simp only [c,decide_false,Bool.false_eq_true,if_false]
    exact h3
theorem laws_FnPages_true (a0 a1 : List Int) (h0 : ET.wf (.one (.sl (.one (.int .u8)))) a0) (h1 : ET.wf (.one (.sl (.one (.int .u8)))) a1) : laws_FnPages a0 a1 = some true := by
 rw [laws_FnPages_eq,longS,longS,Option.bind_some]
 by_cases c0 : (a0.length : Int) > 1048576
 ·simp [c0]
 by_cases c1 : (a1.length : Int) > 1048576
 ·simp [c1]
 simp only [c0,c1,decide_false,Bool.false_eq_true,if_false,Option.bind_some]
 have h2 := p2_ok (bytes_ok h0) (by omega) (bytes_ok h1) (by omega)
 obtain ⟨ls,h,hd,e,hl,hh⟩ := dPages_ok (bytes_ok h0) (by omega)
 rw [laws_FnPages_p0_eq,e,Option.bind_some,List.take_length,impl_PagesOf_eq,pagesF,valid_ok hl,Option.bind_some,impl_within_ok,impl_isLine_ok hd (by omega)]
 cases reportOk ls
 ·exact h2
 ·rw [if_pos rfl,Option.bind_some]
  cases hw : inR h 2 200
  ·exact h2
  ·rw [if_pos rfl,Option.bind_some]
   cases lineOk hd
   ·exact h2
   ·have hw' := inR_iff'.1 hw
    have hll := hl.1
    rw [if_pos rfl,if_pos ⟨hw'.1,hw'.2,(show ls.length ≤ 1048576 by omega)⟩,Option.bind_some,if_pos (by rfl)]
    obtain ⟨m,hm⟩ : ∃ m : Nat,h = (m : Int) + 1 := ⟨(h - 1).toNat,by omega⟩
    subst hm
    have hmm : (((m : Int) + 1).toNat - 1) = m := by omega
    rw [hmm]
    have := p1_loop (a := a0) (b := a1) (hd := hd) hll (show 1 ≤ m by omega) (by omega) h2 (pgR ls.length m) 0 (by omega)
    rw [Nat.zero_mul,Nat.zero_min] at this
    exact this
end Go.Ab.P
