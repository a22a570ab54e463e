/- Plates get thinner, the least that is taken away, the weakest row, gaps and texts of plates. Conditions: bytes are bytes. -/
import Derived.Test.YtjbiabbimihagaaGreatDoorBFnPlates
set_option linter.unusedVariables false
set_option linter.unusedSectionVars false
set_option linter.unusedSimpArgs false
set_option maxRecDepth 4000
namespace Go.Ab.P
open Go.Ab
theorem plateOk_iff {xs : List (List Int)} (h : plateOk xs = true) : (1 ≤ xs.length ∧ xs.length ≤ 10) ∧ ∃ c,(1 ≤ c ∧ c ≤ 10) ∧ ∀ r,r ∈ xs → r.length = c ∧ ∀ x,x ∈ r → 1 ≤ x ∧ x ≤ 200 := by
 cases xs with
 | nil => cases h
 | cons r0 t =>
   simp only [plateOk,Bool.and_eq_true,decide_eq_true_eq,List.all_eq_true,thickRow,inR_iff'] at h
   obtain ⟨h1,h2,h3⟩ := h
   exact ⟨⟨by simp,h1⟩,r0.length,h2,fun r hr => ⟨(h3 r hr).1,fun x hx => (h3 r hr).2 x hx⟩⟩
theorem plateOk_of {xs : List (List Int)} {c : Nat} (h1 : 1 ≤ xs.length) (h2 : xs.length ≤ 10) (hc : 1 ≤ c ∧ c ≤ 10) (hx : ∀ r,r ∈ xs → r.length = c ∧ ∀ x,x ∈ r → 1 ≤ x ∧ x ≤ 200) : plateOk xs = true := by
 cases xs with
 | nil => simp at h1
 | cons r0 t =>
   have h0 := (hx r0 List.mem_cons_self).1
   simp only [plateOk,Bool.and_eq_true,decide_eq_true_eq,List.all_eq_true,thickRow,inR_iff']
   exact ⟨h2,by omega,fun r hr => ⟨by rw [(hx r hr).1,h0],(hx r hr).2⟩⟩
theorem thinI_bd {b le n : Int} (hb : 0 ≤ b ∧ b ≤ 200) (hl : 1 ≤ le ∧ le ≤ 200) (hn : 1 ≤ n ∧ n ≤ 200) : 1 ≤ thinI b le n ∧ thinI b le n ≤ n ∧ n - b ≤ thinI b le n := by
 unfold thinI; split
 ·omega
 ·split <;> omega
def thinP (b le : Int) (xs : List (List Int)) : List (List Int) := xs.map fun r => r.map (thinI b le)
theorem thinP_ok {b le : Int} {xs : List (List Int)} (hb : 0 ≤ b ∧ b ≤ 200) (hl : 1 ≤ le ∧ le ≤ 200) (h : plateOk xs = true) : plateOk (thinP b le xs) = true := by
 obtain ⟨h1,c,hc,hx⟩ := plateOk_iff h
 refine plateOk_of (c := c) (by simp [thinP]; omega) (by simp [thinP]; omega) hc fun r hr => ?_
 obtain ⟨r',hr',rfl⟩ := List.mem_map.1 hr
 refine ⟨by rw [List.length_map]; exact (hx r' hr').1,fun x hx' => ?_⟩
 obtain ⟨y,hy,rfl⟩ := List.mem_map.1 hx'
 have h2 := (hx r' hr').2 y hy
 have := thinI_bd hb hl h2
 omega
def Sz (xs : List (List Int)) : Prop := xs.length ≤ 1048576 ∧ ∀ x,x ∈ xs → x.length ≤ 1048576
theorem plate_sz {xs : List (List Int)} (h : plateOk xs = true) : Sz xs := by
 obtain ⟨h1,c,hc,hx⟩ := plateOk_iff h
 exact ⟨by omega,fun r hr => by rw [(hx r hr).1]; omega⟩
theorem mRow_ok : ∀ (n : Nat) (s : T_l00Src.ty) (c : Int) (acc : List Int),SrcOk s c → c + 2 * n ≤ 1000000000000000000 →
 ∃ s' row,mRow spec_l00Src_pick n s acc = some (s',row) ∧ SrcOk s' (c + 2 * n) ∧ row.length = acc.length + n
 | 0,s,c,acc,hs,hc => ⟨s,acc,rfl,hs.up (by omega),rfl⟩
 | n + 1,s,c,acc,hs,hc => by
   obtain ⟨u,s1,e1,k1,u0,u1⟩ := pick_ok hs (by omega) 20 (by omega)
   obtain ⟨s2,row,e2,k2,h2⟩ := mRow_ok n s1 (c + 2) (acc ++ [20 + u]) k1 (by omega)
   refine ⟨s2,row,?_,k2.up (by omega),by rw [h2]; simp; omega⟩
   show (spec_l00Src_pick s 20).bind _ = _
   rw [e1,Option.bind_some,if_pos ⟨u0,by show u ≤ 1000; omega⟩]
   exact e2
theorem mRows_ok (m : Nat) (hm : m ≤ 100) : ∀ (n : Nat) (s : T_l00Src.ty) (c : Int) (out : List (List Int)),SrcOk s c → c + 200 * n ≤ 1000000000000000000 → (∀ r,r ∈ out → r.length = m) →
 ∃ s' rows,mRows spec_l00Src_pick m n s out = some (s',rows) ∧ SrcOk s' (c + 200 * n) ∧ rows.length = out.length + n ∧ ∀ r,r ∈ rows → r.length = m
 | 0,s,c,out,hs,hc,ho => ⟨s,out,rfl,hs.up (by omega),rfl,ho⟩
 | n + 1,s,c,out,hs,hc,ho => by
   obtain ⟨s1,row,e1,k1,h1⟩ := mRow_ok m s c [] hs (by omega)
   obtain ⟨s2,rows,e2,k2,h2,h3⟩ := mRows_ok m hm n s1 (c + 200) (out ++ [row]) (k1.up (by omega)) (by omega) (fun r hr => by
    rcases List.mem_append.1 hr with hr | hr
    ·exact ho r hr
    ·rw [List.mem_singleton] at hr; subst hr; rw [h1]; simp)
   refine ⟨s2,rows,?_,k2.up (by omega),by rw [h2]; simp; omega,h3⟩
   show (mRow spec_l00Src_pick m s []).bind _ = _
   rw [e1,Option.bind_some]
   exact e2
theorem mOk_ok {s : T_l00Src.ty} {c : Int} (hs : SrcOk s c) (hc : c ≤ 100000000000000000) :
 ∃ s' rows m,mOkF spec_l00Src_pick s = some (s',rows) ∧ SrcOk s' (c + 2000) ∧ (1 ≤ rows.length ∧ rows.length ≤ 5) ∧ (1 ≤ m ∧ m ≤ 5) ∧ ∀ r,r ∈ rows → r.length = m := by
 obtain ⟨a,s1,e1,k1,a0,a1⟩ := pick_ok hs (by omega) 5 (by omega)
 obtain ⟨b,s2,e2,k2,b0,b1⟩ := pick_ok k1 (by omega) 5 (by omega)
 obtain ⟨s3,rows,e3,k3,h3,h4⟩ := mRows_ok (b.toNat + 1) (by omega) (a.toNat + 1) s2 _ [] k2 (by omega) (fun r hr => by cases hr)
 refine ⟨s3,rows,b.toNat + 1,?_,k3.up (by omega),by simp at h3; omega,by omega,h4⟩
 unfold mOkF
 rw [e1,Option.bind_some,if_pos ⟨a0,by show a ≤ 1000; omega⟩]
 show (spec_l00Src_pick s1 5).bind _ = _
 rw [e2,Option.bind_some,if_pos ⟨b0,by show b ≤ 1000; omega⟩]
 exact e3
theorem spec_l08Draw_ok {s : T_l00Src.ty} {c : Int} (hs : SrcOk s c) (hc : c ≤ 100000000000000000) : ∃ xs s',spec_l08Draw s = some (xs,s') ∧ SrcOk s' (c + 3000) ∧ Sz xs := by
 obtain ⟨s1,rows,m,e1,k1,h1,hm,h2⟩ := mOk_ok hs hc
 obtain ⟨d,s2,e2,k2,d0,d1⟩ := pick_ok k1 (by omega) 20 (by omega)
 rw [spec_l08Draw_eq]
 unfold mDrawF
 rw [e1,Option.bind_some,if_pos (by show rows.length ≤ 1001; omega)]
 show ∃ xs s',Option.map _ ((spec_l00Src_pick s1 20).bind _) = _ ∧ _
 rw [e2,Option.bind_some]
 show ∃ xs s',Option.map _ (if d = 0 then _ else _) = _ ∧ _
 have hsz : Sz rows := ⟨by omega,fun r hr => by rw [h2 r hr]; omega⟩
 by_cases h0 : d = 0
 ·rw [if_pos h0]
  match rows,h1,h2,hsz with
  | [],h1,_,_ => simp at h1
  | [] :: rt,_,h2,_ => have := h2 [] List.mem_cons_self; simp at this; omega
  | (y :: ys) :: rt,h1,h2,hsz =>
    obtain ⟨q,s3,e3,k3,_⟩ := among_ok k2 (by omega) [0,1,200,201] (by simp) (by simp)
    refine ⟨(q :: ys) :: rt,s3,?_,k3.up (by omega),hsz.1,fun r hr => ?_⟩
    ·show Option.map _ ((spec_l00Src_among s2 [0,1,200,201]).bind _) = _
     rw [e3]; rfl
    ·rcases List.mem_cons.1 hr with rfl | hr
     ·exact hsz.2 (y :: ys) List.mem_cons_self
     ·exact hsz.2 r (List.mem_cons_of_mem _ hr)
 ·rw [if_neg h0]
  by_cases h1' : d = 1
  ·rw [if_pos h1']
   refine ⟨rows ++ [[5]],s2,rfl,k2.up (by omega),by simp; omega,fun r hr => ?_⟩
   rcases List.mem_append.1 hr with hr | hr
   ·exact hsz.2 r hr
   ·rw [List.mem_singleton] at hr; subst hr; simp
  ·rw [if_neg h1']
   by_cases h2' : d = 2
   ·rw [if_pos h2']
    obtain ⟨q,s3,e3,k3,hq⟩ := among_ok k2 (by omega) [0,10,11] (by simp) (by simp)
    have hqb : 0 ≤ q ∧ q ≤ 1000 := by simp at hq; omega
    refine ⟨List.replicate q.toNat [3,4],s3,?_,k3.up (by omega),by rw [List.length_replicate]; omega,fun r hr => ?_⟩
    ·show Option.map _ ((spec_l00Src_among s2 [0,10,11]).bind _) = _
     rw [e3,Option.bind_some,if_pos hqb]; rfl
    ·rw [(List.mem_replicate.1 hr).2]; simp
   ·rw [if_neg h2']
    exact ⟨rows,s2,rfl,k2.up (by omega),hsz⟩
theorem spec_l08DrawLeast_ok {s : T_l00Src.ty} {c : Int} (hs : SrcOk s c) (hc : c ≤ 1000000000000000000) : ∃ u s',spec_l08DrawLeast s = some (u,s') ∧ SrcOk s' (c + 2) := by
 obtain ⟨u,s',e,k,_⟩ := among_ok hs hc [0,1,20,24,30,200,201,25] (by simp) (by simp)
 rw [spec_l08DrawLeast_eq]
 simp only [e,Option.bind_some,src_eta]
 exact ⟨_,_,rfl,k⟩
theorem spec_DrawThinTo_p1_ok (xs : List (List Int)) (a b m : Int) {s : T_l00Src.ty} {c : Int} (hs : SrcOk s c) (hc : c ≤ 1000000000000000000) : ∃ le,spec_DrawThinTo_p1 xs a b m s.1 s.2.1 s.2.2.1 = some (xs,a,b,m,le) := by
 obtain ⟨u,s',e,_⟩ := spec_l08DrawLeast_ok hs hc
 rw [spec_DrawThinTo_p1_eq,src_eta,e]
 exact ⟨_,rfl⟩
theorem spec_DrawThinTo_p0_ok (xs : List (List Int)) (a b : Int) (hx : Sz xs) {s : T_l00Src.ty} {c : Int} (hs : SrcOk s c) (hc : c ≤ 100000000000000000) :
 ∀ (k i : Nat) (m : Int),i + k = xs.length → ∃ m' le,spec_DrawThinTo_p0 xs a b m i s.1 s.2.1 s.2.2.1 = some (xs,a,b,m',le)
 | 0,i,m,hk => by
   have hi : ¬ (i : Int) < (xs.length : Int) := by omega
   obtain ⟨u,s1,e1,k1,_⟩ := pick_ok hs (by omega) 40 (by omega)
   obtain ⟨v,s2,e2,k2⟩ := one_ok k1 (by omega) 9 (by omega)
   rw [spec_DrawThinTo_p0_eq]
   simp only [hi,decide_false,Bool.false_eq_true,if_false,src_eta,e1,Option.bind_some,e2]
   split
   ·obtain ⟨w,s3,e3,k3,_⟩ := among_ok k2 (by omega) [-1,0,1000000000,1000000001] (by simp) (by simp)
    simp only [e3,Option.bind_some]
    obtain ⟨le,e4⟩ := spec_DrawThinTo_p1_ok xs a b w k3 (by omega)
    exact ⟨_,_,e4⟩
   ·obtain ⟨le,e4⟩ := spec_DrawThinTo_p1_ok xs a b (IntKind.i64.wrap ((IntKind.i64.wrap (m * (IntKind.i64.wrap (1 + u)))).tdiv 4)) k2 (by omega)
    exact ⟨_,_,e4⟩
 | k + 1,i,m,hk => by
   have hi : (i : Int) < (xs.length : Int) := by omega
   have hl : i < xs.length := by omega
   have h0 : (0 : Int) ≤ (i : Int) := by omega
   have := hx.1
   rw [spec_DrawThinTo_p0_eq]
   simp only [hi,h0,decide_true,if_true,Int.toNat_natCast,List.getElem?_eq_getElem hl,Option.bind_some]
   rw [wsucc (by omega)]
   exact spec_DrawThinTo_p0_ok xs a b hx hs hc k (i + 1) _ (by omega)
theorem spec_DrawThinTo_ok (code : List Int) (h1 : ∀ x,x ∈ code → 0 ≤ x ∧ x ≤ 255) (h2 : code.length ≤ 1048576) : ∃ xs a b m le,spec_DrawThinTo code = some (xs,a,b,m,le) ∧ Sz xs := by
 obtain ⟨s,e0,k0⟩ := from_ok code h1 h2
 obtain ⟨xs,s1,e1,k1,hx⟩ := spec_l08Draw_ok k0 (by omega)
 obtain ⟨a,s2,e2,k2,_⟩ := among_ok k1 (by omega) [100,400,100,10001] (by simp) (by simp)
 obtain ⟨b,s3,e3,k3,_⟩ := among_ok k2 (by omega) [380,420,600,0] (by simp) (by simp)
 obtain ⟨m,le,e4⟩ := spec_DrawThinTo_p0_ok xs a b hx k3 (by omega) xs.length 0 0 (by omega)
 refine ⟨xs,a,b,m,le,?_,hx⟩
 rw [spec_DrawThinTo_eq,e0,Option.bind_some,e1]
 simp only [Option.bind_some,src_eta,e2,e3]
 exact e4
theorem spec_DrawWeakestRow_ok (code : List Int) (h1 : ∀ x,x ∈ code → 0 ≤ x ∧ x ≤ 255) (h2 : code.length ≤ 1048576) : ∃ xs,spec_DrawWeakestRow code = some xs ∧ Sz xs := by
 obtain ⟨s,e0,k0⟩ := from_ok code h1 h2
 obtain ⟨xs,s1,e1,k1,hx⟩ := spec_l08Draw_ok k0 (by omega)
 refine ⟨xs,?_,hx⟩
 rw [spec_DrawWeakestRow_eq,e0,Option.bind_some,e1]
 rfl
theorem impl_thinner_ok {n b le : Int} (hb : 0 ≤ b ∧ b ≤ 200) (hl : 1 ≤ le ∧ le ≤ 200) (hn : 1 ≤ n ∧ n ≤ 200) : impl_thinner n b le = some (thinI b le n) := by
 rw [impl_thinner_eq,w64 (n := n - b) (by omega) (by omega),thinI]
 congr 1
 split <;> split <;> split <;> omega
def pl3 (i k : Nat) : T_Point.ty := ((i : Int),(k : Int),())
theorem place_ok (xs : List (List Int)) (i k : Nat) (hi : i < xs.length) (hk : k < xs[i].length) : impl_place_of (pl3 i k) xs = some (xs[i][k]) := by
 rw [impl_place_of_eq]
 have h1 : (0 : Int) ≤ (pl3 i k).1 := Int.natCast_nonneg _
 have h2 : (0 : Int) ≤ (pl3 i k).2.1 := Int.natCast_nonneg _
 have h3 : (pl3 i k).1.toNat = i := Int.toNat_natCast _
 have h4 : (pl3 i k).2.1.toNat = k := Int.toNat_natCast _
 simp only [h1,h2,decide_true,if_true,h3,h4,List.getElem?_eq_getElem hi,Option.bind_some,List.getElem?_eq_getElem hk]
theorem takeMap {α β : Type} (f : α → β) {l : List α} {k : Nat} (hk : k < l.length) : (l.take k).map f ++ [f l[k]] = (l.take (k + 1)).map f := by
 rw [List.take_add_one,List.getElem?_eq_getElem hk,List.map_append]; rfl
theorem takeAll {α : Type} (l : List α) : l.take l.length = l := List.take_length
theorem plate_cell {xs : List (List Int)} (h : plateOk xs = true) {i k : Nat} (hi : i < xs.length) (hk : k < xs[i].length) : 1 ≤ xs[i][k] ∧ xs[i][k] ≤ 200 := by
 obtain ⟨_,c,hc,hx⟩ := plateOk_iff h
 exact (hx xs[i] (List.getElem_mem hi)).2 _ (List.getElem_mem hk)
theorem plate_lens {xs : List (List Int)} (h : plateOk xs = true) {i : Nat} (hi : i < xs.length) : 1 ≤ xs[i].length ∧ xs[i].length ≤ 10 := by
 obtain ⟨_,c,hc,hx⟩ := plateOk_iff h
 rw [(hx xs[i] (List.getElem_mem hi)).1]; exact hc
theorem plate_len {xs : List (List Int)} (h : plateOk xs = true) : 1 ≤ xs.length ∧ xs.length ≤ 10 := (plateOk_iff h).1
section
variable (xs : List (List Int)) (h : plateOk xs = true) (b le : Int) (hb : 0 ≤ b ∧ b ≤ 200) (hl : 1 ≤ le ∧ le ≤ 200)
include h hb hl
theorem thin1_ok (i k : Nat) (hi : i < xs.length) (hk : k < xs[i].length) : impl_thinned_1 ((i : Int),(k : Int),()) xs b le = some (thinI b le xs[i][k]) := by
 rw [impl_thinned_1_eq]
 have := place_ok xs i k hi hk
 unfold pl3 at this
 rw [this,Option.bind_some,impl_thinner_ok hb hl (plate_cell h hi hk),Option.bind_some]
theorem mapT_p1_ok (i : Nat) (hi : i < xs.length) (r5 : List (List Int)) (hr5 : r5.length ≤ 100) : ∀ (n k : Nat),k + n = xs[i].length →
 impl_mapped_impl_thinned_1_p1 xs b le i xs xs.length i xs[i].length k r5 ((xs[i].take k).map (thinI b le)) = impl_mapped_impl_thinned_1_p0 xs b le xs xs.length ((i + 1 : Nat) : Int) (r5 ++ [xs[i].map (thinI b le)])
 | 0,k,hk => by
   have hk' : ¬ (k : Int) < (xs[i].length : Int) := by omega
   have hl1 := plate_len h
   have hk2 : k = xs[i].length := by omega
   rw [impl_mapped_impl_thinned_1_p1_eq]
   have hlim : r5.length + 1 < lim := by unfold lim; omega
   simp only [hk',hlim,decide_false,Bool.false_eq_true,if_false,takeAll,decide_true,if_true]
   rw [wsucc (by omega),hk2,takeAll]
 | n + 1,k,hk => by
   have hk' : (k : Int) < (xs[i].length : Int) := by omega
   have hkl : k < xs[i].length := by omega
   have hrl := plate_lens h hi
   have hlim : ((xs[i].take k).map (thinI b le)).length + 1 < lim := by rw [List.length_map,List.length_take]; unfold lim; omega
   rw [impl_mapped_impl_thinned_1_p1_eq]
   simp only [hk',hlim,decide_true,if_true,thin1_ok xs h b le hb hl i k hi hkl,Option.bind_some,takeAll]
   rw [wsucc (by omega),takeMap _ hkl]
   exact mapT_p1_ok i hi r5 hr5 n (k + 1) (by omega)
theorem mapT_p0_ok : ∀ (n i : Nat),i + n = xs.length →
 impl_mapped_impl_thinned_1_p0 xs b le xs xs.length i (thinP b le (xs.take i)) = some (thinP b le xs)
 | 0,i,hi => by
   have hi' : ¬ (i : Int) < (xs.length : Int) := by omega
   have hi2 : i = xs.length := by omega
   rw [impl_mapped_impl_thinned_1_p0_eq]
   simp only [hi',decide_false,Bool.false_eq_true,if_false,takeAll]
   rw [hi2,takeAll]
 | n + 1,i,hi => by
   have hi' : (i : Int) < (xs.length : Int) := by omega
   have h0 : (0 : Int) ≤ (i : Int) := by omega
   have hil : i < xs.length := by omega
   have hpl := plate_len h
   rw [impl_mapped_impl_thinned_1_p0_eq]
   simp only [hi',h0,decide_true,if_true,Int.toNat_natCast,List.getElem?_eq_getElem hil,Option.bind_some]
   have := mapT_p1_ok xs h b le hb hl i hil (thinP b le (xs.take i)) (by simp [thinP]; omega) xs[i].length 0 (by omega)
   simp only [List.take_zero,List.map_nil] at this
   refine this.trans ?_
   have e : thinP b le (xs.take i) ++ [xs[i].map (thinI b le)] = thinP b le (xs.take (i + 1)) := by
    exact takeMap (fun r => r.map (thinI b le)) hil
   rw [e]
   exact mapT_p0_ok n (i + 1) (by omega)
theorem impl_thinned_ok : impl_thinned xs b le = some (thinP b le xs) := by
 rw [impl_thinned_eq,impl_mapped_impl_thinned_1_eq]
 have := mapT_p0_ok xs h b le hb hl xs.length 0 (by omega)
 simp only [List.take_zero,thinP,List.map_nil] at this
 have e := this
 rw [show ((0 : Nat) : Int) = 0 from rfl] at e
 rw [e]; rfl
end
def rowPts (i : Nat) (n : Nat) : List T_Point.ty := (List.range n).map (pl3 i)
def gpl : Nat → List (List Int) → List T_Point.ty
 | _,[] => []
 | i,r :: t => rowPts i r.length ++ gpl (i + 1) t
theorem gpl_len : ∀ (t : List (List Int)) (i : Nat),(∀ r,r ∈ t → r.length ≤ 10) → (gpl i t).length ≤ 10 * t.length
 | [],i,_ => by simp [gpl]
 | r :: t,i,h => by
   have h1 := h r List.mem_cons_self
   have h2 := gpl_len t (i + 1) fun x hx => h x (List.mem_cons_of_mem _ hx)
   simp only [gpl,rowPts,List.length_append,List.length_map,List.length_range,List.length_cons]
   omega
section
variable (xs : List (List Int)) (h : plateOk xs = true)
include h
theorem places_p1_ok (i : Nat) (hi : i < xs.length) (r3 : List T_Point.ty) (hr3 : r3.length ≤ 1000) : ∀ (n k : Nat),k + n = xs[i].length →
 impl_places_p1 i xs xs.length i xs[i].length k (r3 ++ rowPts i k) = impl_places_p0 xs xs.length ((i + 1 : Nat) : Int) (r3 ++ rowPts i xs[i].length)
 | 0,k,hk => by
   have hk' : ¬ (k : Int) < (xs[i].length : Int) := by omega
   have hk2 : k = xs[i].length := by omega
   have hl1 := plate_len h
   rw [impl_places_p1_eq]
   simp only [hk',decide_false,Bool.false_eq_true,if_false]
   rw [wsucc (by omega),hk2]
 | n + 1,k,hk => by
   have hk' : (k : Int) < (xs[i].length : Int) := by omega
   have hrl := plate_lens h hi
   have hlen : (r3 ++ rowPts i k).length = r3.length + k := by simp [rowPts]
   have hlim : (r3 ++ rowPts i k).length + 1 < lim := by rw [hlen]; unfold lim; omega
   rw [impl_places_p1_eq]
   simp only [hk',decide_true,if_true,takeAll,hlim]
   rw [wsucc (by omega)]
   have e : r3 ++ rowPts i k ++ [((i : Int),(k : Int),())] = r3 ++ rowPts i (k + 1) := by
    simp only [rowPts,List.range_succ,List.map_append,List.append_assoc]; rfl
   refine (congrArg _ e).trans ?_
   exact places_p1_ok i hi r3 hr3 n (k + 1) (by omega)
theorem places_p0_ok : ∀ (n i : Nat) (r3 : List T_Point.ty),i + n = xs.length → r3.length ≤ 10 * i → impl_places_p0 xs xs.length i r3 = some (r3 ++ gpl i (xs.drop i))
 | 0,i,r3,hi,hr => by
   have hi' : ¬ (i : Int) < (xs.length : Int) := by omega
   rw [impl_places_p0_eq,List.drop_eq_nil_of_le (by omega)]
   simp only [hi',decide_false,Bool.false_eq_true,if_false,takeAll,gpl,List.append_nil]
 | n + 1,i,r3,hi,hr => by
   have hi' : (i : Int) < (xs.length : Int) := by omega
   have h0 : (0 : Int) ≤ (i : Int) := by omega
   have hil : i < xs.length := by omega
   have hpl := plate_len h
   have hrl := plate_lens h hil
   rw [impl_places_p0_eq]
   simp only [hi',h0,decide_true,if_true,Int.toNat_natCast,List.getElem?_eq_getElem hil,Option.bind_some]
   have := places_p1_ok xs h i hil r3 (by omega) xs[i].length 0 (by omega)
   have e : r3 ++ rowPts i 0 = r3 := by simp [rowPts]
   rw [e] at this
   refine this.trans ?_
   have hle : (r3 ++ rowPts i xs[i].length).length ≤ 10 * (i + 1) := by simp [rowPts]; omega
   rw [places_p0_ok n (i + 1) _ (by omega) hle,List.drop_eq_getElem_cons hil,gpl,List.append_assoc]
theorem impl_places_ok : impl_places xs = some (gpl 0 xs) := by
 rw [impl_places_eq]
 exact (places_p0_ok xs h xs.length 0 [] (by omega) (by simp)).trans (by simp)
end
theorem gpl_at (xs : List (List Int)) : ∀ (n i : Nat),i + n = xs.length → (gpl i (xs.drop i)).length = (xs.drop i).flatten.length ∧ ∀ (j : Nat) p,(gpl i (xs.drop i))[j]? = some p → ∃ a k,∃ (ha : a < xs.length) (hk : k < xs[a].length),p = pl3 a k ∧ (xs.drop i).flatten[j]? = some xs[a][k]
 | 0,i,hi => by
   rw [List.drop_eq_nil_of_le (by omega)]
   exact ⟨rfl,fun j p hp => by simp [gpl] at hp⟩
 | n + 1,i,hi => by
   have hil : i < xs.length := by omega
   obtain ⟨h1,h2⟩ := gpl_at xs n (i + 1) (by omega)
   rw [List.drop_eq_getElem_cons hil]
   simp only [gpl,List.flatten_cons]
   refine ⟨by simp [rowPts,h1],fun j p hp => ?_⟩
   have hrl : (rowPts i xs[i].length).length = xs[i].length := by simp [rowPts]
   rcases Nat.lt_or_ge j xs[i].length with hj | hj
   ·rw [List.getElem?_append_left (by omega)] at hp
    rw [List.getElem?_append_left hj]
    refine ⟨i,j,hil,hj,?_,List.getElem?_eq_getElem hj⟩
    simp only [rowPts,List.getElem?_map,List.getElem?_range hj,Option.map_some] at hp
    exact (Option.some.inj hp).symm
   ·rw [List.getElem?_append_right (by omega),hrl] at hp
    rw [List.getElem?_append_right hj]
    exact h2 _ p hp
theorem plate_flat {xs : List (List Int)} (h : plateOk xs = true) : xs.flatten.length ≤ 100 ∧ ∀ y,y ∈ xs.flatten → 1 ≤ y ∧ y ≤ 200 := by
 obtain ⟨h1,c,hc,hx⟩ := plateOk_iff h
 refine ⟨?_,fun y hy => ?_⟩
 ·have key : ∀ t : List (List Int),(∀ r,r ∈ t → r.length ≤ 10) → t.flatten.length ≤ 10 * t.length := by
   intro t
   induction t with
   | nil => intro _; simp
   | cons r t ih =>
     intro hr
     have h1 := hr r List.mem_cons_self
     have h2 := ih fun x hx => hr x (List.mem_cons_of_mem _ hx)
     simp only [List.flatten_cons,List.length_append,List.length_cons]; omega
  have := key xs fun r hr => by rw [(hx r hr).1]; exact hc.2
  omega
 ·obtain ⟨r,hr,hy⟩ := List.mem_flatten.1 hy
  exact (hx r hr).2 y hy
def sumL (l : List Int) : Int := l.sum
theorem sumL_cons (a : Int) (l : List Int) : sumL (a :: l) = a + sumL l := by simp [sumL]
theorem sumL_append (a b : List Int) : sumL (a ++ b) = sumL a + sumL b := by simp [sumL,List.sum_append]
theorem sumL_bd : ∀ (l : List Int),(∀ y,y ∈ l → 1 ≤ y ∧ y ≤ 200) → 0 ≤ sumL l ∧ sumL l ≤ 200 * (l.length : Int)
 | [],_ => by simp [sumL]
 | a :: l,h => by
   have h1 := h a List.mem_cons_self
   have h2 := sumL_bd l fun y hy => h y (List.mem_cons_of_mem _ hy)
   rw [sumL_cons,List.length_cons]; omega
def massP (xs : List (List Int)) (c d : Int) : Int := rdivP (sumL xs.flatten * c * d) 10000
theorem mass_bd {s c d : Int} (hs : 0 ≤ s ∧ s ≤ 20000) (hc : 1 ≤ c ∧ c ≤ 10000) (hd : 1 ≤ d ∧ d ≤ 2000) : (0 ≤ s * c ∧ s * c ≤ 200000000) ∧ 0 ≤ s * c * d ∧ s * c * d ≤ 400000000000 := by
 have h1 : 0 ≤ s * c := Int.mul_nonneg hs.1 (by omega)
 have h2 : s * c ≤ 20000 * 10000 := Int.mul_le_mul hs.2 hc.2 (by omega) (by omega)
 have h3 : 0 ≤ s * c * d := Int.mul_nonneg h1 (by omega)
 have h4 : s * c * d ≤ 200000000 * 2000 := Int.mul_le_mul (by omega) hd.2 (by omega) (by omega)
 omega
section
variable (xs : List (List Int)) (h : plateOk xs = true) (c d : Int) (hc : 1 ≤ c ∧ c ≤ 10000) (hd : 1 ≤ d ∧ d ≤ 2000)
include h hc hd
theorem plateMass_p0_ok : ∀ (n j : Nat) (a : Int),j + n = (gpl 0 xs).length → 0 ≤ a → a + sumL (xs.flatten.drop j) = sumL xs.flatten →
 impl_plateMass_p0 xs c d a (gpl 0 xs) (gpl 0 xs).length j = some (massP xs c d)
 | 0,j,a,hj,ha,hs => by
   have hj' : ¬ (j : Int) < ((gpl 0 xs).length : Int) := by omega
   obtain ⟨hlen,_⟩ := gpl_at xs xs.length 0 (by omega)
   rw [List.drop_zero] at hlen
   rw [List.drop_eq_nil_of_le (by omega)] at hs
   have hs : a = sumL xs.flatten := by simpa [sumL] using hs
   obtain ⟨f1,f2⟩ := plate_flat h
   have f3 := sumL_bd _ f2
   have f4 := mass_bd (s := sumL xs.flatten) (by omega) hc hd
   rw [impl_plateMass_p0_eq]
   simp only [hj',decide_false,Bool.false_eq_true,if_false]
   rw [hs,w64 (n := sumL xs.flatten * c) (by omega) (by omega),w64 (n := sumL xs.flatten * c * d) (by omega) (by omega),impl_divRound_ok _ _ (by omega) (by omega)]
   rfl
 | n + 1,j,a,hj,ha,hs => by
   have hj' : (j : Int) < ((gpl 0 xs).length : Int) := by omega
   have h0 : (0 : Int) ≤ (j : Int) := by omega
   have hjl : j < (gpl 0 xs).length := by omega
   obtain ⟨hlen,hat⟩ := gpl_at xs xs.length 0 (by omega)
   rw [List.drop_zero] at hlen hat
   obtain ⟨i,k,hi,hk,hp,hy⟩ := hat j _ (List.getElem?_eq_getElem hjl)
   obtain ⟨f1,f2⟩ := plate_flat h
   have hjf : j < xs.flatten.length := by omega
   have hyv : xs.flatten[j] = xs[i][k] := by rw [List.getElem?_eq_getElem hjf] at hy; exact Option.some.inj hy
   have hcell := plate_cell h hi hk
   have f5 := sumL_bd (xs.flatten.drop j) fun y hy => f2 y (List.mem_of_mem_drop hy)
   have f6 := sumL_bd _ f2
   rw [List.drop_eq_getElem_cons hjf,sumL_cons,hyv] at hs
   have f7 := sumL_bd (xs.flatten.drop (j + 1)) fun y hy => f2 y (List.mem_of_mem_drop hy)
   rw [impl_plateMass_p0_eq]
   simp only [hj',h0,decide_true,if_true,Int.toNat_natCast,List.getElem?_eq_getElem hjl,Option.bind_some,hp,place_ok xs i k hi hk]
   rw [w64 (n := a + xs[i][k]) (by omega) (by omega),wsucc (by omega)]
   exact plateMass_p0_ok n (j + 1) (a + xs[i][k]) (by omega) (by omega) (by omega)
theorem impl_plateMass_ok : impl_plateMass xs c d = some (massP xs c d) := by
 rw [impl_plateMass_eq,impl_places_ok xs h,Option.bind_some]
 exact plateMass_p0_ok xs h c d hc hd (gpl 0 xs).length 0 0 (Nat.zero_add _) (Int.le_refl _) (by simp)
end
theorem impl_isCell_ok (c d : Int) : impl_isCell c d = some (inR c 1 10000 && inR d 1 2000) := by
 rw [impl_isCell_eq]; simp only [impl_within_ok,Option.bind_some]; cases inR c 1 10000 <;> rfl
theorem impl_isLeast_ok (c : Int) : impl_isLeast c = some (inR c 1 200) := by
 rw [impl_isLeast_eq]; simp only [impl_within_ok,Option.bind_some]
theorem impl_isBy_ok (c : Int) : impl_isBy c = some (inR c 0 200) := by
 rw [impl_isBy_eq]; simp only [impl_within_ok,Option.bind_some]
theorem spec_l08Thick_ok2 (c : Int) : spec_l08Thick c = some (inR c 1 200) := by
 rw [spec_l08Thick_eq]; simp only [spec_l00In_ok,Option.bind_some]
theorem spec_l08By_ok (b le : Int) : spec_l08By b le = some (inR b 0 200 && inR le 1 200) := by
 rw [spec_l08By_eq]; simp only [spec_l00In_ok,spec_l08Thick_ok2,Option.bind_some]; cases inR b 0 200 <;> rfl
theorem spec_l08Density_ok (b le : Int) : spec_l08Density b le = some (inR b 1 10000 && inR le 1 2000) := by
 rw [spec_l08Density_eq]; simp only [spec_l00In_ok,Option.bind_some]; cases inR b 1 10000 <;> rfl
section
variable (xs : List (List Int)) (h : plateOk xs = true) (c d m le : Int) (hc : 1 ≤ c ∧ c ≤ 10000) (hd : 1 ≤ d ∧ d ≤ 2000) (hl : 1 ≤ le ∧ le ≤ 200)
include h hc hd hl
theorem thinTo_p1_ok : ∀ (n i : Nat),i + n = 201 → (∀ j : Nat,j < i → m < massP (thinP j le xs) c d) →
 (∃ j : Nat,j ≤ 200 ∧ impl_ThinTo_p1 xs c d m le i = some ((j : Int),0) ∧ massP (thinP j le xs) c d ≤ m ∧ ∀ l : Nat,l < j → m < massP (thinP l le xs) c d) ∨ impl_ThinTo_p1 xs c d m le i = some (0,3)
 | 0,i,hi,hj => by
   have h1 : ¬ (i : Int) ≤ 200 := by omega
   right
   rw [impl_ThinTo_p1_eq]
   simp only [h1,decide_false,Bool.false_eq_true,if_false]
 | n + 1,i,hi,hj => by
   have h1 : (i : Int) ≤ 200 := by omega
   rw [impl_ThinTo_p1_eq]
   simp only [h1,decide_true,if_true,impl_thinned_ok xs h i le (by omega) hl,Option.bind_some,impl_plateMass_ok _ (thinP_ok (b := (i : Int)) (by omega) hl h) c d hc hd]
   by_cases hm : massP (thinP i le xs) c d ≤ m
   ·simp only [hm,decide_true,if_true]
    exact .inl ⟨i,by omega,rfl,hm,hj⟩
   ·simp only [hm,decide_false,Bool.false_eq_true,if_false]
    rw [wsucc (by omega)]
    refine thinTo_p1_ok n (i + 1) (by omega) fun j hj2 => ?_
    rcases Nat.lt_or_ge j i with hji | hji
    ·exact hj j hji
    ·obtain rfl : j = i := by omega
     omega
end
theorem impl_ThinTo_ok (xs : List (List Int)) (hz : Sz xs) (c d m le : Int) :
 (∃ e,e ≠ 0 ∧ impl_ThinTo xs c d m le = some (0,e)) ∨
 (plateOk xs = true ∧ (1 ≤ c ∧ c ≤ 10000) ∧ (1 ≤ d ∧ d ≤ 2000) ∧ (1 ≤ le ∧ le ≤ 200) ∧
   ∃ j : Nat,j ≤ 200 ∧ impl_ThinTo xs c d m le = some ((j : Int),0) ∧ massP (thinP j le xs) c d ≤ m ∧ ∀ l : Nat,l < j → m < massP (thinP l le xs) c d) := by
 rw [impl_ThinTo_eq,impl_ValidPlate_ok xs hz.1 hz.2,Option.bind_some]
 cases h1 : plateOk xs with
 | false => exact .inl ⟨1,by omega,rfl⟩
 | true =>
   simp only [Bool.not_true,Bool.false_eq_true,if_false,impl_isCell_ok,Option.bind_some,impl_within_ok,impl_isLeast_ok]
   cases h2 : inR c 1 10000 && inR d 1 2000 with
   | false => exact .inl ⟨2,by omega,rfl⟩
   | true =>
     simp only [Bool.not_true,Bool.false_eq_true,if_false]
     cases h3 : inR m 0 1000000000 with
     | false => exact .inl ⟨2,by omega,rfl⟩
     | true =>
       simp only [Bool.not_true,Bool.false_eq_true,if_false]
       cases h4 : inR le 1 200 with
       | false => exact .inl ⟨2,by omega,rfl⟩
       | true =>
         simp only [Bool.not_true,Bool.false_eq_true,if_false]
         rw [Bool.and_eq_true,inR_iff',inR_iff'] at h2
         rw [inR_iff'] at h4
         rw [impl_ThinTo_p0_eq]
         rcases thinTo_p1_ok xs h1 c d m le h2.1 h2.2 h4 201 0 (by omega) (fun j hj => by omega) with ⟨j,a1,a2,a3⟩ | a
         ·exact .inr ⟨trivial,h2.1,h2.2,h4,j,a1,a2,a3⟩
         ·exact .inl ⟨3,by omega,a⟩
theorem impl_ThinAll_ok (xs : List (List Int)) (h : plateOk xs = true) (b le : Int) (hb : 0 ≤ b ∧ b ≤ 200) (hl : 1 ≤ le ∧ le ≤ 200) : impl_ThinAll xs b le = some (thinP b le xs,0) := by
 have hz := plate_sz h
 rw [impl_ThinAll_eq,impl_ValidPlate_ok xs hz.1 hz.2,Option.bind_some,h]
 simp only [Bool.not_true,Bool.false_eq_true,if_false,impl_isBy_ok,impl_isLeast_ok,Option.bind_some,inR_iff'.2 hb,inR_iff'.2 hl]
 rw [impl_ThinAll_p0_eq,impl_thinned_ok xs h b le hb hl,Option.bind_some]
theorem impl_PlateMass_ok (xs : List (List Int)) (h : plateOk xs = true) (c d : Int) (hc : 1 ≤ c ∧ c ≤ 10000) (hd : 1 ≤ d ∧ d ≤ 2000) : impl_PlateMass xs c d = some (massP xs c d,0) := by
 have hz := plate_sz h
 rw [impl_PlateMass_eq,impl_ValidPlate_ok xs hz.1 hz.2,Option.bind_some,h]
 simp only [Bool.not_true,Bool.false_eq_true,if_false,impl_isCell_ok,Option.bind_some,inR_iff'.2 hc,inR_iff'.2 hd,Bool.and_self,impl_plateMass_ok xs h c d hc hd]
theorem spec_l00Own_ok (r : List Int) (hr : r.length ≤ 1000) : spec_l00Own r = some r := by
 have hlim : 0 + r.length < lim := by unfold lim; omega
 rw [spec_l00Own_eq]
 simp only [hlim,decide_true,if_true,List.nil_append,takeAll]
theorem ownRows_ok : ∀ (xs : List (List Int)),(∀ r,r ∈ xs → r.length ≤ 1000) → ownRows spec_l00Own xs = some xs
 | [],_ => rfl
 | r :: t,h => by
   show (spec_l00Own r).bind _ = _
   rw [spec_l00Own_ok r (h r List.mem_cons_self),Option.bind_some,ownRows_ok t fun x hx => h x (List.mem_cons_of_mem _ hx)]
   rfl
theorem spec_l08All_ok (xs : List (List Int)) (h : plateOk xs = true) (b le : Int) (hb : 0 ≤ b ∧ b ≤ 200) (hl : 1 ≤ le ∧ le ≤ 200) : spec_l08All xs b le = some (thinP b le xs) := by
 obtain ⟨h1,c,hc,hx⟩ := plateOk_iff h
 rw [spec_l08All_eq]
 unfold allF
 rw [if_pos ⟨by omega,by omega,by omega,by omega,by omega⟩,ownRows_ok xs fun r hr => by rw [(hx r hr).1]; omega]
 show (if _ then _ else _) = _
 rw [if_pos]
 ·rfl
 ·rw [List.all_eq_true]
  intro r hr
  simp only [smallRow,Bool.and_eq_true,decide_eq_true_eq,List.all_eq_true]
  refine ⟨by rw [(hx r hr).1]; omega,fun x hx' => ?_⟩
  have := (hx r hr).2 x hx'
  omega
theorem spec_ThinAll_ok (xs : List (List Int)) (h : plateOk xs = true) (b le : Int) (hb : 0 ≤ b ∧ b ≤ 200) (hl : 1 ≤ le ∧ le ≤ 200) : spec_ThinAll xs b le = some (thinP b le xs,0) := by
 have hz := plate_sz h
 rw [spec_ThinAll_eq,spec_l08Ok_ok xs hz.1 hz.2,Option.bind_some,h]
 simp only [Bool.not_true,Bool.false_eq_true,if_false,spec_l08By_ok,Option.bind_some,inR_iff'.2 hb,inR_iff'.2 hl,Bool.and_self,spec_l08All_ok xs h b le hb hl]
section
variable (xs : List (List Int)) (h : plateOk xs = true) (c d : Int) (hc : 1 ≤ c ∧ c ≤ 10000) (hd : 1 ≤ d ∧ d ≤ 2000)
include h
theorem specMass_p1_ok (i : Nat) (hi : i < xs.length) : ∀ (n k : Nat) (a : Int),k + n = xs[i].length → 0 ≤ a ∧ a ≤ 1000000 + 200 * k →
 spec_l08Mass_p1 xs c d a i k = spec_l08Mass_p0 xs c d (a + sumL (xs[i].drop k)) ((i + 1 : Nat) : Int)
 | 0,k,a,hk,ha => by
   have h0 : (0 : Int) ≤ (i : Int) := by omega
   have hk' : ¬ (k : Int) < (xs[i].length : Int) := by omega
   have hl1 := plate_len h
   rw [spec_l08Mass_p1_eq]
   simp only [h0,decide_true,if_true,Int.toNat_natCast,List.getElem?_eq_getElem hi,Option.bind_some,hk',decide_false,Bool.false_eq_true,if_false]
   rw [wsucc (by omega),List.drop_eq_nil_of_le (by omega)]
   simp [sumL]
 | n + 1,k,a,hk,ha => by
   have h0 : (0 : Int) ≤ (i : Int) := by omega
   have h1 : (0 : Int) ≤ (k : Int) := by omega
   have hk' : (k : Int) < (xs[i].length : Int) := by omega
   have hkl : k < xs[i].length := by omega
   have hrl := plate_lens h hi
   have hcell := plate_cell h hi hkl
   rw [spec_l08Mass_p1_eq]
   simp only [h0,h1,decide_true,if_true,Int.toNat_natCast,List.getElem?_eq_getElem hi,Option.bind_some,hk',List.getElem?_eq_getElem hkl]
   rw [wsucc (by omega),w64 (n := a + xs[i][k]) (by omega) (by omega),specMass_p1_ok i hi n (k + 1) (a + xs[i][k]) (by omega) (by omega),List.drop_eq_getElem_cons hkl,sumL_cons,Int.add_assoc]
include hc hd
theorem specMass_p0_ok : ∀ (n i : Nat) (a : Int),i + n = xs.length → 0 ≤ a → a + sumL (xs.drop i).flatten = sumL xs.flatten → spec_l08Mass_p0 xs c d a i = some (massP xs c d)
 | 0,i,a,hi,ha,hs => by
   have hi' : ¬ (i : Int) < (xs.length : Int) := by omega
   rw [List.drop_eq_nil_of_le (by omega)] at hs
   have hs : a = sumL xs.flatten := by simpa [sumL] using hs
   obtain ⟨f1,f2⟩ := plate_flat h
   have f3 := sumL_bd _ f2
   have f4 := mass_bd (s := sumL xs.flatten) (by omega) hc hd
   rw [spec_l08Mass_p0_eq]
   simp only [hi',decide_false,Bool.false_eq_true,if_false]
   rw [hs,w64 (n := sumL xs.flatten * c) (by omega) (by omega),w64 (n := sumL xs.flatten * c * d) (by omega) (by omega),spec_l01Div_ok _ _ (by omega) (by omega)]
   rfl
 | n + 1,i,a,hi,ha,hs => by
   have hi' : (i : Int) < (xs.length : Int) := by omega
   have hil : i < xs.length := by omega
   obtain ⟨f1,f2⟩ := plate_flat h
   have f3 := sumL_bd _ f2
   rw [List.drop_eq_getElem_cons hil,List.flatten_cons,sumL_append] at hs
   have f5 := sumL_bd (xs.drop (i + 1)).flatten fun y hy => f2 y (by
    obtain ⟨r,hr,hy⟩ := List.mem_flatten.1 hy
    exact List.mem_flatten.2 ⟨r,List.mem_of_mem_drop hr,hy⟩)
   have f6 := sumL_bd xs[i] fun y hy => f2 y (List.mem_flatten.2 ⟨_,List.getElem_mem hil,hy⟩)
   rw [spec_l08Mass_p0_eq]
   simp only [hi',decide_true,if_true]
   have := specMass_p1_ok xs h c d i hil xs[i].length 0 a (by omega) (by omega)
   rw [List.drop_zero] at this
   refine this.trans ?_
   exact specMass_p0_ok n (i + 1) _ (by omega) (by omega) (by omega)
theorem spec_PlateMass_ok : spec_PlateMass xs c d = some (massP xs c d,0) := by
 have hz := plate_sz h
 rw [spec_PlateMass_eq,spec_l08Ok_ok xs hz.1 hz.2,Option.bind_some,h]
 simp only [Bool.not_true,Bool.false_eq_true,if_false,spec_l08Density_ok,Option.bind_some,inR_iff'.2 hc,inR_iff'.2 hd,Bool.and_self]
 rw [spec_l08Mass_eq]
 have := specMass_p0_ok xs h c d hc hd xs.length 0 0 (by omega) (by omega) (by simp)
 rw [show ((0 : Nat) : Int) = 0 from rfl] at this
 rw [this]; rfl
end
theorem law_p0 (v1 code : List Int) (h1 : ∀ x,x ∈ code → 0 ≤ x ∧ x ≤ 255) (h2 : code.length ≤ 1048576) (h3 : laws_FnPlates_p2 v1 = some true) : laws_FnPlates_p0 code v1 = some true := by
 obtain ⟨xs,c,d,m,le,e0,hz⟩ := spec_DrawThinTo_ok code h1 h2
 rw [laws_FnPlates_p0_eq,e0,Option.bind_some]
 dsimp only
 rcases impl_ThinTo_ok xs hz c d m le with ⟨e,he,e1⟩ | ⟨hp,hc,hd,hl,j,hj,e1,hm,hn⟩
 ·rw [e1,Option.bind_some]
  dsimp only
  rw [if_neg (by simpa using he),if_neg (by decide)]
  exact h3
 ·rw [e1,Option.bind_some]
  dsimp only
  have hjb : (0 : Int) ≤ (j : Int) ∧ (j : Int) ≤ 200 := by omega
  rw [if_pos (by decide),impl_ThinAll_ok xs hp j le hjb hl,Option.bind_some]
  dsimp only
  rw [impl_PlateMass_ok _ (thinP_ok hjb hl hp) c d hc hd,Option.bind_some]
  dsimp only
  have hm' : ¬ massP (thinP j le xs) c d > m := by omega
  have hj0 : ¬ (j : Int) < 0 := by omega
  rw [if_neg (by decide),if_neg (by decide)]
  simp only [hm',hj0,decide_false,Bool.false_eq_true,if_false]
  rw [laws_FnPlates_p1_eq]
  by_cases hjp : (j : Int) > 0
  ·have ej : ((j : Int) - 1) = ((j - 1 : Nat) : Int) := by omega
   have hjb2 : (0 : Int) ≤ ((j - 1 : Nat) : Int) ∧ ((j - 1 : Nat) : Int) ≤ 200 := by omega
   simp only [hjp,decide_true,if_true]
   rw [w64 (n := (j : Int) - 1) (by omega) (by omega),ej,spec_ThinAll_ok xs hp _ le hjb2 hl,Option.bind_some]
   dsimp only
   rw [spec_PlateMass_ok _ (thinP_ok hjb2 hl hp) c d hc hd,Option.bind_some]
   dsimp only
   have hmm : ¬ massP (thinP ((j - 1 : Nat) : Int) le xs) c d ≤ m := by
    have := hn (j - 1) (by omega); omega
   rw [if_neg (by decide),if_neg (by decide)]
   simp only [hmm,decide_false,Bool.false_eq_true,if_false]
   exact h3
  ·simp only [hjp,decide_false,Bool.false_eq_true,if_false]
   exact h3
def cub (n : Int) : Int := n * n * n
theorem cub_bd {n : Int} (h : 1 ≤ n ∧ n ≤ 200) : (0 ≤ n * n ∧ n * n ≤ 40000) ∧ 0 ≤ n * n * n ∧ n * n * n ≤ 8000000 := by
 have h1 : 0 ≤ n * n := Int.mul_nonneg (by omega) (by omega)
 have h2 : n * n ≤ 200 * 200 := Int.mul_le_mul h.2 h.2 (by omega) (by omega)
 have h3 : 0 ≤ n * n * n := Int.mul_nonneg h1 (by omega)
 have h4 : n * n * n ≤ 40000 * 200 := Int.mul_le_mul (by omega) h.2 (by omega) (by omega)
 omega
def stf (r : List Int) : Int := sumL (r.map cub)
theorem stf_bd : ∀ (r : List Int),(∀ y,y ∈ r → 1 ≤ y ∧ y ≤ 200) → 0 ≤ stf r ∧ stf r ≤ 8000000 * (r.length : Int)
 | [],_ => by simp [stf,sumL]
 | a :: r,h => by
   have h1 := cub_bd (h a List.mem_cons_self)
   have h2 := stf_bd r fun y hy => h y (List.mem_cons_of_mem _ hy)
   simp only [stf,List.map_cons,sumL_cons,List.length_cons] at h2 ⊢
   unfold cub at h2 ⊢
   omega
theorem stf_cons (a : Int) (r : List Int) : stf (a :: r) = a * a * a + stf r := by simp only [stf,List.map_cons,sumL_cons,cub]
section
variable (xs : List (List Int)) (h : plateOk xs = true)
include h
theorem plate_mem {i : Nat} (hi : i < xs.length) : ∀ y,y ∈ xs[i] → 1 ≤ y ∧ y ≤ 200 := by
 obtain ⟨_,c,hc,hx⟩ := plateOk_iff h
 exact (hx xs[i] (List.getElem_mem hi)).2
theorem stiff_p1_ok (i : Nat) (hi : i < xs.length) (r4 : List Int) (hr4 : r4.length ≤ 100) : ∀ (n k : Nat) (a : Int),k + n = xs[i].length → 0 ≤ a ∧ a ≤ 8000000 * (k : Int) →
 impl_RowStiff_p1 a xs xs.length i xs[i] xs[i].length k r4 = impl_RowStiff_p0 xs xs.length ((i + 1 : Nat) : Int) (r4 ++ [a + stf (xs[i].drop k)])
 | 0,k,a,hk,ha => by
   have hk' : ¬ (k : Int) < (xs[i].length : Int) := by omega
   have hlim : r4.length + 1 < lim := by unfold lim; omega
   have hl1 := plate_len h
   rw [impl_RowStiff_p1_eq]
   simp only [hk',hlim,decide_true,if_true,takeAll,decide_false,Bool.false_eq_true,if_false]
   rw [wsucc (by omega),List.drop_eq_nil_of_le (by omega)]
   simp [stf,sumL]
 | n + 1,k,a,hk,ha => by
   have h1 : (0 : Int) ≤ (k : Int) := by omega
   have hk' : (k : Int) < (xs[i].length : Int) := by omega
   have hkl : k < xs[i].length := by omega
   have hrl := plate_lens h hi
   have hcell := cub_bd (plate_cell h hi hkl)
   have hcc := plate_cell h hi hkl
   rw [impl_RowStiff_p1_eq]
   simp only [h1,decide_true,if_true,Int.toNat_natCast,Option.bind_some,hk',List.getElem?_eq_getElem hkl]
   rw [wsucc (by omega),w64 (n := xs[i][k] * xs[i][k]) (by omega) (by omega),w64 (n := xs[i][k] * xs[i][k] * xs[i][k]) (by omega) (by omega),w64 (n := a + xs[i][k] * xs[i][k] * xs[i][k]) (by omega) (by omega),
    stiff_p1_ok i hi r4 hr4 n (k + 1) _ (by omega) (by omega),List.drop_eq_getElem_cons hkl,stf_cons,Int.add_assoc]
theorem stiff_p0_ok : ∀ (n i : Nat),i + n = xs.length → impl_RowStiff_p0 xs xs.length i ((xs.take i).map stf) = some (xs.map stf,0)
 | 0,i,hi => by
   have hi' : ¬ (i : Int) < (xs.length : Int) := by omega
   have hi2 : i = xs.length := by omega
   rw [impl_RowStiff_p0_eq]
   simp only [hi',decide_false,Bool.false_eq_true,if_false,takeAll]
   rw [hi2,takeAll]
 | n + 1,i,hi => by
   have hi' : (i : Int) < (xs.length : Int) := by omega
   have h0 : (0 : Int) ≤ (i : Int) := by omega
   have hil : i < xs.length := by omega
   have hpl := plate_len h
   rw [impl_RowStiff_p0_eq]
   simp only [hi',h0,decide_true,if_true,Int.toNat_natCast,List.getElem?_eq_getElem hil,Option.bind_some]
   have := stiff_p1_ok xs h i hil ((xs.take i).map stf) (by rw [List.length_map,List.length_take]; omega) xs[i].length 0 0 (by omega) (by omega)
   refine this.trans ?_
   rw [List.drop_zero,Int.zero_add,takeMap stf hil]
   exact stiff_p0_ok n (i + 1) (by omega)
theorem impl_RowStiff_ok : impl_RowStiff xs = some (xs.map stf,0) := by
 have hz := plate_sz h
 rw [impl_RowStiff_eq,impl_ValidPlate_ok xs hz.1 hz.2,Option.bind_some,h]
 simp only [Bool.not_true,Bool.false_eq_true,if_false]
 have := stiff_p0_ok xs h xs.length 0 (by omega)
 simpa using this
end
def lA (l : List Int) (i : Nat) : Int := l[i]?.getD 0
theorem lA_get {l : List Int} {i : Nat} (h : i < l.length) : l[i]? = some (lA l i) := by simp [lA,List.getElem?_eq_getElem h]
theorem weak_p0_ok (l : List Int) (hl : l.length ≤ 100) : ∀ (n i b : Nat),i + n = l.length → b < l.length → (∀ j,j < i → lA l b ≤ lA l j) → (∀ j,j < b → lA l b < lA l j) → (b < i ∨ (b = 0 ∧ i = 0)) →
 ∃ b' : Nat,b' < l.length ∧ impl_WeakestRow_p0 b l.length i l = some ((b' : Int),lA l b',0) ∧ (∀ j,j < l.length → lA l b' ≤ lA l j) ∧ ∀ j,j < b' → lA l b' < lA l j
 | 0,i,b,hi,hb,h1,h2,h3 => by
   have hi' : ¬ (i : Int) < (l.length : Int) := by omega
   have hb0 : (0 : Int) ≤ (b : Int) := by omega
   have hb1 : (b : Int) < (l.length : Int) := by omega
   refine ⟨b,hb,?_,fun j hj => h1 j (by omega),h2⟩
   rw [impl_WeakestRow_p0_eq]
   simp only [hi',hb0,hb1,decide_true,Bool.and_self,if_true,Int.toNat_natCast,lA_get hb,Option.bind_some,decide_false,Bool.false_eq_true,if_false]
 | n + 1,i,b,hi,hb,h1,h2,h3 => by
   have hi' : (i : Int) < (l.length : Int) := by omega
   have hil : i < l.length := by omega
   have hi0 : (0 : Int) ≤ (i : Int) := by omega
   have hb0 : (0 : Int) ≤ (b : Int) := by omega
   have hb1 : (b : Int) < (l.length : Int) := by omega
   rw [impl_WeakestRow_p0_eq]
   simp only [hi',hi0,hb0,hb1,decide_true,Bool.and_self,if_true,Int.toNat_natCast,lA_get hb,lA_get hil,Option.bind_some]
   rw [wsucc (by omega)]
   by_cases hc : lA l i < lA l b
   ·simp only [hc,decide_true,if_true]
    refine weak_p0_ok l hl n (i + 1) i (by omega) hil (fun j hj => ?_) (fun j hj => ?_) (.inl (by omega))
    ·rcases Nat.lt_or_ge j i with hj2 | hj2
     ·have := h1 j hj2; omega
     ·obtain rfl : j = i := by omega
      omega
    ·have := h1 j hj; omega
   ·simp only [hc,decide_false,Bool.false_eq_true,if_false]
    refine weak_p0_ok l hl n (i + 1) b (by omega) hb (fun j hj => ?_) h2 (.inl (by omega))
    rcases Nat.lt_or_ge j i with hj2 | hj2
    ·exact h1 j hj2
    ·obtain rfl : j = i := by omega
     omega
section
variable (xs : List (List Int)) (h : plateOk xs = true)
include h
theorem impl_WeakestRow_ok : ∃ b : Nat,b < xs.length ∧ impl_WeakestRow xs = some ((b : Int),lA (xs.map stf) b,0) ∧ (∀ j,j < xs.length → lA (xs.map stf) b ≤ lA (xs.map stf) j) ∧ ∀ j,j < b → lA (xs.map stf) b < lA (xs.map stf) j := by
 have hl := plate_len h
 obtain ⟨b,h1,h2,h3,h4⟩ := weak_p0_ok (xs.map stf) (by simp; omega) (xs.map stf).length 0 0 (by omega) (by simp; omega) (fun j hj => by omega) (fun j hj => by omega) (.inr ⟨rfl,rfl⟩)
 rw [List.length_map] at h1 h3
 refine ⟨b,h1,?_,h3,h4⟩
 rw [impl_WeakestRow_eq,impl_RowStiff_ok xs h,Option.bind_some]
 exact h2
end
theorem lA_stf {xs : List (List Int)} {i : Nat} (hi : i < xs.length) : lA (xs.map stf) i = stf xs[i] := by
 simp [lA,List.getElem?_eq_getElem hi]
section
variable (xs : List (List Int)) (h : plateOk xs = true) (b : Nat) (hb : b < xs.length) (h1 : ∀ j,j < xs.length → lA (xs.map stf) b ≤ lA (xs.map stf) j) (h2 : ∀ j,j < b → lA (xs.map stf) b < lA (xs.map stf) j)
include h hb h1 h2
theorem law_p5_ok (i : Nat) (hi : i < xs.length) : ∀ (n k : Nat) (a : Int),k + n = xs[i].length → 0 ≤ a ∧ a ≤ 8000000 * (k : Int) → a + stf (xs[i].drop k) = stf xs[i] →
 laws_FnPlates_p5 xs b (lA (xs.map stf) b) i a k (xs.map stf) = laws_FnPlates_p4 xs b (lA (xs.map stf) b) ((i + 1 : Nat) : Int) (xs.map stf)
 | 0,k,a,hk,ha,hs => by
   have h0 : (0 : Int) ≤ (i : Int) := by omega
   have hk' : ¬ (k : Int) < (xs[i].length : Int) := by omega
   have hi2 : (i : Int) < ((xs.map stf).length : Int) := by rw [List.length_map]; omega
   have hl1 := plate_len h
   rw [List.drop_eq_nil_of_le (by omega)] at hs
   have hs : a = stf xs[i] := by simpa [stf,sumL] using hs
   have hx : (xs.map stf)[i]? = some a := by rw [List.getElem?_map,List.getElem?_eq_getElem hi,hs]; rfl
   have e1 := lA_stf hi
   have e2 := h1 i hi
   have hlt : ¬ a < lA (xs.map stf) b := by omega
   rw [laws_FnPlates_p5_eq]
   simp only [h0,decide_true,if_true,Int.toNat_natCast,List.getElem?_eq_getElem hi,Option.bind_some,hk',decide_false,Bool.false_eq_true,if_false,hi2,Bool.and_self,hx,bne_self_eq_false,hlt]
   rw [wsucc (by omega)]
   by_cases hib : (i : Int) < (b : Int)
   ·have e3 := h2 i (by omega)
    have e4 : (a == lA (xs.map stf) b) = false := by
     rw [beq_eq_false_iff_ne]; omega
    simp only [hib,decide_true,if_true,e4,Bool.false_eq_true,if_false]
   ·simp only [hib,decide_false,Bool.false_eq_true,if_false]
 | n + 1,k,a,hk,ha,hs => by
   have h0 : (0 : Int) ≤ (i : Int) := by omega
   have h0' : (0 : Int) ≤ (k : Int) := by omega
   have hk' : (k : Int) < (xs[i].length : Int) := by omega
   have hkl : k < xs[i].length := by omega
   have hrl := plate_lens h hi
   have hcell := cub_bd (plate_cell h hi hkl)
   rw [List.drop_eq_getElem_cons hkl,stf_cons] at hs
   rw [laws_FnPlates_p5_eq]
   simp only [h0,h0',decide_true,if_true,Int.toNat_natCast,List.getElem?_eq_getElem hi,Option.bind_some,hk',List.getElem?_eq_getElem hkl]
   rw [wsucc (by omega),w64 (n := xs[i][k] * xs[i][k]) (by omega) (by omega),w64 (n := xs[i][k] * xs[i][k] * xs[i][k]) (by omega) (by omega),w64 (n := a + xs[i][k] * xs[i][k] * xs[i][k]) (by omega) (by omega)]
   exact law_p5_ok i hi n (k + 1) _ (by omega) (by omega) (by omega)
end
def Alike (xs ys : List (List Int)) : Prop := ys.length = xs.length ∧ ∀ i (hi : i < xs.length) (hi' : i < ys.length),ys[i].length = xs[i].length
section
variable (xs ys : List (List Int)) (h : plateOk xs = true) (b : Int) (hs : Alike xs ys)
 (hv : ∀ (i k : Nat) (hi : i < xs.length) (hk : k < xs[i].length) (hi' : i < ys.length) (hk' : k < ys[i].length),impl_ScrapeRow_1 ((i : Int),(k : Int),()) b xs 2 1 = some ys[i][k])
include h hs hv
theorem mapS_p1_ok (i : Nat) (hi : i < xs.length) (hi' : i < ys.length) (r5 : List (List Int)) (hr5 : r5.length ≤ 100) : ∀ (n k : Nat),k + n = xs[i].length →
 impl_mapped_impl_ScrapeRow_1_p1 b xs 2 1 i xs xs.length i xs[i].length k r5 (ys[i].take k) = impl_mapped_impl_ScrapeRow_1_p0 b xs 2 1 xs xs.length ((i + 1 : Nat) : Int) (r5 ++ [ys[i]])
 | 0,k,hk => by
   have hk' : ¬ (k : Int) < (xs[i].length : Int) := by omega
   have hl1 := plate_len h
   have hk2 : k = ys[i].length := by rw [hs.2 i hi hi']; omega
   have hlim : r5.length + 1 < lim := by unfold lim; omega
   rw [impl_mapped_impl_ScrapeRow_1_p1_eq]
   simp only [hk',hlim,decide_false,Bool.false_eq_true,if_false,takeAll,decide_true,if_true]
   rw [wsucc (by omega),hk2,takeAll]
 | n + 1,k,hk => by
   have hk' : (k : Int) < (xs[i].length : Int) := by omega
   have hkl : k < xs[i].length := by omega
   have hky : k < ys[i].length := by rw [hs.2 i hi hi']; exact hkl
   have hrl := plate_lens h hi
   have hlim : (ys[i].take k).length + 1 < lim := by rw [List.length_take]; unfold lim; omega
   rw [impl_mapped_impl_ScrapeRow_1_p1_eq]
   simp only [hk',hlim,decide_true,if_true,hv i k hi hkl hi' hky,Option.bind_some,takeAll]
   have e := takeMap id hky
   simp only [List.map_id,id_eq] at e
   rw [wsucc (by omega),e]
   exact mapS_p1_ok i hi hi' r5 hr5 n (k + 1) (by omega)
theorem mapS_p0_ok : ∀ (n i : Nat),i + n = xs.length → impl_mapped_impl_ScrapeRow_1_p0 b xs 2 1 xs xs.length i (ys.take i) = some ys
 | 0,i,hi => by
   have hi' : ¬ (i : Int) < (xs.length : Int) := by omega
   have hi2 : i = ys.length := by rw [hs.1]; omega
   rw [impl_mapped_impl_ScrapeRow_1_p0_eq]
   simp only [hi',decide_false,Bool.false_eq_true,if_false,takeAll]
   rw [hi2,takeAll]
 | n + 1,i,hi => by
   have hi' : (i : Int) < (xs.length : Int) := by omega
   have h0 : (0 : Int) ≤ (i : Int) := by omega
   have hil : i < xs.length := by omega
   have hiy : i < ys.length := by rw [hs.1]; exact hil
   have hpl := plate_len h
   rw [impl_mapped_impl_ScrapeRow_1_p0_eq]
   simp only [hi',h0,decide_true,if_true,Int.toNat_natCast,List.getElem?_eq_getElem hil,Option.bind_some]
   have := mapS_p1_ok xs ys h b hs hv i hil hiy (ys.take i) (by rw [List.length_take]; omega) xs[i].length 0 (by omega)
   simp only [List.take_zero] at this
   refine this.trans ?_
   have e := takeMap id hiy
   simp only [List.map_id,id_eq] at e
   rw [e]
   exact mapS_p0_ok n (i + 1) (by omega)
end
def scr (xs : List (List Int)) (b : Nat) : List (List Int) := xs.set b ((xs[b]?.getD []).map (thinI 2 1))
theorem scr_alike (xs : List (List Int)) (b : Nat) : Alike xs (scr xs b) := by
 refine ⟨by simp [scr],fun i hi hi' => ?_⟩
 simp only [scr,List.getElem_set]
 split
 ·rename_i e; subst e; simp [List.getElem?_eq_getElem hi]
 ·rfl
theorem scr_cell {xs : List (List Int)} (h : plateOk xs = true) (b : Nat) (i k : Nat) (hi : i < xs.length) (hk : k < xs[i].length) (hi' : i < (scr xs b).length) (hk' : k < (scr xs b)[i].length) :
 impl_ScrapeRow_1 ((i : Int),(k : Int),()) b xs 2 1 = some (scr xs b)[i][k] ∧ 1 ≤ (scr xs b)[i][k] ∧ (scr xs b)[i][k] ≤ 200 ∧ xs[i][k] - (scr xs b)[i][k] ≤ 2 ∧ (scr xs b)[i][k] ≤ xs[i][k] := by
 have hc := plate_cell h hi hk
 have hp := place_ok xs i k hi hk
 unfold pl3 at hp
 rw [impl_ScrapeRow_1_eq]
 by_cases e : b = i
 ·subst e
  have e2 : (scr xs b)[b][k] = thinI 2 1 xs[b][k] := by
   have : (scr xs b)[b]? = some (xs[b].map (thinI 2 1)) := by simp [scr,hi]
   have e3 : (scr xs b)[b] = xs[b].map (thinI 2 1) := by rw [List.getElem?_eq_getElem hi'] at this; exact Option.some.inj this
   simp [e3]
  rw [e2]
  have ht := thinI_bd (b := 2) (le := 1) (by omega) (by omega) hc
  refine ⟨?_,by omega⟩
  rw [if_neg (by simp),hp,Option.bind_some,impl_thinner_ok (by omega) (by omega) hc,Option.bind_some]
 ·have e2 : (scr xs b)[i][k] = xs[i][k] := by
   have : (scr xs b)[i]? = some xs[i] := by simp [scr,e,List.getElem?_eq_getElem hi]
   have e3 : (scr xs b)[i] = xs[i] := by rw [List.getElem?_eq_getElem hi'] at this; exact Option.some.inj this
   simp [e3]
  rw [e2]
  refine ⟨?_,by omega⟩
  rw [if_pos (show ((i : Int) != (b : Int)) = true by rw [bne_iff_ne]; omega),hp,Option.bind_some]
theorem alike_ok {xs ys : List (List Int)} (h : plateOk xs = true) (hs : Alike xs ys) (hv : ∀ (i k : Nat) (hi : i < ys.length) (hk : k < ys[i].length),1 ≤ ys[i][k] ∧ ys[i][k] ≤ 200) : plateOk ys = true := by
 obtain ⟨h1,c,hc,hx⟩ := plateOk_iff h
 have hl := hs.1
 refine plateOk_of (c := c) (by omega) (by omega) hc fun r hr => ?_
 obtain ⟨i,hi,rfl⟩ := List.getElem_of_mem hr
 refine ⟨?_,fun x hx' => ?_⟩
 ·rw [hs.2 i (by omega) hi]
  exact (hx _ (List.getElem_mem _)).1
 ·obtain ⟨k,hk,rfl⟩ := List.getElem_of_mem hx'
  exact hv i k hi hk
section
variable (xs : List (List Int)) (h : plateOk xs = true) (b : Nat) (hb : b < xs.length)
include h hb
theorem scr_ok : plateOk (scr xs b) = true := alike_ok h (scr_alike xs b) fun i k hi hk => by
 have hl := (scr_alike xs b).1
 have hi2 : i < xs.length := by omega
 have hk2 : k < xs[i].length := by rw [← (scr_alike xs b).2 i hi2 hi]; exact hk
 have := (scr_cell h b i k hi2 hk2 hi hk).2
 omega
theorem impl_ScrapeRow_ok : impl_ScrapeRow xs b 2 1 = some (scr xs b,0) := by
 have hz := plate_sz h
 have hat : impl_at (b : Int) (xs.length : Int) = some true := by
  have h1 : (b : Int) ≥ 0 := by omega
  have h2 : (b : Int) < (xs.length : Int) := by omega
  rw [impl_at_eq]; simp [h1,h2]
 rw [impl_ScrapeRow_eq,impl_ValidPlate_ok xs hz.1 hz.2,Option.bind_some,h]
 simp only [Bool.not_true,Bool.false_eq_true,if_false,hat,Option.bind_some,impl_isBy_ok,impl_isLeast_ok,inR_iff'.2 (show (0 : Int) ≤ 2 ∧ (2 : Int) ≤ 200 by omega),inR_iff'.2 (show (1 : Int) ≤ 1 ∧ (1 : Int) ≤ 200 by omega)]
 rw [impl_ScrapeRow_p0_eq,impl_mapped_impl_ScrapeRow_1_eq]
 have := mapS_p0_ok xs (scr xs b) h b (scr_alike xs b) (fun i k hi hk hi' hk' => (scr_cell h b i k hi hk hi' hk').1) xs.length 0 (by omega)
 simp only [List.take_zero] at this
 rw [show ((0 : Nat) : Int) = 0 from rfl] at this
 exact (congrArg (fun z => Option.bind z _) this).trans rfl
end
section
variable (xs ys : List (List Int)) (h : plateOk xs = true) (hy : plateOk ys = true) (hs : Alike xs ys)
 (hv : ∀ (i k : Nat) (hi : i < xs.length) (hk : k < xs[i].length) (hi' : i < ys.length) (hk' : k < ys[i].length),absI (xs[i][k] - ys[i][k]) ≤ 2)
include h hy hs hv
theorem gap_p1_ok : ∀ (n j : Nat) (a : Int),j + n = (gpl 0 xs).length → a ≤ 2 → ∃ g,impl_PlateGap_p1 xs ys a (gpl 0 xs) (gpl 0 xs).length j = some (g,0) ∧ g ≤ 2
 | 0,j,a,hj,ha => by
   have hj' : ¬ (j : Int) < ((gpl 0 xs).length : Int) := by omega
   rw [impl_PlateGap_p1_eq]
   simp only [hj',decide_false,Bool.false_eq_true,if_false]
   exact ⟨a,rfl,ha⟩
 | n + 1,j,a,hj,ha => by
   have hj' : (j : Int) < ((gpl 0 xs).length : Int) := by omega
   have h0 : (0 : Int) ≤ (j : Int) := by omega
   have hjl : j < (gpl 0 xs).length := by omega
   have hgl := gpl_len xs 0 fun r hr => by
    obtain ⟨_,c,hc,hx⟩ := plateOk_iff h
    rw [(hx r hr).1]; exact hc.2
   have hpl := plate_len h
   obtain ⟨hlen,hat⟩ := gpl_at xs xs.length 0 (by omega)
   rw [List.drop_zero] at hlen hat
   obtain ⟨i,k,hi,hk,hp,_⟩ := hat j _ (List.getElem?_eq_getElem hjl)
   have hiy : i < ys.length := by rw [hs.1]; exact hi
   have hky : k < ys[i].length := by rw [hs.2 i hi hiy]; exact hk
   have c1 := plate_cell h hi hk
   have c2 := plate_cell hy hiy hky
   have c3 := hv i k hi hk hiy hky
   rw [impl_PlateGap_p1_eq]
   simp only [hj',h0,decide_true,if_true,Int.toNat_natCast,List.getElem?_eq_getElem hjl,Option.bind_some,hp,place_ok xs i k hi hk,place_ok ys i k hiy hky,impl_distance_ok _ _ (show -2000000000000000000 ≤ xs[i][k] ∧ xs[i][k] ≤ 2000000000000000000 by omega) (show -2000000000000000000 ≤ ys[i][k] ∧ ys[i][k] ≤ 2000000000000000000 by omega)]
   rw [wsucc (by omega)]
   exact gap_p1_ok n (j + 1) _ (by omega) (by split <;> omega)
theorem impl_PlateGap_ok : ∃ g,impl_PlateGap xs ys = some (g,0) ∧ g ≤ 2 := by
 have hz := plate_sz h
 have hzy := plate_sz hy
 have hl := plate_len h
 have hx0 : 0 < xs.length := by omega
 have hy0 : 0 < ys.length := by rw [hs.1]; exact hx0
 have hsame : impl_sameSize xs ys = some true := by
  have e2 := hs.2 0 hx0 hy0
  rw [impl_sameSize_eq,if_pos (by simp [hs.1]),List.getElem?_eq_getElem hx0,List.getElem?_eq_getElem hy0]
  simp [e2]
 rw [impl_PlateGap_eq,impl_ValidPlate_ok xs hz.1 hz.2,Option.bind_some,h,impl_ValidPlate_ok ys hzy.1 hzy.2]
 simp only [Bool.not_true,Bool.false_eq_true,if_false,Option.bind_some,hy]
 rw [impl_PlateGap_p0_eq,hsame]
 simp only [Bool.not_true,Bool.false_eq_true,if_false,Option.bind_some,impl_places_ok xs h]
 exact gap_p1_ok xs ys h hy hs hv (gpl 0 xs).length 0 0 (Nat.zero_add _) (by omega)
end
def plateT (xs : List (List Int)) : List UInt8 := Lib.join (xs.map listP) [47]
section
variable (xs : List (List Int)) (h : plateOk xs = true)
include h
theorem plate_row {i : Nat} (hi : i < xs.length) : xs[i] ≠ [] ∧ xs[i].length ≤ 64 ∧ ∀ x,x ∈ xs[i] → -1000000000000 ≤ x ∧ x ≤ 1000000000000 := by
 have h1 := plate_lens h hi
 have h2 := plate_mem xs h hi
 refine ⟨fun e => by rw [e] at h1; simp at h1,by omega,fun x hx => by have := h2 x hx; omega⟩
theorem text_p0_ok : ∀ (n i : Nat),i + n = xs.length → impl_PlateText_p0 xs xs.length i ((xs.take i).map listP) = some (plateT xs)
 | 0,i,hi => by
   have hi' : ¬ (i : Int) < (xs.length : Int) := by omega
   have hi2 : i = xs.length := by omega
   have hpl := plate_len h
   have hj : (Lib.join (xs.map listP) [47]).length ≤ (1024 + 1) * (xs.map listP).length := join_len (xs.map listP) fun x hx => by
    obtain ⟨r,hr,rfl⟩ := List.mem_map.1 hx
    obtain ⟨k,hk,rfl⟩ := List.getElem_of_mem hr
    have := plate_row xs h hk
    exact listP_len _ this.2.1 this.2.2
   rw [List.length_map] at hj
   have hj1 : (xs.map listP).length ≤ 140737488355328 := by rw [List.length_map]; omega
   have hj2 : (Lib.join (xs.map listP) [47]).length ≤ 140737488355328 := by omega
   rw [impl_PlateText_p0_eq]
   simp only [hi',decide_false,Bool.false_eq_true,if_false,takeAll]
   rw [hi2,takeAll,strings_Join_eq]
   simp only [hj1,hj2,decide_true,Bool.and_self,if_true,Option.bind_some]
   rfl
 | n + 1,i,hi => by
   have hi' : (i : Int) < (xs.length : Int) := by omega
   have h0 : (0 : Int) ≤ (i : Int) := by omega
   have hil : i < xs.length := by omega
   have hpl := plate_len h
   have hr := plate_row xs h hil
   have hlim : ((xs.take i).map listP).length + 1 < lim := by rw [List.length_map,List.length_take]; unfold lim; omega
   rw [impl_PlateText_p0_eq]
   simp only [hi',h0,decide_true,if_true,Int.toNat_natCast,List.getElem?_eq_getElem hil,Option.bind_some,impl_ListText_ok _ hr.1 hr.2.1 hr.2.2,hlim,takeAll]
   rw [wsucc (by omega),takeMap listP hil]
   exact text_p0_ok n (i + 1) (by omega)
theorem impl_PlateText_ok : impl_PlateText xs = some (plateT xs) := by
 have hz := plate_sz h
 rw [impl_PlateText_eq,impl_ValidPlate_ok xs hz.1 hz.2,Option.bind_some,h]
 simp only [Bool.not_true,Bool.false_eq_true,if_false]
 exact text_p0_ok xs h xs.length 0 (by omega)
theorem read_p0_ok : ∀ (n i : Nat),i + n = xs.length → impl_ReadPlate_p0 (xs.map listP) xs.length i (xs.take i) = some (xs,true)
 | 0,i,hi => by
   have hi' : ¬ (i : Int) < (xs.length : Int) := by omega
   have hi2 : i = xs.length := by omega
   have hz := plate_sz h
   rw [impl_ReadPlate_p0_eq]
   simp only [hi',decide_false,Bool.false_eq_true,if_false,takeAll]
   rw [hi2,takeAll,impl_ValidPlate_ok xs hz.1 hz.2,h]
   rfl
 | n + 1,i,hi => by
   have hi' : (i : Int) < (xs.length : Int) := by omega
   have h0 : (0 : Int) ≤ (i : Int) := by omega
   have hil : i < xs.length := by omega
   have hpl := plate_len h
   have hr := plate_row xs h hil
   have hx : (xs.map listP)[i]? = some (listP xs[i]) := by rw [List.getElem?_map,List.getElem?_eq_getElem hil]; rfl
   have hlim : (xs.take i).length + 1 < lim := by rw [List.length_take]; unfold lim; omega
   have h10 : ((((xs.take i).length : Nat) : Int) == 10) = false := by
    rw [beq_eq_false_iff_ne,List.length_take]; omega
   rw [impl_ReadPlate_p0_eq]
   simp only [hi',h0,decide_true,if_true,Int.toNat_natCast,hx,Option.bind_some,impl_ReadList_ok _ hr.1 hr.2.1 hr.2.2,hlim,takeAll,Bool.not_true,Bool.false_eq_true,if_false,h10]
   have e := takeMap id hil
   simp only [List.map_id,id_eq] at e
   rw [wsucc (by omega),e]
   exact read_p0_ok n (i + 1) (by omega)
theorem impl_ReadPlate_ok : impl_ReadPlate (plateT xs) = some (xs,true) := by
 have hpl := plate_len h
 have hj : (plateT xs).length ≤ (1024 + 1) * (xs.map listP).length := join_len (xs.map listP) fun x hx => by
  obtain ⟨r,hr,rfl⟩ := List.mem_map.1 hx
  obtain ⟨k,hk,rfl⟩ := List.getElem_of_mem hr
  have := plate_row xs h hk
  exact listP_len _ this.2.1 this.2.2
 rw [List.length_map] at hj
 have hsp : strings_Split (plateT xs) [47] = some (xs.map listP) := by
  have hl : (plateT xs).length < 4294967281 := by omega
  rw [strings_Split_eq]
  have e : Lib.splitK [47] 0 (Lib.count (plateT xs) [47]) (plateT xs) = xs.map listP := by
   have hne : xs.map listP ≠ [] := by
    intro e; have := congrArg List.length e; simp at this; rw [this] at hpl; simp at hpl
   have hno : ∀ y,y ∈ xs.map listP → (47 : UInt8) ∉ y := fun y hy => by
    obtain ⟨r,hr,rfl⟩ := List.mem_map.1 hy
    obtain ⟨k,hk,rfl⟩ := List.getElem_of_mem hr
    exact listP_no (plate_row xs h hk).1 (by decide) (by decide) (.inl (by decide))
   unfold plateT
   generalize xs.map listP = L at hne hno
   cases L with
   | nil => exact absurd rfl hne
   | cons x r => exact split_join x r hno
  rw [e]
  simp [hl]
 rw [impl_ReadPlate_eq,hsp,Option.bind_some]
 have := read_p0_ok xs h xs.length 0 (by omega)
 rw [List.length_map]
 exact this
theorem spec_gap_p3_ok (i : Nat) (hi : i < xs.length) : ∀ (n k : Nat),k + n = xs[i].length → spec_PlateGap_p3 xs xs 0 i k = spec_PlateGap_p2 xs xs 0 ((i + 1 : Nat) : Int)
 | 0,k,hk => by
   have h0 : (0 : Int) ≤ (i : Int) := by omega
   have hk' : ¬ (k : Int) < (xs[i].length : Int) := by omega
   have hl1 := plate_len h
   rw [spec_PlateGap_p3_eq]
   simp only [h0,decide_true,if_true,Int.toNat_natCast,List.getElem?_eq_getElem hi,Option.bind_some,hk',decide_false,Bool.false_eq_true,if_false]
   rw [wsucc (by omega)]
 | n + 1,k,hk => by
   have h0 : (0 : Int) ≤ (i : Int) := by omega
   have h1 : (0 : Int) ≤ (k : Int) := by omega
   have hk' : (k : Int) < (xs[i].length : Int) := by omega
   have hkl : k < xs[i].length := by omega
   have hrl := plate_lens h hi
   have habs : spec_l08Abs 0 = some 0 := by
    rw [spec_l08Abs_eq,w64 (n := 0 - 0) (by omega) (by omega),spec_l00Max_ok]; rfl
   have hmax : spec_l00Max 0 0 = some 0 := by rw [spec_l00Max_ok]; rfl
   rw [spec_PlateGap_p3_eq]
   simp only [h0,h1,decide_true,if_true,Int.toNat_natCast,List.getElem?_eq_getElem hi,Option.bind_some,hk',List.getElem?_eq_getElem hkl,Int.sub_self]
   rw [w64 (n := 0) (by omega) (by omega),habs,Option.bind_some,hmax,Option.bind_some,wsucc (by omega)]
   exact spec_gap_p3_ok i hi n (k + 1) (by omega)
theorem spec_gap_p2_ok : ∀ (n i : Nat),i + n = xs.length → spec_PlateGap_p2 xs xs 0 i = some (0,0)
 | 0,i,hi => by
   have hi' : ¬ (i : Int) < (xs.length : Int) := by omega
   rw [spec_PlateGap_p2_eq]
   simp only [hi',decide_false,Bool.false_eq_true,if_false]
 | n + 1,i,hi => by
   have hi' : (i : Int) < (xs.length : Int) := by omega
   have hil : i < xs.length := by omega
   rw [spec_PlateGap_p2_eq]
   simp only [hi',decide_true,if_true]
   exact (spec_gap_p3_ok xs h i hil xs[i].length 0 (by omega)).trans (spec_gap_p2_ok n (i + 1) (by omega))
theorem spec_PlateGap_ok : spec_PlateGap xs xs = some (0,0) := by
 have hz := plate_sz h
 have hl := plate_len h
 have hx0 : 0 < xs.length := by omega
 rw [spec_PlateGap_eq,spec_l08Ok_ok xs hz.1 hz.2,Option.bind_some,h]
 simp only [Bool.not_true,Bool.false_eq_true,if_false,Option.bind_some]
 rw [spec_PlateGap_p0_eq,if_neg (by simp),List.getElem?_eq_getElem hx0,Option.bind_some,Option.bind_some,if_neg (by simp),spec_PlateGap_p1_eq]
 exact spec_gap_p2_ok xs h xs.length 0 (by omega)
theorem law_p4_ok (b : Nat) (hb : b < xs.length) (h1 : ∀ j,j < xs.length → lA (xs.map stf) b ≤ lA (xs.map stf) j) (h2 : ∀ j,j < b → lA (xs.map stf) b < lA (xs.map stf) j) :
 ∀ (n i : Nat),i + n = xs.length → laws_FnPlates_p4 xs b (lA (xs.map stf) b) i (xs.map stf) = some true
 | 0,i,hi => by
   have hi' : ¬ (i : Int) < (xs.length : Int) := by omega
   obtain ⟨g,hg,hg2⟩ := impl_PlateGap_ok xs (scr xs b) h (scr_ok xs h b hb) (scr_alike xs b) fun i k a1 a2 a3 a4 => by
    have := (scr_cell h b i k a1 a2 a3 a4).2
    unfold absI; split <;> omega
   rw [laws_FnPlates_p4_eq]
   simp only [hi',decide_false,Bool.false_eq_true,if_false,impl_ScrapeRow_ok xs h b hb,Option.bind_some,hg,impl_PlateText_ok xs h,impl_ReadPlate_ok xs h,spec_PlateGap_ok xs h,hg2,decide_true,if_true,beq_self_eq_true]
 | n + 1,i,hi => by
   have hi' : (i : Int) < (xs.length : Int) := by omega
   have hil : i < xs.length := by omega
   rw [laws_FnPlates_p4_eq]
   simp only [hi',decide_true,if_true]
   have := law_p5_ok xs h b hb h1 h2 i hil xs[i].length 0 0 (by omega) (by omega) (by simp)
   exact this.trans (law_p4_ok b hb h1 h2 n (i + 1) (by omega))
end
theorem law_p2 (code : List Int) (h1 : ∀ x,x ∈ code → 0 ≤ x ∧ x ≤ 255) (h2 : code.length ≤ 1048576) : laws_FnPlates_p2 code = some true := by
 obtain ⟨xs,e0,hz⟩ := spec_DrawWeakestRow_ok code h1 h2
 rw [laws_FnPlates_p2_eq,e0,Option.bind_some]
 cases hp : plateOk xs with
 | false =>
   have e1 : impl_RowStiff xs = some ([],1) := by
    rw [impl_RowStiff_eq,impl_ValidPlate_ok xs hz.1 hz.2,hp]; rfl
   have e2 : impl_WeakestRow xs = some (0,0,1) := by
    rw [impl_WeakestRow_eq,e1]; rfl
   rw [e1,Option.bind_some,e2]
   rfl
 | true =>
   obtain ⟨b,hb,e2,h3,h4⟩ := impl_WeakestRow_ok xs hp
   have hb0 : ¬ (b : Int) < 0 := by omega
   have hb1 : ¬ (b : Int) ≥ (xs.length : Int) := by omega
   have hb2 : (0 : Int) ≤ (b : Int) := by omega
   have hb3 : (b : Int) < ((xs.map stf).length : Int) := by rw [List.length_map]; omega
   have hx : (xs.map stf)[b]? = some (lA (xs.map stf) b) := lA_get (by rw [List.length_map]; exact hb)
   rw [impl_RowStiff_ok xs hp,Option.bind_some,e2,Option.bind_some]
   dsimp only
   rw [if_neg (by decide),if_neg (by decide),if_neg (by simp)]
   simp only [hb0,hb1,hb2,hb3,decide_true,decide_false,Bool.false_eq_true,if_false,Bool.and_self,if_true,Int.toNat_natCast,hx,Option.bind_some,bne_self_eq_false]
   rw [laws_FnPlates_p3_eq]
   exact law_p4_ok xs hp b hb h3 h4 xs.length 0 (by omega)
theorem laws_FnPlates_true (a0 a1 : List Int) (h0 : ET.wf (.one (.sl (.one (.int .u8)))) a0) (h1 : ET.wf (.one (.sl (.one (.int .u8)))) a1) : laws_FnPlates a0 a1 = some true := by
 rw [laws_FnPlates_eq,laws_b10Long_eq,laws_b10Long_eq]
 simp only [Option.bind_some]
 split
 ·rfl
 ·split
  ·rfl
  ·rename_i h2 h3
   have hx : a0.length ≤ 1048576 := by simp at h2; omega
   have hy : a1.length ≤ 1048576 := by simp at h3; omega
   exact law_p0 a1 a0 (bytes_ok h0) hx (law_p2 a1 (bytes_ok h1) hy)
end Go.Ab.P
