/- Trust of makers, papers without clashes, and the best year. Conditions: bytes are bytes. -/
import Derived.Test.YtfmleilgdgmpeaaBFnTrust
set_option linter.unusedVariables false
set_option linter.unusedSectionVars false
set_option linter.unusedSimpArgs false
set_option maxRecDepth 4000
namespace Go.Ab.P
open Go.Ab
def pI (x : T_Paper.ty) : List UInt8 := x.1
def pK (x : T_Paper.ty) : List UInt8 := x.2.1
def pE (x : T_Paper.ty) : Int := x.2.2.1
def pL (x : T_Paper.ty) : Int := x.2.2.2.1
def pT (x : T_Paper.ty) : Int := x.2.2.2.2.1
theorem p_eta (x : T_Paper.ty) : x = (pI x,pK x,pE x,pL x,pT x,()) := rfl
def Short (x : T_Paper.ty) : Prop := (pI x).length ≤ 100 ∧ (pK x).length ≤ 100
theorem drawPaper {s : T_l00Src.ty} {c : Int} (hs : SrcOk s c) (hc : c ≤ 100000000000000000) (id : List UInt8) (hid : id.length ≤ 100) : ∃ (x : T_Paper.ty) (s' : T_l00Src.ty),spec_l20DrawOne s id = some (x,s') ∧ SrcOk s' (c + 8) ∧ Short x := by
 obtain ⟨t,s1,q1,k1,m1⟩ := text_ok hs (by omega) [[97,109,97,116,105],[103,117,97,100,97,103,110,105,110,105],[114,111,99,99,97],[97,109,97,116,105]] (by decide) (by decide)
 obtain ⟨u,s2,q2,k2,b0,b1⟩ := pick_ok k1 (by omega) 60 (by omega)
 obtain ⟨v,s3,q3,k3,c0,c1⟩ := pick_ok k2 (by omega) 30 (by omega)
 obtain ⟨z,s4,q4,k4,d0,d1⟩ := pick_ok k3 (by omega) 20 (by omega)
 rw [spec_l20DrawOne_eq]
 simp only [q1,q2,q3,q4,Option.bind_some,src_eta]
 have hm : t.length ≤ 100 := (by decide : ∀ t,t ∈ ([[97,109,97,116,105],[103,117,97,100,97,103,110,105,110,105],[114,111,99,99,97],[97,109,97,116,105]] : List (List UInt8)) → t.length ≤ 100) t m1
 exact ⟨_,s4,rfl,k4.up (by omega),hid,hm⟩
theorem bentPaper {s : T_l00Src.ty} {c : Int} (hs : SrcOk s c) (hc : c ≤ 100000000000000000) {x : T_Paper.ty} (hx : Short x) : ∃ (y : T_Paper.ty) (s' : T_l00Src.ty),spec_l20Bent s x = some (y,s') ∧ SrcOk s' (c + 4) ∧ Short y := by
 obtain ⟨v,s1,e1,k1,_⟩ := pick_ok hs (by omega) 18 (by omega)
 obtain ⟨a,t1,f1,g1,_⟩ := among_ok k1 (by omega) [1499,1500,x.2.2.2.1,IntKind.i64.wrap (x.2.2.2.1 + 1)] (by simp) (by simp)
 obtain ⟨a2,t2,f2,g2,_⟩ := among_ok k1 (by omega) [2100,2101] (by decide) (by decide)
 obtain ⟨a3,t3,f3,g3,_⟩ := among_ok k1 (by omega) [0,1,1000,1001] (by decide) (by decide)
 rw [spec_l20Bent_eq]
 simp only [e1,f1,f2,f3,Option.bind_some,src_eta]
 split
 ·exact ⟨_,_,rfl,g1.up (by omega),hx⟩
 ·split
  ·exact ⟨_,_,rfl,g2.up (by omega),hx⟩
  ·split
   ·exact ⟨_,_,rfl,g3.up (by omega),hx⟩
   ·exact ⟨_,_,rfl,k1.up (by omega),hx⟩
def Shorts (xs : List T_Paper.ty) : Prop := ∀ x,x ∈ xs → Short x
theorem Shorts.add {xs : List T_Paper.ty} (h : Shorts xs) {x : T_Paper.ty} (hx : Short x) : Shorts (xs ++ [x]) := fun y hy => by
 rcases List.mem_append.1 hy with hy | hy
 ·exact h y hy
 ·rw [List.mem_singleton.1 hy]; exact hx
theorem papers_loop1 {n : Int} (hn : n ≤ 13) : ∀ (k i : Nat) (s : T_l00Src.ty) (c : Int) (r : List T_Paper.ty),(i : Int) + k = n → SrcOk s c → c + 100 * (k : Int) ≤ 100000000000000 → r.length = i → Shorts r →
 ∃ (r' : List T_Paper.ty) (s' : T_l00Src.ty),spec_l20Draw_p1 n i s.1 s.2.1 s.2.2.1 r = some (r',s') ∧ SrcOk s' (c + 100 * (k : Int)) ∧ r'.length ≤ 20 ∧ Shorts r'
 | 0,i,s,c,r,hk,hs,hc,hl,hr => by
   rw [spec_l20Draw_p1_eq,if_neg (by simp; omega),List.take_length]
   exact ⟨_,_,rfl,hs.up (by omega),by omega,hr⟩
 | k + 1,i,s,c,r,hk,hs,hc,hl,hr => by
   have hlt : (i : Int) < n := by omega
   have hlim : r.length + 1 < lim := by unfold lim; omega
   obtain ⟨x,s1,q1,k1,hx⟩ := drawPaper hs (by omega) ([110] ++ ([IntKind.u8.wrap (IntKind.i64.wrap (97 + (i : Int)))].map vu8)) (by simp)
   have hst : ([110] : List UInt8).length + ([IntKind.u8.wrap (IntKind.i64.wrap (97 + (i : Int)))].map vu8).length ≤ strMax := by simp [strMax]
   rw [spec_l20Draw_p1_eq]
   simp only [hlt,decide_true,if_true,hst,src_eta,q1,Option.bind_some,hlim,List.take_length,wsucc (show i < 4611686018427387904 by omega)]
   obtain ⟨r',s',e,a,b,d⟩ := papers_loop1 hn k (i + 1) s1 _ (r ++ [(pI x,pK x,pE x,pL x,pT x,())]) (by omega) k1 (by omega) (by simp; omega) (hr.add hx)
   exact ⟨r',s',e,a.up (by omega),b,d⟩
def ids6 : List (List UInt8) := [[112,97],[112,98],[112,99],[112,100],[112,101],[112,102]]
theorem papers_loop0 : ∀ (k i : Nat) (s : T_l00Src.ty) (c : Int) (r : List T_Paper.ty),i + k = 6 → SrcOk s c → c + 100 * (k : Int) ≤ 10000000000000 → r.length ≤ i → Shorts r →
 ∃ (r' : List T_Paper.ty) (s' : T_l00Src.ty) (c' : Int),spec_l20Draw_p0 i s.1 s.2.1 s.2.2.1 ids6 r = some (r',s') ∧ SrcOk s' c' ∧ c' ≤ 100000000000000 ∧ r'.length ≤ 20 ∧ Shorts r'
 | 0,i,s,c,r,hk,hs,hc,hl,hr => by
   obtain ⟨u,s1,q1,k1,b0,b1⟩ := pick_ok hs (by omega) 20 (by omega)
   have hlim : r.length + 1 < lim := by unfold lim; omega
   rw [spec_l20Draw_p0_eq,if_neg (by have : ids6.length = 6 := rfl
                                     simp [this]; omega)]
   simp only [src_eta,q1,Option.bind_some]
   split
   ·obtain ⟨x,s2,q2,k2,hx⟩ := drawPaper k1 (by omega) [122,122] (by simp)
    obtain ⟨y,s3,q3,k3,hy⟩ := bentPaper k2 (by omega) hx
    have q3' : spec_l20Bent s2 (x.1,x.2.1,x.2.2.1,x.2.2.2.1,x.2.2.2.2.1,()) = some (y,s3) := q3
    simp only [q2,Option.bind_some,src_eta,q3',hlim,decide_true,if_true,List.take_length]
    exact ⟨_,_,_,rfl,k3,by omega,by simp; omega,hr.add hy⟩
   ·split
    ·obtain ⟨n,s2,q2,k2,hn⟩ := among_ok k1 (by omega) [12,13] (by decide) (by decide)
     have hn' : 0 ≤ n ∧ n ≤ 13 := by simp at hn; omega
     obtain ⟨r',s',e,a,b,d⟩ := papers_loop1 hn'.2 n.toNat 0 s2 _ [] (by omega) k2 (by omega) rfl (fun x hx => by cases hx)
     simp only [q2,Option.bind_some]
     exact ⟨r',s',_,e,a,by omega,b,d⟩
    ·rw [List.take_length]
     exact ⟨_,_,_,rfl,k1,by omega,by omega,hr⟩
 | k + 1,i,s,c,r,hk,hs,hc,hl,hr => by
   have hi : i < ids6.length := by show i < 6; omega
   have hlt : (i : Int) < (ids6.length : Int) := by omega
   have hlim : r.length + 1 < lim := by unfold lim; omega
   obtain ⟨b,s1,q1,k1⟩ := one_ok hs (by omega) 3 (by omega)
   rw [spec_l20Draw_p0_eq]
   simp only [hlt,decide_true,if_true,src_eta,q1,Option.bind_some,Int.natCast_nonneg,Bool.and_self,Int.toNat_natCast,List.getElem?_eq_getElem hi,wsucc (show i < 4611686018427387904 by omega)]
   cases b
   ·have hid : (ids6[i]).length ≤ 100 := (by decide : ∀ t,t ∈ ids6 → t.length ≤ 100) _ (List.getElem_mem hi)
    obtain ⟨x,s2,q2,k2,hx⟩ := drawPaper k1 (by omega) ids6[i] hid
    simp only [Bool.not_false,if_true,q2,Option.bind_some,hlim,decide_true,List.take_length]
    exact papers_loop0 k (i + 1) s2 _ _ (by omega) k2 (by omega) (by simp; omega) (hr.add hx)
   ·simp only [Bool.not_true,Bool.false_eq_true,if_false]
    exact papers_loop0 k (i + 1) s1 _ r (by omega) k1 (by omega) (by omega) hr
theorem papers_draw {s : T_l00Src.ty} (hs : SrcOk s 0) : ∃ (r' : List T_Paper.ty) (s' : T_l00Src.ty) (c' : Int),spec_l20Draw s = some (r',s') ∧ SrcOk s' c' ∧ c' ≤ 100000000000000 ∧ r'.length ≤ 20 ∧ Shorts r' := by
 rw [spec_l20Draw_eq]
 exact papers_loop0 6 0 s 0 [] (by omega) hs (by omega) (by simp) (fun x hx => by cases hx)
theorem trustBy_draw (code : List Int) (h1 : ∀ x,x ∈ code → 0 ≤ x ∧ x ≤ 255) (h2 : code.length ≤ 1048576) : ∃ xs,spec_DrawTrustBy code = some xs ∧ xs.length ≤ 20 ∧ Shorts xs := by
 obtain ⟨s,e,k⟩ := from_ok code h1 h2
 obtain ⟨r,s',c',e2,_,_,hl,hr⟩ := papers_draw k
 refine ⟨r,?_,hl,hr⟩
 rw [spec_DrawTrustBy_eq]
 simp only [e,e2,Option.bind_some,List.take_length]
theorem year_draw (code : List Int) (h1 : ∀ x,x ∈ code → 0 ≤ x ∧ x ≤ 255) (h2 : code.length ≤ 1048576) : ∃ xs y,spec_DrawYearTrust code = some (xs,y) ∧ xs.length ≤ 20 ∧ Shorts xs := by
 obtain ⟨s,e,k⟩ := from_ok code h1 h2
 obtain ⟨r,s',c',e2,k2,hc,hl,hr⟩ := papers_draw k
 obtain ⟨b,s3,q3,k3⟩ := one_ok k2 (by omega) 8 (by omega)
 obtain ⟨u,s4,q4,k4,_⟩ := among_ok k3 (by omega) [1499,1500,2100,2101] (by decide) (by decide)
 obtain ⟨v,s5,q5,k5,_⟩ := pick_ok k3 (by omega) 100 (by omega)
 rw [spec_DrawYearTrust_eq]
 simp only [e,e2,q3,q4,q5,Option.bind_some,src_eta,List.take_length]
 split
 ·exact ⟨_,_,rfl,hl,hr⟩
 ·exact ⟨_,_,rfl,hl,hr⟩
theorem chk_iff {α : Type} {ok : α → Bool} {id : α → List UInt8} : ∀ {l : List α} {p : Option α},sortedChk ok id p l = true ↔ (∀ x,x ∈ l → ok x = true) ∧ l.Pairwise (fun a b => id a < id b) ∧ ∀ y,p = some y → ∀ x,x ∈ l → id y < id x
 | [],p => by simp [sortedChk]
 | z :: r,p => by
   have IH := chk_iff (ok := ok) (id := id) (l := r) (p := some z)
   have e0 : sortedChk ok id p (z :: r) = (ok z && ((match p with | none => true | some y => Op.bytesLess (id y) (id z)) && sortedChk ok id (some z) r)) := by cases p <;> rfl
   rw [e0,Bool.and_eq_true,Bool.and_eq_true,IH]
   constructor
   ·rintro ⟨h1,h2,h3,h4,h5⟩
    refine ⟨fun x hx => ?_,List.pairwise_cons.2 ⟨fun x hx => h5 z rfl x hx,h4⟩,fun y hy x hx => ?_⟩
    ·rcases List.mem_cons.1 hx with rfl | hx
     ·exact h1
     ·exact h3 x hx
    ·subst hy
     have hyz : id y < id z := by simp only [Proofs.bytesLess_eq,decide_eq_true_eq] at h2; exact h2
     rcases List.mem_cons.1 hx with rfl | hx
     ·exact hyz
     ·exact List.lt_trans hyz (h5 z rfl x hx)
   ·rintro ⟨h1,h2,h3⟩
    obtain ⟨h4,h5⟩ := List.pairwise_cons.1 h2
    refine ⟨h1 z List.mem_cons_self,?_,fun x hx => h1 x (List.mem_cons_of_mem _ hx),h5,fun y hy x hx => ?_⟩
    ·cases p with
     | none => rfl
     | some y => simp only [Proofs.bytesLess_eq,decide_eq_true_eq]; exact h3 y rfl z List.mem_cons_self
    ·cases hy; exact h4 x hx
structure Papers (xs : List T_Paper.ty) : Prop where
 ok : ∀ x,x ∈ xs → paperOk x = true
 up : xs.Pairwise fun a b => pI a < pI b
 few : xs.length ≤ 12
theorem papers_iff {xs : List T_Paper.ty} : papersOk xs = true ↔ Papers xs := by
 rw [papersOk,Bool.and_eq_true,chk_iff,decide_eq_true_eq]
 exact ⟨fun h => ⟨h.1.1,h.1.2.1,by have := h.2; omega⟩,fun h => ⟨⟨h.ok,h.up,fun y hy => by cases hy⟩,by have := h.few; omega⟩⟩
theorem Papers.sub {xs ys : List T_Paper.ty} (h : Papers xs) (hs : ys.Sublist xs) : Papers ys :=
 ⟨fun x hx => h.ok x (hs.subset hx),h.up.sublist hs,Nat.le_trans hs.length_le h.few⟩
structure GoodP (x : T_Paper.ty) : Prop where
 i : isName (pI x) = true
 k : isName (pK x) = true
 e0 : 1500 ≤ pE x
 el : pE x ≤ pL x
 l1 : pL x ≤ 2100
 t0 : 1 ≤ pT x
 t1 : pT x ≤ 1000
theorem goodP {x : T_Paper.ty} (h : paperOk x = true) : GoodP x := by
 simp only [paperOk,Bool.and_eq_true,decide_eq_true_eq,inR_iff'] at h
 exact ⟨h.1,h.2.1,h.2.2.1,h.2.2.2.1,h.2.2.2.2.1,h.2.2.2.2.2.1,h.2.2.2.2.2.2⟩
theorem Papers.good {xs : List T_Paper.ty} (h : Papers xs) {x : T_Paper.ty} (hx : x ∈ xs) : GoodP x := goodP (h.ok x hx)
theorem nameLen {s : List UInt8} (h : isName s = true) : s.length ≤ 10 := by
 cases s with
 | nil => simp
 | cons c r => simp only [isName,Bool.and_eq_true,decide_eq_true_eq] at h; exact h.2
theorem valid_iff {xs : List T_Paper.ty} (hl : xs.length ≤ 20) (hs : Shorts xs) : impl_ValidPapers xs = some (papersOk xs) ∧ spec_l20Ok xs = some (papersOk xs) := by
 have hx : ∀ x,x ∈ xs → x.1.length ≤ 1048576 ∧ x.2.1.length ≤ 1048576 := fun x hx => by
  obtain ⟨h1,h2⟩ := hs x hx
  simp only [pI,pK] at h1 h2
  exact ⟨by omega,by omega⟩
 exact ⟨impl_ValidPapers_ok xs (by omega) hx,spec_l20Ok_ok xs (by omega) hx⟩
theorem Papers.shorts {xs : List T_Paper.ty} (h : Papers xs) : Shorts xs := fun x hx => by
 have g := h.good hx
 exact ⟨by have := nameLen g.i; omega,by have := nameLen g.k; omega⟩
theorem Papers.valid {xs : List T_Paper.ty} (h : Papers xs) : impl_ValidPapers xs = some true ∧ spec_l20Ok xs = some true := by
 have := valid_iff (by have := h.few; omega) h.shorts
 rw [papers_iff.2 h] at this; exact this
def clB (a b : T_Paper.ty) : Bool := !(pK a == pK b) || (decide (pL a < pE b) || decide (pL b < pE a))
theorem clB_symm (a b : T_Paper.ty) : clB a b = clB b a := by
 unfold clB; rw [Bool.beq_comm,Bool.or_comm (decide (pL a < pE b))]
theorem clash_int (e l e' l' : Int) (h1 : e ≤ l) (h2 : e' ≤ l') : decide ((if e' > e then e' else e) > (if l' < l then l' else l)) = (decide (l < e') || decide (l' < e)) := by
 rw [Bool.eq_iff_iff,Bool.or_eq_true,decide_eq_true_eq,decide_eq_true_eq,decide_eq_true_eq]
 split <;> split <;> omega
theorem clash_ok {a b : T_Paper.ty} (ha : GoodP a) (hb : GoodP b) : impl_clash a b = some (clB a b) ∧ spec_l20Clash a b = some (clB a b) := by
 have h1 := ha.el
 have h2 := hb.el
 obtain ⟨i,k,e,l,t,u⟩ := a
 obtain ⟨i',k',e',l',t',u'⟩ := b
 simp only [pE,pL] at h1 h2
 rw [impl_clash_eq,spec_l20Clash_eq,clB]
 simp only [pK,pE,pL]
 by_cases c : (k == k') = true
 ·have hd := clash_int e l e' l' h1 h2
  rw [hd]
  simp only [c,Bool.not_true,Bool.false_eq_true,if_false,Bool.false_or]
  refine ⟨rfl,?_⟩
  by_cases c2 : (l : Int) < e'
  ·simp [c2]
  ·simp [c2]; rfl
 ·simp [c]
def pAt (xs : List T_Paper.ty) (i : Nat) : T_Paper.ty := (xs[i]?).getD ([],[],0,0,0,())
theorem pAt_get {xs : List T_Paper.ty} {i : Nat} (h : i < xs.length) : xs[i]? = some (pAt xs i) := by simp [pAt,List.getElem?_eq_getElem h]
theorem pAt_mem {xs : List T_Paper.ty} {i : Nat} (h : i < xs.length) : pAt xs i ∈ xs := List.mem_of_getElem? (pAt_get h)
def Foe (xs : List T_Paper.ty) (i k : Nat) : Prop := k ≠ i ∧ clB (pAt xs i) (pAt xs k) = true
theorem worst_inner {xs : List T_Paper.ty} (h : Papers xs) (b m : Int) {i : Nat} (hi : i < xs.length) : ∀ (n k : Nat) (s : Int),k + n = xs.length → 0 ≤ s ∧ s ≤ 1000 * (k : Int) → (s = 0 ∧ (∀ t,t < k → ¬ Foe xs i t) ∨ 0 < s ∧ ∃ t,t < k ∧ Foe xs i t) →
 ∃ s' : Int,0 ≤ s' ∧ (s' = 0 ∧ (∀ t,t < xs.length → ¬ Foe xs i t) ∨ 0 < s' ∧ ∃ t,t < xs.length ∧ Foe xs i t) ∧
   impl_worst_p1 xs b m i s xs xs.length i xs xs.length k (pI (pAt xs i)) (pK (pAt xs i)) (pE (pAt xs i)) (pL (pAt xs i)) (pT (pAt xs i)) = if decide (s' > m) then impl_worst_p0 xs i s' xs xs.length ((i + 1 : Nat) : Int) else impl_worst_p0 xs b m xs xs.length ((i + 1 : Nat) : Int)
 | 0,k,s,hn,hb,hs => by
   have : k = xs.length := by omega
   subst this
   refine ⟨s,hb.1,hs,?_⟩
   rw [impl_worst_p1_eq,if_neg (by simp),wsucc (by have := h.few; omega)]
 | n + 1,k,s,hn,hb,hs => by
   have hf := h.few
   have hk : k < xs.length := by omega
   have hlt : (k : Int) < (xs.length : Int) := by omega
   have gk := h.good (pAt_mem hk)
   have gi := h.good (pAt_mem hi)
   have ht0 := gk.t0
   have ht1 := gk.t1
   have same : (∀ s1 : Int,s1 = s → ¬ Foe xs i k → ∃ s' : Int,0 ≤ s' ∧ (s' = 0 ∧ (∀ t,t < xs.length → ¬ Foe xs i t) ∨ 0 < s' ∧ ∃ t,t < xs.length ∧ Foe xs i t) ∧
    impl_worst_p1 xs b m i s1 xs xs.length i xs xs.length ((k + 1 : Nat) : Int) (pI (pAt xs i)) (pK (pAt xs i)) (pE (pAt xs i)) (pL (pAt xs i)) (pT (pAt xs i)) = if decide (s' > m) then impl_worst_p0 xs i s' xs xs.length ((i + 1 : Nat) : Int) else impl_worst_p0 xs b m xs xs.length ((i + 1 : Nat) : Int)) := fun s1 e hno => by
    subst e
    refine worst_inner h b m hi n (k + 1) s1 (by omega) (by omega) ?_
    rcases hs with ⟨h1,h2⟩ | ⟨h1,t,h2,h3⟩
    ·refine .inl ⟨h1,fun t ht => ?_⟩
     by_cases e : t = k
     ·subst e; exact hno
     ·exact h2 t (by omega)
    ·exact .inr ⟨h1,t,by omega,h3⟩
   have hw := wsucc (show k < 4611686018427387904 by omega)
   rw [impl_worst_p1_eq]
   simp only [hlt,decide_true,if_true,Int.natCast_nonneg,Int.toNat_natCast,pAt_get hk,Option.bind_some,hw,← p_eta,(clash_ok gi gk).1]
   by_cases e : i = k
   ·rw [if_neg (by simp [e])]
    exact same s rfl fun hfoe => hfoe.1 e.symm
   ·have ne : ((i : Int) != (k : Int)) = true := by simp; omega
    rw [if_pos ne]
    by_cases c : clB (pAt xs i) (pAt xs k) = true
    ·rw [if_pos c]
     have hw2 : IntKind.i64.wrap (s + (pAt xs k).2.2.2.2.1) = s + pT (pAt xs k) := w64 (n := s + pT (pAt xs k)) (by omega) (by omega)
     rw [hw2]
     exact worst_inner h b m hi n (k + 1) _ (by omega) (by omega) (.inr ⟨by omega,k,by omega,fun e' => e e'.symm,c⟩)
    ·rw [if_neg c]
     exact same s rfl fun hfoe => c hfoe.2
theorem worst_outer {xs : List T_Paper.ty} (h : Papers xs) : ∀ (n i : Nat) (b m : Int),i + n = xs.length → (b = -1 ∧ m = 0 ∧ (∀ j,j < i → ∀ t,t < xs.length → ¬ Foe xs j t) ∨ 0 < m ∧ ∃ j,j < i ∧ b = (j : Int) ∧ ∃ t,t < xs.length ∧ Foe xs j t) →
 ∃ r : Int,impl_worst_p0 xs b m xs xs.length i = some r ∧ (r = -1 ∧ (∀ j,j < xs.length → ∀ t,t < xs.length → ¬ Foe xs j t) ∨ ∃ j : Nat,j < xs.length ∧ r = (j : Int) ∧ ∃ t,t < xs.length ∧ Foe xs j t)
 | 0,i,b,m,hn,hs => by
   have : i = xs.length := by omega
   subst this
   refine ⟨b,by rw [impl_worst_p0_eq,if_neg (by simp)],?_⟩
   rcases hs with ⟨h1,_,h2⟩ | ⟨_,h1⟩
   ·exact .inl ⟨h1,h2⟩
   ·exact .inr h1
 | n + 1,i,b,m,hn,hs => by
   have hf := h.few
   have hi : i < xs.length := by omega
   have hlt : (i : Int) < (xs.length : Int) := by omega
   obtain ⟨s,s0,hs',e⟩ := worst_inner h b m hi xs.length 0 0 (by omega) (by omega) (.inl ⟨rfl,fun t ht => by omega⟩)
   rw [impl_worst_p0_eq]
   simp only [hlt,decide_true,if_true,Int.natCast_nonneg,Int.toNat_natCast,pAt_get hi,Option.bind_some]
   have e' : impl_worst_p1 xs b m i 0 xs xs.length i xs xs.length 0 (pAt xs i).1 (pAt xs i).2.1 (pAt xs i).2.2.1 (pAt xs i).2.2.2.1 (pAt xs i).2.2.2.2.1 = _ := e
   rw [e']
   by_cases c : s > m
   ·rw [if_pos (decide_eq_true c)]
    refine worst_outer h n (i + 1) i s (by omega) (.inr ⟨?_,i,by omega,rfl,?_⟩)
    ·rcases hs with ⟨_,h2,_⟩ | ⟨h2,_⟩ <;> omega
    ·rcases hs' with ⟨h1,_⟩ | ⟨_,h1⟩
     ·rcases hs with ⟨_,h2,_⟩ | ⟨h2,_⟩ <;> omega
     ·exact h1
   ·rw [if_neg (by simpa using c)]
    refine worst_outer h n (i + 1) b m (by omega) ?_
    rcases hs with ⟨h1,h2,h3⟩ | ⟨h1,j,h2,h3⟩
    ·refine .inl ⟨h1,h2,fun j hj => ?_⟩
     by_cases e : j = i
     ·subst e
      rcases hs' with ⟨_,q⟩ | ⟨q,_⟩
      ·exact q
      ·omega
     ·exact h3 j (by omega)
    ·exact .inr ⟨h1,j,by omega,h3⟩
def Calm (xs : List T_Paper.ty) : Prop := ∀ j,j < xs.length → ∀ t,t < xs.length → ¬ Foe xs j t
theorem worst_ok {xs : List T_Paper.ty} (h : Papers xs) : ∃ r : Int,impl_worst xs = some r ∧ (r = -1 ∧ Calm xs ∨ ∃ j : Nat,j < xs.length ∧ r = (j : Int) ∧ ∃ t,t < xs.length ∧ Foe xs j t) := by
 rw [impl_worst_eq]
 exact worst_outer h xs.length 0 (-1) 0 (by omega) (.inl ⟨rfl,rfl,fun j hj => by omega⟩)
theorem drop_loop : ∀ (n : Nat) (xs : List T_Paper.ty) (r : Int),xs.length ≤ n → Papers xs → impl_worst xs = some r →
 ∃ ys,impl_DropClashes_p0 r xs = some (ys,0) ∧ Papers ys ∧ Calm ys ∧ ys.length ≤ xs.length ∧ (0 < xs.length → 0 < ys.length) ∧ (r ≠ -1 → ys.length < xs.length) ∧ (r = -1 → ys.length = xs.length) := by
 intro n
 induction n with
 | zero =>
   intro xs r hn hp hr
   obtain ⟨r',e,hc⟩ := worst_ok hp
   rw [hr] at e
   cases e
   rcases hc with ⟨rfl,hc⟩ | ⟨j,hj,_⟩
   ·refine ⟨xs,?_,hp,hc,Nat.le_refl _,id,fun h => absurd rfl h,fun _ => rfl⟩
    rw [impl_DropClashes_p0_eq,if_neg (by decide),List.take_length]
   ·omega
 | succ n ih =>
   intro xs r hn hp hr
   have hf := hp.few
   obtain ⟨r',e,hc⟩ := worst_ok hp
   rw [hr] at e
   cases e
   rcases hc with ⟨rfl,hc⟩ | ⟨j,hj,rfl,t,ht,hfoe⟩
   ·refine ⟨xs,?_,hp,hc,Nat.le_refl _,id,fun h => absurd rfl h,fun _ => rfl⟩
    rw [impl_DropClashes_p0_eq,if_neg (by decide),List.take_length]
   ·have hne := hfoe.1
    have hsub : (xs.take j ++ xs.drop (j + 1)).Sublist xs := by
     have h1 : (xs.take j ++ xs.drop (j + 1)).Sublist (xs.take j ++ xs.drop j) := List.Sublist.append (List.Sublist.refl _) (List.drop_sublist_drop_left xs (by omega))
     rwa [List.take_append_drop] at h1
    have hlen : (xs.take j ++ xs.drop (j + 1)).length = xs.length - 1 := by simp; omega
    have hw := wsucc (show j < 4611686018427387904 by omega)
    have c1 : (j : Int) < ((j + 1 : Nat) : Int) := by omega
    have c2 : ((j + 1 : Nat) : Int) ≤ (xs.length : Int) := by omega
    have c3 : xs.length < 1099511627776 := by omega
    have hd : slices_Delete___impl_Paper_impl_Paper_ xs j ((j + 1 : Nat) : Int) = some (xs.take j ++ xs.drop (j + 1),()) := by
     rw [slices_Delete___impl_Paper_impl_Paper__eq]
     simp only [Int.natCast_nonneg,c1,c2,c3,decide_true,Bool.and_self,if_true,Int.toNat_natCast]
    have hp2 := hp.sub hsub
    obtain ⟨r2,e2,_⟩ := worst_ok hp2
    obtain ⟨ys,q1,q2,q3,q4,q5,q6,q7⟩ := ih _ r2 (by rw [hlen]; omega) hp2 e2
    rw [hlen] at q4 q5
    have p1 : 0 < xs.length - 1 := by clear q4 q5 q6 q7 e2 hd hw; omega
    have p2 : ys.length < xs.length := by clear q5 q6 q7 e2 hd hw; omega
    refine ⟨ys,?_,q2,q3,Nat.le_of_lt p2,fun _ => q5 p1,fun _ => p2,fun h => by have : (j : Int) = -1 := h; clear q4 q5 q6 q7 e2 hd hw; omega⟩
    rw [impl_DropClashes_p0_eq,if_pos (by simp)]
    simp only [decide_true,if_true,hw,hd,Option.bind_some,List.take_length,e2]
    exact q1
theorem clonePapers {xs : List T_Paper.ty} (h : xs.length ≤ 1048576) : impl_clone_impl_Paper_ xs = some xs := by
 rw [impl_clone_impl_Paper__eq]
 have h1 : ((xs.length : Int)).toNat < lim := by unfold lim; omega
 have h2 : 0 + xs.length < lim := by unfold lim; omega
 simp only [Int.natCast_nonneg,h1,h2,decide_true,Bool.and_self,if_true,List.nil_append,List.take_length]
theorem drop_ok {xs : List T_Paper.ty} (h : Papers xs) : ∃ ys,impl_DropClashes xs = some (ys,0) ∧ Papers ys ∧ Calm ys ∧ ys.length ≤ xs.length ∧ (0 < xs.length → 0 < ys.length) ∧ (ys.length = xs.length ↔ Calm xs) ∧
 ∃ i c,impl_WorstPaper xs = some (i,c) ∧ (c = 3 ∧ Calm xs ∨ c = 0 ∧ i ≠ [] ∧ ¬ Calm xs) := by
 have hf := h.few
 obtain ⟨r,e,hc⟩ := worst_ok h
 obtain ⟨ys,q1,q2,q3,q4,q5,q6,q7⟩ := drop_loop xs.length xs r (Nat.le_refl _) h e
 have hcalm : r = -1 ↔ Calm xs := by
  rcases hc with ⟨e1,e2⟩ | ⟨j,hj,e1,t,ht,hfoe⟩
  ·exact ⟨fun _ => e2,fun _ => e1⟩
  ·exact ⟨fun e => by omega,fun e => absurd hfoe (e j hj t ht)⟩
 refine ⟨ys,?_,q2,q3,q4,q5,⟨fun e => ?_,fun e => q7 (hcalm.2 e)⟩,?_⟩
 ·rw [impl_DropClashes_eq,h.valid.1]
  simp only [Option.bind_some,Bool.not_true,Bool.false_eq_true,if_false,clonePapers (show xs.length ≤ 1048576 by omega),List.take_length,e]
  exact q1
 ·by_cases c : r = -1
  ·exact hcalm.1 c
  ·have := q6 c; omega
 ·rw [impl_WorstPaper_eq,h.valid.1]
  simp only [Option.bind_some,Bool.not_true,Bool.false_eq_true,if_false,e]
  rcases hc with ⟨e1,e2⟩ | ⟨j,hj,e1,t,ht,hfoe⟩
  ·subst e1
   exact ⟨[],3,rfl,.inl ⟨rfl,e2⟩⟩
  ·subst e1
   have n1 : ¬ (j : Int) < 0 := by omega
   simp only [n1,decide_false,Bool.false_eq_true,if_false,Int.natCast_nonneg,decide_true,if_true,Int.toNat_natCast,pAt_get hj,Option.bind_some]
   refine ⟨_,_,rfl,.inr ⟨rfl,fun e => ?_,fun hcal => hcal j hj t ht hfoe⟩⟩
   have := (h.good (pAt_mem hj)).i
   rw [show pI (pAt xs j) = [] from e] at this
   simp [isName] at this
theorem index_loop {l : List (List UInt8)} (hl : l.length ≤ 1048576) {a : List UInt8} (ha : a ∈ l) : ∀ (n i : Nat),i + n = l.length → (∀ t,t < i → l[t]? ≠ some a) → ∃ j : Nat,j < l.length ∧ slices_Index___string_string__p0 l a l.length i = some (j : Int)
 | 0,i,hn,hi => by
   obtain ⟨t,ht,e⟩ := List.mem_iff_getElem.1 ha
   exact absurd (by rw [List.getElem?_eq_getElem ht,e]) (hi t (by omega))
 | n + 1,i,hn,hi => by
   have hil : i < l.length := by omega
   have hlt : (i : Int) < (l.length : Int) := by omega
   rw [slices_Index___string_string__p0_eq]
   simp only [hlt,decide_true,if_true,Int.natCast_nonneg,Int.toNat_natCast,List.getElem?_eq_getElem hil,Option.bind_some,wsucc (show i < 4611686018427387904 by omega)]
   by_cases c : (a == l[i]) = true
   ·rw [if_pos c]; exact ⟨i,hil,rfl⟩
   ·rw [if_neg c]
    refine index_loop hl ha n (i + 1) (by omega) fun t ht => ?_
    by_cases e : t = i
    ·subst e
     rw [List.getElem?_eq_getElem hil]
     intro e; cases e; simp at c
    ·exact hi t (by omega)
theorem index_ok {l : List (List UInt8)} (hl : l.length ≤ 1048576) {a : List UInt8} (ha : a ∈ l) : ∃ j : Nat,j < l.length ∧ slices_Index___string_string_ l a = some (j : Int) := by
 rw [slices_Index___string_string__eq]
 exact index_loop hl ha l.length 0 (by omega) fun t ht => by omega
theorem inside_loop {l : List (List UInt8)} (hl : l.length ≤ 1048576) {a : List UInt8} (ha : a ∈ l) : ∀ (n i : Nat),i + n = l.length → (∀ t,t < i → l[t]? ≠ some a) → laws_b10Inside_p0 l a i = some true
 | 0,i,hn,hi => by
   obtain ⟨t,ht,e⟩ := List.mem_iff_getElem.1 ha
   exact absurd (by rw [List.getElem?_eq_getElem ht,e]) (hi t (by omega))
 | n + 1,i,hn,hi => by
   have hil : i < l.length := by omega
   have hlt : (i : Int) < (l.length : Int) := by omega
   rw [laws_b10Inside_p0_eq]
   simp only [hlt,decide_true,if_true,Int.natCast_nonneg,Int.toNat_natCast,List.getElem?_eq_getElem hil,Option.bind_some,wsucc (show i < 4611686018427387904 by omega)]
   by_cases c : (l[i] == a) = true
   ·rw [if_pos c]
   ·rw [if_neg c]
    refine inside_loop hl ha n (i + 1) (by omega) fun t ht => ?_
    by_cases e : t = i
    ·subst e
     rw [List.getElem?_eq_getElem hil]
     intro e; cases e; simp at c
    ·exact hi t (by omega)
theorem inside_ok {l : List (List UInt8)} (hl : l.length ≤ 1048576) {a : List UInt8} (ha : a ∈ l) : laws_b10Inside l a = some true := by
 rw [laws_b10Inside_eq]
 exact inside_loop hl ha l.length 0 (by omega) fun t ht => by omega
def makers (xs : List T_Paper.ty) : List (List UInt8) := lessP (xs.map pK)
theorem makers_len (xs : List T_Paper.ty) : (makers xs).length ≤ xs.length := by
 have := lessP_le (xs.map pK); rwa [List.length_map] at this
theorem makers_mem {xs : List T_Paper.ty} {x : T_Paper.ty} (hx : x ∈ xs) : pK x ∈ makers xs := ((less_runs (xs.map pK)).2.2 _).2 (List.mem_map_of_mem hx)
theorem makers_up (xs : List T_Paper.ty) : (makers xs).Pairwise (· < ·) := (less_runs (xs.map pK)).2.1
def tsum (xs : List T_Paper.ty) (i : Nat) : Int := isum ((xs.take i).map pT)
theorem tsum_succ {xs : List T_Paper.ty} {i : Nat} (hi : i < xs.length) : tsum xs (i + 1) = tsum xs i + pT (pAt xs i) := by
 rw [tsum,List.take_succ_eq_append_getElem hi,List.map_append,isum_app,show xs[i] = pAt xs i by simp [pAt,List.getElem?_eq_getElem hi]]
 simp [isum,tsum]
theorem tsum_bd {xs : List T_Paper.ty} (h : Papers xs) : ∀ i,i ≤ xs.length → 0 ≤ tsum xs i ∧ tsum xs i ≤ 1000 * (i : Int)
 | 0,_ => by simp [tsum,isum]
 | i + 1,hi => by
   have h1 := tsum_bd h i (by omega)
   have g := h.good (pAt_mem (show i < xs.length by omega))
   have := g.t0; have := g.t1
   rw [tsum_succ (by omega)]; omega
theorem trust_loop1 {xs : List T_Paper.ty} (h : Papers xs) : ∀ (n i : Nat),i + n = xs.length → impl_TrustBy_p0 xs xs xs.length i ((xs.take i).map pK) = impl_TrustBy_p1 (makers xs) (makers xs).length xs xs.length 0 (List.replicate (makers xs).length (0 : Int))
 | 0,i,hn => by
   have : i = xs.length := by omega
   subst this
   have hf := h.few
   have hm := makers_len xs
   have hlim : (makers xs).length < lim := by unfold lim; omega
   rw [impl_TrustBy_p0_eq,if_neg (by simp),List.take_length,sortedSet_ok _ (by rw [List.length_map]; omega)]
   show (if decide _ = true then (some (makers xs,())).bind _ else none) = _
   simp only [decide_true,if_true,Option.bind_some,Int.natCast_nonneg,Int.toNat_natCast,Int.le_refl,hlim,Bool.and_self,List.length_replicate]
 | n + 1,i,hn => by
   have hf := h.few
   have hi : i < xs.length := by omega
   have hlt : (i : Int) < (xs.length : Int) := by omega
   have hlim : ((xs.take i).map pK).length + 1 < lim := by rw [List.length_map,List.length_take]; unfold lim; omega
   have e : (xs.take i).map pK ++ [(pAt xs i).2.1] = (xs.take (i + 1)).map pK := by
    rw [List.take_succ_eq_append_getElem hi,List.map_append,show xs[i] = pAt xs i by simp [pAt,List.getElem?_eq_getElem hi]]; rfl
   rw [impl_TrustBy_p0_eq]
   simp only [hlt,decide_true,if_true,Int.natCast_nonneg,Int.toNat_natCast,pAt_get hi,Option.bind_some,hlim,wsucc (show i < 4611686018427387904 by omega),List.take_length,e]
   exact trust_loop1 h n (i + 1) (by omega)
theorem trust_loop2 {xs : List T_Paper.ty} (h : Papers xs) : ∀ (n i : Nat) (l : List Int),i + n = xs.length → l.length = (makers xs).length → (∀ v,v ∈ l → 0 ≤ v ∧ v ≤ 1000 * (i : Int)) → isum l = tsum xs i →
 ∃ l',impl_TrustBy_p1 (makers xs) (makers xs).length xs xs.length i l = some (makers xs,l',0) ∧ l'.length = (makers xs).length ∧ (∀ v,v ∈ l' → 0 ≤ v ∧ v ≤ 1000000000) ∧ isum l' = tsum xs xs.length
 | 0,i,l,hn,hl,hb,hs => by
   have : i = xs.length := by omega
   subst this
   have hf := h.few
   refine ⟨l,?_,hl,fun v hv => ⟨(hb v hv).1,by have := (hb v hv).2; omega⟩,hs⟩
   rw [impl_TrustBy_p1_eq,if_neg (by simp),← hl,List.take_length]
 | n + 1,i,l,hn,hl,hb,hs => by
   have hf := h.few
   have hm := makers_len xs
   have hi : i < xs.length := by omega
   have hlt : (i : Int) < (xs.length : Int) := by omega
   have g := h.good (pAt_mem hi)
   have ht0 := g.t0; have ht1 := g.t1
   obtain ⟨j,hj,e⟩ := index_ok (show (makers xs).length ≤ 1048576 by omega) (makers_mem (pAt_mem hi))
   have e' : slices_Index___string_string_ (makers xs) (pAt xs i).2.1 = some (j : Int) := e
   have hjl : j < l.length := by omega
   have hjn : (j : Int) < ((makers xs).length : Int) := by omega
   have hv := hb _ (List.getElem_mem hjl)
   have hw : IntKind.i64.wrap (l[j] + (pAt xs i).2.2.2.2.1) = l[j] + pT (pAt xs i) := w64 (n := l[j] + pT (pAt xs i)) (by omega) (by omega)
   rw [impl_TrustBy_p1_eq]
   simp only [hlt,decide_true,if_true,Int.natCast_nonneg,Int.toNat_natCast,pAt_get hi,Option.bind_some,e',hjn,Bool.and_self,List.getElem?_eq_getElem hjl,hw,wsucc (show i < 4611686018427387904 by omega)]
   refine trust_loop2 h n (i + 1) _ (by omega) (by simpa using hl) (fun v hv' => ?_) ?_
   ·rcases List.mem_or_eq_of_mem_set hv' with h1 | h1
    ·have := hb v h1; omega
    ·omega
   ·rw [isum_set _ _ _ hjl,hs,tsum_succ hi]; omega
theorem trust_ok {xs : List T_Paper.ty} (h : Papers xs) : ∃ l,impl_TrustBy xs = some (makers xs,l,0) ∧ l.length = (makers xs).length ∧ laws_b10Sum l = some (tsum xs xs.length) := by
 have hf := h.few
 have hm := makers_len xs
 have z : ∀ n : Nat,isum (List.replicate n 0) = 0 := fun n => by
  induction n with
  | zero => rfl
  | succ n ih => rw [List.replicate_succ,isum,ih]; rfl
 obtain ⟨l,e,hl,hb,hs⟩ := trust_loop2 h xs.length 0 (List.replicate (makers xs).length 0) (by omega) (by simp) (fun v hv => by rw [List.eq_of_mem_replicate hv]; omega) (by rw [z]; simp [tsum,isum])
 refine ⟨l,?_,hl,by rw [laws_b10Sum_ok l (by omega) hb,hs]⟩
 rw [impl_TrustBy_eq,h.valid.1]
 simp only [Option.bind_some,Bool.not_true,Bool.false_eq_true,if_false]
 exact (trust_loop1 h xs.length 0 (by omega)).trans e
def Fight (xs : List T_Paper.ty) (i k : Nat) : Prop := ∃ a b,a < b ∧ b < xs.length ∧ (a < i ∨ a = i ∧ b < k) ∧ clB (pAt xs a) (pAt xs b) = true
theorem calm_iff {xs : List T_Paper.ty} : Calm xs ↔ ¬ Fight xs xs.length 0 := by
 constructor
 ·rintro h ⟨a,b,h1,h2,_,h4⟩
  exact h a (by omega) b h2 ⟨by omega,h4⟩
 ·intro h j hj t ht hfoe
  rcases Nat.lt_or_gt_of_ne hfoe.1 with c | c
  ·exact h ⟨t,j,c,hj,.inl ht,by rw [clB_symm]; exact hfoe.2⟩
  ·exact h ⟨j,t,c,ht,.inl hj,hfoe.2⟩
theorem fight_succ {xs : List T_Paper.ty} {i k : Nat} (hik : i < k) (hk : k < xs.length) : Fight xs i (k + 1) ↔ Fight xs i k ∨ clB (pAt xs i) (pAt xs k) = true := by
 constructor
 ·rintro ⟨a,b,h1,h2,h3,h4⟩
  by_cases e : a = i ∧ b = k
  ·obtain ⟨rfl,rfl⟩ := e; exact .inr h4
  ·exact .inl ⟨a,b,h1,h2,by omega,h4⟩
 ·rintro (⟨a,b,h1,h2,h3,h4⟩ | h)
  ·exact ⟨a,b,h1,h2,by omega,h4⟩
  ·exact ⟨i,k,hik,hk,.inr ⟨rfl,by omega⟩,h⟩
theorem fight_row {xs : List T_Paper.ty} {i : Nat} : Fight xs i xs.length ↔ Fight xs (i + 1) 0 := by
 constructor
 ·rintro ⟨a,b,h1,h2,h3,h4⟩; exact ⟨a,b,h1,h2,by omega,h4⟩
 ·rintro ⟨a,b,h1,h2,h3,h4⟩; exact ⟨a,b,h1,h2,by omega,h4⟩
theorem fight_start {xs : List T_Paper.ty} {i : Nat} : Fight xs i 0 ↔ Fight xs i (i + 1) := by
 constructor
 ·rintro ⟨a,b,h1,h2,h3,h4⟩; exact ⟨a,b,h1,h2,by omega,h4⟩
 ·rintro ⟨a,b,h1,h2,h3,h4⟩; exact ⟨a,b,h1,h2,by omega,h4⟩
theorem pairs_in {xs : List T_Paper.ty} (h : Papers xs) {i : Nat} (hi : i < xs.length) : ∀ (n k : Nat) (l : List (List Int)),k + n = xs.length → i < k → l.length ≤ 100 * i + k → (0 < l.length ↔ Fight xs i k) →
 ∃ l' : List (List Int),l'.length ≤ 100 * i + xs.length ∧ (0 < l'.length ↔ Fight xs (i + 1) 0) ∧ impl_ClashPairs_p1 xs i k xs xs.length i l (pI (pAt xs i)) (pK (pAt xs i)) (pE (pAt xs i)) (pL (pAt xs i)) (pT (pAt xs i)) = impl_ClashPairs_p0 xs xs xs.length ((i + 1 : Nat) : Int) l'
 | 0,k,l,hn,hik,hl,hs => by
   have : k = xs.length := by omega
   subst this
   refine ⟨l,hl,hs.trans fight_row,?_⟩
   rw [impl_ClashPairs_p1_eq,if_neg (by simp),wsucc (by have := h.few; omega)]
 | n + 1,k,l,hn,hik,hl,hs => by
   have hf := h.few
   have hk : k < xs.length := by omega
   have hlt : (k : Int) < (xs.length : Int) := by omega
   have hlim : l.length + 1 < lim := by unfold lim; omega
   rw [impl_ClashPairs_p1_eq]
   simp only [hlt,decide_true,if_true,Int.natCast_nonneg,Int.toNat_natCast,pAt_get hk,Option.bind_some,← p_eta,(clash_ok (h.good (pAt_mem hi)) (h.good (pAt_mem hk))).1,wsucc (show k < 4611686018427387904 by omega),hlim,List.take_length]
   by_cases c : clB (pAt xs i) (pAt xs k) = true
   ·rw [if_pos c]
    exact pairs_in h hi n (k + 1) _ (by omega) (by omega) (by simp; omega) (by rw [fight_succ hik hk]; simp [c])
   ·rw [if_neg c]
    exact pairs_in h hi n (k + 1) l (by omega) (by omega) (by omega) (by rw [fight_succ hik hk,hs]; simp [c])
theorem pairs_out {xs : List T_Paper.ty} (h : Papers xs) : ∀ (n i : Nat) (l : List (List Int)),i + n = xs.length → l.length ≤ 100 * i → (0 < l.length ↔ Fight xs i 0) →
 ∃ (l' : List (List Int)) (c : Int),impl_ClashPairs_p0 xs xs xs.length i l = some (l',c) ∧ (c = 5 ∨ c = 0 ∧ (l'.length = 0 ↔ Calm xs))
 | 0,i,l,hn,hl,hs => by
   have : i = xs.length := by omega
   subst this
   rw [impl_ClashPairs_p0_eq,if_neg (by simp),impl_few_eq,Option.bind_some,List.take_length]
   by_cases c : (l.length : Int) ≤ 24
   ·refine ⟨l,0,by simp [c],.inr ⟨rfl,?_⟩⟩
    rw [calm_iff,← hs]; omega
   ·exact ⟨[],5,by simp [c],.inl rfl⟩
 | n + 1,i,l,hn,hl,hs => by
   have hf := h.few
   have hi : i < xs.length := by omega
   have hlt : (i : Int) < (xs.length : Int) := by omega
   obtain ⟨l1,a1,a2,a3⟩ := pairs_in h hi n (i + 1) l (by omega) (by omega) (by omega) (hs.trans fight_start)
   rw [impl_ClashPairs_p0_eq]
   simp only [hlt,decide_true,if_true,Int.natCast_nonneg,Int.toNat_natCast,pAt_get hi,Option.bind_some,wsucc (show i < 4611686018427387904 by omega)]
   obtain ⟨l2,c,e,hc⟩ := pairs_out h n (i + 1) l1 (by omega) (by omega) a2
   exact ⟨l2,c,a3.trans e,hc⟩
theorem clashPairs_ok {xs : List T_Paper.ty} (h : Papers xs) : ∃ (l : List (List Int)) (c : Int),impl_ClashPairs xs = some (l,c) ∧ (c = 5 ∨ c = 0 ∧ (l.length = 0 ↔ Calm xs)) := by
 rw [impl_ClashPairs_eq,h.valid.1]
 simp only [Option.bind_some,Bool.not_true,Bool.false_eq_true,if_false]
 exact pairs_out h xs.length 0 [] (by omega) (by simp) ⟨fun e => by simp at e,fun ⟨a,b,h1,h2,h3,h4⟩ => by omega⟩
theorem spec_in {xs : List T_Paper.ty} (h : Papers xs) (hc : Calm xs) {i : Nat} (hi : i < xs.length) : ∀ (n k : Nat),k + n = xs.length → i < k → spec_ClashPairs_p1 xs i k [] = spec_ClashPairs_p0 xs ((i + 1 : Nat) : Int) []
 | 0,k,hn,hik => by
   have : k = xs.length := by omega
   subst this
   rw [spec_ClashPairs_p1_eq,if_neg (by simp),wsucc (by have := h.few; omega)]
 | n + 1,k,hn,hik => by
   have hf := h.few
   have hk : k < xs.length := by omega
   have hlt : (k : Int) < (xs.length : Int) := by omega
   have c : clB (pAt xs i) (pAt xs k) = false := by
    cases e : clB (pAt xs i) (pAt xs k) with
    | false => rfl
    | true => exact absurd ⟨by omega,e⟩ (hc i hi k hk)
   rw [spec_ClashPairs_p1_eq]
   simp only [hlt,decide_true,if_true,Int.natCast_nonneg,Int.toNat_natCast,pAt_get hi,pAt_get hk,Option.bind_some,(clash_ok (h.good (pAt_mem hi)) (h.good (pAt_mem hk))).2,c,Bool.false_eq_true,if_false,wsucc (show k < 4611686018427387904 by omega)]
   exact spec_in h hc hi n (k + 1) (by omega) (by omega)
theorem spec_out {xs : List T_Paper.ty} (h : Papers xs) (hc : Calm xs) : ∀ (n i : Nat),i + n = xs.length → spec_ClashPairs_p0 xs i [] = some ([],0)
 | 0,i,hn => by
   have : i = xs.length := by omega
   subst this
   rw [spec_ClashPairs_p0_eq,if_neg (by simp)]; rfl
 | n + 1,i,hn => by
   have hf := h.few
   have hlt : (i : Int) < (xs.length : Int) := by omega
   rw [spec_ClashPairs_p0_eq,if_pos (decide_eq_true hlt),wsucc (show i < 4611686018427387904 by omega),spec_in h hc (by omega) n (i + 1) (by omega) (by omega)]
   exact spec_out h hc n (i + 1) (by omega)
theorem specPairs_ok {xs : List T_Paper.ty} (h : Papers xs) (hc : Calm xs) : spec_ClashPairs xs = some ([],0) := by
 rw [spec_ClashPairs_eq,h.valid.2]
 simp only [Option.bind_some,Bool.not_true,Bool.false_eq_true,if_false]
 exact spec_out h hc xs.length 0 (by omega)
def yT (y : Int) (x : T_Paper.ty) : Int := if pE x ≤ y ∧ y ≤ pL x then pT x else 0
def yS (xs : List T_Paper.ty) (y : Int) (i : Nat) : Int := isum ((xs.take i).map (yT y))
theorem yS_succ {xs : List T_Paper.ty} (y : Int) {i : Nat} (hi : i < xs.length) : yS xs y (i + 1) = yS xs y i + yT y (pAt xs i) := by
 rw [yS,List.take_succ_eq_append_getElem hi,List.map_append,isum_app,show xs[i] = pAt xs i by simp [pAt,List.getElem?_eq_getElem hi]]
 simp [isum,yS]
theorem yT_bd {x : T_Paper.ty} (h : GoodP x) (y : Int) : 0 ≤ yT y x ∧ yT y x ≤ 1000 := by
 have := h.t0; have := h.t1
 unfold yT; split <;> omega
theorem yS_bd {xs : List T_Paper.ty} (h : Papers xs) (y : Int) : ∀ i,i ≤ xs.length → 0 ≤ yS xs y i ∧ yS xs y i ≤ 1000 * (i : Int)
 | 0,_ => by simp [yS,isum]
 | i + 1,hi => by
   have h1 := yS_bd h y i (by omega)
   have := yT_bd (h.good (pAt_mem (show i < xs.length by omega))) y
   rw [yS_succ y (by omega)]; omega
theorem year_loop {xs : List T_Paper.ty} (h : Papers xs) (y : Int) : ∀ (n i : Nat),i + n = xs.length → impl_yearTrust_p0 y (yS xs y i) xs xs.length i = some (yS xs y xs.length)
 | 0,i,hn => by
   have : i = xs.length := by omega
   subst this
   rw [impl_yearTrust_p0_eq,if_neg (by simp)]
 | n + 1,i,hn => by
   have hf := h.few
   have hi : i < xs.length := by omega
   have hlt : (i : Int) < (xs.length : Int) := by omega
   have hb := yS_bd h y (i + 1) (by omega)
   have IH := year_loop h y n (i + 1) (by omega)
   rw [yS_succ y hi] at IH hb
   have hin : inR y (pAt xs i).2.2.1 (pAt xs i).2.2.2.1 = decide (pE (pAt xs i) ≤ y ∧ y ≤ pL (pAt xs i)) := by
    rw [Bool.eq_iff_iff,inR_iff',decide_eq_true_eq]; exact Iff.rfl
   rw [impl_yearTrust_p0_eq]
   simp only [hlt,decide_true,if_true,Int.natCast_nonneg,Int.toNat_natCast,pAt_get hi,Option.bind_some,impl_within_ok,hin,wsucc (show i < 4611686018427387904 by omega)]
   by_cases c : pE (pAt xs i) ≤ y ∧ y ≤ pL (pAt xs i)
   ·have e : yT y (pAt xs i) = pT (pAt xs i) := by rw [yT,if_pos c]
    rw [e] at IH hb
    have hw : IntKind.i64.wrap (yS xs y i + (pAt xs i).2.2.2.2.1) = yS xs y i + pT (pAt xs i) := w64 (n := yS xs y i + pT (pAt xs i)) (by omega) (by omega)
    rw [if_pos (decide_eq_true c),hw]
    exact IH
   ·have e : yT y (pAt xs i) = 0 := by rw [yT,if_neg c]
    rw [e,Int.add_zero] at IH
    rw [if_neg (by simpa using c)]
    exact IH
def yr (xs : List T_Paper.ty) (y : Int) : Int := yS xs y xs.length
theorem year_ok {xs : List T_Paper.ty} (h : Papers xs) (y : Int) : impl_yearTrust xs y = some (yr xs y) := by
 rw [impl_yearTrust_eq]; exact year_loop h y xs.length 0 (by omega)
theorem l20_loop {xs : List T_Paper.ty} (h : Papers xs) (y : Int) : ∀ (n i : Nat),i + n = xs.length → spec_l20Trust_p0 xs y (yS xs y i) i = some (yS xs y xs.length)
 | 0,i,hn => by
   have : i = xs.length := by omega
   subst this
   rw [spec_l20Trust_p0_eq,if_neg (by simp)]
 | n + 1,i,hn => by
   have hf := h.few
   have hi : i < xs.length := by omega
   have hlt : (i : Int) < (xs.length : Int) := by omega
   have hb := yS_bd h y (i + 1) (by omega)
   have IH := l20_loop h y n (i + 1) (by omega)
   rw [yS_succ y hi] at IH hb
   rw [spec_l20Trust_p0_eq]
   simp only [hlt,decide_true,if_true,Int.natCast_nonneg,Int.toNat_natCast,pAt_get hi,Option.bind_some,wsucc (show i < 4611686018427387904 by omega)]
   by_cases c : pE (pAt xs i) ≤ y
   ·rw [if_pos (show decide ((pAt xs i).2.2.1 ≤ y) = true from decide_eq_true c)]
    by_cases c2 : y ≤ pL (pAt xs i)
    ·have e : yT y (pAt xs i) = pT (pAt xs i) := by rw [yT,if_pos ⟨c,c2⟩]
     rw [e] at IH hb
     have hw : IntKind.i64.wrap (yS xs y i + (pAt xs i).2.2.2.2.1) = yS xs y i + pT (pAt xs i) := w64 (n := yS xs y i + pT (pAt xs i)) (by omega) (by omega)
     rw [if_pos (show decide ((pAt xs i).2.2.2.1 ≥ y) = true from decide_eq_true c2),spec_l20Trust_p1_eq]
     simp only [Int.natCast_nonneg,decide_true,if_true,Int.toNat_natCast,pAt_get hi,Option.bind_some,hw,wsucc (show i < 4611686018427387904 by omega)]
     exact IH
    ·have e : yT y (pAt xs i) = 0 := by rw [yT,if_neg (fun e => c2 e.2)]
     rw [e,Int.add_zero] at IH
     rw [if_neg (show ¬ decide ((pAt xs i).2.2.2.1 ≥ y) = true from fun e => c2 (of_decide_eq_true e))]
     exact IH
   ·have e : yT y (pAt xs i) = 0 := by rw [yT,if_neg (fun e => c e.1)]
    rw [e,Int.add_zero] at IH
    rw [if_neg (show ¬ decide ((pAt xs i).2.2.1 ≤ y) = true from fun e => c (of_decide_eq_true e))]
    exact IH
theorem l20Trust_ok {xs : List T_Paper.ty} (h : Papers xs) (y : Int) : spec_l20Trust xs y = some (yr xs y) := by
 rw [spec_l20Trust_eq]; exact l20_loop h y xs.length 0 (by omega)
theorem own_ok {xs : List T_Paper.ty} (h : Papers xs) (y : Int) : impl_YearTrust xs y = if inR y 1500 2100 then some (yr xs y,0) else some (0,2) := by
 rw [impl_YearTrust_eq,h.valid.1]
 simp only [Option.bind_some,Bool.not_true,Bool.false_eq_true,if_false,impl_within_ok,year_ok h]
 cases inR y 1500 2100 <;> simp
theorem again_ok {xs : List T_Paper.ty} (h : Papers xs) (y : Int) : spec_YearTrust xs y = if inR y 1500 2100 then some (yr xs y,0) else some (0,2) := by
 rw [spec_YearTrust_eq,h.valid.2,spec_l20Year_eq]
 simp only [Option.bind_some,Bool.not_true,Bool.false_eq_true,if_false,spec_l00In_ok,l20Trust_ok h]
 cases inR y 1500 2100 <;> simp
theorem best_loop {xs : List T_Paper.ty} (h : Papers xs) : ∀ (n : Nat) (b y : Int),y + n = 2101 → 1500 ≤ b → b ≤ 2100 → b ≤ y → 1500 ≤ y → (∀ z,1500 ≤ z → z < y → yr xs z ≤ yr xs b) → (∀ z,1500 ≤ z → z < b → yr xs z < yr xs b) →
 ∃ b' : Int,impl_BestYear_p0 xs b y = some (b',yr xs b',0) ∧ 1500 ≤ b' ∧ b' ≤ 2100 ∧ (∀ z,1500 ≤ z → z ≤ 2100 → yr xs z ≤ yr xs b') ∧ (∀ z,1500 ≤ z → z < b' → yr xs z < yr xs b')
 | 0,b,y,hn,h0,h1,h2,h3,h4,h5 => by
   refine ⟨b,?_,h0,h1,fun z hz hz2 => h4 z hz (by omega),h5⟩
   rw [impl_BestYear_p0_eq,if_neg (by simp; omega),year_ok h]; rfl
 | n + 1,b,y,hn,h0,h1,h2,h3,h4,h5 => by
   have hy : y ≤ 2100 := by omega
   rw [impl_BestYear_p0_eq,if_pos (decide_eq_true hy),year_ok h,year_ok h,w64 (n := y + 1) (by omega) (by omega)]
   simp only [Option.bind_some]
   by_cases c : yr xs y > yr xs b
   ·rw [if_pos (decide_eq_true c)]
    refine best_loop h n y (y + 1) (by omega) h3 hy (by omega) (by omega) (fun z hz hz2 => ?_) (fun z hz hz2 => ?_)
    ·by_cases e : z = y
     ·rw [e]; exact Int.le_refl _
     ·have := h4 z hz (by omega); omega
    ·have := h4 z hz hz2; omega
   ·rw [if_neg (by simpa using c)]
    refine best_loop h n b (y + 1) (by omega) h0 h1 (by omega) (by omega) (fun z hz hz2 => ?_) h5
    by_cases e : z = y
    ·rw [e]; omega
    ·exact h4 z hz (by omega)
theorem law_p2 (v1 : List Int) (h1 : ∀ x,x ∈ v1 → 0 ≤ x ∧ x ≤ 255) (h2 : v1.length ≤ 1048576) : laws_FnTrust_p2 v1 = some true := by
 obtain ⟨xs,y,e,hl,hs⟩ := year_draw v1 h1 h2
 have hv := (valid_iff hl hs).1
 rw [laws_FnTrust_p2_eq,e]
 simp only [Option.bind_some,List.take_length]
 cases hp : papersOk xs with
 | false =>
   rw [hp] at hv
   rw [impl_YearTrust_eq,impl_BestYear_eq,hv]; rfl
 | true =>
   have h := papers_iff.1 hp
   by_cases h0 : (xs.length : Int) = 0
   ·have hb : impl_BestYear xs = some (0,0,3) := by
     rw [impl_BestYear_eq,h.valid.1]; simp [h0]
    rw [hb,own_ok h]
    split <;> rfl
   ·obtain ⟨b,q1,q2,q3,q4,q5⟩ := best_loop h 601 1500 1500 (by omega) (by omega) (by omega) (by omega) (by omega) (fun z _ hz => by omega) (fun z _ hz => by omega)
    have hb : impl_BestYear xs = some (b,yr xs b,0) := by
     rw [impl_BestYear_eq,h.valid.1]
     simp only [Option.bind_some,Bool.not_true,Bool.false_eq_true,if_false]
     rw [if_neg (by simpa using h0)]; exact q1
    have hin : inR b 1500 2100 = true := inR_iff'.2 ⟨q2,q3⟩
    have hw : IntKind.i64.wrap (b - 1) = b - 1 := w64 (by omega) (by omega)
    have hfew := h.few
    have ey : ∃ o c : Int,impl_YearTrust xs y = some (o,c) ∧ (c ≠ 0 ∨ c = 0 ∧ o ≤ yr xs b ∧ o ≥ 0) := by
     rw [own_ok h]
     cases hy : inR y 1500 2100 with
     | false => exact ⟨0,2,rfl,.inl (by decide)⟩
     | true =>
       have hy' := inR_iff'.1 hy
       exact ⟨_,0,rfl,.inr ⟨rfl,q4 y hy'.1 hy'.2,(yS_bd h y xs.length (Nat.le_refl _)).1⟩⟩
    have ez : ∃ o c : Int,spec_YearTrust xs (b - 1) = some (o,c) ∧ (c ≠ 0 ∨ c = 0 ∧ o < yr xs b) := by
     rw [again_ok h]
     cases hy : inR (b - 1) 1500 2100 with
     | false => exact ⟨0,2,rfl,.inl (by decide)⟩
     | true =>
       have hy' := inR_iff'.1 hy
       exact ⟨_,0,rfl,.inr ⟨rfl,q5 _ hy'.1 (by omega)⟩⟩
    obtain ⟨o,c,e1,hc⟩ := ey
    obtain ⟨o2,c2,e2,hc2⟩ := ez
    have e3 : spec_YearTrust xs b = some (yr xs b,0) := by rw [again_ok h,hin]; rfl
    have fin : (if (c2 != 0) = true then some true else some (decide (o2 < yr xs b))) = some true := by
     rcases hc2 with h | ⟨rfl,h⟩
     ·simp [h]
     ·simp [h]
    rw [e1,hb]
    simp only [Option.bind_some,hw,e3,e2,bne_self_eq_false,Bool.false_eq_true,if_false,beq_self_eq_true,if_true]
    rcases hc with h | ⟨rfl,h,h'⟩
    ·rw [if_pos (by simpa using h)]; exact fin
    ·rw [if_neg (by decide),if_pos (decide_eq_true h),if_pos (decide_eq_true h')]; exact fin
theorem law_p4 {xs : List T_Paper.ty} (h : Papers xs) (v1 : List Int) (h1 : ∀ x,x ∈ v1 → 0 ≤ x ∧ x ≤ 255) (h2 : v1.length ≤ 1048576) {ys : List T_Paper.ty} (hy : Papers ys) (hc : Calm ys) (hle : ys.length ≤ xs.length) (hpos : 0 < xs.length → 0 < ys.length) (heq : ys.length = xs.length ↔ Calm xs)
 {wi : List UInt8} {wc : Int} (hw : wc = 3 ∧ Calm xs ∨ wc = 0 ∧ wi ≠ [] ∧ ¬ Calm xs) : ∀ (n i : Nat),i + n = (makers xs).length ∨ (makers xs).length < i → 1 ≤ i → laws_FnTrust_p4 v1 xs (makers xs) ys wi wc i = some true := by
 have p5 : laws_FnTrust_p5 v1 xs ys = some true := by
  obtain ⟨l,c,e,hcl⟩ := clashPairs_ok h
  rw [laws_FnTrust_p5_eq,e]
  simp only [Option.bind_some]
  rcases hcl with rfl | ⟨rfl,hcl⟩
  ·exact law_p2 v1 h1 h2
  ·have hb : (((l.length : Int) == 0) == ((ys.length : Int) == (xs.length : Int))) = true := by
    by_cases hcal : Calm xs
    ·have q1 := hcl.2 hcal
     have q2 := heq.2 hcal
     rw [q1,q2]; simp
    ·have q1 : ¬ (l.length : Int) = 0 := fun e => hcal (hcl.1 (by omega))
     have q2 : ¬ (ys.length : Int) = (xs.length : Int) := fun e => hcal (heq.1 (by omega))
     rw [beq_eq_false_iff_ne.2 q1,beq_eq_false_iff_ne.2 q2]; rfl
   rw [if_pos (by rfl),hb]
   exact law_p2 v1 h1 h2
 have last : ∀ i : Nat,(makers xs).length ≤ i → laws_FnTrust_p4 v1 xs (makers xs) ys wi wc i = some true := fun i hi => by
  have hwy : impl_WorstPaper ys = some ([],3) := by
   obtain ⟨r,e,hr⟩ := worst_ok hy
   have : r = -1 := by
    rcases hr with ⟨e,_⟩ | ⟨j,hj,_,t,ht,hfoe⟩
    ·exact e
    ·exact absurd hfoe (hc j hj t ht)
   subst this
   rw [impl_WorstPaper_eq,hy.valid.1]
   simp only [Option.bind_some,Bool.not_true,Bool.false_eq_true,if_false,e]; rfl
  have hsy : spec_ValidPapers ys = some true := by rw [spec_ValidPapers_eq,hy.valid.2]; rfl
  have n1 : ¬ ((ys.length : Int) > (xs.length : Int)) := by omega
  have b1 : ((wc == 3) == ((ys.length : Int) == (xs.length : Int))) = true := by
   rcases hw with ⟨rfl,hcal⟩ | ⟨rfl,_,hcal⟩
   ·have : ys.length = xs.length := heq.2 hcal
    rw [this]; simp
   ·have : ¬ ys.length = xs.length := fun e => hcal (heq.1 e)
    have n2 : ¬ (ys.length : Int) = (xs.length : Int) := by omega
    simp [n2]
  have b2 : (if (wc == 0) = true then (if (wi == []) = true then some false else laws_FnTrust_p5 v1 xs ys) else laws_FnTrust_p5 v1 xs ys) = some true := by
   rcases hw with ⟨rfl,_⟩ | ⟨rfl,hne,_⟩
   ·exact p5
   ·rw [if_pos (by rfl),if_neg (by simpa using hne)]; exact p5
  rw [laws_FnTrust_p4_eq,if_neg (by simp; omega)]
  simp only [specPairs_ok hy hc,hwy,hsy,Option.bind_some,bne_self_eq_false,Bool.not_true,Bool.false_eq_true,if_false,List.length_nil,n1,decide_false,b1,b2]
  rw [if_neg (show ¬ (((0 : Nat) : Int) != 0) = true by decide)]
  by_cases c : (xs.length : Int) > 0
  ·have := hpos (by omega)
   have n3 : ¬ ((ys.length : Int) == 0) = true := by simp; intro e; subst e; simp at this
   rw [if_pos (decide_eq_true c),if_neg n3]
  ·rw [if_neg (by simpa using c)]
 intro n
 induction n with
 | zero => intro i hi _; exact last i (by omega)
 | succ n ih =>
   intro i hi h1i
   rcases Nat.lt_or_ge i (makers xs).length with hil | hil
   ·have hf := h.few
    have hm := makers_len xs
    have hlt : (i : Int) < ((makers xs).length : Int) := by omega
    have hw1 : IntKind.i64.wrap ((i : Int) - 1) = ((i - 1 : Nat) : Int) := by rw [w64 (by omega) (by omega)]; omega
    have hi1 : i - 1 < (makers xs).length := by omega
    have hltm := List.pairwise_iff_getElem.1 (makers_up xs) (i - 1) i hi1 hil (by omega)
    have hbl : Op.bytesLess (makers xs)[i - 1] (makers xs)[i] = true := by rw [Proofs.bytesLess_eq]; exact decide_eq_true hltm
    rw [laws_FnTrust_p4_eq]
    simp only [hlt,decide_true,if_true,hw1,Int.natCast_nonneg,Int.toNat_natCast,List.getElem?_eq_getElem hi1,List.getElem?_eq_getElem hil,Option.bind_some,hbl,Bool.not_true,Bool.false_eq_true,if_false,wsucc (show i < 4611686018427387904 by omega)]
    exact ih (i + 1) (by omega) (by omega)
   ·exact last i hil
theorem law_p1 {xs : List T_Paper.ty} (h : Papers xs) (v1 : List Int) {r : Option Bool} (ys : List T_Paper.ty) (wi : List UInt8) (wc : Int) {l : List Int} (hl : l.length = (makers xs).length) (hs : laws_b10Sum l = some (tsum xs xs.length)) :
 ∀ (n i : Nat),i + n = xs.length → laws_FnTrust_p1 v1 xs (makers xs) ys wi wc (tsum xs i) i l = laws_FnTrust_p3 v1 xs (makers xs) ys wi wc
 | 0,i,hn => by
   have : i = xs.length := by omega
   subst this
   rw [laws_FnTrust_p1_eq,if_neg (by simp),hl]
   simp only [bne_self_eq_false,Bool.false_eq_true,if_false,← hl,List.take_length,hs,Option.bind_some]
 | n + 1,i,hn => by
   have hf := h.few
   have hm := makers_len xs
   have hi : i < xs.length := by omega
   have hlt : (i : Int) < (xs.length : Int) := by omega
   have hb := tsum_bd h (i + 1) (by omega)
   rw [tsum_succ hi] at hb
   have hw : IntKind.i64.wrap (tsum xs i + (pAt xs i).2.2.2.2.1) = tsum xs (i + 1) := by
    rw [tsum_succ hi]; exact w64 (n := tsum xs i + pT (pAt xs i)) (by omega) (by omega)
   have hin : laws_b10Inside (makers xs) (pAt xs i).2.1 = some true := inside_ok (by omega) (makers_mem (pAt_mem hi))
   rw [laws_FnTrust_p1_eq]
   simp only [hlt,decide_true,if_true,Int.natCast_nonneg,Int.toNat_natCast,pAt_get hi,Option.bind_some,hin,Bool.not_true,Bool.false_eq_true,if_false,hw,wsucc (show i < 4611686018427387904 by omega)]
   exact law_p1 h v1 (r := r) ys wi wc hl hs n (i + 1) (by omega)
theorem laws_FnTrust_true (a0 a1 : List Int) (h0 : ET.wf (.one (.sl (.one (.int .u8)))) a0) (h1 : ET.wf (.one (.sl (.one (.int .u8)))) a1) : laws_FnTrust a0 a1 = some true := by
 rw [laws_FnTrust_eq,laws_b10Long_eq,laws_b10Long_eq]
 simp only [Option.bind_some]
 by_cases c0 : (a0.length : Int) > 1048576
 ·simp [c0]
 by_cases c1 : (a1.length : Int) > 1048576
 ·simp [c0,c1]
 simp only [c0,c1,decide_false,Bool.false_eq_true,if_false]
 have hy : a1.length ≤ 1048576 := by omega
 obtain ⟨xs,e,hl,hs⟩ := trustBy_draw a0 (bytes_ok h0) (by omega)
 have hv := (valid_iff hl hs).1
 rw [laws_FnTrust_p0_eq,e]
 simp only [Option.bind_some,List.take_length]
 cases hp : papersOk xs with
 | false =>
   rw [hp] at hv
   rw [impl_TrustBy_eq,impl_DropClashes_eq,impl_WorstPaper_eq,hv]
   exact law_p2 a1 (bytes_ok h1) hy
 | true =>
   have h := papers_iff.1 hp
   obtain ⟨l,e1,hl1,hs1⟩ := trust_ok h
   obtain ⟨ys,e2,hy1,hy2,hy3,hy4,hy5,wi,wc,e3,hw⟩ := drop_ok h
   rw [e1,e2,e3]
   simp only [Option.bind_some,bne_self_eq_false,Bool.false_eq_true,if_false,beq_self_eq_true,if_true]
   refine (law_p1 h a1 (r := none) ys wi wc hl1 hs1 xs.length 0 (by omega)).trans ?_
   rw [laws_FnTrust_p3_eq]
   refine law_p4 h a1 (bytes_ok h1) hy hy1 hy2 hy3 hy4 hy5 hw ((makers xs).length - 1) 1 ?_ (Nat.le_refl _)
   omega
end Go.Ab.P
