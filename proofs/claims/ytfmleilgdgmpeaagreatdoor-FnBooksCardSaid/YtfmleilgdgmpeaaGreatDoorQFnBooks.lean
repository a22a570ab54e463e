/- Books: balances, lowest sums, entries that are added, reversed and read, pairs, and debts that are settled. Conditions: bytes are bytes. -/
import Derived.Test.YtfmleilgdgmpeaaGreatDoorBFnBooks
set_option linter.unusedVariables false
set_option linter.unusedSectionVars false
set_option linter.unusedSimpArgs false
set_option maxRecDepth 4000
namespace Go.Ab.P
open Go.Ab
def eD (x : T_Entry.ty) : Int := x.1
def eP (x : T_Entry.ty) : List UInt8 := x.2.1
def eQ (x : T_Entry.ty) : List UInt8 := x.2.2.1
def eM (x : T_Entry.ty) : Int := x.2.2.2.1
theorem e_eta (x : T_Entry.ty) : x = (eD x,eP x,eQ x,eM x,()) := rfl
structure Good (x : T_Entry.ty) : Prop where
 d0 : 0 ≤ eD x
 d1 : eD x ≤ 100000
 p : isName (eP x) = true
 q : isName (eQ x) = true
 ne : eP x ≠ eQ x
 m0 : 1 ≤ eM x
 m1 : eM x ≤ 10000000
theorem good_ok {x : T_Entry.ty} (h : Good x) : entryOk x = true := by
 obtain ⟨d,p,q,m,u⟩ := x
 obtain ⟨h1,h2,h3,h4,h5,h6,h7⟩ := h
 simp only [eD,eP,eQ,eM] at h1 h2 h3 h4 h5 h6 h7
 simp only [entryOk,Bool.and_eq_true,inR_iff']
 exact ⟨⟨h1,h2⟩,h3,h4,by simpa using h5,h6,h7⟩
theorem name_len {s : List UInt8} (h : isName s = true) : s.length ≤ 10 := by
 cases s with
 | nil => simp
 | cons c r => simp only [isName,Bool.and_eq_true,decide_eq_true_eq] at h; exact h.2
structure Book (xs : List T_Entry.ty) : Prop where
 good : ∀ x,x ∈ xs → Good x
 up : xs.Pairwise fun a b => eD a ≤ eD b
 few : xs.length ≤ 32
theorem Book.at {xs : List T_Entry.ty} (h : Book xs) {i : Nat} (hi : i < xs.length) : Good (entryAt xs i) := h.good _ (entryAt_mem hi)
theorem Book.ok {xs : List T_Entry.ty} (h : Book xs) : impl_ValidBook xs = some true := by
 rw [impl_ValidBook_ok xs (by have := h.few; omega) (fun x hx => ⟨by have := name_len (h.good x hx).p; simp only [eP] at this; omega,by have := name_len (h.good x hx).q; simp only [eQ] at this; omega⟩)]
 congr 1
 have hf := h.few
 rw [bookOk,Bool.and_eq_true,decide_eq_true_eq]
 refine ⟨List.all_eq_true.2 fun i hi => ?_,by omega⟩
 have hi' : i < xs.length := by simp at hi; omega
 rw [bookC,Bool.and_eq_true]
 refine ⟨good_ok (h.at hi'),?_⟩
 by_cases h0 : i = 0
 ·simp [h0]
 ·have hi1 : i - 1 < xs.length := by omega
  have := List.pairwise_iff_getElem.1 h.up (i - 1) i hi1 hi' (by omega)
  have e1 : xs[i - 1] = entryAt xs (i - 1) := by simp [entryAt,List.getElem?_eq_getElem hi1]
  have e2 : xs[i] = entryAt xs i := by simp [entryAt,List.getElem?_eq_getElem hi']
  rw [e1,e2] at this
  have h2 : ¬ (entryAt xs (i - 1)).1 > (entryAt xs i).1 := by have h3 : eD (entryAt xs (i - 1)) ≤ eD (entryAt xs i) := this; exact Int.not_lt.2 h3
  simp [h2]
def accts : List (List UInt8) := [[98,97,110,107],[99,97,115,104],[114,101,110,116],[115,97,108,101,115],[119,111,111,100]]
theorem drawName {s : T_l00Src.ty} {c : Int} (hs : SrcOk s c) (hc : c ≤ 100000000000000000) : ∃ (t : List UInt8) (s' : T_l00Src.ty),spec_l25DrawName s = some (t,s') ∧ SrcOk s' (c + 2) ∧ t ∈ accts := by
 obtain ⟨t,s1,q1,k1,m1⟩ := text_ok hs (by omega) accts (by decide) (by decide)
 rw [spec_l25DrawName_eq]
 rw [accts] at q1
 simp only [q1,Option.bind_some,src_eta]
 exact ⟨t,s1,rfl,k1,m1⟩
theorem acct_name : ∀ t,t ∈ accts → isName t = true ∧ t ≠ [116,111,111,108,115] := by decide
theorem drawOne {s : T_l00Src.ty} {c : Int} (hs : SrcOk s c) (hc : c ≤ 10000000000000000) (d : Int) (hd : 0 ≤ d ∧ d ≤ 100000) :
 ∃ (x : T_Entry.ty) (s' : T_l00Src.ty),spec_l25DrawOne s d = some (x,s') ∧ SrcOk s' (c + 6) ∧ Good x ∧ eD x = d := by
 obtain ⟨t,s1,q1,k1,m1⟩ := drawName hs (by omega)
 obtain ⟨t2,s2,q2,k2,m2⟩ := drawName k1 (by omega)
 obtain ⟨u,s3,q3,k3,b0,b1⟩ := pick_ok k2 (by omega) 20 (by omega)
 rw [spec_l25DrawOne_eq]
 simp only [q1,q2,q3,Option.bind_some,src_eta]
 rw [w64 (n := 1 + u) (by omega) (by omega),w64 (n := 100 * (1 + u)) (by omega) (by omega)]
 by_cases e : t = t2
 ·rw [if_pos (by simpa using e)]
  exact ⟨_,s3,rfl,k3.up (by omega),⟨hd.1,hd.2,(acct_name t m1).1,by show isName [116,111,111,108,115] = true; decide,(acct_name t m1).2,by show 1 ≤ 100 * (1 + u); omega,by show 100 * (1 + u) ≤ 10000000; omega⟩,rfl⟩
 ·rw [if_neg (by simpa using e)]
  exact ⟨_,s3,rfl,k3.up (by omega),⟨hd.1,hd.2,(acct_name t m1).1,(acct_name t2 m2).1,e,by show 1 ≤ 100 * (1 + u); omega,by show 100 * (1 + u) ≤ 10000000; omega⟩,rfl⟩
structure Grow (xs : List T_Entry.ty) (d : Int) : Prop where
 good : ∀ x,x ∈ xs → Good x ∧ eD x ≤ d
 up : xs.Pairwise fun a b => eD a ≤ eD b
theorem Grow.add {xs : List T_Entry.ty} {d d' : Int} (h : Grow xs d) {x : T_Entry.ty} (hx : Good x) (e : eD x = d) (hd : d ≤ d') : Grow (xs ++ [x]) d' := by
 refine ⟨fun y hy => ?_,?_⟩
 ·rcases List.mem_append.1 hy with hy | hy
  ·exact ⟨(h.good y hy).1,Int.le_trans (h.good y hy).2 hd⟩
  ·simp at hy; subst hy; exact ⟨hx,by omega⟩
 ·refine List.pairwise_append.2 ⟨h.up,by simp,fun a ha b hb => ?_⟩
  simp at hb; subst hb; rw [e]; exact (h.good a ha).2
theorem draw_loop : ∀ (k : Nat) (d : Int) (s : T_l00Src.ty) (c : Int) (r : List T_Entry.ty),SrcOk s c → c + 100 * (k : Int) ≤ 10000000000000000 → r.length + k ≤ 8 → 0 ≤ d → d + 9 * (k : Int) ≤ 1000 → Grow r d →
 ∃ (r' : List T_Entry.ty) (s' : T_l00Src.ty),spec_l25Draw_p0 d k s.1 s.2.1 s.2.2.1 r = some (r',s') ∧ r'.length ≤ 8 ∧ ∃ d' : Int,d' ≤ 1000 ∧ Grow r' d'
 | 0,d,s,c,r,hs,hc,hl,h0,h1,hr => by
   rw [spec_l25Draw_p0_eq]
   simp only [show ¬ (((0 : Nat) : Int) > 0) by omega,decide_false,Bool.false_eq_true,if_false,List.take_length]
   exact ⟨_,_,rfl,by omega,d,by omega,hr⟩
 | k + 1,d,s,c,r,hs,hc,hl,h0,h1,hr => by
   have hk : ((k + 1 : Nat) : Int) > 0 := by omega
   have hw : IntKind.i64.wrap (((k + 1 : Nat) : Int) - 1) = ((k : Nat) : Int) := by rw [w64 (by omega) (by omega)]; omega
   have hlim : r.length + 1 < lim := by unfold lim; omega
   have step : ∀ (x : T_Entry.ty) (s1 : T_l00Src.ty) (c1 : Int),SrcOk s1 c1 → c1 ≤ c + 20 → Good x → eD x = d →
    ∃ (r' : List T_Entry.ty) (s' : T_l00Src.ty),spec_l25Draw_p2 d ((k + 1 : Nat) : Int) s1.1 s1.2.1 s1.2.2.1 r (eD x) (eP x) (eQ x) (eM x) = some (r',s') ∧ r'.length ≤ 8 ∧ ∃ d' : Int,d' ≤ 1000 ∧ Grow r' d' := fun x s1 c1 k1 hc1 hx he => by
    obtain ⟨u,s2,q2,k2,b0,b1⟩ := pick_ok k1 (by omega) 9 (by omega)
    rw [spec_l25Draw_p2_eq]
    simp only [hlim,decide_true,if_true,src_eta,q2,Option.bind_some,hw,List.take_length,← e_eta]
    rw [w64 (n := d + u) (by omega) (by omega)]
    exact draw_loop k (d + u) s2 _ _ k2 (by omega) (by simp; omega) (by omega) (by omega) (hr.add hx he (by omega))
   obtain ⟨x,s1,q1,k1,g,e⟩ := drawOne hs (by omega) d (by omega)
   rw [spec_l25Draw_p0_eq]
   simp only [hk,decide_true,if_true,src_eta,q1,Option.bind_some]
   split
   ·rename_i hpos
    obtain ⟨b,s2,q2,k2⟩ := one_ok k1 (by omega) 5 (by omega)
    simp only [q2,Option.bind_some]
    cases b
    ·simp only [Bool.false_eq_true,if_false]
     exact step x s2 _ k2 (by omega) g e
    ·simp only [if_true]
     rw [spec_l25Draw_p1_eq]
     have hp : 0 < r.length := by simp only [decide_eq_true_eq] at hpos; omega
     obtain ⟨u,s3,q3,k3,b0,b1⟩ := pick_ok k2 (by omega) (r.length : Int) (by omega)
     have hu : u < (r.length : Int) := by omega
     have hun : u.toNat < r.length := by omega
     simp only [src_eta,q3,Option.bind_some,b0,hu,decide_true,Bool.and_self,if_true,List.getElem?_eq_getElem hun]
     obtain ⟨gy,hy⟩ := hr.good _ (List.getElem_mem hun)
     exact step (d,eQ r[u.toNat],eP r[u.toNat],eM r[u.toNat],()) s3 _ k3 (by omega) ⟨h0,by show d ≤ 100000; omega,gy.q,gy.p,fun e => gy.ne e.symm,gy.m0,gy.m1⟩ rfl
   ·exact step x s1 _ k1 (by omega) g e
theorem book_ok (code : List Int) (h1 : ∀ x,x ∈ code → 0 ≤ x ∧ x ≤ 255) (h2 : code.length ≤ 1048576) : ∃ xs,spec_R8Book code = some xs ∧ Book xs ∧ xs.length ≤ 8 := by
 obtain ⟨s,e,k⟩ := from_ok code h1 h2
 obtain ⟨u,s1,q1,k1,b0,b1⟩ := pick_ok k (by omega) 30 (by omega)
 obtain ⟨n,s2,q2,k2,c0,c1⟩ := pick_ok k1 (by omega) 9 (by omega)
 obtain ⟨r,s3,q3,hl,d',hd',hg⟩ := draw_loop n.toNat u s2 _ [] k2 (by omega) (by simp; omega) b0 (by omega) ⟨fun x hx => (by cases hx),List.Pairwise.nil⟩
 rw [Int.toNat_of_nonneg c0] at q3
 refine ⟨r,?_,⟨fun x hx => (hg.good x hx).1,hg.up,by omega⟩,hl⟩
 rw [spec_R8Book_eq,e,Option.bind_some,spec_l25Draw_eq]
 simp only [q1,q2,q3,Option.bind_some,src_eta,List.take_length]
theorem entry_ok (code : List Int) (h1 : ∀ x,x ∈ code → 0 ≤ x ∧ x ≤ 255) (h2 : code.length ≤ 1048576) : ∃ x,spec_R8Entry code = some x ∧ Good x := by
 obtain ⟨s,e,k⟩ := from_ok code h1 h2
 obtain ⟨u,s1,q1,k1,b0,b1⟩ := pick_ok k (by omega) 90 (by omega)
 obtain ⟨x,s2,q2,k2,g,he⟩ := drawOne k1 (by omega) u (by omega)
 refine ⟨x,?_,g⟩
 rw [spec_R8Entry_eq]
 simp only [e,q1,q2,Option.bind_some,src_eta]
def ps (f : Nat → Int) : Nat → Int
 | 0 => 0
 | i + 1 => ps f i + f i
theorem ps_bd {f : Nat → Int} {m : Int} (h : ∀ i,-m ≤ f i ∧ f i ≤ m) : ∀ i : Nat,-(m * (i : Int)) ≤ ps f i ∧ ps f i ≤ m * (i : Int)
 | 0 => by simp [ps]
 | i + 1 => by
   have h1 := ps_bd h i
   have h2 := h i
   have : m * ((i + 1 : Nat) : Int) = m * (i : Int) + m := by rw [Int.natCast_add,Int.mul_add]; simp
   rw [ps,this]; omega
theorem ps_small {f : Nat → Int} (h : ∀ i,-10000000 ≤ f i ∧ f i ≤ 10000000) {i : Nat} (hi : i ≤ 100) : -1000000000 ≤ ps f i ∧ ps f i ≤ 1000000000 := by
 have := ps_bd h i
 omega
theorem ps_map {α : Type} (g : α → Int) (f : Nat → Int) (xs : List α) (h : ∀ i (hi : i < xs.length),f i = g xs[i]) : ∀ i,i ≤ xs.length → ps f i = isum ((xs.take i).map g)
 | 0,_ => by simp [ps,isum]
 | i + 1,hi => by
   rw [ps,ps_map g f xs h i (by omega),List.take_succ_eq_append_getElem (by omega),List.map_append,isum_app,h i (by omega)]
   simp [isum]
theorem Book.fit {xs : List T_Entry.ty} (h : Book xs) : BookFit xs := ⟨h.few,fun i => by
 by_cases hi : i < xs.length
 ·have := h.at hi
  have h0 := this.m0; have h1 := this.m1
  simp only [eM] at h0 h1
  exact ⟨by omega,h1⟩
 ·simp only [entryAt,List.getElem?_eq_none (show xs.length ≤ i by omega),Option.getD_none]; decide⟩
theorem chg_small {xs : List T_Entry.ty} (h : Book xs) (a : List UInt8) {i : Nat} (hi : i ≤ 100) : -1000000000 ≤ ps (chgG xs a) i ∧ ps (chgG xs a) i ≤ 1000000000 := ps_small (chgG_bd h.fit a) hi
def acct (xs : List T_Entry.ty) (a : List UInt8) : Int := ps (chgG xs a) xs.length
theorem acct_isum (xs : List T_Entry.ty) (a : List UInt8) : acct xs a = isum (xs.map fun x => chgP x a) := by
 rw [acct,ps_map (fun x => chgP x a) _ xs (fun i hi => by simp [chgG,entryAt,List.getElem?_eq_getElem hi]) xs.length (Nat.le_refl _),List.take_length]
theorem account_loop {xs : List T_Entry.ty} (h : Book xs) (a : List UInt8) : ∀ (k i : Nat),i + k = xs.length → impl_AccountOf_p1 a 100000 (ps (chgG xs a) i) xs xs.length i = some (acct xs a,0)
 | 0,i,hk => by
   have : i = xs.length := by omega
   subst this
   rw [impl_AccountOf_p1_eq]; simp [acct]
 | k + 1,i,hk => by
   have hf := h.few
   have hi : i < xs.length := by omega
   have hlt : (i : Int) < (xs.length : Int) := by omega
   have hb := chg_small h a (i := i + 1) (by omega)
   have hd : (entryAt xs i).1 ≤ 100000 := (h.at hi).d1
   rw [impl_AccountOf_p1_eq]
   simp only [hlt,decide_true,if_true,Int.natCast_nonneg,Int.toNat_natCast,entryAt_get hi,Option.bind_some,hd,impl_Entry_change_ok h.fit,wsucc (show i < 4611686018427387904 by omega)]
   rw [w64 (n := ps (chgG xs a) i + chgG xs a i) (by rw [ps] at hb; omega) (by rw [ps] at hb; omega)]
   exact account_loop h a k (i + 1) (by omega)
theorem name_ok {a : List UInt8} (h : isName a = true) : impl_IsName a = some true := by rw [impl_IsName_ok a (by have := name_len h; omega),h]
theorem account_ok {xs : List T_Entry.ty} (h : Book xs) {a : List UInt8} (ha : isName a = true) : impl_AccountOf xs a 100000 = some (acct xs a,0) := by
 rw [impl_AccountOf_eq,h.ok,name_ok ha]
 simp only [Option.bind_some,Bool.not_true,Bool.false_eq_true,if_false]
 rw [impl_AccountOf_p0_eq,impl_isRentDay_eq,impl_within_ok]
 simp only [Option.bind_some,show inR 100000 0 100000 = true from by decide,Bool.not_true,Bool.false_eq_true,if_false]
 exact account_loop h a xs.length 0 (by omega)
def sides (xs : List T_Entry.ty) : List (List UInt8) := xs.flatMap fun x => [eP x,eQ x]
theorem sides_len (xs : List T_Entry.ty) : (sides xs).length = 2 * xs.length := by
 induction xs with
 | nil => rfl
 | cons x xs ih => simp only [sides,List.flatMap_cons,List.length_append,List.length_cons,List.length_nil] at ih ⊢; omega
theorem sides_take {xs : List T_Entry.ty} {i : Nat} (hi : i < xs.length) : sides (xs.take (i + 1)) = sides (xs.take i) ++ [(entryAt xs i).2.1,(entryAt xs i).2.2.1] := by
 rw [List.take_succ_eq_append_getElem hi,sides,List.flatMap_append]
 simp [sides,entryAt,List.getElem?_eq_getElem hi,eP,eQ]
def bal (xs : List T_Entry.ty) : List (List UInt8) := lessP (sides xs)
theorem bal_up (xs : List T_Entry.ty) : (bal xs).Pairwise (· < ·) := (less_runs (sides xs)).2.1
theorem bal_mem {xs : List T_Entry.ty} {a : List UInt8} : a ∈ bal xs ↔ a ∈ sides xs := (less_runs (sides xs)).2.2 a
theorem bal_name {xs : List T_Entry.ty} (h : Book xs) {a : List UInt8} (ha : a ∈ bal xs) : isName a = true ∧ 0 < xs.length := by
 have := bal_mem.1 ha
 simp only [sides,List.mem_flatMap] at this
 obtain ⟨x,hx,hm⟩ := this
 have hp := List.length_pos_of_mem hx
 simp at hm
 rcases hm with rfl | rfl
 ·exact ⟨(h.good x hx).p,hp⟩
 ·exact ⟨(h.good x hx).q,hp⟩
theorem bal_len (xs : List T_Entry.ty) : (bal xs).length ≤ 2 * xs.length := by rw [← sides_len]; exact lessP_le _
theorem bal_loop1 {xs : List T_Entry.ty} (h : Book xs) : ∀ (k i : Nat),i + k = xs.length → impl_TrialBalance_p0 xs xs xs.length i (sides (xs.take i)) = impl_TrialBalance_p1 xs (bal xs) (bal xs) (bal xs).length 0 []
 | 0,i,hk => by
   have : i = xs.length := by omega
   subst this
   have hf := h.few
   rw [impl_TrialBalance_p0_eq,List.take_length,sortedSet_ok _ (by rw [sides_len]; omega)]
   simp [bal]
 | k + 1,i,hk => by
   have hf := h.few
   have hi : i < xs.length := by omega
   have hlt : (i : Int) < (xs.length : Int) := by omega
   have hlim : (sides (xs.take i)).length + 2 < lim := by rw [sides_len,List.length_take]; unfold lim; omega
   rw [impl_TrialBalance_p0_eq]
   simp only [hlt,decide_true,if_true,Int.natCast_nonneg,Int.toNat_natCast,entryAt_get hi,Option.bind_some,hlim,wsucc (show i < 4611686018427387904 by omega),List.take_length,← sides_take hi]
   exact bal_loop1 h k (i + 1) (by omega)
theorem bal_loop2 {xs : List T_Entry.ty} (h : Book xs) : ∀ (k i : Nat),i + k = (bal xs).length → impl_TrialBalance_p1 xs (bal xs) (bal xs) (bal xs).length i (((bal xs).take i).map (acct xs)) = some (bal xs,(bal xs).map (acct xs),0)
 | 0,i,hk => by
   have : i = (bal xs).length := by omega
   subst this
   rw [impl_TrialBalance_p1_eq]
   simp only [show ¬ (((bal xs).length : Int) < ((bal xs).length : Int)) by omega,decide_false,Bool.false_eq_true,if_false,List.take_length]
 | k + 1,i,hk => by
   have hf := h.few
   have hn := bal_len xs
   have hi : i < (bal xs).length := by omega
   have hlt : (i : Int) < ((bal xs).length : Int) := by omega
   have hlim : (((bal xs).take i).map (acct xs)).length + 1 < lim := by rw [List.length_map,List.length_take]; unfold lim; omega
   rw [impl_TrialBalance_p1_eq]
   simp only [hlt,decide_true,if_true,Int.natCast_nonneg,Int.toNat_natCast,List.getElem?_eq_getElem hi,Option.bind_some,account_ok h (bal_name h (List.getElem_mem hi)).1,hlim,wsucc (show i < 4611686018427387904 by omega),List.take_length]
   have e : ((bal xs).take i).map (acct xs) ++ [acct xs (bal xs)[i]] = ((bal xs).take (i + 1)).map (acct xs) := by rw [List.take_succ_eq_append_getElem hi,List.map_append]; rfl
   rw [e]
   exact bal_loop2 h k (i + 1) (by omega)
theorem trial_ok {xs : List T_Entry.ty} (h : Book xs) : impl_TrialBalance xs = some (bal xs,(bal xs).map (acct xs),0) := by
 rw [impl_TrialBalance_eq,h.ok]
 simp only [Option.bind_some,Bool.not_true,Bool.false_eq_true,if_false]
 exact (bal_loop1 h xs.length 0 (by omega)).trans (bal_loop2 h (bal xs).length 0 (by omega))
theorem first_loop {xs : List T_Entry.ty} (h : Book xs) (a : List UInt8) : ∀ (k i : Nat),i + k = xs.length → (∀ t,t < i → 0 ≤ ps (chgG xs a) (t + 1)) →
 ∃ j c : Int,impl_FirstBelow_p1 a (ps (chgG xs a) i) xs xs.length i = some (j,c) ∧ ((c = 0 ∧ ∃ m : Nat,m < xs.length ∧ j = m ∧ ps (chgG xs a) (m + 1) < 0 ∧ ∀ t,t < m → 0 ≤ ps (chgG xs a) (t + 1)) ∨ (c = 3 ∧ ∀ t,t < xs.length → 0 ≤ ps (chgG xs a) (t + 1)))
 | 0,i,hk,hb => by
   have : i = xs.length := by omega
   subst this
   rw [impl_FirstBelow_p1_eq]
   exact ⟨0,3,by simp,.inr ⟨rfl,hb⟩⟩
 | k + 1,i,hk,hp => by
   have hf := h.few
   have hi : i < xs.length := by omega
   have hlt : (i : Int) < (xs.length : Int) := by omega
   have hb := chg_small h a (i := i + 1) (by omega)
   rw [impl_FirstBelow_p1_eq]
   simp only [hlt,decide_true,if_true,Int.natCast_nonneg,Int.toNat_natCast,entryAt_get hi,Option.bind_some,impl_Entry_change_ok h.fit,wsucc (show i < 4611686018427387904 by omega)]
   rw [w64 (n := ps (chgG xs a) i + chgG xs a i) (by rw [ps] at hb; omega) (by rw [ps] at hb; omega)]
   by_cases c : ps (chgG xs a) i + chgG xs a i < 0
   ·rw [if_pos (decide_eq_true c)]
    exact ⟨_,_,rfl,.inl ⟨rfl,i,hi,rfl,c,hp⟩⟩
   ·rw [if_neg (by simpa using c)]
    exact first_loop h a k (i + 1) (by omega) fun t ht => by
     by_cases e : t = i
     ·subst e; rw [ps]; omega
     ·exact hp t (by omega)
theorem first_ok {xs : List T_Entry.ty} (h : Book xs) {a : List UInt8} (ha : isName a = true) :
 ∃ j c : Int,impl_FirstBelow xs a = some (j,c) ∧ ((c = 0 ∧ ∃ m : Nat,m < xs.length ∧ j = m ∧ ps (chgG xs a) (m + 1) < 0 ∧ ∀ t,t < m → 0 ≤ ps (chgG xs a) (t + 1)) ∨ (c = 3 ∧ ∀ t,t < xs.length → 0 ≤ ps (chgG xs a) (t + 1))) := by
 rw [impl_FirstBelow_eq,h.ok,name_ok ha]
 simp only [Option.bind_some,Bool.not_true,Bool.false_eq_true,if_false,impl_FirstBelow_p0_eq]
 exact first_loop h a xs.length 0 (by omega) fun t ht => by omega
theorem lowest_loop {xs : List T_Entry.ty} (h : Book xs) (a : List UInt8) : ∀ (k i : Nat) (p v : Int),i + k = xs.length → (∀ t,t < i → v ≤ ps (chgG xs a) (t + 1)) → (i = 0 ∧ v = 1000000000000 ∨ ∃ m : Nat,m < i ∧ p = m ∧ v = ps (chgG xs a) (m + 1)) → 0 < xs.length →
 ∃ m : Nat,m < xs.length ∧ impl_LowestOf_p1 a (ps (chgG xs a) i) p v xs xs.length i = some ((m : Int),ps (chgG xs a) (m + 1),0) ∧ ∀ t,t < xs.length → ps (chgG xs a) (m + 1) ≤ ps (chgG xs a) (t + 1)
 | 0,i,p,v,hk,hv,hp,h0 => by
   have : i = xs.length := by omega
   subst this
   rcases hp with ⟨e,_⟩ | ⟨m,hm,rfl,rfl⟩
   ·omega
   ·refine ⟨m,hm,?_,hv⟩
    rw [impl_LowestOf_p1_eq]; simp
 | k + 1,i,p,v,hk,hv,hp,h0 => by
   have hf := h.few
   have hi : i < xs.length := by omega
   have hlt : (i : Int) < (xs.length : Int) := by omega
   have hb := chg_small h a (i := i + 1) (by omega)
   rw [impl_LowestOf_p1_eq]
   simp only [hlt,decide_true,if_true,Int.natCast_nonneg,Int.toNat_natCast,entryAt_get hi,Option.bind_some,impl_Entry_change_ok h.fit,wsucc (show i < 4611686018427387904 by omega)]
   rw [w64 (n := ps (chgG xs a) i + chgG xs a i) (by rw [ps] at hb; omega) (by rw [ps] at hb; omega)]
   have e1 : ps (chgG xs a) (i + 1) = ps (chgG xs a) i + chgG xs a i := rfl
   by_cases c : ps (chgG xs a) i + chgG xs a i < v
   ·rw [if_pos (decide_eq_true c)]
    refine lowest_loop h a k (i + 1) i _ (by omega) (fun t ht => ?_) (.inr ⟨i,by omega,rfl,rfl⟩) h0
    by_cases e : t = i
    ·subst e; rw [e1]; exact Int.le_refl _
    ·have := hv t (by omega); omega
   ·rw [if_neg (by simpa using c)]
    refine lowest_loop h a k (i + 1) p v (by omega) (fun t ht => ?_) ?_ h0
    ·by_cases e : t = i
     ·subst e; omega
     ·exact hv t (by omega)
    ·rcases hp with ⟨e,e2⟩ | ⟨m,hm,q1,q2⟩
     ·omega
     ·exact .inr ⟨m,by omega,q1,q2⟩
theorem lowest_ok {xs : List T_Entry.ty} (h : Book xs) {a : List UInt8} (ha : isName a = true) (h0 : 0 < xs.length) :
 ∃ m : Nat,m < xs.length ∧ impl_LowestOf xs a = some ((m : Int),ps (chgG xs a) (m + 1),0) ∧ ∀ t,t < xs.length → ps (chgG xs a) (m + 1) ≤ ps (chgG xs a) (t + 1) := by
 have hne : ¬ ((xs.length : Int) == 0) = true := by simp; intro e; subst e; simp at h0
 obtain ⟨m,h1,h2,h3⟩ := lowest_loop h a xs.length 0 0 1000000000000 (by omega) (fun t ht => by omega) (.inl ⟨rfl,rfl⟩) h0
 refine ⟨m,h1,?_,h3⟩
 rw [impl_LowestOf_eq,h.ok,name_ok ha]
 simp only [Option.bind_some,Bool.not_true,Bool.false_eq_true,if_false,impl_LowestOf_p0_eq,hne]
 exact h2
theorem clone_ok (xs : List T_Entry.ty) (h : xs.length ≤ 1048576) : impl_clone_impl_Entry_ xs = some xs := by
 rw [impl_clone_impl_Entry__eq]
 have h1 : ((xs.length : Int)).toNat < lim := by unfold lim; omega
 have h2 : 0 + xs.length < lim := by unfold lim; omega
 simp only [Int.natCast_nonneg,h1,h2,decide_true,Bool.and_self,if_true,List.nil_append,List.take_length]
def ins (xs : List T_Entry.ty) (p : Nat) (x : T_Entry.ty) : List T_Entry.ty := xs.take p ++ [x] ++ xs.drop p
theorem ins_len {xs : List T_Entry.ty} {p : Nat} (hp : p ≤ xs.length) (x : T_Entry.ty) : (ins xs p x).length = xs.length + 1 := by
 simp [ins]; omega
theorem add_loop {xs : List T_Entry.ty} (h : Book xs) (h8 : xs.length ≤ 8) (x : T_Entry.ty) : ∀ p : Nat,p ≤ xs.length → (∀ j,p ≤ j → j < xs.length → eD x < eD (entryAt xs j)) →
 ∃ p' : Nat,p' ≤ xs.length ∧ impl_AddEntry_p1 xs p (eD x) (eP x) (eQ x) (eM x) = some (ins xs p' x,0) ∧ (∀ j,p' ≤ j → j < xs.length → eD x < eD (entryAt xs j)) ∧ (p' = 0 ∨ eD (entryAt xs (p' - 1)) ≤ eD x) := by
 have fin : ∀ p : Nat,p ≤ xs.length → impl_AddEntry_p2 xs p (eD x) (eP x) (eQ x) (eM x) = some (ins xs p x,0) := fun p hp => by
  have hc : (p : Int) ≤ (xs.length : Int) := by omega
  have hl : xs.length + 1 < 1099511627776 := by omega
  have hi : slices_Insert___impl_Entry_impl_Entry_ xs p [x] = some (ins xs p x,()) := by
   rw [slices_Insert___impl_Entry_impl_Entry__eq]
   simp only [List.length_cons,List.length_nil,decide_true,Bool.true_and,Int.natCast_nonneg,hc,hl,if_true,Int.toNat_natCast,ins]
  rw [impl_AddEntry_p2_eq,clone_ok xs (by omega)]
  simp only [Option.bind_some,decide_true,if_true,← e_eta,hi,List.take_length]
 intro p
 induction p with
 | zero =>
   intro hp hj
   refine ⟨0,hp,?_,hj,.inl rfl⟩
   rw [impl_AddEntry_p1_eq,if_neg (by simp)]
   exact fin 0 hp
 | succ p ih =>
   intro hp hj
   have hw : IntKind.i64.wrap (((p + 1 : Nat) : Int) - 1) = ((p : Nat) : Int) := by rw [w64 (by omega) (by omega)]; omega
   rw [impl_AddEntry_p1_eq,if_pos (by simp)]
   simp only [hw,Int.natCast_nonneg,decide_true,if_true,Int.toNat_natCast,entryAt_get (show p < xs.length by omega),Option.bind_some]
   by_cases c : (entryAt xs p).1 > eD x
   ·rw [if_pos (decide_eq_true c)]
    refine ih (by omega) fun j h1 h2 => ?_
    by_cases e : j = p
    ·subst e; exact c
    ·exact hj j (by omega) h2
   ·rw [if_neg (by simpa using c)]
    exact ⟨p + 1,hp,fin (p + 1) hp,hj,.inr (by rw [Nat.add_sub_cancel]; exact Int.not_lt.1 c)⟩
theorem ins_book {xs : List T_Entry.ty} (h : Book xs) (h8 : xs.length ≤ 8) {x : T_Entry.ty} (hx : Good x) {p : Nat} (hp : p ≤ xs.length) (hj : ∀ j,p ≤ j → j < xs.length → eD x < eD (entryAt xs j)) (hq : p = 0 ∨ eD (entryAt xs (p - 1)) ≤ eD x) : Book (ins xs p x) := by
 have at' : ∀ {i : Nat} (hi : i < xs.length),xs[i] = entryAt xs i := fun hi => by simp [entryAt,List.getElem?_eq_getElem hi]
 have low : ∀ a,a ∈ xs.take p → eD a ≤ eD x := fun a ha => by
  obtain ⟨i,hi,rfl⟩ := List.mem_iff_getElem.1 ha
  have hi' : i < p := by simp at hi; omega
  rw [List.getElem_take]
  rcases hq with e | e
  ·omega
  ·by_cases hip : i = p - 1
   ·subst hip; rw [at' (by omega)]; exact e
   ·have := List.pairwise_iff_getElem.1 h.up i (p - 1) (by omega) (by omega) (by omega)
    rw [at' (show p - 1 < xs.length by omega)] at this
    exact Int.le_trans this e
 have high : ∀ a,a ∈ xs.drop p → eD x ≤ eD a := fun a ha => by
  obtain ⟨i,hi,rfl⟩ := List.mem_iff_getElem.1 ha
  rw [List.getElem_drop]
  have hi' : p + i < xs.length := by simp at hi; omega
  rw [at' hi']
  have := hj (p + i) (by omega) hi'
  omega
 refine ⟨fun y hy => ?_,?_,by rw [ins_len hp]; omega⟩
 ·simp only [ins,List.mem_append,List.mem_singleton] at hy
  rcases hy with (hy | hy) | hy
  ·exact h.good y (List.mem_of_mem_take hy)
  ·rw [hy]; exact hx
  ·exact h.good y (List.mem_of_mem_drop hy)
 ·refine List.pairwise_append.2 ⟨List.pairwise_append.2 ⟨h.up.sublist (List.take_sublist _ _),List.pairwise_singleton _ _,fun a ha b hb => ?_⟩,h.up.sublist (List.drop_sublist _ _),fun a ha b hb => ?_⟩
  ·rw [List.mem_singleton.1 hb]; exact low a ha
  ·rcases List.mem_append.1 ha with ha | ha
   ·exact Int.le_trans (low a ha) (high b hb)
   ·rw [List.mem_singleton.1 ha]; exact high b hb
theorem add_ok {xs : List T_Entry.ty} (h : Book xs) (h8 : xs.length ≤ 8) {x : T_Entry.ty} (hx : Good x) :
 ∃ p : Nat,p ≤ xs.length ∧ impl_AddEntry xs x = some (ins xs p x,0) ∧ Book (ins xs p x) := by
 obtain ⟨p,hp,e,hj,hq⟩ := add_loop h h8 x xs.length (Nat.le_refl _) (fun j h1 h2 => by omega)
 refine ⟨p,hp,?_,ins_book h h8 hx hp hj hq⟩
 have hv : impl_Entry_valid x = some true := by
  rw [impl_Entry_valid_ok x (by have := name_len hx.p; simp only [eP] at this; omega) (by have := name_len hx.q; simp only [eQ] at this; omega),good_ok hx]
 have hne : ¬ ((xs.length : Int) == 32) = true := by simp; omega
 rw [impl_AddEntry_eq,h.ok]
 simp only [Option.bind_some,Bool.not_true,Bool.false_eq_true,if_false,hv]
 rw [impl_AddEntry_p0_eq]
 simp only [hne,if_false]
 exact e
theorem isum_mid (f : T_Entry.ty → Int) (xs : List T_Entry.ty) (p : Nat) (x : T_Entry.ty) : isum ((ins xs p x).map f) = isum (xs.map f) + f x := by
 have e : isum (xs.map f) = isum ((xs.take p).map f) + isum ((xs.drop p).map f) := by rw [← isum_app,← List.map_append,List.take_append_drop]
 simp only [ins,List.map_append,isum_app,List.map_cons,List.map_nil,isum,e]
 omega
theorem acct_ins (xs : List T_Entry.ty) (p : Nat) (x : T_Entry.ty) (a : List UInt8) : acct (ins xs p x) a = acct xs a + chgP x a := by
 rw [acct_isum,acct_isum,isum_mid]
def flowP (f t : List UInt8) (x : T_Entry.ty) : Int := if eQ x == f then (if eP x == t then eM x else 0) else 0
theorem flowP_bd {x : T_Entry.ty} (h : 0 ≤ eM x ∧ eM x ≤ 10000000) (f t : List UInt8) : 0 ≤ flowP f t x ∧ flowP f t x ≤ 10000000 := by
 unfold flowP; split
 ·split <;> omega
 ·omega
theorem eM_bd {xs : List T_Entry.ty} (h : Book xs) (i : Nat) : 0 ≤ eM (entryAt xs i) ∧ eM (entryAt xs i) ≤ 10000000 := h.fit.amt i
theorem flow_loop {xs : List T_Entry.ty} (h : Book xs) (f t : List UInt8) : ∀ (k i : Nat),i + k = xs.length → impl_FlowBetween_p1 f t (ps (fun j => flowP f t (entryAt xs j)) i) xs xs.length i = some (ps (fun j => flowP f t (entryAt xs j)) xs.length,0)
 | 0,i,hk => by
   have : i = xs.length := by omega
   subst this
   rw [impl_FlowBetween_p1_eq]; simp
 | k + 1,i,hk => by
   have hf := h.few
   have hi : i < xs.length := by omega
   have hlt : (i : Int) < (xs.length : Int) := by omega
   have hb := ps_small (f := fun j => flowP f t (entryAt xs j)) (fun j => ⟨Int.le_trans (by decide) (flowP_bd (eM_bd h j) f t).1,(flowP_bd (eM_bd h j) f t).2⟩) (i := i + 1) (by omega)
   rw [ps] at hb
   have IH := flow_loop h f t k (i + 1) (by omega)
   rw [impl_FlowBetween_p1_eq]
   simp only [hlt,decide_true,if_true,Int.natCast_nonneg,Int.toNat_natCast,entryAt_get hi,Option.bind_some,wsucc (show i < 4611686018427387904 by omega)]
   rw [ps] at IH
   by_cases c1 : ((entryAt xs i).2.2.1 == f) = true
   ·by_cases c2 : ((entryAt xs i).2.1 == t) = true
    ·have e : flowP f t (entryAt xs i) = (entryAt xs i).2.2.2.1 := by simp only [flowP,eP,eQ,eM,c1,c2,if_true]
     simp only [e] at IH hb
     simp only [c1,c2,if_true]
     rw [w64 (n := ps (fun j => flowP f t (entryAt xs j)) i + (entryAt xs i).2.2.2.1) (by omega) (by omega)]
     exact IH
    ·have e : flowP f t (entryAt xs i) = 0 := by simp only [flowP,eP,eQ,eM,c1,c2,if_true,if_false,Bool.false_eq_true]
     simp only [e,Int.add_zero] at IH
     simp only [c1,c2,if_true,if_false,Bool.false_eq_true]
     exact IH
   ·have e : flowP f t (entryAt xs i) = 0 := by simp only [flowP,eP,eQ,eM,c1,if_false,Bool.false_eq_true]
    simp only [e,Int.add_zero] at IH
    simp only [c1,if_false,Bool.false_eq_true]
    exact IH
theorem isum_pos : ∀ (l : List Int),(∀ x,x ∈ l → 0 ≤ x) → 0 ≤ isum l
 | [],_ => by simp [isum]
 | x :: l,h => by
   have := isum_pos l fun y hy => h y (List.mem_cons_of_mem _ hy)
   have := h x List.mem_cons_self
   simp only [isum]; omega
theorem flow_ok {xs : List T_Entry.ty} {p : Nat} {x : T_Entry.ty} (h : Book (ins xs p x)) (hx : Good x) : ∃ s : Int,impl_FlowBetween (ins xs p x) (eQ x) (eP x) = some (s,0) ∧ eM x ≤ s := by
 refine ⟨ps (fun j => flowP (eQ x) (eP x) (entryAt (ins xs p x) j)) (ins xs p x).length,?_,?_⟩
 ·rw [impl_FlowBetween_eq,h.ok,name_ok hx.q,name_ok hx.p]
  simp only [Option.bind_some,Bool.not_true,Bool.false_eq_true,if_false,impl_FlowBetween_p0_eq]
  exact flow_loop h _ _ (ins xs p x).length 0 (by omega)
 ·rw [ps_map (flowP (eQ x) (eP x)) _ (ins xs p x) (fun i hi => by simp [entryAt,List.getElem?_eq_getElem hi]) _ (Nat.le_refl _),List.take_length,isum_mid]
  have e : flowP (eQ x) (eP x) x = eM x := by simp [flowP]
  have := isum_pos (xs.map (flowP (eQ x) (eP x))) fun y hy => by
   obtain ⟨z,hz,rfl⟩ := List.mem_map.1 hy
   have hg : Good z := by
    have : z ∈ ins xs p x := by
     rw [← List.take_append_drop p xs] at hz
     simp only [ins,List.mem_append] at hz ⊢
     rcases hz with hz | hz
     ·exact .inl (.inl hz)
     ·exact .inr hz
    exact h.good z this
   exact (flowP_bd ⟨by have := hg.m0; omega,hg.m1⟩ _ _).1
  rw [e]; omega
theorem reversed_ok {xs : List T_Entry.ty} (h : Book xs) {n : Nat} (hn : n < xs.length) : impl_Reversed xs n 100000 = some ((100000,eQ (entryAt xs n),eP (entryAt xs n),eM (entryAt xs n),()),0) := by
 have hf := h.few
 have h1 : (n : Int) < (xs.length : Int) := by omega
 have h2 : ¬ (100000 : Int) < (entryAt xs n).1 := Int.not_lt.2 (h.at hn).d1
 rw [impl_Reversed_eq,h.ok,impl_isRentDay_eq,impl_within_ok,impl_at_eq]
 simp only [Option.bind_some,show inR 100000 0 100000 = true from by decide,Bool.not_true,Bool.false_eq_true,if_false,ge_iff_le,Int.natCast_nonneg,decide_true,if_true,h1]
 rw [impl_Reversed_p0_eq]
 simp only [Int.natCast_nonneg,decide_true,if_true,Int.toNat_natCast,entryAt_get hn,Option.bind_some,h2,decide_false,Bool.false_eq_true,if_false]
 rw [impl_Reversed_p1_eq]
 simp only [Int.natCast_nonneg,decide_true,if_true,Int.toNat_natCast,entryAt_get hn,Option.bind_some]
 rfl
def entryT (x : T_Entry.ty) : List UInt8 := (((((Lib.itoa (eD x) ++ [32]) ++ eQ x) ++ [45]) ++ eP x) ++ [32]) ++ Lib.itoa (eM x)
theorem text_entry {x : T_Entry.ty} (h : Good x) : impl_EntryText x = some (entryT x) := by
 have hv : impl_Entry_valid x = some true := by
  rw [impl_Entry_valid_ok x (by have := name_len h.p; simp only [eP] at this; omega) (by have := name_len h.q; simp only [eQ] at this; omega),good_ok h]
 obtain ⟨d,p,q,m,⟨⟩⟩ := x
 obtain ⟨h1,h2,h3,h4,h5,h6,h7⟩ := h
 simp only [eD,eP,eQ,eM] at h1 h2 h3 h4 h5 h6 h7
 have l1 := itoa_len d (by omega)
 have l2 := itoa_len m (by omega)
 have l3 := name_len h3
 have l4 := name_len h4
 rw [impl_EntryText_eq,hv]
 simp only [Option.bind_some,Bool.not_true,Bool.false_eq_true,if_false,impl_Decimal_ok d (by omega),impl_Decimal_ok m (by omega),entryT,eD,eP,eQ,eM,List.length_append,List.length_cons,List.length_nil]
 have a1 : (Lib.itoa d).length + (0 + 1) ≤ strMax := by unfold strMax; omega
 have a2 : (Lib.itoa d).length + (0 + 1) + q.length ≤ strMax := by unfold strMax; omega
 have a3 : (Lib.itoa d).length + (0 + 1) + q.length + (0 + 1) ≤ strMax := by unfold strMax; omega
 have a4 : (Lib.itoa d).length + (0 + 1) + q.length + (0 + 1) + p.length ≤ strMax := by unfold strMax; omega
 have a5 : (Lib.itoa d).length + (0 + 1) + q.length + (0 + 1) + p.length + (0 + 1) ≤ strMax := by unfold strMax; omega
 have a6 : (Lib.itoa d).length + (0 + 1) + q.length + (0 + 1) + p.length + (0 + 1) + (Lib.itoa m).length ≤ strMax := by unfold strMax; omega
 simp only [a1,a2,a3,a4,a5,a6,decide_true,if_true]
theorem read_entry {x : T_Entry.ty} (h : Good x) : impl_ReadEntry (entryT x) = some (x,true) := by
 have ht := text_entry h
 obtain ⟨d,p,q,m,⟨⟩⟩ := x
 obtain ⟨h1,h2,h3,h4,h5,h6,h7⟩ := h
 simp only [eD,eP,eQ,eM] at h1 h2 h3 h4 h5 h6 h7
 have l1 := itoa_len d (by omega)
 have l2 := itoa_len m (by omega)
 have l3 := name_len h3
 have l4 := name_len h4
 have e : entryT (d,p,q,m,()) = Lib.itoa d ++ 32 :: ((q ++ 45 :: p) ++ 32 :: Lib.itoa m) := by simp [entryT,eD,eP,eQ,eM]
 have hne : ∀ n : Int,1 ≤ (Lib.itoa n).length → Lib.itoa n ≠ [] := fun n hn e => by rw [e] at hn; simp at hn
 have hs : impl_SplitWords (entryT (d,p,q,m,())) = some [Lib.itoa d,q ++ 45 :: p,Lib.itoa m] := by
  rw [e]
  refine impl_SplitWords_3 _ _ _ (hne _ l1.1) (by simp) (hne _ l2.1) (itoa_no d (by decide) (.inl (by decide))) ?_ (itoa_no m (by decide) (.inl (by decide))) (by simp; omega)
  intro hm
  rcases List.mem_append.1 hm with hm | hm
  ·exact isName_no h4 (by decide) hm
  ·rcases List.mem_cons.1 hm with hm | hm
   ·exact absurd hm (by decide)
   ·exact isName_no h3 (by decide) hm
 have hc : strings_Cut (q ++ 45 :: p) [45] = some (q,p,true) := by
  rw [strings_Cut_eq,if_pos (by simp; omega),cut1_at p (isName_no h4 (by decide))]
 rw [impl_ReadEntry_eq,hs]
 simp only [Option.bind_some,List.length_cons,List.length_nil,List.getElem?_cons_zero,List.getElem?_cons_succ,impl_ReadDecimal_ok d (by omega),impl_ReadDecimal_ok m (by omega),hc,ht]
 simp
theorem p16_ok (v1 : List Int) (v5 : List T_Entry.ty) (v7 : List (List UInt8)) (v10 : List T_Entry.ty) (v12 v13 v19 v20 v22 v23 v24 v25 : Int) (d : Int) (p q : List UInt8) (m : Int) (r8 : List Int)
 (h1 : v20 ≤ v24) (h2 : v25 = v19 → v24 = v20) (h3 : v24 < 0 → v23 = 0 ∧ v22 ≤ v25) (h4 : v23 = 0 → v25 = v22 → v24 < 0) :
 laws_FnBooks_p16 v1 v5 v7 v10 v12 v13 v19 v20 v22 v23 v24 v25 d p q m r8 = laws_FnBooks_p11 v1 v5 v7 v10 v12 v13 v19 v20 v22 v23 v24 (IntKind.i64.wrap (v25 + 1)) d p q m r8 := by
 rw [laws_FnBooks_p16_eq]
 repeat' split
 all_goals first
  | rfl
  | (exfalso
     simp only [decide_eq_true_eq,bne_iff_ne,beq_iff_eq,ne_eq] at *
     omega)
theorem chg_eq (x : T_Entry.ty) (a : List UInt8) : chgP x a = if eP x == a then eM x else if eQ x == a then -eM x else 0 := rfl
theorem now_loop {xs : List T_Entry.ty} (h : Book xs) (v1 : List Int) (v7 : List (List UInt8)) (v10 : List T_Entry.ty) (v12 : Int) {k : Nat} {a : List UInt8} (hk : v7[k]? = some a) (d : Int) (p q : List UInt8) (mm : Int) (r8 : List Int)
 {m : Nat} (hm : m < xs.length) (low : ∀ t,t < xs.length → ps (chgG xs a) (m + 1) ≤ ps (chgG xs a) (t + 1)) {j c : Int}
 (hf : (c = 0 ∧ ∃ m : Nat,m < xs.length ∧ j = m ∧ ps (chgG xs a) (m + 1) < 0 ∧ ∀ t,t < m → 0 ≤ ps (chgG xs a) (t + 1)) ∨ (c = 3 ∧ ∀ t,t < xs.length → 0 ≤ ps (chgG xs a) (t + 1))) :
 ∀ (n i : Nat),i + n = xs.length → laws_FnBooks_p11 v1 xs v7 v10 v12 k m (ps (chgG xs a) (m + 1)) j c (ps (chgG xs a) i) i d p q mm r8 = laws_FnBooks_p1 v1 xs v7 v10 v12 (IntKind.i64.wrap ((k : Int) + 1)) d p q mm r8
 | 0,i,hn => by
   have : i = xs.length := by omega
   subst this
   rw [laws_FnBooks_p11_eq]; simp
 | n + 1,i,hn => by
   have hfew := h.few
   have hi : i < xs.length := by omega
   have hlt : (i : Int) < (xs.length : Int) := by omega
   have hb := chg_small h a (i := i + 1) (by omega)
   have hb0 := chg_small h a (i := i) (by omega)
   have hM := eM_bd h i
   have g := h.at hi
   have IH := now_loop h v1 v7 v10 v12 hk d p q mm r8 hm low hf n (i + 1) (by omega)
   have e : ps (chgG xs a) (i + 1) = ps (chgG xs a) i + chgP (entryAt xs i) a := rfl
   rw [e] at hb
   have he2 : (i : Int) = (m : Int) → ps (chgG xs a) (i + 1) = ps (chgG xs a) (m + 1) := fun e => by rw [show i = m by omega]
   have fin : laws_FnBooks_p16 v1 xs v7 v10 v12 k m (ps (chgG xs a) (m + 1)) j c (ps (chgG xs a) (i + 1)) i d p q mm r8 = laws_FnBooks_p1 v1 xs v7 v10 v12 (IntKind.i64.wrap ((k : Int) + 1)) d p q mm r8 := by
    rw [p16_ok _ _ _ _ _ _ _ _ _ _ _ _ _ _ _ _ _ (low i hi) he2 (fun hneg => ?_) (fun hc he => ?_),wsucc (by omega)]
    ·exact IH
    ·rcases hf with ⟨h0,m',h1,h2,h3,h4⟩ | ⟨h0,h1⟩
     ·refine ⟨h0,?_⟩
      rw [h2]
      rcases Nat.lt_or_ge i m' with hlt' | hge
      ·have := h4 i hlt'; omega
      ·omega
     ·have := h1 i hi; omega
    ·rcases hf with ⟨h0,m',h1,h2,h3,h4⟩ | ⟨h0,h1⟩
     ·have : i = m' := by omega
      rw [this]; exact h3
     ·omega
   rw [laws_FnBooks_p11_eq]
   simp only [hlt,decide_true,if_true,Int.natCast_nonneg,Int.toNat_natCast,entryAt_get hi,hk,Option.bind_some]
   rw [e,chg_eq] at fin
   rw [chg_eq] at hb
   by_cases c1 : (eP (entryAt xs i) == a) = true
   ·have c2 : ¬ (eQ (entryAt xs i) == a) = true := fun c2 => g.ne ((eq_of_beq c1).trans (eq_of_beq c2).symm)
    rw [if_pos c1] at fin hb
    rw [if_pos (show ((entryAt xs i).2.1 == a) = true from c1),laws_FnBooks_p13_eq]
    simp only [Int.natCast_nonneg,decide_true,if_true,Int.toNat_natCast,entryAt_get hi,hk,Option.bind_some]
    have hw := w64 (n := ps (chgG xs a) i + eM (entryAt xs i)) (by omega) (by omega)
    rw [if_neg (show ¬ ((entryAt xs i).2.2.1 == a) = true from c2),show IntKind.i64.wrap (ps (chgG xs a) i + (entryAt xs i).2.2.2.1) = ps (chgG xs a) i + eM (entryAt xs i) from hw]
    exact fin
   ·rw [if_neg c1] at fin hb
    rw [if_neg (show ¬ ((entryAt xs i).2.1 == a) = true from c1),laws_FnBooks_p13_eq]
    simp only [Int.natCast_nonneg,decide_true,if_true,Int.toNat_natCast,entryAt_get hi,hk,Option.bind_some]
    by_cases c2 : (eQ (entryAt xs i) == a) = true
    ·rw [if_pos c2] at fin hb
     rw [if_pos (show ((entryAt xs i).2.2.1 == a) = true from c2),show ps (chgG xs a) i - (entryAt xs i).2.2.2.1 = ps (chgG xs a) i + -eM (entryAt xs i) from Int.sub_eq_add_neg,w64 (by omega) (by omega)]
     exact fin
    ·rw [if_neg c2,Int.add_zero] at fin
     rw [if_neg (show ¬ ((entryAt xs i).2.2.1 == a) = true from c2)]
     exact fin
theorem isum_pick (b : List UInt8) (m : Int) : ∀ (l : List (List UInt8)),l.Pairwise (· < ·) → isum (l.map fun a => if b == a then m else 0) = if b ∈ l then m else 0
 | [],_ => by simp [isum]
 | a :: l,h => by
   obtain ⟨h1,h2⟩ := List.pairwise_cons.1 h
   have IH := isum_pick b m l h2
   simp only [List.map_cons,isum,IH,List.mem_cons]
   by_cases e : b = a
   ·subst e
    have : b ∉ l := fun hb => List.lt_irrefl _ (h1 b hb)
    simp [this]
   ·simp [e]
theorem isum_add {α : Type} (f g h : α → Int) : ∀ (l : List α),(∀ a,a ∈ l → f a = g a + h a) → isum (l.map f) = isum (l.map g) + isum (l.map h)
 | [],_ => by simp [isum]
 | a :: l,e => by
   have := isum_add f g h l fun b hb => e b (List.mem_cons_of_mem _ hb)
   have := e a List.mem_cons_self
   simp only [List.map_cons,isum]; omega
theorem one_zero {x : T_Entry.ty} (hx : eP x ≠ eQ x) {l : List (List UInt8)} (h : l.Pairwise (· < ·)) (h1 : eP x ∈ l) (h2 : eQ x ∈ l) : isum (l.map fun a => chgP x a) = 0 := by
 rw [isum_add (fun a => chgP x a) (fun a => if eP x == a then eM x else 0) (fun a => if eQ x == a then -eM x else 0) l fun a _ => ?_,isum_pick _ _ l h,isum_pick _ _ l h,if_pos h1,if_pos h2]
 ·omega
 ·rw [chg_eq]
  by_cases c1 : (eP x == a) = true
  ·have c2 : ¬ (eQ x == a) = true := fun c2 => hx ((eq_of_beq c1).trans (eq_of_beq c2).symm)
   simp [c1,c2]
  ·simp [c1]
theorem all_zero {l : List (List UInt8)} (h : l.Pairwise (· < ·)) : ∀ (xs : List T_Entry.ty),(∀ x,x ∈ xs → eP x ≠ eQ x ∧ eP x ∈ l ∧ eQ x ∈ l) → isum (l.map fun a => isum (xs.map fun x => chgP x a)) = 0
 | [],_ => by
   have : ∀ l : List (List UInt8),isum (l.map fun a => isum (([] : List T_Entry.ty).map fun x => chgP x a)) = 0 := fun l => by
    induction l with
    | nil => rfl
    | cons a l ih => exact (Int.zero_add _).trans ih
   exact this l
 | x :: xs,hx => by
   have IH := all_zero h xs fun y hy => hx y (List.mem_cons_of_mem _ hy)
   obtain ⟨h1,h2,h3⟩ := hx x List.mem_cons_self
   rw [isum_add (fun a => isum ((x :: xs).map fun x => chgP x a)) (fun a => chgP x a) (fun a => isum (xs.map fun x => chgP x a)) l fun a _ => rfl,one_zero h1 h h2 h3,IH]
   rfl
theorem bal_zero {xs : List T_Entry.ty} (h : Book xs) : isum ((bal xs).map (acct xs)) = 0 := by
 rw [show acct xs = fun a => isum (xs.map fun x => chgP x a) from funext fun a => acct_isum xs a]
 refine all_zero (bal_up xs) xs fun x hx => ⟨(h.good x hx).ne,bal_mem.2 ?_,bal_mem.2 ?_⟩
 ·exact List.mem_flatMap.2 ⟨x,hx,by simp⟩
 ·exact List.mem_flatMap.2 ⟨x,hx,by simp⟩
theorem acct_bd {xs : List T_Entry.ty} (h : Book xs) (a : List UInt8) : -1000000000 ≤ acct xs a ∧ acct xs a ≤ 1000000000 := chg_small h a (by have := h.few; omega)
theorem sums_bd {f : List UInt8 → Int} (h : ∀ a,-1000000000 ≤ f a ∧ f a ≤ 1000000000) : ∀ l : List (List UInt8),-(1000000000 * (l.length : Int)) ≤ isum (l.map f) ∧ isum (l.map f) ≤ 1000000000 * (l.length : Int)
 | [] => by simp [isum]
 | a :: l => by
   have h1 := sums_bd h l
   have h2 := h a
   simp only [List.map_cons,isum,List.length_cons]
   omega
theorem names_step {xs : List T_Entry.ty} (h : Book xs) {x : T_Entry.ty} (hx : Good x) {p : Nat} (hn : Book (ins xs p x)) (v1 : List Int) {k : Nat} (hk : k < (bal xs).length) :
 laws_FnBooks_p1 v1 xs (bal xs) (ins xs p x) (isum (((bal xs).take k).map (acct xs))) k (eD x) (eP x) (eQ x) (eM x) ((bal xs).map (acct xs)) =
  laws_FnBooks_p1 v1 xs (bal xs) (ins xs p x) (isum (((bal xs).take (k + 1)).map (acct xs))) ((k + 1 : Nat) : Int) (eD x) (eP x) (eQ x) (eM x) ((bal xs).map (acct xs)) := by
 have hf := h.few
 have hl := bal_len xs
 obtain ⟨a,ha⟩ : ∃ a,(bal xs)[k] = a := ⟨_,rfl⟩
 have ga : (bal xs)[k]? = some a := by rw [List.getElem?_eq_getElem hk,ha]
 have hmem : a ∈ bal xs := by rw [← ha]; exact List.getElem_mem hk
 obtain ⟨hna,h0⟩ := bal_name h hmem
 have gs : ((bal xs).map (acct xs))[k]? = some (acct xs a) := by rw [List.getElem?_map,ga]; rfl
 have hkl : (k : Int) < ((bal xs).length : Int) := by omega
 have hkl2 : (k : Int) < (((bal xs).map (acct xs)).length : Int) := by rw [List.length_map]; omega
 obtain ⟨m,hm,hlow,low⟩ := lowest_ok h hna h0
 obtain ⟨j,c,hfst,hfc⟩ := first_ok h hna
 have es : isum (((bal xs).take (k + 1)).map (acct xs)) = isum (((bal xs).take k).map (acct xs)) + acct xs a := by
  rw [List.take_succ_eq_append_getElem hk,List.map_append,isum_app,ha]; simp [isum]
 have hsb := sums_bd (acct_bd h) ((bal xs).take (k + 1))
 have hsl : (((bal xs).take (k + 1)).length : Int) ≤ 64 := by rw [List.length_take]; omega
 have hcb := chg_core (eP x) (eQ x) a (eM x) ⟨by have := hx.m0; omega,hx.m1⟩
 have hce : chgP x a = if eP x == a then eM x else if eQ x == a then -eM x else 0 := rfl
 have hab := acct_bd h a
 have hm1 := hx.m1
 have hm0 := hx.m0
 have p6 : laws_FnBooks_p6 v1 xs (bal xs) (ins xs p x) (isum (((bal xs).take (k + 1)).map (acct xs))) k (eD x) (eP x) (eQ x) (eM x) ((bal xs).map (acct xs)) =
  laws_FnBooks_p1 v1 xs (bal xs) (ins xs p x) (isum (((bal xs).take (k + 1)).map (acct xs))) ((k + 1 : Nat) : Int) (eD x) (eP x) (eQ x) (eM x) ((bal xs).map (acct xs)) := by
  have n1 : ¬ ((m : Int) < 0) := by omega
  have n2 : ¬ ((m : Int) ≥ (xs.length : Int)) := by omega
  have n3 : ((c == 0) == decide (ps (chgG xs a) (m + 1) < 0)) = true := by
   rcases hfc with ⟨e,m',q1,q2,q3,q4⟩ | ⟨e,q⟩
   ·have := low m' q1
    have hd : ps (chgG xs a) (m + 1) < 0 := by omega
    simp [e,hd]
   ·have := q m hm
    have hd : ¬ ps (chgG xs a) (m + 1) < 0 := by omega
    simp only [e,hd,decide_false]; decide
  rw [laws_FnBooks_p6_eq]
  simp only [Int.natCast_nonneg,decide_true,if_true,Int.toNat_natCast,ga,Option.bind_some,hlow,hfst,n1,n2,n3,decide_false,bne_self_eq_false,Bool.not_true,Bool.false_eq_true,if_false]
  rw [laws_FnBooks_p9_eq,← wsucc (show k < 4611686018427387904 by omega)]
  exact now_loop h v1 (bal xs) (ins xs p x) _ ga _ _ _ _ _ hm low hfc xs.length 0 (by omega)
 have p4 : ∀ v18 : Int,v18 = chgP x a → laws_FnBooks_p4 v1 xs (bal xs) (ins xs p x) (isum (((bal xs).take (k + 1)).map (acct xs))) k (acct xs a) 0 (acct (ins xs p x) a) 0 v18 (eD x) (eP x) (eQ x) (eM x) ((bal xs).map (acct xs)) =
  laws_FnBooks_p1 v1 xs (bal xs) (ins xs p x) (isum (((bal xs).take (k + 1)).map (acct xs))) ((k + 1 : Nat) : Int) (eD x) (eP x) (eQ x) (eM x) ((bal xs).map (acct xs)) := fun v18 hv => by
  have hw : IntKind.i64.wrap (acct (ins xs p x) a - acct xs a) = v18 := by
   rw [acct_ins,hv,w64 (by rw [hce]; omega) (by rw [hce]; omega)]; omega
  rw [laws_FnBooks_p4_eq]
  simp only [Int.natCast_nonneg,hkl2,decide_true,Bool.and_self,if_true,Int.toNat_natCast,gs,Option.bind_some,hw,bne_self_eq_false,Bool.false_eq_true,if_false]
  by_cases hk0 : (k : Int) > 0
  ·have hw1 : IntKind.i64.wrap ((k : Int) - 1) = ((k - 1 : Nat) : Int) := by rw [w64 (by omega) (by omega)]; omega
   have hk1 : k - 1 < (bal xs).length := by omega
   have hlt := List.pairwise_iff_getElem.1 (bal_up xs) (k - 1) k hk1 hk (by omega)
   rw [ha] at hlt
   have hbl : Op.bytesLess (bal xs)[k - 1] a = true := by rw [Proofs.bytesLess_eq]; exact decide_eq_true hlt
   simp only [hk0,decide_true,if_true,hw1,Int.natCast_nonneg,Int.toNat_natCast,List.getElem?_eq_getElem hk1,ga,Option.bind_some,hbl,Bool.not_true,Bool.false_eq_true,if_false]
   exact p6
  ·simp only [hk0,decide_false,Bool.false_eq_true,if_false]
   exact p6
 rw [laws_FnBooks_p1_eq]
 simp only [hkl,hkl2,Int.natCast_nonneg,decide_true,Bool.and_self,if_true,Int.toNat_natCast,ga,gs,Option.bind_some,account_ok h hna,account_ok hn hna]
 rw [w64 (n := isum (((bal xs).take k).map (acct xs)) + acct xs a) (by omega) (by omega),← es]
 by_cases c1 : (eP x == a) = true
 ·have c2 : ¬ (eQ x == a) = true := fun c2 => hx.ne ((eq_of_beq c1).trans (eq_of_beq c2).symm)
  rw [if_pos c1,laws_FnBooks_p2_eq]
  simp only [Int.natCast_nonneg,decide_true,if_true,Int.toNat_natCast,ga,Option.bind_some]
  rw [if_neg c2]
  exact p4 _ (by rw [hce,if_pos c1])
 ·rw [if_neg c1,laws_FnBooks_p2_eq]
  simp only [Int.natCast_nonneg,decide_true,if_true,Int.toNat_natCast,ga,Option.bind_some]
  by_cases c2 : (eQ x == a) = true
  ·rw [if_pos c2,w64 (n := 0 - eM x) (by omega) (by omega)]
   exact p4 _ (by rw [hce,if_neg c1,if_pos c2]; omega)
  ·rw [if_neg c2]
   exact p4 _ (by rw [hce,if_neg c1,if_neg c2])
theorem names_loop {xs : List T_Entry.ty} (h : Book xs) {x : T_Entry.ty} (hx : Good x) {p : Nat} (hn : Book (ins xs p x)) (v1 : List Int) : ∀ k i : Nat,i + k = (bal xs).length →
 laws_FnBooks_p1 v1 xs (bal xs) (ins xs p x) (isum (((bal xs).take i).map (acct xs))) i (eD x) (eP x) (eQ x) (eM x) ((bal xs).map (acct xs)) =
  laws_FnBooks_p1 v1 xs (bal xs) (ins xs p x) 0 (bal xs).length (eD x) (eP x) (eQ x) (eM x) ((bal xs).map (acct xs))
 | 0,i,hk => by
   have : i = (bal xs).length := by omega
   subst this
   rw [List.take_length,bal_zero h]
 | k + 1,i,hk => by
   rw [names_step h hx hn v1 (show i < (bal xs).length by omega)]
   exact names_loop h hx hn v1 k (i + 1) (by omega)
def mark (u : List Bool) (p : List Int) : List Bool := match p with
 | [i,k] => (u.set i.toNat true).set k.toNat true
 | _ => u
def marks (n : Nat) (l : List (List Int)) : List Bool := l.foldl mark (List.replicate n false)
theorem mark_len (u : List Bool) (p : List Int) : (mark u p).length = u.length := by
 unfold mark; split <;> simp
theorem marks_len (n : Nat) (l : List (List Int)) : (marks n l).length = n := by
 have : ∀ (l : List (List Int)) (u : List Bool),(l.foldl mark u).length = u.length := fun l => by
  induction l with
  | nil => intro u; rfl
  | cons p l ih => intro u; rw [List.foldl_cons,ih,mark_len]
 rw [marks,this,List.length_replicate]
theorem marks_snoc (n : Nat) (l : List (List Int)) (p : List Int) : marks n (l ++ [p]) = mark (marks n l) p := by
 rw [marks,List.foldl_append]; rfl
structure PairAt (xs : List T_Entry.ty) (l : List (List Int)) (p : List Int) (i k : Nat) : Prop where
 e : p = [(i : Int),(k : Int)]
 ik : i < k
 kn : k < xs.length
 fi : (marks xs.length l)[i]? = some false
 fk : (marks xs.length l)[k]? = some false
 pq : eP (entryAt xs i) = eQ (entryAt xs k)
 qp : eQ (entryAt xs i) = eP (entryAt xs k)
 m : eM (entryAt xs i) = eM (entryAt xs k)
def Pairs (xs : List T_Entry.ty) (l : List (List Int)) : Prop := ∀ t (p : List Int),l[t]? = some p → ∃ i k,PairAt xs (l.take t) p i k
theorem Pairs.nil (xs : List T_Entry.ty) : Pairs xs [] := fun t p h => by simp at h
theorem Pairs.snoc {xs : List T_Entry.ty} {l : List (List Int)} (h : Pairs xs l) {p : List Int} {i k : Nat} (hp : PairAt xs l p i k) : Pairs xs (l ++ [p]) := fun t q hq => by
 rcases Nat.lt_or_ge t l.length with ht | ht
 ·rw [List.getElem?_append_left ht] at hq
  obtain ⟨i',k',h'⟩ := h t q hq
  exact ⟨i',k',by rw [List.take_append_of_le_length (by omega)]; exact h'⟩
 ·rw [List.getElem?_append_right ht] at hq
  have : t = l.length := by
   by_cases e : t - l.length = 0
   ·omega
   ·rw [List.getElem?_eq_none (by simp; omega)] at hq; cases hq
  subst this
  simp at hq; subst hq
  exact ⟨i,k,by rw [List.take_append_of_le_length (by omega),List.take_length]; exact hp⟩
theorem count_set : ∀ (u : List Bool) (i : Nat),u[i]? = some false → (u.set i true).count true = u.count true + 1
 | [],i,h => by simp at h
 | b :: u,0,h => by simp at h; subst h; simp
 | b :: u,i + 1,h => by
   simp only [List.getElem?_cons_succ] at h
   have := count_set u i h
   simp only [List.set_cons_succ,List.count_cons,this]; omega
theorem Pairs.count {xs : List T_Entry.ty} {l : List (List Int)} (h : Pairs xs l) : ∀ t,t ≤ l.length → (marks xs.length (l.take t)).count true = 2 * t
 | 0,_ => by simp [marks,List.count_replicate]
 | t + 1,ht => by
   obtain ⟨i,k,hp⟩ := h t _ (List.getElem?_eq_getElem (show t < l.length by omega))
   rw [List.take_succ_eq_append_getElem (by omega),marks_snoc,hp.e]
   show (((marks xs.length (l.take t)).set (i : Int).toNat true).set (k : Int).toNat true).count true = _
   rw [Int.toNat_natCast,Int.toNat_natCast,count_set _ _ (by rw [List.getElem?_set_ne (by have := hp.ik; omega)]; exact hp.fk),count_set _ _ hp.fi,Pairs.count h t (by omega)]
   omega
theorem Pairs.half {xs : List T_Entry.ty} {l : List (List Int)} (h : Pairs xs l) : 2 * l.length ≤ xs.length := by
 have h1 := h.count l.length (Nat.le_refl _)
 rw [List.take_length] at h1
 have h2 : (marks xs.length l).count true ≤ (marks xs.length l).length := List.count_le_length
 rw [marks_len] at h2
 omega
theorem pairs_inner {xs : List T_Entry.ty} (h : Book xs) {i : Nat} (hi : i < xs.length) : ∀ (m k : Nat) (l : List (List Int)),k + m = xs.length → i < k → Pairs xs l →
 ∃ l',Pairs xs l' ∧ impl_PairsOf_p1 xs xs.length i k xs xs.length i l (marks xs.length l) (eD (entryAt xs i)) (eP (entryAt xs i)) (eQ (entryAt xs i)) (eM (entryAt xs i)) = impl_PairsOf_p0 xs xs.length xs xs.length ((i + 1 : Nat) : Int) l' (marks xs.length l')
 | 0,k,l,hk,hik,hl => by
   have : k = xs.length := by omega
   subst this
   refine ⟨l,hl,?_⟩
   rw [impl_PairsOf_p1_eq,if_neg (by simp),wsucc (by have := h.few; omega)]
 | m + 1,k,l,hk,hik,hl => by
   have hf := h.few
   have hkx : k < xs.length := by omega
   have hlt : (k : Int) < (xs.length : Int) := by omega
   have hlt2 : (i : Int) < (xs.length : Int) := by omega
   have next := fun l' hl' => pairs_inner h hi m (k + 1) l' (by omega) (by omega) hl'
   have hl2 := hl.half
   have hlim : l.length + 1 < lim := by unfold lim; omega
   obtain ⟨bi,hbi⟩ : ∃ b,(marks xs.length l)[i]? = some b := ⟨_,List.getElem?_eq_getElem (by rw [marks_len]; exact hi)⟩
   obtain ⟨bk,hbk⟩ : ∃ b,(marks xs.length l)[k]? = some b := ⟨_,List.getElem?_eq_getElem (by rw [marks_len]; exact hkx)⟩
   have hw : IntKind.i64.wrap ((k : Int) + 1) = ((k + 1 : Nat) : Int) := wsucc (by omega)
   rw [impl_PairsOf_p1_eq]
   simp only [hlt,hlt2,decide_true,if_true,Int.natCast_nonneg,Bool.and_self,Int.toNat_natCast,entryAt_get hkx,hbi,hbk,Option.bind_some,hw]
   cases bi
   ·cases bk
    ·simp only [Bool.not_false,if_true]
     by_cases c1 : (eP (entryAt xs i) == (entryAt xs k).2.2.1) = true
     ·by_cases c2 : (eQ (entryAt xs i) == (entryAt xs k).2.1) = true
      ·by_cases c3 : (eM (entryAt xs i) == (entryAt xs k).2.2.2.1) = true
       ·rw [if_pos c1,if_pos c2,if_pos c3]
        have hp : PairAt xs l [(i : Int),(k : Int)] i k := ⟨rfl,hik,hkx,hbi,hbk,eq_of_beq c1,eq_of_beq c2,eq_of_beq c3⟩
        have hbk2 : ((marks xs.length l).set i true)[k]? = some false := by rw [List.getElem?_set_ne (by omega)]; exact hbk
        have e : ((marks xs.length l).set i true).set k true = marks xs.length (l ++ [[(i : Int),(k : Int)]]) := by rw [marks_snoc]; rfl
        rw [impl_PairsOf_p2_eq]
        simp only [hlt,hlt2,decide_true,if_true,Int.natCast_nonneg,Bool.and_self,Int.toNat_natCast,hbi,hbk2,Option.bind_some,hw,hlim,List.take_length,e]
        exact next _ (hl.snoc hp)
       ·rw [if_pos c1,if_pos c2,if_neg c3]; exact next l hl
      ·rw [if_pos c1,if_neg c2]; exact next l hl
     ·rw [if_neg c1]; exact next l hl
    ·simp only [Bool.not_false,Bool.not_true,Bool.false_eq_true,if_true,if_false]
     exact next l hl
   ·simp only [Bool.not_true,Bool.false_eq_true,if_false]
    exact next l hl
theorem pairs_outer {xs : List T_Entry.ty} (h : Book xs) : ∀ (m i : Nat) (l : List (List Int)),i + m = xs.length → Pairs xs l →
 ∃ l',Pairs xs l' ∧ impl_PairsOf_p0 xs xs.length xs xs.length i l (marks xs.length l) = some (l',0)
 | 0,i,l,hk,hl => by
   have : i = xs.length := by omega
   subst this
   refine ⟨l,hl,?_⟩
   rw [impl_PairsOf_p0_eq,if_neg (by simp),List.take_length]
 | m + 1,i,l,hk,hl => by
   have hf := h.few
   have hi : i < xs.length := by omega
   have hlt : (i : Int) < (xs.length : Int) := by omega
   obtain ⟨l1,h1,e1⟩ := pairs_inner h hi (m := m) (i + 1) l (by omega) (by omega) hl
   obtain ⟨l2,h2,e2⟩ := pairs_outer h m (i + 1) l1 (by omega) h1
   refine ⟨l2,h2,?_⟩
   rw [impl_PairsOf_p0_eq]
   simp only [hlt,decide_true,if_true,Int.natCast_nonneg,Int.toNat_natCast,entryAt_get hi,Option.bind_some,wsucc (show i < 4611686018427387904 by omega)]
   exact e1.trans e2
theorem pairs_ok {xs : List T_Entry.ty} (h : Book xs) : ∃ l,Pairs xs l ∧ impl_PairsOf xs = some (l,0) := by
 have hf := h.few
 obtain ⟨l,hl,e⟩ := pairs_outer h xs.length 0 [] (by omega) (Pairs.nil xs)
 refine ⟨l,hl,?_⟩
 have hlim : xs.length < lim := by unfold lim; omega
 rw [impl_PairsOf_eq,h.ok]
 simp only [Option.bind_some,Bool.not_true,Bool.false_eq_true,if_false,Int.natCast_nonneg,Int.toNat_natCast,Int.le_refl,hlim,decide_true,Bool.and_self,if_true,List.length_replicate]
 exact e
def people : List (List UInt8) := [[97,100,97],[98,101,110],[99,108,101,111],[100,111,118]]
theorem law_pairs {xs : List T_Entry.ty} (h : Book xs) {l : List (List Int)} (hl : Pairs xs l) (v1 : List Int) : ∀ (m t : Nat),t + m = l.length →
 laws_FnBooks_p5 v1 xs l xs.length t (marks xs.length (l.take t)) = laws_FnBooks_p8 v1 0 0 people []
 | 0,t,hm => by
   have : t = l.length := by omega
   subst this
   rw [laws_FnBooks_p5_eq,if_neg (by simp)]; rfl
 | m + 1,t,hm => by
   have hf := h.few
   have hh := hl.half
   have ht : t < l.length := by omega
   have hlt : (t : Int) < (l.length : Int) := by omega
   obtain ⟨i,k,hp⟩ := hl t _ (List.getElem?_eq_getElem ht)
   have hg : l[t]? = some [(i : Int),(k : Int)] := by rw [List.getElem?_eq_getElem ht,hp.e]
   have hik := hp.ik
   have hkn := hp.kn
   have n1 : ¬ ((i : Int) < 0) := by omega
   have n2 : ¬ ((i : Int) ≥ (k : Int)) := by omega
   have n3 : ¬ ((k : Int) ≥ (xs.length : Int)) := by omega
   have n4 : (i : Int) < (xs.length : Int) := by omega
   have n5 : (k : Int) < (xs.length : Int) := by omega
   have q1 : ((entryAt xs i).2.1 == (entryAt xs k).2.2.1) = true := beq_iff_eq.2 hp.pq
   have q2 : ((entryAt xs i).2.2.1 == (entryAt xs k).2.1) = true := beq_iff_eq.2 hp.qp
   have q3 : ((entryAt xs i).2.2.2.1 != (entryAt xs k).2.2.2.1) = false := by rw [bne_eq_false_iff_eq]; exact hp.m
   have hbk2 : ((marks xs.length (l.take t)).set i true)[k]? = some false := by rw [List.getElem?_set_ne (by omega)]; exact hp.fk
   have e : ((marks xs.length (l.take t)).set i true).set k true = marks xs.length (l.take (t + 1)) := by
    rw [List.take_succ_eq_append_getElem ht,marks_snoc,hp.e]; rfl
   have e2 : ((([(i : Int),(k : Int)] : List Int).length : Int) != 2) = false := rfl
   rw [laws_FnBooks_p5_eq]
   simp only [hlt,decide_true,if_true,Int.natCast_nonneg,Int.toNat_natCast,hg,Option.bind_some,e2,List.getElem?_cons_zero,List.getElem?_cons_succ,n1,n2,n3,n4,n5,decide_false,Bool.false_eq_true,if_false,Bool.and_self,hp.fi,hp.fk,entryAt_get (show i < xs.length by omega),entryAt_get hkn,q1,q2,q3,Bool.not_true]
   rw [laws_FnBooks_p7_eq]
   simp only [List.getElem?_cons_zero,List.getElem?_cons_succ,Option.bind_some,Int.natCast_nonneg,Int.toNat_natCast,n4,n5,decide_true,Bool.and_self,if_true,hp.fi,hbk2,e,wsucc (show t < 4611686018427387904 by omega)]
   exact law_pairs h hl v1 m (t + 1) (by omega)
theorem law_p3 {xs : List T_Entry.ty} (h : Book xs) {l : List (List Int)} (hl : Pairs xs l) (v1 : List Int) : laws_FnBooks_p3 v1 xs l = laws_FnBooks_p8 v1 0 0 people [] := by
 have hf := h.few
 have hlim : xs.length < lim := by unfold lim; omega
 rw [laws_FnBooks_p3_eq]
 simp only [Int.natCast_nonneg,Int.toNat_natCast,Int.le_refl,hlim,decide_true,Bool.and_self,if_true,List.length_replicate]
 exact law_pairs h hl v1 l.length 0 (by omega)
def gI (L : List Int) (i : Nat) : Int := (L[i]?).getD 0
theorem gI_get {L : List Int} {i : Nat} (h : i < L.length) : L[i]? = some (gI L i) := by simp [gI,List.getElem?_eq_getElem h]
theorem gI_el {L : List Int} {i : Nat} (h : i < L.length) : L[i] = gI L i := by simp [gI,List.getElem?_eq_getElem h]
theorem gI_set_ne {L : List Int} {i j : Nat} (v : Int) (h : i ≠ j) : gI (L.set i v) j = gI L j := by simp [gI,List.getElem?_set_ne h]
theorem gI_set_eq {L : List Int} {i : Nat} (v : Int) (h : i < L.length) : gI (L.set i v) i = v := by simp [gI,h]
def nz (L : List Int) : Nat := L.countP fun v => v != 0
def z1 (v : Int) : Nat := if v = 0 then 0 else 1
theorem nz_cons (v : Int) (L : List Int) : nz (v :: L) = nz L + z1 v := by
 simp only [nz,List.countP_cons,z1]
 by_cases h : v = 0 <;> simp [h]
theorem nz_set : ∀ (L : List Int) (i : Nat) (v : Int),i < L.length → nz (L.set i v) + z1 (gI L i) = nz L + z1 v
 | [],i,v,h => by simp at h
 | a :: L,0,v,h => by simp only [List.set_cons_zero,nz_cons,gI,List.getElem?_cons_zero,Option.getD_some]; omega
 | a :: L,i + 1,v,h => by
   have := nz_set L i v (by simpa using h)
   simp only [List.set_cons_succ,nz_cons]
   have e : gI (a :: L) (i + 1) = gI L i := by simp [gI]
   rw [e]; omega
theorem nz_zero : ∀ {L : List Int},nz L = 0 → ∀ i,i < L.length → gI L i = 0
 | [],_,i,h => by simp at h
 | a :: L,h,0,_ => by
   rw [nz_cons] at h
   have : z1 a = 0 := by omega
   unfold z1 at this
   split at this
   ·assumption
   ·omega
 | a :: L,h,i + 1,hi => by
   rw [nz_cons] at h
   have := nz_zero (L := L) (by omega) i (by simpa using hi)
   simpa [gI] using this
theorem zero_nz : ∀ {L : List Int},(∀ i,i < L.length → gI L i = 0) → nz L = 0
 | [],_ => rfl
 | a :: L,h => by
   have h0 := h 0 (by simp)
   rw [nz_cons,zero_nz (L := L) fun i hi => by have := h (i + 1) (by simpa using hi); simpa [gI] using this]
   have : a = 0 := by simpa [gI] using h0
   rw [this]; rfl
theorem four {L : List Int} (h : L.length = 4) : L = [gI L 0,gI L 1,gI L 2,gI L 3] := by
 match L,h with
 | [a,b,c,d],_ => rfl
theorem isum_four {L : List Int} (h : L.length = 4) : isum L = gI L 0 + gI L 1 + gI L 2 + gI L 3 := by
 rw [four h]; simp [isum,gI]; omega
def nm (i : Nat) : List UInt8 := (people[i]?).getD []
theorem nm_get {i : Nat} (h : i < 4) : people[i]? = some (nm i) := by
 have : i < people.length := h
 simp [nm,List.getElem?_eq_getElem this]
theorem nm_eq : ∀ {i j : Nat},i < 4 → j < 4 → (nm i == nm j) = decide (i = j) := by
 have : ∀ i,i < 4 → ∀ j,j < 4 → (nm i == nm j) = decide (i = j) := by decide
 exact fun {i j} hi hj => this i hi j hj
def payV (x : T_Entry.ty) (n : List UInt8) (v : Int) : Int :=
 if n == eQ x then (if n == eP x then v + eM x else v) - eM x else (if n == eP x then v + eM x else v)
def pay (L : List Int) (x : T_Entry.ty) : List Int := [payV x (nm 0) (gI L 0),payV x (nm 1) (gI L 1),payV x (nm 2) (gI L 2),payV x (nm 3) (gI L 3)]
theorem payV_of (lo hi : Nat) (hl : lo < 4) (hh : hi < 4) (m : Int) {i : Nat} (hi4 : i < 4) (v : Int) : payV (0,nm lo,nm hi,m,()) (nm i) v = if i = hi then (if i = lo then v + m else v) - m else if i = lo then v + m else v := by
 simp only [payV,eP,eQ,eM,nm_eq hi4 hl,nm_eq hi4 hh,decide_eq_true_eq]
theorem pay_set {L : List Int} (h : L.length = 4) {lo hi : Nat} (hl : lo < 4) (hh : hi < 4) (hne : lo ≠ hi) (m : Int) : pay L (0,nm lo,nm hi,m,()) = (L.set lo (gI L lo + m)).set hi (gI L hi - m) := by
 have hl2 : ((L.set lo (gI L lo + m)).set hi (gI L hi - m)).length = 4 := by simp [h]
 rw [four hl2,pay,payV_of lo hi hl hh m (by omega),payV_of lo hi hl hh m (by omega),payV_of lo hi hl hh m (by omega),payV_of lo hi hl hh m (by omega)]
 have e : ∀ i,i < 4 → (if i = hi then (if i = lo then gI L i + m else gI L i) - m else if i = lo then gI L i + m else gI L i) = gI ((L.set lo (gI L lo + m)).set hi (gI L hi - m)) i := fun i hi4 => by
  by_cases c1 : i = hi
  ·subst c1
   rw [gI_set_eq _ (by simp [h]; omega),if_pos rfl,if_neg (fun e => hne e.symm)]
  ·rw [gI_set_ne _ (fun e => c1 e.symm),if_neg c1]
   by_cases c2 : i = lo
   ·subst c2; rw [gI_set_eq _ (by omega),if_pos rfl]
   ·rw [gI_set_ne _ (fun e => c2 e.symm),if_neg c2]
 rw [e 0 (by omega),e 1 (by omega),e 2 (by omega),e 3 (by omega)]
def replay (L : List Int) (out : List T_Entry.ty) : List Int := out.foldl pay L
structure Paid (L : List Int) (x : T_Entry.ty) : Prop where
 len : L.length = 4
 bd : ∀ i,-1000 ≤ gI L i ∧ gI L i ≤ 1000
 m0 : 1 ≤ eM x
 m1 : eM x ≤ 1000
def AllPaid (L : List Int) (out : List T_Entry.ty) : Prop := ∀ t x,out[t]? = some x → Paid (replay L (out.take t)) x
theorem AllPaid.snoc {L : List Int} {out : List T_Entry.ty} (h : AllPaid L out) {x : T_Entry.ty} (hx : Paid (replay L out) x) : AllPaid L (out ++ [x]) := fun t y hy => by
 rcases Nat.lt_or_ge t out.length with ht | ht
 ·rw [List.getElem?_append_left ht] at hy
  rw [List.take_append_of_le_length (by omega)]; exact h t y hy
 ·rw [List.getElem?_append_right ht] at hy
  have : t = out.length := by
   by_cases e : t - out.length = 0
   ·omega
   ·rw [List.getElem?_eq_none (by simp; omega)] at hy; cases hy
  subst this
  simp at hy; subst hy
  rw [List.take_append_of_le_length (by omega),List.take_length]; exact hx
theorem scan {L : List Int} (h : L.length = 4) (r8 : List T_Entry.ty) : ∀ (n i lo hi : Nat),i + n = 4 → lo < 4 → hi < 4 → (∀ t,t < i → gI L lo ≤ gI L t) → (∀ t,t < i → gI L t ≤ gI L hi) →
 ∃ lo' hi' : Nat,lo' < 4 ∧ hi' < 4 ∧ (∀ t,t < 4 → gI L lo' ≤ gI L t) ∧ (∀ t,t < 4 → gI L t ≤ gI L hi') ∧
   impl_SettleDebts_p1 people 4 lo hi 4 4 i L r8 = impl_SettleDebts_p1 people 4 lo' hi' 4 4 4 L r8
 | 0,i,lo,hi,hn,hl,hh,h1,h2 => by
   have : i = 4 := by omega
   subst this
   exact ⟨lo,hi,hl,hh,h1,h2,rfl⟩
 | n + 1,i,lo,hi,hn,hl,hh,h1,h2 => by
   have c0 : (i : Int) < 4 := by omega
   have c1 : (lo : Int) < ((4 : Nat) : Int) := by omega
   have c2 : (hi : Int) < ((4 : Nat) : Int) := by omega
   have c3 : (i : Int) < ((4 : Nat) : Int) := by omega
   have hw : IntKind.i64.wrap ((i : Int) + 1) = ((i + 1 : Nat) : Int) := wsucc (by omega)
   have two : ∀ lo' : Nat,lo' < 4 → (∀ t,t < i + 1 → gI L lo' ≤ gI L t) → ∃ lo2 hi2 : Nat,lo2 < 4 ∧ hi2 < 4 ∧ (∀ t,t < 4 → gI L lo2 ≤ gI L t) ∧ (∀ t,t < 4 → gI L t ≤ gI L hi2) ∧
    impl_SettleDebts_p2 people 4 lo' hi i (gI L i) 4 4 i L r8 = impl_SettleDebts_p1 people 4 lo2 hi2 4 4 4 L r8 := fun lo' hl' hlo => by
    rw [impl_SettleDebts_p2_eq]
    simp only [Int.natCast_nonneg,c2,decide_true,Bool.and_self,if_true,Int.toNat_natCast,gI_get (show hi < L.length by omega),Option.bind_some,hw]
    by_cases c : gI L i > gI L hi
    ·rw [if_pos (decide_eq_true c)]
     refine scan h r8 n (i + 1) lo' i (by omega) hl' (by omega) hlo fun t ht => ?_
     by_cases e : t = i
     ·subst e; exact Int.le_refl _
     ·have := h2 t (by omega); omega
    ·rw [if_neg (by simpa using c)]
     refine scan h r8 n (i + 1) lo' hi (by omega) hl' hh hlo fun t ht => ?_
     by_cases e : t = i
     ·subst e; omega
     ·exact h2 t (by omega)
   rw [impl_SettleDebts_p1_eq]
   simp only [Int.natCast_nonneg,c0,c1,c3,decide_true,Bool.and_self,if_true,Int.toNat_natCast,gI_get (show i < L.length by omega),gI_get (show lo < L.length by omega),Option.bind_some]
   by_cases c : gI L i < gI L lo
   ·rw [if_pos (decide_eq_true c)]
    refine two i (by omega) fun t ht => ?_
    by_cases e : t = i
    ·subst e; exact Int.le_refl _
    ·have := h1 t (by omega); omega
   ·rw [if_neg (by simpa using c)]
    refine two lo hl fun t ht => ?_
    by_cases e : t = i
    ·subst e; omega
    ·exact h1 t (by omega)
theorem settle {L0 : List Int} : ∀ (N : Nat) (L : List Int) (r8 : List T_Entry.ty),nz L ≤ N → L.length = 4 → replay L0 r8 = L → AllPaid L0 r8 → r8.length + nz L ≤ 4 → (nz L = 0 → r8.length ≤ 3) → isum L = 0 → (∀ i,-1000 ≤ gI L i ∧ gI L i ≤ 1000) →
 ∃ out,impl_SettleDebts_p0 people 4 L r8 = some (out,0) ∧ out.length ≤ 3 ∧ AllPaid L0 out ∧ replay L0 out = [0,0,0,0] := by
 intro N
 induction N with
 | zero =>
   intro L r8 hN hL hR hA hlen h3 hs hb
   obtain ⟨lo,hi,hl,hh,h1,h2,e⟩ := scan hL r8 4 0 0 0 (by omega) (by omega) (by omega) (fun t ht => by omega) (fun t ht => by omega)
   have hz := nz_zero (show nz L = 0 by omega)
   have z1 := hz lo (by omega)
   have z2 := hz hi (by omega)
   have c1 : (lo : Int) < ((4 : Nat) : Int) := by omega
   have c2 : (hi : Int) < ((4 : Nat) : Int) := by omega
   have w0 : IntKind.i64.wrap (0 - 0) = 0 := by decide
   refine ⟨r8,?_,h3 (by omega),hA,?_⟩
   ·rw [impl_SettleDebts_p0_eq,if_pos (by decide)]
    refine e.trans ?_
    rw [impl_SettleDebts_p1_eq]
    simp only [show ¬ ((4 : Int) < 4) by omega,decide_false,Bool.false_eq_true,if_false,Int.natCast_nonneg,c1,c2,decide_true,Bool.and_self,if_true,Int.toNat_natCast,gI_get (show lo < L.length by omega),gI_get (show hi < L.length by omega),Option.bind_some,z1,z2,w0,show ¬ ((0 : Int) < 0) by omega,beq_self_eq_true,List.take_length]
   ·rw [hR,four hL,hz 0 (by omega),hz 1 (by omega),hz 2 (by omega),hz 3 (by omega)]
 | succ N ih =>
   intro L r8 hN hL hR hA hlen h3 hs hb
   obtain ⟨lo,hi,hl,hh,h1,h2,e⟩ := scan hL r8 4 0 0 0 (by omega) (by omega) (by omega) (fun t ht => by omega) (fun t ht => by omega)
   have c1 : (lo : Int) < ((4 : Nat) : Int) := by omega
   have c2 : (hi : Int) < ((4 : Nat) : Int) := by omega
   have b1 := hb lo
   have b2 := hb hi
   have hw : IntKind.i64.wrap (0 - gI L lo) = -gI L lo := by rw [w64 (by omega) (by omega)]; omega
   have hsum := isum_four hL
   have l0 := h1 0 (by omega); have l1 := h1 1 (by omega); have l2 := h1 2 (by omega); have l3 := h1 3 (by omega)
   have u0 := h2 0 (by omega); have u1 := h2 1 (by omega); have u2 := h2 2 (by omega); have u3 := h2 3 (by omega)
   obtain ⟨m,hm⟩ : ∃ m,(if gI L hi < -gI L lo then gI L hi else -gI L lo) = m := ⟨_,rfl⟩
   have hm' : m ≤ gI L hi ∧ m ≤ -gI L lo ∧ (m = gI L hi ∨ m = -gI L lo) := by rw [← hm]; split <;> omega
   by_cases hm0 : m = 0
   ·have hz : ∀ i,i < L.length → gI L i = 0 := fun i hi4 => by
     have : i = 0 ∨ i = 1 ∨ i = 2 ∨ i = 3 := by omega
     rcases this with rfl | rfl | rfl | rfl <;> omega
    refine ⟨r8,?_,h3 (zero_nz hz),hA,?_⟩
    ·rw [impl_SettleDebts_p0_eq,if_pos (by decide)]
     refine e.trans ?_
     rw [impl_SettleDebts_p1_eq]
     simp only [show ¬ ((4 : Int) < 4) by omega,decide_false,Bool.false_eq_true,if_false,Int.natCast_nonneg,c1,c2,decide_true,Bool.and_self,if_true,Int.toNat_natCast,gI_get (show lo < L.length by omega),gI_get (show hi < L.length by omega),Option.bind_some,hw,hm,hm0,beq_self_eq_true,List.take_length]
    ·rw [hR,four hL,hz 0 (by omega),hz 1 (by omega),hz 2 (by omega),hz 3 (by omega)]
   ·have hmp : 1 ≤ m := by omega
    have hne : lo ≠ hi := fun e => by rw [e] at hm'; omega
    obtain ⟨L',hL'⟩ : ∃ L',(L.set lo (gI L lo + m)).set hi (gI L hi - m) = L' := ⟨_,rfl⟩
    have len' : L'.length = 4 := by rw [← hL']; simp [hL]
    have g1 : gI (L.set lo (gI L lo + m)) hi = gI L hi := gI_set_ne _ hne
    have hg : ∀ i,gI L' i = if i = hi then gI L hi - m else if i = lo then gI L lo + m else gI L i := fun i => by
     rw [← hL']
     by_cases c : i = hi
     ·subst c; rw [gI_set_eq _ (by simp; omega),if_pos rfl]
     ·rw [gI_set_ne _ (fun e => c e.symm),if_neg c]
      by_cases c' : i = lo
      ·subst c'; rw [gI_set_eq _ (by omega),if_pos rfl]
      ·rw [gI_set_ne _ (fun e => c' e.symm),if_neg c']
    have hnz : nz L' + 2 = nz L + z1 (gI L lo + m) + z1 (gI L hi - m) := by
     have q1 := nz_set (L.set lo (gI L lo + m)) hi (gI L hi - m) (by simp; omega)
     have q2 := nz_set L lo (gI L lo + m) (by omega)
     have q3 : z1 (gI L lo) = 1 := by unfold z1; rw [if_neg (by omega)]
     have q4 : z1 (gI L hi) = 1 := by unfold z1; rw [if_neg (by omega)]
     rw [g1,hL'] at q1
     omega
    have hone : z1 (gI L lo + m) + z1 (gI L hi - m) ≤ 1 := by
     unfold z1
     rcases hm'.2.2 with e | e
     ·rw [if_pos (show gI L hi - m = 0 by omega)]; split <;> omega
     ·rw [if_pos (show gI L lo + m = 0 by omega)]; split <;> omega
    have hsum' : isum L' = 0 := by
     rw [← hL',isum_set _ _ _ (by simp; omega),isum_set _ _ _ (by omega),gI_el (L := L.set lo (gI L lo + m)) (i := hi) (by simp; omega),g1,gI_el (L := L) (i := lo) (by omega)]
     omega
    have hb' : ∀ i,-1000 ≤ gI L' i ∧ gI L' i ≤ 1000 := fun i => by
     rw [hg]
     have := hb i
     split
     ·omega
     ·split <;> omega
    have hx : Paid L (0,nm lo,nm hi,m,()) := ⟨hL,hb,hmp,by show m ≤ 1000; omega⟩
    have hpay : replay L0 (r8 ++ [(0,nm lo,nm hi,m,())]) = L' := by
     rw [replay,List.foldl_append]
     show pay (replay L0 r8) _ = L'
     rw [hR,pay_set hL hl hh hne,hL']
    have hzero : nz L' = 0 → (r8 ++ [((0,nm lo,nm hi,m,()) : T_Entry.ty)]).length ≤ 3 := fun hz0 => by
     have y := nz_zero hz0
     have y1 := y lo (by omega); have y2 := y hi (by omega)
     rw [hg,if_neg hne,if_pos rfl] at y1
     rw [hg,if_pos rfl] at y2
     have z0 : z1 0 = 0 := rfl
     rw [y1,y2,z0] at hnz
     simp only [List.length_append,List.length_cons,List.length_nil]
     omega
    obtain ⟨out,o1,o2,o3,o4⟩ := ih L' (r8 ++ [(0,nm lo,nm hi,m,())]) (by omega) len' hpay (hA.snoc (by rw [hR]; exact hx)) (by simp only [List.length_append,List.length_cons,List.length_nil]; omega) hzero hsum' hb'
    refine ⟨out,?_,o2,o3,o4⟩
    rw [impl_SettleDebts_p0_eq,if_pos (by decide)]
    refine e.trans ?_
    have hmb : ¬ (m == 0) = true := by simpa using hm0
    have hlim : r8.length + 1 < lim := by unfold lim; omega
    have hi2 : (L.set lo (gI L lo + m))[hi]? = some (gI L hi) := by rw [gI_get (by simp; omega),g1]
    have w1 : IntKind.i64.wrap (gI L lo + m) = gI L lo + m := w64 (by omega) (by omega)
    have w2 : IntKind.i64.wrap (gI L hi - m) = gI L hi - m := w64 (by omega) (by omega)
    rw [impl_SettleDebts_p1_eq]
    simp only [show ¬ ((4 : Int) < 4) by omega,decide_false,Bool.false_eq_true,if_false,Int.natCast_nonneg,c1,c2,decide_true,Bool.and_self,if_true,Int.toNat_natCast,gI_get (show lo < L.length by omega),gI_get (show hi < L.length by omega),Option.bind_some,hw,hm,hmb,nm_get hl,nm_get hh,hlim,w1,hi2,w2,hL',List.take_length]
    exact o1
theorem debts_names (v1 : List Int) : impl_debtsCode people v1 = impl_debtsCode_p1 people v1 0 v1 (v1.length : Int) 0 := by
 have hn : ∀ i,i < 4 → impl_IsName (nm i) = some true := fun i hi => name_ok ((by decide : ∀ i,i < 4 → isName (nm i) = true) i hi)
 have hl : ∀ i,i < 3 → Op.bytesLess (nm i) (nm (i + 1)) = true := by decide
 have step : ∀ i : Nat,i < 4 → impl_debtsCode_p0 people v1 people 4 i = impl_debtsCode_p0 people v1 people 4 ((i + 1 : Nat) : Int) := fun i hi => by
  have c1 : (i : Int) < 4 := by omega
  rw [impl_debtsCode_p0_eq people v1 people 4 i]
  simp only [c1,decide_true,if_true,Int.natCast_nonneg,Int.toNat_natCast,nm_get hi,Option.bind_some,hn i hi,Bool.not_true,Bool.false_eq_true,if_false,wsucc (show i < 4611686018427387904 by omega)]
  by_cases h0 : (i : Int) > 0
  ·have hw : IntKind.i64.wrap ((i : Int) - 1) = ((i - 1 : Nat) : Int) := by rw [w64 (by omega) (by omega)]; omega
   have e : Op.bytesLess (nm (i - 1)) (nm i) = true := by have := hl (i - 1) (by omega); rwa [show i - 1 + 1 = i by omega] at this
   simp only [h0,decide_true,if_true,hw,Int.natCast_nonneg,Int.toNat_natCast,nm_get (show i - 1 < 4 by omega),Option.bind_some,e,Bool.not_true,Bool.false_eq_true,if_false]
  ·simp only [h0,decide_false,Bool.false_eq_true,if_false]
 rw [impl_debtsCode_eq]
 refine (step 0 (by omega)).trans ((step 1 (by omega)).trans ((step 2 (by omega)).trans ((step 3 (by omega)).trans ?_)))
 rw [impl_debtsCode_p0_eq,if_neg (by decide)]
theorem debts_loop {L : List Int} (h : L.length = 4) (hs : isum L = 0) (hb : ∀ i,-1000 ≤ gI L i ∧ gI L i ≤ 1000) : ∀ (k i : Nat),i + k = 4 → impl_debtsCode_p1 people L (ps (gI L) i) L 4 i = some 0
 | 0,i,hk => by
   have : i = 4 := by omega
   subst this
   have e : ps (gI L) 4 = 0 := by rw [isum_four h] at hs; simp only [ps]; omega
   rw [impl_debtsCode_p1_eq,if_neg (by decide),e,h,impl_few_eq]
   rfl
 | k + 1,i,hk => by
   have c1 : (i : Int) < 4 := by omega
   have b := ps_small (f := gI L) (fun j => ⟨by have := hb j; omega,by have := hb j; omega⟩) (i := i + 1) (by omega)
   rw [ps] at b
   have hr : inR (gI L i) (-10000000) 10000000 = true := inR_iff'.2 ⟨by have := hb i; omega,by have := hb i; omega⟩
   rw [impl_debtsCode_p1_eq]
   simp only [c1,decide_true,if_true,Int.natCast_nonneg,Int.toNat_natCast,gI_get (show i < L.length by omega),Option.bind_some,impl_within_ok,hr,Bool.not_true,Bool.false_eq_true,if_false,wsucc (show i < 4611686018427387904 by omega)]
   rw [w64 (n := ps (gI L) i + gI L i) (by omega) (by omega)]
   exact debts_loop h hs hb k (i + 1) (by omega)
theorem settle_ok {L : List Int} (h : L.length = 4) (hs : isum L = 0) (hb : ∀ i,-1000 ≤ gI L i ∧ gI L i ≤ 1000) :
 ∃ out,impl_SettleDebts people L = some (out,0) ∧ out.length ≤ 3 ∧ AllPaid L out ∧ replay L out = [0,0,0,0] := by
 have hn : nz L ≤ 4 := by have : nz L ≤ L.length := List.countP_le_length; omega
 obtain ⟨out,o1,o2⟩ := settle (L0 := L) 4 L [] hn h rfl (fun t x hx => by simp at hx) (by simpa using hn) (fun _ => by simp) hs hb
 refine ⟨out,?_,o2⟩
 have hd : impl_debtsCode people L = some 0 := by
  rw [debts_names,h]; exact debts_loop h hs hb 4 0 (by omega)
 rw [impl_SettleDebts_eq,hd,Option.bind_some,if_neg (by decide),impl_clone_int64__ok L (by omega),Option.bind_some,h]
 exact o1
theorem at_ok (v1 : List Int) (h1 : ∀ x,x ∈ v1 → 0 ≤ x ∧ x ≤ 255) (h2 : v1.length ≤ 1048576) (k : Nat) (hk : k ≤ 100) : ∃ r : Int,laws_r8At v1 k 40 = some r ∧ 0 ≤ r ∧ r < 40 := by
 rw [laws_r8At_eq]
 simp only [show ¬ ((40 : Int) ≤ 1) by omega,decide_false,Bool.false_eq_true,if_false]
 by_cases c : (k : Int) ≥ (v1.length : Int)
 ·rw [if_pos (decide_eq_true c)]; exact ⟨0,rfl,by omega,by omega⟩
 ·have hk2 : k < v1.length := by omega
  obtain ⟨b0,b1⟩ := h1 _ (List.getElem_mem hk2)
  rw [if_neg (by simpa using c),laws_r8At_p0_eq]
  simp only [Int.natCast_nonneg,decide_true,if_true,Int.toNat_natCast,List.getElem?_eq_getElem hk2,Option.bind_some,show ¬ ((40 : Int) = 0) by omega,decide_false,Bool.false_eq_true,if_false]
  rw [w64 (n := v1[k]) (by omega) (by omega),tmod_nonneg_eq b0]
  exact ⟨_,rfl,Int.emod_nonneg _ (by omega),Int.emod_lt_of_pos _ (by omega)⟩
theorem owed_step (v1 : List Int) (h1 : ∀ x,x ∈ v1 → 0 ≤ x ∧ x ≤ 255) (h2 : v1.length ≤ 1048576) {k : Nat} (hk : k < 3) {s : Int} (hs : -1000 ≤ s ∧ s ≤ 1000) {l : List Int} (hl : l.length = k) :
 ∃ v : Int,-200 ≤ v ∧ v ≤ 190 ∧ laws_FnBooks_p8 v1 s k people l = laws_FnBooks_p8 v1 (s + v) ((k + 1 : Nat) : Int) people (l ++ [v]) := by
 obtain ⟨r,e,r0,r1⟩ := at_ok v1 h1 h2 (20 + k) (by omega)
 refine ⟨10 * r - 200,by omega,by omega,?_⟩
 have c1 : (k : Int) < 3 := by omega
 have hw : IntKind.i64.wrap (20 + (k : Int)) = ((20 + k : Nat) : Int) := by rw [w64 (by omega) (by omega)]; omega
 have hlim : l.length + 1 < lim := by unfold lim; omega
 have hv : IntKind.i64.wrap (IntKind.i64.wrap (10 * r) - 200) = 10 * r - 200 := by rw [w64 (n := 10 * r) (by omega) (by omega),w64 (by omega) (by omega)]
 have hlen : (k : Int) < ((l ++ [10 * r - 200]).length : Int) := by simp; omega
 have hg : (l ++ [10 * r - 200])[k]? = some (10 * r - 200) := by rw [List.getElem?_append_right (by omega),hl,Nat.sub_self]; rfl
 rw [laws_FnBooks_p8_eq]
 simp only [c1,decide_true,if_true,hw,e,Option.bind_some,hlim,List.take_length,hv,Int.natCast_nonneg,hlen,Bool.and_self,Int.toNat_natCast,hg,wsucc (show k < 4611686018427387904 by omega)]
 rw [w64 (n := s + (10 * r - 200)) (by omega) (by omega)]
theorem payV_bd {L : List Int} {x : T_Entry.ty} (h : Paid L x) (k : Nat) : -2000 ≤ gI L k + eM x ∧ gI L k + eM x ≤ 2000 ∧ -2000 ≤ gI L k - eM x ∧ gI L k - eM x ≤ 2000 := by
 have := h.bd k; have := h.m0; have := h.m1; omega
theorem pay_step {L : List Int} (h4 : L.length = 4) {x : T_Entry.ty} {b : Int} (r41 : List T_Entry.ty) (t : Nat) {k : Nat} (hk : k < 4) (hb : -1000 ≤ gI L k ∧ gI L k ≤ 1000) (hm : 1 ≤ eM x ∧ eM x ≤ 1000) :
 laws_FnBooks_p14 4 t k people L r41 (eD x) (eP x) (eQ x) (eM x) = laws_FnBooks_p14 4 t ((k + 1 : Nat) : Int) people (L.set k (payV x (nm k) (gI L k))) r41 (eD x) (eP x) (eQ x) (eM x) := by
 have c1 : (k : Int) < 4 := by omega
 have c2 : (k : Int) < (people.length : Int) := by show (k : Int) < 4; omega
 have c3 : (k : Int) < ((4 : Nat) : Int) := by omega
 have hkl : k < L.length := by omega
 have hw : IntKind.i64.wrap ((k : Int) + 1) = ((k + 1 : Nat) : Int) := wsucc (by omega)
 have p17 : ∀ v : Int,-2000 ≤ v ∧ v ≤ 2000 → laws_FnBooks_p17 4 t k people (L.set k v) r41 (eD x) (eP x) (eQ x) (eM x) = laws_FnBooks_p14 4 t ((k + 1 : Nat) : Int) people (L.set k (if nm k == eQ x then v - eM x else v)) r41 (eD x) (eP x) (eQ x) (eM x) := fun v hv => by
  have hg : (L.set k v)[k]? = some v := by simp [hkl]
  rw [laws_FnBooks_p17_eq]
  simp only [Int.natCast_nonneg,c2,c3,decide_true,Bool.and_self,if_true,Int.toNat_natCast,nm_get hk,Option.bind_some,hw]
  by_cases c : (nm k == eQ x) = true
  ·rw [if_pos c,if_pos c,hg,Option.bind_some,Option.bind_some,w64 (by omega) (by omega),List.set_set]
  ·rw [if_neg c,if_neg c]
 rw [laws_FnBooks_p14_eq]
 simp only [c1,c2,c3,Int.natCast_nonneg,decide_true,Bool.and_self,if_true,Int.toNat_natCast,nm_get hk,Option.bind_some,gI_get hkl]
 unfold payV
 by_cases c : (nm k == eP x) = true
 ·rw [if_pos c,w64 (by omega) (by omega),p17 _ (by omega),if_pos c]
 ·have e : L = L.set k (gI L k) := by rw [← gI_el hkl,List.set_getElem_self]
  rw [if_neg c,if_neg c]
  refine Eq.trans (congrArg (fun l => laws_FnBooks_p17 4 t k people l r41 (eD x) (eP x) (eQ x) (eM x)) e) ?_
  exact p17 _ (by omega)
theorem pay_loop {L : List Int} {x : T_Entry.ty} (h : Paid L x) (r41 : List T_Entry.ty) {t : Nat} (ht : t < 4) :
 laws_FnBooks_p14 4 t 0 people L r41 (eD x) (eP x) (eQ x) (eM x) = laws_FnBooks_p12 4 ((t + 1 : Nat) : Int) people (pay L x) r41 := by
 have hm : 1 ≤ eM x ∧ eM x ≤ 1000 := ⟨h.m0,h.m1⟩
 have h4 := h.len
 have s0 := pay_step (b := 0) h4 r41 t (k := 0) (by omega) (h.bd 0) hm
 obtain ⟨L1,e1⟩ : ∃ L1,L.set 0 (payV x (nm 0) (gI L 0)) = L1 := ⟨_,rfl⟩
 rw [e1] at s0
 have l1 : L1.length = 4 := by rw [← e1]; simp [h4]
 have g1 : ∀ j,j ≠ 0 → gI L1 j = gI L j := fun j hj => by rw [← e1,gI_set_ne _ (fun e => hj e.symm)]
 have s1 := pay_step (b := 0) l1 r41 t (k := 1) (by omega) (by rw [g1 1 (by omega)]; exact h.bd 1) hm
 obtain ⟨L2,e2⟩ : ∃ L2,L1.set 1 (payV x (nm 1) (gI L1 1)) = L2 := ⟨_,rfl⟩
 rw [e2] at s1
 have l2 : L2.length = 4 := by rw [← e2]; simp [l1]
 have g2 : ∀ j,j ≠ 0 → j ≠ 1 → gI L2 j = gI L j := fun j hj hj2 => by rw [← e2,gI_set_ne _ (fun e => hj2 e.symm),g1 j hj]
 have s2 := pay_step (b := 0) l2 r41 t (k := 2) (by omega) (by rw [g2 2 (by omega) (by omega)]; exact h.bd 2) hm
 obtain ⟨L3,e3⟩ : ∃ L3,L2.set 2 (payV x (nm 2) (gI L2 2)) = L3 := ⟨_,rfl⟩
 rw [e3] at s2
 have l3 : L3.length = 4 := by rw [← e3]; simp [l2]
 have g3 : ∀ j,j ≠ 0 → j ≠ 1 → j ≠ 2 → gI L3 j = gI L j := fun j a b c => by rw [← e3,gI_set_ne _ (fun e => c e.symm),g2 j a b]
 have s3 := pay_step (b := 0) l3 r41 t (k := 3) (by omega) (by rw [g3 3 (by omega) (by omega) (by omega)]; exact h.bd 3) hm
 have last : L3.set 3 (payV x (nm 3) (gI L3 3)) = pay L x := by
  have hl : (L3.set 3 (payV x (nm 3) (gI L3 3))).length = 4 := by simp [l3]
  rw [four hl,pay,gI_set_eq _ (by omega),gI_set_ne _ (by omega),gI_set_ne _ (by omega),gI_set_ne _ (by omega),g3 3 (by omega) (by omega) (by omega),← e3,gI_set_eq _ (by omega),gI_set_ne _ (by omega),gI_set_ne _ (by omega),g2 2 (by omega) (by omega),← e2,gI_set_eq _ (by omega),gI_set_ne _ (by omega),g1 1 (by omega),← e1,gI_set_eq _ (by omega)]
 rw [last] at s3
 refine s0.trans (s1.trans (s2.trans (s3.trans ?_)))
 rw [laws_FnBooks_p14_eq,if_neg (by decide),wsucc (by omega)]
theorem pays_loop {L0 : List Int} {out : List T_Entry.ty} (h : AllPaid L0 out) (h3 : out.length ≤ 3) (hz : replay L0 out = [0,0,0,0]) : ∀ (k t : Nat),t + k = out.length → laws_FnBooks_p12 4 t people (replay L0 (out.take t)) out = some true
 | 0,t,hk => by
   have : t = out.length := by omega
   subst this
   rw [laws_FnBooks_p12_eq,if_neg (by simp),List.take_length,hz]
   have step : ∀ i : Nat,i < 4 → laws_FnBooks_p15 4 i [0,0,0,0] = laws_FnBooks_p15 4 ((i + 1 : Nat) : Int) [0,0,0,0] := fun i hi => by
    have c1 : (i : Int) < 4 := by omega
    have c2 : (i : Int) < ((4 : Nat) : Int) := by omega
    have hg : ([0,0,0,0] : List Int)[i]? = some 0 := (by decide : ∀ i,i < 4 → ([0,0,0,0] : List Int)[i]? = some 0) i hi
    rw [laws_FnBooks_p15_eq 4 i]
    simp only [c1,c2,decide_true,if_true,Int.natCast_nonneg,Bool.and_self,Int.toNat_natCast,hg,Option.bind_some,bne_self_eq_false,Bool.false_eq_true,if_false,wsucc (show i < 4611686018427387904 by omega)]
   refine (step 0 (by omega)).trans ((step 1 (by omega)).trans ((step 2 (by omega)).trans ((step 3 (by omega)).trans ?_)))
   rw [laws_FnBooks_p15_eq,if_neg (by decide)]
 | k + 1,t,hk => by
   have ht : t < out.length := by omega
   have hlt : (t : Int) < (out.length : Int) := by omega
   have hx := h t _ (List.getElem?_eq_getElem ht)
   have hm : ¬ out[t].2.2.2.1 < 1 := Int.not_lt.2 hx.m0
   have e : pay (replay L0 (out.take t)) out[t] = replay L0 (out.take (t + 1)) := by
    rw [List.take_succ_eq_append_getElem ht,replay,replay,List.foldl_append]; rfl
   rw [laws_FnBooks_p12_eq]
   simp only [hlt,decide_true,if_true,Int.natCast_nonneg,Bool.and_self,Int.toNat_natCast,List.getElem?_eq_getElem ht,Option.bind_some,hm,decide_false,Bool.false_eq_true,if_false]
   refine (pay_loop hx out (by omega)).trans ?_
   rw [e]
   exact pays_loop h h3 hz k (t + 1) (by omega)
theorem law_p8 (v1 : List Int) (h1 : ∀ x,x ∈ v1 → 0 ≤ x ∧ x ≤ 255) (h2 : v1.length ≤ 1048576) : laws_FnBooks_p8 v1 0 0 people [] = some true := by
 obtain ⟨a,a0,a1,ea⟩ := owed_step v1 h1 h2 (k := 0) (by omega) (s := 0) (by omega) (l := []) rfl
 obtain ⟨b,b0,b1,eb⟩ := owed_step v1 h1 h2 (k := 1) (by omega) (s := 0 + a) (by omega) (l := [] ++ [a]) rfl
 obtain ⟨c,c0,c1,ec⟩ := owed_step v1 h1 h2 (k := 2) (by omega) (s := 0 + a + b) (by omega) (l := [] ++ [a] ++ [b]) rfl
 refine ea.trans (eb.trans (ec.trans ?_))
 have hL : ([] ++ [a] ++ [b] ++ [c] ++ [0 - (0 + a + b + c)] : List Int).length = 4 := rfl
 have hbd : ∀ i,-1000 ≤ gI ([] ++ [a] ++ [b] ++ [c] ++ [0 - (0 + a + b + c)]) i ∧ gI ([] ++ [a] ++ [b] ++ [c] ++ [0 - (0 + a + b + c)]) i ≤ 1000 := fun i => by
  match i with
  | 0 => show -1000 ≤ a ∧ a ≤ 1000; omega
  | 1 => show -1000 ≤ b ∧ b ≤ 1000; omega
  | 2 => show -1000 ≤ c ∧ c ≤ 1000; omega
  | 3 => show -1000 ≤ 0 - (0 + a + b + c) ∧ 0 - (0 + a + b + c) ≤ 1000; omega
  | n + 4 => show -1000 ≤ (0 : Int) ∧ (0 : Int) ≤ 1000; omega
 obtain ⟨out,o1,o2,o3,o4⟩ := settle_ok hL (by simp [isum]; omega) hbd
 have hw : IntKind.i64.wrap (0 - (0 + a + b + c)) = 0 - (0 + a + b + c) := w64 (by omega) (by omega)
 have hlim : ([] ++ [a] ++ [b] ++ [c] : List Int).length + 1 < lim := by show 3 + 1 < lim; unfold lim; omega
 have h3 : ¬ (out.length : Int) > 3 := by omega
 rw [laws_FnBooks_p8_eq,if_neg (by decide)]
 simp only [hlim,decide_true,if_true,hw,List.take_length,o1,Option.bind_some,h3,decide_false,bne_self_eq_false,Bool.false_eq_true,if_false]
 rw [laws_FnBooks_p10_eq]
 exact pays_loop o3 o2 o4 out.length 0 (by omega)
theorem law_end {xs : List T_Entry.ty} (h : Book xs) {x : T_Entry.ty} (hx : Good x) {p : Nat} (hp : p ≤ xs.length) (hn : Book (ins xs p x)) (v1 : List Int) (h1 : ∀ x,x ∈ v1 → 0 ≤ x ∧ x ≤ 255) (h2 : v1.length ≤ 1048576) (r8 : List Int) :
 laws_FnBooks_p1 v1 xs (bal xs) (ins xs p x) 0 (bal xs).length (eD x) (eP x) (eQ x) (eM x) r8 = some true := by
 have hf := h.few
 have hil := ins_len hp x
 have hw : IntKind.i64.wrap (((ins xs p x).length : Int) - 1) = (xs.length : Int) := by rw [hil,w64 (by omega) (by omega)]; omega
 have hlt : xs.length < (ins xs p x).length := by omega
 obtain ⟨s,es,hs⟩ := flow_ok hn hx
 obtain ⟨l,hl,el⟩ := pairs_ok h
 have hh := hl.half
 have hs2 : ¬ s < eM x := by omega
 have h2l : ¬ IntKind.i64.wrap (2 * (l.length : Int)) > (xs.length : Int) := by rw [w64 (by omega) (by omega)]; omega
 have ht : impl_EntryText (eD x,eP x,eQ x,eM x,()) = some (entryT x) := text_entry hx
 have q1 : (((100000,eQ (entryAt (ins xs p x) xs.length),eP (entryAt (ins xs p x) xs.length),eM (entryAt (ins xs p x) xs.length),()) : T_Entry.ty).2.1 == (entryAt (ins xs p x) xs.length).2.2.1) = true := beq_iff_eq.2 rfl
 have q2 : (((100000,eQ (entryAt (ins xs p x) xs.length),eP (entryAt (ins xs p x) xs.length),eM (entryAt (ins xs p x) xs.length),()) : T_Entry.ty).2.2.1 == (entryAt (ins xs p x) xs.length).2.1) = true := beq_iff_eq.2 rfl
 have q3 : (((100000,eQ (entryAt (ins xs p x) xs.length),eP (entryAt (ins xs p x) xs.length),eM (entryAt (ins xs p x) xs.length),()) : T_Entry.ty).2.2.2.1 != (entryAt (ins xs p x) xs.length).2.2.2.1) = false := bne_eq_false_iff_eq.2 rfl
 have q4 : (((x.1 : Int) == eD x) && ((x.2.1 == eP x) && ((x.2.2.1 == eQ x) && ((x.2.2.2.1 : Int) == eM x)))) = true := by
  rw [show ((x.1 : Int) == eD x) = true from beq_iff_eq.2 rfl,show (x.2.1 == eP x) = true from beq_iff_eq.2 rfl,show (x.2.2.1 == eQ x) = true from beq_iff_eq.2 rfl,show ((x.2.2.2.1 : Int) == eM x) = true from beq_iff_eq.2 rfl]; rfl
 rw [laws_FnBooks_p1_eq,if_neg (by simp)]
 simp only [hw,reversed_ok hn hlt,Option.bind_some,ht,read_entry hx,es,el,bne_self_eq_false,Bool.false_eq_true,if_false,Int.natCast_nonneg,decide_true,if_true,Int.toNat_natCast,entryAt_get hlt]
 simp only [q1,q2,q3,q4,hs2,h2l,Bool.not_true,decide_false,Bool.false_eq_true,if_false]
 exact (law_p3 h hl v1).trans (law_p8 v1 h1 h2)
theorem long_ok (a b : List Int) : laws_r8Long a b = some (decide ((a.length : Int) > 1048576) || decide ((b.length : Int) > 1048576)) := by
 rw [laws_r8Long_eq]
 by_cases c : (a.length : Int) > 1048576 <;> simp [c]
theorem laws_FnBooks_true (a0 a1 : List Int) (h0 : ET.wf (.one (.sl (.one (.int .u8)))) a0) (h1 : ET.wf (.one (.sl (.one (.int .u8)))) a1) : laws_FnBooks a0 a1 = some true := by
 rw [laws_FnBooks_eq,long_ok,Option.bind_some]
 by_cases c0 : (a0.length : Int) > 1048576
 ·simp [c0]
 by_cases c1 : (a1.length : Int) > 1048576
 ·simp [c1]
 simp only [c0,c1,decide_false,Bool.or_self,Bool.false_eq_true,if_false]
 obtain ⟨xs,e0,hb,h8⟩ := book_ok a0 (bytes_ok h0) (by omega)
 obtain ⟨x,e1,hx⟩ := entry_ok a1 (bytes_ok h1) (by omega)
 obtain ⟨p,hp,e2,hn⟩ := add_ok hb h8 hx
 have hil := ins_len hp x
 have hw : IntKind.i64.wrap ((xs.length : Int) + 1) = ((ins xs p x).length : Int) := by rw [wsucc (by omega),hil]
 simp only [e0,e1,Option.bind_some,List.take_length,trial_ok hb,e2,List.length_map,bne_self_eq_false,Bool.false_eq_true,if_false,hw,hn.ok,hb.ok,Bool.not_true]
 rw [laws_FnBooks_p0_eq]
 refine Eq.trans ?_ (law_end hb hx hp hn a1 (bytes_ok h1) (by omega) ((bal xs).map (acct xs)))
 exact names_loop hb hx hn a1 (bal xs).length 0 (by omega)
end Go.Ab.P
