/- Frames: blocks are read back from their bytes, and a changed byte is noticed. Conditions: bytes are bytes. -/
import Derived.Test.YtangabikonhepaaGreatDoorBFnFrames
set_option linter.unusedVariables false
set_option linter.unusedSectionVars false
set_option linter.unusedSimpArgs false
set_option maxRecDepth 4000
namespace Go.Ab.P
open Go.Ab
theorem validI_loop {xs : List T_Block.ty} (h : Blocks xs) (h32 : xs.length ≤ 32) : ∀ (n i : Nat),i + n = xs.length → impl_ValidBlocks_p0 xs xs xs.length i = some true
 | 0,i,hn => by
   have : i = xs.length := by omega
   subst this
   have hl : (xs.length : Int) ≤ 32 := by omega
   rw [impl_ValidBlocks_p0_eq,if_neg (by simp),impl_few_eq]
   simp [hl]
 | n + 1,i,hn => by
   have hi : i < xs.length := by omega
   have hlt : (i : Int) < (xs.length : Int) := by omega
   have IH1 := validI_loop h h32 n (i + 1) (by omega)
   have hok := h.ok _ (kAt_mem hi)
   have hv := validBlock_ok hok
   rw [impl_ValidBlocks_p0_eq xs xs xs.length i]
   simp only [hlt,decide_true,if_true,Int.natCast_nonneg,Int.toNat_natCast,kAt_get hi,Option.bind_some,hv,Bool.not_true,Bool.false_eq_true,if_false,wsucc (show i < 4611686018427387904 by omega),IH1]
   by_cases h0 : (i : Int) > 0
   ·have hw : IntKind.i64.wrap ((i : Int) - 1) = ((i - 1 : Nat) : Int) := by rw [w64 (by omega) (by omega)]; omega
    have hlt2 := h.lt (show i - 1 < i by omega) hi
    obtain ⟨c,ec,hc,_⟩ := compare_ok (kAt xs (i - 1)) (kAt xs i)
    have hneg : ¬ c ≥ 0 := by have := hc.2 hlt2; omega
    simp only [h0,decide_true,if_true,hw,Int.natCast_nonneg,Int.toNat_natCast,kAt_get (show i - 1 < xs.length by omega),Option.bind_some,ec,hneg,decide_false,Bool.false_eq_true,if_false]
   ·simp only [h0,decide_false,Bool.false_eq_true,if_false]
theorem validI {xs : List T_Block.ty} (h : Blocks xs) (h32 : xs.length ≤ 32) : impl_ValidBlocks xs = some true := by
 rw [impl_ValidBlocks_eq]
 exact validI_loop h h32 xs.length 0 (by omega)
theorem rest_ok {b : T_Block.ty} (h : Fine b) : impl_Block_rest b = some (restT b) := by
 have hr := rest_len h
 simp only [restT,List.length_append,List.length_cons,List.length_nil] at hr
 have h1 : (bK b).length + ([32] : List UInt8).length ≤ strMax := by simp only [List.length_cons,List.length_nil]; unfold strMax; omega
 have h2 : (bK b ++ [32]).length + (bN b).length ≤ strMax := by simp only [List.length_append,List.length_cons,List.length_nil]; unfold strMax; omega
 have h3 : ((bK b ++ [32]) ++ bN b).length + ([32] : List UInt8).length ≤ strMax := by simp only [List.length_append,List.length_cons,List.length_nil]; unfold strMax; omega
 have h4 : (((bK b ++ [32]) ++ bN b) ++ [32]).length + (bX b).length ≤ strMax := by simp only [List.length_append,List.length_cons,List.length_nil]; unfold strMax; omega
 rw [impl_Block_rest_eq]
 change (if decide ((bK b).length + ([32] : List UInt8).length ≤ strMax) then if decide ((bK b ++ [32]).length + (bN b).length ≤ strMax) then if decide (((bK b ++ [32]) ++ bN b).length + ([32] : List UInt8).length ≤ strMax) then if decide ((((bK b ++ [32]) ++ bN b) ++ [32]).length + (bX b).length ≤ strMax) then some ((((bK b ++ [32]) ++ bN b) ++ [32]) ++ bX b) else none else none else none else none) = _
 rw [if_pos (decide_eq_true h1),if_pos (decide_eq_true h2),if_pos (decide_eq_true h3),if_pos (decide_eq_true h4),restT]
theorem saveI_loop {xs : List T_Block.ty} (h : ∀ b,b ∈ xs → Fine b) (h32 : xs.length ≤ 32) : ∀ (n i : Nat) (t : List UInt8),i + n = xs.length → t.length ≤ 100 + 1000 * i → impl_SaveBlocks_p0 t xs xs.length i = some (t ++ endT ((xs.drop i).map fun b => lineT (restT b)),0)
 | 0,i,t,hn,ht => by
   have : i = xs.length := by omega
   subst this
   rw [impl_SaveBlocks_p0_eq,if_neg (by simp),List.drop_length]; simp [endT]
 | n + 1,i,t,hn,ht => by
   have hi : i < xs.length := by omega
   have hlt : (i : Int) < (xs.length : Int) := by omega
   have hb := h _ (kAt_mem hi)
   have hl := rest_len hb
   have hlen : (lineT (restT (kAt xs i)) ++ [10]).length ≤ 600 := by rw [List.length_append,lineT_len]; simp only [List.length_cons,List.length_nil]; omega
   have hst : t.length + (lineT (restT (kAt xs i)) ++ [10]).length ≤ strMax := by unfold strMax; omega
   have hst0 : (lineT (restT (kAt xs i))).length + ([10] : List UInt8).length ≤ strMax := by rw [lineT_len]; simp only [List.length_cons,List.length_nil]; unfold strMax; omega
   have hd : xs.drop i = kAt xs i :: xs.drop (i + 1) := by rw [List.drop_eq_getElem_cons hi,kAt_el hi]
   have IH := saveI_loop h h32 n (i + 1) (t ++ (lineT (restT (kAt xs i)) ++ [10])) (by omega) (by rw [List.length_append]; omega)
   rw [impl_SaveBlocks_p0_eq]
   simp only [hlt,decide_true,if_true,Int.natCast_nonneg,Int.toNat_natCast,kAt_get hi,Option.bind_some,rest_ok hb,lineOf_ok (show (restT (kAt xs i)).length ≤ 100000 by omega),hst,hst0,wsucc (show i < 4611686018427387904 by omega)]
   split
   ·rw [IH,hd]; simp [endT]
   ·rename_i hne; exact absurd (decide_eq_true hst0) hne
theorem saveI_ok {xs : List T_Block.ty} (h : Blocks xs) (h32 : xs.length ≤ 32) : impl_SaveBlocks xs = some (endT (linesT xs),0) := by
 have hi := itoa5 (u := xs.length) (by omega)
 have hf : ∀ b,b ∈ xs → Fine b := fun b hb => fine (h.ok b hb)
 have a1 : ([97,114,99,104,105,118,101,32] : List UInt8).length + (Lib.itoa (xs.length : Int)).length ≤ strMax := by simp [strMax]; omega
 have a2 : (headT xs.length).length + ([10] : List UInt8).length ≤ strMax := by simp [strMax,headT]; omega
 rw [impl_SaveBlocks_eq,validI h h32,Option.bind_some,if_neg (by decide),impl_Decimal_ok _ (by omega),Option.bind_some]
 split
 ·split
  ·refine (saveI_loop hf h32 xs.length 0 _ (by omega) (by simp; omega)).trans ?_
   simp [linesT,endT,headT]
  ·rename_i hne; exact absurd (decide_eq_true a2) hne
 ·rename_i hne; exact absurd (decide_eq_true a1) hne
theorem first_eq : ∀ {a l r t : List UInt8},(10 : UInt8) ∉ a → (10 : UInt8) ∉ l → a ++ 10 :: r = l ++ 10 :: t → a = l ∧ r = t
 | [],[],_,_,_,_,e => ⟨rfl,by simpa using e⟩
 | [],y :: l,_,_,_,hl,e => by
   simp only [List.nil_append,List.cons_append,List.cons.injEq] at e
   exact absurd (by rw [e.1]; exact List.mem_cons_self) hl
 | x :: a,[],_,_,ha,_,e => by
   simp only [List.nil_append,List.cons_append,List.cons.injEq] at e
   exact absurd (by rw [← e.1]; exact List.mem_cons_self) ha
 | x :: a,y :: l,_,_,ha,hl,e => by
   simp only [List.cons_append,List.cons.injEq] at e
   obtain ⟨h1,h2⟩ := first_eq (fun h => ha (List.mem_cons_of_mem _ h)) (fun h => hl (List.mem_cons_of_mem _ h)) e.2
   exact ⟨by rw [e.1,h1],h2⟩
theorem end_cons (l : List UInt8) (ls : List (List UInt8)) : endT (l :: ls) = l ++ 10 :: endT ls := by simp [endT]
theorem end_inj : ∀ {ls ms : List (List UInt8)},(∀ l,l ∈ ls → (10 : UInt8) ∉ l) → (∀ l,l ∈ ms → (10 : UInt8) ∉ l) → endT ls = endT ms → ls = ms
 | [],[],_,_,_ => rfl
 | [],m :: ms,_,_,e => by rw [end_cons] at e; simp [endT] at e
 | l :: ls,[],_,_,e => by rw [end_cons] at e; simp [endT] at e
 | l :: ls,m :: ms,h1,h2,e => by
   rw [end_cons,end_cons] at e
   obtain ⟨e1,e2⟩ := first_eq (h1 l List.mem_cons_self) (h2 m List.mem_cons_self) e
   rw [e1,end_inj (fun x hx => h1 x (List.mem_cons_of_mem _ hx)) (fun x hx => h2 x (List.mem_cons_of_mem _ hx)) e2]
theorem end_count : ∀ {ls : List (List UInt8)},(∀ l,l ∈ ls → (10 : UInt8) ∉ l) → (endT ls).count 10 = ls.length
 | [],_ => rfl
 | l :: ls,h => by
   rw [end_cons,List.count_append,List.count_eq_zero.2 (h l List.mem_cons_self),List.count_cons_self,end_count fun x hx => h x (List.mem_cons_of_mem _ hx)]; simp
theorem lines_of : ∀ (n : Nat) (s : List UInt8),s.length ≤ n → ∃ ls,ls ≠ [] ∧ (∀ l,l ∈ ls → (10 : UInt8) ∉ l) ∧ Lib.splitK [10] 0 (Lib.count s [10]) s = ls ∧ s ++ [10] = endT ls := by
 intro n
 induction n with
 | zero =>
   intro s hs
   have : s = [] := List.eq_nil_of_length_eq_zero (by omega)
   subst this
   exact ⟨[[]],by simp,by simp,split1_last (by simp),rfl⟩
 | succ n ih =>
   intro s hs
   by_cases h : (10 : UInt8) ∈ s
   ·obtain ⟨a,b,rfl,ha⟩ := split10 h
    obtain ⟨ls,_,h2,h3,h4⟩ := ih b (by simp at hs; omega)
    refine ⟨a :: ls,by simp,fun l hl => ?_,?_,?_⟩
    ·rcases List.mem_cons.1 hl with rfl | hl
     ·exact ha
     ·exact h2 l hl
    ·rw [split1_cons _ ha,h3]
    ·rw [end_cons,← h4]; simp
   ·exact ⟨[s],by simp,fun l hl => by rw [List.mem_singleton.1 hl]; exact h,split1_last h,by simp [endT]⟩
theorem validBlock_tot (x : T_Block.ty) (h1 : (bK x).length ≤ 1048576) (h2 : (bN x).length ≤ 1048576) : ∃ v,impl_ValidBlock x = some v := by
 rw [impl_ValidBlock_eq]
 have e1 := impl_IsName_ok x.1 (Nat.lt_of_le_of_lt h1 (by decide))
 have e2 := impl_IsName_ok x.2.1 (Nat.lt_of_le_of_lt h2 (by decide))
 simp only [e1,e2,Option.bind_some]
 cases isName x.1
 ·exact ⟨_,rfl⟩
 ·cases isName x.2.1
  ·exact ⟨_,rfl⟩
  ·simp only [if_true,impl_few_eq,Option.bind_some]
   split
   ·rename_i hd
    have hl : x.2.2.1.length ≤ 400 := by have := of_decide_eq_true hd; omega
    rw [strings_Contains_eq,if_pos (by simp; omega)]
    exact ⟨_,rfl⟩
   ·exact ⟨_,rfl⟩
theorem cut_len (s c : List UInt8) : (Lib.cut s c).1.length ≤ s.length ∧ (Lib.cut s c).2.1.length ≤ s.length := by
 unfold Lib.cut
 split
 ·exact ⟨by simp; omega,by simp⟩
 ·exact ⟨Nat.le_refl _,by simp⟩
theorem readBlock_tot {s : List UInt8} (h : s.length ≤ 100000) : ∃ r,impl_readBlock s = some r := by
 rw [impl_readBlock_eq]
 by_cases n6 : (s.length : Int) < 6
 ·rw [if_pos (decide_eq_true n6)]; exact ⟨_,rfl⟩
 ·rw [if_neg (by simpa using n6),List.getElem?_eq_getElem (show 5 < s.length by omega),Option.bind_some]
  split
  ·exact ⟨_,rfl⟩
  ·have n6' : (6 : Int) ≤ (s.length : Int) := by omega
   have hl : (s.drop 6).length ≤ 100000 := by rw [List.length_drop]; omega
   rw [impl_readBlock_p0_eq,if_pos (decide_eq_true n6'),lineOf_ok hl,Option.bind_some]
   split
   ·exact ⟨_,rfl⟩
   ·have c1 := cut_len (s.drop 6) [32]
    have c2 := cut_len (Lib.cut (s.drop 6) [32]).2.1 [32]
    rw [strings_Cut_eq,if_pos (decide_eq_true (by omega)),Option.bind_some,strings_Cut_eq,if_pos (decide_eq_true (by omega)),Option.bind_some]
    split
    ·exact ⟨_,rfl⟩
    ·split
     ·exact ⟨_,rfl⟩
     ·obtain ⟨v,hv⟩ := validBlock_tot ((Lib.cut (s.drop 6) [32]).1,(Lib.cut (Lib.cut (s.drop 6) [32]).2.1 [32]).1,(Lib.cut (Lib.cut (s.drop 6) [32]).2.1 [32]).2.1,()) (show (Lib.cut (s.drop 6) [32]).1.length ≤ 1048576 by omega) (show (Lib.cut (Lib.cut (s.drop 6) [32]).2.1 [32]).1.length ≤ 1048576 by omega)
      rw [hv,Option.bind_some]
      split <;> exact ⟨_,rfl⟩
theorem load_inv {L : List (List UInt8)} {c : Int} {n : Nat} (hL : L.length = n + 1) (hn : n ≤ 100000) (hl : ∀ l,l ∈ L → l.length ≤ 100000) :
 ∀ (k i : Nat) (r : List T_Block.ty),i + k = n → r.length = i → ∃ res,impl_LoadBlocks_p0 c n n i L r = some res ∧ (res.2.2 = 0 → c = n ∧ ∀ t,i ≤ t → t < n → ∃ l b,L[1 + t]? = some l ∧ impl_readBlock l = some (b,0))
 | 0,i,r,hk,hr => by
   have hin : i = n := by omega
   subst hin
   rw [impl_LoadBlocks_p0_eq,if_neg (by simp)]
   by_cases e : (r.length : Int) = c
   ·rw [if_neg (by simpa using e)]
    exact ⟨_,rfl,fun _ => ⟨by omega,fun t h1 h2 => by omega⟩⟩
   ·rw [if_pos (by simpa using e)]
    exact ⟨_,rfl,fun h => by cases h⟩
 | k + 1,i,r,hk,hr => by
   have hi : i < n := by omega
   have hlt : (i : Int) < (n : Int) := by omega
   have h1i : 1 + i < L.length := by omega
   obtain ⟨rb,hrb⟩ := readBlock_tot (hl _ (List.getElem_mem h1i))
   have hw := wsucc (show i < 4611686018427387904 by omega)
   have hlim : r.length + 1 < lim := by unfold lim; omega
   have p1 : ∀ e : Int,(e = 0 → rb.2 = 0) → ∃ res,impl_LoadBlocks_p1 c i e n n i L r rb.1.1 rb.1.2.1 rb.1.2.2.1 = some res ∧ (res.2.2 = 0 → c = n ∧ ∀ t,i ≤ t → t < n → ∃ l b,L[1 + t]? = some l ∧ impl_readBlock l = some (b,0)) := fun e he => by
    rw [impl_LoadBlocks_p1_eq]
    by_cases e0 : e = 0
    ·rw [if_neg (by simp [e0]),if_pos (decide_eq_true hlim),hw,List.take_length]
     obtain ⟨res,q1,q2⟩ := load_inv hL hn hl k (i + 1) (r ++ [(rb.1.1,rb.1.2.1,rb.1.2.2.1,())]) (by omega) (by simp; omega)
     refine ⟨res,q1,fun h => ⟨(q2 h).1,fun t h1 h2 => ?_⟩⟩
     by_cases ti : t = i
     ·subst ti
      exact ⟨_,rb.1,List.getElem?_eq_getElem h1i,by rw [hrb]; exact congrArg some (Prod.ext rfl (he e0))⟩
     ·exact (q2 h).2 t (by omega) h2
    ·rw [if_pos (by simpa using e0)]
     exact ⟨_,rfl,fun h => absurd h e0⟩
   rw [impl_LoadBlocks_p0_eq]
   simp only [hlt,decide_true,if_true,Int.natCast_nonneg,Bool.and_self,Int.toNat_natCast,List.getElem?_eq_getElem h1i,Option.bind_some,hrb]
   by_cases e0 : rb.2 = 0
   ·rw [if_pos (by simpa using e0)]
    by_cases i0 : (i : Int) > 0
    ·have hw2 : IntKind.i64.wrap ((i : Int) - 1) = ((i - 1 : Nat) : Int) := by rw [w64 (by omega) (by omega)]; omega
     have hri : i - 1 < r.length := by omega
     have hri2 : ((i - 1 : Nat) : Int) < (r.length : Int) := by omega
     obtain ⟨z,ez,_⟩ := compare_ok r[i - 1] (rb.1.1,rb.1.2.1,rb.1.2.2.1,())
     simp only [i0,decide_true,if_true,hw2,Int.natCast_nonneg,hri2,Bool.and_self,Int.toNat_natCast,List.getElem?_eq_getElem hri,Option.bind_some,ez]
     split
     ·exact p1 7 (fun h => by cases h)
     ·exact p1 _ fun h => h
    ·rw [if_neg (by simpa using i0)]
     exact p1 _ fun h => h
   ·rw [if_neg (by simpa using e0)]
    exact p1 _ fun h => h
theorem end_body {ls : List (List UInt8)} (h : ls ≠ []) : ∃ body,endT ls = body ++ [10] := by
 have e : ls = ls.dropLast ++ [ls.getLast h] := (List.dropLast_concat_getLast h).symm
 refine ⟨endT ls.dropLast ++ ls.getLast h,?_⟩
 conv => lhs; rw [e]
 simp [endT]
theorem suffix_inv {s : List UInt8} (h : Lib.hasSuffix s [10] = true) : ∃ body,s = body ++ [10] := by
 unfold Lib.hasSuffix at h
 obtain ⟨b,hb⟩ := List.isSuffixOf_iff_suffix.1 h
 exact ⟨b,hb.symm⟩
theorem suffix_app (a b : List UInt8) : Lib.hasSuffix (a ++ b) b = true ∧ Lib.trimSuffix (a ++ b) b = a := by
 have h : Lib.hasSuffix (a ++ b) b = true := by unfold Lib.hasSuffix; exact List.isSuffixOf_iff_suffix.2 ⟨a,rfl⟩
 refine ⟨h,?_⟩
 unfold Lib.trimSuffix
 rw [h]; simp
theorem load_text {l : List UInt8} {ls : List (List UInt8)} (h10 : ∀ x,x ∈ l :: ls → (10 : UInt8) ∉ x) (hl : (endT (l :: ls)).length ≤ 50000) :
 impl_LoadBlocks (endT (l :: ls)) = (impl_countOf l).bind fun x4 => if (!x4.2) then some ([],1,9) else impl_LoadBlocks_p0 x4.1 ls.length ls.length 0 (l :: ls) [] := by
 obtain ⟨body,hb⟩ := end_body (ls := l :: ls) (by simp)
 obtain ⟨ms,hm0,hm1,hm2,hm3⟩ := lines_of body.length body (Nat.le_refl _)
 rw [← hb] at hm3
 have := end_inj h10 hm1 hm3
 subst this
 rw [hb] at hl
 have hsx := suffix_app body [10]
 have hbl : body.length < 4294967281 := by simp at hl; omega
 rw [impl_LoadBlocks_eq,hb,strings_CutSuffix_eq,if_pos (decide_eq_true (by omega)),Option.bind_some,hsx.1,hsx.2]
 simp only [Bool.not_true,Bool.false_eq_true,if_false]
 rw [strings_Split_eq]
 simp only [hbl,decide_true,Bool.true_and,List.length_singleton,Nat.le_refl,if_true,Option.bind_some,hm2]
 have h0 : (0 : Int) < ((ls.length + 1 : Nat) : Int) := by omega
 have h1 : (1 : Int) ≤ ((ls.length + 1 : Nat) : Int) := by omega
 simp only [List.length_cons,h0,h1,decide_true,if_true,List.getElem?_cons_zero,Option.bind_some,Nat.add_sub_cancel]
theorem head_len : ∀ n : Nat,n < 33 → (headT n).length = if n < 10 then 9 else 10 := by decide +kernel
theorem head_dig : ∀ n : Nat,n < 33 → 10 ≤ n → (headT n)[9]? ≠ some 10 := by decide +kernel
theorem head_inj {m n : Nat} (hm : m ≤ 32) (hn : n ≤ 32) (h : headT m = headT n) : m = n := by
 have e : Lib.itoa (m : Int) = Lib.itoa (n : Int) := by
  have := congrArg (List.drop 8) h
  simpa [headT] using this
 have h1 := readDecP_itoa (m : Int) ⟨by omega,by omega⟩
 have h2 := readDecP_itoa (n : Int) ⟨by omega,by omega⟩
 rw [e,h2] at h1
 have := congrArg Prod.fst h1
 have : (n : Int) = (m : Int) := this
 omega
theorem countOf_head {n : Nat} (h : n ≤ 32) : impl_countOf (headT n) = some ((n : Int),true) := by
 have hp : Lib.hasPrefix (headT n) [97,114,99,104,105,118,101,32] = true := by
  unfold Lib.hasPrefix headT; exact List.isPrefixOf_iff_prefix.2 ⟨_,rfl⟩
 have ht : Lib.trimPrefix (headT n) [97,114,99,104,105,118,101,32] = Lib.itoa (n : Int) := by
  unfold Lib.trimPrefix; rw [hp]; rfl
 rw [impl_countOf_eq,strings_CutPrefix_eq,Option.bind_some,hp,ht,impl_ReadDecimal_eq,readDecP_itoa _ ⟨by omega,by omega⟩]
 simp only [Option.bind_some,if_true,impl_within_ok]
 have : inR (n : Int) 0 32 = true := by unfold inR; simp; omega
 rw [this]
theorem countOf_inv (l : List UInt8) : ∃ x,impl_countOf l = some x ∧ (x.2 = true → ∃ n : Nat,n ≤ 32 ∧ x.1 = n ∧ l = headT n) := by
 rw [impl_countOf_eq,strings_CutPrefix_eq,Option.bind_some,impl_ReadDecimal_eq,Option.bind_some]
 simp only
 by_cases hp : Lib.hasPrefix l [97,114,99,104,105,118,101,32] = true
 ·rw [if_pos hp]
  by_cases hr : (readDecP (Lib.trimPrefix l [97,114,99,104,105,118,101,32])).2 = true
  ·rw [if_pos hr]
   simp only [impl_within_ok,Option.bind_some]
   refine ⟨_,rfl,fun hin => ?_⟩
   have hin : inR (readDecP (Lib.trimPrefix l [97,114,99,104,105,118,101,32])).1 0 32 = true := hin
   unfold inR at hin
   simp only [Bool.and_eq_true,decide_eq_true_eq] at hin
   obtain ⟨n,hn⟩ : ∃ n : Nat,(readDecP (Lib.trimPrefix l [97,114,99,104,105,118,101,32])).1 = n := ⟨_,(Int.toNat_of_nonneg hin.1).symm⟩
   refine ⟨n,by omega,hn,?_⟩
   have e : Lib.itoa (readDecP (Lib.trimPrefix l [97,114,99,104,105,118,101,32])).1 = Lib.trimPrefix l [97,114,99,104,105,118,101,32] := by
    clear hin hn
    unfold readDecP at hr ⊢
    split at hr
    ·cases hr
    ·rename_i c18
     rw [if_neg c18]
     split at hr
     ·rename_i v hv
      split at hr
      ·rename_i hi
       simp only [hv,if_pos hi]; exact hi
      ·cases hr
     ·cases hr
   obtain ⟨t,ht⟩ := List.isPrefixOf_iff_prefix.1 (show ([97,114,99,104,105,118,101,32] : List UInt8).isPrefixOf l = true by unfold Lib.hasPrefix at hp; exact hp)
   have htp : Lib.trimPrefix l [97,114,99,104,105,118,101,32] = t := by
    unfold Lib.trimPrefix; rw [hp,if_pos rfl,← ht]; simp
   rw [hn,htp] at e
   rw [← ht,headT,e]
  ·rw [if_neg hr]
   exact ⟨_,rfl,fun h => by cases h⟩
 ·rw [if_neg hp]
  exact ⟨_,rfl,fun h => by cases h⟩
theorem load_good {xs : List T_Block.ty} (h : Blocks xs) (h32 : xs.length ≤ 32) : ∀ (k i : Nat),i + k = xs.length → impl_LoadBlocks_p0 xs.length xs.length xs.length i (linesT xs) (xs.take i) = some (xs,0,0)
 | 0,i,hk => by
   have : i = xs.length := by omega
   subst this
   rw [impl_LoadBlocks_p0_eq,if_neg (by simp)]
   simp
 | k + 1,i,hk => by
   have hi : i < xs.length := by omega
   have hlt : (i : Int) < (xs.length : Int) := by omega
   have hf := fine (h.ok _ (kAt_mem hi))
   have hg : (linesT xs)[1 + i]? = some (lineT (restT (kAt xs i))) := by
    rw [Nat.add_comm,linesT,List.getElem?_cons_succ,List.getElem?_map,kAt_get hi]; rfl
   have hw := wsucc (show i < 4611686018427387904 by omega)
   have htl : (xs.take i).length = i := by rw [List.length_take]; omega
   have hlim : (xs.take i).length + 1 < lim := by rw [htl]; unfold lim; omega
   have IH := load_good h h32 k (i + 1) (by omega)
   have ht : xs.take (i + 1) = xs.take i ++ [kAt xs i] := by rw [List.take_succ_eq_append_getElem hi,kAt_el hi]
   have p1 : impl_LoadBlocks_p1 xs.length i 0 xs.length xs.length i (linesT xs) (xs.take i) (kAt xs i).1 (kAt xs i).2.1 (kAt xs i).2.2.1 = some (xs,0,0) := by
    rw [impl_LoadBlocks_p1_eq,if_neg (by decide),if_pos (decide_eq_true hlim),hw,List.take_length]
    rw [ht] at IH
    exact IH
   rw [impl_LoadBlocks_p0_eq]
   simp only [hlt,decide_true,if_true,Int.natCast_nonneg,Bool.and_self,Int.toNat_natCast,hg,Option.bind_some,readBlock_ok hf,beq_self_eq_true]
   by_cases i0 : (i : Int) > 0
   ·have hw2 : IntKind.i64.wrap ((i : Int) - 1) = ((i - 1 : Nat) : Int) := by rw [w64 (by omega) (by omega)]; omega
    have hri2 : ((i - 1 : Nat) : Int) < ((xs.take i).length : Int) := by omega
    have hgt : (xs.take i)[i - 1]? = some (kAt xs (i - 1)) := by rw [List.getElem?_take,if_pos (by omega),kAt_get (by omega)]
    obtain ⟨z,ez,hz,_⟩ := compare_ok (kAt xs (i - 1)) (kAt xs i)
    have hneg : ¬ z ≥ 0 := by have := hz.2 (h.lt (show i - 1 < i by omega) hi); omega
    have ez' : impl_Block_compare (kAt xs (i - 1)) ((kAt xs i).1,(kAt xs i).2.1,(kAt xs i).2.2.1,()) = some z := ez
    simp only [i0,decide_true,if_true,hw2,Int.natCast_nonneg,hri2,Bool.and_self,Int.toNat_natCast,hgt,Option.bind_some,ez',hneg,decide_false,Bool.false_eq_true,if_false]
    exact p1
   ·rw [if_neg (by simpa using i0)]
    exact p1
theorem lines_no {xs : List T_Block.ty} (h : Blocks xs) : ∀ l,l ∈ linesT xs → (10 : UInt8) ∉ l := fun l hl => by
 rcases List.mem_cons.1 hl with e | e
 ·rw [e]; exact head_no _
 ·obtain ⟨b,hb,rfl⟩ := List.mem_map.1 e
  exact line_no (rest_no (fine (h.ok b hb)))
theorem text_len {xs : List T_Block.ty} (h : Blocks xs) (h6 : xs.length ≤ 12) : (endT (linesT xs)).length ≤ 8000 := by
 have hlsl : ∀ l,l ∈ linesT xs → l.length ≤ 600 := fun l hl => by
  rcases List.mem_cons.1 hl with e | e
  ·have := itoa5 (u := xs.length) (by omega)
   rw [e,headT]; simp; omega
  ·obtain ⟨b,hb,rfl⟩ := List.mem_map.1 e
   rw [lineT_len]; have := rest_len (fine (h.ok b hb)); omega
 have := end_len _ 600 hlsl
 rw [show (linesT xs).length = xs.length + 1 by simp [linesT]] at this; omega
theorem load_ok {xs : List T_Block.ty} (h : Blocks xs) (h6 : xs.length ≤ 12) : impl_LoadBlocks (endT (linesT xs)) = some (xs,0,0) := by
 have hl := text_len h h6
 have hno := lines_no h
 rw [linesT] at hl hno ⊢
 rw [load_text hno (by omega),countOf_head (by omega),Option.bind_some,if_neg (by simp),List.length_map]
 exact load_good h (by omega) xs.length 0 (by omega)
theorem set_mid {a b : List UInt8} {x c : UInt8} : (a ++ x :: b).set a.length c = a ++ c :: b := by
 rw [List.set_append_right _ _ (Nat.le_refl _),Nat.sub_self,List.set_cons_zero]
theorem take_drop_at {l : List UInt8} {p : Nat} (h : p < l.length) : l = l.take p ++ l[p] :: l.drop (p + 1) := by
 rw [← List.drop_eq_getElem_cons h,List.take_append_drop]
theorem count_set {l : List UInt8} {p : Nat} (h : p < l.length) (c : UInt8) : (l.set p c).count 10 + (if l[p] = 10 then 1 else 0) = l.count 10 + (if c = 10 then 1 else 0) := by
 have e1 : l.count 10 = (l.take p).count 10 + ((if l[p] = 10 then 1 else 0) + (l.drop (p + 1)).count 10) := by
  conv => lhs; rw [take_drop_at h]
  rw [List.count_append,List.count_cons]
  by_cases q : l[p] = 10 <;> simp [q] <;> omega
 have e2 : l.set p c = l.take p ++ c :: l.drop (p + 1) := by
  rw [List.set_eq_take_append_cons_drop,if_pos h]
 rw [e1,e2,List.count_append,List.count_cons]
 by_cases q : c = 10 <;> simp [q] <;> omega
theorem changed_core {xs : List T_Block.ty} (h : Blocks xs) (h6 : xs.length ≤ 6) {p : Nat} {c : UInt8} (hp : p < (endT (linesT xs)).length) (hc : c ≠ (endT (linesT xs))[p]) {n : Nat} (hn : n ≤ 32) {ms : List (List UInt8)} (h10 : ∀ l,l ∈ headT n :: ms → (10 : UInt8) ∉ l)
 (e : (endT (linesT xs)).set p c = endT (headT n :: ms)) (hlen : ms.length = n) (hread : ∀ t,t < n → ∃ l b,ms[t]? = some l ∧ impl_readBlock l = some (b,0)) : False := by
 have hno := lines_no h
 have hnl : ∀ l,l ∈ xs.map (fun b => lineT (restT b)) → (10 : UInt8) ∉ l := fun l hl => hno l (List.mem_cons_of_mem _ hl)
 have hnm : ∀ l,l ∈ ms → (10 : UInt8) ∉ l := fun l hl => h10 l (List.mem_cons_of_mem _ hl)
 have hN := head_len xs.length (by omega)
 rw [if_pos (by omega)] at hN
 have hn1 := head_len n (by omega)
 have hn9 : 9 ≤ (headT n).length ∧ (headT n).length ≤ 10 := by rw [hn1]; split <;> omega
 obtain ⟨R,hR⟩ : ∃ R,R = endT (xs.map fun b => lineT (restT b)) := ⟨_,rfl⟩
 have hT : endT (linesT xs) = headT xs.length ++ 10 :: R := by rw [linesT,end_cons,hR]
 have hRc : R.count 10 = xs.length := by rw [hR,end_count hnl,List.length_map]
 have hm10 : (10 : UInt8) ∉ headT n := h10 _ List.mem_cons_self
 have hH10 := head_no xs.length
 simp only [hT] at hp hc e
 rw [end_cons] at e
 rcases Nat.lt_trichotomy p 9 with hlt | heq | hgt
 ·have hpH : p < (headT xs.length).length := by omega
  rw [List.set_append_left _ _ hpH] at e
  by_cases c10 : c = 10
  ·subst c10
   have e2 : (headT xs.length).set p 10 = (headT xs.length).take p ++ 10 :: (headT xs.length).drop (p + 1) := by rw [List.set_eq_take_append_cons_drop,if_pos hpH]
   rw [e2,List.append_assoc,List.cons_append] at e
   have := (first_eq (fun hm => hH10 (List.mem_of_mem_take hm)) hm10 e).1
   have := congrArg List.length this
   rw [List.length_take] at this
   omega
  ·have hs10 : (10 : UInt8) ∉ (headT xs.length).set p c := fun hm => by
    rcases List.mem_or_eq_of_mem_set hm with q | q
    ·exact hH10 q
    ·exact c10 q.symm
   obtain ⟨e1,e2⟩ := first_eq hs10 hm10 e
   have : ms.length = xs.length := by rw [← hRc,e2,end_count hnm]
   have hnx : n = xs.length := by omega
   rw [hnx] at e1
   have := congrArg (fun l => l[p]?) e1
   simp only [List.getElem?_set_self hpH,List.getElem?_eq_getElem hpH,Option.some.injEq] at this
   apply hc
   rw [this,List.getElem_append_left hpH]
 ·subst heq
  have e0 : (headT xs.length ++ 10 :: R).set 9 c = headT xs.length ++ c :: R := by
   have := set_mid (a := headT xs.length) (b := R) (x := 10) (c := c)
   rw [hN] at this; exact this
  have hc10 : c ≠ 10 := by
   intro q; apply hc
   rw [q,List.getElem_append_right (by omega)]
   simp [hN]
  rw [e0] at e
  cases xs with
  | nil =>
    have hR0 : R = [] := by rw [hR]; rfl
    rw [hR0] at e
    have : (10 : UInt8) ∈ headT ([] : List T_Block.ty).length ++ [c] := by rw [e]; simp
    rcases List.mem_append.1 this with q | q
    ·exact hH10 q
    ·exact hc10 (List.mem_singleton.1 q).symm
  | cons x xs =>
    have hR1 : R = lineT (restT x) ++ 10 :: endT (xs.map fun b => lineT (restT b)) := by rw [hR,List.map_cons,end_cons]
    rw [hR1] at e
    have hx10 : (10 : UInt8) ∉ lineT (restT x) := hnl _ (by simp)
    have e' : (headT (x :: xs).length ++ c :: lineT (restT x)) ++ 10 :: endT (xs.map fun b => lineT (restT b)) = headT n ++ 10 :: endT ms := by rw [← e]; simp
    have := (first_eq (fun hm => by
     rcases List.mem_append.1 hm with q | q
     ·exact hH10 q
     ·rcases List.mem_cons.1 q with q | q
      ·exact hc10 q.symm
      ·exact hx10 q) hm10 e').1
    have := congrArg List.length this
    simp only [List.length_append,List.length_cons,lineT_len] at this hN
    omega
 ·have hq : p - 10 < R.length := by rw [List.length_append,List.length_cons,hN] at hp; omega
  have e0 : (headT xs.length ++ 10 :: R).set p c = headT xs.length ++ 10 :: R.set (p - 10) c := by
   rw [List.set_append_right _ _ (by omega),hN,show p - 9 = (p - 10) + 1 by omega,List.set_cons_succ]
  have hcq : c ≠ R[p - 10] := by
   intro q; apply hc
   rw [q,List.getElem_append_right (by omega)]
   simp only [hN,show p - 9 = (p - 10) + 1 by omega,List.getElem_cons_succ]
  rw [e0] at e
  obtain ⟨e1,e2⟩ := first_eq hH10 hm10 e
  have hnx : xs.length = n := head_inj (by omega) hn e1
  have hcs := count_set hq c
  have hms : (R.set (p - 10) c).count 10 = n := by rw [e2,end_count hnm,hlen]
  rw [hms,hRc,hnx] at hcs
  have b1 : R[p - 10] ≠ 10 := fun q => by
   rw [if_pos q] at hcs
   by_cases q2 : c = 10
   ·exact hcq (q2.trans q.symm)
   ·rw [if_neg q2] at hcs; omega
  have b2 : c ≠ 10 := fun q => by
   rw [if_neg b1,if_pos q] at hcs; omega
  subst hR
  obtain ⟨j,i,hj,hi,q1,q2,q3⟩ := place hnl hq b1
  rw [q3] at e2
  have hjx : j < xs.length := by rw [List.length_map] at hj; exact hj
  have ej : (xs.map fun b => lineT (restT b))[j] = lineT (restT (kAt xs j)) := by rw [List.getElem_map,kAt_el hjx]
  have hno2 : ∀ l,l ∈ (xs.map fun b => lineT (restT b)).set j ((xs.map fun b => lineT (restT b))[j].set i c) → (10 : UInt8) ∉ l := fun l hl => by
   rcases List.mem_or_eq_of_mem_set hl with e | e
   ·exact hnl l e
   ·rw [e]; intro hm
    rcases List.mem_or_eq_of_mem_set hm with e2 | e2
    ·exact hnl _ (List.getElem_mem hj) e2
    ·exact b2 e2.symm
  have hmeq := end_inj hno2 hnm e2
  obtain ⟨l,b,hl,hb⟩ := hread j (by omega)
  rw [← hmeq,List.getElem?_set_self hj,Option.some.injEq] at hl
  rw [q2] at hcq
  have hi' : i < (lineT (restT (kAt xs j))).length := by rw [← ej]; exact hi
  have hc' : c ≠ (lineT (restT (kAt xs j)))[i] := by
   intro e; apply hcq; rw [e]; congr 1; exact ej.symm
  obtain ⟨b',er,hb',her⟩ := readBlock_bad (rest_len (fine (h.ok _ (kAt_mem hjx)))) hi' hc'
  rw [← hl,ej,hb'] at hb
  cases hb
  exact her rfl
theorem load_changed {xs : List T_Block.ty} (h : Blocks xs) (h6 : xs.length ≤ 6) {p : Nat} {c : UInt8} (hp : p < (endT (linesT xs)).length) (hc : c ≠ (endT (linesT xs))[p]) : ∃ res,impl_LoadBlocks ((endT (linesT xs)).set p c) = some res ∧ res.2.2 ≠ 0 := by
 have hl := text_len h (by omega)
 have hsl : ((endT (linesT xs)).set p c).length ≤ 8000 := by rw [List.length_set]; exact hl
 by_cases hs : Lib.hasSuffix ((endT (linesT xs)).set p c) [10] = true
 ·obtain ⟨body,hb⟩ := suffix_inv hs
  obtain ⟨ls,hm0,hm1,hm2,hm3⟩ := lines_of body.length body (Nat.le_refl _)
  rw [← hb] at hm3
  cases ls with
  | nil => exact absurd rfl hm0
  | cons l ms =>
    rw [hm3] at hsl
    rw [hm3,load_text hm1 (by omega)]
    obtain ⟨x,hx,hx2⟩ := countOf_inv l
    rw [hx,Option.bind_some]
    by_cases hxt : x.2 = true
    ·rw [if_neg (by rw [hxt]; decide)]
     obtain ⟨n,hn,hxn,rfl⟩ := hx2 hxt
     have hcnt := end_count hm1
     have hle := List.count_le_length (a := (10 : UInt8)) (l := endT (headT n :: ms))
     rw [hcnt,List.length_cons] at hle
     have hll : ∀ y,y ∈ headT n :: ms → y.length ≤ 100000 := fun y hy => by
      have : y.length ≤ (endT (headT n :: ms)).length := by
       obtain ⟨a,b,hab⟩ := List.append_of_mem hy
       rw [hab]; simp [endT]; omega
      omega
     obtain ⟨res,r1,r2⟩ := load_inv (L := headT n :: ms) (c := x.1) (n := ms.length) (by simp) (by omega) hll ms.length 0 [] (by omega) rfl
     refine ⟨res,r1,fun r0 => ?_⟩
     obtain ⟨k1,k2⟩ := r2 r0
     rw [hxn] at k1
     exact changed_core h h6 hp hc hn hm1 hm3 (by omega) fun t ht => by
      obtain ⟨y,b,hy,hb⟩ := k2 t (Nat.zero_le _) (by omega)
      rw [Nat.add_comm,List.getElem?_cons_succ] at hy
      exact ⟨y,b,hy,hb⟩
    ·rw [if_pos (by simpa using hxt)]
     exact ⟨_,rfl,by decide⟩
 ·have hs' : Lib.hasSuffix ((endT (linesT xs)).set p c) [10] = false := by simpa using hs
  rw [impl_LoadBlocks_eq,strings_CutSuffix_eq,if_pos (decide_eq_true (by omega)),Option.bind_some,hs',if_pos (show (!(Lib.trimSuffix ((endT (linesT xs)).set p c) [10],false).2) = true from rfl)]
  exact ⟨_,rfl,by decide⟩
theorem damagedG {L : List (List UInt8)} {m : Nat} (hL : L.length = m + 1) (hm : m ≤ 1000) (R : Nat → T_Block.ty × Int) (hR : ∀ i (hi : i < L.length),impl_readBlock L[i] = some (R i)) (hgood : ∀ i,0 < i → i < m → (R i).2 = 0) (hlast : L[m]? = some []) :
 ∀ (n i : Nat),i + n = m + 1 → impl_DamagedLines_p0 m ((m + 1 : Nat) : Int) i [] L = some []
 | 0,i,hn => by
   have : i = m + 1 := by omega
   subst this
   rw [impl_DamagedLines_p0_eq,if_neg (by simp),List.take_length]
 | n + 1,i,hn => by
   have hi : i < L.length := by omega
   have hlt : (i : Int) < ((m + 1 : Nat) : Int) := by omega
   have hlt2 : (i : Int) < (L.length : Int) := by omega
   have IH := damagedG hL hm R hR hgood hlast n (i + 1) (by omega)
   have hw := wsucc (show i < 4611686018427387904 by omega)
   rw [impl_DamagedLines_p0_eq]
   simp only [hlt,hlt2,decide_true,if_true,Int.natCast_nonneg,Bool.and_self,Int.toNat_natCast,List.getElem?_eq_getElem hi,Option.bind_some,hR i hi,hw]
   by_cases em : i = m
   ·subst em
    have e0 : L[i] = [] := by rw [List.getElem?_eq_getElem hi] at hlast; exact Option.some.inj hlast
    have hn2 : ¬ (i : Int) < (i : Int) := by omega
    simp only [beq_self_eq_true,if_true,e0,Bool.not_true,Bool.false_eq_true,if_false,hn2,decide_false,ite_self]
    exact IH
   ·have em' : ¬ ((i : Int) == (m : Int)) = true := by simp; omega
    rw [if_neg em']
    by_cases i0 : i = 0
    ·subst i0
     rw [if_neg (by simp)]
     exact IH
    ·have hp : (i : Int) > 0 := by omega
     have hm2 : (i : Int) < (m : Int) := by omega
     have hg : ((R i).2 != 0) = false := by rw [hgood i (by omega) (by omega)]; rfl
     simp only [hp,hm2,decide_true,if_true,hg,Bool.false_eq_true,if_false]
     exact IH
theorem salvageG {xs : List T_Block.ty} (h : Blocks xs) (h32 : xs.length ≤ 31) {L : List (List UInt8)} (hL : L.length = xs.length + 2) (R : Nat → T_Block.ty × Int) (hR : ∀ i (hi : i < L.length),impl_readBlock L[i] = some (R i)) (hgood : ∀ i,0 < i → i ≤ xs.length → R i = (kAt xs (i - 1),0)) :
 ∀ (n i : Nat),0 < i → i + n = xs.length + 1 → impl_SalvageBlocks_p0 (xs.take (i - 1)) i L = some xs
 | 0,i,h0,hn => by
   have : i = xs.length + 1 := by omega
   subst this
   have hw : IntKind.i64.wrap ((L.length : Int) - 1) = ((xs.length + 1 : Nat) : Int) := by rw [w64 (by omega) (by omega)]; omega
   rw [impl_SalvageBlocks_p0_eq,hw,if_neg (by simp),Nat.add_sub_cancel,List.take_length]
 | n + 1,i,h0,hn => by
   have hw : IntKind.i64.wrap ((L.length : Int) - 1) = ((xs.length + 1 : Nat) : Int) := by rw [w64 (by omega) (by omega)]; omega
   have hi : i < L.length := by omega
   have hlt : (i : Int) < ((xs.length + 1 : Nat) : Int) := by omega
   have hlt2 : (i : Int) < (L.length : Int) := by omega
   have IH := salvageG h h32 hL R hR hgood n (i + 1) (by omega) (by omega)
   have hg := hgood i h0 (by omega)
   have hix : i - 1 < xs.length := by omega
   have hA : Blocks (xs.take (i - 1)) := ⟨fun x hx => h.ok x (List.mem_of_mem_take hx),h.up.sublist (List.take_sublist _ _)⟩
   have hAl : (xs.take (i - 1)).length ≤ 31 := by rw [List.length_take]; omega
   have hbl : ∀ x,x ∈ xs.take (i - 1) → bl x (kAt xs (i - 1)) := fun x hx => by
    obtain ⟨t,ht,rfl⟩ := List.mem_iff_getElem.1 hx
    rw [List.getElem_take,kAt_el (by simp at ht; omega)]
    exact h.lt (by simp at ht; omega) hix
   have hstep : xs.take (i - 1) ++ [kAt xs (i - 1)] = xs.take i := by
    have := List.take_succ_eq_append_getElem hix
    rw [show i - 1 + 1 = i by omega,kAt_el hix] at this
    exact this.symm
   have hp : impl_put (xs.take (i - 1)) ((kAt xs (i - 1)).1,(kAt xs (i - 1)).2.1,(kAt xs (i - 1)).2.2.1,()) = some (xs.take i,0) := by
    rw [show (((kAt xs (i - 1)).1,(kAt xs (i - 1)).2.1,(kAt xs (i - 1)).2.2.1,()) : T_Block.ty) = kAt xs (i - 1) from rfl,implPut_ok hA hAl,putR_end hbl,hstep]
   rw [impl_SalvageBlocks_p0_eq,hw]
   simp only [hlt,hlt2,decide_true,if_true,Int.natCast_nonneg,Bool.and_self,Int.toNat_natCast,List.getElem?_eq_getElem hi,Option.bind_some,hR i hi,wsucc (show i < 4611686018427387904 by omega),hg,bne_self_eq_false,Bool.false_eq_true,if_false,hp,beq_self_eq_true]
   exact IH
theorem good_lines {xs : List T_Block.ty} (h : Blocks xs) (h6 : xs.length ≤ 12) : impl_DamagedLines (endT (linesT xs)) = some [] ∧ impl_SalvageBlocks (endT (linesT xs)) = some xs := by
 have hno := lines_no h
 have hl := text_len h h6
 have hsplit : strings_Split (endT (linesT xs)) [10] = some (linesT xs ++ [[]]) := by
  have a1 : (endT (linesT xs)).length < 4294967281 := by omega
  rw [strings_Split_eq]
  simp only [a1,decide_true,Bool.true_and,List.length_cons,List.length_nil,Nat.le_refl,if_true]
  rw [split_end hno]
 have hll : (linesT xs).length = xs.length + 1 := by simp [linesT]
 have hLl : (linesT xs ++ [[]]).length = xs.length + 2 := by simp [hll]
 have hR : ∀ t (ht : t < (linesT xs ++ [[]]).length),∃ r : T_Block.ty × Int,impl_readBlock (linesT xs ++ [[]])[t] = some r ∧ (0 < t → t ≤ xs.length → r = (kAt xs (t - 1),0)) := fun t ht => by
  by_cases te : 0 < t ∧ t ≤ xs.length
  ·have hx : t - 1 < xs.length := by omega
   have e2 : (linesT xs ++ [[]])[t] = lineT (restT (kAt xs (t - 1))) := by
    rw [List.getElem_append_left (by omega)]
    have : (linesT xs)[t]? = some (lineT (restT (kAt xs (t - 1)))) := by
     rw [linesT,show t = (t - 1) + 1 by omega,List.getElem?_cons_succ,List.getElem?_map,Nat.add_sub_cancel,kAt_get hx]; rfl
    rw [List.getElem?_eq_getElem (by omega)] at this
    exact Option.some.inj this
   exact ⟨(kAt xs (t - 1),0),by rw [e2,readBlock_ok (fine (h.ok _ (kAt_mem hx)))],fun _ _ => rfl⟩
  ·have hle : (linesT xs ++ [[]])[t].length ≤ 100000 := by
    rcases List.mem_append.1 (List.getElem_mem ht) with q | q
    ·obtain ⟨a,b,hab⟩ := List.append_of_mem q
     have : (linesT xs ++ [[]])[t].length ≤ (endT (linesT xs)).length := by
      conv => rhs; rw [hab]
      simp [endT]; omega
     omega
    ·rw [List.mem_singleton.1 q]; simp
   obtain ⟨r,hr⟩ := readBlock_tot hle
   exact ⟨r,hr,fun a b => absurd ⟨a,b⟩ te⟩
 classical
 have hRx : ∃ R : Nat → T_Block.ty × Int,∀ t (ht : t < (linesT xs ++ [[]]).length),impl_readBlock (linesT xs ++ [[]])[t] = some (R t) ∧ (0 < t → t ≤ xs.length → R t = (kAt xs (t - 1),0)) :=
  ⟨fun t => if ht : t < (linesT xs ++ [[]]).length then (hR t ht).choose else (([],[],[],()),0),fun t ht => by simp only [dif_pos ht]; exact (hR t ht).choose_spec⟩
 obtain ⟨R,hR1⟩ := hRx
 constructor
 ·have w1 : IntKind.i64.wrap (((linesT xs ++ [[]]).length : Int) - 1) = ((xs.length + 1 : Nat) : Int) := by rw [hLl,w64 (by omega) (by omega)]; omega
  rw [impl_DamagedLines_eq,hsplit,Option.bind_some,w1,hLl]
  exact damagedG (L := linesT xs ++ [[]]) (m := xs.length + 1) (by omega) (by omega) R (fun t ht => (hR1 t ht).1) (fun t a b => by rw [(hR1 t (by omega)).2 a (by omega)]) (by rw [List.getElem?_append_right (by omega),hll]; simp) (xs.length + 2) 0 (by omega)
 ·rw [impl_SalvageBlocks_eq,hsplit,Option.bind_some]
  exact salvageG h (by omega) (L := linesT xs ++ [[]]) hLl R (fun t ht => (hR1 t ht).1) (fun t a b => (hR1 t (by omega)).2 a b) xs.length 1 (by omega) (by omega)
def idsT : List (List UInt8) := [[114,49],[114,50],[114,51],[114,52],[114,53]]
def itemsT : List (List UInt8) := [[118,105,111,108,97],[118,105,111,108,105,110],[118,105,111,108,105,110,50]]
def rD (x : T_Paper.ty) : Int := x.2.2.1
def rM (x : T_Paper.ty) : Int := x.2.2.2.1
def rP (x : T_Paper.ty) : Int := x.2.2.2.2.1
structure RentD (x : T_Paper.ty) : Prop where
 i : x.1 ∈ idsT
 n : x.2.1 ∈ itemsT
 d0 : 0 ≤ rD x
 d1 : rD x ≤ 1000
 m0 : 1 ≤ rM x
 m1 : rM x ≤ 20
 p0 : 0 ≤ rP x
 p1 : rP x ≤ 10000
theorem rentD_ok {s : T_l00Src.ty} {c : Int} (hs : SrcOk s c) (hc : c ≤ 10000000000000000) (id : List UInt8) (hid : id ∈ idsT) :
 ∃ (x : T_Paper.ty) (s' : T_l00Src.ty),spec_l21DrawOne s id = some (x,s') ∧ SrcOk s' (c + 8) ∧ x.1 = id ∧ RentD x := by
 obtain ⟨t,s1,q1,k1,m1⟩ := text_ok hs (by omega) itemsT (by decide) (by decide)
 obtain ⟨u,s2,q2,k2,a0,a1⟩ := pick_ok k1 (by omega) 90 (by omega)
 obtain ⟨v,s3,q3,k3,b0,b1⟩ := pick_ok k2 (by omega) 12 (by omega)
 obtain ⟨w,s4,q4,k4,c0,c1⟩ := pick_ok k3 (by omega) 50 (by omega)
 have w1 : IntKind.i64.wrap (10 * u) = 10 * u := w64 (by omega) (by omega)
 have w2 : IntKind.i64.wrap (1 + v) = 1 + v := w64 (by omega) (by omega)
 have w3 : IntKind.i64.wrap (100 * w) = 100 * w := w64 (by omega) (by omega)
 have q1' : spec_l00Src_text s [[118,105,111,108,97],[118,105,111,108,105,110],[118,105,111,108,105,110,50]] = some (t,s1) := q1
 refine ⟨(id,t,10 * u,1 + v,100 * w,()),s4,?_,k4.up (by omega),rfl,⟨hid,m1,?_,?_,?_,?_,?_,?_⟩⟩
 ·rw [spec_l21DrawOne_eq]
  simp only [q1',q2,q3,q4,Option.bind_some,src_eta,w1,w2,w3]
 all_goals (simp only [rD,rM,rP]; omega)
structure Rents (i : Nat) (r : List T_Paper.ty) : Prop where
 o : ∀ x,x ∈ r → RentD x ∧ ∃ j,j < i ∧ idsT[j]? = some x.1
 u : r.Pairwise fun x y => x.1 < y.1
 l : r.length ≤ i
theorem ids_up : ∀ i : Nat,i < 5 → ∀ j : Nat,j < i → ∀ a b : List UInt8,idsT[j]? = some a → idsT[i]? = some b → a < b := by
 intro i hi j hj a b ha hb
 have : ∀ i : Nat,i < 5 → ∀ j : Nat,j < i → (idsT[j]?).getD [] < (idsT[i]?).getD [] := by decide +kernel
 have := this i hi j hj
 rw [ha,hb] at this
 exact this
theorem rents_loop : ∀ (k i : Nat) (s : T_l00Src.ty) (c : Int) (r : List T_Paper.ty),i + k = 5 → SrcOk s c → c + 20 * (k : Int) ≤ 10000000000 → Rents i r →
 ∃ (r' : List T_Paper.ty) (s' : T_l00Src.ty),spec_l21Draw_p0 i s.1 s.2.1 s.2.2.1 idsT r = some (r',s') ∧ Rents 5 r'
 | 0,i,s,c,r,hk,hs,hc,hr => by
   have : i = 5 := by omega
   subst this
   rw [spec_l21Draw_p0_eq,if_neg (by decide),List.take_length]
   exact ⟨_,_,rfl,hr⟩
 | k + 1,i,s,c,r,hk,hs,hc,hr => by
   have hi : i < 5 := by omega
   have hil : i < idsT.length := hi
   have hlt : (i : Int) < (idsT.length : Int) := by omega
   have hw := wsucc (show i < 4611686018427387904 by omega)
   obtain ⟨u,s1,e1,k1,b0,b1⟩ := pick_ok hs (by omega) 3 (by omega)
   rw [spec_l21Draw_p0_eq]
   simp only [hlt,decide_true,if_true,src_eta,e1,Option.bind_some,Int.natCast_nonneg,Bool.and_self,Int.toNat_natCast,List.getElem?_eq_getElem hil,hw]
   by_cases u0 : u > 0
   ·rw [if_pos (decide_eq_true u0)]
    obtain ⟨x,s2,q1,q2,q3,q4⟩ := rentD_ok k1 (by omega) idsT[i] (List.getElem_mem hil)
    have hlim : r.length + 1 < lim := by have := hr.l; unfold lim; omega
    simp only [q1,Option.bind_some,hlim,decide_true,if_true,List.take_length]
    have hx : Rents (i + 1) (r ++ [x]) := by
     refine ⟨fun y hy => ?_,?_,by have := hr.l; simp; omega⟩
     ·rcases List.mem_append.1 hy with h | h
      ·obtain ⟨a,j,hj,hb⟩ := hr.o y h
       exact ⟨a,j,by omega,hb⟩
      ·rw [List.mem_singleton.1 h]
       exact ⟨q4,i,by omega,by rw [List.getElem?_eq_getElem hil,q3]⟩
     ·rw [List.pairwise_append]
      refine ⟨hr.u,by simp,fun y hy z hz => ?_⟩
      rw [List.mem_singleton.1 hz]
      obtain ⟨_,j,hj,hb⟩ := hr.o y hy
      exact ids_up i hi j hj _ _ hb (by rw [List.getElem?_eq_getElem hil,q3])
    obtain ⟨r',s',z1,z2⟩ := rents_loop k (i + 1) s2 _ (r ++ [x]) (by omega) q2 (by omega) hx
    exact ⟨r',s',z1,z2⟩
   ·rw [if_neg (by simpa using u0)]
    have hx : Rents (i + 1) r := ⟨fun y hy => by obtain ⟨a,j,hj,hb⟩ := hr.o y hy; exact ⟨a,j,by omega,hb⟩,hr.u,by have := hr.l; omega⟩
    exact rents_loop k (i + 1) s1 _ r (by omega) k1 (by omega) hx
theorem rents_draw (code : List Int) (h1 : ∀ x,x ∈ code → 0 ≤ x ∧ x ≤ 255) (h2 : code.length ≤ 1048576) : ∃ r,spec_R8Rentals code = some r ∧ Rents 5 r := by
 obtain ⟨s,e,k⟩ := from_ok code h1 h2
 obtain ⟨r,s',q,hr⟩ := rents_loop 5 0 s 0 [] rfl k (by omega) ⟨fun x hx => (by cases hx),List.Pairwise.nil,by simp⟩
 refine ⟨r,?_,hr⟩
 have q' : spec_l21Draw_p0 0 s.1 s.2.1 s.2.2.1 [[114,49],[114,50],[114,51],[114,52],[114,53]] [] = some (r,s') := q
 rw [spec_R8Rentals_eq,e,Option.bind_some,spec_l21Draw_eq,q',Option.bind_some,List.take_length]
def numT (x : T_Paper.ty) : List UInt8 := listP [x.2.2.1,x.2.2.2.1,x.2.2.2.2.1]
def rentT (x : T_Paper.ty) : List UInt8 := x.1 ++ 32 :: (x.2.1 ++ 32 :: numT x)
theorem ids_is : ∀ t,t ∈ idsT → isName t = true ∧ t.length = 2 ∧ t ≠ [] := by decide +kernel
theorem items_is : ∀ t,t ∈ itemsT → isName t = true ∧ t.length ≤ 7 ∧ t ≠ [] := by decide +kernel
theorem rent_ok {x : T_Paper.ty} (h : RentD x) : rentalOk x = true := by
 have h1 := (ids_is _ h.i).1
 have h2 := (items_is _ h.n).1
 have a0 := h.d0; have a1 := h.d1; have b0 := h.m0; have b1 := h.m1; have c0 := h.p0; have c1 := h.p1
 have r1 : inR (rD x) 0 100000 = true := by unfold inR; simp only [Bool.and_eq_true,decide_eq_true_eq]; exact ⟨a0,by omega⟩
 have r2 : inR (rM x) 1 120 = true := by unfold inR; simp only [Bool.and_eq_true,decide_eq_true_eq]; exact ⟨b0,by omega⟩
 have r3 : inR (rP x) 0 10000000 = true := by unfold inR; simp only [Bool.and_eq_true,decide_eq_true_eq]; exact ⟨c0,by omega⟩
 have e : rentalOk x = (isName x.1 && (isName x.2.1 && (inR (rD x) 0 100000 && (inR (rM x) 1 120 && inR (rP x) 0 10000000)))) := rfl
 rw [e,h1,h2,r1,r2,r3]; rfl
theorem num_in0 {x : T_Paper.ty} (h : RentD x) : ∀ n,n ∈ [rD x,rM x,rP x] → -1000000000000 ≤ n ∧ n ≤ 1000000000000 := fun n hn => by
 have a0 := h.d0; have a1 := h.d1; have b0 := h.m0; have b1 := h.m1; have c0 := h.p0; have c1 := h.p1
 simp only [List.mem_cons,List.not_mem_nil,or_false] at hn
 rcases hn with rfl | rfl | rfl <;> omega
theorem num_in {x : T_Paper.ty} (h : RentD x) : ∀ n,n ∈ [x.2.2.1,x.2.2.2.1,x.2.2.2.2.1] → -1000000000000 ≤ n ∧ n ≤ 1000000000000 := num_in0 h
theorem itoa_small {n : Int} (h0 : 0 ≤ n) (h1 : n ≤ 10000) : (Lib.itoa n).length ≤ 6 := by
 obtain ⟨u,rfl⟩ : ∃ u : Nat,n = u := ⟨n.toNat,by omega⟩
 have := itoa5 (u := u) (by omega)
 omega
theorem num_len {x : T_Paper.ty} (h : RentD x) : (numT x).length ≤ 30 := by
 have l1 := itoa_small h.d0 (Int.le_trans h.d1 (by decide))
 have l2 := itoa_small (Int.le_trans (by decide) h.m0) (Int.le_trans h.m1 (by decide))
 have l3 := itoa_small h.p0 h.p1
 have := join_len (m := 6) (c := 44) [Lib.itoa (rD x),Lib.itoa (rM x),Lib.itoa (rP x)] (fun y hy => by
  simp only [List.mem_cons,List.not_mem_nil,or_false] at hy
  rcases hy with rfl | rfl | rfl <;> assumption)
 have e : numT x = Lib.join [Lib.itoa (rD x),Lib.itoa (rM x),Lib.itoa (rP x)] [44] := rfl
 rw [e]
 simp only [List.length_cons,List.length_nil] at this
 omega
theorem rent_text {x : T_Paper.ty} (h : RentD x) : impl_RentalText x = some (rentT x) := by
 obtain ⟨i1,i2,i3⟩ := ids_is _ h.i
 obtain ⟨n1,n2,n3⟩ := items_is _ h.n
 have hl := num_len h
 have hv := impl_Rental_valid_ok x (by omega) (by omega)
 rw [rent_ok h] at hv
 have hn := impl_named_ok x.2.1 [x.2.2.1,x.2.2.2.1,x.2.2.2.2.1] (by omega) (by simp) (by simp) (num_in h)
 have e1 : x.1.length + ([32] : List UInt8).length ≤ strMax := by simp only [List.length_cons,List.length_nil]; unfold strMax; omega
 have e2 : (x.1 ++ [32]).length + (x.2.1 ++ 32 :: listP [x.2.2.1,x.2.2.2.1,x.2.2.2.2.1]).length ≤ strMax := by
  have hl' : (listP [x.2.2.1,x.2.2.2.1,x.2.2.2.2.1]).length ≤ 30 := hl
  simp only [List.length_append,List.length_cons,List.length_nil]; unfold strMax; omega
 rw [impl_RentalText_eq,hv,Option.bind_some,if_neg (by decide)]
 split
 ·rw [hn,Option.bind_some]
  split
  ·rw [rentT,numT]; simp
  ·rename_i hne; exact absurd (decide_eq_true e2) hne
 ·rename_i hne; exact absurd (decide_eq_true e1) hne
theorem read_rent {x : T_Paper.ty} (h : RentD x) : impl_ReadRental (rentT x) = some ((x.1,x.2.1,x.2.2.1,x.2.2.2.1,x.2.2.2.2.1,()),true) := by
 obtain ⟨i1,i2,i3⟩ := ids_is _ h.i
 obtain ⟨n1,n2,n3⟩ := items_is _ h.n
 have hl := num_len h
 have hs := impl_SplitWords_3 x.1 x.2.1 (numT x) i3 n3 (listP_ne (by simp)) (isName_no i1 (by decide)) (isName_no n1 (by decide)) (listP_no (by simp) (by decide) (by decide) (by decide)) (by omega)
 have hr : impl_ReadList (numT x) = some ([x.2.2.1,x.2.2.2.1,x.2.2.2.2.1],true) := impl_ReadList_ok _ (by simp) (by simp) (num_in h)
 have ht : impl_RentalText (x.1,x.2.1,x.2.2.1,x.2.2.2.1,x.2.2.2.2.1,()) = some (rentT x) := rent_text h
 rw [impl_ReadRental_eq,rentT,hs,Option.bind_some,if_neg (by simp),if_pos (by simp)]
 rw [show ([x.1,x.2.1,numT x] : List (List UInt8))[2]? = some (numT x) from rfl,Option.bind_some,hr,Option.bind_some,if_neg (by simp),if_neg (by simp),impl_ReadRental_p0_eq]
 rw [if_pos (by simp),show ([x.1,x.2.1,numT x] : List (List UInt8))[0]? = some x.1 from rfl,Option.bind_some,if_pos (by simp),show ([x.1,x.2.1,numT x] : List (List UInt8))[1]? = some x.2.1 from rfl,Option.bind_some]
 rw [if_pos (by simp),show ([x.2.2.1,x.2.2.2.1,x.2.2.2.2.1] : List Int)[0]? = some x.2.2.1 from rfl,Option.bind_some,if_pos (by simp),show ([x.2.2.1,x.2.2.2.1,x.2.2.2.2.1] : List Int)[1]? = some x.2.2.2.1 from rfl,Option.bind_some,if_pos (by simp),show ([x.2.2.1,x.2.2.2.1,x.2.2.2.2.1] : List Int)[2]? = some x.2.2.2.2.1 from rfl,Option.bind_some]
 rw [ht,Option.bind_some,if_neg (by simp [rentT])]
theorem chk_of : ∀ {l : List T_Paper.ty} {p : Option T_Paper.ty},(∀ x,x ∈ l → RentD x) → l.Pairwise (fun x y => x.1 < y.1) → (∀ y,p = some y → ∀ x,x ∈ l → y.1 < x.1) → sortedChk rentalOk (fun x => x.1) p l = true
 | [],p,_,_,_ => by cases p <;> rfl
 | x :: r,p,h1,h2,h3 => by
   obtain ⟨h4,h5⟩ := List.pairwise_cons.1 h2
   have ih := chk_of (l := r) (p := some x) (fun y hy => h1 y (List.mem_cons_of_mem _ hy)) h5 (fun y hy z hz => by cases hy; exact h4 z hz)
   simp only [sortedChk,Bool.and_eq_true]
   refine ⟨rent_ok (h1 x List.mem_cons_self),?_,ih⟩
   cases p with
   | none => rfl
   | some y =>
     simp only [Proofs.bytesLess_eq]
     exact decide_eq_true (h3 y rfl x List.mem_cons_self)
def blkOf (x : T_Paper.ty) : T_Block.ty := ([114,101,110,116,97,108],x.1,rentT x,())
theorem rent_blocks {r : List T_Paper.ty} (h : Rents 5 r) : Blocks (r.map blkOf) := by
 refine ⟨fun b hb => ?_,?_⟩
 ·obtain ⟨x,hx,rfl⟩ := List.mem_map.1 hb
  have hd := (h.o x hx).1
  obtain ⟨i1,i2,i3⟩ := ids_is _ hd.i
  obtain ⟨n1,n2,n3⟩ := items_is _ hd.n
  have hl := num_len hd
  have hno : (10 : UInt8) ∉ rentT x := fun hm => by
   rcases List.mem_append.1 hm with q | q
   ·exact isName_no i1 (by decide) q
   ·rcases List.mem_cons.1 q with q | q
    ·revert q; decide
    ·rcases List.mem_append.1 q with q | q
     ·exact isName_no n1 (by decide) q
     ·rcases List.mem_cons.1 q with q | q
      ·revert q; decide
      ·exact listP_no (by simp) (by decide) (by decide) (by decide) q
  have hlen : (rentT x).length ≤ 400 := by
   simp only [rentT,List.length_append,List.length_cons]; omega
  have k1 : isName (bK (blkOf x)) = true := by show isName [114,101,110,116,97,108] = true; decide +kernel
  have k2 : isName (bN (blkOf x)) = true := i1
  have k3 : (bX (blkOf x)).length ≤ 400 := hlen
  have k4 : (bX (blkOf x)).contains 10 = false := by
   rw [List.contains_eq_mem]; exact decide_eq_false hno
  rw [blockOk,k1,k2,decide_eq_true k3,k4]; rfl
 ·rw [List.pairwise_map]
  exact h.u.imp fun {a b} hab => .inr ⟨rfl,hab⟩
def pAtR (r : List T_Paper.ty) (i : Nat) : T_Paper.ty := (r[i]?).getD ([],[],0,0,0,())
theorem pAtR_get {r : List T_Paper.ty} {i : Nat} (h : i < r.length) : r[i]? = some (pAtR r i) := by simp [pAtR,List.getElem?_eq_getElem h]
theorem pAtR_mem {r : List T_Paper.ty} {i : Nat} (h : i < r.length) : pAtR r i ∈ r := List.mem_of_getElem? (pAtR_get h)
theorem bof_loop {r : List T_Paper.ty} (h : Rents 5 r) : ∀ (k i : Nat),i + k = r.length → impl_BlocksOfRentals_p0 r r.length i ((r.take i).map blkOf) = some (r.map blkOf,0)
 | 0,i,hk => by
   have : i = r.length := by omega
   subst this
   rw [impl_BlocksOfRentals_p0_eq,if_neg (by simp),List.take_length]; simp
 | k + 1,i,hk => by
   have hi : i < r.length := by omega
   have hlt : (i : Int) < (r.length : Int) := by omega
   have hlr := h.l
   have hw := wsucc (show i < 4611686018427387904 by omega)
   have hlim : ((r.take i).map blkOf).length + 1 < lim := by rw [List.length_map,List.length_take]; unfold lim; omega
   have IH := bof_loop h k (i + 1) (by omega)
   have ht : (r.take (i + 1)).map blkOf = (r.take i).map blkOf ++ [blkOf (pAtR r i)] := by
    have e : r[i] = pAtR r i := by simp [pAtR,List.getElem?_eq_getElem hi]
    rw [List.take_succ_eq_append_getElem hi,List.map_append,e]; rfl
   have hx := rent_text (h.o _ (pAtR_mem hi)).1
   rw [impl_BlocksOfRentals_p0_eq]
   simp only [hlt,decide_true,if_true,Int.natCast_nonneg,Int.toNat_natCast,pAtR_get hi,Option.bind_some,hx,hlim,hw,List.take_length]
   rw [ht] at IH
   exact IH
theorem bof_ok {r : List T_Paper.ty} (h : Rents 5 r) : impl_BlocksOfRentals r = some (r.map blkOf,0) := by
 have hl := h.l
 have hv := impl_ValidRentals_ok r (by omega) (fun x hx => by
  have hd := (h.o x hx).1
  have := (ids_is _ hd.i).2.1
  have := (items_is _ hd.n).2.1
  omega)
 have hok : rentalsOk r = true := by
  rw [rentalsOk,chk_of (fun x hx => (h.o x hx).1) h.u (fun y hy => by cases hy)]
  simp only [Bool.true_and,decide_eq_true_eq]; omega
 rw [impl_BlocksOfRentals_eq,hv,hok,Option.bind_some,if_neg (by decide)]
 exact bof_loop h r.length 0 (by omega)
theorem rob_loop {r : List T_Paper.ty} (h : Rents 5 r) : ∀ (k i : Nat),i + k = r.length → impl_RentalsOfBlocks_p0 (r.map blkOf) r.length i (r.take i) = some (r,0)
 | 0,i,hk => by
   have : i = r.length := by omega
   subst this
   have hl := h.l
   have h12 : (r.length : Int) ≤ 12 := by omega
   rw [impl_RentalsOfBlocks_p0_eq,if_neg (by simp),List.take_length,impl_few_eq]
   simp [h12]
 | k + 1,i,hk => by
   have hi : i < r.length := by omega
   have hlt : (i : Int) < (r.length : Int) := by omega
   have hlr := h.l
   have hw := wsucc (show i < 4611686018427387904 by omega)
   have hlim : (r.take i).length + 1 < lim := by rw [List.length_take]; unfold lim; omega
   have IH := rob_loop h k (i + 1) (by omega)
   have e : r[i] = pAtR r i := by simp [pAtR,List.getElem?_eq_getElem hi]
   have ht : r.take (i + 1) = r.take i ++ [pAtR r i] := by rw [List.take_succ_eq_append_getElem hi,e]
   have hg : (r.map blkOf)[i]? = some (blkOf (pAtR r i)) := by rw [List.getElem?_map,pAtR_get hi]; rfl
   have hx := read_rent (h.o _ (pAtR_mem hi)).1
   have hx' : impl_ReadRental (blkOf (pAtR r i)).2.2.1 = some (((pAtR r i).1,(pAtR r i).2.1,(pAtR r i).2.2.1,(pAtR r i).2.2.2.1,(pAtR r i).2.2.2.2.1,()),true) := hx
   have hk1 : (!((blkOf (pAtR r i)).1 == [114,101,110,116,97,108])) = false := by simp [blkOf]
   have hk2 : (!((pAtR r i).1 == (blkOf (pAtR r i)).2.1)) = false := by simp [blkOf]
   rw [impl_RentalsOfBlocks_p0_eq]
   simp only [hlt,decide_true,if_true,Int.natCast_nonneg,Int.toNat_natCast,hg,Option.bind_some,hk1,Bool.false_eq_true,if_false,hx',Bool.not_true,hk2,hlim,hw,List.take_length]
   rw [ht] at IH
   exact IH
theorem rob_ok {r : List T_Paper.ty} (h : Rents 5 r) : impl_RentalsOfBlocks (r.map blkOf) = some (r,0) := by
 have hl := h.l
 rw [impl_RentalsOfBlocks_eq,validI (rent_blocks h) (by rw [List.length_map]; omega),Option.bind_some,if_neg (by decide),List.length_map]
 exact rob_loop h r.length 0 (by omega)
theorem specText_ok {x : T_Paper.ty} (h : RentD x) : ∃ t,spec_RentalText x = some t := by
 obtain ⟨i1,i2,i3⟩ := ids_is _ h.i
 obtain ⟨n1,n2,n3⟩ := items_is _ h.n
 have hv := spec_l21One_ok x (by omega) (by omega)
 rw [rent_ok h] at hv
 have a0 := h.d0; have a1 := h.d1; have b0 := h.m0; have b1 := h.m1; have c0 := h.p0; have c1 := h.p1
 obtain ⟨l,el,hl⟩ := list3_ok (a := rD x) (b := rM x) (c := rP x) ⟨a0,by omega⟩ ⟨by omega,by omega⟩ ⟨c0,by omega⟩
 have h1 : x.1.length + ([32] : List UInt8).length ≤ strMax := by simp [strMax]; omega
 have h2 : (x.1 ++ [32]).length + x.2.1.length ≤ strMax := by simp [strMax]; omega
 have h3 : ((x.1 ++ [32]) ++ x.2.1).length + ([32] : List UInt8).length ≤ strMax := by simp [strMax]; omega
 have h4 : (((x.1 ++ [32]) ++ x.2.1) ++ [32]).length + l.length ≤ strMax := by simp [strMax]; omega
 have el' : spec_l01List [x.2.2.1,x.2.2.2.1,x.2.2.2.2.1] = some l := el
 rw [spec_RentalText_eq,hv,Option.bind_some,if_neg (by decide),spec_l21Text_eq]
 split
 ·split
  ·split
   ·rw [el',Option.bind_some]
    split
    ·exact ⟨_,rfl⟩
    ·rename_i hne; exact absurd (decide_eq_true h4) hne
   ·rename_i hne; exact absurd (decide_eq_true h3) hne
  ·rename_i hne; exact absurd (decide_eq_true h2) hne
 ·rename_i hne; exact absurd (decide_eq_true h1) hne
theorem back_loop {r : List T_Paper.ty} (h : Rents 5 r) : ∀ (k i : Nat),i + k = r.length → laws_FnFrames_p2 i r r = some true
 | 0,i,hk => by
   have : i = r.length := by omega
   subst this
   rw [laws_FnFrames_p2_eq,if_neg (by simp)]
 | k + 1,i,hk => by
   have hi : i < r.length := by omega
   have hlt : (i : Int) < (r.length : Int) := by omega
   have hlr := h.l
   have hw := wsucc (show i < 4611686018427387904 by omega)
   obtain ⟨t,ht⟩ := specText_ok (h.o _ (pAtR_mem hi)).1
   have IH := back_loop h k (i + 1) (by omega)
   rw [laws_FnFrames_p2_eq]
   simp only [hlt,decide_true,if_true,Int.natCast_nonneg,Bool.and_self,Int.toNat_natCast,pAtR_get hi,Option.bind_some,ht,beq_self_eq_true,Bool.not_true,Bool.false_eq_true,if_false,hw]
   exact IH
theorem longS' (a b : List Int) : laws_r8Long a b = some (decide ((a.length : Int) > 1048576) || decide ((b.length : Int) > 1048576)) := by
 rw [laws_r8Long_eq]
 by_cases c : (a.length : Int) > 1048576 <;> simp [c]
theorem laws_FnFrames_true (a0 a1 : List Int) (h0 : ET.wf (.one (.sl (.one (.int .u8)))) a0) (h1 : ET.wf (.one (.sl (.one (.int .u8)))) a1) : laws_FnFrames a0 a1 = some true := by
 rw [laws_FnFrames_eq,longS',Option.bind_some]
 by_cases c0 : (a0.length : Int) > 1048576
 ·simp [c0]
 by_cases c1 : (a1.length : Int) > 1048576
 ·simp [c1]
 simp only [c0,c1,decide_false,Bool.or_self,Bool.false_eq_true,if_false]
 obtain ⟨xs,e0,lx,hx⟩ := blocks_draw a0 (bytes_ok h0) (by omega)
 have hsame := same_ok xs (by omega)
 obtain ⟨g1,g2⟩ := good_lines hx.b (by omega)
 rw [e0,Option.bind_some,saveI_ok hx.b (by omega),Option.bind_some,load_ok hx.b (by omega),Option.bind_some,g1,Option.bind_some,g2,Option.bind_some]
 simp only [List.take_length,hsame,bne_self_eq_false,Bool.false_eq_true,if_false,Option.bind_some,Bool.not_true,List.length_nil]
 have z0 : (((0 : Nat) : Int) != 0) = false := rfl
 rw [z0,if_neg (by decide)]
 have hel := text_len hx.b (by omega)
 have hpos : 0 < (endT (linesT xs)).length := by simp [endT,linesT]; omega
 obtain ⟨own,hown⟩ : ∃ own,own = endT (linesT xs) := ⟨_,rfl⟩
 rw [laws_FnFrames_p0_eq,save_ok hx.b (by omega),Option.bind_some]
 rw [← hown] at hel hpos ⊢
 have hml : (own.map fun b => (b.toNat : Int)).length = own.length := List.length_map _
 obtain ⟨p,ep,hp⟩ := wide_ok a1 (bytes_ok h1) own.length hpos
 obtain ⟨r,er,r0,r1⟩ := at_ok a1 (bytes_ok h1) 2 255 (by omega)
 have hpi : (p : Int) < (own.length : Int) := by omega
 have hg : (own.map fun b => (b.toNat : Int))[p]? = some ((own[p].toNat : Nat) : Int) := by rw [List.getElem?_map,List.getElem?_eq_getElem hp]; rfl
 have w1 : IntKind.u8.wrap (IntKind.i64.wrap (1 + r)) = ((1 + r.toNat : Nat) : Int) := by rw [w64 (by omega) (by omega),wu8 (by omega) (by omega)]; omega
 have hb := own[p].toNat_lt
 have hx8 := xor8 (a := own[p].toNat) (b := 1 + r.toNat) (by omega) (by omega)
 have er' : laws_r8At a1 2 255 = some r := er
 have hxlt : own[p].toNat ^^^ (1 + r.toNat) < 256 := Nat.xor_lt_two_pow (n := 8) (by omega) (by omega)
 have hcn : (UInt8.ofNat (own[p].toNat ^^^ (1 + r.toNat))).toNat = own[p].toNat ^^^ (1 + r.toNat) := by
  rw [UInt8.toNat_ofNat']; exact Nat.mod_eq_of_lt (by omega)
 have h8 : ((((own.map fun b => (b.toNat : Int)).set p ((own[p].toNat ^^^ (1 + r.toNat) : Nat) : Int))).take own.length).map vu8 = own.set p (UInt8.ofNat (own[p].toNat ^^^ (1 + r.toNat))) := by
  rw [List.take_of_length_le (by rw [List.length_set,hml]; exact Nat.le_refl _),List.map_set,List.map_map]
  have e1 : vu8 ∘ (fun b : UInt8 => (b.toNat : Int)) = id := by
   funext b
   show vu8 (b.toNat : Int) = b
   rw [vu8,Int.toNat_natCast]; exact UInt8.ofNat_toNat
  rw [e1,List.map_id,vu8,Int.toNat_natCast]
 have hload : ∃ res,impl_LoadBlocks (own.set p (UInt8.ofNat (own[p].toNat ^^^ (1 + r.toNat)))) = some res ∧ res.2.2 ≠ 0 := by
  subst hown
  refine load_changed hx.b lx hp fun e => ?_
  have := congrArg UInt8.toNat e
  rw [hcn] at this
  exact xor_ne (by omega) this
 obtain ⟨res,l1,l2⟩ := hload
 obtain ⟨w,ew,hw⟩ := rents_draw a1 (bytes_ok h1) (by omega)
 have n1 : (res.2.2 == 0) = false := by simpa using l2
 simp only [hml,ep,Option.bind_some,Int.natCast_nonneg,hpi,decide_true,Bool.and_self,if_true,Int.toNat_natCast,hg,er',w1,hx8,h8,l1,ew,List.take_length,bof_ok hw,rob_ok hw,n1,Bool.false_eq_true,if_false,bne_self_eq_false]
 rw [laws_FnFrames_p1_eq]
 exact back_loop hw w.length 0 (by omega)
end Go.Ab.P
