/- Lemmas on functions of the program. Conditions: told in each. -/
import Derived.Test.YtljcekgbidbkbaaPFnPages
set_option linter.unusedVariables false
set_option linter.unusedSimpArgs false
namespace Go.Ab.P
open Go.Ab
theorem allLoop {α β : Type} (xs : List α) (one : α → Option Bool) (ok : α → Bool) (p0 : Int → Option β) (bad : β) (last : Option β)
 (heq : ∀ i : Int,p0 i = if decide (i < (xs.length : Int)) then (if decide (0 ≤ i) then (xs[i.toNat]?).bind fun x1 => (one x1).bind fun x2 => if (!x2) then some bad else p0 (IntKind.i64.wrap (i + 1)) else none) else last)
 (hs : xs.length ≤ 1099511627776) (h1 : ∀ x,x ∈ xs → one x = some (ok x)) :
 ∀ (k i : Nat),i + k = xs.length → p0 i = if (xs.drop i).all ok then last else some bad
 | 0,i,hk => by
   rw [heq,List.drop_eq_nil_of_le (by omega)]
   have : ¬ (i : Int) < (xs.length : Int) := by omega
   simp [this]
 | k + 1,i,hk => by
   have hi : i < xs.length := by omega
   have hlt : (i : Int) < (xs.length : Int) := by omega
   have hw : IntKind.i64.wrap ((i : Int) + 1) = ((i + 1 : Nat) : Int) := by rw [w64 (by omega) (by omega)]; omega
   have ih := allLoop xs one ok p0 bad last heq hs h1 k (i + 1) (by omega)
   rw [heq,List.drop_eq_getElem_cons hi]
   simp only [hlt,decide_true,if_true,Int.natCast_nonneg,Int.toNat_natCast,List.getElem?_eq_getElem hi,Option.bind_some,h1 xs[i] (List.getElem_mem hi),hw,ih,List.all_cons]
   by_cases hok : ok xs[i] = true
   ·simp [hok]
   ·simp [hok]
theorem wsucc {i : Nat} (h : i < 4611686018427387904) : IntKind.i64.wrap ((i : Int) + 1) = ((i + 1 : Nat) : Int) := by
 rw [w64 (by omega) (by omega)]; omega
theorem tdiv_nonneg_eq {a b : Int} (ha : 0 ≤ a) : a.tdiv b = a / b := Int.tdiv_eq_ediv_of_nonneg ha
theorem tmod_nonneg_eq {a b : Int} (ha : 0 ≤ a) : a.tmod b = a % b := Int.tmod_eq_emod_of_nonneg ha
def inR (n lo hi : Int) : Bool := decide (lo ≤ n) && decide (n ≤ hi)
theorem inR_iff' {n lo hi : Int} : inR n lo hi = true ↔ lo ≤ n ∧ n ≤ hi := by simp [inR]
theorem impl_within_ok (n lo hi : Int) : impl_within n lo hi = some (inR n lo hi) := by
 rw [impl_within_eq,inR]; by_cases h : lo ≤ n <;> simp [h]
theorem wu64 {n : Int} (h1 : 0 ≤ n) (h2 : n < 18446744073709551616) : IntKind.u64.wrap n = n := by
 have e : IntKind.u64.wrap n = if decide false = true then n % 18446744073709551616 - 18446744073709551616 else n % 18446744073709551616 := by
  simp [IntKind.wrap,IntKind.signed,IntKind.bits]
 rw [e]
 simp; omega
theorem and255 (x : Int) : ((BitVec.ofInt IntKind.u64.bits x &&& BitVec.ofInt IntKind.u64.bits 255).toNat : Int) ≤ 255 := by
 have : (BitVec.ofInt IntKind.u64.bits x &&& BitVec.ofInt IntKind.u64.bits 255).toNat ≤ 255 := by
  rw [BitVec.toNat_and]
  refine Nat.le_trans Nat.and_le_right ?_
  decide
 omega
def SrcOk (s : T_l00Src.ty) (c : Int) : Prop := (∀ x : Int,x ∈ s.1 → 0 ≤ x ∧ x ≤ 255) ∧ s.1.length ≤ 1048576 ∧ (0 : Int) ≤ s.2.1 ∧ (s.2.1 : Int) ≤ c
theorem src_eta (s : T_l00Src.ty) : (s.1,s.2.1,s.2.2.1,()) = s := rfl
theorem SrcOk.up {s : T_l00Src.ty} {c d : Int} (h : SrcOk s c) (hd : c ≤ d) : SrcOk s d := ⟨h.1,h.2.1,h.2.2.1,Int.le_trans h.2.2.2 hd⟩
theorem next_p0_ok (v : Int) (l : List Int) (a h : Int) (c : Int) (hs : SrcOk (l,a,h,()) c) (hc : c ≤ 1152921504606846976) (hv : 0 ≤ v ∧ v ≤ 255) :
 ∃ (u : Int) (s' : T_l00Src.ty),spec_l00Src_next_p0 v l a h = some (u,s') ∧ SrcOk s' (c + 1) ∧ 0 ≤ u ∧ u ≤ 255 := by
 obtain ⟨h1,h2,h3,h4⟩ := hs
 have h3 : 0 ≤ a := h3
 have h4 : a ≤ c := h4
 rw [spec_l00Src_next_p0_eq,w64 (n := a + 1) (by omega) (by omega)]
 split
 ·exact ⟨_,_,rfl,⟨h1,h2,by show (0 : Int) ≤ a + 1; omega,by show (a + 1 : Int) ≤ c + 1; omega⟩,hv⟩
 ·refine ⟨_,_,rfl,⟨h1,h2,by show (0 : Int) ≤ a + 1; omega,by show (a + 1 : Int) ≤ c + 1; omega⟩,?_⟩
  generalize hx : ((BitVec.ofInt IntKind.u64.bits _ &&& BitVec.ofInt IntKind.u64.bits 255).toNat : Int) = x
  have := and255 (Int.fdiv (IntKind.u64.wrap ((IntKind.u64.wrap ((IntKind.u64.wrap (h * 6364136223846793005)) + (IntKind.u64.wrap v))) + 1442695040888963407)) (2 ^ (min (40 : Int).toNat IntKind.u64.bits)))
  rw [hx] at this
  have h0 : 0 ≤ x := by rw [← hx]; exact Int.natCast_nonneg _
  rw [wu64 h0 (by omega),w64 (by omega) (by omega)]
  exact ⟨h0,this⟩
theorem next_core (l : List Int) (a h c : Int) (hs : SrcOk (l,a,h,()) c) (hc : c ≤ 1152921504606846976) : ∃ (u : Int) (s' : T_l00Src.ty),spec_l00Src_next (l,a,h,()) = some (u,s') ∧ SrcOk s' (c + 1) ∧ 0 ≤ u ∧ u ≤ 255 := by
 have h3 : (0 : Int) ≤ a := hs.2.2.1
 rw [spec_l00Src_next_eq]
 dsimp only
 split
 ·rename_i hlt
  simp only [decide_eq_true_eq] at hlt
  have hlt' : a < (List.length (α := Int) l : Int) := hlt
  have hi : a.toNat < l.length := by omega
  obtain ⟨x,hx⟩ : ∃ x,l[a.toNat]? = some x := ⟨_,List.getElem?_eq_getElem hi⟩
  have hm : 0 ≤ x ∧ x ≤ 255 := hs.1 x (List.mem_of_getElem? hx)
  rw [if_pos (by simpa using h3),hx,Option.bind_some,w64 (n := x) (by omega) (by omega)]
  exact next_p0_ok x l a h c hs hc hm
 ·exact next_p0_ok 0 l a h c hs hc ⟨by omega,by omega⟩
theorem next_ok {s : T_l00Src.ty} {c : Int} (hs : SrcOk s c) (hc : c ≤ 1152921504606846976) : ∃ (u : Int) (s' : T_l00Src.ty),spec_l00Src_next s = some (u,s') ∧ SrcOk s' (c + 1) ∧ 0 ≤ u ∧ u ≤ 255 :=
 next_core s.1 s.2.1 s.2.2.1 c hs hc
theorem pick_ok {s : T_l00Src.ty} {c : Int} (hs : SrcOk s c) (hc : c ≤ 1000000000000000000) (n : Int) (hn : n ≤ 65536) :
 ∃ (u : Int) (s' : T_l00Src.ty),spec_l00Src_pick s n = some (u,s') ∧ SrcOk s' (c + 2) ∧ 0 ≤ u ∧ (u = 0 ∨ u < n) := by
 rw [spec_l00Src_pick_eq]
 by_cases h1 : n ≤ 1
 ·simp only [h1,decide_true,if_true]
  exact ⟨0,s,rfl,hs.up (by omega),by omega,.inl rfl⟩
 ·obtain ⟨u,s1,e1,k1,b1,b2⟩ := next_ok hs (by omega)
  have hn0 : ¬ n = 0 := by omega
  simp only [h1,decide_false,Bool.false_eq_true,if_false,e1,Option.bind_some,src_eta,hn0]
  by_cases h2 : n > 200
  ·obtain ⟨v,s2,e2,k2,b3,b4⟩ := next_ok k1 (by omega)
   simp only [h2,decide_true,if_true,e2,Option.bind_some,src_eta]
   rw [w64 (n := u * 256) (by omega) (by omega),w64 (n := u * 256 + v) (by omega) (by omega),tmod_nonneg_eq (by omega)]
   exact ⟨_,s2,rfl,k2.up (by omega),Int.emod_nonneg _ hn0,.inr (Int.emod_lt_of_pos _ (by omega))⟩
  ·simp only [h2,decide_false,Bool.false_eq_true,if_false]
   rw [tmod_nonneg_eq b1]
   exact ⟨_,s1,rfl,k1.up (by omega),Int.emod_nonneg _ hn0,.inr (Int.emod_lt_of_pos _ (by omega))⟩
theorem among_ok {s : T_l00Src.ty} {c : Int} (hs : SrcOk s c) (hc : c ≤ 1000000000000000000) (l : List Int) (h0 : 0 < l.length) (hn : l.length ≤ 65536) :
 ∃ (u : Int) (s' : T_l00Src.ty),spec_l00Src_among s l = some (u,s') ∧ SrcOk s' (c + 2) ∧ u ∈ l := by
 obtain ⟨u,s1,e1,k1,b1,b2⟩ := pick_ok hs hc (l.length : Int) (by omega)
 have hi : u.toNat < l.length := by omega
 rw [spec_l00Src_among_eq]
 simp only [e1,Option.bind_some,src_eta,b1,decide_true,if_true,List.getElem?_eq_getElem hi]
 exact ⟨_,s1,rfl,k1,List.getElem_mem hi⟩
theorem from_ok (code : List Int) (h1 : ∀ x,x ∈ code → 0 ≤ x ∧ x ≤ 255) (h2 : code.length ≤ 1048576) : ∃ s,spec_l00From code = some s ∧ SrcOk s 0 := by
 rw [spec_l00From_eq]
 exact ⟨_,rfl,h1,h2,Int.le_refl _,Int.le_refl _⟩
theorem bytes_ok {l : List Int} (h : CT.wf (.sl (.one (.int .u8))) l) : ∀ x,x ∈ l → 0 ≤ x ∧ x ≤ 255 := fun x hx => by
 have : (Lit.int .u8 x).wf = true := h.2 x hx
 simp [Lit.wf,IntKind.min,IntKind.max,IntKind.signed,IntKind.bits] at this
 omega
theorem laws_b10Has_p0_ok (l : List Int) (v : Int) (hs : l.length ≤ 1099511627776) : ∀ (k i : Nat),i + k = l.length → laws_b10Has_p0 l v i = some (decide (v ∈ l.drop i))
 | 0,i,hk => by
   rw [laws_b10Has_p0_eq,List.drop_eq_nil_of_le (by omega)]
   have : ¬ (i : Int) < (l.length : Int) := by omega
   simp [this]
 | k + 1,i,hk => by
   have hi : i < l.length := by omega
   have hlt : (i : Int) < (l.length : Int) := by omega
   have hw : IntKind.i64.wrap ((i : Int) + 1) = ((i + 1 : Nat) : Int) := by rw [w64 (by omega) (by omega)]; omega
   have ih := laws_b10Has_p0_ok l v hs k (i + 1) (by omega)
   rw [laws_b10Has_p0_eq,List.drop_eq_getElem_cons hi]
   simp only [hlt,decide_true,if_true,Int.natCast_nonneg,Int.toNat_natCast,List.getElem?_eq_getElem hi,Option.bind_some,hw,ih,List.mem_cons,beq_iff_eq]
   by_cases he : l[i] = v
   ·simp [he]
   ·have : ¬ v = l[i] := fun h => he h.symm
    simp [he,this]
theorem laws_b10Has_ok (l : List Int) (v : Int) (hs : l.length ≤ 1099511627776) : laws_b10Has l v = some (decide (v ∈ l)) := by
 rw [laws_b10Has_eq]
 have := laws_b10Has_p0_ok l v hs l.length 0 (by omega)
 simpa using this
theorem laws_b10Rises_p0_ok (l : List Int) (n : Int) (hs : l.length ≤ 1099511627776) (hb : ∀ x,x ∈ l → 0 ≤ x ∧ x < n) (hr : l.Pairwise (· < ·)) : ∀ (k i : Nat),i + k = l.length → laws_b10Rises_p0 l n i = some true
 | 0,i,hk => by
   rw [laws_b10Rises_p0_eq]
   have : ¬ (i : Int) < (l.length : Int) := by omega
   simp [this]
 | k + 1,i,hk => by
   have hi : i < l.length := by omega
   have hlt : (i : Int) < (l.length : Int) := by omega
   have hw : IntKind.i64.wrap ((i : Int) + 1) = ((i + 1 : Nat) : Int) := by rw [w64 (by omega) (by omega)]; omega
   have ih := laws_b10Rises_p0_ok l n hs hb hr k (i + 1) (by omega)
   obtain ⟨b1,b2⟩ := hb l[i] (List.getElem_mem hi)
   have n1 : ¬ l[i] < 0 := by omega
   have n2 : ¬ l[i] ≥ n := by omega
   rw [laws_b10Rises_p0_eq]
   simp only [hlt,decide_true,if_true,Int.natCast_nonneg,Int.toNat_natCast,List.getElem?_eq_getElem hi,Option.bind_some,hw,ih,n1,n2,decide_false,Bool.false_eq_true,if_false]
   by_cases h0 : i = 0
   ·subst h0; simp
   ·have hp : (i : Int) > 0 := by omega
    have hw2 : IntKind.i64.wrap ((i : Int) - 1) = ((i - 1 : Nat) : Int) := by rw [w64 (by omega) (by omega)]; omega
    have h3 := List.pairwise_iff_getElem.1 hr (i - 1) i (by omega) hi (by omega)
    have n3 : ¬ l[i - 1] ≥ l[i] := by omega
    simp only [hp,decide_true,if_true,hw2,Int.natCast_nonneg,Int.toNat_natCast,List.getElem?_eq_getElem (show i - 1 < l.length by omega),Option.bind_some,n3,decide_false,Bool.false_eq_true,if_false]
theorem laws_b10Rises_ok (l : List Int) (n : Int) (hs : l.length ≤ 1099511627776) (hb : ∀ x,x ∈ l → 0 ≤ x ∧ x < n) (hr : l.Pairwise (· < ·)) : laws_b10Rises l n = some true := by
 rw [laws_b10Rises_eq]
 exact laws_b10Rises_p0_ok l n hs hb hr l.length 0 (by omega)
def lineOk (s : List UInt8) : Bool := (s.all fun c => inR (c.toNat : Int) 32 126) && decide ((s.length : Int) ≤ 100)
def reportOk (ls : List (List UInt8)) : Bool := ls.all lineOk && decide ((ls.length : Int) ≤ 200)
theorem ifSome {a b : Bool} : (if a = true then some b else some false) = some (a && b) := by cases a <;> rfl
theorem impl_isLine_ok (s : List UInt8) (hs : s.length ≤ 1048576) : impl_isLine s = some (lineOk s) := by
 rw [impl_isLine_eq]
 have := allLoop s (fun c => impl_within (IntKind.i64.wrap (c.toNat : Int)) 32 126) (fun c => inR (c.toNat : Int) 32 126) (fun i => impl_isLine_p0 s i) false (some (decide ((s.length : Int) ≤ 100))) (fun i => by
  show impl_isLine_p0 s i = _
  rw [impl_isLine_p0_eq,impl_few_eq]; rfl) (by omega) (fun c _ => by
   have hc := c.toNat_lt
   rw [impl_within_ok,w64 (by omega) (by omega)]) s.length 0 (by omega)
 simp only [Int.ofNat_zero,Int.natCast_zero,List.drop_zero] at this
 rw [this,lineOk,ifSome]
theorem indexReport (ls : List (List UInt8)) (hs : ls.length ≤ 1048576) (hx : ∀ x,x ∈ ls → x.length ≤ 1048576) : ∀ (k i : Nat),i + k = ls.length → ∃ r : Int,slices_IndexFunc___string_string__impl_ValidReport_1_p0 ls ls.length i = some r ∧ decide (r ≥ 0) = !((ls.drop i).all lineOk)
 | 0,i,hk => by
   refine ⟨-1,?_,?_⟩
   ·rw [slices_IndexFunc___string_string__impl_ValidReport_1_p0_eq]
    have : ¬ (i : Int) < (ls.length : Int) := by omega
    simp only [this,decide_false,Bool.false_eq_true,if_false]
   ·rw [List.drop_eq_nil_of_le (by omega)]; rfl
 | k + 1,i,hk => by
   have hi : i < ls.length := by omega
   have hlt : (i : Int) < (ls.length : Int) := by omega
   have hw : IntKind.i64.wrap ((i : Int) + 1) = ((i + 1 : Nat) : Int) := by rw [w64 (by omega) (by omega)]; omega
   rw [slices_IndexFunc___string_string__impl_ValidReport_1_p0_eq,List.drop_eq_getElem_cons hi]
   simp only [hlt,decide_true,if_true,Int.natCast_nonneg,Int.toNat_natCast,List.getElem?_eq_getElem hi,Option.bind_some,impl_ValidReport_1_eq,impl_isLine_ok ls[i] (hx _ (List.getElem_mem hi)),hw,List.all_cons]
   cases lineOk ls[i]
   ·exact ⟨i,by simp,by simp⟩
   ·simp only [Bool.not_true,Bool.false_eq_true,if_false,Bool.true_and]
    exact indexReport ls hs hx k (i + 1) (by omega)
theorem impl_ValidReport_ok (ls : List (List UInt8)) (hs : ls.length ≤ 1048576) (hx : ∀ x,x ∈ ls → x.length ≤ 1048576) : impl_ValidReport ls = some (reportOk ls) := by
 obtain ⟨r,r1,r2⟩ := indexReport ls hs hx ls.length 0 (by omega)
 have r1' : slices_IndexFunc___string_string__impl_ValidReport_1_p0 ls (ls.length : Int) 0 = some r := r1
 rw [List.drop_zero] at r2
 rw [impl_ValidReport_eq,impl_few_eq,slices_ContainsFunc___string_string__impl_ValidReport_1_eq,slices_IndexFunc___string_string__impl_ValidReport_1_eq,r1',reportOk]
 simp only [Option.bind_some,r2]
 cases ls.all lineOk <;> by_cases h : (ls.length : Int) ≤ 200 <;> simp [h]
theorem impl_report_ok (ls : List (List UInt8)) (hs : ls.length ≤ 1048576) (hx : ∀ x,x ∈ ls → x.length ≤ 1048576) : impl_report ls = some (if reportOk ls = true then (ls,0,()) else ([],5,())) := by
 rw [impl_report_eq,List.take_length,impl_ValidReport_ok ls hs hx]
 cases reportOk ls <;> simp
theorem text_ok {s : T_l00Src.ty} {c : Int} (hs : SrcOk s c) (hc : c ≤ 1000000000000000000) (l : List (List UInt8)) (h0 : 0 < l.length) (hn : l.length ≤ 65536) :
 ∃ (u : List UInt8) (s' : T_l00Src.ty),spec_l00Src_text s l = some (u,s') ∧ SrcOk s' (c + 2) ∧ u ∈ l := by
 obtain ⟨u,s1,e1,k1,b1,b2⟩ := pick_ok hs hc (l.length : Int) (by omega)
 have hi : u.toNat < l.length := by omega
 rw [spec_l00Src_text_eq]
 simp only [e1,Option.bind_some,src_eta,b1,decide_true,if_true,List.getElem?_eq_getElem hi]
 exact ⟨_,s1,rfl,k1,List.getElem_mem hi⟩
end Go.Ab.P
