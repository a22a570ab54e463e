/- Lemmas on functions of the program. Conditions: told in each. -/
import Derived.Test.YtangabikonhepaaGreatDoorPFnFrames
import Derived.Sort.Walk0
set_option linter.unusedVariables false
set_option linter.unusedSimpArgs false
set_option maxRecDepth 4000
set_option linter.unusedSectionVars false
namespace Go.Ab.P
open Go.Ab
def sortedChk {α : Type} (ok : α → Bool) (id : α → List UInt8) : Option α → List α → Bool
 | _,[] => true
 | p,x :: r => ok x && ((match p with | none => true | some y => Op.bytesLess (id y) (id x)) && sortedChk ok id (some x) r)
theorem sortedLoopI {α : Type} (xs : List α) (one : α → Option Bool) (ok : α → Bool) (id : α → List UInt8) (p0 : Int → Option Bool) (last : Option Bool) (lb : Bool) (hlast : last = some lb)
 (heq : ∀ i : Int,p0 i = if decide (i < (xs.length : Int)) then (if decide (0 ≤ i) then (xs[i.toNat]?).bind fun x1 => (one x1).bind fun x2 => if (!x2) then some false else if decide (i > 0) then (if decide (0 ≤ IntKind.i64.wrap (i - 1)) then (xs[(IntKind.i64.wrap (i - 1)).toNat]?).bind fun x3 => if (!Op.bytesLess (id x3) (id x1)) then some false else p0 (IntKind.i64.wrap (i + 1)) else none) else p0 (IntKind.i64.wrap (i + 1)) else none) else last)
 (hs : xs.length ≤ 1048576) (h1 : ∀ x,x ∈ xs → one x = some (ok x)) :
 ∀ (k i : Nat),i + k = xs.length → p0 i = some (sortedChk ok id (if i = 0 then none else xs[i - 1]?) (xs.drop i) && lb)
 | 0,i,hk => by
   rw [heq,List.drop_eq_nil_of_le (by omega)]
   have : ¬ (i : Int) < (xs.length : Int) := by omega
   simp only [this,decide_false,Bool.false_eq_true,if_false,hlast,sortedChk,Bool.true_and]
 | k + 1,i,hk => by
   have hi : i < xs.length := by omega
   have hlt : (i : Int) < (xs.length : Int) := by omega
   have hw : IntKind.i64.wrap ((i : Int) + 1) = ((i + 1 : Nat) : Int) := by rw [w64 (by omega) (by omega)]; omega
   have ih := sortedLoopI xs one ok id p0 last lb hlast heq hs h1 k (i + 1) (by omega)
   rw [if_neg (by omega),Nat.add_sub_cancel,List.getElem?_eq_getElem hi] at ih
   rw [heq,List.drop_eq_getElem_cons hi]
   simp only [hlt,decide_true,if_true,Int.natCast_nonneg,Int.toNat_natCast,List.getElem?_eq_getElem hi,Option.bind_some,h1 xs[i] (List.getElem_mem hi),hw,ih,sortedChk]
   cases hok : ok xs[i]
   ·simp
   ·by_cases h0 : i = 0
    ·subst h0; simp
    ·have hp : (i : Int) > 0 := by omega
     have hw2 : IntKind.i64.wrap ((i : Int) - 1) = ((i - 1 : Nat) : Int) := by rw [w64 (by omega) (by omega)]; omega
     simp only [hp,decide_true,if_true,hw2,Int.natCast_nonneg,Int.toNat_natCast,List.getElem?_eq_getElem (show i - 1 < xs.length by omega),Option.bind_some,h0,if_false,Bool.not_true,Bool.false_eq_true]
     cases Op.bytesLess (id xs[i - 1]) (id xs[i]) <;> simp
theorem wsucc {i : Nat} (h : i < 4611686018427387904) : IntKind.i64.wrap ((i : Int) + 1) = ((i + 1 : Nat) : Int) := by
 rw [w64 (by omega) (by omega)]; omega
theorem getElem?_lt {α : Type} {l : List α} {i : Nat} (h : i < l.length) : l[i]? = some l[i] := List.getElem?_eq_getElem h
theorem drop_cons {α : Type} {l : List α} {i : Nat} (h : i < l.length) : l.drop i = l[i] :: l.drop (i + 1) := List.drop_eq_getElem_cons h
theorem tdiv_nonneg_eq {a b : Int} (ha : 0 ≤ a) : a.tdiv b = a / b := Int.tdiv_eq_ediv_of_nonneg ha
theorem tmod_nonneg_eq {a b : Int} (ha : 0 ≤ a) : a.tmod b = a % b := Int.tmod_eq_emod_of_nonneg ha
def small (c : UInt8) : Bool := decide (97 ≤ (c.toNat : Int)) && decide ((c.toNat : Int) ≤ 122)
def digit (c : UInt8) : Bool := decide (48 ≤ (c.toNat : Int)) && decide ((c.toNat : Int) ≤ 57)
def isName (s : List UInt8) : Bool := match s with | [] => false | c :: r => small c && r.all (fun c => small c || digit c) && decide (s.length ≤ 10)
def inR (n lo hi : Int) : Bool := decide (lo ≤ n) && decide (n ≤ hi)
theorem inR_iff' {n lo hi : Int} : inR n lo hi = true ↔ lo ≤ n ∧ n ≤ hi := by simp [inR]
theorem impl_within_ok (n lo hi : Int) : impl_within n lo hi = some (inR n lo hi) := by
 rw [impl_within_eq,inR]; by_cases h : lo ≤ n <;> simp [h]
theorem spec_l00In_ok (n lo hi : Int) : spec_l00In n lo hi = some (inR n lo hi) := by
 rw [spec_l00In_eq,inR]; by_cases h : lo ≤ n <;> simp [h]
theorem spec_l01Small_ok (c : UInt8) : spec_l01Small (c.toNat : Int) = some (small c) := by
 rw [spec_l01Small_eq,small]; by_cases h : 97 ≤ (c.toNat : Int) <;> simp [h]
theorem spec_l01Digit_ok (c : UInt8) : spec_l01Digit (c.toNat : Int) = some (digit c) := by
 rw [spec_l01Digit_eq,digit]; by_cases h : 48 ≤ (c.toNat : Int) <;> simp [h]
theorem impl_isDigit_ok (c : UInt8) : impl_isDigit (c.toNat : Int) = some (digit c) := by
 rw [impl_isDigit_eq,digit]; by_cases h : 48 ≤ (c.toNat : Int) <;> simp [h]
theorem spec_l01Name_p1_ok (s : List UInt8) (hs : s.length < 4611686018427387904) : ∀ (k i : Nat),i + k = s.length → spec_l01Name_p1 s i = some ((s.drop i).all fun c => small c || digit c)
 | 0,i,h => by
   rw [spec_l01Name_p1_eq,List.drop_eq_nil_of_le (by omega)]
   simp; omega
 | k + 1,i,h => by
   have hi : i < s.length := by omega
   rw [spec_l01Name_p1_eq,drop_cons hi]
   have h1 : (i : Int) < (s.length : Int) := by omega
   simp only [h1,decide_true,if_true,Int.natCast_nonneg,Int.toNat_natCast,getElem?_lt hi,Option.bind_some,spec_l01Small_ok,spec_l01Digit_ok,wsucc (show i < 4611686018427387904 by omega),spec_l01Name_p1_ok s hs k (i + 1) (by omega),List.all_cons]
   cases small s[i] <;> cases digit s[i] <;> simp
theorem spec_l01Name_ok (s : List UInt8) (hs : s.length < 4611686018427387904) : spec_l01Name s = some (isName s) := by
 rw [spec_l01Name_eq]
 cases s with
 | nil => rfl
 | cons c r =>
   have := spec_l01Name_p1_ok (c :: r) hs (r.length + 1) 0 (by simp)
   simp only [spec_l01Name_p0_eq,List.getElem?_cons_zero,Option.bind_some,spec_l01Small_ok]
   rw [show ((0 : Nat) : Int) = 0 from rfl] at this
   rw [this,isName]
   have e0 : ((c :: r) == ([] : List UInt8)) = false := by simp
   by_cases hl : ((c :: r).length : Int) > 10
   ·have : ¬ (c :: r).length ≤ 10 := by omega
    simp only [e0,hl,this,decide_true,decide_false,if_true,Bool.false_eq_true,if_false,Bool.and_false]
   ·have : (c :: r).length ≤ 10 := by omega
    simp only [e0,hl,this,decide_true,decide_false,if_true,Bool.false_eq_true,if_false,Bool.and_true]
    cases hc : small c <;> simp [hc]
def okFrom : Nat → List UInt8 → Bool
 | _,[] => true
 | i,c :: r => (small c || (i != 0 && digit c)) && okFrom (i + 1) r
theorem okFrom_all (r : List UInt8) : ∀ i,okFrom (i + 1) r = r.all fun c => small c || digit c := by
 induction r with
 | nil => intro i; rfl
 | cons c r ih => intro i; simp [okFrom,ih]
theorem impl_IsName_p0_ok (s : List UInt8) (hs : s.length < 4611686018427387904) : ∀ (k i : Nat),i + k = s.length → impl_IsName_p0 s i = some (okFrom i (s.drop i) && (!(s == []) && decide (s.length ≤ 10)))
 | 0,i,h => by
   rw [impl_IsName_p0_eq,List.drop_eq_nil_of_le (by omega),impl_few_eq]
   have h1 : ¬ (i : Int) < (s.length : Int) := by omega
   simp only [h1,decide_false,Bool.false_eq_true,if_false,okFrom,Option.bind_some,Bool.true_and]
   cases s with
   | nil => rfl
   | cons c r =>
     have : ((c :: r == []) = false) := by simp
     simp only [this,Bool.not_false,if_true,Bool.true_and]
     congr 1
     simp only [decide_eq_decide]; omega
 | k + 1,i,h => by
   have hi : i < s.length := by omega
   have h1 : (i : Int) < (s.length : Int) := by omega
   have ih := impl_IsName_p0_ok s hs k (i + 1) (by omega)
   have e1 : ∀ b : Bool,impl_IsName_p1 s i b = some (((b || (i != 0 && digit s[i])) && okFrom (i + 1) (s.drop (i + 1))) && (!(s == []) && decide (s.length ≤ 10))) := by
    intro b
    rw [impl_IsName_p1_eq]
    simp only [Int.natCast_nonneg,decide_true,if_true,Int.toNat_natCast,getElem?_lt hi,Option.bind_some,impl_isDigit_ok,wsucc (show i < 4611686018427387904 by omega),ih]
    cases b
    ·by_cases h0 : i = 0
     ·subst h0; simp
     ·have : ((i : Int) == 0) = false := by simp [h0]
      have : (i != 0) = true := by simp [h0]
      simp only [*]
      cases digit s[i] <;> simp
    ·simp
   rw [impl_IsName_p0_eq,drop_cons hi,okFrom]
   simp only [h1,decide_true,if_true,Int.natCast_nonneg,Int.toNat_natCast,getElem?_lt hi,Option.bind_some,e1,small]
   by_cases h97 : (s[i].toNat : Int) ≥ 97 <;> simp [h97]
theorem impl_IsName_ok (s : List UInt8) (hs : s.length < 4611686018427387904) : impl_IsName s = some (isName s) := by
 rw [impl_IsName_eq]
 have := impl_IsName_p0_ok s hs s.length 0 (by simp)
 rw [show ((0 : Nat) : Int) = 0 from rfl] at this
 rw [this]
 cases s with
 | nil => rfl
 | cons c r => simp [okFrom,okFrom_all,isName]
theorem spec_l01Dec_p3_all (l : List Int) (hl : l.length ≤ 1000) : ∀ (k : Nat) (r : List Int),k ≤ l.length → r.length + k ≤ 1000 → spec_l01Dec_p3 ((k : Int) - 1) l r = some ((r ++ (l.take k).reverse).map vu8)
 | 0,r,hk,hr => by
   rw [spec_l01Dec_p3_eq]
   have : ¬ ((0 : Nat) : Int) - 1 ≥ 0 := by omega
   simp only [this,decide_false,Bool.false_eq_true,if_false,List.take_length,List.take_zero,List.reverse_nil,List.append_nil]
 | k + 1,r,hk,hr => by
   rw [spec_l01Dec_p3_eq,show ((k + 1 : Nat) : Int) - 1 = (k : Int) by omega]
   have h1 : (k : Int) ≥ 0 := by omega
   have h2 : (0 : Int) ≤ (k : Int) := by omega
   have h3 : (k : Int) < (l.length : Int) := by omega
   have h4 : r.length + 1 < lim := by rw [lim_eq]; omega
   have ih := spec_l01Dec_p3_all l hl k (r ++ [l[k]]) (by omega) (by simp; omega)
   simp only [h1,h2,h3,decide_true,Bool.and_self,if_true,Int.toNat_natCast,getElem?_lt (show k < l.length by omega),Option.bind_some,h4,List.take_length,w64 (n := (k : Int) - 1) (by omega) (by omega),ih]
   rw [List.take_succ_eq_append_getElem (by omega),List.reverse_append,List.append_assoc]; rfl
theorem spec_l01Dec_p2_all (l : List Int) (hl : l.length ≤ 900) : spec_l01Dec_p2 l = some (l.reverse.map vu8) := by
 rw [spec_l01Dec_p2_eq,w64 (n := (l.length : Int) - 1) (by omega) (by omega),spec_l01Dec_p3_all l (by omega) l.length [] (by omega) (by simp; omega),List.nil_append,List.take_length]
def revDigs (u : Nat) : List Int := (Lib.decDigits u).reverse.map fun c => (c.toNat : Int)
theorem decDigits_one {u : Nat} (h : u < 10) : Lib.decDigits u = [UInt8.ofNat (48 + u)] := by rw [Lib.decDigits,dif_pos h]
theorem decDigits_more {u : Nat} (h : ¬ u < 10) : Lib.decDigits u = Lib.decDigits (u / 10) ++ [UInt8.ofNat (48 + u % 10)] := by rw [Lib.decDigits,dif_neg h]
theorem dig48 {d : Nat} (h : d < 10) : ((UInt8.ofNat (48 + d)).toNat : Int) = 48 + (d : Int) := by
 have : (UInt8.ofNat (48 + d)).toNat = 48 + d := by simp; omega
 rw [this]; omega
theorem wrapU8 {n : Int} (h1 : 0 ≤ n) (h2 : n < 256) : IntKind.u8.wrap n = n := by
 simp only [IntKind.wrap,IntKind.bits,IntKind.signed]
 first
  | omega
  | (simp; omega)
theorem spec_l01Dec_p0_all (n : Int) : ∀ (k u : Nat) (v : Int) (r : List Int),(0 ≤ v ∧ v = (u : Int) ∨ v < 0 ∧ v = -(u : Int)) → u ≤ 2000000000000000000 → u < 10 ^ k → u ≠ 0 → (0 ≤ n ↔ 0 ≤ v) → r.length + k ≤ 800 →
 spec_l01Dec_p0 n v r = spec_l01Dec_p2 (r ++ revDigs u ++ if n < 0 then [45] else [])
 | 0,u,v,r,hv,hb,hu,hz,hn,hr => by simp at hu; omega
 | k + 1,u,v,r,hv,hb,hu,hz,hn,hr => by
   have hp : 10 ^ (k + 1) = 10 ^ k * 10 := Nat.pow_succ ..
   have hvz : (v != 0) = true := by
    have : v ≠ 0 := by omega
    simpa using this
   have h4 : r.length + 1 < lim := by rw [lim_eq]; omega
   have key : spec_l01Dec_p0 n v r = spec_l01Dec_p0 n (if v < 0 then -((u / 10 : Nat) : Int) else ((u / 10 : Nat) : Int)) (r ++ [48 + ((u % 10 : Nat) : Int)]) := by
    rw [spec_l01Dec_p0_eq]
    simp only [hvz,if_true]
    have wrapd : IntKind.u8.wrap (IntKind.i64.wrap (48 + ((u % 10 : Nat) : Int))) = 48 + ((u % 10 : Nat) : Int) := by
     rw [w64 (by omega) (by omega)]
     exact wrapU8 (by omega) (by omega)
    rcases hv with ⟨h0,e⟩ | ⟨h0,e⟩
    ·have hm : v.tmod 10 = ((u % 10 : Nat) : Int) := by rw [e,tmod_nonneg_eq (by omega)]; omega
     have hd : v.tdiv 10 = ((u / 10 : Nat) : Int) := by rw [e,tdiv_nonneg_eq (by omega)]; omega
     have hnn : ¬ ((u % 10 : Nat) : Int) < 0 := by omega
     have hnv : ¬ v < 0 := by omega
     simp only [hm,hnn,decide_false,Bool.false_eq_true,if_false,hnv,spec_l01Dec_p1_eq,h4,decide_true,if_true,List.take_length,hd,w64 (n := ((u / 10 : Nat) : Int)) (by omega) (by omega),wrapd]
    ·have hm : v.tmod 10 = -((u % 10 : Nat) : Int) := by
      rw [e,Int.neg_tmod,tmod_nonneg_eq (by omega)]; omega
     have hd : v.tdiv 10 = -((u / 10 : Nat) : Int) := by
      rw [e,Int.neg_tdiv,tdiv_nonneg_eq (by omega)]; omega
     have e0 : IntKind.i64.wrap (0 - -((u % 10 : Nat) : Int)) = ((u % 10 : Nat) : Int) := by rw [w64 (by omega) (by omega)]; omega
     by_cases hc : -((u % 10 : Nat) : Int) < 0
     ·simp only [hm,hc,decide_true,if_true,h0,spec_l01Dec_p1_eq,h4,List.take_length,hd,w64 (n := -((u / 10 : Nat) : Int)) (by omega) (by omega),e0,wrapd]
     ·have e1 : -((u % 10 : Nat) : Int) = ((u % 10 : Nat) : Int) := by omega
      have hc' : ¬ ((u % 10 : Nat) : Int) < 0 := by omega
      rw [e1] at hm
      simp only [hm,hc',decide_false,Bool.false_eq_true,if_false,h0,if_true,spec_l01Dec_p1_eq,h4,decide_true,List.take_length,hd,w64 (n := -((u / 10 : Nat) : Int)) (by omega) (by omega),wrapd]
   rw [key]
   by_cases hs : u < 10
   ·have hq : u / 10 = 0 := by omega
    have hz0 : (if v < 0 then -((u / 10 : Nat) : Int) else ((u / 10 : Nat) : Int)) = 0 := by rw [hq]; split <;> rfl
    have e2 : revDigs u = [48 + ((u % 10 : Nat) : Int)] := by
     rw [revDigs,decDigits_one hs,List.reverse_singleton,List.map_singleton,dig48 hs,Nat.mod_eq_of_lt hs]
    rw [hz0,spec_l01Dec_p0_eq,e2]
    have h5 : (r ++ [48 + ((u % 10 : Nat) : Int)]).length + 1 < lim := by rw [lim_eq]; simp; omega
    by_cases hn0 : n < 0
    ·simp only [bne_self_eq_false,Bool.false_eq_true,if_false,hn0,decide_true,if_true,h5,List.take_length]
    ·simp only [bne_self_eq_false,Bool.false_eq_true,if_false,hn0,decide_false,List.append_nil]
   ·have e2 : revDigs u = (48 + ((u % 10 : Nat) : Int)) :: revDigs (u / 10) := by
     rw [revDigs,decDigits_more hs,List.reverse_append,List.reverse_singleton,List.singleton_append,List.map_cons,dig48 (Nat.mod_lt u (by omega)),revDigs]
    rw [spec_l01Dec_p0_all n k (u / 10) _ (r ++ [48 + ((u % 10 : Nat) : Int)]) (by split <;> omega) (by omega) (by omega) (by omega) (by split <;> omega) (by simp; omega),e2]
    simp only [List.append_assoc,List.singleton_append,List.cons_append,List.nil_append]
theorem revDigs_back (u : Nat) : (revDigs u).reverse.map vu8 = Lib.decDigits u := by
 rw [revDigs,← List.map_reverse,List.reverse_reverse,List.map_map]
 conv => rhs; rw [← List.map_id (Lib.decDigits u)]
 exact List.map_congr_left fun c _ => by simp [vu8]
theorem decLen : ∀ (k u : Nat),u < 10 ^ (k + 1) → (Lib.decDigits u).length ≤ k + 1
 | 0,u,h => by rw [decDigits_one (by simpa using h)]; simp
 | k + 1,u,h => by
   by_cases hs : u < 10
   ·rw [decDigits_one hs]; simp
   ·have hp : 10 ^ (k + 1 + 1) = 10 ^ (k + 1) * 10 := Nat.pow_succ ..
    have := decLen k (u / 10) (by omega)
    rw [decDigits_more hs,List.length_append,List.length_singleton]; omega
theorem revDigs_len (u : Nat) (h : u ≤ 2000000000000000000) : (revDigs u).length ≤ 20 := by
 rw [revDigs,List.length_map,List.length_reverse]
 have h10 : (10 : Nat) ^ (19 + 1) = 100000000000000000000 := by decide
 exact decLen 19 u (by omega)
theorem spec_l01Dec_itoa (n : Int) (h : -2000000000000000000 ≤ n ∧ n ≤ 2000000000000000000) : spec_l01Dec n = some (Lib.itoa n) := by
 rw [spec_l01Dec_eq]
 by_cases hz : n = 0
 ·subst hz; simp only [beq_self_eq_true,if_true]; rw [Lib.itoa,if_neg (by decide),show (0 : Int).toNat = 0 from rfl,decDigits_one (by decide)]; rfl
 have hz' : (n == 0) = false := by simpa using hz
 simp only [hz',Bool.false_eq_true,if_false]
 have hu : n.natAbs < 10 ^ 20 := by
  have : (10 : Nat) ^ 20 = 100000000000000000000 := by decide
  omega
 rw [spec_l01Dec_p0_all n 20 n.natAbs n [] (by omega) (by omega) hu (by omega) Iff.rfl (by simp),spec_l01Dec_p2_all _ (by
  have := revDigs_len n.natAbs (by omega)
  rw [List.nil_append,List.length_append]
  split <;> simp <;> omega)]
 rw [List.nil_append,List.reverse_append,List.map_append,revDigs_back]
 unfold Lib.itoa
 by_cases hn : n < 0
 ·rw [if_pos hn,if_pos hn]; rfl
 ·rw [if_neg hn,if_neg hn,show n.toNat = n.natAbs by omega]; rfl
theorem index1_none {c : UInt8} : ∀ {a : List UInt8},c ∉ a → Lib.index a [c] = -1
 | [],_ => rfl
 | b :: l,h => by
   have h1 : (c == b) = false := by simp at h; simpa using h.1
   have h2 := index1_none (a := l) (fun e => h (List.mem_cons_of_mem _ e))
   unfold Lib.index
   simp [List.isPrefixOf,h1,h2]
theorem index1_at {c : UInt8} : ∀ {a : List UInt8} (r : List UInt8),c ∉ a → Lib.index (a ++ c :: r) [c] = a.length
 | [],r,_ => by simp [Lib.index,List.isPrefixOf]
 | b :: l,r,h => by
   have h1 : (c == b) = false := by simp at h; simpa using h.1
   have h2 := index1_at (a := l) r (fun e => h (List.mem_cons_of_mem _ e))
   rw [List.cons_append]
   unfold Lib.index
   have h3 : ((l.length : Int) == -1) = false := by rw [beq_eq_false_iff_ne]; omega
   simp [List.isPrefixOf,h1,h2,h3]
theorem split1_last {c : UInt8} {a : List UInt8} (h : c ∉ a) : Lib.splitK [c] 0 (Lib.count a [c]) a = [a] := by
 rw [Lib.count_miss (index1_none h)]; rfl
theorem split1_cons {c : UInt8} {a : List UInt8} (r : List UInt8) (h : c ∉ a) : Lib.splitK [c] 0 (Lib.count (a ++ c :: r) [c]) (a ++ c :: r) = a :: Lib.splitK [c] 0 (Lib.count r [c]) r := by
 have hi := index1_at r h
 have hm : ¬ ((a.length : Int) == -1) = true := by rw [beq_iff_eq]; omega
 have hd : (a ++ c :: r).drop (a.length + [c].length) = r := by simp [List.drop_append]
 rw [Lib.count_hit (by simp) hi,hd,Nat.add_comm 1,Lib.splitK,hi,if_neg hm,Int.toNat_natCast,hd]
 simp
theorem cut1_at {c : UInt8} {a : List UInt8} (r : List UInt8) (h : c ∉ a) : Lib.cut (a ++ c :: r) [c] = (a,r,true) := by
 unfold Lib.cut
 rw [index1_at r h,if_pos (by omega),Int.toNat_natCast]
 simp [List.drop_append]
theorem wu8 {n : Int} (h1 : 0 ≤ n) (h2 : n < 256) : IntKind.u8.wrap n = n := by
 have e : IntKind.u8.wrap n = n % 256 := by simp [IntKind.wrap,IntKind.signed,IntKind.bits]
 rw [e]; omega
def digsGo : List UInt8 → Int → Int × Bool
 | [],n => (n,true)
 | c :: r,n => if digit c = true then digsGo r (10 * n + ((c.toNat : Int) - 48)) else (0,false)
def digs (s : List UInt8) : Int × Bool := if s = [] then (0,false) else if s.length > 18 then (0,false) else digsGo s 0
theorem impl_Decimal_ok (n : Int) (h : -9223372036854775808 ≤ n ∧ n ≤ 9223372036854775807) : impl_Decimal n = some (Lib.itoa n) := by
 rw [impl_Decimal_eq,strconv_FormatInt_eq]
 simp [h.1,h.2]
def padP (n : Int) (d : Nat) : List UInt8 := Lib.repeatL [48] (d - (Lib.itoa n).length) ++ Lib.itoa n
theorem impl_padded_ok (n : Int) (d : Nat) (h : -9223372036854775808 ≤ n ∧ n ≤ 9223372036854775807) (hd : d ≤ 1000) (hl : (Lib.itoa n).length ≤ 1000) : impl_padded n d = some (padP n d) := by
 have hm : (if (d : Int) - ((Lib.itoa n).length : Int) > 0 then (d : Int) - ((Lib.itoa n).length : Int) else 0) = ((d - (Lib.itoa n).length : Nat) : Int) := by split <;> omega
 rw [impl_padded_eq,impl_Decimal_ok n h]
 simp only [Option.bind_some]
 rw [w64 (n := (d : Int) - ((Lib.itoa n).length : Int)) (by omega) (by omega),hm,strings_Repeat_eq]
 have h1 : ((d - (Lib.itoa n).length : Nat) : Int) ≥ 0 := by omega
 have h2 : ((d - (Lib.itoa n).length : Nat) : Int) ≤ 9223372036854775807 := by omega
 have h3 : ([48] : List UInt8).length * (d - (Lib.itoa n).length) ≤ 140737488355328 := by simp; omega
 have h4 : (Lib.repeatL [48] (d - (Lib.itoa n).length)).length + (Lib.itoa n).length ≤ strMax := by
  rw [Lib.repeatL_length,strMax_eq]; simp; omega
 simp only [h1,h2,Int.toNat_natCast,h3,decide_true,Bool.and_self,if_true,Option.bind_some,h4]
 rfl
theorem wu64 {n : Int} (h1 : 0 ≤ n) (h2 : n < 18446744073709551616) : IntKind.u64.wrap n = n := by
 have e : IntKind.u64.wrap n = if decide false = true then n % 18446744073709551616 - 18446744073709551616 else n % 18446744073709551616 := by
  simp [IntKind.wrap,IntKind.signed,IntKind.bits]
 rw [e]
 simp; omega
theorem and255 (x : Int) : ((BitVec.ofInt IntKind.u64.bits x &&& BitVec.ofInt IntKind.u64.bits 255).toNat : Int) ≤ 255 := by
 have : (BitVec.ofInt IntKind.u64.bits x &&& BitVec.ofInt IntKind.u64.bits 255).toNat ≤ 255 := by
  rw [BitVec.toNat_and]
  refine Nat.le_trans Nat.and_le_right ?_
  decide
 omega
def SrcOk (s : T_l00Src.ty) (c : Int) : Prop := (∀ x : Int,x ∈ s.1 → 0 ≤ x ∧ x ≤ 255) ∧ s.1.length ≤ 1048576 ∧ (0 : Int) ≤ s.2.1 ∧ (s.2.1 : Int) ≤ c
theorem src_eta (s : T_l00Src.ty) : (s.1,s.2.1,s.2.2.1,()) = s := rfl
theorem SrcOk.up {s : T_l00Src.ty} {c d : Int} (h : SrcOk s c) (hd : c ≤ d) : SrcOk s d := ⟨h.1,h.2.1,h.2.2.1,Int.le_trans h.2.2.2 hd⟩
theorem next_p0_ok (v : Int) (l : List Int) (a h : Int) (c : Int) (hs : SrcOk (l,a,h,()) c) (hc : c ≤ 1152921504606846976) (hv : 0 ≤ v ∧ v ≤ 255) :
 ∃ (u : Int) (s' : T_l00Src.ty),spec_l00Src_next_p0 v l a h = some (u,s') ∧ SrcOk s' (c + 1) ∧ 0 ≤ u ∧ u ≤ 255 := by
 obtain ⟨h1,h2,h3,h4⟩ := hs
 have h3 : 0 ≤ a := h3
 have h4 : a ≤ c := h4
 rw [spec_l00Src_next_p0_eq,w64 (n := a + 1) (by omega) (by omega)]
 split
 ·exact ⟨_,_,rfl,⟨h1,h2,by show (0 : Int) ≤ a + 1; omega,by show (a + 1 : Int) ≤ c + 1; omega⟩,hv⟩
 ·refine ⟨_,_,rfl,⟨h1,h2,by show (0 : Int) ≤ a + 1; omega,by show (a + 1 : Int) ≤ c + 1; omega⟩,?_⟩
  generalize hx : ((BitVec.ofInt IntKind.u64.bits _ &&& BitVec.ofInt IntKind.u64.bits 255).toNat : Int) = x
  have := and255 (Int.fdiv (IntKind.u64.wrap ((IntKind.u64.wrap ((IntKind.u64.wrap (h * 6364136223846793005)) + (IntKind.u64.wrap v))) + 1442695040888963407)) (2 ^ (min (40 : Int).toNat IntKind.u64.bits)))
  rw [hx] at this
  have h0 : 0 ≤ x := by rw [← hx]; exact Int.natCast_nonneg _
  rw [wu64 h0 (by omega),w64 (by omega) (by omega)]
  exact ⟨h0,this⟩
theorem next_core (l : List Int) (a h c : Int) (hs : SrcOk (l,a,h,()) c) (hc : c ≤ 1152921504606846976) : ∃ (u : Int) (s' : T_l00Src.ty),spec_l00Src_next (l,a,h,()) = some (u,s') ∧ SrcOk s' (c + 1) ∧ 0 ≤ u ∧ u ≤ 255 := by
 have h3 : (0 : Int) ≤ a := hs.2.2.1
 rw [spec_l00Src_next_eq]
 dsimp only
 split
 ·rename_i hlt
  simp only [decide_eq_true_eq] at hlt
  have hlt' : a < (List.length (α := Int) l : Int) := hlt
  have hi : a.toNat < l.length := by omega
  obtain ⟨x,hx⟩ : ∃ x,l[a.toNat]? = some x := ⟨_,List.getElem?_eq_getElem hi⟩
  have hm : 0 ≤ x ∧ x ≤ 255 := hs.1 x (List.mem_of_getElem? hx)
  rw [if_pos (by simpa using h3),hx,Option.bind_some,w64 (n := x) (by omega) (by omega)]
  exact next_p0_ok x l a h c hs hc hm
 ·exact next_p0_ok 0 l a h c hs hc ⟨by omega,by omega⟩
theorem next_ok {s : T_l00Src.ty} {c : Int} (hs : SrcOk s c) (hc : c ≤ 1152921504606846976) : ∃ (u : Int) (s' : T_l00Src.ty),spec_l00Src_next s = some (u,s') ∧ SrcOk s' (c + 1) ∧ 0 ≤ u ∧ u ≤ 255 :=
 next_core s.1 s.2.1 s.2.2.1 c hs hc
theorem pick_ok {s : T_l00Src.ty} {c : Int} (hs : SrcOk s c) (hc : c ≤ 1000000000000000000) (n : Int) (hn : n ≤ 65536) :
 ∃ (u : Int) (s' : T_l00Src.ty),spec_l00Src_pick s n = some (u,s') ∧ SrcOk s' (c + 2) ∧ 0 ≤ u ∧ (u = 0 ∨ u < n) := by
 rw [spec_l00Src_pick_eq]
 by_cases h1 : n ≤ 1
 ·simp only [h1,decide_true,if_true]
  exact ⟨0,s,rfl,hs.up (by omega),by omega,.inl rfl⟩
 ·obtain ⟨u,s1,e1,k1,b1,b2⟩ := next_ok hs (by omega)
  have hn0 : ¬ n = 0 := by omega
  simp only [h1,decide_false,Bool.false_eq_true,if_false,e1,Option.bind_some,src_eta,hn0]
  by_cases h2 : n > 200
  ·obtain ⟨v,s2,e2,k2,b3,b4⟩ := next_ok k1 (by omega)
   simp only [h2,decide_true,if_true,e2,Option.bind_some,src_eta]
   rw [w64 (n := u * 256) (by omega) (by omega),w64 (n := u * 256 + v) (by omega) (by omega),tmod_nonneg_eq (by omega)]
   exact ⟨_,s2,rfl,k2.up (by omega),Int.emod_nonneg _ hn0,.inr (Int.emod_lt_of_pos _ (by omega))⟩
  ·simp only [h2,decide_false,Bool.false_eq_true,if_false]
   rw [tmod_nonneg_eq b1]
   exact ⟨_,s1,rfl,k1.up (by omega),Int.emod_nonneg _ hn0,.inr (Int.emod_lt_of_pos _ (by omega))⟩
theorem one_ok {s : T_l00Src.ty} {c : Int} (hs : SrcOk s c) (hc : c ≤ 1000000000000000000) (n : Int) (hn : n ≤ 65536) :
 ∃ (u : Bool) (s' : T_l00Src.ty),spec_l00Src_one s n = some (u,s') ∧ SrcOk s' (c + 2) := by
 obtain ⟨u,s1,e1,k1,_⟩ := pick_ok hs hc n hn
 rw [spec_l00Src_one_eq]
 simp only [e1,Option.bind_some,src_eta]
 exact ⟨_,s1,rfl,k1⟩
theorem from_ok (code : List Int) (h1 : ∀ x,x ∈ code → 0 ≤ x ∧ x ≤ 255) (h2 : code.length ≤ 1048576) : ∃ s,spec_l00From code = some s ∧ SrcOk s 0 := by
 rw [spec_l00From_eq]
 exact ⟨_,rfl,h1,h2,Int.le_refl _,Int.le_refl _⟩
theorem bytes_ok {l : List Int} (h : CT.wf (.sl (.one (.int .u8))) l) : ∀ x,x ∈ l → 0 ≤ x ∧ x ≤ 255 := fun x hx => by
 have : (Lit.int .u8 x).wf = true := h.2 x hx
 simp [Lit.wf,IntKind.min,IntKind.max,IntKind.signed,IntKind.bits] at this
 omega
theorem dig_toNat {d : Nat} (h : d < 10) : (UInt8.ofNat (48 + d)).toNat = 48 + d := by
 rw [UInt8.toNat_ofNat']; omega
theorem decDigits_dig (u : Nat) : ∀ c,c ∈ Lib.decDigits u → 48 ≤ c.toNat ∧ c.toNat ≤ 57 := by
 induction u using Nat.strongRecOn with
 | _ u ih =>
   intro c hc
   rw [Lib.decDigits] at hc
   split at hc
   ·rename_i h
    simp only [List.mem_singleton] at hc
    rw [hc,dig_toNat h]; omega
   ·rename_i h
    rcases List.mem_append.1 hc with h1 | h1
    ·exact ih (u / 10) (by omega) c h1
    ·simp only [List.mem_singleton] at h1
     rw [h1,dig_toNat (by omega)]; omega
theorem decDigits_len : ∀ (k u : Nat),u < 10 ^ (k + 1) → (Lib.decDigits u).length ≤ k + 1 ∧ 1 ≤ (Lib.decDigits u).length
 | 0,u,h => by
   rw [Lib.decDigits,dif_pos (by simpa using h)]; simp
 | k + 1,u,h => by
   rw [Lib.decDigits]
   split
   ·simp
   ·have hq : u / 10 < 10 ^ (k + 1) := by
     have : 10 ^ (k + 1 + 1) = 10 ^ (k + 1) * 10 := Nat.pow_succ ..
     omega
    have := decDigits_len k (u / 10) hq
    simp only [List.length_append,List.length_singleton]
    omega
theorem itoa_pos (u : Nat) : Lib.itoa (u : Int) = Lib.decDigits u := by unfold Lib.itoa; rw [if_neg (by omega)]; simp
theorem digit_of {c : UInt8} (h : 48 ≤ c.toNat ∧ c.toNat ≤ 57) : digit c = true := by
 simp only [digit,Bool.and_eq_true,decide_eq_true_eq]; omega
theorem digsGo_app : ∀ (a b : List UInt8) (n m : Int),digsGo a n = (m,true) → digsGo (a ++ b) n = digsGo b m
 | [],b,n,m,h => by simp [digsGo] at h; subst h; rfl
 | c :: a,b,n,m,h => by
   rw [List.cons_append,digsGo]
   rw [digsGo] at h
   by_cases hd : digit c = true
   ·rw [if_pos hd] at h ⊢
    exact digsGo_app a b _ m h
   ·rw [if_neg hd] at h; simp at h
theorem digsGo_dec (u : Nat) : digsGo (Lib.decDigits u) 0 = ((u : Int),true) := by
 induction u using Nat.strongRecOn with
 | _ u ih =>
   rw [Lib.decDigits]
   split
   ·rename_i h
    have ht := dig_toNat h
    simp only [digsGo,digit_of (show 48 ≤ (UInt8.ofNat (48 + u)).toNat ∧ (UInt8.ofNat (48 + u)).toNat ≤ 57 by omega),if_true,ht]
    congr 1; omega
   ·rename_i h
    have ht := dig_toNat (d := u % 10) (by omega)
    rw [digsGo_app _ _ 0 _ (ih (u / 10) (by omega))]
    simp only [digsGo,digit_of (show 48 ≤ (UInt8.ofNat (48 + u % 10)).toNat ∧ (UInt8.ofNat (48 + u % 10)).toNat ≤ 57 by omega),if_true,ht]
    congr 1; omega
theorem digsGo_zeros (r : List UInt8) : ∀ k,digsGo (Lib.repeatL [48] k ++ r) 0 = digsGo r 0
 | 0 => rfl
 | k + 1 => by
   have ih := digsGo_zeros r k
   show digsGo (48 :: (Lib.repeatL [48] k ++ r)) 0 = _
   have hd : digit 48 = true := by decide
   rw [digsGo,if_pos hd]
   exact ih
theorem repeat48 : ∀ k,∀ c,c ∈ Lib.repeatL [48] k → c = 48
 | 0,c,h => by simp [Lib.repeatL] at h
 | k + 1,c,h => by
   have h : c ∈ 48 :: Lib.repeatL [48] k := h
   rcases List.mem_cons.1 h with h | h
   ·exact h
   ·exact repeat48 k c h
theorem padP_dig (u d : Nat) : ∀ c,c ∈ padP (u : Int) d → 48 ≤ c.toNat ∧ c.toNat ≤ 57 := by
 intro c hc
 unfold padP at hc
 rcases List.mem_append.1 hc with h | h
 ·rw [repeat48 _ c h]; decide
 ·rw [itoa_pos] at h; exact decDigits_dig u c h
theorem padP_len (u d : Nat) : (padP (u : Int) d).length = max d (Lib.itoa (u : Int)).length := by
 unfold padP
 rw [List.length_append,Lib.repeatL_length]
 simp only [List.length_singleton]
 omega
theorem digs_pad (u d : Nat) (hu : u < 10 ^ 11) (hd : d ≤ 18) : digs (padP (u : Int) d) = ((u : Int),true) := by
 have hl := padP_len u d
 have hi := decDigits_len 10 u hu
 rw [← itoa_pos] at hi
 have h1 : padP (u : Int) d ≠ [] := fun e => by rw [e] at hl; simp at hl; omega
 have h2 : ¬ (padP (u : Int) d).length > 18 := by omega
 unfold digs
 rw [if_neg h1,if_neg h2]
 unfold padP
 rw [digsGo_zeros,itoa_pos,digsGo_dec]
theorem spec_l01Dec_p3_ok (l : List Int) (hl : l.length ≤ 1000) : ∀ (k : Nat) (r : List Int),k ≤ l.length → r.length + k ≤ 1000 → ∃ t,spec_l01Dec_p3 ((k : Int) - 1) l r = some t ∧ t.length = r.length + k
 | 0,r,hk,hr => by
   rw [spec_l01Dec_p3_eq]
   have : ¬ ((0 : Nat) : Int) - 1 ≥ 0 := by omega
   simp only [this,decide_false,Bool.false_eq_true,if_false,List.take_length]
   exact ⟨_,rfl,by simp⟩
 | k + 1,r,hk,hr => by
   rw [spec_l01Dec_p3_eq,show ((k + 1 : Nat) : Int) - 1 = (k : Int) by omega]
   have h1 : (k : Int) ≥ 0 := by omega
   have h2 : (0 : Int) ≤ (k : Int) := by omega
   have h3 : (k : Int) < (l.length : Int) := by omega
   have h4 : r.length + 1 < lim := by rw [lim_eq]; omega
   obtain ⟨t,e,ht⟩ := spec_l01Dec_p3_ok l hl k (r ++ [l[k]]) (by omega) (by simp; omega)
   simp only [h1,h2,h3,decide_true,Bool.and_self,if_true,Int.toNat_natCast,getElem?_lt (show k < l.length by omega),Option.bind_some,h4,List.take_length,w64 (n := (k : Int) - 1) (by omega) (by omega)]
   exact ⟨t,e,by rw [ht]; simp; omega⟩
theorem spec_l01Dec_p0_ok (n : Int) : ∀ (k : Nat) (v : Int) (r : List Int),0 ≤ v → v ≤ 4611686018427387904 → v < 10 ^ k → 0 ≤ n → r.length + k ≤ 900 → ∃ t,spec_l01Dec_p0 n v r = some t ∧ t.length ≤ r.length + k
 | k,v,r,h0,hbig,hv,hn,hr => by
   by_cases hz : v = 0
   ·rw [spec_l01Dec_p0_eq,hz]
    have hn0 : ¬ n < 0 := by omega
    obtain ⟨t,e,ht⟩ := spec_l01Dec_p3_ok r (by omega) r.length [] (by omega) (by simp; omega)
    simp only [bne_self_eq_false,Bool.false_eq_true,if_false,hn0,decide_false,spec_l01Dec_p2_eq,w64 (n := (r.length : Int) - 1) (by omega) (by omega)]
    exact ⟨t,e,by rw [ht]; simp⟩
   ·match k,hv,hr with
    | 0,hv,hr => simp at hv; omega
    | k + 1,hv,hr =>
      have hz' : (v != 0) = true := by simpa using hz
      have hm : ¬ v.tmod 10 < 0 := by rw [tmod_nonneg_eq h0]; omega
      have h4 : r.length + 1 < lim := by rw [lim_eq]; omega
      have hp : (10 : Int) ^ (k + 1) = 10 ^ k * 10 := Int.pow_succ ..
      have hq : v.tdiv 10 = v / 10 := tdiv_nonneg_eq h0
      have hq2 : v / 10 < 10 ^ k := by omega
      obtain ⟨t,e,ht⟩ := spec_l01Dec_p0_ok n k (v / 10) (r ++ [IntKind.u8.wrap (IntKind.i64.wrap (48 + v.tmod 10))]) (by omega) (by omega) hq2 hn (by simp; omega)
      rw [spec_l01Dec_p0_eq]
      simp only [hz',if_true,hm,decide_false,Bool.false_eq_true,if_false,spec_l01Dec_p1_eq,h4,decide_true,List.take_length,hq,w64 (n := v / 10) (by omega) (by omega)]
      exact ⟨t,e,by rw [List.length_append,List.length_singleton] at ht; omega⟩
theorem spec_l01Dec_tot (n : Int) (h : 0 ≤ n ∧ n ≤ 1000000000) : ∃ t,spec_l01Dec n = some t ∧ t.length ≤ 20 := by
 rw [spec_l01Dec_eq]
 by_cases hz : n = 0
 ·subst hz; exact ⟨[48],rfl,by decide⟩
 ·have hz' : (n == 0) = false := by simpa using hz
  have h20 : (10 : Int) ^ 20 = 100000000000000000000 := by decide
  obtain ⟨t,e,ht⟩ := spec_l01Dec_p0_ok n 20 n [] h.1 (by omega) (by omega) h.1 (by simp)
  simp only [hz',Bool.false_eq_true,if_false]
  exact ⟨t,e,by simpa using ht⟩
theorem up_app : ∀ (a b : List UInt8) (n m : Nat),Lib.parseUint10 n a = .ok m → Lib.parseUint10 n (a ++ b) = Lib.parseUint10 m b
 | [],b,n,m,h => by
   simp only [Lib.parseUint10,Lib.NumEnd.ok.injEq] at h
   rw [h]; rfl
 | c :: r,b,n,m,h => by
   simp only [Lib.parseUint10] at h
   rw [List.cons_append,Lib.parseUint10]
   split at h
   ·rename_i h1
    split at h
    ·cases h
    ·rename_i h2
     split at h
     ·cases h
     ·rename_i h3
      rw [if_pos h1,if_neg h2,if_neg h3]
      exact up_app r b _ m h
   ·cases h
theorem up_dec (u : Nat) (hu : u < 10 ^ 18) : Lib.parseUint10 0 (Lib.decDigits u) = .ok u := by
 have e18 : (10 : Nat) ^ 18 = 1000000000000000000 := by decide
 induction u using Nat.strongRecOn with
 | _ u ih =>
   rw [Lib.decDigits]
   split
   ·rename_i h
    simp only [Lib.parseUint10]
    rw [dig_toNat h,if_pos (by omega),if_neg (by omega),if_neg (by omega)]
    congr 1; omega
   ·rename_i h
    rw [up_app _ _ 0 (u / 10) (ih (u / 10) (by omega) (by omega))]
    simp only [Lib.parseUint10]
    rw [dig_toNat (by omega),if_pos (by omega),if_neg (by omega),if_neg (by omega)]
    congr 1; omega
theorem dec_ne (u : Nat) : Lib.decDigits u ≠ [] := by
 rw [Lib.decDigits]; split <;> simp
theorem itoa_neg (u : Nat) (h : 0 < u) : Lib.itoa (-(u : Int)) = 45 :: Lib.decDigits u := by
 unfold Lib.itoa; rw [if_pos (by omega)]; simp
theorem readDecP_itoa (n : Int) (h : -1000000000000 ≤ n ∧ n ≤ 1000000000000) : readDecP (Lib.itoa n) = (n,true) := by
 have e18 : (10 : Nat) ^ 18 = 1000000000000000000 := by decide
 have e13 : (10 : Nat) ^ (13 + 1) = 100000000000000 := by decide
 by_cases hn : n < 0
 ·obtain ⟨u,rfl,hu0,hu⟩ : ∃ u : Nat,n = -(u : Int) ∧ 0 < u ∧ u ≤ 1000000000000 := ⟨n.natAbs,by omega,by omega,by omega⟩
  have hl := decDigits_len 13 u (by omega)
  unfold readDecP
  rw [itoa_neg u hu0]
  have ht : Lib.trimPrefix (45 :: Lib.decDigits u) [45] = Lib.decDigits u := by simp [Lib.trimPrefix,Lib.hasPrefix,List.isPrefixOf]
  have hp : Lib.parseIntB 64 (45 :: Lib.decDigits u) = .ok (-(u : Int)) := by
   have hm : Lib.parseMag (Lib.decDigits u) = .ok u := by rw [Lib.parseMag,if_neg (dec_ne u),up_dec u (by omega)]
   rw [Lib.parseIntB_64,Lib.atoiAll]
   simp only [show (45 : UInt8).toNat = 45 from rfl,or_true,if_true,hm]
   rw [if_neg (by simp),if_neg (by simp; omega)]
  rw [ht,if_neg (by omega),hp]
  simp only [itoa_neg u hu0,if_true]
 ·obtain ⟨u,rfl,hu⟩ : ∃ u : Nat,n = (u : Int) ∧ u ≤ 1000000000000 := ⟨n.toNat,by omega,by omega⟩
  have hl := decDigits_len 13 u (by omega)
  unfold readDecP
  rw [itoa_pos u]
  cases hd : Lib.decDigits u with
  | nil => exact absurd hd (dec_ne u)
  | cons c r =>
    have hc := decDigits_dig u c (by rw [hd]; simp)
    have h45 : c ≠ 45 := fun e => by subst e; simp at hc
    have ht : Lib.trimPrefix (c :: r) [45] = c :: r := by simp [Lib.trimPrefix,Lib.hasPrefix,List.isPrefixOf,Ne.symm h45]
    have hp : Lib.parseIntB 64 (c :: r) = .ok (u : Int) := by
     have hm : Lib.parseMag (c :: r) = .ok u := by rw [← hd,Lib.parseMag,if_neg (dec_ne u),up_dec u (by omega)]
     rw [Lib.parseIntB_64,Lib.atoiAll]
     have h1 : ¬ c.toNat = 43 := by omega
     have h2 : ¬ c.toNat = 45 := by omega
     simp only [h1,h2,or_self,if_false,hm,not_false_eq_true,true_and,false_and]
     rw [if_neg (by omega)]
    rw [ht,← hd,if_neg (by omega),hd,hp]
    simp only [itoa_pos u,hd,if_true]
theorem itoa_len (n : Int) (h : -1000000000000 ≤ n ∧ n ≤ 1000000000000) : 1 ≤ (Lib.itoa n).length ∧ (Lib.itoa n).length ≤ 15 := by
 have e13 : (10 : Nat) ^ (13 + 1) = 100000000000000 := by decide
 unfold Lib.itoa
 split
 ·have := decDigits_len 13 n.natAbs (by omega)
  simp; omega
 ·have := decDigits_len 13 n.toNat (by omega)
  omega
theorem itoa_ne (n : Int) : Lib.itoa n ≠ [45] := by
 unfold Lib.itoa
 split
 ·have := dec_ne n.natAbs
  intro e; simp at e; exact this e
 ·intro e
  have := decDigits_dig n.toNat 45 (by rw [e]; simp)
  simp at this
theorem itoa_mem (n : Int) (c : UInt8) (hc : c ∈ Lib.itoa n) : c = 45 ∨ 48 ≤ c.toNat ∧ c.toNat ≤ 57 := by
 unfold Lib.itoa at hc
 split at hc
 ·rcases List.mem_cons.1 hc with h | h
  ·exact .inl h
  ·exact .inr (decDigits_dig _ c h)
 ·exact .inr (decDigits_dig _ c hc)
theorem itoa_no (n : Int) {c : UInt8} (h : c ≠ 45) (h' : c.toNat < 48 ∨ 57 < c.toNat) : c ∉ Lib.itoa n := fun e => by
 rcases itoa_mem n c e with h1 | h1
 ·exact h h1
 ·omega
theorem join_cons2 (x y : List UInt8) (r : List (List UInt8)) (c : UInt8) : Lib.join (x :: y :: r) [c] = x ++ c :: Lib.join (y :: r) [c] := by
 rw [Lib.join_cons,Lib.join_cons]
 simp [Lib.joinTail]
theorem split_join {c : UInt8} : ∀ (x : List UInt8) (r : List (List UInt8)),(∀ y,y ∈ x :: r → c ∉ y) →
 Lib.splitK [c] 0 (Lib.count (Lib.join (x :: r) [c]) [c]) (Lib.join (x :: r) [c]) = x :: r
 | x,[],h => by rw [Lib.join_one]; exact split1_last (h x (by simp))
 | x,y :: r,h => by
   rw [join_cons2,split1_cons _ (h x (by simp)),split_join y r fun z hz => h z (List.mem_cons_of_mem _ hz)]
theorem lens_bd {m : Nat} : ∀ (l : List (List UInt8)),(∀ x,x ∈ l → x.length ≤ m) → Lib.lens l ≤ m * l.length
 | [],_ => by simp [Lib.lens]
 | x :: r,h => by
   have h1 := lens_bd r fun y hy => h y (List.mem_cons_of_mem _ hy)
   have h2 := h x (by simp)
   have e : Lib.lens (x :: r) = x.length + Lib.lens r := by simp [Lib.lens]
   rw [e,List.length_cons,Nat.mul_succ]; omega
theorem join_len {m : Nat} {c : UInt8} (l : List (List UInt8)) (h : ∀ x,x ∈ l → x.length ≤ m) : (Lib.join l [c]).length ≤ (m + 1) * l.length := by
 cases l with
 | nil => simp [Lib.join_nil]
 | cons x r =>
   have h1 := lens_bd (x :: r) h
   rw [Lib.join_length,Nat.add_mul,List.length_singleton,List.length_cons] at *
   omega
def listP (l : List Int) : List UInt8 := Lib.join (l.map Lib.itoa) [44]
theorem listP_len (l : List Int) (hl : l.length ≤ 64) (hx : ∀ x,x ∈ l → -1000000000000 ≤ x ∧ x ≤ 1000000000000) : (listP l).length ≤ 1024 := by
 have h := join_len (m := 15) (c := 44) (l.map Lib.itoa) fun x hx' => by
  obtain ⟨n,hn,rfl⟩ := List.mem_map.1 hx'
  exact (itoa_len n (hx n hn)).2
 rw [List.length_map] at h
 have : (listP l).length ≤ 16 * l.length := h
 omega
theorem impl_ReadDecimal_ok (n : Int) (h : -1000000000000 ≤ n ∧ n ≤ 1000000000000) : impl_ReadDecimal (Lib.itoa n) = some (n,true) := by
 rw [impl_ReadDecimal_eq,readDecP_itoa n h]
theorem impl_ListText_p0_ok (l : List Int) (hl : l.length ≤ 64) (hx : ∀ x,x ∈ l → -1000000000000 ≤ x ∧ x ≤ 1000000000000) : ∀ (k i : Nat),i + k = l.length → impl_ListText_p0 l l.length i ((l.take i).map Lib.itoa) = some (listP l)
 | 0,i,hk => by
   rw [impl_ListText_p0_eq]
   have : ¬ (i : Int) < (l.length : Int) := by omega
   have hb := listP_len l hl hx
   have e : (Lib.join (l.map Lib.itoa) [44]).length ≤ 140737488355328 := by
    have : (Lib.join (l.map Lib.itoa) [44]).length ≤ 1024 := hb
    omega
   rw [List.take_length,List.take_of_length_le (by omega : l.length ≤ i)]
   simp only [this,decide_false,Bool.false_eq_true,if_false,strings_Join_eq]
   have e2 : (l.map Lib.itoa).length ≤ 140737488355328 := by rw [List.length_map]; omega
   simp only [e2,e,decide_true,Bool.and_self,if_true,Option.bind_some]
   rfl
 | k + 1,i,hk => by
   have hi : i < l.length := by omega
   have hlt : (i : Int) < (l.length : Int) := by omega
   have hi0 : (0 : Int) ≤ (i : Int) := by omega
   have hb := hx l[i] (List.getElem_mem hi)
   have hr : inR l[i] (-1000000000000) 1000000000000 = true := inR_iff'.2 hb
   have hlim : ((l.take i).map Lib.itoa).length + 1 < lim := by rw [lim_eq,List.length_map,List.length_take]; omega
   rw [impl_ListText_p0_eq]
   simp only [hlt,decide_true,if_true,hi0,Int.toNat_natCast,getElem?_lt hi,Option.bind_some,impl_within_ok,hr,Bool.not_true,Bool.false_eq_true,if_false,impl_Decimal_ok l[i] (by omega),hlim,wsucc (show i < 4611686018427387904 by omega)]
   have := impl_ListText_p0_ok l hl hx k (i + 1) (by omega)
   rw [List.take_length]
   rw [show (l.take (i + 1)).map Lib.itoa = (l.take i).map Lib.itoa ++ [Lib.itoa l[i]] by rw [List.take_add_one,getElem?_lt hi,List.map_append]; rfl] at this
   exact this
theorem impl_ListText_ok (l : List Int) (h0 : l ≠ []) (hl : l.length ≤ 64) (hx : ∀ x,x ∈ l → -1000000000000 ≤ x ∧ x ≤ 1000000000000) : impl_ListText l = some (listP l) := by
 rw [impl_ListText_eq,impl_few_eq]
 have h1 : (l.length : Int) ≤ 64 := by omega
 have h2 : ((l.length : Int) == 0) = false := by
  rw [beq_eq_false_iff_ne]
  intro e
  exact h0 (List.length_eq_zero_iff.1 (by omega))
 simp only [h1,decide_true,Option.bind_some,Bool.not_true,Bool.false_eq_true,if_false,h2]
 exact impl_ListText_p0_ok l hl hx l.length 0 (by omega)
theorem impl_ReadList_p0_ok (l : List Int) (hl : l.length ≤ 64) (hx : ∀ x,x ∈ l → -1000000000000 ≤ x ∧ x ≤ 1000000000000) : ∀ (k i : Nat),i + k = l.length → impl_ReadList_p0 (l.map Lib.itoa) l.length i (l.take i) = some (l,true)
 | 0,i,hk => by
   rw [impl_ReadList_p0_eq]
   have : ¬ (i : Int) < (l.length : Int) := by omega
   simp only [this,decide_false,Bool.false_eq_true,if_false,List.take_length,List.take_of_length_le (by omega : l.length ≤ i)]
 | k + 1,i,hk => by
   have hi : i < l.length := by omega
   have hlt : (i : Int) < (l.length : Int) := by omega
   have hi0 : (0 : Int) ≤ (i : Int) := by omega
   have hb := hx l[i] (List.getElem_mem hi)
   have hr : inR l[i] (-1000000000000) 1000000000000 = true := inR_iff'.2 hb
   have hlim : (l.take i).length + 1 < lim := by rw [lim_eq,List.length_take]; omega
   have hg : (l.map Lib.itoa)[i]? = some (Lib.itoa l[i]) := by rw [List.getElem?_map,getElem?_lt hi]; rfl
   have h64 : (((l.take i).length : Int) == 64) = false := by rw [beq_eq_false_iff_ne,List.length_take]; omega
   rw [impl_ReadList_p0_eq]
   simp only [hlt,decide_true,if_true,hi0,Int.toNat_natCast,hg,Option.bind_some,impl_ReadDecimal_ok l[i] hb,impl_within_ok,hr,Bool.not_true,Bool.false_eq_true,if_false,h64,hlim,wsucc (show i < 4611686018427387904 by omega)]
   have := impl_ReadList_p0_ok l hl hx k (i + 1) (by omega)
   rw [List.take_length]
   rw [List.take_add_one,getElem?_lt hi] at this
   simpa using this
theorem impl_ReadList_ok (l : List Int) (h0 : l ≠ []) (hl : l.length ≤ 64) (hx : ∀ x,x ∈ l → -1000000000000 ≤ x ∧ x ≤ 1000000000000) : impl_ReadList (listP l) = some (l,true) := by
 have hb := listP_len l hl hx
 have hs : Lib.splitK [44] 0 (Lib.count (listP l) [44]) (listP l) = l.map Lib.itoa := by
  cases l with
  | nil => exact absurd rfl h0
  | cons a r =>
    unfold listP
    rw [List.map_cons]
    exact split_join _ _ fun y hy => by
     have hy' : y ∈ (a :: r).map Lib.itoa := hy
     obtain ⟨n,hn,rfl⟩ := List.mem_map.1 hy'
     exact itoa_no n (by decide) (by decide)
 have hne : (listP l == [45]) = false := by
  rw [beq_eq_false_iff_ne]
  intro e
  cases l with
  | nil => exact absurd rfl h0
  | cons a r =>
    unfold listP at e
    rw [List.map_cons,Lib.join_cons] at e
    have h1 := (itoa_len a (hx a (by simp))).1
    cases hi : Lib.itoa a with
    | nil => rw [hi] at h1; simp at h1
    | cons c t =>
      rw [hi,List.cons_append] at e
      injection e with e1 e2
      have e3 := (List.append_eq_nil_iff.1 e2).1
      exact itoa_ne a (by rw [hi,e1,e3])
 rw [impl_ReadList_eq]
 simp only [hne,Bool.false_eq_true,if_false,strings_Split_eq]
 have h1 : (listP l).length < 4294967281 := by omega
 simp only [h1,List.length_singleton,Nat.le_refl,decide_true,Bool.and_self,if_true,Option.bind_some,hs,List.length_map]
 exact impl_ReadList_p0_ok l hl hx l.length 0 (by omega)
theorem join_no {c d : UInt8} (hcd : c ≠ d) : ∀ (x : List UInt8) (r : List (List UInt8)),(∀ y,y ∈ x :: r → c ∉ y) → c ∉ Lib.join (x :: r) [d]
 | x,[],h => by rw [Lib.join_one]; exact h x (by simp)
 | x,y :: r,h => by
   rw [join_cons2]
   intro e
   rcases List.mem_append.1 e with e | e
   ·exact h x (by simp) e
   ·rcases List.mem_cons.1 e with e | e
    ·exact hcd e
    ·exact join_no hcd y r (fun z hz => h z (List.mem_cons_of_mem _ hz)) e
theorem listP_no {l : List Int} {c : UInt8} (h0 : l ≠ []) (h1 : c ≠ 44) (h2 : c ≠ 45) (h3 : c.toNat < 48 ∨ 57 < c.toNat) : c ∉ listP l := by
 cases l with
 | nil => exact absurd rfl h0
 | cons a r =>
   unfold listP
   rw [List.map_cons]
   exact join_no h1 _ _ fun y hy => by
    have hy' : y ∈ (a :: r).map Lib.itoa := hy
    obtain ⟨n,hn,rfl⟩ := List.mem_map.1 hy'
    exact itoa_no n h2 h3
theorem listP_ne {l : List Int} (h0 : l ≠ []) : listP l ≠ [] := by
 cases l with
 | nil => exact absurd rfl h0
 | cons a r =>
   unfold listP
   rw [List.map_cons,Lib.join_cons]
   intro e
   have := (List.append_eq_nil_iff.1 e).1
   unfold Lib.itoa at this
   split at this
   ·cases this
   ·exact dec_ne _ this
theorem impl_SplitWords_3 (a b c : List UInt8) (ha : a ≠ []) (hb : b ≠ []) (hc : c ≠ []) (ha' : (32 : UInt8) ∉ a) (hb' : (32 : UInt8) ∉ b) (hc' : (32 : UInt8) ∉ c) (hl : a.length + b.length + c.length < 1000000) :
 impl_SplitWords (a ++ 32 :: (b ++ 32 :: c)) = some [a,b,c] := by
 have hs : Lib.splitK [32] 0 (Lib.count (a ++ 32 :: (b ++ 32 :: c)) [32]) (a ++ 32 :: (b ++ 32 :: c)) = [a,b,c] := by
  rw [split1_cons _ ha',split1_cons _ hb',split1_last hc']
 have hlen : (a ++ 32 :: (b ++ 32 :: c)).length < 4294967281 := by
  simp only [List.length_append,List.length_cons]; omega
 have h1 : (1 : Nat) ≤ ([32] : List UInt8).length := by decide
 have w1 : IntKind.i64.wrap (0 + 1) = 1 := by decide
 have w2 : IntKind.i64.wrap (1 + 1) = 2 := by decide
 have w3 : IntKind.i64.wrap (2 + 1) = 3 := by decide
 have na : (a == []) = false := by simpa using ha
 have nb : (b == []) = false := by simpa using hb
 have nc : (c == []) = false := by simpa using hc
 have l0 : 0 + 1 < lim := by rw [lim_eq]; omega
 have l1 : 1 + 1 < lim := by rw [lim_eq]; omega
 have l2 : 2 + 1 < lim := by rw [lim_eq]; omega
 have e3 : impl_SplitWords_p0 [a,b,c] 3 3 [a,b,c] = some [a,b,c] := by
  rw [impl_SplitWords_p0_eq]
  rfl
 have e2 : impl_SplitWords_p0 [a,b,c] 3 2 [a,b] = some [a,b,c] := by
  rw [impl_SplitWords_p0_eq]
  have g : ([a,b,c] : List (List UInt8))[(2 : Int).toNat]? = some c := rfl
  have c1 : (0 : Int) ≤ 2 := by decide
  have c2 : (2 : Int) < 3 := by decide
  have c3 : ([a,b] : List (List UInt8)).length + 1 < lim := l2
  simp only [c2,c1,decide_true,if_true,g,Option.bind_some,nc,Bool.not_false,c3,w3]
  exact e3
 have e1 : impl_SplitWords_p0 [a,b,c] 3 1 [a] = some [a,b,c] := by
  rw [impl_SplitWords_p0_eq]
  have g : ([a,b,c] : List (List UInt8))[(1 : Int).toNat]? = some b := rfl
  have c1 : (0 : Int) ≤ 1 := by decide
  have c2 : (1 : Int) < 3 := by decide
  have c3 : ([a] : List (List UInt8)).length + 1 < lim := l1
  simp only [c2,c1,decide_true,if_true,g,Option.bind_some,nb,Bool.not_false,c3,w2]
  exact e2
 have e0 : impl_SplitWords_p0 [a,b,c] 3 0 [] = some [a,b,c] := by
  rw [impl_SplitWords_p0_eq]
  have g : ([a,b,c] : List (List UInt8))[(0 : Int).toNat]? = some a := rfl
  have c1 : (0 : Int) ≤ 0 := by decide
  have c2 : (0 : Int) < 3 := by decide
  have c3 : ([] : List (List UInt8)).length + 1 < lim := l0
  simp only [c2,c1,decide_true,if_true,g,Option.bind_some,na,Bool.not_false,c3,w1]
  exact e1
 rw [impl_SplitWords_eq,strings_Split_eq]
 simp only [hlen,decide_true,h1,Bool.and_self,if_true,hs,Option.bind_some]
 exact e0
theorem isName_mem {s : List UInt8} (h : isName s = true) : (∀ c,c ∈ s → small c = true ∨ digit c = true) ∧ s.length ≤ 10 := by
 cases s with
 | nil => simp [isName] at h
 | cons c r =>
   simp only [isName,Bool.and_eq_true,List.all_eq_true,Bool.or_eq_true,decide_eq_true_eq] at h
   exact ⟨fun x hx => by
    rcases List.mem_cons.1 hx with rfl | hx
    ·exact .inl h.1.1
    ·exact h.1.2 x hx,h.2⟩
theorem isName_no {s : List UInt8} (h : isName s = true) {c : UInt8} (hc : c.toNat < 48) : c ∉ s := fun e => by
 rcases (isName_mem h).1 c e with h1 | h1
 ·simp [small] at h1; omega
 ·simp [digit] at h1; omega
theorem impl_named_ok (id : List UInt8) (l : List Int) (hid : id.length ≤ 1000000) (h0 : l ≠ []) (hl : l.length ≤ 64) (hx : ∀ x,x ∈ l → -1000000000000 ≤ x ∧ x ≤ 1000000000000) :
 impl_named id l = some (id ++ 32 :: listP l) := by
 have hb := listP_len l hl hx
 rw [impl_named_eq,impl_ListText_ok l h0 hl hx]
 have e1 : id.length + 1 ≤ strMax := by rw [strMax_eq]; omega
 have e2 : id.length + 1 + (listP l).length ≤ strMax := by rw [strMax_eq]; omega
 simp only [List.length_append,List.length_singleton,e1,decide_true,if_true,Option.bind_some,e2,List.append_assoc]
 rfl
theorem text_ok {s : T_l00Src.ty} {c : Int} (hs : SrcOk s c) (hc : c ≤ 1000000000000000000) (l : List (List UInt8)) (h0 : 0 < l.length) (hn : l.length ≤ 65536) :
 ∃ (u : List UInt8) (s' : T_l00Src.ty),spec_l00Src_text s l = some (u,s') ∧ SrcOk s' (c + 2) ∧ u ∈ l := by
 obtain ⟨u,s1,e1,k1,b1,b2⟩ := pick_ok hs hc (l.length : Int) (by omega)
 have hi : u.toNat < l.length := by omega
 rw [spec_l00Src_text_eq]
 simp only [e1,Option.bind_some,src_eta,b1,decide_true,if_true,List.getElem?_eq_getElem hi]
 exact ⟨_,s1,rfl,k1,List.getElem_mem hi⟩
def rentalOk (x : T_Paper.ty) : Bool := isName x.1 && (isName x.2.1 && (inR x.2.2.1 0 100000 && (inR x.2.2.2.1 1 120 && inR x.2.2.2.2.1 0 10000000)))
def rentalsOk (xs : List T_Paper.ty) : Bool := sortedChk rentalOk (fun x => x.1) none xs && decide ((xs.length : Int) ≤ 12)
theorem spec_l21One_ok (x : T_Paper.ty) (h0 : x.1.length < 4611686018427387904) (h1 : x.2.1.length < 4611686018427387904) : spec_l21One x = some (rentalOk x) := by
 rw [spec_l21One_eq,rentalOk]
 simp only [spec_l01Name_ok x.1 h0,spec_l01Name_ok x.2.1 h1,spec_l21Day_eq,spec_l21Money_eq,spec_l00In_ok,Option.bind_some]
 cases isName x.1 <;> cases isName x.2.1 <;> cases inR x.2.2.1 0 100000 <;> cases inR x.2.2.2.1 1 120 <;> rfl
theorem impl_Rental_valid_ok (x : T_Paper.ty) (h0 : x.1.length < 4611686018427387904) (h1 : x.2.1.length < 4611686018427387904) : impl_Rental_valid x = some (rentalOk x) := by
 rw [impl_Rental_valid_eq,rentalOk]
 simp only [impl_IsName_ok x.1 h0,impl_IsName_ok x.2.1 h1,impl_isRentDay_eq,impl_isMonths_eq,impl_isMoney_eq,impl_within_ok,Option.bind_some]
 cases isName x.1 <;> cases isName x.2.1 <;> cases inR x.2.2.1 0 100000 <;> cases inR x.2.2.2.1 1 120 <;> rfl
theorem impl_ValidRentals_ok (xs : List T_Paper.ty) (hs : xs.length ≤ 1048576) (hx : ∀ x,x ∈ xs → x.1.length ≤ 1048576 ∧ x.2.1.length ≤ 1048576) : impl_ValidRentals xs = some (rentalsOk xs) := by
 rw [impl_ValidRentals_eq]
 exact sortedLoopI xs impl_Rental_valid rentalOk (fun x => x.1) (fun i => impl_ValidRentals_p0 xs xs xs.length i) _ _ (show ((impl_few (xs.length : Int) 12).bind fun x4 => some x4) = some (decide ((xs.length : Int) ≤ 12)) by rw [impl_few_eq]; rfl) (fun i => impl_ValidRentals_p0_eq xs xs xs.length i) hs (fun x hm => impl_Rental_valid_ok x (Nat.lt_of_le_of_lt (hx x hm).1 (by decide)) (Nat.lt_of_le_of_lt (hx x hm).2 (by decide))) xs.length 0 (by omega)
def bK (x : T_Block.ty) : List UInt8 := x.1
def bN (x : T_Block.ty) : List UInt8 := x.2.1
def bX (x : T_Block.ty) : List UInt8 := x.2.2.1
def kinds : List (List UInt8) := [[114,101,110,116,97,108],[110,111,116,101],[102,97,99,101]]
theorem word_loop : ∀ (k : Nat) (s : T_l00Src.ty) (c : Int) (r : List Int),SrcOk s c → c + 10 * (k : Int) ≤ 1000000000000000 → r.length + k ≤ 100 →
 ∃ (t : List UInt8) (s' : T_l00Src.ty),spec_l00Src_word_p0 k s.1 s.2.1 s.2.2.1 r = some (t,s') ∧ SrcOk s' (c + 10 * (k : Int)) ∧ t.length ≤ 100
 | 0,s,c,r,hs,hc,hl => by
   rw [spec_l00Src_word_p0_eq,if_neg (by simp),List.take_length]
   exact ⟨_,_,rfl,hs.up (by omega),by simp; omega⟩
 | k + 1,s,c,r,hs,hc,hl => by
   obtain ⟨u,s1,e1,k1,b1,b2⟩ := next_ok hs (by omega)
   have hlim : r.length + 1 < lim := by unfold lim; omega
   have hw : IntKind.i64.wrap (((k + 1 : Nat) : Int) - 1) = ((k : Nat) : Int) := by rw [w64 (by omega) (by omega)]; omega
   rw [spec_l00Src_word_p0_eq,if_pos (by simp)]
   simp only [src_eta,e1,Option.bind_some,hlim,decide_true,if_true,List.take_length,hw]
   obtain ⟨t,s',q1,q2,q3⟩ := word_loop k s1 _ (r ++ [IntKind.u8.wrap u]) k1 (by omega) (by simp; omega)
   exact ⟨t,s',q1,q2.up (by omega),q3⟩
theorem word_ok {s : T_l00Src.ty} {c : Int} (hs : SrcOk s c) (hc : c ≤ 100000000000000) : ∃ (t : List UInt8) (s' : T_l00Src.ty),spec_l00Src_word s 9 = some (t,s') ∧ SrcOk s' (c + 200) ∧ t.length ≤ 100 := by
 obtain ⟨u,s1,e1,k1,b1,b2⟩ := pick_ok hs (by omega) 9 (by omega)
 obtain ⟨t,s',q1,q2,q3⟩ := word_loop u.toNat s1 _ [] k1 (by omega) (by simp; omega)
 rw [Int.toNat_of_nonneg b1] at q1
 rw [spec_l00Src_word_eq]
 simp only [e1,Option.bind_some]
 exact ⟨t,s',q1,q2.up (by omega),q3⟩
theorem list_step {v : List Int} {i : Nat} {n : Int} (hv : v[i]? = some n) (hn : 0 ≤ n ∧ n ≤ 1000000000) (hl : v.length ≤ 3) {t : List UInt8} (ht : t.length ≤ 100 * i) (hi : i < v.length) :
 ∃ t',t'.length ≤ 100 * (i + 1) ∧ spec_l01List_p0 v t i = spec_l01List_p0 v t' ((i + 1 : Nat) : Int) := by
 obtain ⟨d,hd,hdl⟩ := spec_l01Dec_tot n hn
 have hlt : (i : Int) < (v.length : Int) := by omega
 have p1 : ∀ u : List UInt8,u.length ≤ 100 * i + 1 → ∃ t',t'.length ≤ 100 * (i + 1) ∧ spec_l01List_p1 v u i = spec_l01List_p0 v t' ((i + 1 : Nat) : Int) := fun u hu => by
  refine ⟨u ++ d,by simp; omega,?_⟩
  have hst : u.length + d.length ≤ strMax := by unfold strMax; omega
  rw [spec_l01List_p1_eq]
  simp only [Int.natCast_nonneg,decide_true,if_true,Int.toNat_natCast,hv,Option.bind_some,hd,hst,wsucc (show i < 4611686018427387904 by omega)]
 rw [spec_l01List_p0_eq,if_pos (decide_eq_true hlt)]
 by_cases h0 : (i : Int) > 0
 ·have hst : t.length + ([44] : List UInt8).length ≤ strMax := by simp [strMax]; omega
  rw [if_pos (decide_eq_true h0)]
  split
  ·exact p1 _ (by simp; omega)
  ·rename_i hne; exact absurd (decide_eq_true hst) hne
 ·rw [if_neg (by simpa using h0)]
  exact p1 t (by omega)
theorem list3_ok {a b c : Int} (ha : 0 ≤ a ∧ a ≤ 1000000000) (hb : 0 ≤ b ∧ b ≤ 1000000000) (hc : 0 ≤ c ∧ c ≤ 1000000000) : ∃ t,spec_l01List [a,b,c] = some t ∧ t.length ≤ 300 := by
 obtain ⟨t1,l1,e1⟩ := list_step (v := [a,b,c]) (i := 0) rfl ha (by simp) (t := []) (by simp) (by simp)
 obtain ⟨t2,l2,e2⟩ := list_step (v := [a,b,c]) (i := 1) rfl hb (by simp) (t := t1) (by omega) (by simp)
 obtain ⟨t3,l3,e3⟩ := list_step (v := [a,b,c]) (i := 2) rfl hc (by simp) (t := t2) (by omega) (by simp)
 refine ⟨t3,?_,by omega⟩
 rw [spec_l01List_eq,if_neg (by simp)]
 refine e1.trans (e2.trans (e3.trans ?_))
 rw [spec_l01List_p0_eq,if_neg (by simp)]
theorem rental_ok {s : T_l00Src.ty} {c : Int} (hs : SrcOk s c) (hc : c ≤ 10000000000000000) (id : List UInt8) (hid : id.length ≤ 100) :
 ∃ (x : T_Paper.ty) (s' : T_l00Src.ty) (t : List UInt8),spec_l21DrawOne s id = some (x,s') ∧ SrcOk s' (c + 8) ∧ spec_l21Text (x.1,x.2.1,x.2.2.1,x.2.2.2.1,x.2.2.2.2.1,()) = some t ∧ t.length ≤ 10000 := by
 obtain ⟨t,s1,q1,k1,m1⟩ := text_ok hs (by omega) [[118,105,111,108,97],[118,105,111,108,105,110],[118,105,111,108,105,110,50]] (by decide) (by decide)
 obtain ⟨u,s2,q2,k2,a0,a1⟩ := pick_ok k1 (by omega) 90 (by omega)
 obtain ⟨v,s3,q3,k3,b0,b1⟩ := pick_ok k2 (by omega) 12 (by omega)
 obtain ⟨w,s4,q4,k4,c0,c1⟩ := pick_ok k3 (by omega) 50 (by omega)
 have ht : t.length ≤ 10 := (by decide : ∀ t,t ∈ ([[118,105,111,108,97],[118,105,111,108,105,110],[118,105,111,108,105,110,50]] : List (List UInt8)) → t.length ≤ 10) t m1
 have w1 : IntKind.i64.wrap (10 * u) = 10 * u := w64 (by omega) (by omega)
 have w2 : IntKind.i64.wrap (1 + v) = 1 + v := w64 (by omega) (by omega)
 have w3 : IntKind.i64.wrap (100 * w) = 100 * w := w64 (by omega) (by omega)
 obtain ⟨l,el,hl⟩ := list3_ok (a := 10 * u) (b := 1 + v) (c := 100 * w) (by omega) (by omega) (by omega)
 refine ⟨(id,t,10 * u,1 + v,100 * w,()),s4,id ++ [32] ++ t ++ [32] ++ l,?_,k4.up (by omega),?_,by simp; omega⟩
 ·rw [spec_l21DrawOne_eq]
  simp only [q1,q2,q3,q4,Option.bind_some,src_eta,w1,w2,w3]
 ·have h1 : id.length + ([32] : List UInt8).length ≤ strMax := by simp [strMax]; omega
  have h2 : (id ++ [32]).length + t.length ≤ strMax := by simp [strMax]; omega
  have h3 : ((id ++ [32]) ++ t).length + ([32] : List UInt8).length ≤ strMax := by simp [strMax]; omega
  have h4 : (((id ++ [32]) ++ t) ++ [32]).length + l.length ≤ strMax := by simp [strMax]; omega
  rw [spec_l21Text_eq]
  simp only [h1,h2,h3,h4,decide_true,if_true,el,Option.bind_some]
  split
  ·split
   ·rfl
   ·rename_i hne; exact absurd (decide_eq_true h3) hne
  ·rename_i hne; exact absurd (decide_eq_true h1) hne
structure Drawn (x : T_Block.ty) : Prop where
 k : bK x ∈ kinds
 n : (bN x).length ≤ 10
 x : (bX x).length ≤ 20000
theorem drawn_p2 {s : T_l00Src.ty} {c : Int} (hs : SrcOk s c) (hc : c ≤ 100000000000000) {k n x : List UInt8} (hk : k ∈ kinds) (hn : n.length ≤ 10) (hx : x.length ≤ 20000) (r0 r1 r2 : List UInt8) :
 ∃ (b : T_Block.ty) (s' : T_l00Src.ty),spec_l29DrawOne_p2 s.1 s.2.1 s.2.2.1 r0 r1 r2 k n x = some (b,s') ∧ SrcOk s' (c + 4) ∧ Drawn b := by
 obtain ⟨o,s1,e1,k1⟩ := one_ok hs (by omega) 24 (by omega)
 obtain ⟨u,s2,e2,k2,b0,b1⟩ := pick_ok k1 (by omega) 3 (by omega)
 have w1 : IntKind.i64.wrap (399 + u) = 399 + u := w64 (by omega) (by omega)
 have h1 : 0 ≤ 399 + u := by omega
 have h2 : (399 + u).toNat < lim := by unfold lim; omega
 rw [spec_l29DrawOne_p2_eq]
 simp only [src_eta,e1,e2,Option.bind_some,w1,h1,h2,Int.le_refl,decide_true,Bool.and_self,if_true]
 cases o
 ·exact ⟨_,_,rfl,k1.up (by omega),hk,hn,hx⟩
 ·exact ⟨_,_,rfl,k2.up (by omega),hk,hn,by show (List.map vu8 (List.replicate (399 + u).toNat (0 : Int))).length ≤ 20000; simp; omega⟩
theorem drawn_ok {s : T_l00Src.ty} {c : Int} (hs : SrcOk s c) (hc : c ≤ 10000000000000) : ∃ (b : T_Block.ty) (s' : T_l00Src.ty),spec_l29DrawOne s = some (b,s') ∧ SrcOk s' (c + 400) ∧ Drawn b := by
 obtain ⟨k,s1,q1,k1,m1⟩ := text_ok hs (by omega) kinds (by decide) (by decide)
 obtain ⟨n,s2,q2,k2,m2⟩ := text_ok k1 (by omega) [[97],[98],[99],[100]] (by decide) (by decide)
 obtain ⟨x,s3,q3,k3,m3⟩ := text_ok k2 (by omega) [[],[120],[97,32,98,32,99],[49,50,32,51,52],[111,97,107,47,52,48]] (by decide) (by decide)
 obtain ⟨o,s4,q4,k4⟩ := one_ok k3 (by omega) 4 (by omega)
 obtain ⟨w,s5,q5,k5,hw⟩ := word_ok k4 (by omega)
 have hn : n.length ≤ 10 := (by decide : ∀ t,t ∈ ([[97],[98],[99],[100]] : List (List UInt8)) → t.length ≤ 10) n m2
 have hx : x.length ≤ 10 := (by decide : ∀ t,t ∈ ([[],[120],[97,32,98,32,99],[49,50,32,51,52],[111,97,107,47,52,48]] : List (List UInt8)) → t.length ≤ 10) x m3
 have p0 : ∀ (s : T_l00Src.ty) (c' : Int) (x : List UInt8),SrcOk s c' → c' ≤ c + 300 → x.length ≤ 200 → ∃ (b : T_Block.ty) (s' : T_l00Src.ty),spec_l29DrawOne_p0 s.1 s.2.1 s.2.2.1 [] [] [] k n x = some (b,s') ∧ SrcOk s' (c + 400) ∧ Drawn b := fun s c' x hs hc' hx => by
  obtain ⟨o,t1,f1,g1⟩ := one_ok hs (by omega) 2 (by omega)
  obtain ⟨r,t2,tx,f2,g2,f3,hl⟩ := rental_ok g1 (by omega) n (by omega)
  obtain ⟨b1,u1,e1,a1,d1⟩ := drawn_p2 g2 (by omega) m1 hn (show tx.length ≤ 20000 by omega) [] [] []
  obtain ⟨b2,u2,e2,a2,d2⟩ := drawn_p2 g1 (by omega) m1 hn (show x.length ≤ 20000 by omega) [] [] []
  obtain ⟨b3,u3,e3,a3,d3⟩ := drawn_p2 hs (by omega) m1 hn (show x.length ≤ 20000 by omega) [] [] []
  rw [spec_l29DrawOne_p0_eq]
  split
  ·simp only [src_eta,f1,Option.bind_some]
   cases o
   ·exact ⟨b2,u2,e2,a2.up (by omega),d2⟩
   ·refine ⟨b1,u1,?_,a1.up (by omega),d1⟩
    simp only [if_true]
    rw [spec_l29DrawOne_p1_eq]
    simp only [src_eta,f2,f3,Option.bind_some]
    exact e1
  ·exact ⟨b3,u3,e3,a3.up (by omega),d3⟩
 rw [kinds] at q1
 have hst : x.length + w.length ≤ strMax := by unfold strMax; omega
 rw [spec_l29DrawOne_eq]
 simp only [q1,q2,q3,q4,q5,Option.bind_some,src_eta,hst,decide_true,if_true]
 cases o
 ·exact p0 s4 _ x k4 (by omega) (by omega)
 ·exact p0 s5 _ (x ++ w) k5 (by omega) (by simp; omega)
theorem cmp_ok : ∀ (x y : List UInt8),(Lib.compareBytes x y < 0 ↔ x < y) ∧ (Lib.compareBytes x y = 0 ↔ x = y)
 | [],[] => by simp [Lib.compareBytes]
 | [],_ :: _ => by simp [Lib.compareBytes]
 | _ :: _,[] => by simp [Lib.compareBytes]
 | a :: x,b :: y => by
   have IH := cmp_ok x y
   rw [Lib.compareBytes,List.cons_lt_cons_iff,List.cons.injEq]
   by_cases c1 : a < b
   ·have hne : a ≠ b := fun e => by subst e; exact absurd c1 (UInt8.lt_irrefl a)
    simp [c1,hne]
   ·by_cases c2 : b < a
    ·have hne : a ≠ b := fun e => by subst e; exact absurd c2 (UInt8.lt_irrefl a)
     simp [c1,c2,hne]
    ·have he : a = b := UInt8.le_antisymm (UInt8.not_lt.1 c2) (UInt8.not_lt.1 c1)
     simp [c1,c2,he,IH.1,IH.2]
def bl (a b : T_Block.ty) : Prop := bK a < bK b ∨ bK a = bK b ∧ bN a < bN b
def sk (a b : T_Block.ty) : Prop := bK a = bK b ∧ bN a = bN b
instance (a b : T_Block.ty) : Decidable (bl a b) := by unfold bl; infer_instance
instance (a b : T_Block.ty) : Decidable (sk a b) := by unfold sk; infer_instance
theorem bl_irrefl {a b : T_Block.ty} (h : bl a b) : ¬ sk a b := fun e => by
 rcases h with h | ⟨_,h⟩
 ·rw [e.1] at h; exact List.lt_irrefl _ h
 ·rw [e.2] at h; exact List.lt_irrefl _ h
theorem bl_trans {a b c : T_Block.ty} (h : bl a b) (h2 : bl b c) : bl a c := by
 rcases h with h | ⟨e,h⟩ <;> rcases h2 with h2 | ⟨e2,h2⟩
 ·exact .inl (List.lt_trans h h2)
 ·exact .inl (e2 ▸ h)
 ·exact .inl (e ▸ h2)
 ·exact .inr ⟨e.trans e2,List.lt_trans h h2⟩
theorem bl_total {a b : T_Block.ty} (h : ¬ bl a b) (h2 : ¬ sk a b) : bl b a := by
 have tri : ∀ x y : List UInt8,¬ x < y → ¬ x = y → y < x := fun x y h1 h2 => by
  rcases List.le_iff_lt_or_eq.1 (List.not_lt.1 h1) with h | h
  ·exact h
  ·exact absurd h.symm h2
 by_cases e : bK a = bK b
 ·exact .inr ⟨e.symm,tri _ _ (fun h3 => h (.inr ⟨e,h3⟩)) fun h3 => h2 ⟨e,h3⟩⟩
 ·exact .inl (tri _ _ (fun h3 => h (.inl h3)) e)
theorem bl_left {a a' b : T_Block.ty} (h : sk a a') : bl a b ↔ bl a' b := by unfold bl; rw [h.1,h.2]
theorem compare_ok (a b : T_Block.ty) : ∃ c : Int,impl_Block_compare a b = some c ∧ (c < 0 ↔ bl a b) ∧ (c = 0 ↔ sk a b) := by
 rw [impl_Block_compare_eq,strings_Compare_eq,strings_Compare_eq]
 simp only [Option.bind_some]
 have h1 := cmp_ok a.1 b.1
 have h2 := cmp_ok a.2.1 b.2.1
 by_cases c : Lib.compareBytes a.1 b.1 = 0
 ·have e : a.1 = b.1 := h1.2.1 c
  have hn : ¬ a.1 < b.1 := fun h => by have := h1.1.2 h; omega
  rw [if_neg (by simpa using c)]
  refine ⟨_,rfl,h2.1.trans ⟨fun h => .inr ⟨e,h⟩,fun h => ?_⟩,h2.2.trans ⟨fun h => ⟨e,h⟩,fun h => h.2⟩⟩
  rcases h with h | h
  ·exact absurd h hn
  ·exact h.2
 ·have hne : ¬ a.1 = b.1 := fun e => c (h1.2.2 e)
  rw [if_pos (by simpa using c)]
  refine ⟨_,rfl,h1.1.trans ⟨fun h => .inl h,fun h => ?_⟩,⟨fun h => absurd h c,fun h => absurd h.1 hne⟩⟩
  rcases h with h | h
  ·exact h
  ·exact absurd h.1 hne
theorem before_ok (a b : T_Block.ty) : spec_l29Before a b = some (decide (bl a b)) := by
 rw [spec_l29Before_eq,Proofs.bytesLess_eq,Proofs.bytesLess_eq]
 by_cases c : a.1 < b.1
 ·have : bl a b := .inl c
  simp [c,this]
 ·by_cases e : (a.1 == b.1) = true
  ·have e' := eq_of_beq e
   have : decide (bl a b) = decide (a.2.1 < b.2.1) := by
    rw [Bool.eq_iff_iff,decide_eq_true_eq,decide_eq_true_eq]
    exact ⟨fun h => h.elim (fun h => absurd h c) fun h => h.2,fun h => .inr ⟨e',h⟩⟩
   rw [this]; simp only [c,e,decide_false,Bool.false_eq_true,if_false,if_true]
  ·have : decide (bl a b) = false := decide_eq_false fun h => h.elim (fun h => c h) fun h => e (beq_iff_eq.2 h.1)
   rw [this]; simp only [c,e,decide_false,Bool.false_eq_true,if_false]
def blockOk (x : T_Block.ty) : Bool := isName (bK x) && (isName (bN x) && (decide ((bX x).length ≤ 400) && !(bX x).contains 10))
structure Blocks (xs : List T_Block.ty) : Prop where
 ok : ∀ x,x ∈ xs → blockOk x = true
 up : xs.Pairwise bl
theorem split10 : ∀ {s : List UInt8},(10 : UInt8) ∈ s → ∃ a b,s = a ++ 10 :: b ∧ (10 : UInt8) ∉ a
 | [],h => by cases h
 | x :: s,h => by
   by_cases e : x = 10
   ·subst e; exact ⟨[],s,rfl,by simp⟩
   ·obtain ⟨a,b,e1,e2⟩ := split10 (s := s) (by rcases List.mem_cons.1 h with h | h
                                               ·exact absurd h.symm e
                                               ·exact h)
    refine ⟨x :: a,b,by rw [e1]; rfl,fun h => ?_⟩
    rcases List.mem_cons.1 h with h | h
    ·exact e h.symm
    ·exact e2 h
theorem contains10 (s : List UInt8) : Lib.contains s [10] = s.contains 10 := by
 unfold Lib.contains
 by_cases h : (10 : UInt8) ∈ s
 ·obtain ⟨a,b,rfl,hn⟩ := split10 h
  rw [index1_at b hn]
  simp
 ·rw [index1_none h]
  simp [h]
theorem nameLen {s : List UInt8} (h : isName s = true) : s.length ≤ 10 := by
 cases s with
 | nil => simp
 | cons c r => simp only [isName,Bool.and_eq_true,decide_eq_true_eq] at h; exact h.2
theorem validBlock_ok {x : T_Block.ty} (h : blockOk x = true) : impl_ValidBlock x = some true := by
 simp only [blockOk,Bool.and_eq_true,decide_eq_true_eq,Bool.not_eq_true'] at h
 obtain ⟨h1,h2,h3,h4⟩ := h
 simp only [bK,bN,bX] at h1 h2 h3 h4
 have l3 : (x.2.2.1.length : Int) ≤ 400 := by omega
 rw [impl_ValidBlock_eq,impl_IsName_ok _ (by have := nameLen h1; omega),impl_IsName_ok _ (by have := nameLen h2; omega),h1,h2,impl_few_eq,strings_Contains_eq]
 simp only [Option.bind_some,if_true,l3,decide_true]
 rw [if_pos (decide_eq_true (by omega)),contains10,h4]
 rfl
theorem one_loop (k n x : List UInt8) (hx : x.length ≤ 1048576) : ∀ (m i : Nat),i + m = x.length → spec_l29One_p0 k n x i = if (x.drop i).contains 10 then some false else spec_l29One_p0 k n x x.length
 | 0,i,hm => by
   have : i = x.length := by omega
   subst this
   rw [List.drop_length]; rfl
 | m + 1,i,hm => by
   have hi : i < x.length := by omega
   have hlt : (i : Int) < (x.length : Int) := by omega
   have IH := one_loop k n x hx m (i + 1) (by omega)
   have hd : x.drop i = x[i] :: x.drop (i + 1) := List.drop_eq_getElem_cons hi
   rw [spec_l29One_p0_eq k n x i]
   simp only [hlt,decide_true,if_true,Int.natCast_nonneg,Int.toNat_natCast,List.getElem?_eq_getElem hi,Option.bind_some,wsucc (show i < 4611686018427387904 by omega),IH,hd]
   by_cases c : x[i] = 10
   ·have e1 : ((x[i].toNat : Int) == 10) = true := by rw [c]; rfl
    rw [if_pos e1,if_pos (by simp [c])]
   ·have e1 : ¬ ((x[i].toNat : Int) == 10) = true := by
     intro e
     have : x[i].toNat = 10 := by have := eq_of_beq e; omega
     exact c (UInt8.toNat_inj.1 this)
    have e2 : (x[i] :: x.drop (i + 1)).contains 10 = (x.drop (i + 1)).contains 10 := by
     rw [List.contains_cons]
     have : (10 == x[i]) = false := by rw [beq_eq_false_iff_ne]; exact fun e => c e.symm
     rw [this,Bool.false_or]
    rw [if_neg e1,e2]
theorem l29One_ok {x : T_Block.ty} (h1 : (bK x).length ≤ 1048576) (h2 : (bN x).length ≤ 1048576) (h3 : (bX x).length ≤ 1048576) : spec_l29One x = some (blockOk x) := by
 simp only [bK,bN,bX] at h1 h2 h3
 have e : blockOk x = (isName x.1 && (isName x.2.1 && (decide (x.2.2.1.length ≤ 400) && !x.2.2.1.contains 10))) := rfl
 have e4 : decide ((x.2.2.1.length : Int) ≤ 400) = decide (x.2.2.1.length ≤ 400) := by
  rw [Bool.eq_iff_iff,decide_eq_true_eq,decide_eq_true_eq]; omega
 have last : spec_l29One_p0 x.1 x.2.1 x.2.2.1 (x.2.2.1.length : Int) = some (isName x.1 && (isName x.2.1 && decide (x.2.2.1.length ≤ 400))) := by
  rw [spec_l29One_p0_eq,if_neg (by simp),spec_l01Name_ok _ (by omega),spec_l01Name_ok _ (by omega)]
  simp only [Option.bind_some,e4]
  generalize isName x.1 = c2
  generalize isName x.2.1 = c3
  cases c2 <;> cases c3 <;> rfl
 rw [spec_l29One_eq]
 refine (one_loop x.1 x.2.1 x.2.2.1 h3 x.2.2.1.length 0 (by omega)).trans ?_
 rw [List.drop_zero,last,e]
 generalize isName x.1 = c2
 generalize isName x.2.1 = c3
 generalize decide (x.2.2.1.length ≤ 400) = c4
 generalize x.2.2.1.contains 10 = c1
 cases c1 <;> cases c2 <;> cases c3 <;> cases c4 <;> rfl
def kAt (xs : List T_Block.ty) (i : Nat) : T_Block.ty := (xs[i]?).getD ([],[],[],())
theorem kAt_get {xs : List T_Block.ty} {i : Nat} (h : i < xs.length) : xs[i]? = some (kAt xs i) := by simp [kAt,List.getElem?_eq_getElem h]
theorem kAt_el {xs : List T_Block.ty} {i : Nat} (h : i < xs.length) : xs[i] = kAt xs i := by simp [kAt,List.getElem?_eq_getElem h]
theorem kAt_mem {xs : List T_Block.ty} {i : Nat} (h : i < xs.length) : kAt xs i ∈ xs := List.mem_of_getElem? (kAt_get h)
theorem Blocks.lt {xs : List T_Block.ty} (h : Blocks xs) {i j : Nat} (hij : i < j) (hj : j < xs.length) : bl (kAt xs i) (kAt xs j) := by
 have := List.pairwise_iff_getElem.1 h.up i j (by omega) hj hij
 rwa [kAt_el (by omega),kAt_el hj] at this
theorem valid_loop {xs : List T_Block.ty} (h : Blocks xs) (h32 : xs.length ≤ 32) : ∀ (n i : Nat),i + n = xs.length → spec_l29Ok_p0 xs i = some true
 | 0,i,hn => by
   have : i = xs.length := by omega
   subst this
   have hl : (xs.length : Int) ≤ 32 := by omega
   rw [spec_l29Ok_p0_eq,if_neg (by simp)]
   simp [hl]
 | n + 1,i,hn => by
   have hi : i < xs.length := by omega
   have hlt : (i : Int) < (xs.length : Int) := by omega
   have IH2 := valid_loop h h32 n (i + 1) (by omega)
   have hok := h.ok _ (kAt_mem hi)
   have hb := hok
   simp only [blockOk,Bool.and_eq_true,decide_eq_true_eq] at hb
   have h29 : spec_l29One (kAt xs i) = some true := by
    rw [l29One_ok (by have := nameLen hb.1; omega) (by have := nameLen hb.2.1; omega) (by have := hb.2.2.1; omega),hok]
   rw [spec_l29Ok_p0_eq xs i]
   simp only [hlt,decide_true,if_true,Int.natCast_nonneg,Int.toNat_natCast,kAt_get hi,Option.bind_some,h29,Bool.not_true,Bool.false_eq_true,if_false,wsucc (show i < 4611686018427387904 by omega),IH2]
   by_cases h0 : (i : Int) > 0
   ·have hw : IntKind.i64.wrap ((i : Int) - 1) = ((i - 1 : Nat) : Int) := by rw [w64 (by omega) (by omega)]; omega
    have hlt2 := h.lt (show i - 1 < i by omega) hi
    simp only [h0,decide_true,if_true,hw,Int.natCast_nonneg,Int.toNat_natCast,kAt_get (show i - 1 < xs.length by omega),Option.bind_some,before_ok,hlt2,Bool.not_true,Bool.false_eq_true,if_false]
   ·simp only [h0,decide_false,Bool.false_eq_true,if_false]
theorem Blocks.valid {xs : List T_Block.ty} (h : Blocks xs) (h32 : xs.length ≤ 32) : True ∧ spec_l29Ok xs = some true := by
 rw [spec_l29Ok_eq]
 exact ⟨trivial,valid_loop h h32 xs.length 0 (by omega)⟩
def putR : List T_Block.ty → T_Block.ty → List T_Block.ty
 | [],b => [b]
 | x :: xs,b => if bl x b then x :: putR xs b else if sk x b then b :: xs else b :: x :: xs
theorem kAt_zero (x : T_Block.ty) (xs : List T_Block.ty) : kAt (x :: xs) 0 = x := rfl
theorem kAt_succ (x : T_Block.ty) (xs : List T_Block.ty) (i : Nat) : kAt (x :: xs) (i + 1) = kAt xs i := by simp [kAt]
theorem putR_at (b : T_Block.ty) : ∀ (xs : List T_Block.ty) (p : Nat),p ≤ xs.length → (∀ j,j < p → bl (kAt xs j) b) → (∀ j,p ≤ j → j < xs.length → ¬ bl (kAt xs j) b) →
 putR xs b = xs.take p ++ [b] ++ xs.drop (if p < xs.length ∧ sk (kAt xs p) b then p + 1 else p)
 | [],p,hp,_,_ => by
   have : p = 0 := by simpa using hp
   subst this; simp [putR]
 | x :: xs,0,hp,h1,h2 => by
   have := h2 0 (Nat.le_refl _) (by simp)
   rw [kAt_zero] at this
   rw [putR,if_neg this,kAt_zero]
   by_cases c : sk x b
   ·rw [if_pos c,if_pos ⟨by simp,c⟩]; simp
   ·rw [if_neg c,if_neg (fun e => c e.2)]; simp
 | x :: xs,p + 1,hp,h1,h2 => by
   have hx := h1 0 (by omega)
   rw [kAt_zero] at hx
   have IH := putR_at b xs p (by simpa using hp) (fun j hj => by have := h1 (j + 1) (by omega); rwa [kAt_succ] at this) (fun j hj hj2 => by have := h2 (j + 1) (by omega) (by simpa using hj2); rwa [kAt_succ] at this)
   rw [putR,if_pos hx,IH,kAt_succ]
   by_cases c : p < xs.length ∧ sk (kAt xs p) b
   ·rw [if_pos c,if_pos ⟨by simpa using c.1,c.2⟩]; simp
   ·rw [if_neg c,if_neg (fun e => c ⟨by simpa using e.1,e.2⟩)]; simp
theorem putR_sub {b y : T_Block.ty} : ∀ {xs : List T_Block.ty},y ∈ putR xs b → y = b ∨ y ∈ xs
 | [],h => .inl (by simpa [putR] using h)
 | x :: xs,h => by
   rw [putR] at h
   split at h
   ·rcases List.mem_cons.1 h with h | h
    ·exact .inr (by rw [h]; simp)
    ·exact (putR_sub h).imp id fun h => List.mem_cons_of_mem _ h
   ·split at h
    ·rcases List.mem_cons.1 h with h | h
     ·exact .inl h
     ·exact .inr (List.mem_cons_of_mem _ h)
    ·rcases List.mem_cons.1 h with h | h
     ·exact .inl h
     ·exact .inr h
theorem putR_len (b : T_Block.ty) : ∀ (xs : List T_Block.ty),(putR xs b).length ≤ xs.length + 1
 | [] => by simp [putR]
 | x :: xs => by
   have := putR_len b xs
   rw [putR]
   split
   ·simp only [List.length_cons]; omega
   ·split <;> simp
theorem putR_up {b : T_Block.ty} : ∀ {xs : List T_Block.ty},xs.Pairwise bl → (putR xs b).Pairwise bl
 | [],_ => by simp [putR]
 | x :: xs,h => by
   obtain ⟨h1,h2⟩ := List.pairwise_cons.1 h
   rw [putR]
   split
   ·rename_i c
    refine List.pairwise_cons.2 ⟨fun y hy => ?_,putR_up h2⟩
    rcases putR_sub hy with e | e
    ·rw [e]; exact c
    ·exact h1 y e
   ·rename_i c
    split
    ·rename_i c2
     exact List.pairwise_cons.2 ⟨fun y hy => (bl_left c2).1 (h1 y hy),h2⟩
    ·rename_i c2
     have hb := bl_total c c2
     refine List.pairwise_cons.2 ⟨fun y hy => ?_,h⟩
     rcases List.mem_cons.1 hy with e | e
     ·rw [e]; exact hb
     ·exact bl_trans hb (h1 y e)
theorem Blocks.put {xs : List T_Block.ty} (h : Blocks xs) {b : T_Block.ty} (hb : blockOk b = true) : Blocks (putR xs b) :=
 ⟨fun x hx => (putR_sub hx).elim (fun e => by rw [e]; exact hb) (h.ok x),putR_up h.up⟩
theorem put_p1 {xs : List T_Block.ty} {b : T_Block.ty} {i : Nat} (hi : i < xs.length) (h32 : xs.length ≤ 40) {r : List T_Block.ty} (hr : r.length ≤ 100) (f : Bool) :
 spec_l29Put_p1 xs f i (bK b) (bN b) (bX b) r = if sk (kAt xs i) b then spec_l29Put_p0 xs f ((i + 1 : Nat) : Int) (bK b) (bN b) (bX b) r else spec_l29Put_p0 xs f ((i + 1 : Nat) : Int) (bK b) (bN b) (bX b) (r ++ [kAt xs i]) := by
 have hw := wsucc (show i < 4611686018427387904 by omega)
 have hlim : r.length + 1 < lim := by unfold lim; omega
 have p2 : spec_l29Put_p2 xs f i (bK b) (bN b) (bX b) r = spec_l29Put_p0 xs f ((i + 1 : Nat) : Int) (bK b) (bN b) (bX b) (r ++ [kAt xs i]) := by
  rw [spec_l29Put_p2_eq]
  simp only [Int.natCast_nonneg,decide_true,if_true,Int.toNat_natCast,kAt_get hi,Option.bind_some,hlim,hw,List.take_length]
 rw [spec_l29Put_p1_eq]
 simp only [Int.natCast_nonneg,decide_true,if_true,Int.toNat_natCast,kAt_get hi,Option.bind_some,hw,p2]
 by_cases c1 : ((kAt xs i).1 == bK b) = true
 ·by_cases c2 : ((kAt xs i).2.1 == bN b) = true
  ·rw [if_pos (show sk (kAt xs i) b from ⟨eq_of_beq c1,eq_of_beq c2⟩),c1,c2]; rfl
  ·rw [if_neg (show ¬ sk (kAt xs i) b from fun e => c2 (beq_iff_eq.2 e.2)),c1]
   simp [c2]
 ·rw [if_neg (show ¬ sk (kAt xs i) b from fun e => c1 (beq_iff_eq.2 e.1))]
  simp [c1]
theorem put_placed {xs : List T_Block.ty} {b : T_Block.ty} (h32 : xs.length ≤ 32) : ∀ (n i : Nat) (r : List T_Block.ty),i + n = xs.length → r.length ≤ i + 1 → (∀ y,y ∈ xs.drop i → bl b y) → spec_l29Put_p0 xs true i (bK b) (bN b) (bX b) r = some (r ++ xs.drop i)
 | 0,i,r,hn,hr,hb => by
   have : i = xs.length := by omega
   subst this
   rw [spec_l29Put_p0_eq,if_neg (by simp),List.drop_length,List.append_nil]
   simp only [Bool.not_true,Bool.false_eq_true,if_false,List.take_length]
 | n + 1,i,r,hn,hr,hb => by
   have hi : i < xs.length := by omega
   have hlt : (i : Int) < (xs.length : Int) := by omega
   have hd : xs.drop i = kAt xs i :: xs.drop (i + 1) := by rw [List.drop_eq_getElem_cons hi,kAt_el hi]
   have hbi := hb (kAt xs i) (by rw [hd]; simp)
   rw [spec_l29Put_p0_eq]
   simp only [hlt,decide_true,if_true,Bool.not_true,Bool.false_eq_true,if_false]
   rw [put_p1 hi (by omega) (by omega),if_neg (fun e => bl_irrefl hbi ⟨e.1.symm,e.2.symm⟩),put_placed h32 n (i + 1) _ (by omega) (by simp; omega) (fun y hy => hb y (by rw [hd]; exact List.mem_cons_of_mem _ hy)),hd]
   simp
theorem put_loop {xs : List T_Block.ty} (h : Blocks xs) {b : T_Block.ty} (h32 : xs.length ≤ 32) : ∀ (n i : Nat) (r : List T_Block.ty),i + n = xs.length → r.length ≤ i → spec_l29Put_p0 xs false i (bK b) (bN b) (bX b) r = some (r ++ putR (xs.drop i) b)
 | 0,i,r,hn,hr => by
   have : i = xs.length := by omega
   subst this
   have hlim : r.length + 1 < lim := by unfold lim; omega
   rw [spec_l29Put_p0_eq,if_neg (by simp),List.drop_length]
   simp only [Bool.not_false,if_true,hlim,decide_true,List.take_length]
   rfl
 | n + 1,i,r,hn,hr => by
   have hi : i < xs.length := by omega
   have hlt : (i : Int) < (xs.length : Int) := by omega
   have hlim : r.length + 1 < lim := by unfold lim; omega
   have hd : xs.drop i = kAt xs i :: xs.drop (i + 1) := by rw [List.drop_eq_getElem_cons hi,kAt_el hi]
   have hbe : spec_l29Before (kAt xs i) (bK b,bN b,bX b,()) = some (decide (bl (kAt xs i) b)) := before_ok _ _
   rw [spec_l29Put_p0_eq]
   simp only [hlt,decide_true,if_true,Bool.not_false,Int.natCast_nonneg,Int.toNat_natCast,kAt_get hi,Option.bind_some,hbe]
   by_cases c : bl (kAt xs i) b
   ·rw [decide_eq_true c]
    simp only [Bool.not_true,Bool.false_eq_true,if_false]
    rw [put_p1 hi (by omega) (by omega),if_neg (bl_irrefl c),put_loop h h32 n (i + 1) _ (by omega) (by simp; omega),hd,putR,if_pos c]
    simp
   ·rw [decide_eq_false c]
    have hall : ¬ sk (kAt xs i) b → ∀ y,y ∈ xs.drop (i + 1) → bl b y := fun c2 y hy => by
     obtain ⟨j,hj,rfl⟩ := List.mem_iff_getElem.1 hy
     rw [List.getElem_drop]
     have hj' : i + 1 + j < xs.length := by simp at hj; omega
     rw [kAt_el hj']
     exact bl_trans (bl_total c c2) (h.lt (by omega) hj')
    have hall2 : sk (kAt xs i) b → ∀ y,y ∈ xs.drop (i + 1) → bl b y := fun c2 y hy => by
     obtain ⟨j,hj,rfl⟩ := List.mem_iff_getElem.1 hy
     rw [List.getElem_drop]
     have hj' : i + 1 + j < xs.length := by simp at hj; omega
     rw [kAt_el hj']
     exact (bl_left c2).1 (h.lt (by omega) hj')
    simp only [Bool.not_false,if_true,hlim,decide_true,List.take_length]
    rw [show ((bK b,bN b,bX b,()) : T_Block.ty) = b from rfl,put_p1 hi (by omega) (by simp; omega),hd,putR,if_neg c]
    by_cases c2 : sk (kAt xs i) b
    ·rw [if_pos c2,if_pos c2,put_placed h32 n (i + 1) _ (by omega) (by simp; omega) (hall2 c2)]
     simp
    ·rw [if_neg c2,if_neg c2,put_placed h32 n (i + 1) _ (by omega) (by simp; omega) (hall c2)]
     simp
theorem l29Put_ok {xs : List T_Block.ty} (h : Blocks xs) (h32 : xs.length ≤ 32) (b : T_Block.ty) : spec_l29Put xs b = some (putR xs b) := by
 rw [spec_l29Put_eq]
 exact put_loop h h32 xs.length 0 [] (by omega) (by simp)
structure Kept (xs : List T_Block.ty) : Prop where
 b : Blocks xs
 k : ∀ x,x ∈ xs → bK x ∈ kinds
theorem draw_loop : ∀ (k : Nat) (xs : List T_Block.ty) (s : T_l00Src.ty) (c : Int),SrcOk s c → c + 1000 * (k : Int) ≤ 10000000000 → xs.length + k ≤ 6 → Kept xs →
 ∃ (ys : List T_Block.ty) (s' : T_l00Src.ty),spec_l29Draw_p0 xs k s.1 s.2.1 s.2.2.1 = some (ys,s') ∧ ys.length ≤ 6 ∧ Kept ys
 | 0,xs,s,c,hs,hc,hl,h => by
   rw [spec_l29Draw_p0_eq,if_neg (by simp)]
   exact ⟨_,_,rfl,by omega,h⟩
 | k + 1,xs,s,c,hs,hc,hl,h => by
   have hw : IntKind.i64.wrap (((k + 1 : Nat) : Int) - 1) = ((k : Nat) : Int) := by rw [w64 (by omega) (by omega)]; omega
   obtain ⟨b,s1,e1,k1,hb⟩ := drawn_ok hs (by omega)
   have hone := l29One_ok (x := b) (by have := (by decide : ∀ t,t ∈ kinds → t.length ≤ 10) _ hb.k; omega) (by have := hb.n; omega) (by have := hb.x; omega)
   have hone' : spec_l29One (b.1,b.2.1,b.2.2.1,()) = some (blockOk b) := hone
   rw [spec_l29Draw_p0_eq,if_pos (by simp)]
   simp only [src_eta,e1,Option.bind_some,spec_PutBlock_eq,(h.b.valid (by omega)).2,Bool.not_true,Bool.false_eq_true,if_false,hone',hw]
   cases ho : blockOk b with
   | false =>
     simp only [Bool.not_false,if_true,Option.bind_some]
     rw [if_neg (by decide)]
     exact draw_loop k xs s1 _ k1 (by omega) (by omega) h
   | true =>
     have hlen := putR_len b xs
     have hput : spec_l29Put xs (b.1,b.2.1,b.2.2.1,()) = some (putR xs b) := l29Put_ok h.b (by omega) b
     have hn : ¬ ((putR xs b).length : Int) > 32 := by omega
     simp only [Bool.not_true,Bool.false_eq_true,if_false,spec_PutBlock_p0_eq,hput,Option.bind_some,hn,decide_false,List.take_length,beq_self_eq_true,if_true]
     exact draw_loop k (putR xs b) s1 _ k1 (by omega) (by omega) ⟨h.b.put ho,fun x hx => (putR_sub hx).elim (fun e => by rw [e]; exact hb.k) (h.k x)⟩
theorem blocks_draw (code : List Int) (h1 : ∀ x,x ∈ code → 0 ≤ x ∧ x ≤ 255) (h2 : code.length ≤ 1048576) : ∃ xs,spec_R8Blocks code = some xs ∧ xs.length ≤ 6 ∧ Kept xs := by
 obtain ⟨s,e,k⟩ := from_ok code h1 h2
 obtain ⟨u,s1,q1,k1,b0,b1⟩ := pick_ok k (by omega) 6 (by omega)
 obtain ⟨ys,s',q2,hl,hk⟩ := draw_loop u.toNat [] s1 _ k1 (by omega) (by simp; omega) ⟨⟨fun x hx => (by cases hx),List.Pairwise.nil⟩,fun x hx => (by cases hx)⟩
 rw [Int.toNat_of_nonneg b0] at q2
 refine ⟨ys,?_,hl,hk⟩
 rw [spec_R8Blocks_eq,e,Option.bind_some,spec_l29Draw_eq]
 simp only [q1,q2,Option.bind_some]
theorem mid_ok {lo hi : Nat} (h : lo + hi ≤ 1000000) : IntKind.i64.wrap (Int.fdiv (IntKind.u64.wrap (IntKind.i64.wrap ((lo : Int) + (hi : Int)))) (2 ^ (min (1 : Int).toNat IntKind.u64.bits))) = (((lo + hi) / 2 : Nat) : Int) := by
 have e : (2 : Int) ^ (min (1 : Int).toNat IntKind.u64.bits) = 2 := by decide
 rw [w64 (n := (lo : Int) + (hi : Int)) (by omega) (by omega),wu64 (by omega) (by omega),e,Int.fdiv_eq_ediv_of_nonneg _ (by omega),w64 (by omega) (by omega)]
 omega
theorem search_loop {xs : List T_Block.ty} (h : Blocks xs) (h32 : xs.length ≤ 32) (t : T_Block.ty) : ∀ (n lo hi : Nat),hi - lo ≤ n → lo ≤ hi → hi ≤ xs.length → (∀ j,j < lo → bl (kAt xs j) t) → (∀ j,hi ≤ j → j < xs.length → ¬ bl (kAt xs j) t) →
 ∃ p : Nat,p ≤ xs.length ∧ (∀ j,j < p → bl (kAt xs j) t) ∧ (∀ j,p ≤ j → j < xs.length → ¬ bl (kAt xs j) t) ∧
   slices_BinarySearchFunc___impl_Block_impl_Block_impl_Block__impl_Block_compare_p0 xs xs.length lo hi (bK t) (bN t) (bX t) = some ((p : Int),decide (p < xs.length ∧ sk (kAt xs p) t)) := by
 have fin : ∀ lo : Nat,lo ≤ xs.length → (∀ j,j < lo → bl (kAt xs j) t) → (∀ j,lo ≤ j → j < xs.length → ¬ bl (kAt xs j) t) →
  slices_BinarySearchFunc___impl_Block_impl_Block_impl_Block__impl_Block_compare_p0 xs xs.length lo lo (bK t) (bN t) (bX t) = some ((lo : Int),decide (lo < xs.length ∧ sk (kAt xs lo) t)) := fun lo hlo h1 h2 => by
  rw [slices_BinarySearchFunc___impl_Block_impl_Block_impl_Block__impl_Block_compare_p0_eq,if_neg (by simp)]
  by_cases c : lo < xs.length
  ·obtain ⟨v,ev,_,hv⟩ := compare_ok (kAt xs lo) t
   have ev' : impl_Block_compare (kAt xs lo) (bK t,bN t,bX t,()) = some v := ev
   have hlt : (lo : Int) < (xs.length : Int) := by omega
   simp only [hlt,decide_true,if_true,Int.natCast_nonneg,Int.toNat_natCast,kAt_get c,Option.bind_some,ev']
   congr 2
   rw [Bool.eq_iff_iff,beq_iff_eq,decide_eq_true_eq,hv]
   exact ⟨fun e => ⟨c,e⟩,fun e => e.2⟩
  ·have hlt : ¬ (lo : Int) < (xs.length : Int) := by omega
   simp only [hlt,decide_false,Bool.false_eq_true,if_false,c,false_and]
 intro n
 induction n with
 | zero =>
   intro lo hi hn hle hhi h1 h2
   have : hi = lo := by omega
   subst this
   exact ⟨hi,hhi,h1,h2,fin hi hhi h1 h2⟩
 | succ n ih =>
   intro lo hi hn hle hhi h1 h2
   rcases Nat.lt_or_ge lo hi with hlt | hge
   ·have hm := mid_ok (lo := lo) (hi := hi) (by omega)
    have hmid : (lo + hi) / 2 < xs.length := by omega
    obtain ⟨v,ev,hv,_⟩ := compare_ok (kAt xs ((lo + hi) / 2)) t
    have ev' : impl_Block_compare (kAt xs ((lo + hi) / 2)) (bK t,bN t,bX t,()) = some v := ev
    have hlt' : (lo : Int) < (hi : Int) := by omega
    rw [slices_BinarySearchFunc___impl_Block_impl_Block_impl_Block__impl_Block_compare_p0_eq]
    simp only [hlt',decide_true,if_true,hm,Int.natCast_nonneg,Int.toNat_natCast,kAt_get hmid,Option.bind_some,ev',wsucc (show (lo + hi) / 2 < 4611686018427387904 by omega)]
    by_cases c : v < 0
    ·rw [if_pos (decide_eq_true c)]
     refine ih ((lo + hi) / 2 + 1) hi (by omega) (by omega) hhi (fun j hj => ?_) h2
     rcases Nat.lt_or_ge j ((lo + hi) / 2) with hj2 | hj2
     ·exact bl_trans (h.lt hj2 hmid) (hv.1 c)
     ·rw [show j = (lo + hi) / 2 by omega]; exact hv.1 c
    ·rw [if_neg (by simpa using c)]
     refine ih lo ((lo + hi) / 2) (by omega) (by omega) (by omega) h1 (fun j hj hj2 hb => ?_)
     rcases Nat.lt_or_ge ((lo + hi) / 2) j with hj3 | hj3
     ·exact c (hv.2 (bl_trans (h.lt hj3 hj2) hb))
     ·rw [show j = (lo + hi) / 2 by omega] at hb; exact c (hv.2 hb)
   ·have : hi = lo := by omega
    subst this
    exact ⟨hi,hhi,h1,h2,fin hi hhi h1 h2⟩
theorem blockOf_ok {xs : List T_Block.ty} (h : Blocks xs) (h32 : xs.length ≤ 32) (t : T_Block.ty) : ∃ p : Nat,p ≤ xs.length ∧ (∀ j,j < p → bl (kAt xs j) t) ∧ (∀ j,p ≤ j → j < xs.length → ¬ bl (kAt xs j) t) ∧
 impl_blockOf xs (bK t) (bN t) = some ((p : Int),decide (p < xs.length ∧ sk (kAt xs p) t)) := by
 obtain ⟨p,h1,h2,h3,e⟩ := search_loop h h32 (bK t,bN t,[],()) xs.length 0 xs.length (by omega) (by omega) (Nat.le_refl _) (fun j hj => by omega) (fun j hj hj2 => by omega)
 refine ⟨p,h1,h2,h3,?_⟩
 rw [impl_blockOf_eq,slices_BinarySearchFunc___impl_Block_impl_Block_impl_Block__impl_Block_compare_eq]
 have e' : slices_BinarySearchFunc___impl_Block_impl_Block_impl_Block__impl_Block_compare_p0 xs xs.length 0 xs.length (bK t) (bN t) [] = some ((p : Int),decide (p < xs.length ∧ sk (kAt xs p) t)) := e
 simp only [e',Option.bind_some]
theorem cloneBlocks {xs : List T_Block.ty} (h : xs.length ≤ 1048576) : impl_clone_impl_Block_ xs = some xs := by
 rw [impl_clone_impl_Block__eq]
 have h1 : ((xs.length : Int)).toNat < lim := by unfold lim; omega
 have h2 : 0 + xs.length < lim := by unfold lim; omega
 simp only [Int.natCast_nonneg,h1,h2,decide_true,Bool.and_self,if_true,List.nil_append,List.take_length]
theorem implPut_ok {xs : List T_Block.ty} (h : Blocks xs) (h31 : xs.length ≤ 31) (b : T_Block.ty) : impl_put xs b = some (putR xs b,0) := by
 obtain ⟨p,hp,h1,h2,e⟩ := blockOf_ok h (by omega) b
 have hat := putR_at b xs p hp h1 h2
 have e' : impl_blockOf xs b.1 b.2.1 = some ((p : Int),decide (p < xs.length ∧ sk (kAt xs p) b)) := e
 rw [impl_put_eq,cloneBlocks (by omega)]
 simp only [Option.bind_some,List.take_length,e']
 by_cases c : p < xs.length ∧ sk (kAt xs p) b
 ·have hlt : (p : Int) < (xs.length : Int) := by omega
  rw [if_pos c] at hat
  simp only [decide_eq_true c,if_true,Int.natCast_nonneg,hlt,decide_true,Bool.and_self,Int.toNat_natCast,kAt_get c.1,Option.bind_some]
  rw [hat,show (xs.set p b).take xs.length = xs.set p b from List.take_of_length_le (by simp),List.set_eq_take_append_cons_drop,if_pos c.1]
  simp
 ·rw [if_neg c] at hat
  have hn : ¬ ((xs.length : Int) == 32) = true := by simp; omega
  have c1 : (p : Int) ≤ (xs.length : Int) := by omega
  have c2 : xs.length + 1 < 1099511627776 := by omega
  have hi : slices_Insert___impl_Block_impl_Block_ xs p [b] = some (putR xs b,()) := by
   rw [slices_Insert___impl_Block_impl_Block__eq,hat]
   simp only [List.length_cons,List.length_nil,decide_true,Bool.true_and,Int.natCast_nonneg,c1,c2,if_true,Int.toNat_natCast]
  simp only [decide_eq_false c,Bool.false_eq_true,if_false,hn,decide_true,if_true,hi,Option.bind_some,List.take_length]
theorem same_ok (xs : List T_Block.ty) (hl : xs.length ≤ 1048576) : spec_SameBlocks xs xs = some true := by
 have loop : ∀ (n i : Nat),i + n = xs.length → spec_l29Same_p0 xs xs i = some true := fun n => by
  induction n with
  | zero =>
    intro i hn
    rw [spec_l29Same_p0_eq,if_neg (by simp; omega)]
  | succ n ih =>
    intro i hn
    have hi : i < xs.length := by omega
    have hlt : (i : Int) < (xs.length : Int) := by omega
    rw [spec_l29Same_p0_eq]
    simp only [hlt,decide_true,if_true,Int.natCast_nonneg,Int.toNat_natCast,kAt_get hi,Option.bind_some,beq_self_eq_true,Bool.and_self,Bool.not_true,Bool.false_eq_true,if_false,wsucc (show i < 4611686018427387904 by omega)]
    exact ih (i + 1) (by omega)
 rw [spec_SameBlocks_eq,spec_l29Same_eq]
 simp only [bne_self_eq_false,Bool.false_eq_true,if_false]
 rw [show spec_l29Same_p0 xs xs 0 = some true from loop xs.length 0 (by omega)]
 rfl
def crcBit (s : Nat) : Nat := if 2 * s > 65535 then (2 * s) % 65536 ^^^ 4129 else 2 * s
def crcBits : Nat → Nat → Nat
 | 0,s => s
 | k + 1,s => crcBits k (crcBit s)
def crcByte (s : Nat) (b : UInt8) : Nat := crcBits 8 (s ^^^ (b.toNat * 256))
def crcN (s : Nat) (l : List UInt8) : Nat := l.foldl crcByte s
theorem crcBit_lt {s : Nat} (h : s < 65536) : crcBit s < 65536 := by
 unfold crcBit
 split
 ·exact Nat.xor_lt_two_pow (n := 16) (Nat.mod_lt _ (by decide)) (by decide)
 ·omega
theorem crcBits_lt : ∀ (k : Nat) {s : Nat},s < 65536 → crcBits k s < 65536
 | 0,_,h => h
 | k + 1,_,h => crcBits_lt k (crcBit_lt h)
theorem start_lt {s : Nat} (h : s < 65536) (b : UInt8) : s ^^^ (b.toNat * 256) < 65536 :=
 Nat.xor_lt_two_pow (n := 16) h (by have := b.toNat_lt; omega)
theorem crcByte_lt {s : Nat} (h : s < 65536) (b : UInt8) : crcByte s b < 65536 := crcBits_lt 8 (start_lt h b)
theorem crcN_cons (s : Nat) (b : UInt8) (l : List UInt8) : crcN s (b :: l) = crcN (crcByte s b) l := by simp only [crcN,List.foldl_cons]
theorem crcByte_is (s : Nat) (b : UInt8) : crcByte s b = crcBits 8 (s ^^^ (b.toNat * 256)) := rfl
attribute [irreducible] crcByte
theorem crcN_lt : ∀ (l : List UInt8) {s : Nat},s < 65536 → crcN s l < 65536
 | [],_,h => h
 | b :: l,s,h => by rw [crcN_cons]; exact crcN_lt l (crcByte_lt h b)
theorem xor_cancel {a b p : Nat} (h : a ^^^ p = b ^^^ p) : a = b := by
 have := congrArg (· ^^^ p) h
 simpa [Nat.xor_assoc] using this
theorem crcBit_inj {s t : Nat} (hs : s < 65536) (ht : t < 65536) (h : crcBit s = crcBit t) : s = t := by
 have odd : ∀ a b : Nat,(2 * a) % 65536 ^^^ 4129 ≠ 2 * b := fun a b e => by
  have h1 : ((2 * a) % 65536 ^^^ 4129) % 2 ^ 1 = ((2 * a) % 65536) % 2 ^ 1 ^^^ 4129 % 2 ^ 1 := Nat.xor_mod_two_pow
  have e1 : (2 * a) % 65536 % 2 ^ 1 = 0 := by omega
  have e2 : (2 * b) % 2 ^ 1 = 0 := by omega
  rw [e,e1,e2] at h1
  exact absurd h1 (by decide)
 unfold crcBit at h
 split at h <;> split at h
 ·have := xor_cancel h; omega
 ·exact absurd h (odd _ _)
 ·exact absurd h.symm (odd _ _)
 ·omega
theorem crcBits_inj : ∀ (k : Nat) {s t : Nat},s < 65536 → t < 65536 → crcBits k s = crcBits k t → s = t
 | 0,_,_,_,_,h => h
 | k + 1,_,_,hs,ht,h => crcBit_inj hs ht (crcBits_inj k (crcBit_lt hs) (crcBit_lt ht) h)
theorem crcByte_inj {s t : Nat} (hs : s < 65536) (ht : t < 65536) {b : UInt8} (h : crcByte s b = crcByte t b) : s = t :=
 xor_cancel (crcBits_inj 8 (start_lt hs b) (start_lt ht b) (by rw [crcByte_is,crcByte_is] at h; exact h))
theorem crcByte_inj2 {s : Nat} (hs : s < 65536) {a b : UInt8} (h : crcByte s a = crcByte s b) : a = b := by
 rw [crcByte_is,crcByte_is] at h
 have h1 := crcBits_inj 8 (start_lt hs a) (start_lt hs b) h
 rw [Nat.xor_comm s,Nat.xor_comm s] at h1
 have := xor_cancel h1
 exact UInt8.toNat_inj.1 (by omega)
theorem crcN_inj : ∀ (l : List UInt8) {s t : Nat},s < 65536 → t < 65536 → crcN s l = crcN t l → s = t
 | [],_,_,_,_,h => h
 | b :: l,s,t,hs,ht,h => by
   rw [crcN_cons,crcN_cons] at h
   exact crcByte_inj hs ht (crcN_inj l (crcByte_lt hs b) (crcByte_lt ht b) h)
theorem crcN_set {l : List UInt8} {i : Nat} {b : UInt8} (hi : i < l.length) (hb : b ≠ l[i]) {s : Nat} (hs : s < 65536) : crcN s (l.set i b) ≠ crcN s l := fun e => by
 have e1 : l.set i b = l.take i ++ b :: l.drop (i + 1) := by rw [List.set_eq_take_append_cons_drop,if_pos hi]
 have e2 : crcN s l = crcN s (l.take i ++ l[i] :: l.drop (i + 1)) := by
  rw [← List.drop_eq_getElem_cons hi,List.take_append_drop]
 rw [e1,e2] at e
 have sp : ∀ c : UInt8,crcN s (l.take i ++ c :: l.drop (i + 1)) = crcN (crcByte (crcN s (l.take i)) c) (l.drop (i + 1)) := fun c => by simp only [crcN,List.foldl_append,List.foldl_cons]
 rw [sp,sp] at e
 have h0 : crcN s (l.take i) < 65536 := crcN_lt _ hs
 have := crcN_inj (l.drop (i + 1)) (crcByte_lt h0 b) (crcByte_lt h0 l[i]) e
 exact hb (crcByte_inj2 h0 this)
theorem xor64 {a b : Nat} (ha : a < 4294967296) (hb : b < 4294967296) : IntKind.i64.wrap ((BitVec.ofInt IntKind.i64.bits (a : Int) ^^^ BitVec.ofInt IntKind.i64.bits (b : Int)).toNat : Int) = ((a ^^^ b : Nat) : Int) := by
 have e : (BitVec.ofInt IntKind.i64.bits (a : Int) ^^^ BitVec.ofInt IntKind.i64.bits (b : Int)).toNat = a ^^^ b := by
  show (BitVec.ofInt 64 (a : Int) ^^^ BitVec.ofInt 64 (b : Int)).toNat = a ^^^ b
  rw [BitVec.toNat_xor,BitVec.ofInt_natCast,BitVec.ofInt_natCast,BitVec.toNat_ofNat,BitVec.toNat_ofNat,Nat.mod_eq_of_lt (by omega),Nat.mod_eq_of_lt (by omega)]
 have hx : a ^^^ b < 2 ^ 32 := Nat.xor_lt_two_pow ha hb
 rw [e,w64 (by omega) (by omega)]
theorem and64 {a : Nat} (ha : a < 4294967296) : IntKind.i64.wrap ((BitVec.ofInt IntKind.i64.bits (a : Int) &&& BitVec.ofInt IntKind.i64.bits 65535).toNat : Int) = ((a % 65536 : Nat) : Int) := by
 have e : (BitVec.ofInt IntKind.i64.bits (a : Int) &&& BitVec.ofInt IntKind.i64.bits 65535).toNat = a % 65536 := by
  show (BitVec.ofInt 64 (a : Int) &&& BitVec.ofInt 64 ((65535 : Nat) : Int)).toNat = _
  rw [BitVec.toNat_and,BitVec.ofInt_natCast,BitVec.ofInt_natCast,BitVec.toNat_ofNat,BitVec.toNat_ofNat,Nat.mod_eq_of_lt (by omega),Nat.mod_eq_of_lt (by omega)]
  exact Nat.and_two_pow_sub_one_eq_mod a 16
 rw [e,w64 (by omega) (by omega)]
theorem bit_arg {s : Nat} (hs : s < 65536) : IntKind.i64.wrap ((s : Int) * 2) = ((2 * s : Nat) : Int) := by rw [w64 (by omega) (by omega)]; omega
theorem bit_big {s : Nat} (hs : s < 65536) (h : 2 * s > 65535) : IntKind.i64.wrap ((BitVec.ofInt IntKind.i64.bits (IntKind.i64.wrap ((BitVec.ofInt IntKind.i64.bits ((2 * s : Nat) : Int) &&& BitVec.ofInt IntKind.i64.bits 65535).toNat : Int)) ^^^ BitVec.ofInt IntKind.i64.bits 4129).toNat : Int) = ((crcBit s : Nat) : Int) := by
 rw [and64 (by omega),show (4129 : Int) = ((4129 : Nat) : Int) from rfl,xor64 (by omega) (by decide),crcBit,if_pos h]
theorem impl_bits (v0 : List UInt8) (i : Nat) : ∀ (n k : Nat) {s : Nat},k + n = 8 → s < 65536 → impl_Crc16_p1 v0 s i k = impl_Crc16_p1 v0 (crcBits n s : Nat) i 8
 | 0,k,s,hk,hs => by
   have : k = 8 := by omega
   subst this; rfl
 | n + 1,k,s,hk,hs => by
   have hlt : (k : Int) < 8 := by omega
   have IH := impl_bits v0 i n (k + 1) (s := crcBit s) (by omega) (crcBit_lt hs)
   rw [impl_Crc16_p1_eq v0 s i k]
   simp only [hlt,decide_true,if_true,bit_arg hs,wsucc (show k < 4611686018427387904 by omega)]
   by_cases c : 2 * s > 65535
   ·have c' : ((2 * s : Nat) : Int) > 65535 := by omega
    simp only [c',decide_true,if_true,bit_big hs c]
    exact IH
   ·have c' : ¬ ((2 * s : Nat) : Int) > 65535 := by omega
    have e : crcBit s = 2 * s := by rw [crcBit,if_neg c]
    simp only [c',decide_false,Bool.false_eq_true,if_false]
    rw [e] at IH
    rw [show crcBits (n + 1) s = crcBits n (2 * s) by rw [crcBits,e]]
    exact IH
theorem spec_bits (v0 : List UInt8) (i : Nat) : ∀ (n k : Nat) {s : Nat},k + n = 8 → s < 65536 → spec_l01Crc_p1 v0 s i k = spec_l01Crc_p1 v0 (crcBits n s : Nat) i 8
 | 0,k,s,hk,hs => by
   have : k = 8 := by omega
   subst this; rfl
 | n + 1,k,s,hk,hs => by
   have hlt : (k : Int) < 8 := by omega
   have e2 : (2 : Int) ^ (min (1 : Int).toNat IntKind.i64.bits) = 2 := by decide
   have IH := spec_bits v0 i n (k + 1) (s := crcBit s) (by omega) (crcBit_lt hs)
   rw [spec_l01Crc_p1_eq v0 s i k]
   simp only [hlt,decide_true,if_true,e2,bit_arg hs,wsucc (show k < 4611686018427387904 by omega)]
   by_cases c : 2 * s > 65535
   ·have c' : ((2 * s : Nat) : Int) > 65535 := by omega
    simp only [c',decide_true,if_true,bit_big hs c]
    exact IH
   ·have c' : ¬ ((2 * s : Nat) : Int) > 65535 := by omega
    have e : crcBit s = 2 * s := by rw [crcBit,if_neg c]
    simp only [c',decide_false,Bool.false_eq_true,if_false]
    rw [e] at IH
    rw [show crcBits (n + 1) s = crcBits n (2 * s) by rw [crcBits,e]]
    exact IH
theorem byte_arg (b : UInt8) : IntKind.i64.wrap (IntKind.i64.wrap (b.toNat : Int) * 256) = ((b.toNat * 256 : Nat) : Int) := by
 have := b.toNat_lt
 rw [w64 (n := (b.toNat : Int)) (by omega) (by omega),w64 (by omega) (by omega)]; omega
attribute [irreducible] crcBits
theorem crc_loop {l : List UInt8} (hl : l.length ≤ 1048576) : ∀ (n i : Nat) {s : Nat},i + n = l.length → s < 65536 → impl_Crc16_p0 l s i = some ((crcN s (l.drop i) : Nat) : Int) ∧ spec_l01Crc_p0 l s i = some ((crcN s (l.drop i) : Nat) : Int)
 | 0,i,s,hn,hs => by
   have : i = l.length := by omega
   subst this
   rw [impl_Crc16_p0_eq,if_neg (by simp),spec_l01Crc_p0_eq,if_neg (by simp),List.drop_length]
   exact ⟨rfl,rfl⟩
 | n + 1,i,s,hn,hs => by
   have hi : i < l.length := by omega
   have hlt : (i : Int) < (l.length : Int) := by omega
   have hd : l.drop i = l[i] :: l.drop (i + 1) := List.drop_eq_getElem_cons hi
   have e8 : (2 : Int) ^ (min (8 : Int).toNat IntKind.i64.bits) = 256 := by decide
   have hb := l[i].toNat_lt
   obtain ⟨IH1,IH2⟩ := crc_loop hl n (i + 1) (s := crcByte s l[i]) (by omega) (crcByte_lt hs _)
   have hx : IntKind.i64.wrap ((BitVec.ofInt IntKind.i64.bits (s : Int) ^^^ BitVec.ofInt IntKind.i64.bits ((l[i].toNat * 256 : Nat) : Int)).toNat : Int) = ((s ^^^ (l[i].toNat * 256) : Nat) : Int) := xor64 (by omega) (by omega)
   have a1 := impl_bits l i 8 0 (by omega) (start_lt hs l[i])
   have a2 := spec_bits l i 8 0 (by omega) (start_lt hs l[i])
   have b1 : impl_Crc16_p1 l ((crcBits 8 (s ^^^ (l[i].toNat * 256)) : Nat) : Int) i 8 = impl_Crc16_p0 l ((crcByte s l[i] : Nat) : Int) ((i + 1 : Nat) : Int) := by
    rw [impl_Crc16_p1_eq,if_neg (by decide),wsucc (by omega),crcByte_is]
   have b2 : spec_l01Crc_p1 l ((crcBits 8 (s ^^^ (l[i].toNat * 256)) : Nat) : Int) i 8 = spec_l01Crc_p0 l ((crcByte s l[i] : Nat) : Int) ((i + 1 : Nat) : Int) := by
    rw [spec_l01Crc_p1_eq,if_neg (by decide),wsucc (by omega),crcByte_is]
   have e : crcN s (l.drop i) = crcN (crcByte s l[i]) (l.drop (i + 1)) := by rw [hd,crcN_cons]
   rw [e]
   refine ⟨?_,?_⟩
   ·rw [impl_Crc16_p0_eq]
    simp only [hlt,decide_true,if_true,Int.natCast_nonneg,Int.toNat_natCast,List.getElem?_eq_getElem hi,Option.bind_some,byte_arg,hx]
    exact (a1.trans b1).trans IH1
   ·rw [spec_l01Crc_p0_eq]
    simp only [hlt,decide_true,if_true,Int.natCast_nonneg,Int.toNat_natCast,List.getElem?_eq_getElem hi,Option.bind_some,e8,byte_arg,hx]
    exact (a2.trans b2).trans IH2
def crcT (l : List UInt8) : Nat := crcN 65535 l
theorem crc_ok {l : List UInt8} (hl : l.length ≤ 1048576) : impl_Crc16 l 65535 = some ((crcT l : Nat) : Int) ∧ spec_l01Crc l 65535 = some ((crcT l : Nat) : Int) := by
 obtain ⟨h1,h2⟩ := crc_loop hl l.length 0 (s := 65535) (by omega) (by decide)
 refine ⟨?_,?_⟩
 ·rw [impl_Crc16_eq,show impl_within 65535 0 65535 = some true by rw [impl_within_eq]; rfl]
  simp only [Option.bind_some,Bool.not_true,Bool.false_eq_true,if_false]
  exact h1
 ·rw [spec_l01Crc_eq]; exact h2
def five (u : Nat) : List UInt8 := padP (u : Int) 5
theorem itoa5 {u : Nat} (h : u < 65536) : (Lib.itoa (u : Int)).length ≤ 5 ∧ 1 ≤ (Lib.itoa (u : Int)).length := by
 have := decDigits_len 4 u (by omega)
 rw [itoa_pos]; exact this
theorem five_len {u : Nat} (h : u < 65536) : (five u).length = 5 := by
 have := itoa5 h
 rw [five,padP_len]; omega
theorem five_inj {u v : Nat} (hu : u < 65536) (hv : v < 65536) (h : five u = five v) : u = v := by
 have h1 := digs_pad u 5 (by omega) (by omega)
 have h2 := digs_pad v 5 (by omega) (by omega)
 rw [five,five] at h
 rw [h,h2] at h1
 have := congrArg Prod.fst h1
 simp only at this
 omega
theorem five_no {u : Nat} : (10 : UInt8) ∉ five u := fun h => by
 have := padP_dig u 5 _ h
 revert this; decide
theorem l29Five_ok {u : Nat} (h : u < 65536) : spec_l29Five u = some (five u) := by
 have hl := itoa5 h
 have loop : ∀ (n : Nat) (t : List UInt8),n + t.length = 5 → spec_l29Five_p0 t = some (Lib.repeatL [48] n ++ t) := fun n => by
  induction n with
  | zero =>
    intro t ht
    rw [spec_l29Five_p0_eq,if_neg (by simp; omega)]; rfl
  | succ n ih =>
    intro t ht
    have hst : ([48] : List UInt8).length + t.length ≤ strMax := by simp [strMax]; omega
    have e : Lib.repeatL [48] (n + 1) ++ t = Lib.repeatL [48] n ++ ([48] ++ t) := by
     have : ∀ m : Nat,Lib.repeatL [48] (m + 1) = Lib.repeatL [48] m ++ [(48 : UInt8)] := fun m => by
      induction m with
      | zero => rfl
      | succ m ih => exact (congrArg (fun l => (48 : UInt8) :: l) ih).trans rfl
     rw [this,List.append_assoc]
    rw [spec_l29Five_p0_eq,if_pos (by simp; omega)]
    split
    ·rw [ih _ (by simp; omega),e]
    ·rename_i hne; exact absurd (decide_eq_true hst) hne
 rw [spec_l29Five_eq,spec_l01Dec_itoa _ (by omega),Option.bind_some,loop (5 - (Lib.itoa (u : Int)).length) _ (by omega)]
 rfl
theorem crcT_lt (l : List UInt8) : crcT l < 65536 := crcN_lt l (by decide)
def lineT (r : List UInt8) : List UInt8 := five (crcT r) ++ 32 :: r
theorem lineT_len (r : List UInt8) : (lineT r).length = r.length + 6 := by
 rw [lineT,List.length_append,five_len (crcT_lt r),List.length_cons]; omega
theorem lineOf_ok {r : List UInt8} (h : r.length ≤ 100000) : impl_lineOf r = some (lineT r) := by
 have h5 := five_len (crcT_lt r)
 have hi := itoa5 (crcT_lt r)
 have hc := crcT_lt r
 have hp : impl_padded ((crcT r : Nat) : Int) 5 = some (five (crcT r)) := impl_padded_ok _ 5 (by omega) (by omega) (by omega)
 have a1 : (five (crcT r)).length + ([32] : List UInt8).length ≤ strMax := by simp [strMax]; omega
 have a2 : (five (crcT r) ++ [32]).length + r.length ≤ strMax := by simp [strMax]; omega
 rw [impl_lineOf_eq,(crc_ok (by omega)).1]
 simp only [Option.bind_some,hp]
 split
 ·split
  ·simp [lineT]
  ·rename_i hne; exact absurd (decide_eq_true a2) hne
 ·rename_i hne; exact absurd (decide_eq_true a1) hne
def restT (b : T_Block.ty) : List UInt8 := bK b ++ [32] ++ bN b ++ [32] ++ bX b
structure Fine (b : T_Block.ty) : Prop where
 ok : blockOk b = true
 k : isName (bK b) = true
 n : isName (bN b) = true
 x : (bX b).length ≤ 400
 no : (10 : UInt8) ∉ bX b
theorem fine {b : T_Block.ty} (h : blockOk b = true) : Fine b := by
 have h' := h
 simp only [blockOk,Bool.and_eq_true,decide_eq_true_eq,Bool.not_eq_true'] at h'
 obtain ⟨h1,h2,h3,h4⟩ := h'
 exact ⟨h,h1,h2,h3,fun e => by rw [List.contains_iff_mem.2 e] at h4; cases h4⟩
theorem rest_len {b : T_Block.ty} (h : Fine b) : (restT b).length ≤ 500 := by
 have := nameLen h.k; have := nameLen h.n; have := h.x
 simp only [restT,List.length_append,List.length_cons,List.length_nil]; omega
theorem rest_no {b : T_Block.ty} (h : Fine b) : (10 : UInt8) ∉ restT b := fun e => by
 simp only [restT,List.mem_append,List.mem_singleton] at e
 rcases e with (((e | e) | e) | e) | e
 ·exact isName_no h.k (by decide) e
 ·exact absurd e (by decide)
 ·exact isName_no h.n (by decide) e
 ·exact absurd e (by decide)
 ·exact h.no e
theorem line_no {r : List UInt8} (h : (10 : UInt8) ∉ r) : (10 : UInt8) ∉ lineT r := fun e => by
 rw [lineT] at e
 rcases List.mem_append.1 e with e | e
 ·exact five_no e
 ·rcases List.mem_cons.1 e with e | e
  ·exact absurd e (by decide)
  ·exact h e
theorem l29Line_ok {b : T_Block.ty} (h : Fine b) : spec_l29Line b = some (lineT (restT b) ++ [10]) := by
 have l1 := nameLen h.k; have l2 := nameLen h.n; have l3 := h.x
 have hr := rest_len h
 have h5 := five_len (crcT_lt (restT b))
 simp only [bK,bN,bX] at l1 l2 l3
 have hc : spec_l01Crc ((((b.1 ++ [32]) ++ b.2.1) ++ [32]) ++ b.2.2.1) 65535 = some ((crcT (restT b) : Nat) : Int) := (crc_ok (l := restT b) (by omega)).2
 have h29 := l29Five_ok (crcT_lt (restT b))
 have hrl : ((((b.1 ++ [32]) ++ b.2.1) ++ [32]) ++ b.2.2.1).length ≤ 500 := hr
 have a1 : b.1.length + ([32] : List UInt8).length ≤ strMax := by simp [strMax]; omega
 have a2 : (b.1 ++ [32]).length + b.2.1.length ≤ strMax := by simp [strMax]; omega
 have a3 : ((b.1 ++ [32]) ++ b.2.1).length + ([32] : List UInt8).length ≤ strMax := by simp [strMax]; omega
 have a4 : (((b.1 ++ [32]) ++ b.2.1) ++ [32]).length + b.2.2.1.length ≤ strMax := by simp [strMax]; omega
 have a5 : (five (crcT (restT b))).length + ([32] : List UInt8).length ≤ strMax := by simp [strMax]; omega
 have a6 : (five (crcT (restT b)) ++ [32]).length + ((((b.1 ++ [32]) ++ b.2.1) ++ [32]) ++ b.2.2.1).length ≤ strMax := by rw [List.length_append,h5]; simp only [List.length_cons,List.length_nil]; unfold strMax; omega
 have a7 : ((five (crcT (restT b)) ++ [32]) ++ ((((b.1 ++ [32]) ++ b.2.1) ++ [32]) ++ b.2.2.1)).length + ([10] : List UInt8).length ≤ strMax := by rw [List.length_append,List.length_append,h5]; simp only [List.length_cons,List.length_nil]; unfold strMax; omega
 rw [spec_l29Line_eq]
 split
 ·split
  ·split
   ·split
    ·rw [hc,Option.bind_some,h29,Option.bind_some]
     split
     ·split
      ·split
       ·rw [lineT,restT,bK,bN,bX]; simp
       ·rename_i hne; exact absurd (decide_eq_true a7) hne
      ·rename_i hne; exact absurd (decide_eq_true a6) hne
     ·rename_i hne; exact absurd (decide_eq_true a5) hne
    ·rename_i hne; exact absurd (decide_eq_true a4) hne
   ·rename_i hne; exact absurd (decide_eq_true a3) hne
  ·rename_i hne; exact absurd (decide_eq_true a2) hne
 ·rename_i hne; exact absurd (decide_eq_true a1) hne
def headT (n : Nat) : List UInt8 := [97,114,99,104,105,118,101,32] ++ Lib.itoa (n : Int)
def linesT (xs : List T_Block.ty) : List (List UInt8) := headT xs.length :: xs.map fun b => lineT (restT b)
def endT (ls : List (List UInt8)) : List UInt8 := ls.flatMap fun l => l ++ [10]
theorem save_loop {xs : List T_Block.ty} (h : ∀ b,b ∈ xs → Fine b) (h32 : xs.length ≤ 32) : ∀ (n i : Nat) (t : List UInt8),i + n = xs.length → t.length ≤ 100 + 1000 * i → spec_l29Save_p0 xs t i = some (t ++ endT ((xs.drop i).map fun b => lineT (restT b)))
 | 0,i,t,hn,ht => by
   have : i = xs.length := by omega
   subst this
   rw [spec_l29Save_p0_eq,if_neg (by simp),List.drop_length]; simp [endT]
 | n + 1,i,t,hn,ht => by
   have hi : i < xs.length := by omega
   have hlt : (i : Int) < (xs.length : Int) := by omega
   have hb := h _ (kAt_mem hi)
   have hl := rest_len hb
   have hlen : (lineT (restT (kAt xs i)) ++ [10]).length ≤ 600 := by rw [List.length_append,lineT_len]; simp only [List.length_cons,List.length_nil]; omega
   have hst : t.length + (lineT (restT (kAt xs i)) ++ [10]).length ≤ strMax := by unfold strMax; omega
   have hd : xs.drop i = kAt xs i :: xs.drop (i + 1) := by rw [List.drop_eq_getElem_cons hi,kAt_el hi]
   rw [spec_l29Save_p0_eq]
   simp only [hlt,decide_true,if_true,Int.natCast_nonneg,Int.toNat_natCast,kAt_get hi,Option.bind_some,l29Line_ok hb,hst,wsucc (show i < 4611686018427387904 by omega)]
   rw [save_loop h h32 n (i + 1) _ (by omega) (by rw [List.length_append]; omega),hd]
   simp [endT]
theorem save_ok {xs : List T_Block.ty} (h : Blocks xs) (h32 : xs.length ≤ 32) : spec_SaveBlocks xs = some (endT (linesT xs),0) := by
 have hi := itoa5 (u := xs.length) (by omega)
 have hf : ∀ b,b ∈ xs → Fine b := fun b hb => fine (h.ok b hb)
 have a1 : ([97,114,99,104,105,118,101,32] : List UInt8).length + (Lib.itoa (xs.length : Int)).length ≤ strMax := by simp [strMax]; omega
 have a2 : (headT xs.length).length + ([10] : List UInt8).length ≤ strMax := by simp [strMax,headT]; omega
 have e : spec_l29Save xs = some (endT (linesT xs)) := by
  rw [spec_l29Save_eq,spec_l01Dec_itoa _ (by omega),Option.bind_some]
  split
  ·split
   ·refine (save_loop hf h32 xs.length 0 _ (by omega) (by simp; omega)).trans ?_
    simp [linesT,endT,headT]
   ·rename_i hne; exact absurd (decide_eq_true a2) hne
  ·rename_i hne; exact absurd (decide_eq_true a1) hne
 rw [spec_SaveBlocks_eq,(h.valid h32).2]
 simp only [Option.bind_some,Bool.not_true,Bool.false_eq_true,if_false,e]
theorem readBlock_ok {b : T_Block.ty} (h : Fine b) : impl_readBlock (lineT (restT b)) = some (b,0) := by
 have hr := rest_len h
 have hl := lineT_len (restT b)
 have h5 := five_len (crcT_lt (restT b))
 have n1 : ¬ ((lineT (restT b)).length : Int) < 6 := by omega
 have g5 : (lineT (restT b))[5]? = some 32 := by
  rw [lineT,List.getElem?_append_right (by omega),h5]; rfl
 have hd : (lineT (restT b)).drop 6 = restT b := by
  rw [lineT,List.drop_append,List.drop_eq_nil_of_le (by omega),List.nil_append,h5]; rfl
 have n6 : (6 : Int) ≤ ((lineT (restT b)).length : Int) := by omega
 have e1 : restT b = bK b ++ 32 :: (bN b ++ 32 :: bX b) := by simp [restT]
 have c1 : strings_Cut (restT b) [32] = some (bK b,bN b ++ 32 :: bX b,true) := by
  rw [strings_Cut_eq,if_pos (by simp; omega),e1,cut1_at _ (isName_no h.k (by decide))]
 have l1 : (bN b ++ 32 :: bX b).length ≤ 500 := by rw [e1,List.length_append,List.length_cons] at hr; omega
 have c2 : strings_Cut (bN b ++ 32 :: bX b) [32] = some (bN b,bX b,true) := by
  rw [strings_Cut_eq,if_pos (decide_eq_true (by omega)),cut1_at _ (isName_no h.n (by decide))]
 have hv : impl_ValidBlock (bK b,bN b,bX b,()) = some true := validBlock_ok h.ok
 rw [impl_readBlock_eq,if_neg (by simpa using n1),g5,Option.bind_some,if_neg (by decide),impl_readBlock_p0_eq,if_pos (decide_eq_true n6),hd,lineOf_ok (by omega)]
 simp only [Option.bind_some,beq_self_eq_true,Bool.not_true,Bool.false_eq_true,if_false,c1,c2,hv]
 rfl
theorem readBlock_bad {r : List UInt8} (hr : r.length ≤ 500) {i : Nat} {c : UInt8} (hi : i < (lineT r).length) (hc : c ≠ (lineT r)[i]) : ∃ (b : T_Block.ty) (e : Int),impl_readBlock ((lineT r).set i c) = some (b,e) ∧ e ≠ 0 := by
 have hl := lineT_len r
 have h5 := five_len (crcT_lt r)
 have hsl : ((lineT r).set i c).length = r.length + 6 := by rw [List.length_set,hl]
 have n1 : ¬ (((lineT r).set i c).length : Int) < 6 := by omega
 have n6 : (6 : Int) ≤ (((lineT r).set i c).length : Int) := by omega
 have g5 : (lineT r)[5]? = some 32 := by
  rw [lineT,List.getElem?_append_right (by omega),h5]; rfl
 have hd : (lineT r).drop 6 = r := by
  rw [lineT,List.drop_append,List.drop_eq_nil_of_le (by omega),List.nil_append,h5]; rfl
 rw [impl_readBlock_eq,if_neg (by simpa using n1)]
 by_cases e5 : i = 5
 ·subst e5
  have hne : ¬ c = 32 := fun e => hc (by rw [List.getElem?_eq_getElem hi] at g5; rw [Option.some.inj g5]; exact e)
  have hne2 : ((c.toNat : Int) != 32) = true := by
   rw [bne_iff_ne]; intro e
   exact hne (UInt8.toNat_inj.1 (show c.toNat = 32 by omega))
  rw [List.getElem?_set_self (by omega),Option.bind_some,if_pos hne2]
  exact ⟨_,_,rfl,by decide⟩
 ·rw [List.getElem?_set_ne e5,g5,Option.bind_some,if_neg (by decide),impl_readBlock_p0_eq,if_pos (decide_eq_true n6)]
  have key : ∃ t,impl_lineOf (((lineT r).set i c).drop 6) = some t ∧ ¬ (t == (lineT r).set i c) = true := by
   refine ⟨lineT (((lineT r).set i c).drop 6),lineOf_ok (by rw [List.length_drop]; omega),fun e => ?_⟩
   have e' := eq_of_beq e
   rcases Nat.lt_or_ge i 6 with h6 | h6
   ·have hd2 : ((lineT r).set i c).drop 6 = r := by rw [List.drop_set_of_lt h6,hd]
    rw [hd2] at e'
    have := congrArg (fun l => l[i]?) e'
    simp only [List.getElem?_set_self hi,List.getElem?_eq_getElem hi,Option.some.injEq] at this
    exact hc this.symm
   ·have hd2 : ((lineT r).set i c).drop 6 = r.set (i - 6) c := by rw [List.drop_set,if_neg (by omega),hd]
    have hir : i - 6 < r.length := by omega
    have hcr : c ≠ r[i - 6] := fun e2 => hc (by
     rw [e2]
     have : (lineT r)[i]? = r[i - 6]? := by
      have h0 := List.getElem?_drop (xs := lineT r) (i := 6) (j := i - 6)
      rw [hd,show 6 + (i - 6) = i by omega] at h0
      exact h0.symm
     rw [List.getElem?_eq_getElem hi,List.getElem?_eq_getElem hir] at this
     exact (Option.some.inj this).symm)
    rw [hd2] at e'
    have t5 := congrArg (List.take 5) e'
    have ta : (lineT (r.set (i - 6) c)).take 5 = five (crcT (r.set (i - 6) c)) := by
     rw [lineT,List.take_append_of_le_length (by rw [five_len (crcT_lt _)]; omega),List.take_of_length_le (by rw [five_len (crcT_lt _)]; omega)]
    have tb : ((lineT r).set i c).take 5 = five (crcT r) := by
     rw [List.take_set_of_le (by omega),lineT,List.take_append_of_le_length (by omega),List.take_of_length_le (by omega)]
    rw [ta,tb] at t5
    exact crcN_set hir hcr (by decide) (five_inj (crcT_lt _) (crcT_lt _) t5)
  obtain ⟨t,e1,e2⟩ := key
  have hk : (!(t == (lineT r).set i c)) = true := by simpa using e2
  have ed : impl_lineOf (List.drop 6 ((lineT r).set i c)) = some t := e1
  rw [ed,Option.bind_some,if_pos hk]
  exact ⟨_,_,rfl,by decide⟩
theorem split_end : ∀ {ls : List (List UInt8)},(∀ l,l ∈ ls → (10 : UInt8) ∉ l) → Lib.splitK [10] 0 (Lib.count (endT ls) [10]) (endT ls) = ls ++ [[]]
 | [],_ => split1_last (a := []) (fun h => by cases h)
 | l :: ls,h => by
   have e : endT (l :: ls) = l ++ 10 :: endT ls := by simp [endT]
   rw [e,split1_cons _ (h l List.mem_cons_self),split_end fun m hm => h m (List.mem_cons_of_mem _ hm)]
   rfl
theorem place : ∀ {ls : List (List UInt8)},(∀ l,l ∈ ls → (10 : UInt8) ∉ l) → ∀ {p : Nat} (hp : p < (endT ls).length),(endT ls)[p] ≠ 10 →
 ∃ (j i : Nat) (hj : j < ls.length) (hi : i < ls[j].length),((endT ls).take p).count 10 = j ∧ (endT ls)[p] = ls[j][i] ∧ ∀ c,(endT ls).set p c = endT (ls.set j (ls[j].set i c))
 | [],_,p,hp,_ => by simp [endT] at hp
 | l :: ls,h,p,hp,hne => by
   have e : endT (l :: ls) = l ++ 10 :: endT ls := by simp [endT]
   have hl := h l List.mem_cons_self
   rcases Nat.lt_trichotomy p l.length with hlt | heq | hgt
   ·refine ⟨0,p,by simp,by simpa using hlt,?_,?_,fun c => ?_⟩
    ·rw [e,List.take_append_of_le_length (by omega),List.count_eq_zero]
     exact fun hm => hl (List.mem_of_mem_take hm)
    ·simp only [e,List.getElem_append_left hlt,List.getElem_cons_zero]
    ·rw [e,List.set_append_left _ _ hlt]; simp [endT]
   ·exfalso
    apply hne
    simp only [e]
    rw [List.getElem_append_right (by omega)]
    simp [heq]
   ·have hq : p - l.length - 1 < (endT ls).length := by rw [e,List.length_append,List.length_cons] at hp; omega
    have hg : (endT (l :: ls))[p] = (endT ls)[p - l.length - 1] := by
     simp only [e]
     rw [List.getElem_append_right (by omega),List.getElem_cons,dif_neg (by omega)]
    obtain ⟨j,i,hj,hi,q1,q2,q3⟩ := place (fun m hm => h m (List.mem_cons_of_mem _ hm)) hq (by rw [← hg]; exact hne)
    refine ⟨j + 1,i,by simpa using hj,by simpa using hi,?_,?_,fun c => ?_⟩
    ·rw [e,List.take_append,List.take_of_length_le (by omega),List.count_append,List.count_eq_zero.2 hl,show p - l.length = (p - l.length - 1) + 1 by omega,List.take_succ_cons,List.count_cons_self,q1]; omega
    ·rw [hg,q2]; simp
    ·rw [e,List.set_append_right _ _ (by omega),show p - l.length = (p - l.length - 1) + 1 by omega,List.set_cons_succ,q3]
     simp [endT]
theorem putR_end {b : T_Block.ty} : ∀ {xs : List T_Block.ty},(∀ x,x ∈ xs → bl x b) → putR xs b = xs ++ [b]
 | [],_ => rfl
 | x :: xs,h => by rw [putR,if_pos (h x List.mem_cons_self),putR_end fun y hy => h y (List.mem_cons_of_mem _ hy)]; rfl
theorem xor8 {a b : Nat} (ha : a < 256) (hb : b < 256) : IntKind.u8.wrap ((BitVec.ofInt IntKind.u8.bits (a : Int) ^^^ BitVec.ofInt IntKind.u8.bits (b : Int)).toNat : Int) = ((a ^^^ b : Nat) : Int) := by
 have e : (BitVec.ofInt IntKind.u8.bits (a : Int) ^^^ BitVec.ofInt IntKind.u8.bits (b : Int)).toNat = a ^^^ b := by
  show (BitVec.ofInt 8 (a : Int) ^^^ BitVec.ofInt 8 (b : Int)).toNat = a ^^^ b
  rw [BitVec.toNat_xor,BitVec.ofInt_natCast,BitVec.ofInt_natCast,BitVec.toNat_ofNat,BitVec.toNat_ofNat,Nat.mod_eq_of_lt (by omega),Nat.mod_eq_of_lt (by omega)]
 have hx : a ^^^ b < 2 ^ 8 := Nat.xor_lt_two_pow ha hb
 rw [e,wu8 (by omega) (by omega)]
theorem at_ok (v1 : List Int) (h1 : ∀ x,x ∈ v1 → 0 ≤ x ∧ x ≤ 255) (k : Nat) (m : Int) (hm : 1 < m) : ∃ r : Int,laws_r8At v1 k m = some r ∧ 0 ≤ r ∧ r < m := by
 rw [laws_r8At_eq]
 simp only [show ¬ (m ≤ 1) by omega,decide_false,Bool.false_eq_true,if_false]
 by_cases c : (k : Int) ≥ (v1.length : Int)
 ·rw [if_pos (decide_eq_true c)]; exact ⟨0,rfl,by omega,by omega⟩
 ·have hk2 : k < v1.length := by omega
  obtain ⟨b0,b1⟩ := h1 _ (List.getElem_mem hk2)
  rw [if_neg (by simpa using c),laws_r8At_p0_eq]
  simp only [Int.natCast_nonneg,decide_true,if_true,Int.toNat_natCast,List.getElem?_eq_getElem hk2,Option.bind_some,show ¬ (m = 0) by omega,decide_false,Bool.false_eq_true,if_false]
  rw [w64 (n := v1[k]) (by omega) (by omega),tmod_nonneg_eq b0]
  exact ⟨_,rfl,Int.emod_nonneg _ (by omega),Int.emod_lt_of_pos _ (by omega)⟩
theorem wide_ok (v1 : List Int) (h1 : ∀ x,x ∈ v1 → 0 ≤ x ∧ x ≤ 255) (n : Nat) (hn : 0 < n) : ∃ p : Nat,laws_r8Wide v1 0 (n : Int) = some (p : Int) ∧ p < n := by
 obtain ⟨a,ea,a0,a1⟩ := at_ok v1 h1 0 256 (by omega)
 obtain ⟨b,eb,b0,b1⟩ := at_ok v1 h1 1 256 (by omega)
 have w1 : IntKind.i64.wrap (0 + 1) = ((1 : Nat) : Int) := by decide
 have w2 : IntKind.i64.wrap (256 * a) = 256 * a := w64 (by omega) (by omega)
 have w3 : IntKind.i64.wrap (256 * a + b) = 256 * a + b := w64 (by omega) (by omega)
 have ea' : laws_r8At v1 0 256 = some a := ea
 have q0 := Int.emod_nonneg (256 * a + b) (show (n : Int) ≠ 0 by omega)
 have q1 := Int.emod_lt_of_pos (256 * a + b) (show 0 < (n : Int) by omega)
 refine ⟨((256 * a + b) % (n : Int)).toNat,?_,by omega⟩
 rw [laws_r8Wide_eq]
 simp only [ea',Option.bind_some,w1,eb,w2,w3,show ¬ (n : Int) = 0 by omega,decide_false,Bool.false_eq_true,if_false]
 rw [tmod_nonneg_eq (by omega),Int.toNat_of_nonneg q0]
theorem head_no (n : Nat) : (10 : UInt8) ∉ headT n := fun h => by
 rw [headT] at h
 rcases List.mem_append.1 h with h | h
 ·revert h; decide
 ·exact itoa_no (n : Int) (by decide) (.inl (by decide)) h
theorem end_len (ls : List (List UInt8)) (m : Nat) (h : ∀ l,l ∈ ls → l.length ≤ m) : (endT ls).length ≤ (m + 1) * ls.length := by
 induction ls with
 | nil => simp [endT]
 | cons l ls ih =>
   have h1 := h l List.mem_cons_self
   have h2 := ih fun x hx => h x (List.mem_cons_of_mem _ hx)
   have e : endT (l :: ls) = (l ++ [10]) ++ endT ls := by simp [endT]
   have e5 : (m + 1) * (ls.length + 1) = (m + 1) * ls.length + (m + 1) := Nat.mul_succ _ _
   rw [e,List.length_append,List.length_append]
   simp only [List.length_cons,List.length_nil]
   rw [e5]; omega
theorem xor_ne {a b : Nat} (hb : b ≠ 0) : a ^^^ b ≠ a := fun e => by
 have h1 : a ^^^ (a ^^^ b) = a ^^^ a := congrArg (fun n => a ^^^ n) e
 rw [← Nat.xor_assoc,Nat.xor_self,Nat.zero_xor] at h1
 exact hb h1
end Go.Ab.P
