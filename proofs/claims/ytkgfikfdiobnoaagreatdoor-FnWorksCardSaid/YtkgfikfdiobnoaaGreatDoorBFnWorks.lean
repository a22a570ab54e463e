/- Lemmas on functions of the program. Conditions: told in each. -/
import Derived.Test.YtkgfikfdiobnoaaGreatDoorPFnWorks
set_option linter.unusedVariables false
set_option linter.unusedSimpArgs false
namespace Go.Ab.P
open Go.Ab
def Zco {α : Type} (ok : α → Bool) (id : α → List UInt8) : Option α → List α → Bool
 | _,[] => true
 | p,x :: r => ok x && ((match p with | none => true | some y => Op.bytesLess (id y) (id x)) && Zco ok id (some x) r)
theorem Zod {α : Type} {ok : α → Bool} {id : α → List UInt8} : ∀ {l : List α} {p : Option α},Zco ok id p l = true → ∀ x,x ∈ l → ok x = true
 | [],_,_,x,hx => by cases hx
 | y :: r,p,h,x,hx => by
   simp only [Zco,Bool.and_eq_true] at h
   rcases List.mem_cons.1 hx with rfl | hx
   ·exact h.1
   ·exact Zod h.2.2 x hx
theorem Zly {α : Type} (xs : List α) (one : α → Option Bool) (ok : α → Bool) (id : α → List UInt8) (p0 : Int → Option Bool) (last : Option Bool) (lb : Bool) (hlast : last = some lb)
 (heq : ∀ i : Int,p0 i = if decide (i < (xs.length : Int)) then (if decide (0 ≤ i) then (xs[i.toNat]?).bind fun x1 => (one x1).bind fun x2 => if (!x2) then some false else if decide (i > 0) then (if decide (0 ≤ IntKind.i64.wrap (i - 1)) then (xs[(IntKind.i64.wrap (i - 1)).toNat]?).bind fun x3 => if (!Op.bytesLess (id x3) (id x1)) then some false else p0 (IntKind.i64.wrap (i + 1)) else none) else p0 (IntKind.i64.wrap (i + 1)) else none) else last)
 (hs : xs.length ≤ 1048576) (h1 : ∀ x,x ∈ xs → one x = some (ok x)) :
 ∀ (k i : Nat),i + k = xs.length → p0 i = some (Zco ok id (if i = 0 then none else xs[i - 1]?) (xs.drop i) && lb)
 | 0,i,hk => by
   rw [heq,List.drop_eq_nil_of_le (by omega)]
   have : ¬ (i : Int) < (xs.length : Int) := by omega
   simp only [this,decide_false,Bool.false_eq_true,if_false,hlast,Zco,Bool.true_and]
 | k + 1,i,hk => by
   have hi : i < xs.length := by omega
   have hlt : (i : Int) < (xs.length : Int) := by omega
   have hw : IntKind.i64.wrap ((i : Int) + 1) = ((i + 1 : Nat) : Int) := by rw [w64 (by omega) (by omega)]; omega
   have ih := Zly xs one ok id p0 last lb hlast heq hs h1 k (i + 1) (by omega)
   rw [if_neg (by omega),Nat.add_sub_cancel,List.getElem?_eq_getElem hi] at ih
   rw [heq,List.drop_eq_getElem_cons hi]
   simp only [hlt,decide_true,if_true,Int.natCast_nonneg,Int.toNat_natCast,List.getElem?_eq_getElem hi,Option.bind_some,h1 xs[i] (List.getElem_mem hi),hw,ih,Zco]
   cases hok : ok xs[i]
   ·simp
   ·by_cases h0 : i = 0
    ·subst h0; simp
    ·have hp : (i : Int) > 0 := by omega
     have hw2 : IntKind.i64.wrap ((i : Int) - 1) = ((i - 1 : Nat) : Int) := by rw [w64 (by omega) (by omega)]; omega
     simp only [hp,decide_true,if_true,hw2,Int.natCast_nonneg,Int.toNat_natCast,List.getElem?_eq_getElem (show i - 1 < xs.length by omega),Option.bind_some,h0,if_false,Bool.not_true,Bool.false_eq_true]
     cases Op.bytesLess (id xs[i - 1]) (id xs[i]) <;> simp
theorem Zz9 {α : Type} (xs : List α) (one : α → Option Bool) (ok : α → Bool) (id : α → List UInt8) (p0 : Int → Option Bool) (last : Option Bool) (lb : Bool) (hlast : last = some lb)
 (heq : ∀ i : Int,p0 i = if decide (i < (xs.length : Int)) then (if decide (0 ≤ i) then (xs[i.toNat]?).bind fun x1 => (one x1).bind fun x2 => if (!x2) then some false else if decide (i > 0) then (if decide (0 ≤ IntKind.i64.wrap (i - 1)) then (xs[(IntKind.i64.wrap (i - 1)).toNat]?).bind fun x3 => if decide (0 ≤ i) then (xs[i.toNat]?).bind fun x4 => if (!Op.bytesLess (id x3) (id x4)) then some false else p0 (IntKind.i64.wrap (i + 1)) else none else none) else p0 (IntKind.i64.wrap (i + 1)) else none) else last)
 (hs : xs.length ≤ 1048576) (h1 : ∀ x,x ∈ xs → one x = some (ok x)) :
 ∀ (k i : Nat),i + k = xs.length → p0 i = some (Zco ok id (if i = 0 then none else xs[i - 1]?) (xs.drop i) && lb) := by
 refine Zly xs one ok id p0 last lb hlast (fun i => ?_) hs h1
 rw [heq]
 by_cases h : i < (xs.length : Int)
 ·by_cases h0 : 0 ≤ i
  ·simp only [h,h0,decide_true,if_true]
   cases xs[i.toNat]? <;> rfl
  ·simp only [h,h0,decide_true,decide_false,Bool.false_eq_true,if_true,if_false]
 ·simp only [h,decide_false,Bool.false_eq_true,if_false]
theorem wsucc {i : Nat} (h : i < 4611686018427387904) : IntKind.i64.wrap ((i : Int) + 1) = ((i + 1 : Nat) : Int) := by
 rw [w64 (by omega) (by omega)]; omega
theorem getElem?_lt {α : Type} {l : List α} {i : Nat} (h : i < l.length) : l[i]? = some l[i] := List.getElem?_eq_getElem h
theorem Zw5 {α : Type} {l : List α} {i : Nat} (h : i < l.length) : l.drop i = l[i] :: l.drop (i + 1) := List.drop_eq_getElem_cons h
theorem Zmz {a b : Int} (ha : 0 ≤ a) : a.tdiv b = a / b := Int.tdiv_eq_ediv_of_nonneg ha
theorem Zdv {a b : Int} (ha : 0 ≤ a) : a.tmod b = a % b := Int.tmod_eq_emod_of_nonneg ha
def small (c : UInt8) : Bool := decide (97 ≤ (c.toNat : Int)) && decide ((c.toNat : Int) ≤ 122)
def digit (c : UInt8) : Bool := decide (48 ≤ (c.toNat : Int)) && decide ((c.toNat : Int) ≤ 57)
def isName (s : List UInt8) : Bool := match s with | [] => false | c :: r => small c && r.all (fun c => small c || digit c) && decide (s.length ≤ 10)
def inR (n lo hi : Int) : Bool := decide (lo ≤ n) && decide (n ≤ hi)
theorem inR_iff' {n lo hi : Int} : inR n lo hi = true ↔ lo ≤ n ∧ n ≤ hi := by simp [inR]
theorem Zca (n lo hi : Int) : Zbg n lo hi = some (inR n lo hi) := by
 rw [Zuz,inR]; by_cases h : lo ≤ n <;> simp [h]
theorem Zn8 (n lo hi : Int) : Zfx n lo hi = some (inR n lo hi) := by
 rw [Zxp,inR]; by_cases h : lo ≤ n <;> simp [h]
theorem Zut (a b : Int) : Zlv a b = some (if b < a then b else a) := by
 rw [Zuo]; simp only [decide_eq_true_eq]; repeat' split
 all_goals first | rfl | (congr 1; omega)
theorem Zko (c : UInt8) : Zen (c.toNat : Int) = some (small c) := by
 rw [Zsc,small]; by_cases h : 97 ≤ (c.toNat : Int) <;> simp [h]
theorem Zrc (c : UInt8) : Zim (c.toNat : Int) = some (digit c) := by
 rw [Zsh,digit]; by_cases h : 48 ≤ (c.toNat : Int) <;> simp [h]
theorem Ztp (c : UInt8) : Zkl (c.toNat : Int) = some (digit c) := by
 rw [Ztu,digit]; by_cases h : 48 ≤ (c.toNat : Int) <;> simp [h]
theorem Zid (s : List UInt8) (hs : s.length < 4611686018427387904) : ∀ (k i : Nat),i + k = s.length → Zbz s i = some ((s.drop i).all fun c => small c || digit c)
 | 0,i,h => by
   rw [Zhl,List.drop_eq_nil_of_le (by omega)]
   simp; omega
 | k + 1,i,h => by
   have hi : i < s.length := by omega
   rw [Zhl,Zw5 hi]
   have h1 : (i : Int) < (s.length : Int) := by omega
   simp only [h1,decide_true,if_true,Int.natCast_nonneg,Int.toNat_natCast,getElem?_lt hi,Option.bind_some,Zko,Zrc,wsucc (show i < 4611686018427387904 by omega),Zid s hs k (i + 1) (by omega),List.all_cons]
   cases small s[i] <;> cases digit s[i] <;> simp
theorem Zta (s : List UInt8) (hs : s.length < 4611686018427387904) : Zjy s = some (isName s) := by
 rw [Zs8]
 cases s with
 | nil => rfl
 | cons c r =>
   have := Zid (c :: r) hs (r.length + 1) 0 (by simp)
   simp only [Zpk,List.getElem?_cons_zero,Option.bind_some,Zko]
   rw [show ((0 : Nat) : Int) = 0 from rfl] at this
   rw [this,isName]
   have e0 : ((c :: r) == ([] : List UInt8)) = false := by simp
   by_cases hl : ((c :: r).length : Int) > 10
   ·have : ¬ (c :: r).length ≤ 10 := by omega
    simp only [e0,hl,this,decide_true,decide_false,if_true,Bool.false_eq_true,if_false,Bool.and_false]
   ·have : (c :: r).length ≤ 10 := by omega
    simp only [e0,hl,this,decide_true,decide_false,if_true,Bool.false_eq_true,if_false,Bool.and_true]
    cases hc : small c <;> simp [hc]
def okFrom : Nat → List UInt8 → Bool
 | _,[] => true
 | i,c :: r => (small c || (i != 0 && digit c)) && okFrom (i + 1) r
theorem Z14 (r : List UInt8) : ∀ i,okFrom (i + 1) r = r.all fun c => small c || digit c := by
 induction r with
 | nil => intro i; rfl
 | cons c r ih => intro i; simp [okFrom,ih]
theorem Zi1 (s : List UInt8) (hs : s.length < 4611686018427387904) : ∀ (k i : Nat),i + k = s.length → Zch s i = some (okFrom i (s.drop i) && (!(s == []) && decide (s.length ≤ 10)))
 | 0,i,h => by
   rw [Zi8,List.drop_eq_nil_of_le (by omega),Zl4]
   have h1 : ¬ (i : Int) < (s.length : Int) := by omega
   simp only [h1,decide_false,Bool.false_eq_true,if_false,okFrom,Option.bind_some,Bool.true_and]
   cases s with
   | nil => rfl
   | cons c r =>
     have : ((c :: r == []) = false) := by simp
     simp only [this,Bool.not_false,if_true,Bool.true_and]
     congr 1
     simp only [decide_eq_decide]; omega
 | k + 1,i,h => by
   have hi : i < s.length := by omega
   have h1 : (i : Int) < (s.length : Int) := by omega
   have ih := Zi1 s hs k (i + 1) (by omega)
   have e1 : ∀ b : Bool,Zd2 s i b = some (((b || (i != 0 && digit s[i])) && okFrom (i + 1) (s.drop (i + 1))) && (!(s == []) && decide (s.length ≤ 10))) := by
    intro b
    rw [Zqz]
    simp only [Int.natCast_nonneg,decide_true,if_true,Int.toNat_natCast,getElem?_lt hi,Option.bind_some,Ztp,wsucc (show i < 4611686018427387904 by omega),ih]
    cases b
    ·by_cases h0 : i = 0
     ·subst h0; simp
     ·have : ((i : Int) == 0) = false := by simp [h0]
      have : (i != 0) = true := by simp [h0]
      simp only [*]
      cases digit s[i] <;> simp
    ·simp
   rw [Zi8,Zw5 hi,okFrom]
   simp only [h1,decide_true,if_true,Int.natCast_nonneg,Int.toNat_natCast,getElem?_lt hi,Option.bind_some,e1,small]
   by_cases h97 : (s[i].toNat : Int) ≥ 97 <;> simp [h97]
theorem Zvj (s : List UInt8) (hs : s.length < 4611686018427387904) : Zl8 s = some (isName s) := by
 rw [Zuw]
 have := Zi1 s hs s.length 0 (by simp)
 rw [show ((0 : Nat) : Int) = 0 from rfl] at this
 rw [this]
 cases s with
 | nil => rfl
 | cons c r => simp [okFrom,Z14,isName]
theorem Zht (l : List Int) (hl : l.length ≤ 1000) : ∀ (k : Nat) (r : List Int),k ≤ l.length → r.length + k ≤ 1000 → Zd1 ((k : Int) - 1) l r = some ((r ++ (l.take k).reverse).map vu8)
 | 0,r,hk,hr => by
   rw [Zja]
   have : ¬ ((0 : Nat) : Int) - 1 ≥ 0 := by omega
   simp only [this,decide_false,Bool.false_eq_true,if_false,List.take_length,List.take_zero,List.reverse_nil,List.append_nil]
 | k + 1,r,hk,hr => by
   rw [Zja,show ((k + 1 : Nat) : Int) - 1 = (k : Int) by omega]
   have h1 : (k : Int) ≥ 0 := by omega
   have h2 : (0 : Int) ≤ (k : Int) := by omega
   have h3 : (k : Int) < (l.length : Int) := by omega
   have h4 : r.length + 1 < lim := by rw [lim_eq]; omega
   have ih := Zht l hl k (r ++ [l[k]]) (by omega) (by simp; omega)
   simp only [h1,h2,h3,decide_true,Bool.and_self,if_true,Int.toNat_natCast,getElem?_lt (show k < l.length by omega),Option.bind_some,h4,List.take_length,w64 (n := (k : Int) - 1) (by omega) (by omega),ih]
   rw [List.take_succ_eq_append_getElem (by omega),List.reverse_append,List.append_assoc]; rfl
theorem Zph (l : List Int) (hl : l.length ≤ 900) : Zck l = some (l.reverse.map vu8) := by
 rw [Zqv,w64 (n := (l.length : Int) - 1) (by omega) (by omega),Zht l (by omega) l.length [] (by omega) (by simp; omega),List.nil_append,List.take_length]
def revDigs (u : Nat) : List Int := (Lib.decDigits u).reverse.map fun c => (c.toNat : Int)
theorem Zek {u : Nat} (h : u < 10) : Lib.decDigits u = [UInt8.ofNat (48 + u)] := by rw [Lib.decDigits,dif_pos h]
theorem Zmr {u : Nat} (h : ¬ u < 10) : Lib.decDigits u = Lib.decDigits (u / 10) ++ [UInt8.ofNat (48 + u % 10)] := by rw [Lib.decDigits,dif_neg h]
theorem dig48 {d : Nat} (h : d < 10) : ((UInt8.ofNat (48 + d)).toNat : Int) = 48 + (d : Int) := by
 have : (UInt8.ofNat (48 + d)).toNat = 48 + d := by simp; omega
 rw [this]; omega
theorem wrapU8 {n : Int} (h1 : 0 ≤ n) (h2 : n < 256) : IntKind.u8.wrap n = n := by
 simp only [IntKind.wrap,IntKind.bits,IntKind.signed]
 first
  | omega
  | (simp; omega)
theorem Zh9 (n : Int) : ∀ (k u : Nat) (v : Int) (r : List Int),(0 ≤ v ∧ v = (u : Int) ∨ v < 0 ∧ v = -(u : Int)) → u ≤ 2000000000000000000 → u < 10 ^ k → u ≠ 0 → (0 ≤ n ↔ 0 ≤ v) → r.length + k ≤ 800 →
 Zbl n v r = Zck (r ++ revDigs u ++ if n < 0 then [45] else [])
 | 0,u,v,r,hv,hb,hu,hz,hn,hr => by simp at hu; omega
 | k + 1,u,v,r,hv,hb,hu,hz,hn,hr => by
   have hp : 10 ^ (k + 1) = 10 ^ k * 10 := Nat.pow_succ ..
   have hvz : (v != 0) = true := by
    have : v ≠ 0 := by omega
    simpa using this
   have h4 : r.length + 1 < lim := by rw [lim_eq]; omega
   have key : Zbl n v r = Zbl n (if v < 0 then -((u / 10 : Nat) : Int) else ((u / 10 : Nat) : Int)) (r ++ [48 + ((u % 10 : Nat) : Int)]) := by
    rw [Zi5]
    simp only [hvz,if_true]
    have wrapd : IntKind.u8.wrap (IntKind.i64.wrap (48 + ((u % 10 : Nat) : Int))) = 48 + ((u % 10 : Nat) : Int) := by
     rw [w64 (by omega) (by omega)]
     exact wrapU8 (by omega) (by omega)
    rcases hv with ⟨h0,e⟩ | ⟨h0,e⟩
    ·have hm : v.tmod 10 = ((u % 10 : Nat) : Int) := by rw [e,Zdv (by omega)]; omega
     have hd : v.tdiv 10 = ((u / 10 : Nat) : Int) := by rw [e,Zmz (by omega)]; omega
     have hnn : ¬ ((u % 10 : Nat) : Int) < 0 := by omega
     have hnv : ¬ v < 0 := by omega
     simp only [hm,hnn,decide_false,Bool.false_eq_true,if_false,hnv,Zd3,h4,decide_true,if_true,List.take_length,hd,w64 (n := ((u / 10 : Nat) : Int)) (by omega) (by omega),wrapd]
    ·have hm : v.tmod 10 = -((u % 10 : Nat) : Int) := by
      rw [e,Int.neg_tmod,Zdv (by omega)]; omega
     have hd : v.tdiv 10 = -((u / 10 : Nat) : Int) := by
      rw [e,Int.neg_tdiv,Zmz (by omega)]; omega
     have e0 : IntKind.i64.wrap (0 - -((u % 10 : Nat) : Int)) = ((u % 10 : Nat) : Int) := by rw [w64 (by omega) (by omega)]; omega
     by_cases hc : -((u % 10 : Nat) : Int) < 0
     ·simp only [hm,hc,decide_true,if_true,h0,Zd3,h4,List.take_length,hd,w64 (n := -((u / 10 : Nat) : Int)) (by omega) (by omega),e0,wrapd]
     ·have e1 : -((u % 10 : Nat) : Int) = ((u % 10 : Nat) : Int) := by omega
      have hc' : ¬ ((u % 10 : Nat) : Int) < 0 := by omega
      rw [e1] at hm
      simp only [hm,hc',decide_false,Bool.false_eq_true,if_false,h0,if_true,Zd3,h4,decide_true,List.take_length,hd,w64 (n := -((u / 10 : Nat) : Int)) (by omega) (by omega),wrapd]
   rw [key]
   by_cases hs : u < 10
   ·have hq : u / 10 = 0 := by omega
    have hz0 : (if v < 0 then -((u / 10 : Nat) : Int) else ((u / 10 : Nat) : Int)) = 0 := by rw [hq]; split <;> rfl
    have e2 : revDigs u = [48 + ((u % 10 : Nat) : Int)] := by
     rw [revDigs,Zek hs,List.reverse_singleton,List.map_singleton,dig48 hs,Nat.mod_eq_of_lt hs]
    rw [hz0,Zi5,e2]
    have h5 : (r ++ [48 + ((u % 10 : Nat) : Int)]).length + 1 < lim := by rw [lim_eq]; simp; omega
    by_cases hn0 : n < 0
    ·simp only [bne_self_eq_false,Bool.false_eq_true,if_false,hn0,decide_true,if_true,h5,List.take_length]
    ·simp only [bne_self_eq_false,Bool.false_eq_true,if_false,hn0,decide_false,List.append_nil]
   ·have e2 : revDigs u = (48 + ((u % 10 : Nat) : Int)) :: revDigs (u / 10) := by
     rw [revDigs,Zmr hs,List.reverse_append,List.reverse_singleton,List.singleton_append,List.map_cons,dig48 (Nat.mod_lt u (by omega)),revDigs]
    rw [Zh9 n k (u / 10) _ (r ++ [48 + ((u % 10 : Nat) : Int)]) (by split <;> omega) (by omega) (by omega) (by omega) (by split <;> omega) (by simp; omega),e2]
    simp only [List.append_assoc,List.singleton_append,List.cons_append,List.nil_append]
theorem Zx4 (u : Nat) : (revDigs u).reverse.map vu8 = Lib.decDigits u := by
 rw [revDigs,← List.map_reverse,List.reverse_reverse,List.map_map]
 conv => rhs; rw [← List.map_id (Lib.decDigits u)]
 exact List.map_congr_left fun c _ => by simp [vu8]
theorem decLen : ∀ (k u : Nat),u < 10 ^ (k + 1) → (Lib.decDigits u).length ≤ k + 1
 | 0,u,h => by rw [Zek (by simpa using h)]; simp
 | k + 1,u,h => by
   by_cases hs : u < 10
   ·rw [Zek hs]; simp
   ·have hp : 10 ^ (k + 1 + 1) = 10 ^ (k + 1) * 10 := Nat.pow_succ ..
    have := decLen k (u / 10) (by omega)
    rw [Zmr hs,List.length_append,List.length_singleton]; omega
theorem Zzu (u : Nat) (h : u ≤ 2000000000000000000) : (revDigs u).length ≤ 20 := by
 rw [revDigs,List.length_map,List.length_reverse]
 have h10 : (10 : Nat) ^ (19 + 1) = 100000000000000000000 := by decide
 exact decLen 19 u (by omega)
theorem Zrm (n : Int) (h : -2000000000000000000 ≤ n ∧ n ≤ 2000000000000000000) : Zl2 n = some (Lib.itoa n) := by
 rw [Zvp]
 by_cases hz : n = 0
 ·subst hz; simp only [beq_self_eq_true,if_true]; rw [Lib.itoa,if_neg (by decide),show (0 : Int).toNat = 0 from rfl,Zek (by decide)]; rfl
 have hz' : (n == 0) = false := by simpa using hz
 simp only [hz',Bool.false_eq_true,if_false]
 have hu : n.natAbs < 10 ^ 20 := by
  have : (10 : Nat) ^ 20 = 100000000000000000000 := by decide
  omega
 rw [Zh9 n 20 n.natAbs n [] (by omega) (by omega) hu (by omega) Iff.rfl (by simp),Zph _ (by
  have := Zzu n.natAbs (by omega)
  rw [List.nil_append,List.length_append]
  split <;> simp <;> omega)]
 rw [List.nil_append,List.reverse_append,List.map_append,Zx4]
 unfold Lib.itoa
 by_cases hn : n < 0
 ·rw [if_pos hn,if_pos hn]; rfl
 ·rw [if_neg hn,if_neg hn,show n.toNat = n.natAbs by omega]; rfl
theorem Zq7 {c : UInt8} : ∀ {a : List UInt8},c ∉ a → Lib.index a [c] = -1
 | [],_ => rfl
 | b :: l,h => by
   have h1 : (c == b) = false := by simp at h; simpa using h.1
   have h2 := Zq7 (a := l) (fun e => h (List.mem_cons_of_mem _ e))
   unfold Lib.index
   simp [List.isPrefixOf,h1,h2]
theorem Zpz {c : UInt8} : ∀ {a : List UInt8} (r : List UInt8),c ∉ a → Lib.index (a ++ c :: r) [c] = a.length
 | [],r,_ => by simp [Lib.index,List.isPrefixOf]
 | b :: l,r,h => by
   have h1 : (c == b) = false := by simp at h; simpa using h.1
   have h2 := Zpz (a := l) r (fun e => h (List.mem_cons_of_mem _ e))
   rw [List.cons_append]
   unfold Lib.index
   have h3 : ((l.length : Int) == -1) = false := by rw [beq_eq_false_iff_ne]; omega
   simp [List.isPrefixOf,h1,h2,h3]
theorem Zz7 {c : UInt8} {a : List UInt8} (h : c ∉ a) : Lib.splitK [c] 0 (Lib.count a [c]) a = [a] := by
 rw [Lib.count_miss (Zq7 h)]; rfl
theorem Zzt {c : UInt8} {a : List UInt8} (r : List UInt8) (h : c ∉ a) : Lib.splitK [c] 0 (Lib.count (a ++ c :: r) [c]) (a ++ c :: r) = a :: Lib.splitK [c] 0 (Lib.count r [c]) r := by
 have hi := Zpz r h
 have hm : ¬ ((a.length : Int) == -1) = true := by rw [beq_iff_eq]; omega
 have hd : (a ++ c :: r).drop (a.length + [c].length) = r := by simp [List.drop_append]
 rw [Lib.count_hit (by simp) hi,hd,Nat.add_comm 1,Lib.splitK,hi,if_neg hm,Int.toNat_natCast,hd]
 simp
theorem Z5j {c : UInt8} {a : List UInt8} (r : List UInt8) (h : c ∉ a) : Lib.cut (a ++ c :: r) [c] = (a,r,true) := by
 unfold Lib.cut
 rw [Zpz r h,if_pos (by omega),Int.toNat_natCast]
 simp [List.drop_append]
theorem Zt6 (n : Int) (h : -9223372036854775808 ≤ n ∧ n ≤ 9223372036854775807) : Zj7 n = some (Lib.itoa n) := by
 rw [Zs5,Zna]
 simp [h.1,h.2]
theorem wu64 {n : Int} (h1 : 0 ≤ n) (h2 : n < 18446744073709551616) : IntKind.u64.wrap n = n := by
 have e : IntKind.u64.wrap n = if decide false = true then n % 18446744073709551616 - 18446744073709551616 else n % 18446744073709551616 := by
  simp [IntKind.wrap,IntKind.signed,IntKind.bits]
 rw [e]
 simp; omega
theorem and255 (x : Int) : ((BitVec.ofInt IntKind.u64.bits x &&& BitVec.ofInt IntKind.u64.bits 255).toNat : Int) ≤ 255 := by
 have : (BitVec.ofInt IntKind.u64.bits x &&& BitVec.ofInt IntKind.u64.bits 255).toNat ≤ 255 := by
  rw [BitVec.toNat_and]
  refine Nat.le_trans Nat.and_le_right ?_
  decide
 omega
def SrcOk (s : Zaa.ty) (c : Int) : Prop := (∀ x : Int,x ∈ s.1 → 0 ≤ x ∧ x ≤ 255) ∧ s.1.length ≤ 1048576 ∧ (0 : Int) ≤ s.2.1 ∧ (s.2.1 : Int) ≤ c
theorem Za1 (s : Zaa.ty) : (s.1,s.2.1,s.2.2.1,()) = s := rfl
theorem SrcOk.up {s : Zaa.ty} {c d : Int} (h : SrcOk s c) (hd : c ≤ d) : SrcOk s d := ⟨h.1,h.2.1,h.2.2.1,Int.le_trans h.2.2.2 hd⟩
theorem Zto (v : Int) (l : List Int) (a h : Int) (c : Int) (hs : SrcOk (l,a,h,()) c) (hc : c ≤ 1152921504606846976) (hv : 0 ≤ v ∧ v ≤ 255) :
 ∃ (u : Int) (s' : Zaa.ty),Zbp v l a h = some (u,s') ∧ SrcOk s' (c + 1) ∧ 0 ≤ u ∧ u ≤ 255 := by
 obtain ⟨h1,h2,h3,h4⟩ := hs
 have h3 : 0 ≤ a := h3
 have h4 : a ≤ c := h4
 rw [Zl1,w64 (n := a + 1) (by omega) (by omega)]
 split
 ·exact ⟨_,_,rfl,⟨h1,h2,by show (0 : Int) ≤ a + 1; omega,by show (a + 1 : Int) ≤ c + 1; omega⟩,hv⟩
 ·refine ⟨_,_,rfl,⟨h1,h2,by show (0 : Int) ≤ a + 1; omega,by show (a + 1 : Int) ≤ c + 1; omega⟩,?_⟩
  generalize hx : ((BitVec.ofInt IntKind.u64.bits _ &&& BitVec.ofInt IntKind.u64.bits 255).toNat : Int) = x
  have := and255 (Int.fdiv (IntKind.u64.wrap ((IntKind.u64.wrap ((IntKind.u64.wrap (h * 6364136223846793005)) + (IntKind.u64.wrap v))) + 1442695040888963407)) (2 ^ (min (40 : Int).toNat IntKind.u64.bits)))
  rw [hx] at this
  have h0 : 0 ≤ x := by rw [← hx]; exact Int.natCast_nonneg _
  rw [wu64 h0 (by omega),w64 (by omega) (by omega)]
  exact ⟨h0,this⟩
theorem Z28 (l : List Int) (a h c : Int) (hs : SrcOk (l,a,h,()) c) (hc : c ≤ 1152921504606846976) : ∃ (u : Int) (s' : Zaa.ty),Zbn (l,a,h,()) = some (u,s') ∧ SrcOk s' (c + 1) ∧ 0 ≤ u ∧ u ≤ 255 := by
 have h3 : (0 : Int) ≤ a := hs.2.2.1
 rw [Zog]
 dsimp only
 split
 ·rename_i hlt
  simp only [decide_eq_true_eq] at hlt
  have hlt' : a < (List.length (α := Int) l : Int) := hlt
  have hi : a.toNat < l.length := by omega
  obtain ⟨x,hx⟩ : ∃ x,l[a.toNat]? = some x := ⟨_,List.getElem?_eq_getElem hi⟩
  have hm : 0 ≤ x ∧ x ≤ 255 := hs.1 x (List.mem_of_getElem? hx)
  rw [if_pos (by simpa using h3),hx,Option.bind_some,w64 (n := x) (by omega) (by omega)]
  exact Zto x l a h c hs hc hm
 ·exact Zto 0 l a h c hs hc ⟨by omega,by omega⟩
theorem Z02 {s : Zaa.ty} {c : Int} (hs : SrcOk s c) (hc : c ≤ 1152921504606846976) : ∃ (u : Int) (s' : Zaa.ty),Zbn s = some (u,s') ∧ SrcOk s' (c + 1) ∧ 0 ≤ u ∧ u ≤ 255 :=
 Z28 s.1 s.2.1 s.2.2.1 c hs hc
theorem Zg5 {s : Zaa.ty} {c : Int} (hs : SrcOk s c) (hc : c ≤ 1000000000000000000) (n : Int) (hn : n ≤ 65536) :
 ∃ (u : Int) (s' : Zaa.ty),Zam s n = some (u,s') ∧ SrcOk s' (c + 2) ∧ 0 ≤ u ∧ (u = 0 ∨ u < n) := by
 rw [Zom]
 by_cases h1 : n ≤ 1
 ·simp only [h1,decide_true,if_true]
  exact ⟨0,s,rfl,hs.up (by omega),by omega,.inl rfl⟩
 ·obtain ⟨u,s1,e1,k1,b1,b2⟩ := Z02 hs (by omega)
  have hn0 : ¬ n = 0 := by omega
  simp only [h1,decide_false,Bool.false_eq_true,if_false,e1,Option.bind_some,Za1,hn0]
  by_cases h2 : n > 200
  ·obtain ⟨v,s2,e2,k2,b3,b4⟩ := Z02 k1 (by omega)
   simp only [h2,decide_true,if_true,e2,Option.bind_some,Za1]
   rw [w64 (n := u * 256) (by omega) (by omega),w64 (n := u * 256 + v) (by omega) (by omega),Zdv (by omega)]
   exact ⟨_,s2,rfl,k2.up (by omega),Int.emod_nonneg _ hn0,.inr (Int.emod_lt_of_pos _ (by omega))⟩
  ·simp only [h2,decide_false,Bool.false_eq_true,if_false]
   rw [Zdv b1]
   exact ⟨_,s1,rfl,k1.up (by omega),Int.emod_nonneg _ hn0,.inr (Int.emod_lt_of_pos _ (by omega))⟩
theorem one_ok {s : Zaa.ty} {c : Int} (hs : SrcOk s c) (hc : c ≤ 1000000000000000000) (n : Int) (hn : n ≤ 65536) :
 ∃ (u : Bool) (s' : Zaa.ty),Zf9 s n = some (u,s') ∧ SrcOk s' (c + 2) := by
 obtain ⟨u,s1,e1,k1,_⟩ := Zg5 hs hc n hn
 rw [Zo7]
 simp only [e1,Option.bind_some,Za1]
 exact ⟨_,s1,rfl,k1⟩
theorem Zkn {s : Zaa.ty} {c : Int} (hs : SrcOk s c) (hc : c ≤ 1000000000000000000) (l : List Int) (h0 : 0 < l.length) (hn : l.length ≤ 65536) :
 ∃ (u : Int) (s' : Zaa.ty),Zar s l = some (u,s') ∧ SrcOk s' (c + 2) ∧ u ∈ l := by
 obtain ⟨u,s1,e1,k1,b1,b2⟩ := Zg5 hs hc (l.length : Int) (by omega)
 have hi : u.toNat < l.length := by omega
 rw [Zng]
 simp only [e1,Option.bind_some,Za1,b1,decide_true,if_true,List.getElem?_eq_getElem hi]
 exact ⟨_,s1,rfl,k1,List.getElem_mem hi⟩
theorem Zy7 {l : List Int} (h : CT.wf (.sl (.one (.int .u8))) l) : ∀ x,x ∈ l → 0 ≤ x ∧ x ≤ 255 := fun x hx => by
 have : (Lit.int .u8 x).wf = true := h.2 x hx
 simp [Lit.wf,IntKind.min,IntKind.max,IntKind.signed,IntKind.bits] at this
 omega
theorem Zkq {d : Nat} (h : d < 10) : (UInt8.ofNat (48 + d)).toNat = 48 + d := by
 rw [UInt8.toNat_ofNat']; omega
theorem Zem (u : Nat) : ∀ c,c ∈ Lib.decDigits u → 48 ≤ c.toNat ∧ c.toNat ≤ 57 := by
 induction u using Nat.strongRecOn with
 | _ u ih =>
   intro c hc
   rw [Lib.decDigits] at hc
   split at hc
   ·rename_i h
    simp only [List.mem_singleton] at hc
    rw [hc,Zkq h]; omega
   ·rename_i h
    rcases List.mem_append.1 hc with h1 | h1
    ·exact ih (u / 10) (by omega) c h1
    ·simp only [List.mem_singleton] at h1
     rw [h1,Zkq (by omega)]; omega
theorem Zc1 : ∀ (k u : Nat),u < 10 ^ (k + 1) → (Lib.decDigits u).length ≤ k + 1 ∧ 1 ≤ (Lib.decDigits u).length
 | 0,u,h => by
   rw [Lib.decDigits,dif_pos (by simpa using h)]; simp
 | k + 1,u,h => by
   rw [Lib.decDigits]
   split
   ·simp
   ·have hq : u / 10 < 10 ^ (k + 1) := by
     have : 10 ^ (k + 1 + 1) = 10 ^ (k + 1) * 10 := Nat.pow_succ ..
     omega
    have := Zc1 k (u / 10) hq
    simp only [List.length_append,List.length_singleton]
    omega
theorem Zzf (u : Nat) : Lib.itoa (u : Int) = Lib.decDigits u := by unfold Lib.itoa; rw [if_neg (by omega)]; simp
theorem up_app : ∀ (a b : List UInt8) (n m : Nat),Lib.parseUint10 n a = .ok m → Lib.parseUint10 n (a ++ b) = Lib.parseUint10 m b
 | [],b,n,m,h => by
   simp only [Lib.parseUint10,Lib.NumEnd.ok.injEq] at h
   rw [h]; rfl
 | c :: r,b,n,m,h => by
   simp only [Lib.parseUint10] at h
   rw [List.cons_append,Lib.parseUint10]
   split at h
   ·rename_i h1
    split at h
    ·cases h
    ·rename_i h2
     split at h
     ·cases h
     ·rename_i h3
      rw [if_pos h1,if_neg h2,if_neg h3]
      exact up_app r b _ m h
   ·cases h
theorem up_dec (u : Nat) (hu : u < 10 ^ 18) : Lib.parseUint10 0 (Lib.decDigits u) = .ok u := by
 have e18 : (10 : Nat) ^ 18 = 1000000000000000000 := by decide
 induction u using Nat.strongRecOn with
 | _ u ih =>
   rw [Lib.decDigits]
   split
   ·rename_i h
    simp only [Lib.parseUint10]
    rw [Zkq h,if_pos (by omega),if_neg (by omega),if_neg (by omega)]
    congr 1; omega
   ·rename_i h
    rw [up_app _ _ 0 (u / 10) (ih (u / 10) (by omega) (by omega))]
    simp only [Lib.parseUint10]
    rw [Zkq (by omega),if_pos (by omega),if_neg (by omega),if_neg (by omega)]
    congr 1; omega
theorem dec_ne (u : Nat) : Lib.decDigits u ≠ [] := by
 rw [Lib.decDigits]; split <;> simp
theorem Zyv (u : Nat) (h : 0 < u) : Lib.itoa (-(u : Int)) = 45 :: Lib.decDigits u := by
 unfold Lib.itoa; rw [if_pos (by omega)]; simp
theorem Zxm (n : Int) (h : -1000000000000 ≤ n ∧ n ≤ 1000000000000) : Zcu (Lib.itoa n) = (n,true) := by
 have e18 : (10 : Nat) ^ 18 = 1000000000000000000 := by decide
 have e13 : (10 : Nat) ^ (13 + 1) = 100000000000000 := by decide
 by_cases hn : n < 0
 ·obtain ⟨u,rfl,hu0,hu⟩ : ∃ u : Nat,n = -(u : Int) ∧ 0 < u ∧ u ≤ 1000000000000 := ⟨n.natAbs,by omega,by omega,by omega⟩
  have hl := Zc1 13 u (by omega)
  unfold Zcu
  rw [Zyv u hu0]
  have ht : Lib.trimPrefix (45 :: Lib.decDigits u) [45] = Lib.decDigits u := by simp [Lib.trimPrefix,Lib.hasPrefix,List.isPrefixOf]
  have hp : Lib.parseIntB 64 (45 :: Lib.decDigits u) = .ok (-(u : Int)) := by
   have hm : Lib.parseMag (Lib.decDigits u) = .ok u := by rw [Lib.parseMag,if_neg (dec_ne u),up_dec u (by omega)]
   rw [Lib.parseIntB_64,Lib.atoiAll]
   simp only [show (45 : UInt8).toNat = 45 from rfl,or_true,if_true,hm]
   rw [if_neg (by simp),if_neg (by simp; omega)]
  rw [ht,if_neg (by omega),hp]
  simp only [Zyv u hu0,if_true]
 ·obtain ⟨u,rfl,hu⟩ : ∃ u : Nat,n = (u : Int) ∧ u ≤ 1000000000000 := ⟨n.toNat,by omega,by omega⟩
  have hl := Zc1 13 u (by omega)
  unfold Zcu
  rw [Zzf u]
  cases hd : Lib.decDigits u with
  | nil => exact absurd hd (dec_ne u)
  | cons c r =>
    have hc := Zem u c (by rw [hd]; simp)
    have h45 : c ≠ 45 := fun e => by subst e; simp at hc
    have ht : Lib.trimPrefix (c :: r) [45] = c :: r := by simp [Lib.trimPrefix,Lib.hasPrefix,List.isPrefixOf,Ne.symm h45]
    have hp : Lib.parseIntB 64 (c :: r) = .ok (u : Int) := by
     have hm : Lib.parseMag (c :: r) = .ok u := by rw [← hd,Lib.parseMag,if_neg (dec_ne u),up_dec u (by omega)]
     rw [Lib.parseIntB_64,Lib.atoiAll]
     have h1 : ¬ c.toNat = 43 := by omega
     have h2 : ¬ c.toNat = 45 := by omega
     simp only [h1,h2,or_self,if_false,hm,not_false_eq_true,true_and,false_and]
     rw [if_neg (by omega)]
    rw [ht,← hd,if_neg (by omega),hd,hp]
    simp only [Zzf u,hd,if_true]
theorem Zsa (n : Int) (h : -1000000000000 ≤ n ∧ n ≤ 1000000000000) : 1 ≤ (Lib.itoa n).length ∧ (Lib.itoa n).length ≤ 15 := by
 have e13 : (10 : Nat) ^ (13 + 1) = 100000000000000 := by decide
 unfold Lib.itoa
 split
 ·have := Zc1 13 n.natAbs (by omega)
  simp; omega
 ·have := Zc1 13 n.toNat (by omega)
  omega
theorem Z6a (n : Int) : Lib.itoa n ≠ [45] := by
 unfold Lib.itoa
 split
 ·have := dec_ne n.natAbs
  intro e; simp at e; exact this e
 ·intro e
  have := Zem n.toNat 45 (by rw [e]; simp)
  simp at this
theorem Z4j (n : Int) (c : UInt8) (hc : c ∈ Lib.itoa n) : c = 45 ∨ 48 ≤ c.toNat ∧ c.toNat ≤ 57 := by
 unfold Lib.itoa at hc
 split at hc
 ·rcases List.mem_cons.1 hc with h | h
  ·exact .inl h
  ·exact .inr (Zem _ c h)
 ·exact .inr (Zem _ c hc)
theorem Z5t (n : Int) {c : UInt8} (h : c ≠ 45) (h' : c.toNat < 48 ∨ 57 < c.toNat) : c ∉ Lib.itoa n := fun e => by
 rcases Z4j n c e with h1 | h1
 ·exact h h1
 ·omega
theorem Z1x (x y : List UInt8) (r : List (List UInt8)) (c : UInt8) : Lib.join (x :: y :: r) [c] = x ++ c :: Lib.join (y :: r) [c] := by
 rw [Lib.join_cons,Lib.join_cons]
 simp [Lib.joinTail]
theorem Zti {c : UInt8} : ∀ (x : List UInt8) (r : List (List UInt8)),(∀ y,y ∈ x :: r → c ∉ y) →
 Lib.splitK [c] 0 (Lib.count (Lib.join (x :: r) [c]) [c]) (Lib.join (x :: r) [c]) = x :: r
 | x,[],h => by rw [Lib.join_one]; exact Zz7 (h x (by simp))
 | x,y :: r,h => by
   rw [Z1x,Zzt _ (h x (by simp)),Zti y r fun z hz => h z (List.mem_cons_of_mem _ hz)]
theorem Z1b {m : Nat} : ∀ (l : List (List UInt8)),(∀ x,x ∈ l → x.length ≤ m) → Lib.lens l ≤ m * l.length
 | [],_ => by simp [Lib.lens]
 | x :: r,h => by
   have h1 := Z1b r fun y hy => h y (List.mem_cons_of_mem _ hy)
   have h2 := h x (by simp)
   have e : Lib.lens (x :: r) = x.length + Lib.lens r := by simp [Lib.lens]
   rw [e,List.length_cons,Nat.mul_succ]; omega
theorem Z4l {m : Nat} {c : UInt8} (l : List (List UInt8)) (h : ∀ x,x ∈ l → x.length ≤ m) : (Lib.join l [c]).length ≤ (m + 1) * l.length := by
 cases l with
 | nil => simp [Lib.join_nil]
 | cons x r =>
   have h1 := Z1b (x :: r) h
   rw [Lib.join_length,Nat.add_mul,List.length_singleton,List.length_cons] at *
   omega
def listP (l : List Int) : List UInt8 := Lib.join (l.map Lib.itoa) [44]
theorem Zld (l : List Int) (hl : l.length ≤ 64) (hx : ∀ x,x ∈ l → -1000000000000 ≤ x ∧ x ≤ 1000000000000) : (listP l).length ≤ 1024 := by
 have h := Z4l (m := 15) (c := 44) (l.map Lib.itoa) fun x hx' => by
  obtain ⟨n,hn,rfl⟩ := List.mem_map.1 hx'
  exact (Zsa n (hx n hn)).2
 rw [List.length_map] at h
 have : (listP l).length ≤ 16 * l.length := h
 omega
theorem Zoj (n : Int) (h : -1000000000000 ≤ n ∧ n ≤ 1000000000000) : Zew (Lib.itoa n) = some (n,true) := by
 rw [Zoh,Zxm n h]
theorem Zgf (l : List Int) (hl : l.length ≤ 64) (hx : ∀ x,x ∈ l → -1000000000000 ≤ x ∧ x ≤ 1000000000000) : ∀ (k i : Nat),i + k = l.length → Zcp l l.length i ((l.take i).map Lib.itoa) = some (listP l)
 | 0,i,hk => by
   rw [Zgi]
   have : ¬ (i : Int) < (l.length : Int) := by omega
   have hb := Zld l hl hx
   have e : (Lib.join (l.map Lib.itoa) [44]).length ≤ 140737488355328 := by
    have : (Lib.join (l.map Lib.itoa) [44]).length ≤ 1024 := hb
    omega
   rw [List.take_length,List.take_of_length_le (by omega : l.length ≤ i)]
   simp only [this,decide_false,Bool.false_eq_true,if_false,Ztl]
   have e2 : (l.map Lib.itoa).length ≤ 140737488355328 := by rw [List.length_map]; omega
   simp only [e2,e,decide_true,Bool.and_self,if_true,Option.bind_some]
   rfl
 | k + 1,i,hk => by
   have hi : i < l.length := by omega
   have hlt : (i : Int) < (l.length : Int) := by omega
   have hi0 : (0 : Int) ≤ (i : Int) := by omega
   have hb := hx l[i] (List.getElem_mem hi)
   have hr : inR l[i] (-1000000000000) 1000000000000 = true := inR_iff'.2 hb
   have hlim : ((l.take i).map Lib.itoa).length + 1 < lim := by rw [lim_eq,List.length_map,List.length_take]; omega
   rw [Zgi]
   simp only [hlt,decide_true,if_true,hi0,Int.toNat_natCast,getElem?_lt hi,Option.bind_some,Zca,hr,Bool.not_true,Bool.false_eq_true,if_false,Zt6 l[i] (by omega),hlim,wsucc (show i < 4611686018427387904 by omega)]
   have := Zgf l hl hx k (i + 1) (by omega)
   rw [List.take_length]
   rw [show (l.take (i + 1)).map Lib.itoa = (l.take i).map Lib.itoa ++ [Lib.itoa l[i]] by rw [List.take_add_one,getElem?_lt hi,List.map_append]; rfl] at this
   exact this
theorem Zru (l : List Int) (h0 : l ≠ []) (hl : l.length ≤ 64) (hx : ∀ x,x ∈ l → -1000000000000 ≤ x ∧ x ≤ 1000000000000) : Zin l = some (listP l) := by
 rw [Zrz,Zl4]
 have h1 : (l.length : Int) ≤ 64 := by omega
 have h2 : ((l.length : Int) == 0) = false := by
  rw [beq_eq_false_iff_ne]
  intro e
  exact h0 (List.length_eq_zero_iff.1 (by omega))
 simp only [h1,decide_true,Option.bind_some,Bool.not_true,Bool.false_eq_true,if_false,h2]
 exact Zgf l hl hx l.length 0 (by omega)
theorem Zgg (l : List Int) (hl : l.length ≤ 64) (hx : ∀ x,x ∈ l → -1000000000000 ≤ x ∧ x ≤ 1000000000000) : ∀ (k i : Nat),i + k = l.length → Zcq (l.map Lib.itoa) l.length i (l.take i) = some (l,true)
 | 0,i,hk => by
   rw [Zge]
   have : ¬ (i : Int) < (l.length : Int) := by omega
   simp only [this,decide_false,Bool.false_eq_true,if_false,List.take_length,List.take_of_length_le (by omega : l.length ≤ i)]
 | k + 1,i,hk => by
   have hi : i < l.length := by omega
   have hlt : (i : Int) < (l.length : Int) := by omega
   have hi0 : (0 : Int) ≤ (i : Int) := by omega
   have hb := hx l[i] (List.getElem_mem hi)
   have hr : inR l[i] (-1000000000000) 1000000000000 = true := inR_iff'.2 hb
   have hlim : (l.take i).length + 1 < lim := by rw [lim_eq,List.length_take]; omega
   have hg : (l.map Lib.itoa)[i]? = some (Lib.itoa l[i]) := by rw [List.getElem?_map,getElem?_lt hi]; rfl
   have h64 : (((l.take i).length : Int) == 64) = false := by rw [beq_eq_false_iff_ne,List.length_take]; omega
   rw [Zge]
   simp only [hlt,decide_true,if_true,hi0,Int.toNat_natCast,hg,Option.bind_some,Zoj l[i] hb,Zca,hr,Bool.not_true,Bool.false_eq_true,if_false,h64,hlim,wsucc (show i < 4611686018427387904 by omega)]
   have := Zgg l hl hx k (i + 1) (by omega)
   rw [List.take_length]
   rw [List.take_add_one,getElem?_lt hi] at this
   simpa using this
theorem Zrt (l : List Int) (h0 : l ≠ []) (hl : l.length ≤ 64) (hx : ∀ x,x ∈ l → -1000000000000 ≤ x ∧ x ≤ 1000000000000) : Zif (listP l) = some (l,true) := by
 have hb := Zld l hl hx
 have hs : Lib.splitK [44] 0 (Lib.count (listP l) [44]) (listP l) = l.map Lib.itoa := by
  cases l with
  | nil => exact absurd rfl h0
  | cons a r =>
    unfold listP
    rw [List.map_cons]
    exact Zti _ _ fun y hy => by
     have hy' : y ∈ (a :: r).map Lib.itoa := hy
     obtain ⟨n,hn,rfl⟩ := List.mem_map.1 hy'
     exact Z5t n (by decide) (by decide)
 have hne : (listP l == [45]) = false := by
  rw [beq_eq_false_iff_ne]
  intro e
  cases l with
  | nil => exact absurd rfl h0
  | cons a r =>
    unfold listP at e
    rw [List.map_cons,Lib.join_cons] at e
    have h1 := (Zsa a (hx a (by simp))).1
    cases hi : Lib.itoa a with
    | nil => rw [hi] at h1; simp at h1
    | cons c t =>
      rw [hi,List.cons_append] at e
      injection e with e1 e2
      have e3 := (List.append_eq_nil_iff.1 e2).1
      exact Z6a a (by rw [hi,e1,e3])
 rw [Zri]
 simp only [hne,Bool.false_eq_true,if_false,Zr4]
 have h1 : (listP l).length < 4294967281 := by omega
 simp only [h1,List.length_singleton,Nat.le_refl,decide_true,Bool.and_self,if_true,Option.bind_some,hs,List.length_map]
 exact Zgg l hl hx l.length 0 (by omega)
theorem Zts {s : List UInt8} (h : isName s = true) : (∀ c,c ∈ s → small c = true ∨ digit c = true) ∧ s.length ≤ 10 := by
 cases s with
 | nil => simp [isName] at h
 | cons c r =>
   simp only [isName,Bool.and_eq_true,List.all_eq_true,Bool.or_eq_true,decide_eq_true_eq] at h
   exact ⟨fun x hx => by
    rcases List.mem_cons.1 hx with rfl | hx
    ·exact .inl h.1.1
    ·exact h.1.2 x hx,h.2⟩
theorem Z3k {s : List UInt8} (h : isName s = true) {c : UInt8} (hc : c.toNat < 48) : c ∉ s := fun e => by
 rcases (Zts h).1 c e with h1 | h1
 ·simp [small] at h1; omega
 ·simp [digit] at h1; omega
theorem Zxh (id : List UInt8) (l : List Int) (hid : id.length ≤ 1000000) (h0 : l ≠ []) (hl : l.length ≤ 64) (hx : ∀ x,x ∈ l → -1000000000000 ≤ x ∧ x ≤ 1000000000000) :
 Znk id l = some (id ++ 32 :: listP l) := by
 have hb := Zld l hl hx
 rw [Zxf,Zru l h0 hl hx]
 have e1 : id.length + 1 ≤ strMax := by rw [Zp5]; omega
 have e2 : id.length + 1 + (listP l).length ≤ strMax := by rw [Zp5]; omega
 simp only [List.length_append,List.length_singleton,e1,decide_true,if_true,Option.bind_some,e2,List.append_assoc]
 rfl
theorem Zqt (id : List UInt8) (l : List Int) (n : Int) (h32 : (32 : UInt8) ∉ id) (hid : id.length ≤ 1000000) (h0 : l ≠ []) (hl : l.length ≤ 64) (hx : ∀ x,x ∈ l → -1000000000000 ≤ x ∧ x ≤ 1000000000000) :
 Zha (id ++ 32 :: listP l) n = some (id,l,(l.length : Int) == n) := by
 have hb := Zld l hl hx
 rw [Zqy,Zum]
 have e1 : (id ++ 32 :: listP l).length < 4294967281 := by simp; omega
 simp only [e1,decide_true,if_true,Option.bind_some,Z5j _ h32,Zrt l h0 hl hx,List.take_length]
def workOk (x : T_Peg.ty) : Bool := isName x.1 && (inR x.2.1 1 40 && (inR x.2.2.1 0 39 && (inR x.2.2.2.1 0 39 && (decide (IntKind.i64.wrap ((IntKind.i64.wrap (x.2.2.1 + x.2.1)) - 1) ≤ x.2.2.2.1)))))
def worksOk (xs : List T_Peg.ty) : Bool := Zco workOk (fun x => x.1) none xs && decide ((xs.length : Int) ≤ 8)
theorem Zeg {xs : List T_Peg.ty} (h : worksOk xs = true) (x : T_Peg.ty) (hx : x ∈ xs) : workOk x = true := by
 simp only [worksOk,Bool.and_eq_true] at h
 exact Zod h.1 x hx
theorem Zuv (x : T_Peg.ty) (h0 : x.1.length < 4611686018427387904) : Zhd x = some (workOk x) := by
 rw [Zva,workOk]
 simp only [Zta x.1 h0,Zs7,Zu7,Zn8,Option.bind_some]
 cases isName x.1 <;> cases inR x.2.1 1 40 <;> cases inR x.2.2.1 0 39 <;> cases inR x.2.2.2.1 0 39 <;> simp
theorem Zhi (x : T_Peg.ty) (h0 : x.1.length < 4611686018427387904) : Zaw x = some (workOk x) := by
 rw [Zo4,workOk]
 simp only [Zvj x.1 h0,Zux,Zvi,Zca,Option.bind_some]
 cases isName x.1 <;> cases inR x.2.1 1 40 <;> cases inR x.2.2.1 0 39 <;> cases inR x.2.2.2.1 0 39 <;> simp
theorem Zxr (xs : List T_Peg.ty) (hs : xs.length ≤ 1048576) (hx : ∀ x,x ∈ xs → x.1.length ≤ 1048576) : Zjl xs = some (worksOk xs) := by
 rw [Zxc]
 exact Zz9 xs Zhd workOk (fun x => x.1) (fun i => Zc0 xs i) _ _ rfl (fun i => Zrh xs i) hs (fun x hm => Zuv x (Nat.lt_of_le_of_lt (hx x hm) (by decide))) xs.length 0 (by omega)
theorem Zpg (xs : List T_Peg.ty) (hs : xs.length ≤ 1048576) (hx : ∀ x,x ∈ xs → x.1.length ≤ 1048576) : Zax xs = some (worksOk xs) := by
 rw [Zqb]
 exact Zly xs Zaw workOk (fun x => x.1) (fun i => Za5 xs xs xs.length i) _ _ (show ((Zki (xs.length : Int) 8).bind fun x4 => some x4) = some (decide ((xs.length : Int) ≤ 8)) by rw [Zl4]; rfl) (fun i => Zmq xs xs xs.length i) hs (fun x hm => Zhi x (Nat.lt_of_le_of_lt (hx x hm) (by decide))) xs.length 0 (by omega)
end Go.Ab.P
