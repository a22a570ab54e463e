/- Lemmas on functions of the program. Conditions: told in each. -/
import Derived.Test.YtihgbmhhcalejaaDoorPFnExactTableLines
set_option linter.unusedVariables false
set_option linter.unusedSimpArgs false
namespace Go.Ab.P
open Go.Ab
theorem szLoop {α : Type} {P : α → Prop} (xs : List α) (sz1 : α → Int → Option Int) (p0 : List α → Int → Int → Option Int)
 (heq : ∀ (l i : Int),p0 xs l i = if decide (i < (xs.length : Int)) then (if decide (0 ≤ i) then (xs[i.toNat]?).bind fun x1 => (sz1 x1 l).bind fun x2 => if decide (x2 < 0) then some (-1) else p0 xs x2 (IntKind.i64.wrap (i + 1)) else none) else some l)
 (hs : xs.length ≤ 1048576) (h1 : ∀ x,x ∈ xs → ∀ l : Int,0 ≤ l → l ≤ 1048576 → ∃ n,sz1 x l = some n ∧ n ≤ l ∧ (0 ≤ n → P x)) :
 ∀ (k i : Nat) (l : Int),i + k = xs.length → 0 ≤ l → l ≤ 1048576 → ∃ n,p0 xs l i = some n ∧ n ≤ l ∧ (0 ≤ n → ∀ x,x ∈ xs.drop i → P x)
 | 0,i,l,hk,hl,hl' => by
   refine ⟨l,?_,Int.le_refl _,fun _ x hx => ?_⟩
   ·rw [heq]
    have : ¬ (i : Int) < (xs.length : Int) := by omega
    simp only [this,decide_false,Bool.false_eq_true,if_false]
   ·rw [List.drop_eq_nil_of_le (by omega)] at hx; cases hx
 | k + 1,i,l,hk,hl,hl' => by
   have hi : i < xs.length := by omega
   have hlt : (i : Int) < (xs.length : Int) := by omega
   obtain ⟨n,e1,e2,e3⟩ := h1 xs[i] (List.getElem_mem hi) l hl hl'
   rw [heq]
   simp only [hlt,decide_true,if_true,Int.natCast_nonneg,Int.toNat_natCast,List.getElem?_eq_getElem hi,Option.bind_some,e1]
   by_cases hn : n < 0
   ·simp only [hn,decide_true,if_true]
    exact ⟨-1,rfl,by omega,fun h => by omega⟩
   ·simp only [hn,decide_false,Bool.false_eq_true,if_false]
    have hw : IntKind.i64.wrap ((i : Int) + 1) = ((i + 1 : Nat) : Int) := by rw [w64 (by omega) (by omega)]; omega
    rw [hw]
    obtain ⟨q,f1,f2,f3⟩ := szLoop xs sz1 p0 heq hs h1 k (i + 1) n (by omega) (by omega) (by omega)
    refine ⟨q,f1,by omega,fun hq x hx => ?_⟩
    rw [List.drop_eq_getElem_cons hi] at hx
    rcases List.mem_cons.1 hx with rfl | hx
    ·exact e3 (by omega)
    ·exact f3 hq x hx
theorem szList {α : Type} {P : α → Prop} (xs : List α) (sz1 : α → Int → Option Int) (p0 : List α → Int → Int → Option Int) (szS : List α → Int → Option Int)
 (heq : ∀ (l i : Int),p0 xs l i = if decide (i < (xs.length : Int)) then (if decide (0 ≤ i) then (xs[i.toNat]?).bind fun x1 => (sz1 x1 l).bind fun x2 => if decide (x2 < 0) then some (-1) else p0 xs x2 (IntKind.i64.wrap (i + 1)) else none) else some l)
 (hS : ∀ l : Int,szS xs l = if decide (IntKind.i64.wrap (l - (xs.length : Int)) < 0) then some (-1) else p0 xs (IntKind.i64.wrap (l - (xs.length : Int))) 0)
 (hl : xs.length ≤ 9223372036854775807) (h1 : ∀ x,x ∈ xs → ∀ l : Int,0 ≤ l → l ≤ 1048576 → ∃ n,sz1 x l = some n ∧ n ≤ l ∧ (0 ≤ n → P x)) (l : Int) (h0 : 0 ≤ l) (h0' : l ≤ 1048576) :
 ∃ n,szS xs l = some n ∧ n ≤ l ∧ (0 ≤ n → xs.length ≤ 1048576 ∧ ∀ x,x ∈ xs → P x) := by
 rw [hS,w64 (n := l - xs.length) (by omega) (by omega)]
 by_cases hn : l - (xs.length : Int) < 0
 ·simp only [hn,decide_true,if_true]
  exact ⟨-1,rfl,by omega,fun h => by omega⟩
 ·simp only [hn,decide_false,Bool.false_eq_true,if_false]
  obtain ⟨q,f1,f2,f3⟩ := szLoop xs sz1 p0 heq (by omega) h1 xs.length 0 (l - xs.length) (by omega) (by omega) (by omega)
  exact ⟨q,f1,by omega,fun hq => ⟨by omega,fun x hx => f3 hq x hx⟩⟩
theorem toLoop {α : Type} (xs : List α) (to1 : α → Option α) (p0 : List α → Nat → Int → List α → Option (List α))
 (heq : ∀ (n : Nat) (i : Int) (r : List α),p0 xs n i r = if decide (i < (xs.length : Int)) then (if decide (0 ≤ i) then (xs[i.toNat]?).bind fun x1 => (to1 x1).bind fun x2 => if decide (0 ≤ i) && decide (i < (n : Int)) then (r[i.toNat]?).bind fun x3 => p0 xs n (IntKind.i64.wrap (i + 1)) (r.set i.toNat x2) else none else none) else some (r.take n))
 (hs : xs.length ≤ 1099511627776) (h1 : ∀ x,x ∈ xs → to1 x = some x) :
 ∀ (k i : Nat) (r : List α),i + k = xs.length → r.length = xs.length → r.take i = xs.take i → p0 xs xs.length i r = some xs
 | 0,i,r,hk,hr,ht => by
   rw [heq]
   have : ¬ (i : Int) < (xs.length : Int) := by omega
   simp only [this,decide_false,Bool.false_eq_true,if_false]
   have hi : i = xs.length := by omega
   rw [hi] at ht
   rw [ht,List.take_length]
 | k + 1,i,r,hk,hr,ht => by
   have hi : i < xs.length := by omega
   have hlt : (i : Int) < (xs.length : Int) := by omega
   have hw : IntKind.i64.wrap ((i : Int) + 1) = ((i + 1 : Nat) : Int) := by rw [w64 (by omega) (by omega)]; omega
   rw [heq]
   simp only [hlt,decide_true,if_true,Int.natCast_nonneg,Int.toNat_natCast,List.getElem?_eq_getElem hi,Option.bind_some,h1 xs[i] (List.getElem_mem hi),Bool.and_self,List.getElem?_eq_getElem (show i < r.length by omega),hw]
   refine toLoop xs to1 p0 heq hs h1 k (i + 1) (r.set i xs[i]) (by omega) (by simp [hr]) ?_
   rw [List.take_add_one,List.take_add_one,List.getElem?_set_self (by omega),List.getElem?_eq_getElem hi,List.take_set_of_le (by omega),ht]
theorem toList_ok {α : Type} (xs : List α) (z : α) (to1 : α → Option α) (p0 : List α → Nat → Int → List α → Option (List α)) (toS : List α → Option (List α))
 (heq : ∀ (n : Nat) (i : Int) (r : List α),p0 xs n i r = if decide (i < (xs.length : Int)) then (if decide (0 ≤ i) then (xs[i.toNat]?).bind fun x1 => (to1 x1).bind fun x2 => if decide (0 ≤ i) && decide (i < (n : Int)) then (r[i.toNat]?).bind fun x3 => p0 xs n (IntKind.i64.wrap (i + 1)) (r.set i.toNat x2) else none else none) else some (r.take n))
 (hS : toS xs = if decide (0 ≤ (xs.length : Int)) && decide ((xs.length : Int) ≤ (xs.length : Int)) && decide ((xs.length : Int).toNat < lim) then p0 xs ((List.replicate ((xs.length : Int).toNat) z).length) 0 (List.replicate ((xs.length : Int).toNat) z) else none)
 (hs : xs.length ≤ 1048576) (h1 : ∀ x,x ∈ xs → to1 x = some x) : toS xs = some xs := by
 rw [hS,lim_eq]
 have h2 : (xs.length : Int).toNat < 1099511627776 := by omega
 have h3 : (xs.length : Int) ≤ (xs.length : Int) := Int.le_refl _
 rw [decide_eq_true h2]
 simp only [h3,Int.natCast_nonneg,decide_true,Bool.and_self,if_true,Int.toNat_natCast,List.length_replicate]
 exact toLoop xs to1 p0 heq (by omega) h1 xs.length 0 _ (by omega) (by simp) (by simp)
theorem eqLoop {α : Type} (xs : List α) (eq1 : α → α → Option Bool) (p0 : List α → List α → Int → Option Bool)
 (heq : ∀ (i : Int),p0 xs xs i = if decide (i < (xs.length : Int)) then (if decide (0 ≤ i) then (xs[i.toNat]?).bind fun x1 => if decide (0 ≤ i) then (xs[i.toNat]?).bind fun x2 => (eq1 x1 x2).bind fun x3 => if (!x3) then some false else p0 xs xs (IntKind.i64.wrap (i + 1)) else none else none) else some true)
 (hs : xs.length ≤ 1048576) (h1 : ∀ x,x ∈ xs → eq1 x x = some true) : ∀ (k i : Nat),i + k = xs.length → p0 xs xs i = some true
 | 0,i,hk => by
   rw [heq]
   have : ¬ (i : Int) < (xs.length : Int) := by omega
   simp only [this,decide_false,Bool.false_eq_true,if_false]
 | k + 1,i,hk => by
   have hi : i < xs.length := by omega
   have hlt : (i : Int) < (xs.length : Int) := by omega
   have hw : IntKind.i64.wrap ((i : Int) + 1) = ((i + 1 : Nat) : Int) := by rw [w64 (by omega) (by omega)]; omega
   rw [heq]
   simp only [hlt,decide_true,if_true,Int.natCast_nonneg,Int.toNat_natCast,List.getElem?_eq_getElem hi,Option.bind_some,h1 xs[i] (List.getElem_mem hi),Bool.not_true,Bool.false_eq_true,if_false,hw]
   exact eqLoop xs eq1 p0 heq hs h1 k (i + 1) (by omega)
theorem eqList_ok {α : Type} (xs : List α) (eq1 : α → α → Option Bool) (p0 : List α → List α → Int → Option Bool) (eqS : List α → List α → Option Bool)
 (heq : ∀ (i : Int),p0 xs xs i = if decide (i < (xs.length : Int)) then (if decide (0 ≤ i) then (xs[i.toNat]?).bind fun x1 => if decide (0 ≤ i) then (xs[i.toNat]?).bind fun x2 => (eq1 x1 x2).bind fun x3 => if (!x3) then some false else p0 xs xs (IntKind.i64.wrap (i + 1)) else none else none) else some true)
 (hS : eqS xs xs = if ((xs.length : Int) != (xs.length : Int)) then some false else p0 xs xs 0)
 (hs : xs.length ≤ 1048576) (h1 : ∀ x,x ∈ xs → eq1 x x = some true) : eqS xs xs = some true := by
 rw [hS]
 simp only [bne_self_eq_false,Bool.false_eq_true,if_false]
 exact eqLoop xs eq1 p0 heq hs h1 xs.length 0 (by omega)
theorem allLoop {α β : Type} (xs : List α) (one : α → Option Bool) (ok : α → Bool) (p0 : Int → Option β) (bad : β) (last : Option β)
 (heq : ∀ i : Int,p0 i = if decide (i < (xs.length : Int)) then (if decide (0 ≤ i) then (xs[i.toNat]?).bind fun x1 => (one x1).bind fun x2 => if (!x2) then some bad else p0 (IntKind.i64.wrap (i + 1)) else none) else last)
 (hs : xs.length ≤ 1099511627776) (h1 : ∀ x,x ∈ xs → one x = some (ok x)) :
 ∀ (k i : Nat),i + k = xs.length → p0 i = if (xs.drop i).all ok then last else some bad
 | 0,i,hk => by
   rw [heq,List.drop_eq_nil_of_le (by omega)]
   have : ¬ (i : Int) < (xs.length : Int) := by omega
   simp [this]
 | k + 1,i,hk => by
   have hi : i < xs.length := by omega
   have hlt : (i : Int) < (xs.length : Int) := by omega
   have hw : IntKind.i64.wrap ((i : Int) + 1) = ((i + 1 : Nat) : Int) := by rw [w64 (by omega) (by omega)]; omega
   have ih := allLoop xs one ok p0 bad last heq hs h1 k (i + 1) (by omega)
   rw [heq,List.drop_eq_getElem_cons hi]
   simp only [hlt,decide_true,if_true,Int.natCast_nonneg,Int.toNat_natCast,List.getElem?_eq_getElem hi,Option.bind_some,h1 xs[i] (List.getElem_mem hi),hw,ih,List.all_cons]
   by_cases hok : ok xs[i] = true
   ·simp [hok]
   ·simp [hok]
theorem tdiv_nonneg_eq {a b : Int} (ha : 0 ≤ a) : a.tdiv b = a / b := Int.tdiv_eq_ediv_of_nonneg ha
def inR (n lo hi : Int) : Bool := decide (lo ≤ n) && decide (n ≤ hi)
theorem impl_within_ok (n lo hi : Int) : impl_within n lo hi = some (inR n lo hi) := by
 rw [impl_within_eq,inR]; by_cases h : lo ≤ n <;> simp [h]
theorem markText_p0_ok : ∀ (k : Nat) (n : Int) (s : List UInt8),n.toNat < k → 0 ≤ n → n ≤ 4611686018427387904 → s.length + k ≤ 9223372036854775000 → ∃ t,laws_markText_p0 n s = some t
 | 0,n,s,hk,h0,h1,hs => by omega
 | k + 1,n,s,hk,h0,h1,hs => by
   rw [laws_markText_p0_eq]
   by_cases hp : n > 0
   ·simp only [hp,decide_true,if_true]
    have e : n.tdiv 10 = n / 10 := tdiv_nonneg_eq h0
    rw [e,w64 (n := n / 10) (by omega) (by omega)]
    have hl : ([IntKind.u8.wrap (IntKind.i64.wrap (48 + (n.tmod 10)))].map vu8).length + s.length ≤ strMax := by rw [strMax_eq]; simp; omega
    simp only [hl,decide_true,if_true]
    exact markText_p0_ok k (n / 10) _ (by omega) (by omega) (by omega) (by simp; omega)
   ·have hl : [(109 : UInt8)].length + s.length ≤ strMax := by rw [strMax_eq]; simp; omega
    refine ⟨[(109 : UInt8)] ++ s,?_⟩
    simp only [hp,decide_false,Bool.false_eq_true,if_false]
    exact if_pos (decide_eq_true hl)
theorem markText_ok (n : Int) (h : n ≤ 4611686018427387904) : ∃ t,laws_markText n = some t := by
 rw [laws_markText_eq]
 by_cases h0 : n ≤ 0
 ·simp only [h0,decide_true,if_true]; exact ⟨_,rfl⟩
 ·simp only [h0,decide_false,Bool.false_eq_true,if_false]
  exact markText_p0_ok (n.toNat + 1) n [] (by omega) (by omega) h (by simp; omega)
noncomputable def markT (n : Int) : List UInt8 := (laws_markText n).getD []
noncomputable def tmarks (m : Int) : Nat → List (List UInt8)
 | 0 => []
 | n + 1 => markT m :: tmarks (m + 1) n
theorem markT_ok (n : Int) (h : n < 4611686018427387904) : laws_markText n = some (markT n) := by
 obtain ⟨t,e⟩ := markText_ok n (Int.le_of_lt h)
 rw [markT,e]; rfl
theorem tmarks_len (m : Int) (n : Nat) : (tmarks m n).length = n := by
 induction n generalizing m with
 | zero => rfl
 | succ n ih => simp [tmarks,ih]
theorem tmarks_get (m : Int) (n i : Nat) (h : i < n) : (tmarks m n)[i]? = some (markT (m + i)) := by
 induction n generalizing m i with
 | zero => omega
 | succ n ih =>
   cases i with
   | zero => simp [tmarks]
   | succ i =>
     simp only [tmarks,List.getElem?_cons_succ]
     rw [ih (m + 1) i (by omega)]
     congr 2; omega
theorem markStringS_loop (m0 : Int) (n : Nat) (h0 : 0 ≤ m0) (hb : m0 + n ≤ 4611686018427387) : ∀ (k i : Nat) (r : List (List UInt8)),i + k = n → r.length = n → r.take i = (tmarks m0 n).take i →
 laws_markStringS_p0 n n (m0 + i) i r = some (m0 + n,tmarks m0 n)
 | 0,i,r,hk,hr,ht => by
   rw [laws_markStringS_p0_eq]
   have : ¬ (i : Int) < (n : Int) := by omega
   simp only [this,decide_false,Bool.false_eq_true,if_false,hr,decide_true,if_true]
   have hi : i = n := by omega
   have e : r = tmarks m0 n := by
    have h1 : r.take i = r := List.take_of_length_le (by omega)
    have h2 : (tmarks m0 n).take i = tmarks m0 n := List.take_of_length_le (by rw [tmarks_len]; omega)
    rw [h1,h2] at ht; exact ht
   rw [e,hi]
 | k + 1,i,r,hk,hr,ht => by
   have hi : i < r.length := by omega
   have hlt : (i : Int) < (n : Int) := by omega
   have hw : IntKind.i64.wrap ((i : Int) + 1) = ((i + 1 : Nat) : Int) := by rw [w64 (by omega) (by omega)]; omega
   have hw2 : IntKind.i64.wrap (m0 + i + 1) = m0 + ((i + 1 : Nat) : Int) := by rw [w64 (by omega) (by omega)]; omega
   rw [laws_markStringS_p0_eq]
   simp only [hlt,decide_true,if_true,Int.natCast_nonneg,Int.toNat_natCast,List.getElem?_eq_getElem hi,Option.bind_some,Bool.and_self,hw,hw2,markT_ok (m0 + i) (by omega)]
   refine markStringS_loop m0 n h0 hb k (i + 1) (r.set i (markT (m0 + i))) (by omega) (by simp [hr]) ?_
   rw [List.take_add_one,List.take_add_one,List.getElem?_set_self hi,tmarks_get m0 n i (by omega),List.take_set_of_le (by omega),ht]
theorem markStringS_ok (xs : List (List UInt8)) (m : Int) (h0 : 0 ≤ m) (hb : m + xs.length ≤ 4611686018427387) : laws_markStringS xs m = some (m + xs.length,tmarks m xs.length) := by
 rw [laws_markStringS_eq]
 have := markStringS_loop m xs.length h0 hb xs.length 0 xs (by omega) rfl rfl
 simpa using this
theorem heldStringS_loop (m0 : Int) (n : Nat) (h0 : 0 ≤ m0) (hb : m0 + n ≤ 4611686018427387) : ∀ (k i : Nat),i + k = n → laws_heldStringS_p0 (tmarks m0 n) (m0 + i) i = some (m0 + n)
 | 0,i,hk => by
   rw [laws_heldStringS_p0_eq,tmarks_len]
   have : ¬ (i : Int) < (n : Int) := by omega
   simp only [this,decide_false,Bool.false_eq_true,if_false]
   congr 1; omega
 | k + 1,i,hk => by
   have hlt : (i : Int) < (n : Int) := by omega
   have hw : IntKind.i64.wrap ((i : Int) + 1) = ((i + 1 : Nat) : Int) := by rw [w64 (by omega) (by omega)]; omega
   have hw2 : IntKind.i64.wrap (m0 + i + 1) = m0 + ((i + 1 : Nat) : Int) := by rw [w64 (by omega) (by omega)]; omega
   rw [laws_heldStringS_p0_eq,tmarks_len]
   simp only [hlt,decide_true,if_true,Int.natCast_nonneg,Int.toNat_natCast,tmarks_get m0 n i (by omega),Option.bind_some,hw,hw2,markT_ok (m0 + i) (by omega),beq_self_eq_true,Bool.not_true,Bool.false_eq_true,if_false]
   exact heldStringS_loop m0 n h0 hb k (i + 1) (by omega)
theorem heldStringS_ok (m : Int) (n : Nat) (h0 : 0 ≤ m) (hb : m + n ≤ 4611686018427387) : laws_heldStringS (tmarks m n) m = some (m + n) := by
 rw [laws_heldStringS_eq]
 have := heldStringS_loop m n h0 hb n 0 (by omega)
 simpa using this
theorem eqStringS_ok (xs : List (List UInt8)) (hs : xs.length ≤ 1048576) : laws_eqStringS xs xs = some true :=
 eqList_ok xs (fun x y => some (x == y)) laws_eqStringS_p0 laws_eqStringS (fun i => laws_eqStringS_p0_eq xs xs i) (laws_eqStringS_eq xs xs) hs (fun x _ => by rw [beq_self_eq_true])
def lineOk (s : List UInt8) : Bool := (s.all fun c => inR (c.toNat : Int) 32 126) && decide ((s.length : Int) ≤ 100)
def reportOk (ls : List (List UInt8)) : Bool := ls.all lineOk && decide ((ls.length : Int) ≤ 200)
theorem ifSome {a b : Bool} : (if a = true then some b else some false) = some (a && b) := by cases a <;> rfl
def wd (W : List Int) (k : Nat) : Int := (W[k]?).getD 0
def upd (W : List Int) (i : Nat) (c : List UInt8) : List Int := W.set i (if (c.length : Int) > wd W i then (c.length : Int) else wd W i)
def rowW : List Int → Nat → List (List UInt8) → List Int
 | W,_,[] => W
 | W,i,c :: r => rowW (upd W i c) (i + 1) r
def allW : List Int → List (List (List UInt8)) → List Int
 | W,[] => W
 | W,row :: r => allW (rowW W 0 row) r
theorem upd_len (W : List Int) (i : Nat) (c : List UInt8) : (upd W i c).length = W.length := by simp [upd]
theorem rowW_len : ∀ (row : List (List UInt8)) (W : List Int) (i : Nat),(rowW W i row).length = W.length
 | [],_,_ => rfl
 | c :: r,W,i => by rw [rowW,rowW_len r,upd_len]
theorem allW_len : ∀ (rows : List (List (List UInt8))) (W : List Int),(allW W rows).length = W.length
 | [],_ => rfl
 | row :: r,W => by rw [allW,allW_len r,rowW_len]
theorem wd_upd {W : List Int} {i : Nat} (hi : i < W.length) (c : List UInt8) (k : Nat) : wd (upd W i c) k = if i = k then (if (c.length : Int) > wd W i then (c.length : Int) else wd W i) else wd W k := by
 by_cases h : i = k
 ·subst h; simp [upd,wd,hi]
 ·simp [upd,wd,List.getElem?_set_ne h,h]
theorem wd_get {W : List Int} {i : Nat} (hi : i < W.length) : W[i]? = some (wd W i) := by simp [wd,List.getElem?_eq_getElem hi]
noncomputable def p0L (v0 v15 : List (List (List UInt8))) (v16 v17 : Int) (W : List Int) := impl_TableLines_p0 v0 v15 v16 v17 (wd W 0) (wd W 1) (wd W 2) (wd W 3) (wd W 4) (wd W 5) (wd W 6) (wd W 7) (wd W 8) (wd W 9) (wd W 10) (wd W 11)
noncomputable def p1L (v0 v15 : List (List (List UInt8))) (v16 v17 : Int) (v24 : List (List UInt8)) (v25 v26 : Int) (W : List Int) := impl_TableLines_p1 v0 v15 v16 v17 v24 v25 v26 (wd W 0) (wd W 1) (wd W 2) (wd W 3) (wd W 4) (wd W 5) (wd W 6) (wd W 7) (wd W 8) (wd W 9) (wd W 10) (wd W 11)
noncomputable def p2L (v42 : List (List (List UInt8))) (v43 v44 : Int) (W : List Int) (r9 : List (List UInt8)) := impl_TableLines_p2 v42 v43 v44 (wd W 0) (wd W 1) (wd W 2) (wd W 3) (wd W 4) (wd W 5) (wd W 6) (wd W 7) (wd W 8) (wd W 9) (wd W 10) (wd W 11) r9
noncomputable def p3L (v42 : List (List (List UInt8))) (v43 v44 : Int) (v49 : List (List UInt8)) (v50 v51 : Int) (W : List Int) (r9 r12 : List (List UInt8)) := impl_TableLines_p3 v42 v43 v44 v49 v50 v51 (wd W 0) (wd W 1) (wd W 2) (wd W 3) (wd W 4) (wd W 5) (wd W 6) (wd W 7) (wd W 8) (wd W 9) (wd W 10) (wd W 11) r9 r12
def padC (W : List Int) (i : Nat) (c : List UInt8) : List UInt8 := c ++ List.replicate (wd W i - (c.length : Int)).toNat 32
def cellsP (W : List Int) : Nat → List (List UInt8) → List (List UInt8)
 | _,[] => []
 | i,c :: r => padC W i c :: cellsP W (i + 1) r
def trimP (s : List UInt8) : List UInt8 := (s.reverse.dropWhile fun c => c == 32).reverse
def lineP (W : List Int) (row : List (List UInt8)) : List UInt8 := trimP (Lib.join (cellsP W 0 row) [32,32])
def lineGo (W : List Int) : Nat → List UInt8 → List (List UInt8) → List UInt8
 | _,s,[] => s
 | i,s,c :: r => lineGo W (i + 1) ((if i > 0 then s ++ [32,32] else s) ++ padC W i c) r
theorem lineGo_pos (W : List Int) : ∀ (r : List (List UInt8)) (i : Nat) (s : List UInt8),0 < i → lineGo W i s r = s ++ Lib.joinTail [32,32] (cellsP W i r)
 | [],i,s,h => by simp [lineGo,cellsP,Lib.joinTail]
 | c :: r,i,s,h => by
   rw [lineGo,if_pos h,lineGo_pos W r (i + 1) _ (by omega),cellsP]
   simp [Lib.joinTail]
theorem lineGo_join (W : List Int) (row : List (List UInt8)) : lineGo W 0 [] row = Lib.join (cellsP W 0 row) [32,32] := by
 cases row with
 | nil => rw [cellsP,Lib.join_nil]; rfl
 | cons c r =>
   rw [lineGo,if_neg (by omega),lineGo_pos W r 1 _ (by omega),cellsP,Lib.join_cons]; rfl
theorem trimP_snoc (t : List UInt8) (c : UInt8) : trimP (t ++ [c]) = if c == 32 then trimP t else t ++ [c] := by
 rw [trimP,List.reverse_append,List.reverse_singleton,List.singleton_append,List.dropWhile_cons]
 split
 ·rfl
 ·simp
theorem snoc_or {α : Type} (s : List α) : s = [] ∨ ∃ t c,s = t ++ [c] := by
 rcases List.eq_nil_or_concat s with h | ⟨t,c,h⟩
 ·exact .inl h
 ·exact .inr ⟨t,c,by rw [h,List.concat_eq_append]⟩
theorem trimP_len (s : List UInt8) : (trimP s).length ≤ s.length := by
 rw [trimP,List.length_reverse]
 exact Nat.le_trans (List.dropWhile_sublist _).length_le (Nat.le_of_eq List.length_reverse)
theorem is32 (c : UInt8) : ((c.toNat : Int) == 32) = (c == 32) := by
 by_cases h : c = 32
 ·subst h; rfl
 ·have h1 : ¬ (c.toNat : Int) = 32 := fun e => by
   have e2 : c.toNat = (32 : UInt8).toNat := by
    show c.toNat = 32
    omega
   exact h (UInt8.toNat_inj.1 e2)
  rw [beq_eq_false_iff_ne.2 h1,beq_eq_false_iff_ne.2 h]
def tabW (rows : List (List (List UInt8))) : List Int := allW [0,0,0,0,0,0,0,0,0,0,0,0] rows
theorem wd0 (k : Nat) : wd [0,0,0,0,0,0,0,0,0,0,0,0] k = 0 := by
 rcases Nat.lt_or_ge k 12 with h | h
 ·have hz : (k = 0 ∨ k = 1 ∨ k = 2 ∨ k = 3 ∨ k = 4 ∨ k = 5) ∨ k = 6 ∨ k = 7 ∨ k = 8 ∨ k = 9 ∨ k = 10 ∨ k = 11 := by omega
  rcases hz with (rfl | rfl | rfl | rfl | rfl | rfl) | rfl | rfl | rfl | rfl | rfl | rfl <;> rfl
 ·rw [wd,List.getElem?_eq_none (by simpa using h)]; rfl
set_option maxHeartbeats 1000000 in
theorem p1L_step (v0 v15 : List (List (List UInt8))) (v16 v17 : Int) (row : List (List UInt8)) (i : Nat) (W : List Int) (hW : W.length = 12) (hi : i < row.length) (h12 : i < 12) :
 p1L v0 v15 v16 v17 row row.length i W = p1L v0 v15 v16 v17 row row.length ((i + 1 : Nat) : Int) (upd W i row[i]) := by
 have hlt : (i : Int) < (row.length : Int) := by omega
 have hw : IntKind.i64.wrap ((i : Int) + 1) = ((i + 1 : Nat) : Int) := by rw [w64 (by omega) (by omega)]; omega
 have hz : (i = 0 ∨ i = 1 ∨ i = 2 ∨ i = 3 ∨ i = 4 ∨ i = 5) ∨ i = 6 ∨ i = 7 ∨ i = 8 ∨ i = 9 ∨ i = 10 ∨ i = 11 := by omega
 simp only [p1L,wd_upd (show i < W.length by omega)]
 rw [impl_TableLines_p1_eq]
 simp only [hlt,decide_true,if_true,Int.natCast_nonneg,Int.toNat_natCast,List.getElem?_eq_getElem hi,Option.bind_some,hw]
 clear hlt hw
 generalize row[i] = c
 rcases hz with (rfl | rfl | rfl | rfl | rfl | rfl) | rfl | rfl | rfl | rfl | rfl | rfl <;> rfl
theorem p1L_loop (rows : List (List (List UInt8))) (v17 : Int) (row : List (List UInt8)) (hl : row.length ≤ 12) : ∀ (k i : Nat) (W : List Int),i + k = row.length → W.length = 12 →
 p1L rows rows rows.length v17 row row.length i W = p0L rows rows rows.length (IntKind.i64.wrap (v17 + 1)) (rowW W i (row.drop i))
 | 0,i,W,hk,hW => by
   rw [List.drop_eq_nil_of_le (by omega),rowW,p1L,p0L,impl_TableLines_p1_eq]
   have : ¬ (i : Int) < (row.length : Int) := by omega
   simp only [this,decide_false,Bool.false_eq_true,if_false]
 | k + 1,i,W,hk,hW => by
   have hi : i < row.length := by omega
   rw [p1L_step rows rows rows.length v17 row i W hW hi (by omega),p1L_loop rows v17 row hl k (i + 1) _ (by omega) (by rw [upd_len]; exact hW),List.drop_eq_getElem_cons hi,rowW]
def cellsOk (row : List (List UInt8)) : Bool := (row.all fun c => c.all fun ch => inR (ch.toNat : Int) 33 126) && decide ((row.length : Int) ≤ 12)
theorem areCells_loop (row : List (List UInt8)) (hl : row.length ≤ 1048576) (hc : ∀ c,c ∈ row → c.length ≤ 1048576) : ∀ (k i : Nat),i + k = row.length → impl_areCells_p0 row row row.length i = some (((row.drop i).all fun c => c.all fun ch => inR (ch.toNat : Int) 33 126) && decide ((row.length : Int) ≤ 12))
 | 0,i,hk => by
   rw [impl_areCells_p0_eq,List.drop_eq_nil_of_le (by omega),impl_few_eq]
   have : ¬ (i : Int) < (row.length : Int) := by omega
   simp only [this,decide_false,Bool.false_eq_true,if_false,Option.bind_some,List.all_nil,Bool.true_and]
 | k + 1,i,hk => by
   have hi : i < row.length := by omega
   have hlt : (i : Int) < (row.length : Int) := by omega
   have hw : IntKind.i64.wrap ((i : Int) + 1) = ((i + 1 : Nat) : Int) := by rw [w64 (by omega) (by omega)]; omega
   have ih := areCells_loop row hl hc k (i + 1) (by omega)
   have h1 := allLoop row[i] (fun c => impl_within (IntKind.i64.wrap (c.toNat : Int)) 33 126) (fun ch => inR (ch.toNat : Int) 33 126) (fun j => impl_areCells_p1 row row[i] j row row.length i) false _ (fun j => impl_areCells_p1_eq row row[i] j row row.length i) (by have := hc row[i] (List.getElem_mem hi); omega) (fun c _ => by
    have hc := c.toNat_lt
    rw [impl_within_ok,w64 (by omega) (by omega)]) row[i].length 0 (by omega)
   simp only [Int.ofNat_zero,Int.natCast_zero,List.drop_zero] at h1
   rw [impl_areCells_p0_eq,List.drop_eq_getElem_cons hi]
   simp only [hlt,decide_true,if_true,Int.natCast_nonneg,Int.toNat_natCast,List.getElem?_eq_getElem hi,Option.bind_some,h1,hw,ih,List.all_cons]
   by_cases h : (row[i].all fun ch => inR (ch.toNat : Int) 33 126) = true
   ·simp [h]
   ·simp [h]
theorem impl_areCells_ok (row : List (List UInt8)) (hl : row.length ≤ 1048576) (hc : ∀ c,c ∈ row → c.length ≤ 1048576) : impl_areCells row = some (cellsOk row) := by
 rw [impl_areCells_eq]; exact areCells_loop row hl hc row.length 0 (by omega)
set_option maxHeartbeats 1000000 in
theorem p3L_raw (rows : List (List (List UInt8))) (v43 v44 : Int) (row : List (List UInt8)) (i : Nat) (W : List Int) (r9 r12 : List (List UInt8)) (hi : i < row.length) (h12 : i < 12) :
 p3L rows v43 v44 row row.length i W r9 r12 = (strings_Repeat [32] (IntKind.i64.wrap (wd W i - (row[i].length : Int)))).bind fun x2 => if decide (row[i].length + x2.length ≤ strMax) then (if decide (r12.length + 1 < lim) then p3L rows v43 v44 row row.length ((i + 1 : Nat) : Int) W r9 ((r12.take r12.length) ++ [row[i] ++ x2]) else none) else none := by
 have hlt : (i : Int) < (row.length : Int) := by omega
 have hw : IntKind.i64.wrap ((i : Int) + 1) = ((i + 1 : Nat) : Int) := by rw [w64 (by omega) (by omega)]; omega
 have hz : (i = 0 ∨ i = 1 ∨ i = 2 ∨ i = 3 ∨ i = 4 ∨ i = 5) ∨ i = 6 ∨ i = 7 ∨ i = 8 ∨ i = 9 ∨ i = 10 ∨ i = 11 := by omega
 simp only [p3L]
 rw [impl_TableLines_p3_eq]
 simp only [hlt,decide_true,if_true,Int.natCast_nonneg,Int.toNat_natCast,List.getElem?_eq_getElem hi,Option.bind_some,hw]
 clear hlt hw
 generalize row[i] = c
 rcases hz with (rfl | rfl | rfl | rfl | rfl | rfl) | rfl | rfl | rfl | rfl | rfl | rfl <;> rfl
theorem repeat32 : ∀ n,Lib.repeatL [32] n = List.replicate n 32
 | 0 => rfl
 | n + 1 => by
   show 32 :: Lib.repeatL [32] n = _
   rw [repeat32 n]; rfl
theorem st1_loop (rows : List (List (List UInt8))) (v4 : Nat) (h4 : v4 < rows.length) (hl : rows[v4].length ≤ 12) : ∀ (k i : Nat) (W : List Int),i + k = rows[v4].length → W.length = 12 →
 spec_l30Table_p1 rows 12 v4 i W = spec_l30Table_p0 rows 12 (IntKind.i64.wrap ((v4 : Int) + 1)) (rowW W i (rows[v4].drop i))
 | 0,i,W,hk,hW => by
   rw [List.drop_eq_nil_of_le (by omega),rowW,spec_l30Table_p1_eq]
   have : ¬ (i : Int) < (rows[v4].length : Int) := by omega
   simp only [Int.natCast_nonneg,decide_true,if_true,Int.toNat_natCast,List.getElem?_eq_getElem h4,Option.bind_some,this,decide_false,Bool.false_eq_true,if_false]
 | k + 1,i,W,hk,hW => by
   have hi : i < rows[v4].length := by omega
   have hlt : (i : Int) < (rows[v4].length : Int) := by omega
   have h12 : (i : Int) < ((12 : Nat) : Int) := by omega
   have hiW : i < W.length := by omega
   have hw : IntKind.i64.wrap ((i : Int) + 1) = ((i + 1 : Nat) : Int) := by rw [w64 (by omega) (by omega)]; omega
   rw [spec_l30Table_p1_eq,List.drop_eq_getElem_cons hi,rowW]
   simp only [Int.natCast_nonneg,decide_true,if_true,Int.toNat_natCast,List.getElem?_eq_getElem h4,List.getElem?_eq_getElem hi,Option.bind_some,hlt,h12,Bool.and_self,wd_get hiW,hw]
   by_cases hg : (rows[v4][i].length : Int) > wd W i
   ·simp only [hg,decide_true,if_true]
    rw [st1_loop rows v4 h4 hl k (i + 1) _ (by omega) (by simp [hW])]
    simp only [upd,hg,if_true]
   ·simp only [hg,decide_false,Bool.false_eq_true,if_false]
    rw [st1_loop rows v4 h4 hl k (i + 1) _ (by omega) hW]
    have e : upd W i rows[v4][i] = W := by
     simp only [upd,hg,if_false]
     apply List.ext_getElem?
     intro j
     by_cases hj : i = j
     ·subst hj; rw [List.getElem?_set_self hiW,wd_get hiW]
     ·rw [List.getElem?_set_ne hj]
    rw [e]
theorem spec_l30Line_okW (s : List UInt8) (hs : s.length ≤ 16777216) : spec_l30Line s = some (lineOk s) := by
 rw [spec_l30Line_eq]
 have := allLoop s (fun c => some (inR (c.toNat : Int) 32 126)) (fun c => inR (c.toNat : Int) 32 126) (fun i => spec_l30Line_p0 s i) false (some (decide ((s.length : Int) ≤ 100))) (fun i => by
  show spec_l30Line_p0 s i = _
  rw [spec_l30Line_p0_eq]
  by_cases h : i < (s.length : Int)
  ·by_cases h0 : 0 ≤ i
   ·simp only [h,h0,decide_true,if_true]
    cases e : s[i.toNat]?
    ·rfl
    ·rename_i c
     simp only [Option.bind_some,inR]
     by_cases h1 : (c.toNat : Int) < 32
     ·have h1' : ¬ 32 ≤ (c.toNat : Int) := by omega
      simp [h1,h1']
     ·have h1' : 32 ≤ (c.toNat : Int) := by omega
      by_cases h2 : (c.toNat : Int) > 126
      ·have h2' : ¬ (c.toNat : Int) ≤ 126 := by omega
       simp [h1,h1',h2,h2']
      ·have h2' : (c.toNat : Int) ≤ 126 := by omega
       simp [h1,h1',h2,h2']
   ·simp only [h,h0,decide_true,decide_false,Bool.false_eq_true,if_true,if_false]
  ·simp only [h,decide_false,Bool.false_eq_true,if_false]) (by omega) (fun _ _ => rfl) s.length 0 (by omega)
 simp only [Int.ofNat_zero,Int.natCast_zero,List.drop_zero] at this
 rw [this,lineOk,ifSome]
theorem impl_isLine_okW (s : List UInt8) (hs : s.length ≤ 16777216) : impl_isLine s = some (lineOk s) := by
 rw [impl_isLine_eq]
 have := allLoop s (fun c => impl_within (IntKind.i64.wrap (c.toNat : Int)) 32 126) (fun c => inR (c.toNat : Int) 32 126) (fun i => impl_isLine_p0 s i) false (some (decide ((s.length : Int) ≤ 100))) (fun i => by
  show impl_isLine_p0 s i = _
  rw [impl_isLine_p0_eq,impl_few_eq]; rfl) (by omega) (fun c _ => by
   have hc := c.toNat_lt
   rw [impl_within_ok,w64 (by omega) (by omega)]) s.length 0 (by omega)
 simp only [Int.ofNat_zero,Int.natCast_zero,List.drop_zero] at this
 rw [this,lineOk,ifSome]
theorem spec_l30Ok_okW (ls : List (List UInt8)) (hs : ls.length ≤ 16777216) (hx : ∀ x,x ∈ ls → x.length ≤ 16777216) : spec_l30Ok ls = some (reportOk ls) := by
 rw [spec_l30Ok_eq]
 have := allLoop ls spec_l30Line lineOk (fun i => spec_l30Ok_p0 ls i) false _ (fun i => spec_l30Ok_p0_eq ls i) (by omega) (fun x h => spec_l30Line_okW x (hx x h)) ls.length 0 (by omega)
 simp only [Int.ofNat_zero,Int.natCast_zero,List.drop_zero] at this
 rw [this,reportOk,ifSome]
theorem indexReportW (ls : List (List UInt8)) (hs : ls.length ≤ 16777216) (hx : ∀ x,x ∈ ls → x.length ≤ 16777216) : ∀ (k i : Nat),i + k = ls.length → ∃ r : Int,slices_IndexFunc___string_string__impl_ValidReport_1_p0 ls ls.length i = some r ∧ decide (r ≥ 0) = !((ls.drop i).all lineOk)
 | 0,i,hk => by
   refine ⟨-1,?_,?_⟩
   ·rw [slices_IndexFunc___string_string__impl_ValidReport_1_p0_eq]
    have : ¬ (i : Int) < (ls.length : Int) := by omega
    simp only [this,decide_false,Bool.false_eq_true,if_false]
   ·rw [List.drop_eq_nil_of_le (by omega)]; rfl
 | k + 1,i,hk => by
   have hi : i < ls.length := by omega
   have hlt : (i : Int) < (ls.length : Int) := by omega
   have hw : IntKind.i64.wrap ((i : Int) + 1) = ((i + 1 : Nat) : Int) := by rw [w64 (by omega) (by omega)]; omega
   rw [slices_IndexFunc___string_string__impl_ValidReport_1_p0_eq,List.drop_eq_getElem_cons hi]
   simp only [hlt,decide_true,if_true,Int.natCast_nonneg,Int.toNat_natCast,List.getElem?_eq_getElem hi,Option.bind_some,impl_ValidReport_1_eq,impl_isLine_okW ls[i] (hx _ (List.getElem_mem hi)),hw,List.all_cons]
   cases lineOk ls[i]
   ·exact ⟨i,by simp,by simp⟩
   ·simp only [Bool.not_true,Bool.false_eq_true,if_false,Bool.true_and]
    exact indexReportW ls hs hx k (i + 1) (by omega)
theorem impl_ValidReport_okW (ls : List (List UInt8)) (hs : ls.length ≤ 16777216) (hx : ∀ x,x ∈ ls → x.length ≤ 16777216) : impl_ValidReport ls = some (reportOk ls) := by
 obtain ⟨r,r1,r2⟩ := indexReportW ls hs hx ls.length 0 (by omega)
 have r1' : slices_IndexFunc___string_string__impl_ValidReport_1_p0 ls (ls.length : Int) 0 = some r := r1
 rw [List.drop_zero] at r2
 rw [impl_ValidReport_eq,impl_few_eq,slices_ContainsFunc___string_string__impl_ValidReport_1_eq,slices_IndexFunc___string_string__impl_ValidReport_1_eq,r1',reportOk]
 simp only [Option.bind_some,r2]
 cases ls.all lineOk <;> by_cases h : (ls.length : Int) ≤ 200 <;> simp [h]
theorem spec_l30Done_okW (ls : List (List UInt8)) (hs : ls.length ≤ 16777216) (hx : ∀ x,x ∈ ls → x.length ≤ 16777216) : spec_l30Done ls = some (if reportOk ls = true then (ls,0) else ([],5)) := by
 rw [spec_l30Done_eq,spec_l30Ok_okW ls hs hx]
 cases reportOk ls <;> simp
theorem impl_report_okW (ls : List (List UInt8)) (hs : ls.length ≤ 16777216) (hx : ∀ x,x ∈ ls → x.length ≤ 16777216) : impl_report ls = some (if reportOk ls = true then (ls,0,()) else ([],5,())) := by
 rw [impl_report_eq,List.take_length,impl_ValidReport_okW ls hs hx]
 cases reportOk ls <;> simp
theorem padC_lenW {W : List Int} {i : Nat} {c : List UInt8} (h : (c.length : Int) ≤ wd W i) (h1 : wd W i ≤ 1048576) : (padC W i c).length ≤ 1048576 := by
 rw [padC,List.length_append,List.length_replicate]; omega
theorem upd_bdW {W : List Int} {i : Nat} (hi : i < W.length) {c : List UInt8} (hc : c.length ≤ 1048576) (h : ∀ k,0 ≤ wd W k ∧ wd W k ≤ 1048576) (k : Nat) : (0 ≤ wd (upd W i c) k ∧ wd (upd W i c) k ≤ 1048576) ∧ wd W k ≤ wd (upd W i c) k := by
 have h1 := h i; have h2 := h k
 rw [wd_upd hi]
 by_cases e : i = k
 ·subst e; rw [if_pos rfl]; split <;> omega
 ·rw [if_neg e]; omega
theorem rowW_bdW : ∀ (row : List (List UInt8)) (W : List Int) (i : Nat),i + row.length ≤ W.length → (∀ c,c ∈ row → c.length ≤ 1048576) → (∀ k,0 ≤ wd W k ∧ wd W k ≤ 1048576) → ∀ k,(0 ≤ wd (rowW W i row) k ∧ wd (rowW W i row) k ≤ 1048576) ∧ wd W k ≤ wd (rowW W i row) k
 | [],W,i,_,_,h,k => ⟨h k,Int.le_refl _⟩
 | c :: r,W,i,hl,hc,h,k => by
   rw [List.length_cons] at hl
   have h1 := upd_bdW (W := W) (i := i) (by omega) (hc c (by simp)) h
   have h2 := rowW_bdW r (upd W i c) (i + 1) (by rw [upd_len]; omega) (fun x hx => hc x (List.mem_cons_of_mem _ hx)) (fun k => (h1 k).1) k
   rw [rowW]
   exact ⟨h2.1,Int.le_trans (h1 k).2 h2.2⟩
theorem rowW_fitW : ∀ (row : List (List UInt8)) (W : List Int) (i : Nat),i + row.length ≤ W.length → (∀ c,c ∈ row → c.length ≤ 1048576) → (∀ k,0 ≤ wd W k ∧ wd W k ≤ 1048576) → ∀ (j : Nat) (hj : j < row.length),(row[j].length : Int) ≤ wd (rowW W i row) (i + j)
 | c :: r,W,i,hl,hc,h,j,hj => by
   rw [List.length_cons] at hl hj
   have h1 := upd_bdW (W := W) (i := i) (by omega) (hc c (by simp)) h
   have h2 := rowW_bdW r (upd W i c) (i + 1) (by rw [upd_len]; omega) (fun x hx => hc x (List.mem_cons_of_mem _ hx)) (fun k => (h1 k).1)
   rw [rowW]
   cases j with
   | zero =>
     have h3 := (h2 i).2
     rw [wd_upd (by omega),if_pos rfl] at h3
     simp only [List.getElem_cons_zero,Nat.add_zero]
     refine Int.le_trans ?_ h3
     split <;> omega
   | succ j =>
     have := rowW_fitW r (upd W i c) (i + 1) (by rw [upd_len]; omega) (fun x hx => hc x (List.mem_cons_of_mem _ hx)) (fun k => (h1 k).1) j (by omega)
     simp only [List.getElem_cons_succ]
     rw [show i + (j + 1) = i + 1 + j by omega]; exact this
def TabOkW (rows : List (List (List UInt8))) : Prop := ∀ row,row ∈ rows → row.length ≤ 12 ∧ ∀ c,c ∈ row → c.length ≤ 1048576
theorem allW_bdW : ∀ (rows : List (List (List UInt8))) (W : List Int),W.length = 12 → TabOkW rows → (∀ k,0 ≤ wd W k ∧ wd W k ≤ 1048576) → ∀ k,(0 ≤ wd (allW W rows) k ∧ wd (allW W rows) k ≤ 1048576) ∧ wd W k ≤ wd (allW W rows) k
 | [],W,_,_,h,k => ⟨h k,Int.le_refl _⟩
 | row :: r,W,hW,hr,h,k => by
   have h0 := hr row (by simp)
   have h1 := rowW_bdW row W 0 (by omega) h0.2 h
   have h2 := allW_bdW r (rowW W 0 row) (by rw [rowW_len]; exact hW) (fun x hx => hr x (List.mem_cons_of_mem _ hx)) (fun k => (h1 k).1) k
   rw [allW]
   exact ⟨h2.1,Int.le_trans (h1 k).2 h2.2⟩
theorem allW_fitW : ∀ (rows : List (List (List UInt8))) (W : List Int),W.length = 12 → TabOkW rows → (∀ k,0 ≤ wd W k ∧ wd W k ≤ 1048576) → ∀ row,row ∈ rows → ∀ (j : Nat) (hj : j < row.length),(row[j].length : Int) ≤ wd (allW W rows) j
 | row0 :: r,W,hW,hr,h,row,hm,j,hj => by
   have h0 := hr row0 (by simp)
   have h1 := rowW_bdW row0 W 0 (by omega) h0.2 h
   have hr' : TabOkW r := fun x hx => hr x (List.mem_cons_of_mem _ hx)
   have hl : (rowW W 0 row0).length = 12 := by rw [rowW_len]; exact hW
   rw [allW]
   rcases List.mem_cons.1 hm with rfl | hm
   ·have h2 := (allW_bdW r (rowW W 0 row) hl hr' (fun k => (h1 k).1) j).2
    have h3 := rowW_fitW row W 0 (by omega) h0.2 h j hj
    rw [Nat.zero_add] at h3
    exact Int.le_trans h3 h2
   ·exact allW_fitW r (rowW W 0 row0) hl hr' (fun k => (h1 k).1) row hm j hj
theorem tabW_okW (rows : List (List (List UInt8))) (hr : TabOkW rows) : (tabW rows).length = 12 ∧ (∀ k,0 ≤ wd (tabW rows) k ∧ wd (tabW rows) k ≤ 1048576) ∧ ∀ row,row ∈ rows → ∀ (j : Nat) (hj : j < row.length),(row[j].length : Int) ≤ wd (tabW rows) j := by
 have h0 : ∀ k,0 ≤ wd [0,0,0,0,0,0,0,0,0,0,0,0] k ∧ wd [0,0,0,0,0,0,0,0,0,0,0,0] k ≤ 1048576 := fun k => by rw [wd0]; omega
 exact ⟨allW_len _ _,fun k => (allW_bdW rows _ rfl hr h0 k).1,allW_fitW rows _ rfl hr h0⟩
theorem cellsP_lenW {W : List Int} (hW : ∀ k,0 ≤ wd W k ∧ wd W k ≤ 1048576) : ∀ (r : List (List UInt8)) (i : Nat),(∀ (j : Nat) (hj : j < r.length),(r[j].length : Int) ≤ wd W (i + j)) → (cellsP W i r).length = r.length ∧ (Lib.joinTail [32,32] (cellsP W i r)).length ≤ 1048578 * r.length
 | [],i,_ => ⟨rfl,by simp [cellsP,Lib.joinTail]⟩
 | c :: r,i,h => by
   have h1 := cellsP_lenW hW r (i + 1) (fun j hj => by have := h (j + 1) (by simpa using hj); rwa [List.getElem_cons_succ,show i + (j + 1) = i + 1 + j by omega] at this)
   have h2 := padC_lenW (W := W) (i := i) (c := c) (by have := h 0 (by simp); simpa using this) (hW i).2
   have h3 := h1.2
   simp only [Lib.joinTail] at h3 ⊢
   simp only [cellsP,List.length_cons,List.map_cons,List.flatten_cons,List.length_append,h1.1,true_and,List.length_nil]
   omega
theorem join_bdW {W : List Int} (hW : ∀ k,0 ≤ wd W k ∧ wd W k ≤ 1048576) (row : List (List UInt8)) (h : ∀ (j : Nat) (hj : j < row.length),(row[j].length : Int) ≤ wd W j) (hl : row.length ≤ 12) : (cellsP W 0 row).length ≤ 12 ∧ (Lib.join (cellsP W 0 row) [32,32]).length ≤ 12582936 := by
 have h1 := cellsP_lenW hW row 0 (fun j hj => by rw [Nat.zero_add]; exact h j hj)
 refine ⟨by omega,?_⟩
 have h2 := h1.2
 cases row with
 | nil => rw [cellsP,Lib.join_nil]; simp
 | cons c r =>
   rw [cellsP,Lib.join_cons]
   rw [cellsP] at h2
   simp only [Lib.joinTail,List.map_cons,List.flatten_cons,List.length_append] at h2 ⊢
   simp only [List.length_cons] at h2 hl
   omega
theorem lineP_lenW {W : List Int} (hW : ∀ k,0 ≤ wd W k ∧ wd W k ≤ 1048576) (row : List (List UInt8)) (h : ∀ (j : Nat) (hj : j < row.length),(row[j].length : Int) ≤ wd W j) (hl : row.length ≤ 12) : (lineP W row).length ≤ 12582936 :=
 Nat.le_trans (trimP_len _) (join_bdW hW row h hl).2
theorem trimRightByte_okW : ∀ (n : Nat) (s : List UInt8),s.length = n → n ≤ 16777216 → strings_trimRightByte_p0 s 32 = some (trimP s)
 | 0,s,h,_ => by
   obtain rfl := List.eq_nil_of_length_eq_zero h
   rw [strings_trimRightByte_p0_eq]; rfl
 | n + 1,s,h,hb => by
   rcases snoc_or s with rfl | ⟨t,c,rfl⟩
   ·cases h
   have ht : t.length = n := by simpa using h
   have h1 : ((t ++ [c]).length : Int) > 0 := by rw [h]; omega
   have hw : IntKind.i64.wrap (((t ++ [c]).length : Int) - 1) = (t.length : Int) := by rw [h,w64 (by omega) (by omega)]; omega
   have hle : (t.length : Int) ≤ ((t ++ [c]).length : Int) := by rw [h]; omega
   rw [strings_trimRightByte_p0_eq,hw]
   simp only [h1,hle,decide_true,if_true,Int.natCast_nonneg,Int.toNat_natCast,List.getElem?_concat_length,Option.bind_some,is32,Bool.and_self,List.take_left',trimP_snoc]
   by_cases hc : (c == 32) = true
   ·simp only [hc,if_true]
    exact trimRightByte_okW n t ht (by omega)
   ·simp only [hc,Bool.false_eq_true,if_false]
theorem strings_TrimRight_okW (s : List UInt8) (hs : s.length ≤ 16777216) : strings_TrimRight s [32] = some (trimP s) := by
 rw [strings_TrimRight_eq]
 by_cases h : s = []
 ·subst h; rfl
 ·have h1 : ¬ (s == ([] : List UInt8)) = true := by simpa using h
  have h2 : ((([(32 : UInt8)].length : Nat) : Int) == 1) = true := rfl
  have h3 : ¬ (([(32 : UInt8)] : List UInt8) == []) = true := fun e => by cases e
  have h4 : ([(32 : UInt8)])[0]? = some 32 := rfl
  have h6 : ((32 : UInt8).toNat : Int) = 32 := rfl
  have h5 : decide (((32 : UInt8).toNat : Int) < 128) = true := by rw [h6]; exact decide_eq_true (by omega)
  rw [if_neg h1,if_neg h3,strings_TrimRight_p0_eq,if_pos h2,h4,Option.bind_some,if_pos h5,strings_TrimRight_p1_eq,h4,Option.bind_some,h6,strings_trimRightByte_eq,trimRightByte_okW s.length s rfl hs]
  rfl
theorem areCells_loopW (row : List (List UInt8)) (hl : row.length ≤ 16777216) (hc : ∀ c,c ∈ row → c.length ≤ 16777216) : ∀ (k i : Nat),i + k = row.length → impl_areCells_p0 row row row.length i = some (((row.drop i).all fun c => c.all fun ch => inR (ch.toNat : Int) 33 126) && decide ((row.length : Int) ≤ 12))
 | 0,i,hk => by
   rw [impl_areCells_p0_eq,List.drop_eq_nil_of_le (by omega),impl_few_eq]
   have : ¬ (i : Int) < (row.length : Int) := by omega
   simp only [this,decide_false,Bool.false_eq_true,if_false,Option.bind_some,List.all_nil,Bool.true_and]
 | k + 1,i,hk => by
   have hi : i < row.length := by omega
   have hlt : (i : Int) < (row.length : Int) := by omega
   have hw : IntKind.i64.wrap ((i : Int) + 1) = ((i + 1 : Nat) : Int) := by rw [w64 (by omega) (by omega)]; omega
   have ih := areCells_loopW row hl hc k (i + 1) (by omega)
   have h1 := allLoop row[i] (fun c => impl_within (IntKind.i64.wrap (c.toNat : Int)) 33 126) (fun ch => inR (ch.toNat : Int) 33 126) (fun j => impl_areCells_p1 row row[i] j row row.length i) false _ (fun j => impl_areCells_p1_eq row row[i] j row row.length i) (by have := hc row[i] (List.getElem_mem hi); omega) (fun c _ => by
    have hc := c.toNat_lt
    rw [impl_within_ok,w64 (by omega) (by omega)]) row[i].length 0 (by omega)
   simp only [Int.ofNat_zero,Int.natCast_zero,List.drop_zero] at h1
   rw [impl_areCells_p0_eq,List.drop_eq_getElem_cons hi]
   simp only [hlt,decide_true,if_true,Int.natCast_nonneg,Int.toNat_natCast,List.getElem?_eq_getElem hi,Option.bind_some,h1,hw,ih,List.all_cons]
   by_cases h : (row[i].all fun ch => inR (ch.toNat : Int) 33 126) = true
   ·simp [h]
   ·simp [h]
theorem impl_areCells_okW (row : List (List UInt8)) (hl : row.length ≤ 16777216) (hc : ∀ c,c ∈ row → c.length ≤ 16777216) : impl_areCells row = some (cellsOk row) := by
 rw [impl_areCells_eq]; exact areCells_loopW row hl hc row.length 0 (by omega)
theorem p0L_loopW (rows : List (List (List UInt8))) (hs : rows.length ≤ 16777216) (hr : TabOkW rows) (hc : ∀ row,row ∈ rows → cellsOk row = true) : ∀ (k i : Nat) (W : List Int),i + k = rows.length → W.length = 12 →
 p0L rows rows rows.length i W = p2L rows rows.length 0 (allW W (rows.drop i)) []
 | 0,i,W,hk,hW => by
   rw [List.drop_eq_nil_of_le (by omega),allW,p0L,p2L,impl_TableLines_p0_eq]
   have : ¬ (i : Int) < (rows.length : Int) := by omega
   simp only [this,decide_false,Bool.false_eq_true,if_false]
 | k + 1,i,W,hk,hW => by
   have hi : i < rows.length := by omega
   have hlt : (i : Int) < (rows.length : Int) := by omega
   have hw : IntKind.i64.wrap ((i : Int) + 1) = ((i + 1 : Nat) : Int) := by rw [w64 (by omega) (by omega)]; omega
   have h1 := hr rows[i] (List.getElem_mem hi)
   have e1 := impl_areCells_okW rows[i] (by omega) (fun c hm => Nat.le_trans (h1.2 c hm) (by decide))
   rw [hc rows[i] (List.getElem_mem hi)] at e1
   have e2 := p1L_loop rows i rows[i] h1.1 rows[i].length 0 W (by omega) hW
   have e2' : impl_TableLines_p1 rows rows rows.length i rows[i] rows[i].length 0 (wd W 0) (wd W 1) (wd W 2) (wd W 3) (wd W 4) (wd W 5) (wd W 6) (wd W 7) (wd W 8) (wd W 9) (wd W 10) (wd W 11) = _ := e2
   rw [List.drop_zero,hw] at e2'
   rw [p0L,impl_TableLines_p0_eq,List.drop_eq_getElem_cons hi,allW]
   simp only [hlt,decide_true,if_true,Int.natCast_nonneg,Int.toNat_natCast,List.getElem?_eq_getElem hi,Option.bind_some,e1,Bool.not_true,Bool.false_eq_true,if_false]
   rw [e2']
   exact p0L_loopW rows hs hr hc k (i + 1) _ (by omega) (by rw [rowW_len]; exact hW)
theorem p3L_loopW (rows : List (List (List UInt8))) (v44 : Int) (row : List (List UInt8)) (W : List Int) (r9 : List (List UInt8)) (hl : row.length ≤ 12) (h9 : r9.length ≤ 16777216) (hW : ∀ k,0 ≤ wd W k ∧ wd W k ≤ 1048576) (hf : ∀ (j : Nat) (hj : j < row.length),(row[j].length : Int) ≤ wd W j) :
 ∀ (k i : Nat) (r12 : List (List UInt8)),i + k = row.length → r12.length = i → r12 ++ cellsP W i (row.drop i) = cellsP W 0 row →
 p3L rows rows.length v44 row row.length i W r9 r12 = p2L rows rows.length (IntKind.i64.wrap (v44 + 1)) W (r9 ++ [lineP W row])
 | 0,i,r12,hk,hr,he => by
   rw [List.drop_eq_nil_of_le (by omega),cellsP,List.append_nil] at he
   subst he
   have hb := join_bdW hW row hf hl
   have h1 : (cellsP W 0 row).length ≤ 140737488355328 := by omega
   have h2 : (Lib.join (cellsP W 0 row) [32,32]).length ≤ 140737488355328 := by omega
   have hj : strings_Join (cellsP W 0 row) [32,32] = some (Lib.join (cellsP W 0 row) [32,32]) := by
    rw [strings_Join_eq,decide_eq_true h1,decide_eq_true h2]; rfl
   have hlim : r9.length + 1 < lim := by rw [lim_eq]; omega
   rw [p3L,p2L,impl_TableLines_p3_eq]
   have : ¬ (i : Int) < (row.length : Int) := by omega
   simp only [this,decide_false,Bool.false_eq_true,if_false,List.take_length,hj,Option.bind_some,strings_TrimRight_okW _ (show (Lib.join (cellsP W 0 row) [32,32]).length ≤ 16777216 by omega),hlim,decide_true,if_true]
   rfl
 | k + 1,i,r12,hk,hr,he => by
   have hi : i < row.length := by omega
   have h1 := hf i hi
   have h2 := hW i
   have hw : IntKind.i64.wrap (wd W i - (row[i].length : Int)) = wd W i - (row[i].length : Int) := w64 (by omega) (by omega)
   have hrep : strings_Repeat [32] (wd W i - (row[i].length : Int)) = some (List.replicate (wd W i - (row[i].length : Int)).toNat 32) := by
    have h3 : 0 ≤ wd W i - (row[i].length : Int) := by omega
    have h4 : wd W i - (row[i].length : Int) ≤ 9223372036854775807 := by omega
    have h5 : [(32 : UInt8)].length * (wd W i - (row[i].length : Int)).toNat ≤ 140737488355328 := by simp only [List.length_cons,List.length_nil]; omega
    rw [strings_Repeat_eq,decide_eq_true h3,decide_eq_true h4,decide_eq_true h5,repeat32]; rfl
   have hst : row[i].length + (List.replicate (wd W i - (row[i].length : Int)).toNat (32 : UInt8)).length ≤ strMax := by rw [strMax_eq,List.length_replicate]; omega
   have hlim : r12.length + 1 < lim := by rw [lim_eq]; omega
   rw [p3L_raw rows rows.length v44 row i W r9 r12 hi (by omega),hw,hrep,Option.bind_some,if_pos (decide_eq_true hst),if_pos (decide_eq_true hlim),List.take_length]
   refine p3L_loopW rows v44 row W r9 hl h9 hW hf k (i + 1) _ (by omega) (by simp [hr]) ?_
   rw [← he,List.drop_eq_getElem_cons hi,cellsP,List.append_assoc]; rfl
theorem p2L_loopW (rows : List (List (List UInt8))) (W : List Int) (hs : rows.length ≤ 16777216) (hr : TabOkW rows) (hW : ∀ k,0 ≤ wd W k ∧ wd W k ≤ 1048576) (hf : ∀ row,row ∈ rows → ∀ (j : Nat) (hj : j < row.length),(row[j].length : Int) ≤ wd W j) :
 ∀ (k i : Nat) (r9 : List (List UInt8)),i + k = rows.length → r9.length = i → p2L rows rows.length i W r9 = (impl_report (r9 ++ (rows.drop i).map (lineP W))).bind fun x => some (x.1,x.2.1)
 | 0,i,r9,hk,h9 => by
   rw [p2L,impl_TableLines_p2_eq,List.drop_eq_nil_of_le (by omega)]
   have : ¬ (i : Int) < (rows.length : Int) := by omega
   simp only [this,decide_false,decide_true,if_true,Bool.false_eq_true,if_false,List.map_nil,List.append_nil,List.take_length]
 | k + 1,i,r9,hk,h9 => by
   have hi : i < rows.length := by omega
   have hlt : (i : Int) < (rows.length : Int) := by omega
   have hm := List.getElem_mem hi
   have hw : IntKind.i64.wrap ((i : Int) + 1) = ((i + 1 : Nat) : Int) := by rw [w64 (by omega) (by omega)]; omega
   have e := p3L_loopW rows i rows[i] W r9 (hr _ hm).1 (by omega) hW (hf _ hm) rows[i].length 0 [] (by omega) rfl (by rw [List.drop_zero,List.nil_append])
   rw [hw,p2L_loopW rows W hs hr hW hf k (i + 1) _ (by omega) (by simp [h9])] at e
   have e' : impl_TableLines_p3 rows rows.length i rows[i] rows[i].length 0 (wd W 0) (wd W 1) (wd W 2) (wd W 3) (wd W 4) (wd W 5) (wd W 6) (wd W 7) (wd W 8) (wd W 9) (wd W 10) (wd W 11) r9 [] = _ := e
   rw [p2L,impl_TableLines_p2_eq,List.drop_eq_getElem_cons hi]
   simp only [hlt,decide_true,if_true,Int.natCast_nonneg,Int.toNat_natCast,List.getElem?_eq_getElem hi,Option.bind_some]
   rw [e',List.map_cons,List.append_assoc]; rfl
theorem impl_TableLines_okW (rows : List (List (List UInt8))) (hs : rows.length ≤ 16777216) (hr : TabOkW rows) (hc : ∀ row,row ∈ rows → cellsOk row = true) :
 impl_TableLines rows = some (if reportOk (rows.map (lineP (tabW rows))) = true then (rows.map (lineP (tabW rows)),0) else ([],5)) := by
 obtain ⟨t1,t2,t3⟩ := tabW_okW rows hr
 have e1 := p0L_loopW rows hs hr hc rows.length 0 [0,0,0,0,0,0,0,0,0,0,0,0] (by omega) rfl
 rw [List.drop_zero] at e1
 have e2 := p2L_loopW rows (tabW rows) hs hr t2 t3 rows.length 0 [] (by omega) rfl
 rw [List.drop_zero,List.nil_append] at e2
 have e3 : impl_TableLines rows = p0L rows rows rows.length ((0 : Nat) : Int) [0,0,0,0,0,0,0,0,0,0,0,0] := impl_TableLines_eq rows
 rw [e3,e1]
 refine Eq.trans e2 ?_
 rw [impl_report_okW _ (by rw [List.length_map]; exact hs) (fun x hx => by
  obtain ⟨row,h1,rfl⟩ := List.mem_map.1 hx
  exact Nat.le_trans (lineP_lenW t2 row (t3 row h1) (hr row h1).1) (by decide))]
 cases reportOk (rows.map (lineP (tabW rows))) <;> rfl
theorem st0_loopW (rows : List (List (List UInt8))) (hs : rows.length ≤ 16777216) (hr : TabOkW rows) : ∀ (k i : Nat) (W : List Int),i + k = rows.length → W.length = 12 →
 spec_l30Table_p0 rows 12 i W = spec_l30Table_p2 rows 12 0 (allW W (rows.drop i)) []
 | 0,i,W,hk,hW => by
   rw [List.drop_eq_nil_of_le (by omega),allW,spec_l30Table_p0_eq]
   have : ¬ (i : Int) < (rows.length : Int) := by omega
   simp only [this,decide_false,Bool.false_eq_true,if_false]
 | k + 1,i,W,hk,hW => by
   have hi : i < rows.length := by omega
   have hlt : (i : Int) < (rows.length : Int) := by omega
   have hw : IntKind.i64.wrap ((i : Int) + 1) = ((i + 1 : Nat) : Int) := by rw [w64 (by omega) (by omega)]; omega
   have h1 := hr rows[i] (List.getElem_mem hi)
   have e := st1_loop rows i hi h1.1 rows[i].length 0 W (by omega) hW
   rw [List.drop_zero,hw] at e
   rw [spec_l30Table_p0_eq,List.drop_eq_getElem_cons hi,allW]
   simp only [hlt,decide_true,if_true]
   refine Eq.trans e ?_
   exact st0_loopW rows hs hr k (i + 1) _ (by omega) (by rw [rowW_len]; exact hW)
theorem st6_loopW (rows : List (List (List UInt8))) (v7 : Int) (i : Nat) (W : List Int) (r6 : List (List UInt8)) (hi : i < 12) (hW : W.length = 12) (hb : wd W i ≤ 1048576) : ∀ (k b : Nat) (s : List UInt8),(wd W i - (b : Int)).toNat = k → b ≤ 1048576 → s.length + k ≤ 16777216 →
 spec_l30Table_p6 rows 12 v7 s i b W r6 = spec_l30Table_p3 rows 12 v7 (s ++ List.replicate k 32) ((i + 1 : Nat) : Int) W r6
 | 0,b,s,hk,hb',hs => by
   have h12 : (i : Int) < ((12 : Nat) : Int) := by omega
   have hw : IntKind.i64.wrap ((i : Int) + 1) = ((i + 1 : Nat) : Int) := by rw [w64 (by omega) (by omega)]; omega
   have hn : ¬ (b : Int) < wd W i := by omega
   rw [spec_l30Table_p6_eq]
   simp only [Int.natCast_nonneg,h12,decide_true,Bool.and_self,if_true,Int.toNat_natCast,wd_get (show i < W.length by omega),Option.bind_some,hn,decide_false,Bool.false_eq_true,if_false,hw,List.replicate_zero,List.append_nil]
 | k + 1,b,s,hk,hb',hs => by
   have h12 : (i : Int) < ((12 : Nat) : Int) := by omega
   have hn : (b : Int) < wd W i := by omega
   have hw : IntKind.i64.wrap ((b : Int) + 1) = ((b + 1 : Nat) : Int) := by rw [w64 (by omega) (by omega)]; omega
   have hst : s.length + [(32 : UInt8)].length ≤ strMax := by rw [strMax_eq]; simp only [List.length_cons,List.length_nil]; omega
   rw [spec_l30Table_p6_eq]
   simp only [Int.natCast_nonneg,h12,decide_true,Bool.and_self,if_true,Int.toNat_natCast,wd_get (show i < W.length by omega),Option.bind_some,hn,hw]
   refine (if_pos (decide_eq_true hst)).trans ?_
   rw [st6_loopW rows v7 i W r6 hi hW hb k (b + 1) (s ++ [32]) (by omega) (by omega) (by simp; omega),List.append_assoc]; rfl
theorem st3_loopW (rows : List (List (List UInt8))) (v7 : Nat) (W : List Int) (r6 : List (List UInt8)) (h7 : v7 < rows.length) (hl : rows[v7].length ≤ 12) (hW : W.length = 12) (hb : ∀ k,0 ≤ wd W k ∧ wd W k ≤ 1048576) (hf : ∀ (j : Nat) (hj : j < rows[v7].length),(rows[v7][j].length : Int) ≤ wd W j) :
 ∀ (k i : Nat) (s : List UInt8),i + k = rows[v7].length → s.length ≤ 1048578 * i → spec_l30Table_p3 rows 12 v7 s i W r6 = spec_l30Table_p5 rows 12 v7 (lineGo W i s (rows[v7].drop i)) W r6
 | 0,i,s,hk,hs => by
   rw [List.drop_eq_nil_of_le (by omega),lineGo,spec_l30Table_p3_eq]
   have : ¬ (i : Int) < (rows[v7].length : Int) := by omega
   simp only [Int.natCast_nonneg,decide_true,if_true,Int.toNat_natCast,List.getElem?_eq_getElem h7,Option.bind_some,this,decide_false,Bool.false_eq_true,if_false]
 | k + 1,i,s,hk,hs => by
   have hi : i < rows[v7].length := by omega
   have hlt : (i : Int) < (rows[v7].length : Int) := by omega
   have hfi := hf i hi
   have hbi := hb i
   have step : ∀ s' : List UInt8,s'.length ≤ 1048578 * i + 2 → spec_l30Table_p4 rows 12 v7 s' i W r6 = spec_l30Table_p3 rows 12 v7 (s' ++ padC W i rows[v7][i]) ((i + 1 : Nat) : Int) W r6 := fun s' hs' => by
    have hst : s'.length + rows[v7][i].length ≤ strMax := by rw [strMax_eq]; omega
    rw [spec_l30Table_p4_eq]
    simp only [Int.natCast_nonneg,decide_true,if_true,Int.toNat_natCast,List.getElem?_eq_getElem h7,List.getElem?_eq_getElem hi,Option.bind_some,hst]
    rw [st6_loopW rows v7 i W r6 (by omega) hW hbi.2 (wd W i - (rows[v7][i].length : Int)).toNat rows[v7][i].length _ rfl (by omega) (by rw [List.length_append]; omega),padC,List.append_assoc]
   have hp := padC_lenW (W := W) (i := i) (c := rows[v7][i]) hfi hbi.2
   rw [List.drop_eq_getElem_cons hi,lineGo,spec_l30Table_p3_eq]
   simp only [Int.natCast_nonneg,decide_true,if_true,Int.toNat_natCast,List.getElem?_eq_getElem h7,Option.bind_some,hlt]
   by_cases h0 : i > 0
   ·have h0' : (i : Int) > 0 := by omega
    have hst : s.length + [(32 : UInt8),32].length ≤ strMax := by rw [strMax_eq]; simp only [List.length_cons,List.length_nil]; omega
    simp only [h0,h0',decide_true,if_true]
    refine (if_pos (decide_eq_true hst)).trans ?_
    rw [step _ (by simp; omega)]
    exact st3_loopW rows v7 W r6 h7 hl hW hb hf k (i + 1) _ (by omega) (by simp only [List.length_append,List.length_cons,List.length_nil]; omega)
   ·have h0' : ¬ (i : Int) > 0 := by omega
    simp only [h0,h0',decide_false,Bool.false_eq_true,if_false]
    rw [step _ (by omega)]
    exact st3_loopW rows v7 W r6 h7 hl hW hb hf k (i + 1) _ (by omega) (by simp only [List.length_append]; omega)
theorem st5_loopW (rows : List (List (List UInt8))) (v7 : Int) (W : List Int) (r6 : List (List UInt8)) (h6 : r6.length ≤ 16777216) : ∀ (n : Nat) (s : List UInt8),s.length = n → n ≤ 16777216 →
 spec_l30Table_p5 rows 12 v7 s W r6 = spec_l30Table_p2 rows 12 (IntKind.i64.wrap (v7 + 1)) W (r6 ++ [trimP s])
 | 0,s,h,_ => by
   obtain rfl := List.eq_nil_of_length_eq_zero h
   have hlim : r6.length + 1 < lim := by rw [lim_eq]; omega
   have h0 : ¬ (([] : List UInt8).length : Int) > 0 := by simp
   rw [spec_l30Table_p5_eq]
   simp only [h0,decide_false,Bool.false_eq_true,if_false,hlim,decide_true,if_true,List.take_length]
   rfl
 | n + 1,s,h,hb => by
   rcases snoc_or s with rfl | ⟨t,c,rfl⟩
   ·cases h
   have hlim : r6.length + 1 < lim := by rw [lim_eq]; omega
   have ht : t.length = n := by simpa using h
   have h1 : ((t ++ [c]).length : Int) > 0 := by rw [h]; omega
   have hw : IntKind.i64.wrap (((t ++ [c]).length : Int) - 1) = (t.length : Int) := by rw [h,w64 (by omega) (by omega)]; omega
   have hle : (t.length : Int) ≤ ((t ++ [c]).length : Int) := by rw [h]; omega
   rw [spec_l30Table_p5_eq,hw]
   simp only [h1,hle,decide_true,if_true,Int.natCast_nonneg,Int.toNat_natCast,List.getElem?_concat_length,Option.bind_some,is32,Bool.and_self,List.take_left',trimP_snoc]
   by_cases hc : (c == 32) = true
   ·simp only [hc,if_true]
    exact st5_loopW rows v7 W r6 h6 n t ht (by omega)
   ·simp only [hc,Bool.false_eq_true,if_false,hlim,decide_true,if_true,List.take_length]
theorem st2_loopW (rows : List (List (List UInt8))) (W : List Int) (hs : rows.length ≤ 16777216) (hr : TabOkW rows) (hW : W.length = 12) (hb : ∀ k,0 ≤ wd W k ∧ wd W k ≤ 1048576) (hf : ∀ row,row ∈ rows → ∀ (j : Nat) (hj : j < row.length),(row[j].length : Int) ≤ wd W j) :
 ∀ (k i : Nat) (r6 : List (List UInt8)),i + k = rows.length → r6.length = i → spec_l30Table_p2 rows 12 i W r6 = some (r6 ++ (rows.drop i).map (lineP W))
 | 0,i,r6,hk,h6 => by
   rw [spec_l30Table_p2_eq,List.drop_eq_nil_of_le (by omega)]
   have : ¬ (i : Int) < (rows.length : Int) := by omega
   simp only [this,decide_false,Bool.false_eq_true,if_false,List.map_nil,List.append_nil,List.take_length]
 | k + 1,i,r6,hk,h6 => by
   have hi : i < rows.length := by omega
   have hlt : (i : Int) < (rows.length : Int) := by omega
   have hm := List.getElem_mem hi
   have hw : IntKind.i64.wrap ((i : Int) + 1) = ((i + 1 : Nat) : Int) := by rw [w64 (by omega) (by omega)]; omega
   have e := st3_loopW rows i W r6 hi (hr _ hm).1 hW hb (hf _ hm) rows[i].length 0 [] (by omega) (by simp)
   have hj := (join_bdW hb rows[i] (hf _ hm) (hr _ hm).1).2
   rw [List.drop_zero,lineGo_join,st5_loopW rows i W r6 (by omega) _ _ rfl (by omega),hw,st2_loopW rows W hs hr hW hb hf k (i + 1) _ (by omega) (by simp [h6])] at e
   rw [spec_l30Table_p2_eq,List.drop_eq_getElem_cons hi,List.map_cons]
   simp only [hlt,decide_true,if_true]
   refine Eq.trans e ?_
   rw [List.append_assoc]; rfl
theorem spec_l30Table_okW (rows : List (List (List UInt8))) (hs : rows.length ≤ 16777216) (hr : TabOkW rows) : spec_l30Table rows = some (rows.map (lineP (tabW rows))) := by
 obtain ⟨t1,t2,t3⟩ := tabW_okW rows hr
 have e1 := st0_loopW rows hs hr rows.length 0 [0,0,0,0,0,0,0,0,0,0,0,0] (by omega) rfl
 rw [List.drop_zero] at e1
 have e2 := st2_loopW rows (tabW rows) hs hr t1 t2 t3 rows.length 0 [] (by omega) rfl
 rw [List.drop_zero,List.nil_append] at e2
 rw [spec_l30Table_eq]
 exact e1.trans e2
theorem szStringS_ok (xs : List (List UInt8)) (hl : xs.length ≤ 9223372036854775807) (hx : ∀ x,x ∈ xs → x.length ≤ 9223372036854775807) (l : Int) (h0 : 0 ≤ l) (h1 : l ≤ 1048576) :
 ∃ n,laws_szStringS xs l = some n ∧ n ≤ l ∧ (0 ≤ n → xs.length ≤ 1048576 ∧ ∀ x,x ∈ xs → x.length ≤ 1048576) :=
 szList (P := fun x : List UInt8 => x.length ≤ 1048576) xs (fun x l => some (IntKind.i64.wrap (l - (x.length : Int)))) laws_szStringS_p0 laws_szStringS (fun l i => laws_szStringS_p0_eq xs l i) (fun l => laws_szStringS_eq xs l) hl (fun x hm l h0 h1 => by
  have := hx x hm
  rw [w64 (n := l - (x.length : Int)) (by omega) (by omega)]
  exact ⟨_,rfl,by omega,fun h => by omega⟩) l h0 h1
theorem szStringSS_ok (xs : List (List (List UInt8))) (hl : xs.length ≤ 9223372036854775807) (hx : ∀ x,x ∈ xs → x.length ≤ 9223372036854775807 ∧ ∀ y,y ∈ x → y.length ≤ 9223372036854775807) (l : Int) (h0 : 0 ≤ l) (h1 : l ≤ 1048576) :
 ∃ n,laws_szStringSS xs l = some n ∧ n ≤ l ∧ (0 ≤ n → xs.length ≤ 1048576 ∧ ∀ x,x ∈ xs → x.length ≤ 1048576 ∧ ∀ y,y ∈ x → y.length ≤ 1048576) :=
 szList (P := fun x : List (List UInt8) => x.length ≤ 1048576 ∧ ∀ y,y ∈ x → y.length ≤ 1048576) xs laws_szStringS laws_szStringSS_p0 laws_szStringSS (fun l i => laws_szStringSS_p0_eq xs l i) (fun l => laws_szStringSS_eq xs l) hl (fun x hm l h0 h1 => szStringS_ok x (hx x hm).1 (hx x hm).2 l h0 h1) l h0 h1
theorem toStringS_ok (xs : List (List UInt8)) (hs : xs.length ≤ 1048576) : laws_toStringS xs = some xs :=
 toList_ok xs ([] : List UInt8) some laws_toStringS_p0 laws_toStringS (fun n i r => laws_toStringS_p0_eq xs n i r) (laws_toStringS_eq xs) hs (fun x _ => rfl)
theorem eqStringSS_ok (xs : List (List (List UInt8))) (hs : xs.length ≤ 1048576) (hx : ∀ x,x ∈ xs → x.length ≤ 1048576) : laws_eqStringSS xs xs = some true :=
 eqList_ok xs laws_eqStringS laws_eqStringSS_p0 laws_eqStringSS (fun i => laws_eqStringSS_p0_eq xs xs i) (laws_eqStringSS_eq xs xs) hs (fun x hm => eqStringS_ok x (hx x hm))
def byteOk (ch : UInt8) : Bool := inR (ch.toNat : Int) 33 126
theorem l30Rows_p2 (v0 : List (List (List UInt8))) (a b : Nat) (ha : a < v0.length) (hb : b < v0[a].length) (hl : v0[a][b].length ≤ 1048576) :
 ∀ (k i : Nat),i + k = v0[a][b].length → spec_l30Rows_p2 v0 a b i = if (v0[a][b].drop i).all byteOk then spec_l30Rows_p1 v0 a (IntKind.i64.wrap ((b : Int) + 1)) else some false
 | 0,i,hk => by
   rw [spec_l30Rows_p2_eq,List.drop_eq_nil_of_le (by omega)]
   have : ¬ (i : Int) < (v0[a][b].length : Int) := by omega
   simp only [Int.natCast_nonneg,decide_true,if_true,Int.toNat_natCast,List.getElem?_eq_getElem ha,List.getElem?_eq_getElem hb,Option.bind_some,this,decide_false,Bool.false_eq_true,if_false,List.all_nil]
 | k + 1,i,hk => by
   have hi : i < v0[a][b].length := by omega
   have hlt : (i : Int) < (v0[a][b].length : Int) := by omega
   have hw : IntKind.i64.wrap ((i : Int) + 1) = ((i + 1 : Nat) : Int) := by rw [w64 (by omega) (by omega)]; omega
   have ih := l30Rows_p2 v0 a b ha hb hl k (i + 1) (by omega)
   rw [spec_l30Rows_p2_eq,List.drop_eq_getElem_cons hi,List.all_cons]
   simp only [Int.natCast_nonneg,decide_true,if_true,Int.toNat_natCast,List.getElem?_eq_getElem ha,List.getElem?_eq_getElem hb,List.getElem?_eq_getElem hi,Option.bind_some,hlt,hw,ih]
   by_cases h1 : ((v0[a][b][i].toNat : Nat) : Int) < 33
   ·have : byteOk v0[a][b][i] = false := by simp only [byteOk,inR,Bool.and_eq_false_iff,decide_eq_false_iff_not]; omega
    simp [h1,this]
   ·by_cases h2 : ((v0[a][b][i].toNat : Nat) : Int) > 126
    ·have : byteOk v0[a][b][i] = false := by simp only [byteOk,inR,Bool.and_eq_false_iff,decide_eq_false_iff_not]; omega
     simp [h1,h2,this]
    ·have : byteOk v0[a][b][i] = true := by simp only [byteOk,inR,Bool.and_eq_true,decide_eq_true_eq]; omega
     simp [h1,h2,this]
theorem l30Rows_p1 (v0 : List (List (List UInt8))) (a : Nat) (ha : a < v0.length) (hr : v0[a].length ≤ 1048576) (hl : ∀ y,y ∈ v0[a] → y.length ≤ 1048576) :
 ∀ (k i : Nat),i + k = v0[a].length → spec_l30Rows_p1 v0 a i = if (v0[a].drop i).all (fun y => y.all byteOk) then spec_l30Rows_p0 v0 (IntKind.i64.wrap ((a : Int) + 1)) else some false
 | 0,i,hk => by
   rw [spec_l30Rows_p1_eq,List.drop_eq_nil_of_le (by omega)]
   have : ¬ (i : Int) < (v0[a].length : Int) := by omega
   simp only [Int.natCast_nonneg,decide_true,if_true,Int.toNat_natCast,List.getElem?_eq_getElem ha,Option.bind_some,this,decide_false,Bool.false_eq_true,if_false,List.all_nil]
 | k + 1,i,hk => by
   have hi : i < v0[a].length := by omega
   have hlt : (i : Int) < (v0[a].length : Int) := by omega
   have hw : IntKind.i64.wrap ((i : Int) + 1) = ((i + 1 : Nat) : Int) := by rw [w64 (by omega) (by omega)]; omega
   have ih := l30Rows_p1 v0 a ha hr hl k (i + 1) (by omega)
   have e := l30Rows_p2 v0 a i ha hi (hl _ (List.getElem_mem hi)) v0[a][i].length 0 (by omega)
   rw [List.drop_zero,hw,ih] at e
   have e' : spec_l30Rows_p2 v0 a i 0 = _ := e
   rw [spec_l30Rows_p1_eq,List.drop_eq_getElem_cons hi,List.all_cons]
   simp only [Int.natCast_nonneg,decide_true,if_true,Int.toNat_natCast,List.getElem?_eq_getElem ha,Option.bind_some,hlt,e']
   cases v0[a][i].all byteOk <;> simp
theorem l30Rows_p0 (v0 : List (List (List UInt8))) (hs : v0.length ≤ 1048576) (hr : ∀ x,x ∈ v0 → x.length ≤ 1048576 ∧ ∀ y,y ∈ x → y.length ≤ 1048576) :
 ∀ (k i : Nat),i + k = v0.length → spec_l30Rows_p0 v0 i = some ((v0.drop i).all cellsOk)
 | 0,i,hk => by
   rw [spec_l30Rows_p0_eq,List.drop_eq_nil_of_le (by omega)]
   have : ¬ (i : Int) < (v0.length : Int) := by omega
   simp only [this,decide_false,Bool.false_eq_true,if_false,List.all_nil]
 | k + 1,i,hk => by
   have hi : i < v0.length := by omega
   have hlt : (i : Int) < (v0.length : Int) := by omega
   have hw : IntKind.i64.wrap ((i : Int) + 1) = ((i + 1 : Nat) : Int) := by rw [w64 (by omega) (by omega)]; omega
   have ih := l30Rows_p0 v0 hs hr k (i + 1) (by omega)
   have hm := hr _ (List.getElem_mem hi)
   have e := l30Rows_p1 v0 i hi hm.1 hm.2 v0[i].length 0 (by omega)
   rw [List.drop_zero,hw,ih] at e
   have e' : spec_l30Rows_p1 v0 i 0 = _ := e
   rw [spec_l30Rows_p0_eq,List.drop_eq_getElem_cons hi,List.all_cons]
   simp only [Int.natCast_nonneg,decide_true,if_true,Int.toNat_natCast,List.getElem?_eq_getElem hi,Option.bind_some,hlt,e']
   have hc : cellsOk v0[i] = ((v0[i].all fun y => y.all byteOk) && decide ((v0[i].length : Int) ≤ 12)) := rfl
   rw [hc]
   by_cases h : ((v0[i].length : Nat) : Int) > 12
   ·have h' : ¬ ((v0[i].length : Nat) : Int) ≤ 12 := by omega
    simp [h,h']
   ·have h' : ((v0[i].length : Nat) : Int) ≤ 12 := by omega
    simp only [h,h',decide_false,decide_true,Bool.false_eq_true,if_false,Bool.and_true]
    cases (v0[i].all fun y => y.all byteOk) <;> simp
theorem spec_l30Rows_ok (v0 : List (List (List UInt8))) (hs : v0.length ≤ 1048576) (hr : ∀ x,x ∈ v0 → x.length ≤ 1048576 ∧ ∀ y,y ∈ x → y.length ≤ 1048576) : spec_l30Rows v0 = some (v0.all cellsOk) := by
 rw [spec_l30Rows_eq]
 exact l30Rows_p0 v0 hs hr v0.length 0 (by omega)
theorem p0L_bad (rows : List (List (List UInt8))) (hs : rows.length ≤ 1048576) (hr : ∀ x,x ∈ rows → x.length ≤ 1048576 ∧ ∀ y,y ∈ x → y.length ≤ 1048576) : ∀ (k i : Nat) (W : List Int),i + k = rows.length → W.length = 12 → (rows.drop i).all cellsOk = false →
 p0L rows rows rows.length i W = some ([],2)
 | 0,i,W,hk,hW,hb => by
   rw [List.drop_eq_nil_of_le (by omega)] at hb; cases hb
 | k + 1,i,W,hk,hW,hb => by
   have hi : i < rows.length := by omega
   have hlt : (i : Int) < (rows.length : Int) := by omega
   have hw : IntKind.i64.wrap ((i : Int) + 1) = ((i + 1 : Nat) : Int) := by rw [w64 (by omega) (by omega)]; omega
   have h1 := hr rows[i] (List.getElem_mem hi)
   have e1 := impl_areCells_ok rows[i] h1.1 h1.2
   rw [List.drop_eq_getElem_cons hi,List.all_cons] at hb
   rw [p0L,impl_TableLines_p0_eq]
   simp only [hlt,decide_true,if_true,Int.natCast_nonneg,Int.toNat_natCast,List.getElem?_eq_getElem hi,Option.bind_some,e1]
   by_cases hc : cellsOk rows[i] = true
   ·have h12 : rows[i].length ≤ 12 := by
     have : ((rows[i].all fun y => y.all fun ch => inR (ch.toNat : Int) 33 126) && decide ((rows[i].length : Int) ≤ 12)) = true := hc
     simp only [Bool.and_eq_true,decide_eq_true_eq] at this
     omega
    have e2 := p1L_loop rows i rows[i] h12 rows[i].length 0 W (by omega) hW
    have e2' : impl_TableLines_p1 rows rows rows.length i rows[i] rows[i].length 0 (wd W 0) (wd W 1) (wd W 2) (wd W 3) (wd W 4) (wd W 5) (wd W 6) (wd W 7) (wd W 8) (wd W 9) (wd W 10) (wd W 11) = _ := e2
    rw [List.drop_zero,hw] at e2'
    simp only [hc,Bool.not_true,Bool.false_eq_true,if_false]
    rw [e2']
    rw [hc,Bool.true_and] at hb
    exact p0L_bad rows hs hr k (i + 1) _ (by omega) (by rw [rowW_len]; exact hW) hb
   ·have hc' : cellsOk rows[i] = false := by simpa using hc
    simp only [hc',Bool.not_false,if_true]
theorem tableLines_same (rows : List (List (List UInt8))) (hs : rows.length ≤ 1048576) (hr : ∀ x,x ∈ rows → x.length ≤ 1048576 ∧ ∀ y,y ∈ x → y.length ≤ 1048576) :
 ∃ ps c,ps.length ≤ 1048576 ∧ spec_TableLines rows = some (ps,c) ∧ impl_TableLines rows = some (ps,c) := by
 rw [spec_TableLines_eq,spec_l30Rows_ok rows hs hr,Option.bind_some]
 by_cases hb : rows.all cellsOk = true
 ·have hc : ∀ row,row ∈ rows → cellsOk row = true := fun row hm => List.all_eq_true.1 hb row hm
  have ht : TabOkW rows := fun row hm => ⟨by
   have h1 := hc row hm
   simp only [cellsOk,Bool.and_eq_true,decide_eq_true_eq] at h1
   omega,(hr row hm).2⟩
  have hs' : rows.length ≤ 16777216 := by omega
  have hlen : (rows.map (lineP (tabW rows))).length ≤ 16777216 := by rw [List.length_map]; exact hs'
  obtain ⟨t1,t2,t3⟩ := tabW_okW rows ht
  have hlx : ∀ x,x ∈ rows.map (lineP (tabW rows)) → x.length ≤ 16777216 := fun x hx => by
   obtain ⟨row,h1,rfl⟩ := List.mem_map.1 hx
   exact Nat.le_trans (lineP_lenW t2 row (t3 row h1) (ht row h1).1) (by decide)
  rw [impl_TableLines_okW rows hs' ht hc,spec_l30Table_okW rows hs' ht]
  simp only [hb,Bool.not_true,Bool.false_eq_true,if_false,Option.bind_some,spec_l30Done_okW _ hlen hlx]
  by_cases hq : reportOk (rows.map (lineP (tabW rows))) = true
  ·simp only [hq,if_true]
   exact ⟨_,_,by rw [List.length_map]; exact hs,rfl,rfl⟩
  ·simp only [hq,if_false]
   exact ⟨_,_,by simp,rfl,rfl⟩
 ·have hb' : rows.all cellsOk = false := by simpa using hb
  have e1 := p0L_bad rows hs hr rows.length 0 [0,0,0,0,0,0,0,0,0,0,0,0] (by omega) rfl (by rw [List.drop_zero]; exact hb')
  have e3 : impl_TableLines rows = p0L rows rows rows.length ((0 : Nat) : Int) [0,0,0,0,0,0,0,0,0,0,0,0] := impl_TableLines_eq rows
  rw [e3,e1]
  simp only [hb',Bool.not_false,if_true]
  exact ⟨[],2,by simp,rfl,rfl⟩
end Go.Ab.P
