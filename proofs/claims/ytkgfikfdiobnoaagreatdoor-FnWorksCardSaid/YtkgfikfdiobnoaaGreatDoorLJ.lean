/- Works that are placed. Conditions: none. -/
import Derived.Test.YtkgfikfdiobnoaaGreatDoorLG
set_option linter.unusedVariables false
set_option linter.unusedSimpArgs false
namespace Go.Ab
@[reducible] def workE : ET := .agg (.cons .str (.cons (.int .i64) (.cons (.int .i64) (.cons (.int .i64) .nil))))
def freeB (row : List Int) (a n : Int) : Bool := decide (a + n ≤ 40 ∧ ∀ m,m < n.toNat → row[a.toNat + m]? = some 0)
def fillN (row : List Int) (a n : Nat) (v : Int) : List Int := row.take a ++ List.replicate n v ++ row.drop (a + n)
abbrev PwR := Bool × Bool × List (List Int) × Int
def dayL (rec : List (List Int) → Int → PwR) (i : Nat) (n last k : Int) : Nat → Int → List (List Int) → Int → PwR ⊕ (List (List Int) × Int)
 | 0,_,rows,left => .inr (rows,left)
 | f + 1,d,rows,left =>
   if d + n - 1 ≤ last then
    if freeB (rowAt rows i) d n = true then
     if left = 0 then .inl (false,false,rows,left)
     else if (rec (rows.set i (fillN (rowAt rows i) d.toNat n.toNat (k + 1))) (left - 1)).1 = true ∨ (rec (rows.set i (fillN (rowAt rows i) d.toNat n.toNat (k + 1))) (left - 1)).2.1 = false then
      .inl (rec (rows.set i (fillN (rowAt rows i) d.toNat n.toNat (k + 1))) (left - 1))
     else dayL rec i n last k f (d + 1) ((rec (rows.set i (fillN (rowAt rows i) d.toNat n.toNat (k + 1))) (left - 1)).2.2.1.set i (fillN (rowAt (rec (rows.set i (fillN (rowAt rows i) d.toNat n.toNat (k + 1))) (left - 1)).2.2.1 i) d.toNat n.toNat 0)) (rec (rows.set i (fillN (rowAt rows i) d.toNat n.toNat (k + 1))) (left - 1)).2.2.2
    else dayL rec i n last k f (d + 1) rows left
   else .inr (rows,left)
def rowL (rec : List (List Int) → Int → PwR) (fst n last k : Int) : Nat → Nat → List (List Int) → Int → PwR ⊕ (List (List Int) × Int)
 | 0,_,rows,left => .inr (rows,left)
 | m + 1,i,rows,left =>
   match dayL rec i n last k (last + 1 - fst).toNat fst rows left with
   | .inl r => .inl r
   | .inr p => rowL rec fst n last k m (i + 1) p.1 p.2
def wkD (x : workE.ty) : Int := x.2.1
def wkF (x : workE.ty) : Int := x.2.2.1
def wkL (x : workE.ty) : Int := x.2.2.2.1
def srch : List workE.ty → Int → List (List Int) → Int → PwR
 | [],_,rows,left => (true,true,rows,left)
 | x :: xs,k,rows,left =>
   match rowL (srch xs (k + 1)) (wkF x) (wkD x) (wkL x) k rows.length 0 rows left with
   | .inl r => r
   | .inr p => (false,true,p.1,p.2)
def smallW (x : workE.ty) : Bool := decide (1 ≤ wkD x) && decide (wkD x ≤ 40) && decide (0 ≤ wkF x) && decide (wkF x ≤ 39) && decide (0 ≤ wkL x) && decide (wkL x ≤ 39)
def placeF (vw : List workE.ty → Option Bool) (benches : Int) (list : List workE.ty) (budget : Int) : Option (List (List Int) × Int) :=
 (vw list).bind fun v =>
   if v = false then some ([],1)
   else if ¬ (1 ≤ benches ∧ benches ≤ 6 ∧ 1 ≤ budget ∧ budget ≤ 20000) then some ([],2)
   else if list.length ≤ 1000 ∧ list.all smallW = true then
    if (srch list 0 (List.replicate benches.toNat (List.replicate 40 0)) budget).2.1 = false then some ([],5)
    else if (srch list 0 (List.replicate benches.toNat (List.replicate 40 0)) budget).1 = false then some ([],3)
    else some ((srch list 0 (List.replicate benches.toNat (List.replicate 40 0)) budget).2.2.1,0)
   else none
theorem Ze5 {row : List Int} {a n : Nat} {v : Int} (h : a + n ≤ row.length) : (fillN row a n v).length = row.length := by
 simp only [fillN,List.length_append,List.length_take,List.length_replicate,List.length_drop]; omega
theorem Z15 (row : List Int) (a : Nat) (v : Int) : fillN row a 0 v = row := by simp [fillN]
theorem Ze2 {row : List Int} {a n : Nat} {v : Int} (h : a + n ≤ row.length) (j : Nat) : (fillN row a n v)[j]? = if a ≤ j ∧ j < a + n then some v else row[j]? := by
 unfold fillN
 rcases Nat.lt_or_ge j a with h1 | h1
 ·rw [if_neg (by omega),List.append_assoc,List.getElem?_append_left (by simp; omega),List.getElem?_take,if_pos h1]
 ·rcases Nat.lt_or_ge j (a + n) with h2 | h2
  ·rw [if_pos ⟨h1,h2⟩,List.getElem?_append_left (by simp; omega),List.getElem?_append_right (by simp; omega),List.getElem?_replicate,if_pos (by simp; omega)]
  ·rw [if_neg (by omega),List.getElem?_append_right (by simp; omega),List.getElem?_drop]
   congr 1
   simp; omega
theorem Z1n {row : List Int} {a t : Nat} {v : Int} (h : a + t < row.length) : (fillN row a t v).set (a + t) v = fillN row a (t + 1) v := by
 apply List.ext_getElem?
 intro j
 rw [List.getElem?_set,Ze2 (by omega),Ze2 (by omega),Ze5 (by omega)]
 by_cases h1 : a + t = j
 ·subst h1
  rw [if_pos rfl,if_pos h,if_pos (by omega)]
 ·rw [if_neg h1]
  by_cases h2 : a ≤ j ∧ j < a + t
  ·rw [if_pos h2,if_pos (by omega)]
  ·rw [if_neg h2,if_neg (by omega)]
def RowB (e : TypeId) (b : Nat) (row : List Int) (w : World) : Prop := w.heap[b]? = some (.cells (row.map (Value.int .i64)).toArray e)
theorem RowB.cell {e : TypeId} {b : Nat} {row : List Int} {w : World} (h : RowB e b row w) {k : Nat} {y : Int} (hk : row[k]? = some y) : w.cell? ⟨b,k,none⟩ = some (.int .i64 y) := by
 have h' : w.heap[b]? = some (.cells (row.map (Value.int .i64)).toArray e) := h
 simp [World.cell?,h',hk]
theorem RowB.frozen {e : TypeId} {b : Nat} {row : List Int} {w : World} (h : RowB e b row w) (k : Nat) : w.frozen? ⟨b,k,none⟩ = false := by
 have h' : w.heap[b]? = some (.cells (row.map (Value.int .i64)).toArray e) := h
 simp [World.frozen?,h']
theorem RowB.set {e : TypeId} {b : Nat} {row : List Int} {w : World} (h : RowB e b row w) (k : Nat) (y : Int) : RowB e b (row.set k y) (w.setCell ⟨b,k,none⟩ (.int .i64 y)) := by
 have := Zjg h k (.int .i64 y)
 show (w.setCell ⟨b,k,none⟩ (.int .i64 y)).heap[b]? = _
 rw [this]
 congr 2
 apply Array.ext'
 simp [List.map_set]
theorem RowB.lt {e : TypeId} {b : Nat} {row : List Int} {w : World} (h : RowB e b row w) : b < w.heap.size := by
 rcases Nat.lt_or_ge b w.heap.size with h1 | h1
 ·exact h1
 ·have h' : w.heap[b]? = some (.cells (row.map (Value.int .i64)).toArray e) := h
  rw [Array.getElem?_eq_none h1] at h'; cases h'
def contR (rec : List (List Int) → Int → PwR) (fst n last k : Int) (m i : Nat) : PwR ⊕ (List (List Int) × Int) → PwR ⊕ (List (List Int) × Int)
 | .inl r => .inl r
 | .inr p => rowL rec fst n last k m (i + 1) p.1 p.2
def finR : PwR ⊕ (List (List Int) × Int) → PwR
 | .inl r => r
 | .inr p => (false,true,p.1,p.2)
theorem Z3a (rec : List (List Int) → Int → PwR) (fst n last k : Int) (m i : Nat) (rows : List (List Int)) (left : Int) :
 rowL rec fst n last k (m + 1) i rows left = contR rec fst n last k m i (dayL rec i n last k (last + 1 - fst).toNat fst rows left) := by
 rw [rowL]
 cases dayL rec i n last k (last + 1 - fst).toNat fst rows left <;> rfl
theorem Zwe (x : workE.ty) (xs : List workE.ty) (k : Int) (rows : List (List Int)) (left : Int) :
 srch (x :: xs) k rows left = finR (rowL (srch xs (k + 1)) (wkF x) (wkD x) (wkL x) k rows.length 0 rows left) := by
 rw [srch]
 cases rowL (srch xs (k + 1)) (wkF x) (wkD x) (wkL x) k rows.length 0 rows left <;> rfl
structure PwD (n Bp pb : Nat) (rb : Nat → Nat) : Prop where
 a : ∀ j,j < n → rb j ≠ Bp ∧ rb j ≠ pb
 b : pb ≠ Bp
 c : ∀ i j,i < n → j < n → rb i = rb j → i = j
structure PwS (T e tI : TypeId) (Bp pb : Nat) (rb : Nat → Nat) (n cv : Nat) (lv : Value) (rows : List (List Int)) (left : Int) (w : World) : Prop where
 box : w.heap[Bp]? = some (.cells #[lv,.slice (some ⟨pb,0,none⟩) n cv,.int .i64 left] T)
 len : rows.length = n
 pl : ∃ C,w.heap[pb]? = some (.cells C e) ∧ ∀ j,j < n → C[j]? = some (.slice (some ⟨rb j,0,none⟩) 40 40)
 row : ∀ j,j < n → RowB tI (rb j) (rowAt rows j) w ∧ (rowAt rows j).length = 40
section
variable {T e tI : TypeId} {Bp pb n cv : Nat} {rb : Nat → Nat} {lv : Value} {rows : List (List Int)} {left : Int} {w : World}
theorem PwS.keep (h : PwS T e tI Bp pb rb n cv lv rows left w) {w' : World} (h1 : w'.heap[Bp]? = w.heap[Bp]?) (h2 : w'.heap[pb]? = w.heap[pb]?) (h3 : ∀ j,j < n → w'.heap[rb j]? = w.heap[rb j]?) : PwS T e tI Bp pb rb n cv lv rows left w' := by
 obtain ⟨a,b,⟨C,c1,c2⟩,d⟩ := h
 exact ⟨h1.trans a,b,⟨C,h2.trans c1,c2⟩,fun j hj => ⟨(h3 j hj).trans (d j hj).1,(d j hj).2⟩⟩
theorem PwS.cell (h : PwS T e tI Bp pb rb n cv lv rows left w) {j : Nat} (hj : j < n) : w.cell? ⟨pb,j,none⟩ = some (.slice (some ⟨rb j,0,none⟩) 40 40) := by
 obtain ⟨C,c1,c2⟩ := h.pl
 simp [World.cell?,c1,c2 j hj]
theorem PwS.c0 (h : PwS T e tI Bp pb rb n cv lv rows left w) : w.cell? ⟨Bp,0,none⟩ = some lv := by simp [World.cell?,h.box]
theorem PwS.c1 (h : PwS T e tI Bp pb rb n cv lv rows left w) : w.cell? ⟨Bp,1,none⟩ = some (.slice (some ⟨pb,0,none⟩) n cv) := by simp [World.cell?,h.box]
theorem PwS.c2 (h : PwS T e tI Bp pb rb n cv lv rows left w) : w.cell? ⟨Bp,2,none⟩ = some (.int .i64 left) := by simp [World.cell?,h.box]
theorem PwS.fz (h : PwS T e tI Bp pb rb n cv lv rows left w) (k : Nat) : w.frozen? ⟨Bp,k,none⟩ = false := by simp [World.frozen?,h.box]
theorem Ze4 {w : World} {b : Nat} {o : Obj} (h : w.heap[b]? = some o) : b < w.heap.size := by
 rcases Nat.lt_or_ge b w.heap.size with h1 | h1
 ·exact h1
 ·rw [Array.getElem?_eq_none h1] at h; cases h
theorem PwS.lts (h : PwS T e tI Bp pb rb n cv lv rows left w) : Bp < w.heap.size ∧ pb < w.heap.size ∧ ∀ j,j < n → rb j < w.heap.size := by
 obtain ⟨C,c1,_⟩ := h.pl
 exact ⟨Ze4 h.box,Ze4 c1,fun j hj => (h.row j hj).1.lt⟩
theorem PwS.alloc (h : PwS T e tI Bp pb rb n cv lv rows left w) (o : Obj) : PwS T e tI Bp pb rb n cv lv rows left (w.alloc o) := by
 obtain ⟨h1,h2,h3⟩ := h.lts
 exact h.keep (Zaj _ _ h1) (Zaj _ _ h2) fun j hj => Zaj _ _ (h3 j hj)
theorem PwS.left' (h : PwS T e tI Bp pb rb n cv lv rows left w) (D : PwD n Bp pb rb) (l : Int) : PwS T e tI Bp pb rb n cv lv rows l (w.setCell ⟨Bp,2,none⟩ (.int .i64 l)) := by
 obtain ⟨a,b,⟨C,c1,c2⟩,d⟩ := h
 refine ⟨?_,b,⟨C,(Zan _ _ _ _ _ D.b).trans c1,c2⟩,fun j hj => ⟨(Zan _ _ _ _ _ (D.a j hj).1).trans (d j hj).1,(d j hj).2⟩⟩
 have := Zjg a 2 (.int .i64 l)
 exact this
theorem PwS.turn (h : PwS T e tI Bp pb rb n cv lv rows left w) (D : PwD n Bp pb rb) {i : Nat} (hi : i < n) {row : List Int} {w' : World} (hr : RowB tI (rb i) row w') (hl : row.length = 40) (hw : Rg (fun c => c = rb i) w w') :
 PwS T e tI Bp pb rb n cv lv (rows.set i row) left w' := by
 obtain ⟨a,b,⟨C,c1,c2⟩,d⟩ := h
 have up : ∀ c o,w.heap[c]? = some o → c ≠ rb i → w'.heap[c]? = some o := fun c o hc hn => (hw.block c (by
  rcases Nat.lt_or_ge c w.heap.size with h | h
  ·exact h
  ·rw [Array.getElem?_eq_none h] at hc; cases hc) hn).trans hc
 refine ⟨up _ _ a fun e => (D.a i hi).1 e.symm,by rw [List.length_set]; exact b,⟨C,up _ _ c1 fun e => (D.a i hi).2 e.symm,c2⟩,fun j hj => ?_⟩
 rw [Zcl (by rw [b]; exact hi)]
 split
 ·rename_i e
  subst e
  exact ⟨hr,hl⟩
 ·rename_i hne
  exact ⟨up _ _ (d j hj).1 fun e => hne (D.c i j hi hj e.symm),(d j hj).2⟩
end
theorem Z59 {φ : Nat → Nat} {w : World} {K : Nat → Prop} {v : Value} {xs : List workE.ty} (h : Rep φ w K v (.sl 4 (xs.map workE.enc))) :
 (∃ ad cp,v = .slice ad xs.length cp) ∧ ∀ (i : Nat) (x : workE.ty),xs[i]? = some x → ∃ b o cap,v = .slice (some ⟨b,o,none⟩) xs.length cap ∧ K b ∧
   w.cell? ⟨b,o + i * 4,none⟩ = some (.string ⟨x.1.toArray⟩) ∧ w.cell? ⟨b,o + i * 4 + 1,none⟩ = some (.int .i64 (wkD x)) ∧ w.cell? ⟨b,o + i * 4 + 2,none⟩ = some (.int .i64 (wkF x)) ∧ w.cell? ⟨b,o + i * 4 + 3,none⟩ = some (.int .i64 (wkL x)) := by
 generalize hy : xs.map workE.enc = ys at h
 cases h with
 | slE ad c z =>
   obtain rfl : xs = [] := by cases xs with | nil => rfl | cons => simp at hy
   exact ⟨⟨_,_,rfl⟩,fun i x h => by simp at h⟩
 | sl b o cap z _ vs hb hz hc hr hv =>
   subst hy
   refine ⟨⟨_,_,by rw [List.length_map]⟩,fun i x hi => ?_⟩
   refine ⟨b,o,cap,by rw [List.length_map],hb,?_⟩
   have h1 := (hr.drop (i * 4)).take (workE.enc x).cells.length
   rw [← Zbh hz] at h1
   have hil : i < xs.length := by
    rcases Nat.lt_or_ge i xs.length with h | h
    ·exact h
    ·rw [List.getElem?_eq_none h] at hi; cases hi
   have hx : xs[i] = x := by rw [List.getElem?_eq_getElem hil] at hi; exact Option.some.inj hi
   rw [← List.map_drop,List.drop_eq_getElem_cons hil,List.map_cons,List.flatMap_cons,hx,List.take_left] at h1
   have e4 := (hv.drop (i * 4)).take (workE.enc x).cells.length
   generalize (vs.drop (i * 4)).take (workE.enc x).cells.length = us at h1 e4
   obtain ⟨x1,x2,x3,x4,⟨⟩⟩ := x
   have h1' : Reps φ w K us [.str x1,.int .i64 x2,.int .i64 x3,.int .i64 x4] := h1
   cases h1' with
   | cons v1 _ vs1 _ r1 t1 =>
   cases t1 with
   | cons v2 _ vs2 _ r2 t2 =>
   cases t2 with
   | cons v3 _ vs3 _ r3 t3 =>
   cases t3 with
   | cons v4 _ vs4 _ r4 t4 =>
   cases t4; cases r1; cases r2; cases r3; cases r4
   exact ⟨e4 0 _ rfl,e4 1 _ rfl,e4 2 _ rfl,e4 3 _ rfl⟩
section
variable {P : Program} {φ : Nat → Nat} {T e tI : TypeId} {Bp pb n cv : Nat} {rb : Nat → Nat} {lv : Value} {rows : List (List Int)} {left : Int} {w : World}
theorem PwS.data (h : PwS T e tI Bp pb rb n cv lv rows left w) (hn : n ≤ cv) {K : Nat → Prop} (hK : K pb ∧ ∀ j,j < n → K (rb j)) : Rep φ w K (.slice (some ⟨pb,0,none⟩) n cv) (.sl 1 (rows.map rowE2.enc)) := by
 have hrow : ∀ (j : Nat),j < n → Rep φ w K (.slice (some ⟨rb j,0,none⟩) 40 40) (.sl 1 ((rowAt rows j).map i64E.enc)) := fun j hj => by
  obtain ⟨r1,r2⟩ := h.row j hj
  have := Rep.sl (φ := φ) (w := w) (ok := K) (rb j) 0 40 1 ((rowAt rows j).map i64E.enc) ((rowAt rows j).map (Value.int .i64)) (hK.2 j hj) (fun x hx => by
   obtain ⟨z,_,rfl⟩ := List.mem_map.1 hx; rfl) (by rw [List.length_map,r2]; exact Nat.le_refl _) (Zps _) (fun k u hk => by
    rw [List.getElem?_map] at hk
    obtain ⟨y,hy,rfl⟩ := Option.map_eq_some_iff.1 hk
    rw [Nat.zero_add]; exact r1.cell hy)
  rw [List.length_map,r2] at this
  exact this
 have key : ∀ (k i : Nat),i + k = n → Reps φ w K ((List.range' i k).map fun j => Value.slice (some ⟨rb j,0,none⟩) 40 40) (((rows.drop i).map rowE2.enc).flatMap A.cells) := by
  intro k
  induction k with
  | zero =>
    intro i hi
    rw [List.drop_eq_nil_of_le (by rw [h.len]; omega)]
    exact .nil
  | succ k ih =>
    intro i hi
    have hil : i < rows.length := by rw [h.len]; omega
    have e1 : rowAt rows i = rows[i] := by simp [rowAt,List.getElem?_eq_getElem hil]
    have := hrow i (by omega)
    rw [e1] at this
    rw [List.range'_succ,List.map_cons,List.drop_eq_getElem_cons hil,List.map_cons,List.flatMap_cons]
    exact .cons _ _ _ _ this (ih (i + 1) (by omega))
 have r1 := key n 0 (by omega)
 rw [List.drop_zero] at r1
 have := Rep.sl (φ := φ) (w := w) (ok := K) pb 0 cv 1 (rows.map rowE2.enc) _ hK.1 (fun x hx => by
  obtain ⟨z,_,rfl⟩ := List.mem_map.1 hx; rfl) (by rw [List.length_map,h.len]; exact hn) r1 (fun j u hj => by
   rw [List.getElem?_map] at hj
   obtain ⟨y,hy,rfl⟩ := Option.map_eq_some_iff.1 hj
   have hjn : j < n := by
    rcases Nat.lt_or_ge j n with h | h
    ·exact h
    ·rw [List.getElem?_eq_none (by simpa using h)] at hy; cases hy
   rw [List.getElem?_range' hjn] at hy
   cases hy
   have := h.cell hjn
   simpa using this)
 rw [List.length_map,h.len] at this
 exact this
structure PwB (T e tI : TypeId) (S Bp : Nat) (lv : Value) (j : Nat) (pv : Value) (left : Int) (w : World) : Prop where
 box : w.heap[Bp]? = some (.cells #[lv,pv,.int .i64 left] T)
 ex : ∃ (vs : List Value) (ob : Option Nat) (rb : Nat → Nat),VOwn w e pv vs ob ∧ vs.length = j ∧
  (∀ i,i < j → vs[i]? = some (.slice (some ⟨rb i,0,none⟩) 40 40) ∧ RowB tI (rb i) (List.replicate 40 0) w ∧ S ≤ rb i ∧ rb i ≠ Bp ∧ ob ≠ some (rb i)) ∧
  (∀ i k,i < j → k < j → rb i = rb k → i = k) ∧ ∀ b,ob = some b → S ≤ b ∧ b ≠ Bp
theorem PwB.keep {S j : Nat} {pv : Value} (h : PwB T e tI S Bp lv j pv left w) (hS : S ≤ Bp) {w' : World} (hw : ∀ b,b < w.heap.size → w'.heap[b]? = w.heap[b]?) : PwB T e tI S Bp lv j pv left w' := by
 obtain ⟨h1,vs,ob,rb,h2,h3,h4,h5,h6⟩ := h
 refine ⟨(hw _ (Ze4 h1)).trans h1,vs,ob,rb,h2.keep fun b hb => hw b (by subst hb; exact h2.lt),h3,fun i hi => ?_,h5,h6⟩
 obtain ⟨a1,a2,a3⟩ := h4 i hi
 exact ⟨a1,(hw _ a2.lt).trans a2,a3⟩
theorem PwB.step {S j : Nat} {pv : Value} (h : PwB T e tI S Bp lv j pv left w) (hS : S ≤ w.heap.size) (hj : j ≤ 1000) {t : TypeId} (ht : P.underlying t = some (.slice e)) {i : TypeInfo} (hi : P.info? e = some i) (hz : i.size = 1) {zv : Value} (hzv : i.zero = some zv) (hzs : zv.cells.size = 1)
 (hb : i.bytes ≤ 128) (c : Nat) (ty : TypeId) :
 ∃ ad n cp w',(Builtin.append_ #[t,t] ty #[pv,.slice (some ⟨w.heap.size + 1,0,none⟩) 1 c]).run P ((w.alloc (.cells ((List.replicate 40 (0 : Int)).map (Value.int .i64)).toArray tI)).alloc (.cells #[.slice (some ⟨w.heap.size,0,none⟩) 40 40] e)) = .ok (.slice ad n cp) w' ∧
   w'.heap[Bp]? = w.heap[Bp]? ∧ PwB T e tI S Bp lv (j + 1) (.slice ad n cp) left (w'.setCell ⟨Bp,1,none⟩ (.slice ad n cp)) ∧ Lo S w w' := by
 obtain ⟨h1,vs,ob,rb,h2,h3,h4,h5,h6⟩ := h
 have hzA : (w.alloc (.cells ((List.replicate 40 (0 : Int)).map (Value.int .i64)).toArray tI)).heap.size = w.heap.size + 1 := by simp
 have hzB : ((w.alloc (.cells ((List.replicate 40 (0 : Int)).map (Value.int .i64)).toArray tI)).alloc (.cells #[.slice (some ⟨w.heap.size,0,none⟩) 40 40] e)).heap.size = w.heap.size + 2 := by simp
 have up : ∀ b,b < w.heap.size → ((w.alloc (.cells ((List.replicate 40 (0 : Int)).map (Value.int .i64)).toArray tI)).alloc (.cells #[.slice (some ⟨w.heap.size,0,none⟩) 40 40] e)).heap[b]? = w.heap[b]? := fun b hb => (Zaj _ _ (by omega)).trans (Zaj _ _ hb)
 have hrow : ((w.alloc (.cells ((List.replicate 40 (0 : Int)).map (Value.int .i64)).toArray tI)).alloc (.cells #[.slice (some ⟨w.heap.size,0,none⟩) 40 40] e)).heap[w.heap.size]? = some (.cells ((List.replicate 40 (0 : Int)).map (Value.int .i64)).toArray tI) := (Zaj _ _ (by omega)).trans (Ze6 _ _ rfl)
 have hbp := Ze4 h1
 obtain ⟨ad,n',cp,w',ob',e1,e2,e3,e4,e5,e6,e7⟩ := (h2.keep (w' := (w.alloc (.cells ((List.replicate 40 (0 : Int)).map (Value.int .i64)).toArray tI)).alloc (.cells #[.slice (some ⟨w.heap.size,0,none⟩) 40 40] e)) fun b hb => up b (by subst hb; exact h2.lt)).app ht hi hz hzv hzs hb (by omega) (Ze6 _ _ (by rw [hzA])) rfl rfl c ty
 rw [hzB] at e3 e4 e5
 have hobp : ob ≠ some Bp := fun q => (h6 _ q).2 rfl
 have hBp : w'.heap[Bp]? = w.heap[Bp]? := (e4 _ (by omega) hobp).trans (up _ hbp)
 have hobl : ∀ b,ob = some b → b < w.heap.size := fun b hb => by subst hb; exact h2.lt
 have hob' : ∀ b,ob' = some b → (S ≤ b ∧ b ≠ Bp) ∧ b ≠ w.heap.size ∧ ∀ q,q < w.heap.size → ob ≠ some q → b ≠ q := fun b hb => by
  rcases e5 with rfl | ⟨q,rfl,q1,q2⟩
  ·have := hobl b hb
   exact ⟨h6 b hb,by omega,fun q _ hq e => hq (by rw [← e]; exact hb)⟩
  ·cases hb
   exact ⟨⟨by omega,by omega⟩,by omega,fun q hq _ e => by omega⟩
 have stay : ∀ b,b ≠ Bp → (w'.setCell ⟨Bp,1,none⟩ (.slice ad n' cp)).heap[b]? = w'.heap[b]? := fun b hb => Zan _ _ _ _ _ hb
 refine ⟨ad,n',cp,w',e1,hBp,⟨?_,vs ++ [.slice (some ⟨w.heap.size,0,none⟩) 40 40],ob',fun i => if i = j then w.heap.size else rb i,e2.keep fun b hb => stay b (hob' b hb).1.2,by simp [h3],fun i hi => ?_,fun i k hi hk hik => ?_,fun b hb => (hob' b hb).1⟩,?_⟩
 ·have := Zjg (hBp.trans h1) 1 (.slice ad n' cp)
  exact this
 ·by_cases hij : i = j
  ·subst hij
   simp only [if_true]
   refine ⟨by rw [List.getElem?_append_right (by omega),h3]; simp,?_,hS,by omega,fun q => (hob' _ q).2.1 rfl⟩
   exact (stay _ (by omega)).trans ((e4 _ (by omega) (fun q => by have := hobl _ q; omega)).trans hrow)
  ·have hil : i < j := by omega
   simp only [hij,if_false]
   obtain ⟨a1,a2,a3,a4,a5⟩ := h4 i hil
   refine ⟨by rw [List.getElem?_append_left (by omega)]; exact a1,(stay _ a4).trans ((e4 _ (by have := a2.lt; omega) a5).trans ((up _ a2.lt).trans a2)),a3,a4,fun q => (hob' _ q).2.2 _ a2.lt a5 rfl⟩
 ·by_cases hij : i = j <;> by_cases hkj : k = j
  ·omega
  ·subst hij
   simp only [if_true,hkj,if_false] at hik
   have := (h4 k (by omega)).2.1.lt
   omega
  ·subst hkj
   simp only [if_true,hij,if_false] at hik
   have := (h4 i (by omega)).2.1.lt
   omega
  ·simp only [hij,hkj,if_false] at hik
   exact h5 i k (by omega) (by omega) hik
 ·refine ⟨by omega,fun b hb => (e4 b (by omega) fun q => ?_).trans (up b (by omega)),e6,e7⟩
  have := (h6 b q).1
  omega
theorem PwB.done {S j : Nat} {pv : Value} (h : PwB T e tI S Bp lv j pv left w) (hj : 0 < j) :
 ∃ pb cv rb,pv = .slice (some ⟨pb,0,none⟩) j cv ∧ j ≤ cv ∧ PwD j Bp pb rb ∧ PwS T e tI Bp pb rb j cv lv (List.replicate j (List.replicate 40 0)) left w ∧ S ≤ pb ∧ ∀ i,i < j → S ≤ rb i := by
 obtain ⟨h1,vs,ob,rb,h2,h3,h4,h5,h6⟩ := h
 cases h2 with
 | empty ad => simp at h3; omega
 | mk b cap C vs hC hsz hle h0 hcs =>
   obtain ⟨q1,q2⟩ := h6 b rfl
   refine ⟨b,cap,rb,by rw [h3],by omega,⟨fun i hi => ⟨(h4 i hi).2.2.2.1,fun q => (h4 i hi).2.2.2.2 (by rw [q])⟩,q2,h5⟩,⟨by rw [h3] at h1; exact h1,by simp,⟨C,hC,fun i hi => by rw [hcs i (by omega)]; exact (h4 i hi).1⟩,fun i hi => ?_⟩,q1,fun i hi => (h4 i hi).2.2.1⟩
   have e9 : rowAt (List.replicate j (List.replicate 40 (0 : Int))) i = List.replicate 40 0 := by simp [rowAt,hi]
   rw [e9]
   exact ⟨(h4 i hi).2.1,by simp⟩
end
noncomputable def placeC (vw : List workE.ty → Option Bool) : Callee :=
 { io := [],ps := [.d i64E,.d (.one (.sl workE)),.d i64E],rs := [.d (.one (.sl rowE2)),.d i64E],os := [],f := fun x => placeF vw x.1 x.2.1 x.2.2.1 }
structure Zw0 (P : Program) (fn nv : Nat) : Prop where
 en : Entered P fn
 run : ∀ (φ : Nat → Nat) (gv : Nat) (vw : List workE.ty → Option Bool),φ gv = nv → (∀ l b,vw l = some b → CallOk P φ gv [.sl 4 (l.map workE.enc)] [.bool b] []) →
  ∀ (n : Int) (xs : List workE.ty) (c : Int) (y : List (List Int) × Int),placeF vw n xs c = some y →
  ∀ (w : World) (K : Nat → Prop) (v : Value),Rep φ w K v (.sl 4 (xs.map workE.enc)) → (∀ b,K b → b < w.heap.size) → Glob P K w →
  Calls P fn #[.int .i64 n,v,.int .i64 c] w fun r w' => ∃ u,r = .returned (.tuple #[u,.int .i64 y.2]) ∧ Lo w.heap.size w w' ∧ Rep φ w' (fun b => w.heap.size ≤ b ∧ b < w'.heap.size) u (.sl 1 (y.1.map rowE2.enc))
def curR (b : Int) : Option (Int × Int) → List (List Int)
 | none => []
 | some (a,c) => [[b,a,c]]
def runsR (work b : Int) : Int → Option (Int × Int) → List Int → List (List Int)
 | _,o,[] => curR b o
 | d,none,n :: r => if n = work then runsR work b (d + 1) (some (d,1)) r else runsR work b (d + 1) none r
 | d,some (a,c),n :: r => if n = work then runsR work b (d + 1) (some (a,c + 1)) r else [b,a,c] :: runsR work b (d + 1) none r
def partsL (work : Int) : Int → List (List Int) → List (List Int)
 | _,[] => []
 | b,r :: rs => runsR work b 0 none r ++ partsL work (b + 1) rs
def partsF (plan : List (List Int)) (work : Int) : Option (List (List Int)) :=
 if plan.length ≤ 1000 ∧ (plan.all fun r => decide (r.length = 40)) = true then some (partsL work 0 plan) else none
noncomputable def partsC : Callee :=
 { io := [],ps := [.d (.one (.sl rowE2)),.d i64E],rs := [.d (.one (.sl rowE2))],os := [],f := fun x => partsF x.1 x.2.1 }
structure Zo0 (P : Program) (fn : Nat) : Prop where
 en : Entered P fn
 run : ∀ (φ : Nat → Nat) (xs : List (List Int)) (c : Int) (ys : List (List Int)),partsF xs c = some ys →
  ∀ (w : World) (K : Nat → Prop) (v : Value),Rep φ w K v (.sl 1 (xs.map rowE2.enc)) → (∀ b,K b → b < w.heap.size) →
  Calls P fn #[v,.int .i64 c] w fun r w' => ∃ u,r = .returned u ∧ Lo w.heap.size w w' ∧ Rep φ w' (fun b => w.heap.size ≤ b ∧ b < w'.heap.size) u (.sl 1 (ys.map rowE2.enc))
section
variable {P : Program} {φ : Nat → Nat}
theorem Z30 {vw : List workE.ty → Option Bool} {fn nv g gv : Nat} (L : Zw0 P fn nv) (hφ : [g,gv].map φ = [fn,nv])
 (ov : ∀ l b,vw l = some b → CallOk P φ gv [.sl 4 (l.map workE.enc)] [.bool b] []) : FOk P φ g (placeC vw) := by
 simp only [List.map_cons,List.map_nil,List.cons.injEq,and_true] at hφ
 obtain ⟨h1,h2⟩ := hφ
 refine FOk.of_contract (by rw [h1]; exact L.en) rfl rfl fun x y hy => ?_
 obtain ⟨n,xs,c,⟨⟩⟩ := x
 have e1 : encU (placeC vw).ps (n,xs,c,()) = [.int .i64 n,.sl 4 ((show List workE.ty from xs).map workE.enc),.int .i64 c] := by
  have q : ((ET.one (.sl workE)).v (show List workE.ty from xs)).a = (ET.one (.sl workE)).enc (show List workE.ty from xs) := ET.v_a _ _
  exact congrArg (fun z => ([.int .i64 n,z,.int .i64 c] : List A)) q
 have e2 : resA (placeC vw) y = ([.sl 1 ((show List (List Int) × Int from y).1.map rowE2.enc),.int .i64 (show List (List Int) × Int from y).2],[]) := by
  have q : ((ET.one (.sl rowE2)).v (show List (List Int) × Int from y).1).a = (ET.one (.sl rowE2)).enc (show List (List Int) × Int from y).1 := ET.v_a _ _
  exact congrArg (fun z => (([z,A.int .i64 (show List (List Int) × Int from y).2] : List A),([] : List A))) q
 have e3 := congrArg (fun z => CallOk P φ g z (resA (placeC vw) y).1 (resA (placeC vw) y).2) e1
 refine e3.mpr ?_
 rw [e2]
 have hn : ([.int .i64 n,.sl 4 ((show List workE.ty from xs).map workE.enc),.int .i64 c] : List A).any lentA = false := rfl
 intro w K vs bs ha hnd hKb hKz hG
 obtain ⟨hr,rfl⟩ := ha.noLent hn
 cases hr with
 | cons v1 _ vs1 _ hv1 t1 =>
 cases t1 with
 | cons v2 _ vs2 _ hv2 t2 =>
 cases t2 with
 | cons v3 _ vs3 _ hv3 t3 =>
 cases t3
 cases hv1
 cases hv3
 have := L.run φ gv vw h2 ov n xs c y hy w K v2 hv2 hKz hG
 rw [h1]
 refine this.mono fun e w' hq => ?_
 obtain ⟨u,rfl,hb,h3⟩ := hq
 refine ⟨_,rfl,hb.size,fun b hb' _ => hb.block b hb',⟨hb.os,hb.output⟩,fun b off hb' => frozen?_block (hb.block b hb') off,fun b n hr => hr.of_block (hb.block b hr.lt),?_⟩
 exact ⟨[u,.int .i64 (show List (List Int) × Int from y).2],fun b => K b ∨ (w.heap.size ≤ b ∧ b < w'.heap.size),[],[],rfl,fun _ h => .inl h,fun _ h => h.elim .inl fun h => .inr (.inr h),
  ResReps.of_reps (.cons _ _ _ _ (h3.mono (fun _ _ => rfl) fun _ h => .inr h) (.cons _ _ _ _ (.int _ _) .nil)),OutReps.data_all ha.len hn,by simp,fun b hb' => by simp at hb'⟩
theorem Zy9 {fn g : Nat} (L : Zo0 P fn) (hφ : φ g = fn) : FOk P φ g partsC := by
 refine FOk.of_contract (by rw [hφ]; exact L.en) rfl rfl fun x y hy => ?_
 obtain ⟨xs,c,⟨⟩⟩ := x
 have e1 : encU partsC.ps (xs,c,()) = [.sl 1 ((show List (List Int) from xs).map rowE2.enc),.int .i64 c] := by
  have q : ((ET.one (.sl rowE2)).v (show List (List Int) from xs)).a = (ET.one (.sl rowE2)).enc (show List (List Int) from xs) := ET.v_a _ _
  exact congrArg (fun z => ([z,.int .i64 c] : List A)) q
 have e2 : resA partsC y = ([.sl 1 ((show List (List Int) from y).map rowE2.enc)],[]) := by
  have q : ((ET.one (.sl rowE2)).v (show List (List Int) from y)).a = (ET.one (.sl rowE2)).enc (show List (List Int) from y) := ET.v_a _ _
  exact congrArg (fun z => (([z] : List A),([] : List A))) q
 have e3 := congrArg (fun z => CallOk P φ g z (resA partsC y).1 (resA partsC y).2) e1
 refine e3.mpr ?_
 rw [e2]
 refine CallOk.of_new rfl fun w K vs hr hK hG => ?_
 cases hr with
 | cons v1 _ vs1 _ hv1 t1 =>
 cases t1 with
 | cons v2 _ vs2 _ hv2 t2 =>
 cases t2
 cases hv2
 have := L.run φ xs c y hy w K v1 hv1 hK
 rw [hφ]
 exact this.mono fun e w' hq => by
  obtain ⟨u,q1,q2,q3⟩ := hq
  exact ⟨_,q1,q2,q3⟩
end
section
variable {P : Program} {φ : Nat → Nat}
theorem Z1c {w : World} {K : Nat → Prop} {v : Value} {row : List Int} (h : Rep φ w K v (.sl 1 (row.map i64E.enc))) (hl : row ≠ []) :
 ∃ b o cap,v = .slice (some ⟨b,o,none⟩) row.length cap ∧ K b ∧ ∀ k y,row[k]? = some y → w.cell? ⟨b,o + k,none⟩ = some (.int .i64 y) := by
 generalize hy : row.map i64E.enc = ys at h
 cases h with
 | slE ad c z =>
   cases row with
   | nil => exact absurd rfl hl
   | cons => simp at hy
 | sl b o cap z _ vs hb hz hc hr hv =>
   subst hy
   have e := Zza hr
   subst e
   exact ⟨b,o,cap,by rw [List.length_map],hb,fun k y hk => hv k _ (by rw [List.getElem?_map,hk]; rfl)⟩
theorem NestP.push3 {e eI : TypeId} {xs : List (List Int)} {v : Value} {O : Nat → Prop} {w : World} {S : Nat} (h : NestP φ e xs v O w) (hO : ∀ b,O b → S ≤ b ∧ b < w.heap.size) (hS : S ≤ w.heap.size) (x y z : Int)
 {t : TypeId} (ht : P.underlying t = some (.slice e)) {i : TypeInfo} (hi : P.info? e = some i) (hz : i.size = 1) {zv : Value} (hzv : i.zero = some zv) (hzs : zv.cells.size = 1) (hb : i.bytes ≤ 128) (hlim : xs.length + 1 < 1099511627776) (c : Nat) (ty : TypeId) :
 ∃ ad n' cp' w',(Builtin.append_ #[t,t] ty #[v,.slice (some ⟨w.heap.size + 1,0,none⟩) 1 c]).run P ((w.alloc (.cells #[.int .i64 x,.int .i64 y,.int .i64 z] eI)).alloc (.cells #[.slice (some ⟨w.heap.size,0,none⟩) 3 3] e)) = .ok (.slice ad n' cp') w' ∧
   Lo S w w' ∧ ∃ O',NestP φ e (xs ++ [[x,y,z]]) (.slice ad n' cp') O' w' ∧ ∀ b,O' b → S ≤ b ∧ b < w'.heap.size := by
 have hzA : (w.alloc (.cells #[.int .i64 x,.int .i64 y,.int .i64 z] eI)).heap.size = w.heap.size + 1 := by simp
 have hzB : ((w.alloc (.cells #[.int .i64 x,.int .i64 y,.int .i64 z] eI)).alloc (.cells #[.slice (some ⟨w.heap.size,0,none⟩) 3 3] e)).heap.size = w.heap.size + 2 := by simp
 have up : ∀ b,b < w.heap.size → ((w.alloc (.cells #[.int .i64 x,.int .i64 y,.int .i64 z] eI)).alloc (.cells #[.slice (some ⟨w.heap.size,0,none⟩) 3 3] e)).heap[b]? = w.heap[b]? := fun b hb => (Zaj _ _ (by omega)).trans (Zaj _ _ hb)
 have hrow : ((w.alloc (.cells #[.int .i64 x,.int .i64 y,.int .i64 z] eI)).alloc (.cells #[.slice (some ⟨w.heap.size,0,none⟩) 3 3] e)).heap[w.heap.size]? = some (.cells #[.int .i64 x,.int .i64 y,.int .i64 z] eI) := (Zaj _ _ (by omega)).trans (Ze6 _ _ rfl)
 have hv : VOwn ((w.alloc (.cells #[.int .i64 x,.int .i64 y,.int .i64 z] eI)).alloc (.cells #[.slice (some ⟨w.heap.size,0,none⟩) 3 3] e)) eI (.slice (some ⟨w.heap.size,0,none⟩) 3 3) ([x,y,z].map (Value.int .i64)) (some w.heap.size) :=
  .mk w.heap.size 3 _ ([x,y,z].map (Value.int .i64)) hrow rfl (Nat.le_refl 3) (by decide) (fun j hj => by
   match j,hj with
   | 0,_ => rfl
   | 1,_ => rfl
   | 2,_ => rfl)
 obtain ⟨ad,n',cp',w',e1,e2,e3,e4,e5,e6⟩ := (h.keep (w' := (w.alloc (.cells #[.int .i64 x,.int .i64 y,.int .i64 z] eI)).alloc (.cells #[.slice (some ⟨w.heap.size,0,none⟩) 3 3] e)) fun b hb => up b (hO b hb).2).pushR (VOwn.ints hv)
  (fun b hb => by cases hb; omega) (fun b hb hn => by cases hb; have := (hO _ hn).2; omega) (fun b hb => by have := (hO b hb).2; omega) ht hi hz hzv hzs hb hlim (Ze6 _ _ (by rw [hzA])) rfl c ty
 rw [hzB] at e2 e5 e6
 refine ⟨ad,n',cp',w',e1,⟨by omega,fun b hb => (e5 b (by omega) fun hn => by have := (hO b hn).1; omega).trans (up b (by omega)),e3,e4⟩,_,e6,fun b hb => ?_⟩
 rcases hb with hb | hb | hb
 ·have := hO b hb; exact ⟨this.1,by omega⟩
 ·cases hb; exact ⟨hS,by omega⟩
 ·exact ⟨by omega,hb.2⟩
end
end Go.Ab
