/- Lists of lists that grow. Conditions: none. -/
import Derived.Test.YtkgfikfdiobnoaaGreatDoorLA
import Derived.WalkKit
set_option linter.unusedVariables false
set_option linter.unusedSimpArgs false
namespace Go.Ab
inductive VOwn (w : World) (e : TypeId) : Value → List Value → Option Nat → Prop where
 | empty (ad : Option Addr) : VOwn w e (.slice ad 0 0) [] none
 | mk (b cap : Nat) (C : Array Value) (vs : List Value) : w.heap[b]? = some (.cells C e) → C.size = cap → vs.length ≤ cap → cap ≠ 0 → (∀ j,j < vs.length → C[j]? = vs[j]?) →
   VOwn w e (.slice (some ⟨b,0,none⟩) vs.length cap) vs (some b)
theorem VOwn.slice {w : World} {e : TypeId} {v : Value} {vs : List Value} {ob : Option Nat} (h : VOwn w e v vs ob) : ∃ ad n cp,v = .slice ad n cp := by
 cases h with
 | empty ad => exact ⟨_,_,_,rfl⟩
 | mk => exact ⟨_,_,_,rfl⟩
theorem VOwn.lt {w : World} {e : TypeId} {v : Value} {vs : List Value} {b : Nat} (h : VOwn w e v vs (some b)) : b < w.heap.size := by
 cases h with
 | mk b cap C vs hC _ _ _ _ =>
   rcases Nat.lt_or_ge b w.heap.size with h | h
   ·exact h
   ·rw [Array.getElem?_eq_none h] at hC; cases hC
theorem VOwn.keep {w w' : World} {e : TypeId} {v : Value} {vs : List Value} {ob : Option Nat} (h : VOwn w e v vs ob) (hs : ∀ b,ob = some b → w'.heap[b]? = w.heap[b]?) : VOwn w' e v vs ob := by
 cases h with
 | empty ad => exact .empty ad
 | mk b cap C vs hC h1 h2 h3 h4 => exact .mk b cap C vs ((hs b rfl).trans hC) h1 h2 h3 h4
section
variable {P : Program}
theorem VOwn.app {w : World} {e : TypeId} {v : Value} {vs : List Value} {ob : Option Nat} (h : VOwn w e v vs ob) {t : TypeId} (ht : P.underlying t = some (.slice e)) {i : TypeInfo} (hi : P.info? e = some i) (hz : i.size = 1) {zv : Value} (hzv : i.zero = some zv) (hzs : zv.cells.size = 1)
 (hb : i.bytes ≤ 128) (hlim : vs.length + 1 < 1099511627776) {bu : Nat} {D : Array Value} {tu : TypeId} {x : Value} (hu : w.heap[bu]? = some (.cells D tu)) (hx : D[0]? = some x) (h1 : x.oneCell' = true) (c : Nat) (ty : TypeId) :
 ∃ ad n cp w' ob',(Builtin.append_ #[t,t] ty #[v,.slice (some ⟨bu,0,none⟩) 1 c]).run P w = .ok (.slice ad n cp) w' ∧ VOwn w' e (.slice ad n cp) (vs ++ [x]) ob' ∧ w.heap.size ≤ w'.heap.size ∧
   (∀ q,q < w.heap.size → ob ≠ some q → w'.heap[q]? = w.heap[q]?) ∧ (ob' = ob ∨ ∃ q,ob' = some q ∧ w.heap.size ≤ q ∧ q < w'.heap.size) ∧ w'.os = w.os ∧ w'.output = w.output := by
 have hs : Src P i.size t (.slice (some ⟨bu,0,none⟩) 1 c) 1 [x] w := Src.ofSlice w ht ⟨bu,0,none⟩ 1 c [x] (by rw [hz]; rfl) (fun j u hj => by
  match j,hj with
  | 0,hj => cases hj; rw [World.cell?_add]; simp [World.cell?,hu,hx]) (fun u hu => by
  rw [List.mem_singleton] at hu; subst hu; exact h1)
 have hfit : ∀ c,c < vs.length + 1 → Builtin.nextslicecap (vs.length + 1) c * i.bytes ≤ 281474976710656 := fun c hc =>
  growslice_fits hc (by have := Nat.mul_le_mul (show vs.length + 1 ≤ 1099511627776 by omega) hb; omega)
 have grow : ∀ {base : Option Addr} {c0 : Nat},v = .slice base vs.length c0 → c0 < vs.length + 1 → (Builtin.firstCells i.size vs.length (.slice base vs.length c0)).run P w.drew = .ok vs.toArray w.drew →
  ∃ ad n cp w' ob',(Builtin.append_ #[t,t] ty #[v,.slice (some ⟨bu,0,none⟩) 1 c]).run P w = .ok (.slice ad n cp) w' ∧ VOwn w' e (.slice ad n cp) (vs ++ [x]) ob' ∧ w.heap.size ≤ w'.heap.size ∧
    (∀ q,q < w.heap.size → ob ≠ some q → w'.heap[q]? = w.heap[q]?) ∧ (ob' = ob ∨ ∃ q,ob' = some q ∧ w.heap.size ≤ q ∧ q < w'.heap.size) ∧ w'.os = w.os ∧ w'.output = w.output := by
  intro base c0 hv hlt hold
  subst hv
  have hrun := run_append_grow_src (P := P) w t t ty e i zv ht hi hzv base vs.length c0 vs hold (.slice (some ⟨bu,0,none⟩) 1 c) 1 [x] hs hlt (by omega) (hfit c0 hlt)
  have hge := grownCap_ge w (vs.length + 1) c0 e
  have hh : (w.drew.alloc (.cells ((vs ++ [x]).toArray ++ Builtin.zeroCells zv.cells (grownCap w (vs.length + 1) c0 e - (vs.length + 1))) e)).heap =
   w.heap.push (.cells ((vs ++ [x]).toArray ++ Builtin.zeroCells zv.cells (grownCap w (vs.length + 1) c0 e - (vs.length + 1))) e) := rfl
  have hz1 : (w.heap.push (.cells ((vs ++ [x]).toArray ++ Builtin.zeroCells zv.cells (grownCap w (vs.length + 1) c0 e - (vs.length + 1))) e)).size = w.heap.size + 1 := by simp
  refine ⟨_,_,_,_,some w.heap.size,hrun,?_,by rw [hh,hz1]; omega,fun q hq _ => by rw [hh]; rw [Array.getElem?_push_lt hq,Array.getElem?_eq_getElem hq],.inr ⟨w.heap.size,rfl,Nat.le_refl _,by rw [hh,hz1]; omega⟩,rfl,rfl⟩
  have hsz : ((vs ++ [x]).toArray ++ Builtin.zeroCells zv.cells (grownCap w (vs.length + 1) c0 e - (vs.length + 1))).size = grownCap w (vs.length + 1) c0 e := by
   rw [Array.size_append,size_zeroCells,hzs]
   simp only [List.size_toArray,List.length_append,List.length_cons,List.length_nil]
   omega
  have := VOwn.mk (w := w.drew.alloc (.cells ((vs ++ [x]).toArray ++ Builtin.zeroCells zv.cells (grownCap w (vs.length + 1) c0 e - (vs.length + 1))) e)) (e := e) w.heap.size (grownCap w (vs.length + 1) c0 e) _ (vs ++ [x])
   (by rw [hh]; exact Array.getElem?_push_size) hsz (by rw [List.length_append]; exact hge) (by omega) (fun j hj => by
     rw [Array.getElem?_append_left (by simpa using hj)]
     simp)
  rw [List.length_append] at this
  exact this
 cases h with
 | empty ad =>
   refine grow (c0 := 0) (base := ad) rfl (by simp) ?_
   cases ad with
   | none => exact run_firstCells_none w.drew i.size 0 0 0
   | some ad => exact run_firstCells_some w.drew i.size 0 ad 0 0 [] (by simp) (fun j u h => by simp at h)
 | mk b cap C vs hC hsz hle h0 hcs =>
   by_cases hroom : vs.length + 1 ≤ cap
   ·have hcell : ∀ j,j < [x].length → (w.cell? ⟨b,0 + vs.length * i.size + j,none⟩).isSome = true := fun j hj => by
     have hj0 : j = 0 := by simpa using hj
     subst hj0
     rw [hz]
     have : vs.length < C.size := by omega
     simp [World.cell?,hC,this]
    have hrun := run_append_room_src (P := P) w t t ty e i ht hi b 0 vs.length cap (.slice (some ⟨bu,0,none⟩) 1 c) 1 [x] hs hroom hcell (fun j hj => by simp [World.frozen?,hC])
    have hset : w.setCells b (0 + vs.length * i.size) [x] = w.setCell ⟨b,vs.length,none⟩ x := by
     rw [hz,Nat.zero_add,Nat.mul_one]; rfl
    rw [hset] at hrun
    have hb2 := Zjg hC vs.length x
    refine ⟨_,_,_,_,some b,hrun,?_,by rw [Zaf]; omega,fun q hq hne => Zan _ _ _ _ _ (fun e => hne (by rw [e])),.inl rfl,rfl,rfl⟩
    have := VOwn.mk (w := w.setCell ⟨b,vs.length,none⟩ x) (e := e) b cap _ (vs ++ [x]) hb2 (by simpa using hsz) (by rw [List.length_append]; exact hroom) h0 (fun j hj => by
     rw [List.length_append,List.length_singleton] at hj
     rcases Nat.lt_or_ge j vs.length with hj2 | hj2
     ·rw [Array.getElem?_setIfInBounds_ne (by omega),List.getElem?_append_left hj2]
      exact hcs j hj2
     ·obtain rfl : j = vs.length := by omega
      rw [Array.getElem?_setIfInBounds_self_of_lt (by omega)]
      simp)
    rw [List.length_append] at this
    exact this
   ·refine grow (c0 := cap) (base := some ⟨b,0,none⟩) rfl (by omega) ?_
    exact run_firstCells_some w.drew i.size vs.length ⟨b,0,none⟩ vs.length cap vs (by rw [hz,Nat.mul_one]) (fun j u hj => by
     have hjl : j < vs.length := by
      rcases Nat.lt_or_ge j vs.length with h | h
      ·exact h
      ·simp [List.getElem?_eq_none h] at hj
     rw [World.cell?_add]
     have := hcs j hjl
     have hd : w.drew.heap = w.heap := rfl
     simp [World.cell?,hd,hC,this,hj])
theorem Zb5 (w : World) {ops : Array Oper} {rest : List Oper} {o : Oper} {a : Act} {Q : Exit → Act → World → Prop} (hgd : o.guard = none) (d s : Operand) (t t' : TypeId)
 (ho : o.op = .call { callee := .builtin .append,args := #[d,s],argTypes := #[t,t'] }) (v u : Value) (hd : a.eval d = v) (hs : a.eval s = u) {v' : Value} {w' : World}
 (hr : (Builtin.append_ #[t,t'] o.type #[v,u]).run P w = .ok v' w') (h : wpList P ops Q rest (a.put o.dst v') w') : wpList P ops Q (o :: rest) a w :=
 wpList_plain hgd fun _ hK => by
  unfold Oper.wp
  simp only [execOp,ho,resolve,invoke,builtin,Sem.run_bind,Sem.run_pure,Result.andThen_ok,List.map_toArray,List.map_cons,List.map_nil,hd,hs,hr]
  exact hK _ _ h
end
section
variable {P : Program} {φ : Nat → Nat}
theorem VOwn.ints {e : TypeId} {w : World} {v : Value} {xs : List Int} {ob : Option Nat} (h : VOwn w e v (xs.map (Value.int .i64)) ob) : OwnRep φ w (fun _ => False) v 1 (xs.map i64E.enc) ob := by
 generalize hys : xs.map (Value.int .i64) = ys at h
 cases h with
 | empty ad =>
   obtain rfl : xs = [] := by cases xs with | nil => rfl | cons => simp at hys
   exact .empty ad 1
 | mk b cap C vs hC hsz hle h0 hcs =>
   subst hys
   have key : ∀ ys : List Int,Reps φ w (fun _ => False) (ys.map (Value.int .i64)) ((ys.map i64E.enc).flatMap A.cells) := by
    intro ys
    induction ys with
    | nil => exact .nil
    | cons y ys ih => exact .cons _ _ _ _ (.int _ _) ih
   have hl : xs.length = (xs.map (Value.int .i64)).length := by rw [List.length_map]
   have := OwnRep.mk (φ := φ) (w := w) (K := fun _ => False) b 0 cap 1 (xs.map i64E.enc) (xs.map (Value.int .i64)) (by rw [List.length_map]; rw [← hl] at hle; exact hle) h0 (fun y hy => by
    obtain ⟨z,_,rfl⟩ := List.mem_map.1 hy; rfl) (key xs) (fun j u hj => by
     have hjl : j < (xs.map (Value.int .i64)).length := by
      rcases Nat.lt_or_ge j (xs.map (Value.int .i64)).length with h | h
      ·exact h
      ·simp [List.getElem?_eq_none h] at hj
     have := hcs j hjl
     simp only [World.cell?,hC,Nat.zero_add]
     simp [this,hj]) ⟨C,e,_,hC,by omega,fun off _ => by simp [World.frozen?,hC]⟩
   rw [List.length_map] at this
   rw [← hl]
   exact this
theorem OwnRep.keepF {w w' : World} {v : Value} {z : Nat} {xs : List A} {ob : Option Nat} (h : OwnRep φ w (fun _ => False) v z xs ob) (hs : ∀ b,ob = some b → w'.heap[b]? = w.heap[b]?) : OwnRep φ w' (fun _ => False) v z xs ob := by
 cases h with
 | empty ad z => exact .empty ad z
 | mk b o cap z xs vs hc h0 hzz hr hv hroom =>
   have e := hs b rfl
   exact .mk b o cap z xs vs hc h0 hzz (hr.mono (fun _ h => h.elim) fun _ h => h.elim) (hv.of_block e) (hroom.of_block e)
theorem OwnRep.dataF {w : World} {K : Nat → Prop} {v : Value} {z : Nat} {xs : List A} {ob : Option Nat} (h : OwnRep φ w (fun _ => False) v z xs ob) (hb : ∀ b,ob = some b → K b) : Rep φ w K v (.sl z xs) := by
 cases h with
 | empty ad z => exact .slE ad 0 z
 | mk b o cap z xs vs hc h0 hzz hr hv hroom => exact .sl b o cap z xs vs (hb b rfl) hzz hc (hr.mono (fun _ _ => rfl) fun _ h => h.elim) hv
@[reducible] def rowE2 : ET := .one (.sl i64E)
def NestP (φ : Nat → Nat) (e : TypeId) (xs : List (List Int)) (v : Value) (O : Nat → Prop) (w : World) : Prop :=
 ∃ (vs : List Value) (ob : Option Nat) (rb : Nat → Option Nat),VOwn w e v vs ob ∧ vs.length = xs.length ∧ (∀ b,ob = some b → O b) ∧
   (∀ j,j < xs.length → (∃ ad n cp,vs[j]? = some (.slice ad n cp) ∧ OwnRep φ w (fun _ => False) (.slice ad n cp) 1 ((rowAt xs j).map i64E.enc) (rb j)) ∧ ∀ b,rb j = some b → O b ∧ ob ≠ some b) ∧
   ∀ i j b,i < j → j < xs.length → rb i = some b → rb j ≠ some b
theorem NestP.nil (e : TypeId) (ad : Option Addr) (w : World) : NestP φ e [] (.slice ad 0 0) (fun _ => False) w :=
 ⟨[],none,fun _ => none,.empty ad,rfl,fun b hb => (by cases hb),fun j hj => absurd hj (Nat.not_lt_zero _),fun i j b _ hj => absurd hj (Nat.not_lt_zero _)⟩
theorem NestP.slice {e : TypeId} {xs : List (List Int)} {v : Value} {O : Nat → Prop} {w : World} (h : NestP φ e xs v O w) : ∃ ad cp,v = .slice ad xs.length cp := by
 obtain ⟨vs,ob,rb,h1,h2,_⟩ := h
 rw [← h2]
 cases h1 with
 | empty ad => exact ⟨_,_,rfl⟩
 | mk => exact ⟨_,_,rfl⟩
theorem NestP.keep {e : TypeId} {xs : List (List Int)} {v : Value} {O : Nat → Prop} {w w' : World} (h : NestP φ e xs v O w) (hs : ∀ c,O c → w'.heap[c]? = w.heap[c]?) : NestP φ e xs v O w' := by
 obtain ⟨vs,ob,rb,h1,h2,h3,h4,h5⟩ := h
 refine ⟨vs,ob,rb,h1.keep fun b hb => hs b (h3 b hb),h2,h3,fun j hj => ?_,h5⟩
 obtain ⟨⟨ad,n,cp,a1,a2⟩,a3⟩ := h4 j hj
 exact ⟨⟨ad,n,cp,a1,a2.keepF fun b hb => hs b (a3 b hb).1⟩,a3⟩
theorem NestP.push {e eI : TypeId} {xs : List (List Int)} {v : Value} {O : Nat → Prop} {w : World} (h : NestP φ e xs v O w) {acc : List Int} {vr : Value} {obr : Option Nat} (hr : VOwn w eI vr (acc.map (Value.int .i64)) obr) (hd : ∀ b,obr = some b → ¬ O b)
 (hO : ∀ b,O b → b < w.heap.size) {t : TypeId} (ht : P.underlying t = some (.slice e)) {i : TypeInfo} (hi : P.info? e = some i) (hz : i.size = 1) {zv : Value} (hzv : i.zero = some zv) (hzs : zv.cells.size = 1)
 (hb : i.bytes ≤ 128) (hlim : xs.length + 1 < 1099511627776) {bu : Nat} {D : Array Value} {tu : TypeId} (hu : w.heap[bu]? = some (.cells D tu)) (hx : D[0]? = some vr) (c : Nat) (ty : TypeId) :
 ∃ ad n cp w',(Builtin.append_ #[t,t] ty #[v,.slice (some ⟨bu,0,none⟩) 1 c]).run P w = .ok (.slice ad n cp) w' ∧ w.heap.size ≤ w'.heap.size ∧ w'.os = w.os ∧ w'.output = w.output ∧
   (∀ q,q < w.heap.size → ¬ O q → w'.heap[q]? = w.heap[q]?) ∧ NestP φ e (xs ++ [acc]) (.slice ad n cp) (fun b => O b ∨ obr = some b ∨ (w.heap.size ≤ b ∧ b < w'.heap.size)) w' := by
 obtain ⟨vs,ob,rb,h1,h2,h3,h4,h5⟩ := h
 obtain ⟨a,n,cp,hvr⟩ := hr.slice
 obtain ⟨ad,n',cp',w',ob',e1,e2,e3,e4,e5,e6,e7⟩ := h1.app ht hi hz hzv hzs hb (by rw [h2]; exact hlim) hu hx (by rw [hvr]; rfl) c ty
 have hne : ∀ q,q < w.heap.size → ¬ O q → w'.heap[q]? = w.heap[q]? := fun q hq hn => e4 q hq fun e => hn (h3 q e)
 have hkeep : ∀ b,obr = some b → w'.heap[b]? = w.heap[b]? := fun b hb => hne b (by subst hb; exact hr.lt) (hd b hb)
 refine ⟨ad,n',cp',w',e1,e3,e6,e7,hne,vs ++ [vr],ob',fun j => if j = xs.length then obr else rb j,e2,by simp [h2],fun b hb => ?_,fun j hj => ?_,fun i j b hij hj hb1 hb2 => ?_⟩
 ·rcases e5 with rfl | ⟨q,rfl,q1,q2⟩
  ·exact .inl (h3 b hb)
  ·cases hb; exact .inr (.inr ⟨q1,q2⟩)
 ·rw [List.length_append,List.length_singleton] at hj
  rcases Nat.lt_or_ge j xs.length with hjl | hjl
  ·obtain ⟨⟨ad0,n0,cp0,a1,a2⟩,a3⟩ := h4 j hjl
   have hnj : j ≠ xs.length := by omega
   simp only [hnj,if_false]
   have hrow : rowAt (xs ++ [acc]) j = rowAt xs j := by simp [rowAt,List.getElem?_append_left hjl]
   rw [hrow]
   refine ⟨⟨ad0,n0,cp0,by rw [List.getElem?_append_left (by omega)]; exact a1,a2.keepF fun b hb => e4 b (hO b (a3 b hb).1) (a3 b hb).2⟩,fun b hb => ⟨.inl (a3 b hb).1,fun e => ?_⟩⟩
   rcases e5 with rfl | ⟨q,rfl,q1,q2⟩
   ·exact (a3 b hb).2 e
   ·cases e; have := hO _ (a3 _ hb).1; omega
  ·obtain rfl : j = xs.length := by omega
   simp only [if_true]
   have hrow : rowAt (xs ++ [acc]) xs.length = acc := by simp [rowAt]
   rw [hrow]
   refine ⟨⟨a,n,cp,by rw [← h2]; simp [hvr],?_⟩,fun b hb => ⟨.inr (.inl hb),fun e => ?_⟩⟩
   ·rw [← hvr]
    exact (VOwn.ints hr).keepF hkeep
   ·rcases e5 with rfl | ⟨q,rfl,q1,q2⟩
    ·exact hd b hb (h3 b e)
    ·cases e; subst hb; have := hr.lt; omega
 ·rw [List.length_append,List.length_singleton] at hj
  have hni : i ≠ xs.length := by omega
  simp only [hni,if_false] at hb1
  rcases Nat.lt_or_ge j xs.length with hjl | hjl
  ·have hnj : j ≠ xs.length := by omega
   simp only [hnj,if_false] at hb2
   exact h5 i j b hij hjl hb1 hb2
  ·obtain rfl : j = xs.length := by omega
   simp only [if_true] at hb2
   exact hd b hb2 ((h4 i hij).2 b hb1).1
theorem NestP.data {e : TypeId} {xs : List (List Int)} {v : Value} {O : Nat → Prop} {w : World} (h : NestP φ e xs v O w) {K : Nat → Prop} (hK : ∀ b,O b → K b) : Rep φ w K v (.sl 1 (xs.map rowE2.enc)) := by
 obtain ⟨vs,ob,rb,h1,h2,h3,h4,h5⟩ := h
 cases h1 with
 | empty ad =>
   obtain rfl : xs = [] := by cases xs with | nil => rfl | cons => simp at h2
   exact .slE ad 0 1
 | mk b cap C vs hC hsz hle h0 hcs =>
   have key : ∀ k i,i + k = xs.length → Reps φ w K (vs.drop i) (((xs.drop i).map rowE2.enc).flatMap A.cells) := by
    intro k
    induction k with
    | zero =>
      intro i hi'
      rw [List.drop_eq_nil_of_le (by omega),List.drop_eq_nil_of_le (by omega)]
      exact .nil
    | succ k ih =>
      intro i hi'
      have hil : i < xs.length := by omega
      obtain ⟨⟨ad,n,cp,a1,a2⟩,a3⟩ := h4 i hil
      have hst : rowAt xs i = xs[i] := by simp [rowAt,List.getElem?_eq_getElem hil]
      have hvl : i < vs.length := by omega
      have hvi : vs[i] = .slice ad n cp := by
       rw [List.getElem?_eq_getElem hvl] at a1; exact Option.some.inj a1
      rw [List.drop_eq_getElem_cons hil,List.drop_eq_getElem_cons hvl,List.map_cons,List.flatMap_cons,hvi]
      rw [hst] at a2
      exact .cons _ _ _ _ (a2.dataF fun b hb => hK b (a3 b hb).1) (ih (i + 1) (by omega))
   have r1 := key xs.length 0 (by omega)
   rw [List.drop_zero,List.drop_zero] at r1
   have := Rep.sl (φ := φ) (w := w) (ok := K) b 0 cap 1 (xs.map rowE2.enc) vs (hK b (h3 b rfl)) (fun x hx => by
    obtain ⟨y,_,rfl⟩ := List.mem_map.1 hx
    rfl) (by rw [List.length_map,← h2]; exact hle) r1 (fun j u hj => by
     have hjl : j < vs.length := by
      rcases Nat.lt_or_ge j vs.length with h | h
      ·exact h
      ·simp [List.getElem?_eq_none h] at hj
     have := hcs j hjl
     simp only [World.cell?,hC,Nat.zero_add]
     simp [this,hj])
   rw [List.length_map,← h2] at this
   exact this
theorem NestP.first {e : TypeId} {y : Int} {ys : List Int} {rt : List (List Int)} {v : Value} {O : Nat → Prop} {w : World} (h : NestP φ e ((y :: ys) :: rt) v O w) :
 ∃ b cap b0 o0 c0,v = .slice (some ⟨b,0,none⟩) (rt.length + 1) cap ∧ w.cell? ⟨b,0,none⟩ = some (.slice (some ⟨b0,o0,none⟩) (ys.length + 1) c0) ∧ (∃ u,w.cell? ⟨b0,o0,none⟩ = some u) ∧ w.frozen? ⟨b0,o0,none⟩ = false ∧ O b0 ∧ (O b ∧ b ≠ b0) ∧
   ∀ x,NestP φ e ((x :: ys) :: rt) v O (w.setCell ⟨b0,o0,none⟩ (.int .i64 x)) := by
 obtain ⟨vs,ob,rb,h1,h2,h3,h4,h5⟩ := h
 obtain ⟨⟨ad,n,cp,a1,a2⟩,a3⟩ := h4 0 (by simp)
 have hrow : rowAt ((y :: ys) :: rt) 0 = y :: ys := rfl
 rw [hrow] at a2
 cases h1 with
 | empty ad => simp at h2
 | mk b cap C vs hC hsz hle h0 hcs =>
   have hl : vs.length = rt.length + 1 := by simpa using h2
   generalize hv : Value.slice ad n cp = sv at a2
   generalize hxs : (y :: ys).map i64E.enc = zs at a2
   generalize hrb : rb 0 = r0 at a2
   cases a2 with
   | empty ad1 z => simp at hxs
   | mk b0 o0 c0 z zs us hc hc0 hzz hrr hvv hroom =>
     have hlen : zs.length = ys.length + 1 := by rw [← hxs]; simp
     have hc00 := hcs 0 (by omega)
     rw [a1] at hc00
     have hne : b ≠ b0 := fun e => (a3 b0 hrb).2 (by rw [e])
     have hul : us.length = zs.length := by
      have := hrr.length
      rw [Zav hzz,Nat.mul_one] at this; exact this
     have hr0 := hroom.cell (j := o0) (by have := hlen; omega)
     refine ⟨b,cap,b0,o0,c0,by rw [← hl],?_,Option.isSome_iff_exists.1 hr0.1,hr0.2,(a3 b0 hrb).1,⟨h3 b rfl,hne⟩,fun x => ?_⟩
     ·rw [← hlen,← hv]
      simp [World.cell?,hC,hc00]
     ·have hbk : ∀ q,q ≠ b0 → (w.setCell ⟨b0,o0,none⟩ (.int .i64 x)).heap[q]? = w.heap[q]? := fun q hq => Zan _ _ _ _ _ hq
      refine ⟨vs,some b,rb,.mk b cap C vs ((hbk b hne).trans hC) hsz hle h0 hcs,by rw [h2]; rfl,h3,fun j hj => ?_,fun i j q hij hj => h5 i j q hij hj⟩
      obtain ⟨⟨ad',n',cp',g1,g2⟩,g3⟩ := h4 j hj
      refine ⟨⟨ad',n',cp',g1,?_⟩,g3⟩
      match j,hj with
      | 0,hj =>
        have hrow' : rowAt ((x :: ys) :: rt) 0 = x :: ys := rfl
        rw [a1] at g1
        have hvv' : Value.slice ad' n' cp' = .slice (some ⟨b0,o0,none⟩) zs.length c0 := by rw [← Option.some.inj g1]; exact hv
        rw [hrow',hvv',hrb]
        have hxl : ((x :: ys).map i64E.enc).length = zs.length := by rw [hlen]; simp
        cases us with
        | nil => simp [hlen] at hul
        | cons u0 us =>
          have hrest : Reps φ (w.setCell ⟨b0,o0,none⟩ (.int .i64 x)) (fun _ => False) (.int .i64 x :: us) (((x :: ys).map i64E.enc).flatMap A.cells) := by
           subst hxs
           cases hrr with
           | cons _ _ _ _ hh ht => exact .cons _ _ _ _ (.int _ _) (ht.mono (fun _ h => h.elim) fun _ h => h.elim)
          have := OwnRep.mk (φ := φ) (w := w.setCell ⟨b0,o0,none⟩ (.int .i64 x)) (K := fun _ => False) b0 o0 c0 1 ((x :: ys).map i64E.enc) (.int .i64 x :: us) (by rw [hxl]; exact hc) hc0 (fun y hy => by
           obtain ⟨z,_,rfl⟩ := List.mem_map.1 hy; rfl) hrest (fun j u hj => by
            match j,hj with
            | 0,hj =>
              cases hj
              exact World.cell?_setCell_same' _ _ _ hr0.1
            | j + 1,hj =>
              rw [World.cell?_setCell_other _ _ _ _ (by simp)]
              exact hvv (j + 1) u hj) (Zke hroom)
          rw [hxl] at this
          exact this
      | j + 1,hj =>
        have hrow' : rowAt ((x :: ys) :: rt) (j + 1) = rowAt ((y :: ys) :: rt) (j + 1) := rfl
        rw [hrow']
        exact g2.keepF fun q hq => hbk q fun e => h5 0 (j + 1) b0 (by omega) hj hrb (by rw [← e]; exact hq)
end
@[reducible] def srcE : ET := .agg (.cons (.sl (.one (.int .u8))) (.cons (.int .i64) (.cons (.int .u64) .nil)))
def NstK (P : Program) (φ : Nat → Nat) (S : Nat) (e eI : TypeId) (K : Nat → Prop) (x : srcE.ty) (v3 : Value) (xs : List (List Int)) (vout : Value) (acc : List Int) (vrow : Value) (w : World) : Prop :=
 ∃ (O : Nat → Prop) (B : Nat) (obr : Option Nat),BoxRep φ w K v3 3 (srcE.enc x) [B] ∧ NestP φ e xs vout O w ∧ VOwn w eI vrow (acc.map (Value.int .i64)) obr ∧
   (∀ b,obr = some b → ¬ O b ∧ S ≤ b ∧ b < w.heap.size ∧ ¬ K b ∧ b ≠ B) ∧ (∀ b,O b → S ≤ b ∧ b < w.heap.size ∧ ¬ K b ∧ b ≠ B) ∧ (∀ b,K b → b < w.heap.size ∧ b ≠ B) ∧ Glob P K w ∧ S ≤ B ∧ B < w.heap.size
def Nst (P : Program) (φ : Nat → Nat) (S : Nat) (e eI : TypeId) (x : srcE.ty) (v3 : Value) (xs : List (List Int)) (vout : Value) (acc : List Int) (vrow : Value) (w : World) : Prop :=
 ∃ K,NstK P φ S e eI K x v3 xs vout acc vrow w
section
variable {P : Program} {φ : Nat → Nat} {S : Nat} {e eI : TypeId} {K : Nat → Prop} {x : srcE.ty} {v3 : Value} {xs : List (List Int)} {vout : Value} {acc : List Int} {vrow : Value} {w : World}
theorem Zad.keepW {w' : World} (hK : ∀ b,K b → w'.heap[b]? = w.heap[b]?) : ∀ {vs : List Value} {as : List A} {bs : List Nat},Zad φ w K vs as bs → (∀ b ∈ bs,w'.heap[b]? = w.heap[b]?) → Zad φ w' K vs as bs
 | _,_,_,.nil,_ => .nil
 | _,_,_,.cons v a b vs as bs h t,hb => by
   refine .cons _ _ _ _ _ _ ?_ (Zad.keepW hK t fun c hc => hb c (List.mem_append_right _ hc))
   cases h with
   | data a h ha => exact .data _ _ (h.mono hK fun _ h => h) ha
   | own z xs b h =>
     refine .own _ _ _ _ ?_
     cases h with
     | empty ad z => exact .empty ad z
     | mk b o cap z xs vs hc h0 hzz hr hv hroom =>
       have eb := hb b (by simp)
       exact .mk b o cap z xs vs hc h0 hzz (hr.mono hK fun _ h => h) (hv.of_block eb) (hroom.of_block eb)
theorem BoxRep.keepW {w' : World} {z : Nat} {a : A} {v : Value} {bs : List Nat} (h : BoxRep φ w K v z a bs) (hK : ∀ b,K b → w'.heap[b]? = w.heap[b]?) (hb : ∀ b ∈ bs,w'.heap[b]? = w.heap[b]?) : BoxRep φ w' K v z a bs := by
 cases h with
 | mk b o z a vs bs h hv hr hz =>
   have eb := hb b (by simp)
   exact .mk b o z a vs bs (Zad.keepW hK h fun c hc => hb c (by simp [hc])) (hv.of_block eb) (hr.of_block eb) hz
theorem NstK.keep {w' : World} (h : NstK P φ S e eI K x v3 xs vout acc vrow w) (hw : Lo w.heap.size w w') : NstK P φ S e eI K x v3 xs vout acc vrow w' := by
 obtain ⟨O,B,obr,h1,h2,h3,h4,h5,h6,h7,h8,h9⟩ := h
 have hs := hw.size
 refine ⟨O,B,obr,h1.keepW (fun b hb => hw.block b (h6 b hb).1) (fun b hb => ?_),h2.keep fun c hc => hw.block c (h5 c hc).2.1,h3.keep fun b hb => hw.block b (h4 b hb).2.2.1,fun b hb => ?_,fun b hb => ?_,fun b hb => ?_,h7.on (fun _ h => h) fun b hb => hw.block b (h6 b hb).1,h8,by omega⟩
 ·rw [List.mem_singleton] at hb; subst hb; exact hw.block _ h9
 ·obtain ⟨a1,a2,a3,a4⟩ := h4 b hb; exact ⟨a1,a2,by omega,a4⟩
 ·obtain ⟨a2,a3,a4⟩ := h5 b hb; exact ⟨a2,by omega,a4⟩
 ·obtain ⟨a3,a4⟩ := h6 b hb; exact ⟨by omega,a4⟩
theorem Nst.keep {w' : World} (h : Nst P φ S e eI x v3 xs vout acc vrow w) (hw : Lo w.heap.size w w') : Nst P φ S e eI x v3 xs vout acc vrow w' := by
 obtain ⟨K,h⟩ := h; exact ⟨K,h.keep hw⟩
theorem Nst.row (h : Nst P φ S e eI x v3 xs vout acc vrow w) (ad : Option Addr) : Nst P φ S e eI x v3 xs vout [] (.slice ad 0 0) w := by
 obtain ⟨K,O,B,obr,h1,h2,h3,h4,h5⟩ := h
 exact ⟨K,O,B,none,h1,h2,.empty ad,fun b hb => (by cases hb),h5⟩
theorem Nst.out (h : Nst P φ S e eI x v3 xs vout acc vrow w) (ad : Option Addr) : Nst P φ S e eI x v3 [] (.slice ad 0 0) acc vrow w := by
 obtain ⟨K,O,B,obr,h1,h2,h3,h4,h5,h6⟩ := h
 exact ⟨K,fun _ => False,B,obr,h1,.nil e ad w,h3,fun b hb => ⟨fun h => h,(h4 b hb).2⟩,fun b hb => hb.elim,h6⟩
theorem Nst.lit (h : Nst P φ S e eI x v3 xs vout acc vrow w) (C : Array Value) (t : TypeId) : ∃ K : Nat → Prop,K w.heap.size ∧ NstK P φ S e eI K x v3 xs vout acc vrow (w.alloc (.cells C t)) := by
 obtain ⟨K,h⟩ := h
 obtain ⟨O0,B0,obr0,g1,g2,g3,g4,g5,g6,g7,g8,g9⟩ := h
 have hz : (w.alloc (.cells C t)).heap.size = w.heap.size + 1 := by simp
 refine ⟨fun b => K b ∨ b = w.heap.size,.inr rfl,O0,B0,obr0,?_,g2.keep fun c hc => Zaj _ _ (g5 c hc).2.1,g3.keep fun b hb => Zaj _ _ (g4 b hb).2.2.1,fun b hb => ?_,fun b hb => ?_,fun b hb => ?_,?_,g8,by omega⟩
 ·have := g1.keepW (w' := w.alloc (.cells C t)) (fun b hb => Zaj _ _ (g6 b hb).1) fun b hb => by
   rw [List.mem_singleton] at hb; subst hb; exact Zaj _ _ g9
  exact this.mono fun b hb => .inl hb
 ·obtain ⟨a1,a2,a3,a4,a5⟩ := g4 b hb
  exact ⟨a1,a2,by omega,fun hk => hk.elim a4 (fun e => by omega),a5⟩
 ·obtain ⟨a2,a3,a4,a5⟩ := g5 b hb
  exact ⟨a2,by omega,fun hk => hk.elim a4 (fun e => by omega),a5⟩
 ·rcases hb with hb | rfl
  ·obtain ⟨a3,a4⟩ := g6 b hb; exact ⟨by omega,a4⟩
  ·exact ⟨by omega,by omega⟩
 ·exact g7.on (fun b hb => .inl hb) fun b hb => Zaj _ _ (g6 b hb).1
theorem NstK.call {g : Nat} {a : A} {u : Value} {y : Int} {x' : srcE.ty} (h : NstK P φ S e eI K x v3 xs vout acc vrow w) (hu : Rep φ w K u a) (hc : CallOk P φ g [.iob 3 [srcE.enc x],a] [.int .i64 y] [.iob 3 [srcE.enc x']]) (ha : (∀ z xs,a ≠ .iob z xs) ∧ ∀ z xs,a ≠ .ios z xs) :
 Calls P (φ g) #[v3,u] w fun r w' => (r = .returned (.int .i64 y) ∧ w.heap.size ≤ w'.heap.size ∧ Lo S w w' ∧ Nst P φ S e eI x' v3 xs vout acc vrow w') ∧ ∀ c,c < w.heap.size → (∀ o,v3 ≠ .pointer (some ⟨c,o,none⟩)) → w'.heap[c]? = w.heap[c]? := by
 obtain ⟨O,B,obr,h1,h2,h3,h4,h5,h6,h7,h8,h9⟩ := h
 have hvB : ∃ o,v3 = .pointer (some ⟨B,o,none⟩) := by
  cases h1 with
  | mk _ o _ _ vs _ _ _ _ => exact ⟨o,rfl⟩
 have hargs : ArgReps φ w K [v3,u] [.iob 3 [srcE.enc x],a] ([B] ++ ([] ++ [])) := .cons _ _ _ _ _ _ (.iob _ _ _ _ h1) (.cons _ _ _ _ _ _ (.data _ _ hu) .nil)
 refine (hc w K [v3,u] [B] hargs (by simp) (fun b hb => by rw [List.mem_singleton] at hb; subst hb; exact fun hk => (h6 _ hk).2 rfl) (fun b hb => (h6 b hb).1) h7).mono fun r w' ⟨v,he,hb⟩ => ?_
 subst he
 obtain ⟨rvs,K',rb,ob,hv,k1,k2,hrr,ho,hnd,hbl⟩ := hb.rest
 have hfr : ∀ c,c < w.heap.size → c ≠ B → w'.heap[c]? = w.heap[c]? := fun c hc hn => hb.frame c hc (by simpa using hn)
 have hK' : ∀ b,K' b → K b ∨ b = B ∨ (w.heap.size ≤ b ∧ b < w'.heap.size) := fun b hb' => by
  rcases k2 b hb' with h | h | h
  ·exact .inl h
  ·exact .inr (.inl (by simpa using h))
  ·exact .inr (.inr h)
 have hg := hb.grow
 cases hrr with
 | cons v0 _ b0 vs0 _ bs0 r1 r2 =>
 cases r2
 cases r1 with
 | data _ r3 =>
 cases r3
 refine ⟨⟨by rw [hv]; rfl,hg,⟨hg,fun c hc => hfr c (by omega) (by omega),hb.env.1,hb.env.2⟩,?_⟩,fun c hc hn => hfr c hc fun e => by
  obtain ⟨o,ho'⟩ := hvB
  exact hn o (by rw [ho',e])⟩
 cases ho with
 | data _ _ _ _ _ _ hne _ => exact absurd rfl (hne.1 _ _)
 | iob _ _ _ _ bq _ _ _ bs1 hq ht =>
   have hbq : ∃ bs,bq = B :: bs := by
    cases h1 with
    | mk _ o _ _ vs _ _ _ _ =>
      generalize hpv : Value.pointer (some ⟨B,o,none⟩) = pv at hq
      cases hq with
      | mk b2 o2 _ _ vs2 bs2 _ _ _ _ => cases hpv; exact ⟨_,rfl⟩
   obtain ⟨bs2,rfl⟩ := hbq
   have hbs2 : bs2 = [] := by
    have key : ∀ {vs : List Value} {as : List A} {bs : List Nat},Zad φ w' K' vs as bs → (∀ z xs,A.own z xs ∉ as) → bs = [] := by
     intro vs as bs hcr
     induction hcr with
     | nil => intro _; rfl
     | cons v a b vs as bs h t ih =>
       intro hn
       rw [ih fun z xs hm => hn z xs (List.mem_cons_of_mem _ hm)]
       cases h with
       | data => rfl
       | own z xs b h => exact absurd (List.mem_cons_self ..) (hn z xs)
    generalize hpv : v3 = pv at hq
    generalize hbb : B :: bs2 = bb at hq
    generalize hxx : srcE.enc x' = xx at hq
    cases hq with
    | mk b o z xx vs bs h hv hr hz =>
      cases hbb
      refine key h fun z xs hm => ?_
      obtain ⟨x1,x2,x3,⟨⟩⟩ := x'
      rw [← hxx] at hm
      simp [ET.enc,CTs.enc,CT.enc,A.cells] at hm
   subst hbs2
   have hnK : ¬ K' B := (hbl B (by simp)).1
   have hd : ∀ b,b < w.heap.size → ¬ K b → b ≠ B → ¬ K' b := fun b h1 h2 h3 h4 => by
    rcases hK' b h4 with h | h | h
    ·exact h2 h
    ·exact h3 h
    ·omega
   have hG' : Glob P K' w' := h7.on k1 fun b hb => hfr b (h6 b hb).1 (h6 b hb).2
   refine ⟨K',O,B,obr,hq,h2.keep fun c hc => hfr c (h5 c hc).2.1 (h5 c hc).2.2.2,h3.keep fun b hb => hfr b (h4 b hb).2.2.1 (h4 b hb).2.2.2.2,fun b hb => ?_,fun b hb => ?_,fun b hb => ?_,hG',h8,by omega⟩
   ·obtain ⟨a1,a2,a3,a4,a5⟩ := h4 b hb
    exact ⟨a1,a2,by omega,hd b a3 a4 a5,a5⟩
   ·obtain ⟨a2,a3,a4,a5⟩ := h5 b hb
    exact ⟨a2,by omega,hd b a3 a4 a5,a5⟩
   ·refine ⟨?_,fun e => hnK (by rw [← e]; exact hb)⟩
    rcases hK' b hb with h | h | h
    ·have := (h6 b h).1; omega
    ·omega
    ·exact h.2
theorem Nst.call {g : Nat} {n y : Int} {x' : srcE.ty} (h : Nst P φ S e eI x v3 xs vout acc vrow w) (hc : CallOk P φ g [.iob 3 [srcE.enc x],.int .i64 n] [.int .i64 y] [.iob 3 [srcE.enc x']]) :
 Calls P (φ g) #[v3,.int .i64 n] w fun r w' => r = .returned (.int .i64 y) ∧ w.heap.size ≤ w'.heap.size ∧ Lo S w w' ∧ Nst P φ S e eI x' v3 xs vout acc vrow w' := by
 obtain ⟨K,h⟩ := h
 exact (h.call (.int _ _) hc ⟨fun _ _ h => (by cases h),fun _ _ h => (by cases h)⟩).mono fun _ _ h => h.1
theorem Nst.among {g : Nat} {ns : List Int} {y : Int} {x' : srcE.ty} {t : TypeId} (h : Nst P φ S e eI x v3 xs vout acc vrow w) (hc : CallOk P φ g [.iob 3 [srcE.enc x],.sl 1 (ns.map i64E.enc)] [.int .i64 y] [.iob 3 [srcE.enc x']]) (cp : Nat) (hcp : ns.length ≤ cp) :
 Calls P (φ g) #[v3,.slice (some ⟨w.heap.size,0,none⟩) ns.length cp] (w.alloc (.cells (ns.map (Value.int .i64)).toArray t)) fun r w' => r = .returned (.int .i64 y) ∧ w.heap.size ≤ w'.heap.size ∧ Lo S w w' ∧ Nst P φ S e eI x' v3 xs vout acc vrow w' ∧ ∀ c,c < w.heap.size → (∀ o,v3 ≠ .pointer (some ⟨c,o,none⟩)) → w'.heap[c]? = w.heap[c]? := by
 obtain ⟨K,hk,h⟩ := h.lit (ns.map (Value.int .i64)).toArray t
 have hS : S ≤ w.heap.size := by
  obtain ⟨O,B,obr,h1,h2,h3,h4,h5,h6,h7,h8,h9⟩ := h
  simp only [World.alloc,Array.size_push] at h9
  omega
 have key : ∀ ys : List Int,Reps φ (w.alloc (.cells (ns.map (Value.int .i64)).toArray t)) K (ys.map (Value.int .i64)) ((ys.map i64E.enc).flatMap A.cells) := by
  intro ys
  induction ys with
  | nil => exact .nil
  | cons y ys ih => exact .cons _ _ _ _ (.int _ _) ih
 have hr := Rep.sl (φ := φ) (w := w.alloc (.cells (ns.map (Value.int .i64)).toArray t)) (ok := K) w.heap.size 0 cp 1 (ns.map i64E.enc) (ns.map (Value.int .i64)) hk (fun x hx => by
  obtain ⟨y,_,rfl⟩ := List.mem_map.1 hx; rfl) (by rw [List.length_map]; exact hcp) (key ns) (fun j u hj => by
   have := Ze6 w (.cells (ns.map (Value.int .i64)).toArray t) rfl
   simp only [World.cell?,this,Nat.zero_add]
   rw [List.getElem?_toArray]; exact hj)
 rw [List.length_map] at hr
 refine (h.call hr hc ⟨fun _ _ h => (by cases h),fun _ _ h => (by cases h)⟩).mono fun r w' hq => ?_
 obtain ⟨⟨q1,q2,q3,q4⟩,q5⟩ := hq
 have hz : (w.alloc (.cells (ns.map (Value.int .i64)).toArray t)).heap.size = w.heap.size + 1 := by simp
 exact ⟨q1,by omega,((Lo.refl S w).alloc hS _).trans q3,q4,fun c hc hn => (q5 c (by omega) hn).trans (Zaj _ _ hc)⟩
theorem Nst.slice (h : Nst P φ S e eI x v3 xs vout acc vrow w) : ∃ ad cp,vout = .slice ad xs.length cp := by
 obtain ⟨K,O,B,obr,h1,h2,_⟩ := h
 exact h2.slice
theorem Nst.first {y : Int} {ys : List Int} {rt : List (List Int)} (h : Nst P φ S e eI x v3 ((y :: ys) :: rt) vout acc vrow w) :
 ∃ b cap b0 o0 c0,vout = .slice (some ⟨b,0,none⟩) (rt.length + 1) cap ∧ w.cell? ⟨b,0,none⟩ = some (.slice (some ⟨b0,o0,none⟩) (ys.length + 1) c0) ∧ (∃ u,w.cell? ⟨b0,o0,none⟩ = some u) ∧ w.frozen? ⟨b0,o0,none⟩ = false ∧ S ≤ b0 ∧
   ∀ n,Nst P φ S e eI x v3 ((n :: ys) :: rt) vout acc vrow (w.setCell ⟨b0,o0,none⟩ (.int .i64 n)) := by
 obtain ⟨K,O,B,obr,h1,h2,h3,h4,h5,h6,h7,h8,h9⟩ := h
 obtain ⟨b,cap,b0,o0,c0,g1,g2,g3,g4,g5,_,g7⟩ := h2.first
 have hb0 := h5 b0 g5
 refine ⟨b,cap,b0,o0,c0,g1,g2,g3,g4,hb0.1,fun n => ?_⟩
 have hbk : ∀ q,q ≠ b0 → (w.setCell ⟨b0,o0,none⟩ (.int .i64 n)).heap[q]? = w.heap[q]? := fun q hq => Zan _ _ _ _ _ hq
 refine ⟨K,O,B,obr,?_,g7 n,h3.keep fun q hq => hbk q fun e => (h4 q hq).1 (e ▸ g5),fun q hq => by rw [Zaf]; exact h4 q hq,fun q hq => by rw [Zaf]; exact h5 q hq,fun q hq => by rw [Zaf]; exact h6 q hq,
  h7.on (fun _ h => h) fun q hq => hbk q fun e => hb0.2.2.1 (e ▸ hq),h8,by rw [Zaf]; exact h9⟩
 refine h1.keepW (fun q hq => hbk q fun e => hb0.2.2.1 (e ▸ hq)) fun q hq => ?_
 rw [List.mem_singleton] at hq; subst hq
 exact hbk _ fun e => hb0.2.2.2 e.symm
theorem Nst.fin (h : Nst P φ S e eI x v3 xs vout acc vrow w) : Rep φ w (fun b => S ≤ b ∧ b < w.heap.size) vout (.sl 1 (xs.map rowE2.enc)) := by
 obtain ⟨K,O,B,obr,h1,h2,h3,h4,h5,_⟩ := h
 exact h2.data fun b hb => ⟨(h5 b hb).1,(h5 b hb).2.1⟩
end
section
variable {P : Program} {φ : Nat → Nat}
theorem Nst.start {e eI : TypeId} {x : srcE.ty} {g : Nat} {a : A} (hc : CallOk P φ g [a] [.iob 3 [srcE.enc x]] []) {w : World} {K : Nat → Prop} {v : Value} (hr : Rep φ w K v a) (hK : ∀ b,K b → b < w.heap.size) (hG : Glob P K w) :
 Calls P (φ g) #[v] w fun r w' => ∃ p,r = .returned p ∧ Lo w.heap.size w w' ∧ Nst P φ w.heap.size e eI x p [] (.slice none 0 0) [] (.slice none 0 0) w' := by
 refine (hc w K [v] [] (Zfw (.cons _ _ _ _ hr .nil)) List.nodup_nil (fun _ h => by cases h) hK hG).mono fun r w' ⟨u,he,hb⟩ => ?_
 subst he
 obtain ⟨rvs,K',rb,ob,hv,k1,k2,hrr,ho,hnd,hbl⟩ := hb.rest
 have hfr : ∀ c,c < w.heap.size → w'.heap[c]? = w.heap[c]? := fun c hc => hb.frame c hc (by simp)
 cases hrr with
 | cons v0 _ b0 vs0 _ bs0 r1 r2 =>
 cases r2
 generalize hxx : [srcE.enc x] = xx at r1
 cases r1 with
 | data _ r3 => cases r3
 | iob _ x1 bs hq =>
   cases hxx
   have hq2 := hq
   generalize hx2 : srcE.enc x = x2 at hq2
   cases hq2 with
   | mk b o z _ vs bs h hv' hr' hz =>
     have key : ∀ {vs : List Value} {as : List A} {bs : List Nat},Zad φ w' K' vs as bs → (∀ z xs,A.own z xs ∉ as) → bs = [] := by
      intro vs as bs hcr
      induction hcr with
      | nil => intro _; rfl
      | cons v a b vs as bs h t ih =>
        intro hn
        rw [ih fun z xs hm => hn z xs (List.mem_cons_of_mem _ hm)]
        cases h with
        | data => rfl
        | own z xs b h => exact absurd (List.mem_cons_self ..) (hn z xs)
     obtain rfl := key h fun z xs hm => by
      obtain ⟨x1,x2,x3,⟨⟩⟩ := x
      rw [← hx2] at hm
      simp [ET.enc,CTs.enc,CT.enc,A.cells] at hm
     obtain ⟨c1,c2,c3⟩ := hbl b (by simp)
     have c4 : w.heap.size ≤ b := c3.resolve_left (by simp)
     refine ⟨_,by rw [hv]; rfl,⟨hb.grow,hfr,hb.env.1,hb.env.2⟩,K',fun _ => False,b,none,hq,.nil e none w',.empty none,fun b hb => (by cases hb),fun b hb => hb.elim,fun c hc => ⟨?_,fun e => c1 (e ▸ hc)⟩,hG.on k1 fun b hb => hfr b (hK b hb),c4,c2⟩
     rcases k2 c hc with h | h | h
     ·exact Nat.lt_of_lt_of_le (hK c h) hb.grow
     ·cases h
     ·exact h.2
end
def bpRow (pk : srcE.ty → Int → Option (Int × srcE.ty)) : Nat → srcE.ty → List Int → Option (srcE.ty × List Int)
 | 0,x,acc => some (x,acc)
 | n + 1,x,acc => (pk x 101).bind fun p => if 0 ≤ p.1 ∧ p.1 ≤ 1000 then bpRow pk n p.2 (acc ++ [10 * p.1]) else none
def bpRows (pk : srcE.ty → Int → Option (Int × srcE.ty)) : Nat → srcE.ty → List (List Int) → Option (srcE.ty × List (List Int))
 | 0,x,out => some (x,out)
 | n + 1,x,out => (pk x 4).bind fun p => if 0 ≤ p.1 ∧ p.1 ≤ 1000 then (bpRow pk (p.1.toNat + 1) p.2 []).bind fun q => bpRows pk n q.1 (out ++ [q.2]) else none
def bpF (pk : srcE.ty → Int → Option (Int × srcE.ty)) (am : srcE.ty → List Int → Option (Int × srcE.ty)) (x0 : srcE.ty) : Option (List (List Int)) :=
 (pk x0 5).bind fun k => if 0 ≤ k.1 ∧ k.1 ≤ 1000 then (bpRows pk (k.1.toNat + 1) k.2 []).bind fun r => (pk r.1 14).bind fun c =>
   if c.1 = 0 then (match r.2 with | (_ :: ys) :: rt => (am c.2 [-1,0,1000,1001]).bind fun q => some ((q.1 :: ys) :: rt) | _ => none)
   else if c.1 = 1 then some (r.2 ++ [[]])
   else if c.1 = 2 then (am c.2 [0,8,9]).bind fun q => if 0 ≤ q.1 ∧ q.1 ≤ 1000 then some (List.replicate q.1.toNat [7]) else none
   else some r.2 else none
structure Z6n (P : Program) (fn nf np na : Nat) : Prop where
 en : Entered P fn
 run : ∀ (φ : Nat → Nat) (gf gp ga : Nat) (pk : srcE.ty → Int → Option (Int × srcE.ty)) (am : srcE.ty → List Int → Option (Int × srcE.ty)),φ gf = nf → φ gp = np → φ ga = na →
  (∀ x n y x',pk x n = some (y,x') → CallOk P φ gp [.iob 3 [srcE.enc x],.int .i64 n] [.int .i64 y] [.iob 3 [srcE.enc x']]) →
  (∀ x ns y x',am x ns = some (y,x') → CallOk P φ ga [.iob 3 [srcE.enc x],.sl 1 (ns.map i64E.enc)] [.int .i64 y] [.iob 3 [srcE.enc x']]) →
  ∀ (x0 : srcE.ty) (ys : List (List Int)) (a : A),CallOk P φ gf [a] [.iob 3 [srcE.enc x0]] [] → bpF pk am x0 = some ys →
  ∀ (w : World) (K : Nat → Prop) (v : Value),Rep φ w K v a → (∀ b,K b → b < w.heap.size) → Glob P K w →
  Calls P fn #[v] w fun r w' => ∃ ad n cp,r = .returned (.slice ad n cp) ∧ Lo w.heap.size w w' ∧ Rep φ w' (fun b => w.heap.size ≤ b ∧ b < w'.heap.size) (.slice ad n cp) (.sl 1 (ys.map rowE2.enc))
section
variable {P : Program} {φ : Nat → Nat}
theorem CallOk.of_new {g : Nat} {as : List A} {a : A} (hn : as.any lentA = false)
 (h : ∀ (w : World) (K : Nat → Prop) (vs : List Value),Reps φ w K vs as → (∀ b,K b → b < w.heap.size) → Glob P K w →
   Calls P (φ g) vs.toArray w fun e w' => ∃ v,e = .returned v ∧ Lo w.heap.size w w' ∧ Rep φ w' (fun b => w.heap.size ≤ b ∧ b < w'.heap.size) v a) : CallOk P φ g as [a] [] := by
 intro w K vs bs ha hnd hKb hKz hG
 obtain ⟨hr,rfl⟩ := ha.noLent hn
 refine (h w K vs hr hKz hG).mono fun e w' hh => ?_
 obtain ⟨v,rfl,hb,h3⟩ := hh
 refine ⟨_,rfl,hb.size,fun b hb' _ => hb.block b hb',⟨hb.os,hb.output⟩,fun b off hb' => frozen?_block (hb.block b hb') off,fun b n hr => hr.of_block (hb.block b hr.lt),?_⟩
 exact ⟨[v],fun b => K b ∨ (w.heap.size ≤ b ∧ b < w'.heap.size),[],[],rfl,fun _ h => .inl h,fun _ h => h.elim .inl fun h => .inr (.inr h),
  ResReps.of_reps (.cons _ _ _ _ (h3.mono (fun _ _ => rfl) fun _ h => .inr h) .nil),OutReps.data_all ha.len hn,by simp,fun b hb' => by simp at hb'⟩
end
end Go.Ab
