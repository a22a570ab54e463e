/- Maps of rights. Conditions: none. -/
import Derived.Test.YtobkmdnplcmndaaGreatDoorLG
import Derived.Maps.Own
import Derived.Maps.OwnSet
set_option linter.unusedVariables false
set_option linter.unusedSimpArgs false
namespace Go.Ab
open Go.RowKit Go.Maps
def rlit (p : List UInt8 × Int) : Lit := .string (keyBytes [.string p.1,.int .i64 p.2])
def rval (p : List UInt8 × Int) : Value := .agg #[.string ⟨p.1.toArray⟩,.int .i64 p.2]
def rsm (p : List UInt8 × Int) : Prop := p.1.length ≤ 1048576 ∧ -1000000 ≤ p.2 ∧ p.2 ≤ 1000000
def RKeys (P : Program) (k : TypeId) : Prop := Keyed P k ∧ ∀ p,rsm p → keyOf P k (rval p) = some (rlit p)
theorem RKeys.inj {P : Program} {k : TypeId} (h : RKeys P k) {p q : List UInt8 × Int} (hp : rsm p) (hq : rsm q) (e : rlit p = rlit q) : p = q := by
 have h1 := h.2 p hp
 have h2 := h.2 q hq
 rw [← e] at h2
 have := h.1.inj h1 h2
 obtain ⟨o,a⟩ := p
 obtain ⟨o',a'⟩ := q
 simp only [rval,Value.agg.injEq,Array.mk.injEq,List.cons.injEq,Value.string.injEq,Value.int.injEq,and_true,true_and] at this
 obtain ⟨e1,e2⟩ := this
 have e1 : o.toArray = o'.toArray := by injection e1
 rw [show o = o' from by simpa using e1,e2]
def insR (S : List (List UInt8 × Int)) (p : List UInt8 × Int) : List (List UInt8 × Int) := if p ∈ S then S else S ++ [p]
def RMap (P : Program) (k e : TypeId) (w : World) (b n : Nat) (S : List (List UInt8 × Int)) : Prop :=
 ∃ D : DataW Unit,w.ownsMap P k (plainElem P e) b n D ∧ Tidy D ∧ S.Nodup ∧ (∀ p ∈ S,rsm p) ∧ Maps.size D = S.length ∧ ∀ p,rsm p → has D (rlit p) = decide (p ∈ S) ∧ D.atKey (rlit p) (.lit (.bool false)) = .lit (.bool (decide (p ∈ S)))
section
variable {P : Program} {k e : TypeId} {w : World} {b n : Nat} {S : List (List UInt8 × Int)}
theorem RMap.made (w : World) (P : Program) (k e : TypeId) : RMap P k e (w.alloc (.map #[] 0)) w.heap.size 0 [] :=
 ⟨.map [],World.ownsMap_made w P k _,tidy_empty,List.nodup_nil,fun p hp => (by cases hp),rfl,fun p _ => ⟨rfl,rfl⟩⟩
theorem RMap.lt (h : RMap P k e w b n S) : b < w.heap.size := by
 obtain ⟨D,h,_⟩ := h; exact h.lt
theorem RMap.keep {w' : World} (h : RMap P k e w b n S) (hb : w'.heap[b]? = w.heap[b]?) : RMap P k e w' b n S := by
 obtain ⟨D,⟨es,clock,h1,h2,h3,h4⟩,h5⟩ := h
 exact ⟨D,⟨es,clock,hb.trans h1,h2,h3,h4⟩,h5⟩
theorem RMap.put (K : RKeys P k) (h : RMap P k e w b n S) {p : List UInt8 × Int} (hp : rsm p) {w' : World} {D : DataW Unit} (hD : Tidy D) (hS : S.Nodup) (hs : ∀ p ∈ S,rsm p) (hz : Maps.size D = S.length)
 (ha : ∀ p,rsm p → has D (rlit p) = decide (p ∈ S) ∧ D.atKey (rlit p) (.lit (.bool false)) = .lit (.bool (decide (p ∈ S)))) {m : Nat} (hw : w'.ownsMap P k (plainElem P e) b m (D.put (rlit p) (.lit (.bool true)))) :
 RMap P k e w' b m (insR S p) := by
 have hk : WideAt.IsKeyLit (rlit p) := K.1.key (K.2 p hp)
 have hmem : ∀ q,q ∈ insR S p ↔ q = p ∨ q ∈ S := fun q => by
  unfold insR; split
  ·rename_i h; exact ⟨.inr,fun h2 => h2.elim (fun e => e ▸ h) id⟩
  ·simp [List.mem_append,or_comm]
 refine ⟨_,hw,hw.tidy K.1,?_,fun q hq => ?_,?_,fun q hq => ?_⟩
 ·unfold insR; split
  ·exact hS
  ·rename_i h
   rw [List.nodup_append]
   exact ⟨hS,by simp,fun a ha b hb e => by rw [List.mem_singleton] at hb; subst hb; subst e; exact h ha⟩
 ·rcases (hmem q).1 hq with rfl | h
  ·exact hp
  ·exact hs q h
 ·rw [size_put hD,(ha p hp).1]
  unfold insR
  by_cases h : p ∈ S
  ·simp [h,hz]
  ·simp [h,hz]
 ·by_cases e : q = p
  ·subst e
   have hq1 : q ∈ insR S q := (hmem q).2 (.inl rfl)
   rw [has_put_same hD.isMap hk,atKey_put_same hD.isMap hk]
   simp [hq1]
  ·have hne : rlit q ≠ rlit p := fun h => e (K.inj hq hp h)
   rw [has_put_other hne,atKey_put_other hne,(ha q hq).1,(ha q hq).2]
   have : decide (q ∈ insR S p) = decide (q ∈ S) := by simp [hmem,e]
   rw [this]
   exact ⟨rfl,rfl⟩
theorem RMap.len (h : RMap P k e w b n S) {t : TypeId} (ht : P.underlying t = some (.map k e)) (ty : TypeId) : (Builtin.len_ #[t] ty #[.map (some b)]).run P w = .ok (.int .i64 S.length) w := by
 obtain ⟨D,h1,_,_,_,hz,_⟩ := h
 rw [h1.len ht,hz]
theorem RMap.look (K : RKeys P k) (h : RMap P k e w b n S) {t : TypeId} (ht : P.underlying t = some (.map k e)) (he : P.underlying e = some .bool) (hz : (zeroValue e).run P w = .ok (.bool false) w) {p : List UInt8 × Int} (hp : rsm p) :
 (Instr.lookup t (.map (some b)) (rval p) false).run P w = .ok (.bool (decide (p ∈ S))) w := by
 obtain ⟨D,h1,_,_,_,_,ha⟩ := h
 obtain ⟨v,ps,hr,hv⟩ := h1.lookup K.1 ht hz (plainElem_bool he false) (K.2 p hp)
 rw [(ha p hp).2] at hv
 rw [hr]
 unfold plainElem at hv
 rw [he] at hv
 split at hv <;> first | (simp at hv; done) | skip
 ·rename_i x _ _
  simp only [Option.some.injEq,Prod.mk.injEq,DataW.lit.injEq,Lit.bool.injEq] at hv
  rw [hv.1]
 all_goals (rename_i e1 _; cases e1)
end
section
variable {P : Program}
theorem Z2w {w : World} {ops : Array Oper} {rest : List Oper} {o : Oper} {a : Act} {Q : Exit → Act → World → Prop} (hg : o.guard = none) (m x v : Operand) (t : TypeId) (hop : o.op = Op.mapUpdate t m x v) {k e : TypeId} (K : RKeys P k)
 (ht : P.underlying t = some (.map k e)) (he : P.underlying e = some .bool) {b n : Nat} {S : List (List UInt8 × Int)} (hm : a.eval m = .map (some b)) (h : RMap P k e w b n S) (hn : n < maxLen) {p : List UInt8 × Int} (hp : rsm p) (hx : a.eval x = rval p)
 (hv : a.eval v = .bool true) (hK : ∀ w',RMap P k e w' b (n + 1) (insR S p) → w.grownBy w' (some b) → wpList P ops Q rest (a.put o.dst undef) w') : wpList P ops Q (o :: rest) a w := by
 obtain ⟨D,h1,h2,h3,h4,h5,h6⟩ := h
 exact wpList_mapUpdate_own w hg m x v t hop k e K.1 ht _ b n D hm h1 hn _ _ (rlit p) hx hv (K.2 p hp) (.lit (.bool true)) [] (plainElem_bool he true) fun w' hw hgr => hK w' (RMap.put K ⟨D,h1,h2,h3,h4,h5,h6⟩ hp h2 h3 h4 h5 h6 hw) hgr
end
section
variable {P : Program} {φ : Nat → Nat}
def encT (s : List UInt8) : Value := .string ⟨s.toArray⟩
theorem Zxc {w : World} {K : Nat → Prop} {ys : List (List UInt8)} : ∀ {vs : List Value},Reps φ w K vs ((ys.map strE.enc).flatMap A.cells) → vs = ys.map encT := by
 induction ys with
 | nil => intro vs h; cases h; rfl
 | cons y ys ih =>
   intro vs h
   have h' : Reps φ w K vs (.str y :: (ys.map strE.enc).flatMap A.cells) := h
   cases h' with
   | cons v a vs as h t =>
     cases h
     rw [ih t]; rfl
theorem Zuk {w : World} {K : Nat → Prop} : ∀ ys : List (List UInt8),Reps φ w K (ys.map encT) ((ys.map strE.enc).flatMap A.cells)
 | [] => .nil
 | y :: ys => .cons _ _ _ _ (.str _) (Zuk ys)
theorem Zj8 {w : World} {b o cap : Nat} {ys : List (List UInt8)} (hc : ys.length ≤ cap) (hv : Cells w b o (ys.map encT)) : Rep φ w (fun c => c = b) (.slice (some ⟨b,o,none⟩) ys.length cap) (.sl 1 (ys.map strE.enc)) := by
 have := Rep.sl (φ := φ) (w := w) (ok := fun c => c = b) b o cap 1 (ys.map strE.enc) (ys.map encT) rfl (fun x hx => by obtain ⟨y,_,rfl⟩ := List.mem_map.1 hx; rfl) (by rw [List.length_map]; exact hc) (Zuk ys) hv
 rw [List.length_map] at this
 exact this
theorem Z82 {w : World} {v : Value} {xs : List (List UInt8)} {ob : Option Nat} (h : OwnRep φ w (fun _ => False) v 1 (xs.map strE.enc) ob) {t e : TypeId} (ht : P.underlying t = some (.slice e)) {i : TypeInfo} (hi : P.info? e = some i) (hz : i.size = 1) {zv : Value} (hzv : i.zero = some zv)
 (hzs : zv.cells.size = 1) (hb : i.bytes ≤ 128) (hlim : xs.length + 1 < 1099511627776) {bu : Nat} {D : Array Value} {tu : TypeId} {x : List UInt8} (hu : w.heap[bu]? = some (.cells D tu)) (hx : D[0]? = some (.string ⟨x.toArray⟩)) (c : Nat) (ty : TypeId) :
 ∃ ad n cp w' bq,(Builtin.append_ #[t,t] ty #[v,.slice (some ⟨bu,0,none⟩) 1 c]).run P w = .ok (.slice ad n cp) w' ∧ w.heap.size ≤ w'.heap.size ∧ w'.os = w.os ∧ w'.output = w.output ∧
   (∀ q,q < w.heap.size → ob ≠ some q → w'.heap[q]? = w.heap[q]?) ∧ (ob = some bq ∨ w.heap.size ≤ bq) ∧ bq < w'.heap.size ∧ Rep φ w' (fun b => b = bq) (.slice ad n cp) (.sl 1 ((xs ++ [x]).map strE.enc)) := by
 have hs : Src P i.size t (.slice (some ⟨bu,0,none⟩) 1 c) 1 [encT x] w := Src.ofSlice w ht ⟨bu,0,none⟩ 1 c [encT x] (by rw [hz]; rfl) (fun j u hj => by
  match j,hj with
  | 0,hj => cases hj; rw [World.cell?_add]; simp [World.cell?,hu,hx,encT]) (fun u hu => by
  rw [List.mem_singleton] at hu; subst hu; rfl)
 have hfit : ∀ c,c < xs.length + 1 → Builtin.nextslicecap (xs.length + 1) c * i.bytes ≤ 281474976710656 := fun c hc =>
  growslice_fits hc (by have := Nat.mul_le_mul (show xs.length + 1 ≤ 1099511627776 by omega) hb; omega)
 have grow : ∀ {base : Option Addr} {c0 : Nat},c0 < xs.length + 1 → (Builtin.firstCells i.size xs.length (.slice base xs.length c0)).run P w.drew = .ok (xs.map encT).toArray w.drew →
  ∃ ad n cp w' bq,(Builtin.append_ #[t,t] ty #[.slice base xs.length c0,.slice (some ⟨bu,0,none⟩) 1 c]).run P w = .ok (.slice ad n cp) w' ∧ w.heap.size ≤ w'.heap.size ∧ w'.os = w.os ∧ w'.output = w.output ∧
    (∀ q,q < w.heap.size → ob ≠ some q → w'.heap[q]? = w.heap[q]?) ∧ (ob = some bq ∨ w.heap.size ≤ bq) ∧ bq < w'.heap.size ∧ Rep φ w' (fun b => b = bq) (.slice ad n cp) (.sl 1 ((xs ++ [x]).map strE.enc)) := by
  intro base c0 hlt hold
  have hl : (xs.map encT).length = xs.length := List.length_map _
  have hrun := run_append_grow_src (P := P) w t t ty e i zv ht hi hzv base xs.length c0 (xs.map encT) hold (.slice (some ⟨bu,0,none⟩) 1 c) 1 [encT x] hs hlt (by omega) (hfit c0 hlt)
  have hge := grownCap_ge w (xs.length + 1) c0 e
  have hz1 : (w.drew.alloc (.cells (((xs.map encT) ++ [encT x]).toArray ++ Builtin.zeroCells zv.cells (grownCap w (xs.length + 1) c0 e - (xs.length + 1))) e)).heap.size = w.heap.size + 1 := by
   show (w.heap.push _).size = _
   simp
  refine ⟨_,_,_,_,w.heap.size,hrun,by rw [hz1]; omega,rfl,rfl,fun q hq _ => ?_,.inr (Nat.le_refl _),by rw [hz1]; omega,?_⟩
  ·show (w.heap.push _)[q]? = _
   rw [Array.getElem?_push_lt hq,Array.getElem?_eq_getElem hq]
  ·have := Zj8 (φ := φ) (w := w.drew.alloc (.cells (((xs.map encT) ++ [encT x]).toArray ++ Builtin.zeroCells zv.cells (grownCap w (xs.length + 1) c0 e - (xs.length + 1))) e)) (b := w.heap.size) (o := 0) (cap := grownCap w (xs.length + 1) c0 e) (ys := xs ++ [x]) (by rw [List.length_append]; exact hge) (fun j u hj => by
    have hj2 : j < (xs.map encT ++ [encT x]).length := by
     rcases Nat.lt_or_ge j (xs.map encT ++ [encT x]).length with h | h
     ·exact h
     ·rw [List.map_append] at hj
      have : (xs.map encT ++ List.map encT [x])[j]? = none := List.getElem?_eq_none h
      rw [this] at hj; cases hj
    have hb2 : (w.drew.alloc (.cells (((xs.map encT) ++ [encT x]).toArray ++ Builtin.zeroCells zv.cells (grownCap w (xs.length + 1) c0 e - (xs.length + 1))) e)).heap[w.heap.size]? = some (.cells (((xs.map encT) ++ [encT x]).toArray ++ Builtin.zeroCells zv.cells (grownCap w (xs.length + 1) c0 e - (xs.length + 1))) e) :=
     Array.getElem?_push_size
    simp only [World.cell?,hb2,Nat.zero_add]
    rw [Array.getElem?_append_left (by simpa using hj2)]
    rw [List.map_append] at hj
    rw [List.getElem?_toArray]
    exact hj)
   rw [List.length_append] at this
   exact this
 generalize hys : xs.map strE.enc = ys at h
 have hyl : ys.length = xs.length := by rw [← hys,List.length_map]
 cases h with
 | empty ad z =>
   obtain rfl : xs = [] := List.eq_nil_of_length_eq_zero (by rw [← hyl]; rfl)
   refine grow (base := ad) (c0 := 0) (by simp) ?_
   cases ad with
   | none => exact run_firstCells_none w.drew i.size 0 0 0
   | some ad => exact run_firstCells_some w.drew i.size 0 ad 0 0 [] (by simp) (fun j u h => by simp at h)
 | mk b o cap z _ vs hc h0 hzz hr hv hroom =>
   subst hys
   obtain rfl := Zxc hr
   rw [hyl] at hc ⊢
   by_cases hfull : xs.length + 1 ≤ cap
   ·have hcell := hroom.cell (j := o + xs.length) (by omega)
    have hrun := run_append_room_src (P := P) w t t ty e i ht hi b o xs.length cap (.slice (some ⟨bu,0,none⟩) 1 c) 1 [encT x] hs hfull (fun j hj => by
     have hj0 : j = 0 := by simpa using hj
     subst hj0
     rw [hz,Nat.mul_one,Nat.add_zero]; exact hcell.1) (fun j hj => by
     obtain ⟨C,e',fr,a1,a2,a3⟩ := hroom
     by_cases hlt : o + xs.length * i.size + j < C.size
     ·exact a3 _ (.inl hlt)
     ·simp only [List.length_singleton] at hj
      rw [hz,Nat.mul_one] at hlt ⊢
      have : j = 0 := by omega
      subst this
      omega)
    have hset : w.setCells b (o + xs.length * i.size) [encT x] = w.setCell ⟨b,o + xs.length,none⟩ (encT x) := by
     rw [hz,Nat.mul_one]; rfl
    rw [hset] at hrun
    refine ⟨_,_,_,_,b,hrun,by rw [Zae]; exact Nat.le_refl _,rfl,rfl,fun q hq hne => Zap _ _ _ _ _ (fun e => hne (by rw [e])),.inl rfl,by rw [Zae]; exact hroom.lt,?_⟩
    have := Zj8 (φ := φ) (w := w.setCell ⟨b,o + xs.length,none⟩ (encT x)) (b := b) (o := o) (cap := cap) (ys := xs ++ [x]) (by rw [List.length_append]; exact hfull) (fun j u hj => by
     rw [List.map_append,List.getElem?_append] at hj
     split at hj
     ·rename_i hjl
      rw [List.length_map] at hjl
      rw [World.cell?_setCell_other _ _ _ _ (by simp <;> omega)]
      exact hv j u hj
     ·rename_i hjl
      rw [List.length_map] at hj hjl
      have hj0 : j = xs.length := by
       rcases Nat.lt_or_ge (j - xs.length) 1 with h | h
       ·omega
       ·rw [List.getElem?_eq_none (by simpa using h)] at hj; cases hj
      subst hj0
      rw [Nat.sub_self] at hj
      cases hj
      exact World.cell?_setCell_same' _ _ _ hcell.1)
    rw [List.length_append] at this
    exact this
   ·refine grow (base := some ⟨b,o,none⟩) (c0 := cap) (by omega) ?_
    exact run_firstCells_some w.drew i.size xs.length ⟨b,o,none⟩ xs.length cap (xs.map encT) (by rw [hz,Nat.mul_one,List.length_map]) (fun j u hj => by
     rw [World.cell?_add]
     exact hv j u hj)
end
section
variable {P : Program} {φ : Nat → Nat}
theorem Zxj {E : ET} {z : Nat} {w : World} {K : Nat → Prop} {v : Value} {xs : List E.ty} (h : Rep φ w K v (.sl z (xs.map E.enc))) :
 (∃ ad cp,v = .slice ad xs.length cp) ∧ ∀ (i : Nat) (x : E.ty),xs[i]? = some x → ∃ b o cap vs,v = .slice (some ⟨b,o,none⟩) xs.length cap ∧ K b ∧ Reps φ w K vs (E.enc x).cells ∧ Cells w b (o + i * z) vs := by
 generalize hy : xs.map E.enc = ys at h
 cases h with
 | slE ad c z =>
   obtain rfl : xs = [] := by cases xs with | nil => rfl | cons => simp at hy
   exact ⟨⟨_,_,rfl⟩,fun i x h => by simp at h⟩
 | sl b o cap z _ vs hb hz hc hr hv =>
   subst hy
   refine ⟨⟨_,_,by rw [List.length_map]⟩,fun i x hi => ?_⟩
   refine ⟨b,o,cap,(vs.drop (i * z)).take (E.enc x).cells.length,by rw [List.length_map],hb,?_,(hv.drop _).take _⟩
   have h1 := (hr.drop (i * z)).take (E.enc x).cells.length
   rw [← Zcu hz] at h1
   have hil : i < xs.length := by
    rcases Nat.lt_or_ge i xs.length with h | h
    ·exact h
    ·rw [List.getElem?_eq_none h] at hi; cases hi
   have hx : xs[i] = x := by rw [List.getElem?_eq_getElem hil] at hi; exact Option.some.inj hi
   rw [← List.map_drop,List.drop_eq_getElem_cons hil,List.map_cons,List.flatMap_cons,hx,List.take_left] at h1
   exact h1
@[reducible] def grantE : ET := .agg (.cons .str (.cons .str (.cons (.int .i64) .nil)))
@[reducible] def roleE : ET := .agg (.cons .str (.cons (.sl strE) .nil))
theorem Z7b {w : World} {K : Nat → Prop} {v : Value} {xs : List grantE.ty} (h : Rep φ w K v (.sl 3 (xs.map grantE.enc))) :
 (∃ ad cp,v = .slice ad xs.length cp) ∧ ∀ (i : Nat) (x : grantE.ty),xs[i]? = some x → ∃ b o cap,v = .slice (some ⟨b,o,none⟩) xs.length cap ∧ K b ∧
   w.cell? ⟨b,o + i * 3,none⟩ = some (encT x.1) ∧ w.cell? ⟨b,o + i * 3 + 1,none⟩ = some (encT x.2.1) ∧ w.cell? ⟨b,o + i * 3 + 2,none⟩ = some (.int .i64 x.2.2.1) := by
 obtain ⟨h1,h2⟩ := Zxj h
 refine ⟨h1,fun i x hi => ?_⟩
 obtain ⟨b,o,cap,vs,e1,e2,e3,e4⟩ := h2 i x hi
 obtain ⟨x1,x2,x3,⟨⟩⟩ := x
 have e3' : Reps φ w K vs [.str x1,.str x2,.int .i64 x3] := e3
 cases e3' with
 | cons v1 _ vs1 _ r1 t1 =>
 cases t1 with
 | cons v2 _ vs2 _ r2 t2 =>
 cases t2 with
 | cons v3 _ vs3 _ r3 t3 =>
 cases t3; cases r1; cases r2; cases r3
 exact ⟨b,o,cap,e1,e2,e4 0 _ rfl,e4 1 _ rfl,e4 2 _ rfl⟩
theorem Z8c {w : World} {K : Nat → Prop} {v : Value} {xs : List roleE.ty} (h : Rep φ w K v (.sl 2 (xs.map roleE.enc))) :
 (∃ ad cp,v = .slice ad xs.length cp) ∧ ∀ (i : Nat) (x : roleE.ty),xs[i]? = some x → ∃ b o cap u,v = .slice (some ⟨b,o,none⟩) xs.length cap ∧ K b ∧
   w.cell? ⟨b,o + i * 2,none⟩ = some (encT x.1) ∧ w.cell? ⟨b,o + i * 2 + 1,none⟩ = some u ∧ Rep φ w K u (.sl 1 (x.2.1.map strE.enc)) := by
 obtain ⟨h1,h2⟩ := Zxj h
 refine ⟨h1,fun i x hi => ?_⟩
 obtain ⟨b,o,cap,vs,e1,e2,e3,e4⟩ := h2 i x hi
 obtain ⟨x1,x2,⟨⟩⟩ := x
 have e3' : Reps φ w K vs [.str x1,.sl 1 (x2.map strE.enc)] := e3
 cases e3' with
 | cons v1 _ vs1 _ r1 t1 =>
 cases t1 with
 | cons v2 _ vs2 _ r2 t2 =>
 cases t2; cases r1
 exact ⟨b,o,cap,v2,e1,e2,e4 0 _ rfl,e4 1 _ rfl,r2⟩
end
def actsR (o : List UInt8) : Nat → Int → List (List UInt8 × Int) → List (List UInt8 × Int)
 | 0,_,S => S
 | n + 1,a,S => actsR o n (a + 1) (insR S (o,a))
def rtG (ct : List (List UInt8) → List UInt8 → Option Bool) (ns : List (List UInt8)) : List grantE.ty → List (List UInt8 × Int) → Option (List (List UInt8 × Int))
 | [],S => some S
 | g :: gs,S => if g.2.1.length ≤ 1048576 ∧ g.2.2.1 ≤ 1000 then (ct ns g.1).bind fun b => rtG ct ns gs (if b then actsR g.2.1 g.2.2.1.toNat 1 S else S) else none
def rtF (un : List roleE.ty → List UInt8 → Option (List (List UInt8))) (ct : List (List UInt8) → List UInt8 → Option Bool) (roles : List roleE.ty) (grants : List grantE.ty) (nm : List UInt8) : Option (List (List UInt8 × Int)) :=
 if grants.length ≤ 1000 then (un roles nm).bind fun ns => if ns.length ≤ 1000000 then rtG ct (ns ++ [nm]) grants [] else none else none
structure Z3w (P : Program) (fn nu nc : Nat) (tK tB : TypeId) : Prop where
 keys : RKeys P tK
 run : ∀ (φ : Nat → Nat) (gu gc : Nat) (un : List roleE.ty → List UInt8 → Option (List (List UInt8))) (ct : List (List UInt8) → List UInt8 → Option Bool),φ gu = nu → φ gc = nc →
  (∀ r n y,un r n = some y → CallOk P φ gu [.sl 2 (r.map roleE.enc),.str n] [.tok 0 1 (y.map strE.enc)] []) →
  (∀ l x y,ct l x = some y → CallOk P φ gc [.sl 1 (l.map strE.enc),.str x] [.bool y] []) →
  ∀ (roles : List roleE.ty) (grants : List grantE.ty) (nm : List UInt8) (S : List (List UInt8 × Int)),rtF un ct roles grants nm = some S →
  ∀ (w : World) (K : Nat → Prop) (vr vg : Value),Rep φ w K vr (.sl 2 (roles.map roleE.enc)) → Rep φ w K vg (.sl 3 (grants.map grantE.enc)) → (∀ b,K b → b < w.heap.size) → Glob P K w →
  Calls P fn #[vr,vg,encT nm] w fun r w' => ∃ b n,r = .returned (.map (some b)) ∧ Lo w.heap.size w w' ∧ w.heap.size ≤ b ∧ RMap P tK tB w' b n S
def cmpF (un : List roleE.ty → List UInt8 → Option (List (List UInt8))) (ct : List (List UInt8) → List UInt8 → Option Bool) (x : roleE.ty) (roles : List roleE.ty) (a b : List grantE.ty) : Option Bool :=
 (rtF un ct roles a x.1).bind fun S => (rtF un ct roles b x.1).bind fun T => some ((S.length : Int) != (T.length : Int))
structure CmpWalk (P : Program) (fn nu nc : Nat) : Prop where
 en : Entered P fn
 run : ∀ (φ : Nat → Nat) (gu gc : Nat) (un : List roleE.ty → List UInt8 → Option (List (List UInt8))) (ct : List (List UInt8) → List UInt8 → Option Bool),φ gu = nu → φ gc = nc →
  (∀ r n y,un r n = some y → CallOk P φ gu [.sl 2 (r.map roleE.enc),.str n] [.tok 0 1 (y.map strE.enc)] []) →
  (∀ l x y,ct l x = some y → CallOk P φ gc [.sl 1 (l.map strE.enc),.str x] [.bool y] []) →
  ∀ (x : roleE.ty) (roles : List roleE.ty) (a b : List grantE.ty) (y : Bool),cmpF un ct x roles a b = some y →
  ∀ (w : World) (K : Nat → Prop) (v vr va vb : Value) (b1 o1 b2 o2 b3 o3 : Nat),Rep φ w K v (roleE.enc x) → Rep φ w K vr (.sl 2 (roles.map roleE.enc)) → Rep φ w K va (.sl 3 (a.map grantE.enc)) → Rep φ w K vb (.sl 3 (b.map grantE.enc)) →
    K b1 → w.cell? ⟨b1,o1,none⟩ = some vr → K b2 → w.cell? ⟨b2,o2,none⟩ = some va → K b3 → w.cell? ⟨b3,o3,none⟩ = some vb → (∀ b,K b → b < w.heap.size) → Glob P K w →
  Calls P fn #[v,.pointer (some ⟨b1,o1,none⟩),.pointer (some ⟨b2,o2,none⟩),.pointer (some ⟨b3,o3,none⟩)] w fun r w' => r = .returned (.bool y) ∧ Lo w.heap.size w w'
section
variable {P : Program} {φ : Nat → Nat}
theorem WeakL.refl : ∀ l : List A,WeakL l l
 | [] => .nil
 | a :: l => .cons _ _ _ _ (.refl a) (WeakL.refl l)
theorem ptr_inv {w : World} {K : Nat → Prop} {v : Value} {a : A} (h : Rep φ w K v (.ptr [a] 0)) : ∃ b o u,v = .pointer (some ⟨b,o,none⟩) ∧ K b ∧ w.cell? ⟨b,o,none⟩ = some u ∧ Rep φ w K u a := by
 generalize hc : (0 : Nat) = c at h
 generalize hl : [a] = l at h
 cases h with
 | ptr b o c cs vs hb h hv =>
   subst hc hl
   cases h with
   | cons u _ us _ h t =>
     cases t
     exact ⟨b,o,u,rfl,hb,hv 0 _ rfl,h⟩
end
@[reducible] def rightE : ET := .agg (.cons .str (.cons (.int .i64) .nil))
def rightP (x : rightE.ty) : List UInt8 × Int := (x.1,x.2.1)
def rwG (un : List roleE.ty → List UInt8 → Option (List (List UInt8))) (ct : List (List UInt8) → List UInt8 → Option Bool) (roles : List roleE.ty) (grants : List grantE.ty) (rs : List (List UInt8 × Int)) : List roleE.ty → List (List UInt8) → Option (List (List UInt8))
 | [],out => some out
 | r :: rest,out => (rtF un ct roles grants r.1).bind fun S => rwG un ct roles grants rs rest (if rs.all (fun p => decide (p ∈ S)) then out ++ [r.1] else out)
def rwF (un : List roleE.ty → List UInt8 → Option (List (List UInt8))) (ct : List (List UInt8) → List UInt8 → Option Bool) (roles : List roleE.ty) (grants : List grantE.ty) (rs : List rightE.ty) : Option (List (List UInt8)) :=
 if roles.length ≤ 1000 ∧ rs.length ≤ 1000 ∧ (rs.all fun x => decide (x.1.length ≤ 1048576 ∧ -1000000 ≤ x.2.1 ∧ x.2.1 ≤ 1000000)) = true then rwG un ct roles grants (rs.map rightP) roles [] else none
noncomputable def rwC (un : List roleE.ty → List UInt8 → Option (List (List UInt8))) (ct : List (List UInt8) → List UInt8 → Option Bool) : Callee :=
 { io := [],ps := [.d (.one (.sl roleE)),.d (.one (.sl grantE)),.d (.one (.sl rightE))],rs := [.d (.one (.sl strE))],os := [],f := fun x => rwF un ct x.1 x.2.1 x.2.2.1 }
structure Zrb (P : Program) (fn nu nc : Nat) : Prop where
 en : Entered P fn
 run : ∀ (φ : Nat → Nat) (gu gc : Nat) (un : List roleE.ty → List UInt8 → Option (List (List UInt8))) (ct : List (List UInt8) → List UInt8 → Option Bool),φ gu = nu → φ gc = nc →
  (∀ r n y,un r n = some y → CallOk P φ gu [.sl 2 (r.map roleE.enc),.str n] [.tok 0 1 (y.map strE.enc)] []) →
  (∀ l x y,ct l x = some y → CallOk P φ gc [.sl 1 (l.map strE.enc),.str x] [.bool y] []) →
  ∀ (roles : List roleE.ty) (grants : List grantE.ty) (rs : List rightE.ty) (ys : List (List UInt8)),rwF un ct roles grants rs = some ys →
  ∀ (w : World) (K : Nat → Prop) (vr vg vs : Value),Rep φ w K vr (.sl 2 (roles.map roleE.enc)) → Rep φ w K vg (.sl 3 (grants.map grantE.enc)) → Rep φ w K vs (.sl 2 (rs.map rightE.enc)) → (∀ b,K b → b < w.heap.size) → Glob P K w →
  Calls P fn #[vr,vg,vs] w fun r w' => ∃ ad n cp,r = .returned (.slice ad n cp) ∧ Lo w.heap.size w w' ∧ Rep φ w' (fun b => w.heap.size ≤ b ∧ b < w'.heap.size) (.slice ad n cp) (.sl 1 (ys.map strE.enc))
section
variable {P : Program} {φ : Nat → Nat}
theorem Z62 {w : World} {K : Nat → Prop} {v : Value} {xs : List rightE.ty} (h : Rep φ w K v (.sl 2 (xs.map rightE.enc))) :
 (∃ ad cp,v = .slice ad xs.length cp) ∧ ∀ (i : Nat) (x : rightE.ty),xs[i]? = some x → ∃ b o cap,v = .slice (some ⟨b,o,none⟩) xs.length cap ∧ K b ∧
   w.cell? ⟨b,o + i * 2,none⟩ = some (encT x.1) ∧ w.cell? ⟨b,o + i * 2 + 1,none⟩ = some (.int .i64 x.2.1) := by
 obtain ⟨h1,h2⟩ := Zxj h
 refine ⟨h1,fun i x hi => ?_⟩
 obtain ⟨b,o,cap,vs,e1,e2,e3,e4⟩ := h2 i x hi
 obtain ⟨x1,x2,⟨⟩⟩ := x
 have e3' : Reps φ w K vs [.str x1,.int .i64 x2] := e3
 cases e3' with
 | cons v1 _ vs1 _ r1 t1 =>
 cases t1 with
 | cons v2 _ vs2 _ r2 t2 =>
 cases t2; cases r1; cases r2
 exact ⟨b,o,cap,e1,e2,e4 0 _ rfl,e4 1 _ rfl⟩
theorem VOwn.textsD {e : TypeId} {w : World} {v : Value} {xs : List (List UInt8)} {ob : Option Nat} (h : VOwn w e v (xs.map encT) ob) {K : Nat → Prop} (hK : ∀ b,ob = some b → K b) : Rep φ w K v (.sl 1 (xs.map strE.enc)) := by
 generalize hys : xs.map encT = ys at h
 cases h with
 | empty ad =>
   obtain rfl : xs = [] := by cases xs with | nil => rfl | cons => simp at hys
   exact .slE ad 0 1
 | mk b cap C vs hC hsz hle h0 hcs =>
   subst hys
   rw [List.length_map] at hle ⊢
   refine (Zj8 hle fun j u hj => ?_).mono (fun _ _ => rfl) fun c hc => by subst hc; exact hK _ rfl
   have hjl : j < (xs.map encT).length := by
    rcases Nat.lt_or_ge j (xs.map encT).length with h | h
    ·exact h
    ·rw [List.getElem?_eq_none h] at hj; cases hj
   have := hcs j hjl
   simp only [World.cell?,hC,Nat.zero_add]
   simp [this,hj]
theorem Z0d {un : List roleE.ty → List UInt8 → Option (List (List UInt8))} {ct : List (List UInt8) → List UInt8 → Option Bool} {fn nu nc g gu gc : Nat} (L : Zrb P fn nu nc) (hφ : [g,gu,gc].map φ = [fn,nu,nc])
 (ou : ∀ r n y,un r n = some y → CallOk P φ gu [.sl 2 (r.map roleE.enc),.str n] [.tok 0 1 (y.map strE.enc)] [])
 (oc : ∀ l x y,ct l x = some y → CallOk P φ gc [.sl 1 (l.map strE.enc),.str x] [.bool y] []) : FOk P φ g (rwC un ct) := by
 simp only [List.map_cons,List.map_nil,List.cons.injEq,and_true] at hφ
 obtain ⟨h1,h2,h3⟩ := hφ
 refine FOk.of_contract (by rw [h1]; exact L.en) rfl rfl fun x y hy => ?_
 obtain ⟨r,a,b,⟨⟩⟩ := x
 have e1 : encU (rwC un ct).ps (r,a,b,()) = [.sl 2 ((show List roleE.ty from r).map roleE.enc),.sl 3 ((show List grantE.ty from a).map grantE.enc),.sl 2 ((show List rightE.ty from b).map rightE.enc)] := by
  have q2 : ((ET.one (.sl roleE)).v r).a = (ET.one (.sl roleE)).enc r := ET.v_a _ _
  have q3 : ((ET.one (.sl grantE)).v a).a = (ET.one (.sl grantE)).enc a := ET.v_a _ _
  have q4 : ((ET.one (.sl rightE)).v b).a = (ET.one (.sl rightE)).enc b := ET.v_a _ _
  show [((ET.one (.sl roleE)).v r).a,((ET.one (.sl grantE)).v a).a,((ET.one (.sl rightE)).v b).a] = _
  rw [q2,q3,q4]
  rfl
 have e2 : resA (rwC un ct) y = ([.sl 1 ((show List (List UInt8) from y).map strE.enc)],[]) := by
  have q : ((ET.one (.sl strE)).v (show List (List UInt8) from y)).a = (ET.one (.sl strE)).enc (show List (List UInt8) from y) := ET.v_a _ _
  exact congrArg (fun z => (([z] : List A),([] : List A))) q
 have e3 := congrArg (fun z => CallOk P φ g z (resA (rwC un ct) y).1 (resA (rwC un ct) y).2) e1
 refine e3.mpr ?_
 rw [e2]
 refine CallOk.of_new rfl fun w K vs hr hK hG => ?_
 cases hr with
 | cons v _ vs _ hv t =>
 cases t with
 | cons v2 _ vs2 _ hv2 t2 =>
 cases t2 with
 | cons v3 _ vs3 _ hv3 t3 =>
 cases t3
 have := L.run φ gu gc un ct h2 h3 ou oc r a b y hy w K v v2 v3 hv hv2 hv3 hK hG
 rw [h1]
 exact this.mono fun e w' hq => by
  obtain ⟨ad,n,cp,q1,q2,q3⟩ := hq
  exact ⟨_,q1,q2,q3⟩
end
inductive VOwn2 (w : World) (e : TypeId) : Value → List (Value × Value) → Option Nat → Prop where
 | empty (ad : Option Addr) : VOwn2 w e (.slice ad 0 0) [] none
 | mk (b cap : Nat) (C : Array Value) (ps : List (Value × Value)) : w.heap[b]? = some (.cells C e) → C.size = cap * 2 → ps.length ≤ cap → cap ≠ 0 → (∀ j p,ps[j]? = some p → C[2 * j]? = some p.1 ∧ C[2 * j + 1]? = some p.2) →
   VOwn2 w e (.slice (some ⟨b,0,none⟩) ps.length cap) ps (some b)
def flat2 : List (Value × Value) → List Value
 | [] => []
 | p :: ps => p.1 :: p.2 :: flat2 ps
theorem Zob : ∀ ps : List (Value × Value),(flat2 ps).length = ps.length * 2
 | [] => rfl
 | p :: ps => by simp only [flat2,List.length_cons,Zob ps]; omega
theorem Zyi : ∀ (ps qs : List (Value × Value)),flat2 (ps ++ qs) = flat2 ps ++ flat2 qs
 | [],_ => rfl
 | p :: ps,qs => by simp only [List.cons_append,flat2,Zyi ps qs]
theorem Z0t : ∀ (ps : List (Value × Value)) (j : Nat) (p : Value × Value),ps[j]? = some p → (flat2 ps)[2 * j]? = some p.1 ∧ (flat2 ps)[2 * j + 1]? = some p.2
 | [],j,p,h => by simp at h
 | q :: ps,0,p,h => by cases h; exact ⟨rfl,rfl⟩
 | q :: ps,j + 1,p,h => by
   have := Z0t ps j p h
   exact this
theorem Zvi : ∀ (ps : List (Value × Value)) (f : Nat → Option Value),(∀ j p,ps[j]? = some p → f (2 * j) = some p.1 ∧ f (2 * j + 1) = some p.2) → ∀ j u,(flat2 ps)[j]? = some u → f j = some u
 | [],f,h,j,u,hj => by simp [flat2] at hj
 | q :: ps,f,h,0,u,hj => by cases hj; exact (h 0 q rfl).1
 | q :: ps,f,h,1,u,hj => by cases hj; exact (h 0 q rfl).2
 | q :: ps,f,h,j + 2,u,hj => Zvi ps (fun k => f (k + 2)) (fun k p hp => by
     have := h (k + 1) p hp
     exact ⟨by rw [← this.1]; congr 1,by rw [← this.2]; congr 1⟩) j u hj
section
variable {P : Program}
theorem VOwn2.slice {w : World} {e : TypeId} {v : Value} {ps : List (Value × Value)} {ob : Option Nat} (h : VOwn2 w e v ps ob) : ∃ ad cp,v = .slice ad ps.length cp := by
 cases h with
 | empty ad => exact ⟨_,_,rfl⟩
 | mk => exact ⟨_,_,rfl⟩
theorem VOwn2.lt {w : World} {e : TypeId} {v : Value} {ps : List (Value × Value)} {b : Nat} (h : VOwn2 w e v ps (some b)) : b < w.heap.size := by
 cases h with
 | mk b cap C ps hC _ _ _ _ =>
   rcases Nat.lt_or_ge b w.heap.size with h | h
   ·exact h
   ·rw [Array.getElem?_eq_none h] at hC; cases hC
theorem VOwn2.keep {w w' : World} {e : TypeId} {v : Value} {ps : List (Value × Value)} {ob : Option Nat} (h : VOwn2 w e v ps ob) (hs : ∀ b,ob = some b → w'.heap[b]? = w.heap[b]?) : VOwn2 w' e v ps ob := by
 cases h with
 | empty ad => exact .empty ad
 | mk b cap C ps hC h1 h2 h3 h4 => exact .mk b cap C ps ((hs b rfl).trans hC) h1 h2 h3 h4
theorem VOwn2.app {w : World} {e : TypeId} {v : Value} {ps : List (Value × Value)} {ob : Option Nat} (h : VOwn2 w e v ps ob) {t : TypeId} (ht : P.underlying t = some (.slice e)) {i : TypeInfo} (hi : P.info? e = some i) (hz : i.size = 2) {zv : Value} (hzv : i.zero = some zv) (hzs : zv.cells.size = 2)
 (hb : i.bytes ≤ 128) (hlim : ps.length + 1 < 1099511627776) {bu : Nat} {x y : Value} {tu : TypeId} (hu : w.heap[bu]? = some (.cells #[x,y] tu)) (h1 : x.oneCell' = true) (h2 : y.oneCell' = true) (c : Nat) (ty : TypeId) :
 ∃ ad n cp w' ob',(Builtin.append_ #[t,t] ty #[v,.slice (some ⟨bu,0,none⟩) 1 c]).run P w = .ok (.slice ad n cp) w' ∧ VOwn2 w' e (.slice ad n cp) (ps ++ [(x,y)]) ob' ∧ w.heap.size ≤ w'.heap.size ∧
   (∀ q,q < w.heap.size → ob ≠ some q → w'.heap[q]? = w.heap[q]?) ∧ (ob' = ob ∨ ∃ q,ob' = some q ∧ w.heap.size ≤ q ∧ q < w'.heap.size) ∧ w'.os = w.os ∧ w'.output = w.output := by
 have hs : Src P i.size t (.slice (some ⟨bu,0,none⟩) 1 c) 1 [x,y] w := Src.ofSlice w ht ⟨bu,0,none⟩ 1 c [x,y] (by rw [hz]; rfl) (fun j u hj => by
  match j,hj with
  | 0,hj => cases hj; rw [World.cell?_add]; simp [World.cell?,hu]
  | 1,hj => cases hj; rw [World.cell?_add]; simp [World.cell?,hu]) (fun u hu => by
  simp only [List.mem_cons,List.not_mem_nil,or_false] at hu
  rcases hu with rfl | rfl
  ·exact h1
  ·exact h2)
 have hfit : ∀ c,c < ps.length + 1 → Builtin.nextslicecap (ps.length + 1) c * i.bytes ≤ 281474976710656 := fun c hc =>
  growslice_fits hc (by have := Nat.mul_le_mul (show ps.length + 1 ≤ 1099511627776 by omega) hb; omega)
 have grow : ∀ {base : Option Addr} {c0 : Nat},c0 < ps.length + 1 → (Builtin.firstCells i.size ps.length (.slice base ps.length c0)).run P w.drew = .ok (flat2 ps).toArray w.drew →
  ∃ ad n cp w' ob',(Builtin.append_ #[t,t] ty #[.slice base ps.length c0,.slice (some ⟨bu,0,none⟩) 1 c]).run P w = .ok (.slice ad n cp) w' ∧ VOwn2 w' e (.slice ad n cp) (ps ++ [(x,y)]) ob' ∧ w.heap.size ≤ w'.heap.size ∧
    (∀ q,q < w.heap.size → ob ≠ some q → w'.heap[q]? = w.heap[q]?) ∧ (ob' = ob ∨ ∃ q,ob' = some q ∧ w.heap.size ≤ q ∧ q < w'.heap.size) ∧ w'.os = w.os ∧ w'.output = w.output := by
  intro base c0 hlt hold
  have hrun := run_append_grow_src (P := P) w t t ty e i zv ht hi hzv base ps.length c0 (flat2 ps) hold (.slice (some ⟨bu,0,none⟩) 1 c) 1 [x,y] hs hlt (by omega) (hfit c0 hlt)
  have hge := grownCap_ge w (ps.length + 1) c0 e
  have hz1 : (w.drew.alloc (.cells ((flat2 ps ++ [x,y]).toArray ++ Builtin.zeroCells zv.cells (grownCap w (ps.length + 1) c0 e - (ps.length + 1))) e)).heap.size = w.heap.size + 1 := by
   show (w.heap.push _).size = _
   simp
  refine ⟨_,_,_,_,some w.heap.size,hrun,?_,by rw [hz1]; omega,fun q hq _ => ?_,.inr ⟨w.heap.size,rfl,Nat.le_refl _,by rw [hz1]; omega⟩,rfl,rfl⟩
  ·have hsz : ((flat2 ps ++ [x,y]).toArray ++ Builtin.zeroCells zv.cells (grownCap w (ps.length + 1) c0 e - (ps.length + 1))).size = grownCap w (ps.length + 1) c0 e * 2 := by
    rw [Array.size_append,size_zeroCells,hzs]
    simp only [List.size_toArray,List.length_append,List.length_cons,List.length_nil,Zob]
    omega
   have := VOwn2.mk (w := w.drew.alloc (.cells ((flat2 ps ++ [x,y]).toArray ++ Builtin.zeroCells zv.cells (grownCap w (ps.length + 1) c0 e - (ps.length + 1))) e)) (e := e) w.heap.size (grownCap w (ps.length + 1) c0 e) _ (ps ++ [(x,y)])
    Array.getElem?_push_size hsz (by rw [List.length_append]; exact hge) (by omega) (fun j p hj => by
     have hjl : j < (ps ++ [(x,y)]).length := by
      rcases Nat.lt_or_ge j (ps ++ [(x,y)]).length with h | h
      ·exact h
      ·rw [List.getElem?_eq_none h] at hj; cases hj
     have hfl : (flat2 ps ++ [x,y]) = flat2 (ps ++ [(x,y)]) := by rw [Zyi]; rfl
     rw [hfl]
     have hl2 := Zob (ps ++ [(x,y)])
     rw [Array.getElem?_append_left (by simp only [List.size_toArray]; omega),Array.getElem?_append_left (by simp only [List.size_toArray]; omega),List.getElem?_toArray,List.getElem?_toArray]
     exact Z0t _ j p hj)
   rw [List.length_append] at this
   exact this
  ·show (w.heap.push _)[q]? = _
   rw [Array.getElem?_push_lt hq,Array.getElem?_eq_getElem hq]
 cases h with
 | empty ad =>
   refine grow (c0 := 0) (base := ad) (by simp) ?_
   cases ad with
   | none => exact run_firstCells_none w.drew i.size 0 0 0
   | some ad => exact run_firstCells_some w.drew i.size 0 ad 0 0 [] (by simp) (fun j u h => by simp at h)
 | mk b cap C ps hC hsz hle h0 hcs =>
   by_cases hroom : ps.length + 1 ≤ cap
   ·have hcell : ∀ j,j < [x,y].length → (w.cell? ⟨b,0 + ps.length * i.size + j,none⟩).isSome = true := fun j hj => by
     have hj0 : j < 2 := by simpa using hj
     rw [hz]
     have : 0 + ps.length * 2 + j < C.size := by omega
     simp only [World.cell?,hC]
     rw [Array.getElem?_eq_getElem this]
     rfl
    have hrun := run_append_room_src (P := P) w t t ty e i ht hi b 0 ps.length cap (.slice (some ⟨bu,0,none⟩) 1 c) 1 [x,y] hs hroom hcell (fun j hj => by simp [World.frozen?,hC])
    have hset : w.setCells b (0 + ps.length * i.size) [x,y] = (w.setCell ⟨b,ps.length * 2,none⟩ x).setCell ⟨b,ps.length * 2 + 1,none⟩ y := by
     rw [hz,Nat.zero_add]; rfl
    rw [hset] at hrun
    have hb1 := Zmg hC (ps.length * 2) x
    have hb2 := Zmg hb1 (ps.length * 2 + 1) y
    refine ⟨_,_,_,_,some b,hrun,?_,by rw [Zae,Zae]; omega,fun q hq hne => ?_,.inl rfl,rfl,rfl⟩
    ·have := VOwn2.mk (w := (w.setCell ⟨b,ps.length * 2,none⟩ x).setCell ⟨b,ps.length * 2 + 1,none⟩ y) (e := e) b cap _ (ps ++ [(x,y)]) hb2 (by simpa using hsz) (by rw [List.length_append]; exact hroom) h0 (fun j p hj => by
      rw [List.getElem?_append] at hj
      split at hj
      ·rename_i hjl
       have := hcs j p hj
       rw [Array.getElem?_setIfInBounds_ne (by omega),Array.getElem?_setIfInBounds_ne (by omega),Array.getElem?_setIfInBounds_ne (by omega),Array.getElem?_setIfInBounds_ne (by omega)]
       exact this
      ·rename_i hjl
       have hj0 : j = ps.length := by
        rcases Nat.lt_or_ge (j - ps.length) 1 with h | h
        ·omega
        ·rw [List.getElem?_eq_none (by simpa using h)] at hj; cases hj
       subst hj0
       rw [Nat.sub_self] at hj
       cases hj
       rw [show 2 * ps.length = ps.length * 2 from Nat.mul_comm _ _]
       refine ⟨?_,?_⟩
       ·rw [Array.getElem?_setIfInBounds_ne (by omega),Array.getElem?_setIfInBounds_self_of_lt (by omega)]
       ·rw [Array.getElem?_setIfInBounds_self_of_lt (by simp; omega)])
     rw [List.length_append] at this
     exact this
    ·rw [Zap _ _ _ _ _ (fun e => hne (by rw [e])),Zap _ _ _ _ _ (fun e => hne (by rw [e]))]
   ·refine grow (c0 := cap) (base := some ⟨b,0,none⟩) (by omega) ?_
    exact run_firstCells_some w.drew i.size ps.length ⟨b,0,none⟩ ps.length cap (flat2 ps) (by rw [hz,Zob]) (fun j u hj => by
     rw [World.cell?_add]
     have := Zvi ps (fun k => C[k]?) hcs j u hj
     have hd : w.drew.heap = w.heap := rfl
     simp [World.cell?,hd,hC,this])
end
def RolP (e eS : TypeId) (xs : List (List UInt8 × List (List UInt8))) (v : Value) (O : Nat → Prop) (w : World) : Prop :=
 ∃ (ps : List (Value × Value)) (ob : Option Nat) (rb : Nat → Option Nat),VOwn2 w e v ps ob ∧ ps.length = xs.length ∧ (∀ b,ob = some b → O b) ∧
   (∀ j n ts,xs[j]? = some (n,ts) → ∃ u,ps[j]? = some (encT n,u) ∧ VOwn w eS u (ts.map encT) (rb j) ∧ ∀ b,rb j = some b → O b ∧ ob ≠ some b) ∧
   ∀ i j b,i < j → j < xs.length → rb i = some b → rb j ≠ some b
section
variable {P : Program} {φ : Nat → Nat} {e eS : TypeId} {xs : List (List UInt8 × List (List UInt8))} {v : Value} {O : Nat → Prop} {w : World}
theorem RolP.nil (e eS : TypeId) (ad : Option Addr) (w : World) : RolP e eS [] (.slice ad 0 0) (fun _ => False) w :=
 ⟨[],none,fun _ => none,.empty ad,rfl,fun b hb => (by cases hb),fun j n ts h => by simp at h,fun i j b _ hj => absurd hj (Nat.not_lt_zero _)⟩
theorem RolP.slice (h : RolP e eS xs v O w) : ∃ ad cp,v = .slice ad xs.length cp := by
 obtain ⟨ps,ob,rb,h1,h2,_⟩ := h
 obtain ⟨ad,cp,e⟩ := h1.slice
 exact ⟨ad,cp,by rw [e,h2]⟩
theorem RolP.keep {w' : World} (h : RolP e eS xs v O w) (hs : ∀ c,O c → w'.heap[c]? = w.heap[c]?) : RolP e eS xs v O w' := by
 obtain ⟨ps,ob,rb,h1,h2,h3,h4,h5⟩ := h
 refine ⟨ps,ob,rb,h1.keep fun b hb => hs b (h3 b hb),h2,h3,fun j n ts hj => ?_,h5⟩
 obtain ⟨u,a1,a2,a3⟩ := h4 j n ts hj
 exact ⟨u,a1,a2.keep fun b hb => hs b (a3 b hb).1,a3⟩
theorem RolP.push (h : RolP e eS xs v O w) {n : List UInt8} {ts : List (List UInt8)} {u : Value} {obr : Option Nat} (hr : VOwn w eS u (ts.map encT) obr) (hd : ∀ b,obr = some b → ¬ O b) (hlt : ∀ b,obr = some b → b < w.heap.size) (hO : ∀ b,O b → b < w.heap.size)
 {t : TypeId} (ht : P.underlying t = some (.slice e)) {i : TypeInfo} (hi : P.info? e = some i) (hz : i.size = 2) {zv : Value} (hzv : i.zero = some zv) (hzs : zv.cells.size = 2) (hb : i.bytes ≤ 128) (hlim : xs.length + 1 < 1099511627776)
 {bu : Nat} {tu : TypeId} (hu : w.heap[bu]? = some (.cells #[encT n,u] tu)) (c : Nat) (ty : TypeId) :
 ∃ ad n' cp w',(Builtin.append_ #[t,t] ty #[v,.slice (some ⟨bu,0,none⟩) 1 c]).run P w = .ok (.slice ad n' cp) w' ∧ w.heap.size ≤ w'.heap.size ∧ w'.os = w.os ∧ w'.output = w.output ∧
   (∀ q,q < w.heap.size → ¬ O q → w'.heap[q]? = w.heap[q]?) ∧ RolP e eS (xs ++ [(n,ts)]) (.slice ad n' cp) (fun b => O b ∨ obr = some b ∨ (w.heap.size ≤ b ∧ b < w'.heap.size)) w' := by
 obtain ⟨ps,ob,rb,h1,h2,h3,h4,h5⟩ := h
 obtain ⟨ua,ul,uc,hus⟩ := hr.slice
 obtain ⟨ad,n',cp',w',ob',e1,e2,e3,e4,e5,e6,e7⟩ := h1.app ht hi hz hzv hzs hb (by rw [h2]; exact hlim) hu rfl (by rw [hus]; rfl) c ty
 have hne : ∀ q,q < w.heap.size → ¬ O q → w'.heap[q]? = w.heap[q]? := fun q hq hn => e4 q hq fun e => hn (h3 q e)
 refine ⟨ad,n',cp',w',e1,e3,e6,e7,hne,ps ++ [(encT n,u)],ob',fun j => if j = xs.length then obr else rb j,e2,by simp [h2],fun b hb => ?_,fun j m us hj => ?_,fun i j b hij hj hb1 hb2 => ?_⟩
 ·rcases e5 with rfl | ⟨q,rfl,q1,q2⟩
  ·exact .inl (h3 b hb)
  ·cases hb; exact .inr (.inr ⟨q1,q2⟩)
 ·rw [List.getElem?_append] at hj
  split at hj
  ·rename_i hjl
   obtain ⟨u0,a1,a2,a3⟩ := h4 j m us hj
   have hnj : j ≠ xs.length := by omega
   simp only [hnj,if_false]
   refine ⟨u0,by rw [List.getElem?_append_left (by omega)]; exact a1,a2.keep fun b hb => e4 b (hO b (a3 b hb).1) (a3 b hb).2,fun b hb => ⟨.inl (a3 b hb).1,fun e => ?_⟩⟩
   rcases e5 with rfl | ⟨q,rfl,q1,q2⟩
   ·exact (a3 b hb).2 e
   ·cases e; have := hO _ (a3 _ hb).1; omega
  ·rename_i hjl
   have hj0 : j = xs.length := by
    rcases Nat.lt_or_ge (j - xs.length) 1 with h | h
    ·omega
    ·rw [List.getElem?_eq_none (by simpa using h)] at hj; cases hj
   subst hj0
   rw [Nat.sub_self] at hj
   cases hj
   simp only [if_true]
   refine ⟨u,by rw [← h2]; simp,hr.keep fun b hb => hne b (hlt b hb) (hd b hb),fun b hb => ⟨.inr (.inl hb),fun e => ?_⟩⟩
   rcases e5 with rfl | ⟨q,rfl,q1,q2⟩
   ·exact hd b hb (h3 b e)
   ·cases e; have := hlt _ hb; omega
 ·rw [List.length_append,List.length_singleton] at hj
  have hni : i ≠ xs.length := by omega
  simp only [hni,if_false] at hb1
  have hil : i < xs.length := by omega
  obtain ⟨⟨m,us⟩,hxi⟩ : ∃ p,xs[i] = p := ⟨_,rfl⟩
  obtain ⟨u0,_,_,a3⟩ := h4 i m us (by rw [List.getElem?_eq_getElem hil,hxi])
  rcases Nat.lt_or_ge j xs.length with hjl | hjl
  ·have hnj : j ≠ xs.length := by omega
   simp only [hnj,if_false] at hb2
   exact h5 i j b hij hjl hb1 hb2
  ·obtain rfl : j = xs.length := by omega
   simp only [if_true] at hb2
   exact hd b hb2 (a3 b hb1).1
theorem RolP.at (h : RolP e eS xs v O w) {i : Nat} {n : List UInt8} {ts : List (List UInt8)} (hi : xs[i]? = some (n,ts)) :
 ∃ b cap u obr,v = .slice (some ⟨b,0,none⟩) xs.length cap ∧ O b ∧ w.cell? ⟨b,2 * i,none⟩ = some (encT n) ∧ w.cell? ⟨b,2 * i + 1,none⟩ = some u ∧ (∀ o,w.frozen? ⟨b,o,none⟩ = false) ∧ VOwn w eS u (ts.map encT) obr ∧ (∀ c,obr = some c → O c ∧ c ≠ b) ∧
   ∀ (w1 : World) (u' : Value) (ts' : List (List UInt8)) (obr' : Option Nat) (O' : Nat → Prop),VOwn w1 eS u' (ts'.map encT) obr' → (∀ c,O c → O' c) → (∀ c,obr' = some c → O' c ∧ c ≠ b ∧ (obr = some c ∨ ¬ O c)) → (∀ c,O c → obr ≠ some c → w1.heap[c]? = w.heap[c]?) →
     RolP e eS (xs.set i (n,ts')) v O' (w1.setCell ⟨b,2 * i + 1,none⟩ u') := by
 obtain ⟨ps,ob,rb,h1,h2,h3,h4,h5⟩ := h
 obtain ⟨u,a1,a2,a3⟩ := h4 i n ts hi
 have hil : i < xs.length := by
  rcases Nat.lt_or_ge i xs.length with h | h
  ·exact h
  ·rw [List.getElem?_eq_none h] at hi; cases hi
 cases h1 with
 | empty ad => simp at h2; omega
 | mk b cap C ps hC hsz hle h0 hcs =>
   have hc := hcs i _ a1
   have hOb := h3 b rfl
   refine ⟨b,cap,u,rb i,by rw [← h2],hOb,by simp [World.cell?,hC,hc.1],by simp [World.cell?,hC,hc.2],fun o => by simp [World.frozen?,hC],a2,fun c hc' => ⟨(a3 c hc').1,fun e => (a3 c hc').2 (by rw [e])⟩,?_⟩
   intro w1 u' ts' obr' O' hV hOO hob hkeep
   have hCb : w1.heap[b]? = some (.cells C e) := (hkeep b hOb fun e => (a3 b e).2 rfl).trans hC
   have hsb := Zmg hCb (2 * i + 1) u'
   have hbk : ∀ q,q ≠ b → (w1.setCell ⟨b,2 * i + 1,none⟩ u').heap[q]? = w1.heap[q]? := fun q hq => Zap _ _ _ _ _ hq
   have hpl : (ps.set i (encT n,u')).length = ps.length := List.length_set
   refine ⟨ps.set i (encT n,u'),some b,fun j => if j = i then obr' else rb j,?_,by rw [List.length_set,List.length_set,h2],fun c hc' => hOO c (h3 c hc'),fun j m us hj => ?_,fun j k c hjk hk hb1 hb2 => ?_⟩
   ·have := VOwn2.mk (w := w1.setCell ⟨b,2 * i + 1,none⟩ u') (e := e) b cap _ (ps.set i (encT n,u')) hsb (by simpa using hsz) (by rw [hpl]; exact hle) h0 (fun j p hj => by
     rw [List.getElem?_set] at hj
     split at hj
     ·rename_i e'
      subst e'
      split at hj
      ·cases hj
       rw [Array.getElem?_setIfInBounds_ne (by omega),Array.getElem?_setIfInBounds_self_of_lt (by omega)]
       exact ⟨hc.1,rfl⟩
      ·cases hj
     ·rename_i e'
      have := hcs j p hj
      rw [Array.getElem?_setIfInBounds_ne (by omega),Array.getElem?_setIfInBounds_ne (by omega)]
      exact this)
    rw [hpl] at this
    exact this
   ·rw [List.getElem?_set] at hj
    split at hj
    ·rename_i e'
     subst e'
     cases hj
     simp only [if_true]
     refine ⟨u',by rw [List.getElem?_set,if_pos rfl,if_pos (by omega)],hV.keep fun c hc' => hbk c (hob c hc').2.1,fun c hc' => ⟨(hob c hc').1,fun e => (hob c hc').2.1 (by cases e; rfl)⟩⟩
    ·rename_i e'
     have hji : ¬ j = i := fun e => e' e.symm
     simp only [hji,if_false]
     obtain ⟨u0,c1,c2,c3⟩ := h4 j m us hj
     have hjl : j < xs.length := by
      rcases Nat.lt_or_ge j xs.length with h | h
      ·exact h
      ·rw [List.getElem?_eq_none h] at hj; cases hj
     refine ⟨u0,by rw [List.getElem?_set,if_neg e']; exact c1,c2.keep fun c hc' => ?_,fun c hc' => ⟨hOO c (c3 c hc').1,(c3 c hc').2⟩⟩
     rw [hbk c fun e => (c3 c hc').2 (by rw [e])]
     refine hkeep c (c3 c hc').1 fun e => ?_
     rcases Nat.lt_or_gt_of_ne e' with h | h
     ·exact h5 i j c h hjl e hc'
     ·exact h5 j i c h hil hc' e
   ·rw [List.length_set] at hk
    simp only at hb1 hb2
    have key : ∀ q,q < xs.length → rb q = some c → O c := fun q hq hc' => by
     obtain ⟨⟨m,us⟩,hxq⟩ : ∃ p,xs[q] = p := ⟨_,rfl⟩
     obtain ⟨_,_,_,c3⟩ := h4 q m us (by rw [List.getElem?_eq_getElem hq,hxq])
     exact (c3 c hc').1
    by_cases hji : j = i
    ·subst hji
     have hki : ¬ k = j := by omega
     simp only [if_true] at hb1
     simp only [hki,if_false] at hb2
     rcases (hob c hb1).2.2 with h | h
     ·exact h5 j k c hjk hk h hb2
     ·exact h (key k hk hb2)
    ·simp only [hji,if_false] at hb1
     by_cases hki : k = i
     ·subst hki
      simp only [if_true] at hb2
      rcases (hob c hb2).2.2 with h | h
      ·exact h5 j k c hjk hk hb1 h
      ·exact h (key j (by omega) hb1)
     ·simp only [hki,if_false] at hb2
      exact h5 j k c hjk hk hb1 hb2
theorem RolP.data (h : RolP e eS xs v O w) {K : Nat → Prop} (hK : ∀ b,O b → K b) : Rep φ w K v (.sl 2 ((xs.map fun p => ((p.1,p.2,()) : roleE.ty)).map roleE.enc)) := by
 obtain ⟨ps,ob,rb,h1,h2,h3,h4,h5⟩ := h
 cases h1 with
 | empty ad =>
   obtain rfl : xs = [] := by cases xs with | nil => rfl | cons => simp at h2
   exact .slE ad 0 2
 | mk b cap C ps hC hsz hle h0 hcs =>
   have key : ∀ k i,i + k = xs.length → Reps φ w K (flat2 (ps.drop i)) ((((xs.drop i).map fun p => ((p.1,p.2,()) : roleE.ty)).map roleE.enc).flatMap A.cells) := by
    intro k
    induction k with
    | zero =>
      intro i hi'
      rw [List.drop_eq_nil_of_le (by omega),List.drop_eq_nil_of_le (by omega)]
      exact .nil
    | succ k ih =>
      intro i hi'
      have hil : i < xs.length := by omega
      have hpl : i < ps.length := by omega
      obtain ⟨⟨m,us⟩,hxi⟩ : ∃ p,xs[i] = p := ⟨_,rfl⟩
      obtain ⟨u,a1,a2,a3⟩ := h4 i m us (by rw [List.getElem?_eq_getElem hil,hxi])
      have hpi : ps[i] = (encT m,u) := by rw [List.getElem?_eq_getElem hpl] at a1; exact Option.some.inj a1
      rw [List.drop_eq_getElem_cons hil,List.drop_eq_getElem_cons hpl,hpi,hxi]
      exact .cons _ _ _ _ (.str m) (.cons _ _ _ _ (a2.textsD fun c hc => hK c (a3 c hc).1) (ih (i + 1) (by omega)))
   have r1 := key xs.length 0 (by omega)
   rw [List.drop_zero,List.drop_zero] at r1
   have := Rep.sl (φ := φ) (w := w) (ok := K) b 0 cap 2 ((xs.map fun p => ((p.1,p.2,()) : roleE.ty)).map roleE.enc) (flat2 ps) (hK b (h3 b rfl)) (fun x hx => by
    obtain ⟨y,_,rfl⟩ := List.mem_map.1 hx
    rfl) (by rw [List.length_map,List.length_map,← h2]; exact hle) r1 (fun j u hj => by
     have := Zvi ps (fun k => C[k]?) hcs j u hj
     simp only [World.cell?,hC,Nat.zero_add]
     simp [this])
   rw [List.length_map,List.length_map,← h2] at this
   exact this
end
section
variable {P : Program} {φ : Nat → Nat}
theorem Z7f {w : World} {K : Nat → Prop} {B g : Nat} {v3 u : Value} {x x' : srcE.ty} {a ra : A} (h1 : BoxRep φ w K v3 3 (srcE.enc x) [B]) (hu : Rep φ w K u a) (hK : ∀ b,K b → b < w.heap.size ∧ b ≠ B) (hG : Glob P K w)
 (hc : CallOk P φ g [.iob 3 [srcE.enc x],a] [ra] [.iob 3 [srcE.enc x']]) (ha : (∀ z xs,a ≠ .iob z xs) ∧ ∀ z xs,a ≠ .ios z xs) (hra : (∀ j z xs,ra ≠ .tok j z xs) ∧ ∀ z xs,ra ≠ .iob z xs) :
 Calls P (φ g) #[v3,u] w fun r w' => ∃ rv K',r = .returned rv ∧ Rep φ w' K' rv ra ∧ BoxRep φ w' K' v3 3 (srcE.enc x') [B] ∧ (∀ b,K b → K' b) ∧ (∀ b,K' b → K b ∨ (w.heap.size ≤ b ∧ b < w'.heap.size)) ∧ (∀ b,K' b → b < w'.heap.size ∧ b ≠ B) ∧ Glob P K' w' ∧
  w.heap.size ≤ w'.heap.size ∧ (∀ c,c < w.heap.size → c ≠ B → w'.heap[c]? = w.heap[c]?) ∧ (∀ S,S ≤ w.heap.size → Fq S v3 w w') ∧ B < w'.heap.size := by
 obtain ⟨B',o,hv3,hBB,hB⟩ := Zof h1
 cases hBB
 have hargs : ArgReps φ w K [v3,u] [.iob 3 [srcE.enc x],a] ([B] ++ ([] ++ [])) := .cons _ _ _ _ _ _ (.iob _ _ _ _ h1) (.cons _ _ _ _ _ _ (.data _ _ hu) .nil)
 refine (hc w K [v3,u] [B] hargs (by simp) (fun b hb => by rw [List.mem_singleton] at hb; subst hb; exact fun hk => (hK _ hk).2 rfl) (fun b hb => (hK b hb).1) hG).mono fun r w' ⟨v,he,hb⟩ => ?_
 subst he
 obtain ⟨rvs,K',rb,ob,hv,k1,k2,hrr,ho,hnd,hbl⟩ := hb.rest
 have hfr : ∀ c,c < w.heap.size → c ≠ B → w'.heap[c]? = w.heap[c]? := fun c hc hn => hb.frame c hc (by simpa using hn)
 have hg := hb.grow
 cases hrr with
 | cons v0 _ b0 vs0 _ bs0 r1 r2 =>
 cases r2
 cases r1 with
 | tok => exact absurd rfl (hra.1 _ _ _)
 | iob => exact absurd rfl (hra.2 _ _)
 | data _ r3 =>
 cases ho with
 | data _ _ _ _ _ _ hne _ => exact absurd rfl (hne.1 _ _)
 | iob _ _ _ _ bq _ _ _ bs1 hq ht =>
   obtain ⟨B2,o2,hv2,hb2,hB2⟩ := Zof hq
   have : B2 = B := by rw [hv3] at hv2; cases hv2; rfl
   subst this
   subst hb2
   have hnK : ¬ K' B2 := (hbl B2 (by simp)).1
   have hK' : ∀ b,K' b → K b ∨ (w.heap.size ≤ b ∧ b < w'.heap.size) := fun b hb' => by
    rcases k2 b hb' with h | h | h
    ·exact .inl h
    ·have : b = B2 := by simpa using h
     exact absurd (this ▸ hb') hnK
    ·exact .inr h
   refine ⟨v0,K',by rw [hv]; rfl,r3,hq,k1,hK',fun b hb' => ⟨?_,fun e => hnK (e ▸ hb')⟩,hG.on k1 fun b hb => hfr b (hK b hb).1 (hK b hb).2,hg,hfr,fun S hS => ⟨hg,fun c hc hn => hfr c (by omega) (fun e => hn o (by rw [hv3,e])),hb.env.1,hb.env.2,fun b off hb' => hb.fr b off (by omega),fun b n hb' hr => hb.room b n hr⟩,hB2⟩
   rcases hK' b hb' with h | h
   ·have := (hK b h).1; omega
   ·exact h.2
end
def RstK (P : Program) (φ : Nat → Nat) (S : Nat) (e eS : TypeId) (K : Nat → Prop) (x : srcE.ty) (v3 : Value) (xs : List (List UInt8 × List (List UInt8))) (vout : Value) (w : World) : Prop :=
 ∃ (O : Nat → Prop) (B : Nat),BoxRep φ w K v3 3 (srcE.enc x) [B] ∧ RolP e eS xs vout O w ∧ (∀ b,O b → S ≤ b ∧ b < w.heap.size ∧ ¬ K b ∧ b ≠ B) ∧ (∀ b,K b → b < w.heap.size ∧ b ≠ B) ∧ Glob P K w ∧ S ≤ w.heap.size ∧ B < w.heap.size
def Rst (P : Program) (φ : Nat → Nat) (S : Nat) (e eS : TypeId) (K0 : Nat → Prop) (x : srcE.ty) (v3 : Value) (xs : List (List UInt8 × List (List UInt8))) (vout : Value) (w : World) : Prop := ∃ K,Wid K0 K S w ∧ RstK P φ S e eS K x v3 xs vout w
section
variable {P : Program} {φ : Nat → Nat} {S : Nat} {e eS : TypeId} {K0 : Nat → Prop} {x : srcE.ty} {v3 : Value} {xs : List (List UInt8 × List (List UInt8))} {vout : Value} {w : World}
theorem Rst.size (h : Rst P φ S e eS K0 x v3 xs vout w) : S ≤ w.heap.size := by
 obtain ⟨_,_,_,_,_,_,_,_,_,h,_⟩ := h; exact h
theorem Rst.slice (h : Rst P φ S e eS K0 x v3 xs vout w) : ∃ ad cp,vout = .slice ad xs.length cp := by
 obtain ⟨_,_,_,_,_,h,_⟩ := h; exact h.slice
theorem Rst.keep {w' : World} (h : Rst P φ S e eS K0 x v3 xs vout w) (hw : Lo w.heap.size w w') : Rst P φ S e eS K0 x v3 xs vout w' := by
 obtain ⟨K,hK0,O,B,h1,h2,h5,h6,h7,h8,h9⟩ := h
 have hs := hw.size
 refine ⟨K,hK0.size hs,O,B,h1.keepW (fun b hb => hw.block b (h6 b hb).1) (fun b hb => ?_),h2.keep fun c hc => hw.block c (h5 c hc).2.1,fun b hb => ?_,fun b hb => ?_,h7.on (fun _ h => h) fun b hb => hw.block b (h6 b hb).1,by omega,by omega⟩
 ·rw [List.mem_singleton] at hb; subst hb; exact hw.block _ h9
 ·obtain ⟨a2,a3,a4⟩ := h5 b hb; exact ⟨a2,by omega,a4⟩
 ·obtain ⟨a3,a4⟩ := h6 b hb; exact ⟨by omega,a4⟩
theorem Rst.out (h : Rst P φ S e eS K0 x v3 xs vout w) (ad : Option Addr) : Rst P φ S e eS K0 x v3 [] (.slice ad 0 0) w := by
 obtain ⟨K,hK0,O,B,h1,h2,h5,h6⟩ := h
 exact ⟨K,hK0,fun _ => False,B,h1,.nil e eS ad w,fun b hb => hb.elim,h6⟩
theorem RstK.call {K : Nat → Prop} {g : Nat} {u : Value} {a ra : A} {x' : srcE.ty} (h : RstK P φ S e eS K x v3 xs vout w) (hK0 : Wid K0 K S w) (hu : Rep φ w K u a) (hc : CallOk P φ g [.iob 3 [srcE.enc x],a] [ra] [.iob 3 [srcE.enc x']])
 (ha : (∀ z xs,a ≠ .iob z xs) ∧ ∀ z xs,a ≠ .ios z xs) (hra : (∀ j z xs,ra ≠ .tok j z xs) ∧ ∀ z xs,ra ≠ .iob z xs) :
 Calls P (φ g) #[v3,u] w fun r w' => ∃ rv K',r = .returned rv ∧ Rep φ w' K' rv ra ∧ w.heap.size ≤ w'.heap.size ∧ Fq S v3 w w' ∧ Rst P φ S e eS K0 x' v3 xs vout w' ∧ ∀ c,K0 c → w'.heap[c]? = w.heap[c]? := by
 obtain ⟨O,B,h1,h2,h5,h6,h7,h8,h9⟩ := h
 refine (Z7f h1 hu h6 h7 hc ha hra).mono fun r w' ⟨rv,K',q1,q2,q3,q4,q5,q6,q7,q8,q9,q10,q11⟩ => ?_
 refine ⟨rv,K',q1,q2,q8,q10 S h8,⟨K',⟨fun b hb => q4 b (hK0.1 b hb),fun b hb => ?_⟩,O,B,q3,h2.keep fun c hc => q9 c (h5 c hc).2.1 (h5 c hc).2.2.2,fun b hb => ?_,q6,q7,by omega,q11⟩,fun c hc => q9 c (h6 c (hK0.1 c hc)).1 (h6 c (hK0.1 c hc)).2⟩
 ·rcases q5 b hb with h | h
  ·exact (hK0.2 b h).imp id fun h => ⟨h.1,by omega⟩
  ·exact .inr ⟨by omega,h.2⟩
 ·obtain ⟨a2,a3,a4,a5⟩ := h5 b hb
  refine ⟨a2,by omega,fun hk => ?_,a5⟩
  rcases q5 b hk with h | h
  ·exact a4 h
  ·omega
end
section
variable {P : Program} {φ : Nat → Nat} {S : Nat} {e eS : TypeId} {K0 : Nat → Prop} {x : srcE.ty} {v3 : Value} {xs : List (List UInt8 × List (List UInt8))} {vout : Value} {w : World}
theorem Rst.pick {g : Nat} {n y : Int} {x' : srcE.ty} (h : Rst P φ S e eS K0 x v3 xs vout w) (hc : CallOk P φ g [.iob 3 [srcE.enc x],.int .i64 n] [.int .i64 y] [.iob 3 [srcE.enc x']]) :
 Calls P (φ g) #[v3,.int .i64 n] w fun r w' => r = .returned (.int .i64 y) ∧ w.heap.size ≤ w'.heap.size ∧ Fq S v3 w w' ∧ Rst P φ S e eS K0 x' v3 xs vout w' ∧ ∀ c,K0 c → w'.heap[c]? = w.heap[c]? := by
 obtain ⟨K,hK0,h⟩ := h
 refine (h.call hK0 (.int _ _) hc ⟨fun _ _ h => (by cases h),fun _ _ h => (by cases h)⟩ ⟨fun _ _ _ h => (by cases h),fun _ _ h => (by cases h)⟩).mono fun r w' ⟨rv,K',q1,q2,q3,q4,q5⟩ => ?_
 cases q2
 exact ⟨q1,q3,q4,q5⟩
theorem Rst.one {g : Nat} {n : Int} {y : Bool} {x' : srcE.ty} (h : Rst P φ S e eS K0 x v3 xs vout w) (hc : CallOk P φ g [.iob 3 [srcE.enc x],.int .i64 n] [.bool y] [.iob 3 [srcE.enc x']]) :
 Calls P (φ g) #[v3,.int .i64 n] w fun r w' => r = .returned (.bool y) ∧ w.heap.size ≤ w'.heap.size ∧ Fq S v3 w w' ∧ Rst P φ S e eS K0 x' v3 xs vout w' ∧ ∀ c,K0 c → w'.heap[c]? = w.heap[c]? := by
 obtain ⟨K,hK0,h⟩ := h
 refine (h.call hK0 (.int _ _) hc ⟨fun _ _ h => (by cases h),fun _ _ h => (by cases h)⟩ ⟨fun _ _ _ h => (by cases h),fun _ _ h => (by cases h)⟩).mono fun r w' ⟨rv,K',q1,q2,q3,q4,q5⟩ => ?_
 cases q2
 exact ⟨q1,q3,q4,q5⟩
theorem Rst.stays (h : Rst P φ S e eS K0 x v3 xs vout w) : ∃ (K O : Nat → Prop) (B : Nat),(∀ b,K0 b → K b) ∧ BoxRep φ w K v3 3 (srcE.enc x) [B] ∧ RolP e eS xs vout O w ∧ (∀ b,O b → ¬ K b ∧ b ≠ B) ∧ (∀ b,K b → b < w.heap.size ∧ b ≠ B) := by
 obtain ⟨K,hK0,O,B,h1,h2,h5,h6,_⟩ := h
 exact ⟨K,O,B,hK0.1,h1,h2,fun b hb => (h5 b hb).2.2,h6⟩
theorem Rst.lit (h : Rst P φ S e eS K0 x v3 xs vout w) (C : Array Value) (t : TypeId) : ∃ K : Nat → Prop,K w.heap.size ∧ Wid K0 K S (w.alloc (.cells C t)) ∧ RstK P φ S e eS K x v3 xs vout (w.alloc (.cells C t)) := by
 obtain ⟨K,hK0,O,B,h1,h2,h5,h6,h7,h8,h9⟩ := h
 have hz : (w.alloc (.cells C t)).heap.size = w.heap.size + 1 := by simp
 refine ⟨fun b => K b ∨ b = w.heap.size,.inr rfl,⟨fun b hb => .inl (hK0.1 b hb),fun b hb => ?_⟩,O,B,?_,h2.keep fun c hc => Zaf _ _ (h5 c hc).2.1,fun b hb => ?_,fun b hb => ?_,h7.on (fun b hb => .inl hb) fun b hb => Zaf _ _ (h6 b hb).1,by omega,by omega⟩
 ·rcases hb with hb | rfl
  ·exact (hK0.size (w' := w.alloc (.cells C t)) (by omega)).2 b hb
  ·exact .inr ⟨h8,by omega⟩
 ·have := h1.keepW (w' := w.alloc (.cells C t)) (fun b hb => Zaf _ _ (h6 b hb).1) fun b hb => by
   rw [List.mem_singleton] at hb; subst hb; exact Zaf _ _ h9
  exact this.mono fun b hb => .inl hb
 ·obtain ⟨a2,a3,a4,a5⟩ := h5 b hb
  exact ⟨a2,by omega,fun hk => hk.elim a4 (fun e => by omega),a5⟩
 ·rcases hb with hb | rfl
  ·obtain ⟨a3,a4⟩ := h6 b hb; exact ⟨by omega,a4⟩
  ·exact ⟨by omega,by omega⟩
theorem Rst.text {g : Nat} {ts : List (List UInt8)} {y : List UInt8} {x' : srcE.ty} {t : TypeId} (h : Rst P φ S e eS K0 x v3 xs vout w) (hc : CallOk P φ g [.iob 3 [srcE.enc x],.sl 1 (ts.map strE.enc)] [.str y] [.iob 3 [srcE.enc x']]) (cp : Nat) (hcp : ts.length ≤ cp) :
 Calls P (φ g) #[v3,.slice (some ⟨w.heap.size,0,none⟩) ts.length cp] (w.alloc (.cells (ts.map encT).toArray t)) fun r w' => r = .returned (.string ⟨y.toArray⟩) ∧ w.heap.size ≤ w'.heap.size ∧ Fq S v3 w w' ∧ Rst P φ S e eS K0 x' v3 xs vout w' ∧ ∀ c,K0 c → w'.heap[c]? = w.heap[c]? := by
 have hS := h.size
 have hK9 : ∀ c,K0 c → c < w.heap.size := fun c hc => by
  obtain ⟨K,O,B,k1,_,_,_,k2⟩ := h.stays
  exact (k2 c (k1 c hc)).1
 obtain ⟨K,hk,hK0,h⟩ := h.lit (ts.map encT).toArray t
 have hr := (Zj8 (φ := φ) (w := w.alloc (.cells (ts.map encT).toArray t)) (b := w.heap.size) (o := 0) hcp (fun j u hj => by
  have := Zbr w (.cells (ts.map encT).toArray t) rfl
  simp only [World.cell?,this,Nat.zero_add]
  rw [List.getElem?_toArray]; exact hj)).mono (fun _ _ => rfl) (ok' := K) fun c hc => by subst hc; exact hk
 refine (h.call hK0 hr hc ⟨fun _ _ h => (by cases h),fun _ _ h => (by cases h)⟩ ⟨fun _ _ _ h => (by cases h),fun _ _ h => (by cases h)⟩).mono fun r w' ⟨rv,K',q1,q2,q3,q4,q5⟩ => ?_
 have hz : (w.alloc (.cells (ts.map encT).toArray t)).heap.size = w.heap.size + 1 := by simp
 cases q2
 exact ⟨q1,by omega,((Fq.refl S v3 w).alloc hS _).trans q4,q5.1,fun c hc => (q5.2 c hc).trans (Zaf _ _ (hK9 c hc))⟩
theorem Rst.among {g : Nat} {ns : List Int} {y : Int} {x' : srcE.ty} {t : TypeId} (h : Rst P φ S e eS K0 x v3 xs vout w) (hc : CallOk P φ g [.iob 3 [srcE.enc x],.sl 1 (ns.map i64E.enc)] [.int .i64 y] [.iob 3 [srcE.enc x']]) (cp : Nat) (hcp : ns.length ≤ cp) :
 Calls P (φ g) #[v3,.slice (some ⟨w.heap.size,0,none⟩) ns.length cp] (w.alloc (.cells (ns.map (Value.int .i64)).toArray t)) fun r w' => r = .returned (.int .i64 y) ∧ w.heap.size ≤ w'.heap.size ∧ Fq S v3 w w' ∧ Rst P φ S e eS K0 x' v3 xs vout w' ∧ ∀ c,K0 c → w'.heap[c]? = w.heap[c]? := by
 have hS := h.size
 have hK9 : ∀ c,K0 c → c < w.heap.size := fun c hc => by
  obtain ⟨K,O,B,k1,_,_,_,k2⟩ := h.stays
  exact (k2 c (k1 c hc)).1
 obtain ⟨K,hk,hK0,h⟩ := h.lit (ns.map (Value.int .i64)).toArray t
 have hr := Rep.sl (φ := φ) (w := w.alloc (.cells (ns.map (Value.int .i64)).toArray t)) (ok := K) w.heap.size 0 cp 1 (ns.map i64E.enc) (ns.map (Value.int .i64)) hk (fun x hx => by
  obtain ⟨y,_,rfl⟩ := List.mem_map.1 hx; rfl) (by rw [List.length_map]; exact hcp) (Ztl ns) (fun j u hj => by
   have := Zbr w (.cells (ns.map (Value.int .i64)).toArray t) rfl
   simp only [World.cell?,this,Nat.zero_add]
   rw [List.getElem?_toArray]; exact hj)
 rw [List.length_map] at hr
 refine (h.call hK0 hr hc ⟨fun _ _ h => (by cases h),fun _ _ h => (by cases h)⟩ ⟨fun _ _ _ h => (by cases h),fun _ _ h => (by cases h)⟩).mono fun r w' ⟨rv,K',q1,q2,q3,q4,q5⟩ => ?_
 have hz : (w.alloc (.cells (ns.map (Value.int .i64)).toArray t)).heap.size = w.heap.size + 1 := by simp
 cases q2
 exact ⟨q1,by omega,((Fq.refl S v3 w).alloc hS _).trans q4,q5.1,fun c hc => (q5.2 c hc).trans (Zaf _ _ (hK9 c hc))⟩
end
section
variable {P : Program} {φ : Nat → Nat} {S : Nat} {e eS : TypeId} {K0 : Nat → Prop} {x : srcE.ty} {v3 : Value} {xs : List (List UInt8 × List (List UInt8))} {vout : Value} {w : World}
theorem Rst.push0 (h : Rst P φ S e eS K0 x v3 xs vout w) {n : List UInt8} {au : Option Addr} {t : TypeId} (ht : P.underlying t = some (.slice e)) {i : TypeInfo} (hi : P.info? e = some i) (hz : i.size = 2) {zv : Value} (hzv : i.zero = some zv) (hzs : zv.cells.size = 2) (hb : i.bytes ≤ 128) (hlim : xs.length + 1 < 1099511627776)
 {bu : Nat} {tu : TypeId} (hu : w.heap[bu]? = some (.cells #[encT n,.slice au 0 0] tu)) (c : Nat) (ty : TypeId) :
 ∃ ad n' cp w',(Builtin.append_ #[t,t] ty #[vout,.slice (some ⟨bu,0,none⟩) 1 c]).run P w = .ok (.slice ad n' cp) w' ∧ w.heap.size ≤ w'.heap.size ∧ Lo S w w' ∧ Rst P φ S e eS K0 x v3 (xs ++ [(n,[])]) (.slice ad n' cp) w' ∧ ∀ c,K0 c → w'.heap[c]? = w.heap[c]? := by
 obtain ⟨K,hK0,O,B,h1,h2,h5,h6,h7,h8,h9⟩ := h
 obtain ⟨ad,n',cp,w',q1,q2,q3,q4,q5,q6⟩ := h2.push (n := n) (ts := []) (u := .slice au 0 0) (obr := none) (.empty au) (fun b hb => (by cases hb)) (fun b hb => (by cases hb)) (fun b hb => (h5 b hb).2.1) ht hi hz hzv hzs hb hlim hu c ty
 have hnO : ∀ b,b < w.heap.size → (K b ∨ b = B ∨ b < S) → w'.heap[b]? = w.heap[b]? := fun b hb hk => q5 b hb fun ho => by
  obtain ⟨a1,a2,a3,a4⟩ := h5 b ho
  rcases hk with h | h | h
  ·exact a3 h
  ·exact a4 h
  ·omega
 refine ⟨ad,n',cp,w',q1,q2,⟨q2,fun b hb => hnO b (by omega) (.inr (.inr hb)),q3,q4⟩,⟨K,hK0.size q2,_,B,?_,q6,fun b hb => ?_,fun b hb => ?_,h7.on (fun _ h => h) fun b hb => hnO b (h6 b hb).1 (.inl hb),by omega,by omega⟩,fun c hc => hnO c (h6 c (hK0.1 c hc)).1 (.inl (hK0.1 c hc))⟩
 ·refine h1.keepW (fun b hb => hnO b (h6 b hb).1 (.inl hb)) fun b hb => ?_
  rw [List.mem_singleton] at hb; subst hb
  exact hnO _ h9 (.inr (.inl rfl))
 ·rcases hb with hb | hb | hb
  ·obtain ⟨a1,a2,a3,a4⟩ := h5 b hb; exact ⟨a1,by omega,a3,a4⟩
  ·cases hb
  ·exact ⟨by omega,hb.2,fun hk => by have := (h6 b hk).1; omega,by omega⟩
 ·obtain ⟨a3,a4⟩ := h6 b hb; exact ⟨by omega,a4⟩
theorem Rst.at (h : Rst P φ S e eS K0 x v3 xs vout w) {i : Nat} {n : List UInt8} {ts : List (List UInt8)} (hi : xs[i]? = some (n,ts)) :
 ∃ b cap u obr,vout = .slice (some ⟨b,0,none⟩) xs.length cap ∧ (S ≤ b ∧ b < w.heap.size) ∧ w.cell? ⟨b,2 * i,none⟩ = some (encT n) ∧ w.cell? ⟨b,2 * i + 1,none⟩ = some u ∧ (∀ o,w.frozen? ⟨b,o,none⟩ = false) ∧ VOwn w eS u (ts.map encT) obr ∧ (∀ c,obr = some c → S ≤ c ∧ c < w.heap.size ∧ c ≠ b) ∧
   ∀ (w1 : World) (u' : Value) (ts' : List (List UInt8)) (obr' : Option Nat),VOwn w1 eS u' (ts'.map encT) obr' → w.heap.size ≤ w1.heap.size → (∀ c,obr' = some c → c < w1.heap.size ∧ (obr = some c ∨ w.heap.size ≤ c)) → (∀ c,c < w.heap.size → obr ≠ some c → w1.heap[c]? = w.heap[c]?) →
     Rst P φ S e eS K0 x v3 (xs.set i (n,ts')) vout (w1.setCell ⟨b,2 * i + 1,none⟩ u') ∧ ∀ c,K0 c → (w1.setCell ⟨b,2 * i + 1,none⟩ u').heap[c]? = w.heap[c]? := by
 obtain ⟨K,hK0,O,B,h1,h2,h5,h6,h7,h8,h9⟩ := h
 obtain ⟨b,cap,u,obr,q1,q2,q3,q4,q5,q6,q7,q8⟩ := h2.at hi
 have hb := h5 b q2
 refine ⟨b,cap,u,obr,q1,⟨hb.1,hb.2.1⟩,q3,q4,q5,q6,fun c hc => ⟨(h5 c (q7 c hc).1).1,(h5 c (q7 c hc).1).2.1,(q7 c hc).2⟩,fun w1 u' ts' obr' hV hz hob hk => ?_⟩
 have hbk : ∀ q,q ≠ b → (w1.setCell ⟨b,2 * i + 1,none⟩ u').heap[q]? = w1.heap[q]? := fun q hq => Zap _ _ _ _ _ hq
 have hrest : ∀ c,c < w.heap.size → (K c ∨ c = B) → (w1.setCell ⟨b,2 * i + 1,none⟩ u').heap[c]? = w.heap[c]? := fun c hc hk' => by
  have hnb : c ≠ b := fun e => by subst e; rcases hk' with h | h; exact hb.2.2.1 h; exact hb.2.2.2 h
  rw [hbk c hnb]
  refine hk c hc fun e => ?_
  have := h5 c (q7 c e).1
  rcases hk' with h | h
  ·exact this.2.2.1 h
  ·exact this.2.2.2 h
 have hR := q8 w1 u' ts' obr' (fun c => O c ∨ obr' = some c) hV (fun c hc => .inl hc) (fun c hc => ⟨.inr hc,?_,?_⟩) fun c hc hn => hk c (h5 c hc).2.1 hn
 ·refine ⟨⟨K,hK0.size (by rw [Zae]; exact hz),_,B,?_,hR,fun c hc => ?_,fun c hc => ?_,h7.on (fun _ h => h) fun c hc => hrest c (h6 c hc).1 (.inl hc),by rw [Zae]; omega,by rw [Zae]; omega⟩,fun c hc => hrest c (h6 c (hK0.1 c hc)).1 (.inl (hK0.1 c hc))⟩
  ·refine h1.keepW (fun c hc => hrest c (h6 c hc).1 (.inl hc)) fun c hc => ?_
   rw [List.mem_singleton] at hc; subst hc
   exact hrest _ h9 (.inr rfl)
  ·rw [Zae]
   rcases hc with hc | hc
   ·obtain ⟨a1,a2,a3,a4⟩ := h5 c hc; exact ⟨a1,by omega,a3,a4⟩
   ·obtain ⟨c1,c2⟩ := hob c hc
    rcases c2 with c2 | c2
    ·obtain ⟨a1,a2,a3,a4⟩ := h5 c (q7 c c2).1; exact ⟨a1,c1,a3,a4⟩
    ·exact ⟨by omega,c1,fun hk => by have := (h6 c hk).1; omega,by omega⟩
  ·rw [Zae]; obtain ⟨a3,a4⟩ := h6 c hc; exact ⟨by omega,a4⟩
 ·rcases (hob c hc).2 with h | h
  ·exact (q7 c h).2
  ·have := hb.2.1; omega
 ·rcases (hob c hc).2 with h | h
  ·exact .inl h
  ·exact .inr fun ho => by have := (h5 c ho).2.1; omega
theorem Rst.fin (h : Rst P φ S e eS K0 x v3 xs vout w) : ∃ K O B,Wid K0 K S w ∧ BoxRep φ w K v3 3 (srcE.enc x) [B] ∧ (∀ b,O b → S ≤ b ∧ b < w.heap.size ∧ ¬ K b ∧ b ≠ B) ∧ (∀ b,K b → b < w.heap.size ∧ b ≠ B) ∧ B < w.heap.size ∧ Rep φ w O vout (.sl 2 ((xs.map fun p => ((p.1,p.2,()) : roleE.ty)).map roleE.enc)) := by
 obtain ⟨K,hK0,O,B,h1,h2,h5,h6,h7,h8,h9⟩ := h
 exact ⟨K,O,B,hK0,h1,h5,h6,h9,h2.data fun _ h => h⟩
end
def rlNames : List (List UInt8) := [[97,103,101,110,116],[108,117,116,104,105,101,114],[109,97,107,101,114],[112,117,112,105,108],[118,97,114,110,105,115,104,101,114]]
def nmAt (out : List (List UInt8 × List (List UInt8))) (k : Nat) : List UInt8 := ((out[k]?).getD ([],[])).1
def unAt (out : List (List UInt8 × List (List UInt8))) (k : Nat) : List (List UInt8) := ((out[k]?).getD ([],[])).2
def drNames (on : srcE.ty → Int → Option (Bool × srcE.ty)) : List (List UInt8) → srcE.ty → List (List UInt8 × List (List UInt8)) → Option (srcE.ty × List (List UInt8 × List (List UInt8)))
 | [],x,out => some (x,out)
 | n :: ns,x,out => (on x 5).bind fun p => drNames on ns p.2 (if p.1 then out else out ++ [(n,[])])
def drIn (on : srcE.ty → Int → Option (Bool × srcE.ty)) (i : Nat) : Nat → Nat → srcE.ty → List (List UInt8 × List (List UInt8)) → Option (srcE.ty × List (List UInt8 × List (List UInt8)))
 | 0,_,x,out => some (x,out)
 | m + 1,k,x,out => (on x 3).bind fun p => drIn on i m (k + 1) p.2 (if p.1 then out.set i (nmAt out i,unAt out i ++ [nmAt out k]) else out)
def drOut (on : srcE.ty → Int → Option (Bool × srcE.ty)) : Nat → Nat → srcE.ty → List (List UInt8 × List (List UInt8)) → Option (srcE.ty × List (List UInt8 × List (List UInt8)))
 | 0,_,x,out => some (x,out)
 | m + 1,i,x,out => (drIn on i (out.length - (i + 1)) (i + 1) x out).bind fun q => drOut on m (i + 1) q.1 q.2
def drF (on : srcE.ty → Int → Option (Bool × srcE.ty)) (pk : srcE.ty → Int → Option (Int × srcE.ty)) (tx : srcE.ty → List (List UInt8) → Option (List UInt8 × srcE.ty)) (am : srcE.ty → List Int → Option (Int × srcE.ty)) (x0 : srcE.ty) : Option (srcE.ty × List (List UInt8 × List (List UInt8))) :=
 (drNames on rlNames x0 []).bind fun a => (drOut on a.2.length 0 a.1 a.2).bind fun b => (pk b.1 24).bind fun c =>
   if c.1 = 0 then some (c.2,if 1 < b.2.length then b.2.set (b.2.length - 1) (nmAt b.2 (b.2.length - 1),[nmAt b.2 0]) else b.2)
   else if c.1 = 1 then (if 0 < b.2.length then (pk c.2 b.2.length).bind fun j => if 0 ≤ j.1 ∧ j.1 < b.2.length then (tx j.2 [[122,122],[97,103,101,110,116],[118,97,114,110,105,115,104,101,114]]).bind fun t => some (t.2,b.2.set j.1.toNat (nmAt b.2 j.1.toNat,[t.1])) else none else some (c.2,b.2))
   else if c.1 = 2 then (am c.2 [12,13]).bind fun q => if 0 ≤ q.1 ∧ q.1 ≤ 100 then some (q.2,(List.range q.1.toNat).map fun k => ([110,UInt8.ofNat (97 + k)],[])) else none
   else some (c.2,b.2)
def toRole (p : List UInt8 × List (List UInt8)) : roleE.ty := (p.1,p.2,())
noncomputable def Zqo (on : srcE.ty → Int → Option (Bool × srcE.ty)) (pk : srcE.ty → Int → Option (Int × srcE.ty)) (tx : srcE.ty → List (List UInt8) → Option (List UInt8 × srcE.ty)) (am : srcE.ty → List Int → Option (Int × srcE.ty)) : Callee :=
 { io := [true],ps := [.box srcE],rs := [.d (.one (.sl roleE))],os := [.box srcE],f := fun x => (drF on pk tx am x.1).map fun r => (r.2.map toRole,r.1) }
structure Zq1 (P : Program) (fn no np nt na : Nat) (e eS : TypeId) : Prop where
 en : Entered P fn
 run : ∀ (φ : Nat → Nat) (go gp gt ga : Nat) (on : srcE.ty → Int → Option (Bool × srcE.ty)) (pk : srcE.ty → Int → Option (Int × srcE.ty)) (tx : srcE.ty → List (List UInt8) → Option (List UInt8 × srcE.ty)) (am : srcE.ty → List Int → Option (Int × srcE.ty)),φ go = no → φ gp = np → φ gt = nt → φ ga = na →
  (∀ x n y x',on x n = some (y,x') → CallOk P φ go [.iob 3 [srcE.enc x],.int .i64 n] [.bool y] [.iob 3 [srcE.enc x']]) →
  (∀ x n y x',pk x n = some (y,x') → CallOk P φ gp [.iob 3 [srcE.enc x],.int .i64 n] [.int .i64 y] [.iob 3 [srcE.enc x']]) →
  (∀ x ns y x',tx x ns = some (y,x') → CallOk P φ gt [.iob 3 [srcE.enc x],.sl 1 (ns.map strE.enc)] [.str y] [.iob 3 [srcE.enc x']]) →
  (∀ x ns y x',am x ns = some (y,x') → CallOk P φ ga [.iob 3 [srcE.enc x],.sl 1 (ns.map i64E.enc)] [.int .i64 y] [.iob 3 [srcE.enc x']]) →
  ∀ (x0 x1 : srcE.ty) (ys : List (List UInt8 × List (List UInt8))),drF on pk tx am x0 = some (x1,ys) →
  ∀ (S : Nat) (K : Nat → Prop) (v : Value) (w : World),Rst P φ S e eS K x0 v [] (.slice none 0 0) w →
  Calls P fn #[v] w fun r w' => ∃ ad n cp,r = .returned (.slice ad n cp) ∧ Fq S v w w' ∧ Rst P φ S e eS K x1 v ys (.slice ad n cp) w'
section
variable {P : Program} {φ : Nat → Nat}
theorem Z1f {on : srcE.ty → Int → Option (Bool × srcE.ty)} {pk : srcE.ty → Int → Option (Int × srcE.ty)} {tx : srcE.ty → List (List UInt8) → Option (List UInt8 × srcE.ty)} {am : srcE.ty → List Int → Option (Int × srcE.ty)} {fn no np nt na g go gp gt ga : Nat} {e eS : TypeId} (L : Zq1 P fn no np nt na e eS) (hφ : [g,go,gp,gt,ga].map φ = [fn,no,np,nt,na])
 (oo : ∀ x n y x',on x n = some (y,x') → CallOk P φ go [.iob 3 [srcE.enc x],.int .i64 n] [.bool y] [.iob 3 [srcE.enc x']])
 (op : ∀ x n y x',pk x n = some (y,x') → CallOk P φ gp [.iob 3 [srcE.enc x],.int .i64 n] [.int .i64 y] [.iob 3 [srcE.enc x']])
 (ot : ∀ x ns y x',tx x ns = some (y,x') → CallOk P φ gt [.iob 3 [srcE.enc x],.sl 1 (ns.map strE.enc)] [.str y] [.iob 3 [srcE.enc x']])
 (oa : ∀ x ns y x',am x ns = some (y,x') → CallOk P φ ga [.iob 3 [srcE.enc x],.sl 1 (ns.map i64E.enc)] [.int .i64 y] [.iob 3 [srcE.enc x']]) : FOk P φ g (Zqo on pk tx am) := by
 simp only [List.map_cons,List.map_nil,List.cons.injEq,and_true] at hφ
 obtain ⟨h1,h2,h3,h4,h5⟩ := hφ
 refine ⟨by rw [h1]; exact L.en,fun as res outs hc => ?_⟩
 unfold Callee.cf at hc
 split at hc
 rotate_left
 ·cases hc
 rename_i hx
 obtain ⟨y,hy,hr⟩ := Option.map_eq_some_iff.1 hc
 have hn := hx.choose_spec.2
 generalize hx.choose = x at hn hy
 obtain ⟨x,⟨⟩⟩ := x
 obtain ⟨⟨x1,ys⟩,hd,rfl⟩ := Option.map_eq_some_iff.1 (show (drF on pk tx am x).map (fun r => (r.2.map toRole,r.1)) = some y from hy)
 obtain rfl := Z5y hn
 have e2 : resA (Zqo on pk tx am) (ys.map toRole,x1) = ([.sl 2 ((ys.map toRole).map roleE.enc)],[.iob 3 [srcE.enc x1]]) := by
  have q : ((ET.one (.sl roleE)).v (ys.map toRole)).a = (ET.one (.sl roleE)).enc (ys.map toRole) := ET.v_a _ _
  have q2 : (srcE.v x1).a = srcE.enc x1 := ET.v_a _ _
  show ([((ET.one (.sl roleE)).v (ys.map toRole)).a],[A.iob 3 [(srcE.v x1).a]]) = _
  rw [q,q2]
  rfl
 rw [e2] at hr
 cases hr
 intro w K vs bs ha hnd hb hK hG
 cases ha with
 | cons v _ b0 vs _ bs1 hv t =>
 cases t
 cases hv with
 | data _ h => cases h
 | iob _ _ _ hbox =>
 obtain ⟨B,o,rfl,rfl,hB⟩ := Zof hbox
 have hM : Rst P φ w.heap.size e eS K x (.pointer (some ⟨B,o,none⟩)) [] (.slice none 0 0) w :=
  ⟨K,⟨fun _ h => h,fun _ h => .inl h⟩,fun _ => False,B,hbox,.nil e eS none w,fun b h => h.elim,fun b hk => ⟨hK b hk,fun e => hb B (by simp) (e ▸ hk)⟩,hG,Nat.le_refl _,hB⟩
 rw [h1]
 refine (L.run φ go gp gt ga on pk tx am h2 h3 h4 h5 oo op ot oa x x1 ys hd w.heap.size K _ w hM).mono fun r w' ⟨ad,n,cp,hr,hq,hm⟩ => ?_
 subst hr
 obtain ⟨K1,O,B',hW,g1,g5,g6,g9,gr⟩ := hm.fin
 have hBB : B' = B := by
  obtain ⟨B2,o2,e1,e2,_⟩ := Zof g1
  cases e1; cases e2; rfl
 subst hBB
 refine ⟨_,rfl,hq.size,fun b hb1 hb2 => hq.block b hb1 fun o' e => hb2 (by cases e; simp),⟨hq.os,hq.output⟩,fun b off hb1 => hq.frz b off hb1,fun b n hr => hq.room b n hr.lt hr,?_⟩
 refine ⟨[.slice ad n cp],fun b => K1 b ∨ O b,[],[B'],rfl,fun b hb => .inl (hW.1 b hb),fun b hb => ?_,.cons _ _ [] _ _ _ (.data _ _ (gr.mono (fun _ _ => rfl) fun b hb => .inr hb)) .nil,.iob _ _ _ _ [B'] _ _ _ _ (g1.mono fun b hb => .inl hb) .nil,by simp,fun b hb => ?_⟩
 ·rcases hb with hb | hb
  ·exact (hW.2 b hb).imp id fun h => .inr h
  ·exact .inr (.inr ⟨(g5 b hb).1,(g5 b hb).2.1⟩)
 ·obtain rfl : b = B' := by simpa using hb
  refine ⟨fun h => h.elim (fun h => (g6 _ h).2 rfl) fun h => (g5 _ h).2.2.2 rfl,g9,.inl (by simp)⟩
end
section
variable {P : Program} {φ : Nat → Nat} {S : Nat} {e eS : TypeId} {K0 K1 : Nat → Prop} {x : srcE.ty} {v3 : Value} {xs : List (List UInt8 × List (List UInt8))} {vout : Value} {w : World}
theorem Rst.base (h : Rst P φ S e eS K1 x v3 xs vout w) (h1 : ∀ b,K0 b → K1 b) (h2 : ∀ b,K1 b → K0 b ∨ (S ≤ b ∧ b < w.heap.size)) : Rst P φ S e eS K0 x v3 xs vout w := by
 obtain ⟨K,hK,h⟩ := h
 refine ⟨K,⟨fun b hb => hK.1 b (h1 b hb),fun b hb => ?_⟩,h⟩
 rcases hK.2 b hb with h | h
 ·exact h2 b h
 ·exact .inr h
theorem Rst.lit' (h : Rst P φ S e eS K0 x v3 xs vout w) (C : Array Value) (t : TypeId) : Rst P φ S e eS (fun b => K0 b ∨ b = w.heap.size) x v3 xs vout (w.alloc (.cells C t)) := by
 obtain ⟨K,hk,hK,h⟩ := h.lit C t
 refine ⟨K,⟨fun b hb => hb.elim (hK.1 b) fun e => e ▸ hk,fun b hb => ?_⟩,h⟩
 rcases hK.2 b hb with h | h
 ·exact .inl (.inl h)
 ·exact .inr h
end
section
variable {P : Program} {φ : Nat → Nat}
theorem Zka {D : List (Nat × Callee)} {H : List (Nat × ET)} {fn : Fn} {E E' R : ET} {g : Nat} (h : FOk P φ g (Zad D H fn [.d E,.d E'] [.tok R] [])) {x : E.ty} {x' : E'.ty} {y : List R.ty} (hf : (Zad D H fn [.d E,.d E'] [.tok R] []).f (x,x',()) = some y) :
 CallOk P φ g [E.enc x,E'.enc x'] [.tok 0 R.z (y.map R.enc)] [] := by
 have e : (Zad D H fn [.d E,.d E'] [.tok R] []).cf [E.enc x,E'.enc x'] = some ([.tok 0 R.z (y.map R.enc)],[]) := by
  rw [Callee.cf_eq (c := Zad D H fn [.d E,.d E'] [.tok R] []) (as := [E.enc x,E'.enc x']) (x := (x,x',())) rfl (by
   show normU [MT.d E,.d E'] [E.enc x,E'.enc x'] = [(E.v x).a,(E'.v x').a]
   rw [Zge rfl,ET.v_a,ET.v_a]),hf]
  rfl
 exact h.2 _ _ _ e
end
end Go.Ab
