/- slices.DeleteFunc of texts. Conditions: none. -/
import Derived.Test.YtfpkhebdkjpcmaaLD
import Derived.WalkKit
set_option linter.unusedVariables false
set_option linter.unusedSimpArgs false
namespace Go.Ab
open Go.RowKit
abbrev encS : List UInt8 → Value := fun l => Value.string ⟨l.toArray⟩
@[reducible] def setE : ET := .agg (.cons .str (.cons (.int .i64) .nil))
def strikeO (val : List setE.ty → List UInt8 → Option Int) (b0 a c : List setE.ty) (n : List UInt8) : Option Bool :=
 (val a n).bind fun x => (val c n).bind fun y => (val b0 n).bind fun z => some (x == y || (x == z || y == z))
def filtO (d : List UInt8 → Option Bool) : List (List UInt8) → Option (List (List UInt8))
 | [] => some []
 | n :: ns => (d n).bind fun b => (filtO d ns).map fun r => if b then r else n :: r
def confF (val : List setE.ty → List UInt8 → Option Int) (b0 a c : List setE.ty) (ns : List (List UInt8)) : Option (List (List UInt8)) :=
 if ns.length < 4611686018427387904 then filtO (strikeO val b0 a c) ns else none
noncomputable def conflictsC (nm : List (List setE.ty) → Option (List (List UInt8))) (val : List setE.ty → List UInt8 → Option Int) : Callee :=
 { io := [],ps := [.d (.one (.sl setE)),.d (.one (.sl setE)),.d (.one (.sl setE))],rs := [.d (.one (.sl (.one .str)))],os := [],
   f := fun x => (nm [x.1,x.2.1,x.2.2.1]).bind (confF val x.1 x.2.1 x.2.2.1) }
theorem filtO_total {d : List UInt8 → Option Bool} : ∀ {ns r : List (List UInt8)},filtO d ns = some r → (∀ n,n ∈ ns → ∃ b,d n = some b) ∧ r = ns.filter fun n => !((d n).getD false)
 | [],r,h => by cases h; exact ⟨fun n h => (by cases h),rfl⟩
 | n :: ns,r,h => by
   obtain ⟨b,hb,h1⟩ := Option.bind_eq_some_iff.1 (show ((d n).bind fun b => (filtO d ns).map fun r => if b then r else n :: r) = some r from h)
   obtain ⟨r1,hr,rfl⟩ := Option.map_eq_some_iff.1 h1
   obtain ⟨i1,i2⟩ := filtO_total hr
   refine ⟨fun m hm => ?_,?_⟩
   ·rcases List.mem_cons.1 hm with rfl | hm
    ·exact ⟨b,hb⟩
    ·exact i1 m hm
   ·rw [List.filter_cons,hb,i2]
    cases b <;> rfl
theorem Turned.lo {b : Nat} {w W W' : World} (h : Turned b w W) (h' : Lo W.heap.size W W') : Turned b w W' :=
 ⟨Nat.le_trans h.size h'.size,fun q hq hn => (h'.block q (Nat.lt_of_lt_of_le hq h.size)).trans (h.block q hq hn),h'.os.trans h.os,h'.output.trans h.output,
   fun q off hq => (frozen?_of_block (h'.block q (Nat.lt_of_lt_of_le hq h.size)) off).trans (h.fr q off hq),
   fun q n hr => have hr1 := h.room q n hr; hr1.of_block (h'.block q hr1.lt)⟩
theorem Turned.setCell {b : Nat} {w w1 : World} (h : Turned b w w1) (o : Nat) (v : Value) : Turned b w (w1.setCell ⟨b,o,none⟩ v) := h.setCells (.inl rfl) o [v]
def Reads (P : Program) (g : Nat) (lb : Array Value) (p : List UInt8 → Bool) (xs : List (List UInt8)) (b : Nat) (w : World) : Prop :=
 ∀ (W : World) (x : List UInt8),x ∈ xs → Turned b w W → Calls P g (#[encS x] ++ lb) W fun e W' => e = .returned (.bool (p x)) ∧ Lo W.heap.size W W'
def firstAt (p : List UInt8 → Bool) : List (List UInt8) → Nat → Option Nat
 | [],_ => none
 | x :: xs,i => if p x then some i else firstAt p xs (i + 1)
theorem firstAt_none {p : List UInt8 → Bool} : ∀ {xs : List (List UInt8)} {i : Nat},firstAt p xs i = none → xs.filter (fun x => !p x) = xs
 | [],_,_ => rfl
 | x :: xs,i,h => by
   rw [firstAt] at h
   split at h
   ·cases h
   ·rename_i hp
    have hp' : p x = false := by simpa using hp
    rw [List.filter_cons,hp',firstAt_none h]; rfl
theorem firstAt_some {p : List UInt8 → Bool} : ∀ {xs : List (List UInt8)} {i k : Nat},firstAt p xs i = some k → i ≤ k ∧ k < i + xs.length ∧ (xs.take (k - i)).filter (fun x => !p x) = xs.take (k - i) ∧ (xs.take (k - i + 1)).filter (fun x => !p x) = xs.take (k - i)
 | [],_,_,h => by cases h
 | x :: xs,i,k,h => by
   rw [firstAt] at h
   split at h
   ·rename_i hp
    cases h
    refine ⟨Nat.le_refl _,by simp,?_,?_⟩
    ·simp
    ·simp [hp]
   ·rename_i hp
    have hp' : p x = false := by simpa using hp
    obtain ⟨h1,h2,h3,h4⟩ := firstAt_some h
    obtain ⟨m,rfl⟩ : ∃ m,k = i + 1 + m := ⟨k - (i + 1),by omega⟩
    have e1 : i + 1 + m - (i + 1) = m := by omega
    have e2 : i + 1 + m - i = m + 1 := by omega
    rw [e1] at h3 h4
    rw [e2]
    refine ⟨by omega,by simp only [List.length_cons]; omega,?_,?_⟩
    ·rw [List.take_succ_cons,List.filter_cons,hp',h3]; rfl
    ·rw [List.take_succ_cons,List.filter_cons,hp',h4]; rfl
structure KeptIn (p : List UInt8 → Bool) (xs : List (List UInt8)) (i j : Nat) (ys : List (List UInt8)) : Prop where
 len : ys.length = xs.length
 lt : i < j
 le : j ≤ xs.length
 low : ys.take i = (xs.take j).filter fun x => !p x
 high : ys.drop j = xs.drop j
theorem KeptIn.start {p : List UInt8 → Bool} {xs : List (List UInt8)} {k : Nat} (h : firstAt p xs 0 = some k) : KeptIn p xs k (k + 1) xs := by
 obtain ⟨h1,h2,h3,h4⟩ := firstAt_some h
 exact ⟨rfl,Nat.lt_succ_self _,by omega,by rw [Nat.sub_zero] at h4; exact h4.symm,rfl⟩
theorem KeptIn.at {p : List UInt8 → Bool} {xs ys : List (List UInt8)} {i j : Nat} (h : KeptIn p xs i j ys) (hj : j < xs.length) : ys[j]? = some xs[j] := by
 have := congrArg (fun l => l[0]?) h.high
 simp only [List.getElem?_drop,Nat.add_zero] at this
 rw [this,List.getElem?_eq_getElem hj]
theorem KeptIn.skip {p : List UInt8 → Bool} {xs ys : List (List UInt8)} {i j : Nat} (h : KeptIn p xs i j ys) (hj : j < xs.length) (hp : p xs[j] = true) : KeptIn p xs i (j + 1) ys :=
 ⟨h.len,Nat.lt_succ_of_lt h.lt,hj,by rw [List.take_succ_eq_append_getElem hj,List.filter_append,h.low]; simp [hp],by
   rw [← List.drop_drop,← List.drop_drop,h.high]⟩
theorem KeptIn.keep {p : List UInt8 → Bool} {xs ys : List (List UInt8)} {i j : Nat} (h : KeptIn p xs i j ys) (hj : j < xs.length) (hp : p xs[j] = false) : KeptIn p xs (i + 1) (j + 1) (ys.set i xs[j]) := by
 have hl := h.len
 have hij := h.lt
 refine ⟨by rw [List.length_set]; exact hl,by omega,hj,?_,?_⟩
 ·rw [List.take_succ_eq_append_getElem hj,List.filter_append,← h.low,List.take_succ_eq_append_getElem (by rw [List.length_set]; omega),List.take_set_of_le (Nat.le_refl _),List.getElem_set_self]
  simp [hp]
 ·rw [List.drop_set_of_lt (by omega),← List.drop_drop,h.high,List.drop_drop]
def posOf : Option Nat → Int
 | some k => (k : Int)
 | none => -1
theorem firstAt_drop {p : List UInt8 → Bool} {xs : List (List UInt8)} : ∀ (k : Nat),(∀ j (hj : j < xs.length),j < k → p xs[j] = false) → firstAt p xs 0 = firstAt p (xs.drop k) k
 | 0,_ => rfl
 | k + 1,h => by
   rw [firstAt_drop k fun j hj hjk => h j hj (by omega)]
   by_cases hl : k < xs.length
   ·rw [List.drop_eq_getElem_cons hl,firstAt,h k hl (by omega)]; rfl
   ·rw [List.drop_eq_nil_of_le (by omega),List.drop_eq_nil_of_le (by omega)]; rfl
structure IndexWalk (P : Program) (ix : Nat) : Prop where
 run : ∀ (g : Nat) (lb : Array Value) (eg : ∀ args w,(callFunc g args).run P w = .ok (.enter g args) w) (p : List UInt8 → Bool) (b o c : Nat) (xs : List (List UInt8)) (w : World),xs.length < 4611686018427387904 → Cells w b o (xs.map encS) → b < w.heap.size → Reads P g lb p xs b w →
  Calls P ix #[.slice (some ⟨b,o,none⟩) xs.length c,.func (.func g) #[] lb] w fun e w' => e = .returned (.int .i64 (posOf (firstAt p xs 0))) ∧ Lo w.heap.size w w'
 nil : ∀ (g : Nat) (lb : Array Value) (ad : Option Addr) (w : World),Calls P ix #[.slice ad 0 0,.func (.func g) #[] lb] w fun e w' => e = .returned (.int .i64 (-1)) ∧ Lo w.heap.size w w'
theorem cells_set1 {w : World} {b o i : Nat} {vs : List Value} (h : Cells w b o vs) (hi : i < vs.length) (v : Value) : Cells (w.setCell ⟨b,o + i,none⟩ v) b o (vs.set i v) := fun j u hj => by
 by_cases e : i = j
 ·subst e
  rw [List.getElem?_set_self hi] at hj
  cases hj
  exact World.cell?_setCell_same' _ _ _ (by rw [h i vs[i] (List.getElem?_eq_getElem hi)]; rfl)
 ·rw [List.getElem?_set_ne e] at hj
  rw [World.cell?_setCell_other _ _ _ _ (by simp <;> omega)]
  exact h j u hj
theorem cells_out {w : World} {b o i : Nat} {vs : List Value} (h : Cells w b o vs) (zs : List Value) : Cells (w.setCells b (o + i) zs) b o (vs.take i) := fun j u hj => by
 have hji : j < i := by
  have := (List.getElem?_eq_some_iff.1 hj).1
  rw [List.length_take] at this; omega
 rw [World.cell?_setCells_out b zs _ w ⟨b,o + j,none⟩ (fun _ _ => .inl (by simp; omega))]
 exact h.take i j u hj
structure DelFuncWalk (P : Program) (df : Nat) : Prop where
 run : ∀ (g : Nat) (lb : Array Value) (eg : ∀ args w,(callFunc g args).run P w = .ok (.enter g args) w) (p : List UInt8 → Bool) (b o c : Nat) (xs : List (List UInt8)) (w : World),xs.length < 4611686018427387904 → xs.length ≤ c → c ≠ 0 → Cells w b o (xs.map encS) → Room 1 w b (o + c * 1) → Reads P g lb p xs b w →
  Calls P df #[.slice (some ⟨b,o,none⟩) xs.length c,.func (.func g) #[] lb] w fun e w' => e = .returned (.slice (some ⟨b,o,none⟩) (xs.filter fun x => !p x).length c) ∧ Cells w' b o ((xs.filter fun x => !p x).map encS) ∧ Turned b w w'
 none : ∀ (g : Nat) (lb : Array Value) (ad : Option Addr) (w : World),Calls P df #[.slice ad 0 0,.func (.func g) #[] lb] w fun e w' => e = .returned (.slice ad 0 0) ∧ Lo w.heap.size w w'
def strikeB (vl : Nat → List UInt8 → Int) (x : List UInt8) : Bool := vl 1 x == vl 2 x || (vl 1 x == vl 0 x || vl 2 x == vl 0 x)
structure ConfWalk (P : Program) (fn nf vf : Nat) : Prop where
 en : Entered P fn
 run : ∀ (a0 a1 a2 : Option Addr) (n0 n1 n2 c0 c1 c2 : Nat) (xs : List (List UInt8)) (vl : Nat → List UInt8 → Int) (w : World),xs.length < 4611686018427387904 →
  (∀ (W : World) (q : Nat),Lo w.heap.size w W → w.heap.size ≤ q → (∃ t,W.heap[q]? = some (.cells #[.slice a0 n0 c0,.slice a1 n1 c1,.slice a2 n2 c2] t)) → Calls P nf #[.slice (some ⟨q,0,none⟩) 3 3] W fun e W' => Lo W.heap.size W W' ∧ ∃ v,e = .returned v ∧
    ((∃ ad,v = .slice ad 0 0 ∧ xs = []) ∨ ∃ b o c,v = .slice (some ⟨b,o,none⟩) xs.length c ∧ W.heap.size ≤ b ∧ xs.length ≤ c ∧ c ≠ 0 ∧ Cells W' b o (xs.map encS) ∧ Room 1 W' b (o + c * 1))) →
  (∀ (W : World) (k : Nat) (v : Value) (x : List UInt8),[Value.slice a0 n0 c0,.slice a1 n1 c1,.slice a2 n2 c2][k]? = some v → x ∈ xs → Lo w.heap.size w W → Calls P vf #[v,encS x] W fun e W' => e = .returned (.int .i64 (vl k x)) ∧ Lo W.heap.size W W') →
  Calls P fn #[.slice a0 n0 c0,.slice a1 n1 c1,.slice a2 n2 c2] w fun e w' => Lo w.heap.size w w' ∧ ∃ v',e = .returned v' ∧
   ((∃ ad,v' = .slice ad 0 0 ∧ xs.filter (fun x => !strikeB vl x) = []) ∨ ∃ b o c,v' = .slice (some ⟨b,o,none⟩) (xs.filter fun x => !strikeB vl x).length c ∧ w.heap.size ≤ b ∧ b < w'.heap.size ∧
     (xs.filter fun x => !strikeB vl x).length ≤ c ∧ Cells w' b o ((xs.filter fun x => !strikeB vl x).map encS))
section
variable {P : Program} {φ : Nat → Nat}
theorem CallOk.of_new' {g : Nat} {al : List A} {a : A} (hn : al.any lentA = false)
 (h : ∀ (w : World) (K : Nat → Prop) (vs : List Value),Reps φ w K vs al → (∀ b,K b → b < w.heap.size) → Glob P K w →
   Calls P (φ g) vs.toArray w fun e w' => ∃ v,e = .returned v ∧ Lo w.heap.size w w' ∧ Rep φ w' (fun b => w.heap.size ≤ b ∧ b < w'.heap.size) v a) : CallOk P φ g al [a] [] := by
 intro w K vs bs ha hnd hKb hKz hG
 obtain ⟨hr,rfl⟩ := ha.noLent hn
 refine (h w K vs hr hKz hG).mono fun e w' hh => ?_
 obtain ⟨v,rfl,hb,h3⟩ := hh
 refine ⟨_,rfl,hb.size,fun b hb' _ => hb.block b hb',⟨hb.os,hb.output⟩,fun b off hb' => frozen?_block (hb.block b hb') off,fun b n hr => hr.of_block (hb.block b hr.lt),?_⟩
 exact ⟨[v],fun b => K b ∨ (w.heap.size ≤ b ∧ b < w'.heap.size),[],[],rfl,fun _ h => .inl h,fun _ h => h.elim .inl fun h => .inr (.inr h),
  ResReps.of_reps (.cons _ _ _ _ (h3.mono (fun _ _ => rfl) fun _ h => .inr h) .nil),OutReps.data_all ha.len hn,by simp,fun b hb' => by simp at hb'⟩
theorem rep_slice {w : World} {K : Nat → Prop} {v : Value} {z : Nat} {xs : List A} (h : Rep φ w K v (.sl z xs)) : ∃ ad n c,v = .slice ad n c := by
 cases h with
 | slE ad c z => exact ⟨_,_,_,rfl⟩
 | sl => exact ⟨_,_,_,rfl⟩
theorem texts_inv {w : World} {K : Nat → Prop} : ∀ {xs : List (List UInt8)} {vs : List Value},Reps φ w K vs ((xs.map strE.enc).flatMap A.cells) → vs = xs.map encS
 | [],_,h => by cases h; rfl
 | s :: xs,_,h => by
   have h' : Reps φ w K _ (A.str s :: (xs.map strE.enc).flatMap A.cells) := h
   cases h' with
   | cons v _ vs _ h t => cases h; rw [texts_inv t,List.map_cons]
theorem texts_reps {w : World} {K : Nat → Prop} : ∀ (xs : List (List UInt8)),Reps φ w K (xs.map encS) ((xs.map strE.enc).flatMap A.cells)
 | [] => .nil
 | s :: xs => .cons _ _ _ _ (.str s) (texts_reps xs)
theorem conflicts_ok {nm : List (List setE.ty) → Option (List (List UInt8))} {val : List setE.ty → List UInt8 → Option Int} {g gn gv fn nf vf : Nat} (L : ConfWalk P fn nf vf) (hφ : [g,gn,gv].map φ = [fn,nf,vf])
 (on : ∀ x ns,nm x = some ns → CallOk P φ gn [(ET.one (.sl (.one (.sl setE)))).enc x] [.tok 0 1 (ns.map strE.enc)] [])
 (ov : ∀ l n y,val l n = some y → CallOk P φ gv [(ET.one (.sl setE)).enc l,(ET.one .str).enc n] [(ET.one (.int .i64)).enc y] []) : FOk P φ g (conflictsC nm val) := by
 simp only [List.map_cons,List.map_nil,List.cons.injEq,and_true] at hφ
 obtain ⟨h1,h2,h3⟩ := hφ
 refine FOk.of_contract (by rw [h1]; exact L.en) rfl rfl fun x y hy => ?_
 obtain ⟨b0,a,c,⟨⟩⟩ := x
 obtain ⟨ns,hns,hy⟩ := Option.bind_eq_some_iff.1 (show (nm [b0,a,c]).bind (confF val b0 a c) = some y from hy)
 unfold confF at hy
 split at hy
 rotate_left
 ·cases hy
 rename_i hlen
 obtain ⟨t1,t2⟩ := filtO_total hy
 have e1 : encU (conflictsC nm val).ps (b0,a,c,()) = [(ET.one (.sl setE)).enc b0,(ET.one (.sl setE)).enc a,(ET.one (.sl setE)).enc c] := by
  show [((ET.one (.sl setE)).v b0).a,((ET.one (.sl setE)).v a).a,((ET.one (.sl setE)).v c).a] = _
  rw [ET.v_a,ET.v_a,ET.v_a]
 have e2 : resA (conflictsC nm val) y = ([.sl 1 ((show List (List UInt8) from y).map strE.enc)],[]) := by
  have q : ((ET.one (.sl strE)).v (show List (List UInt8) from y)).a = (ET.one (.sl strE)).enc (show List (List UInt8) from y) := ET.v_a _ _
  exact congrArg (fun z => (([z] : List A),([] : List A))) q
 rw [e1,e2]
 refine CallOk.of_new' rfl fun w K vs hr hK hG => ?_
 cases hr with
 | cons v0 _ vs _ r0 t =>
 cases t with
 | cons v1 _ vs _ r1 t =>
 cases t with
 | cons v2 _ vs _ r2 t =>
 cases t
 have r0' : Rep φ w K v0 (.sl 2 (b0.map setE.enc)) := r0
 have r1' : Rep φ w K v1 (.sl 2 (a.map setE.enc)) := r1
 have r2' : Rep φ w K v2 (.sl 2 (c.map setE.enc)) := r2
 obtain ⟨d0,n0,c0,rfl⟩ := rep_slice r0'
 obtain ⟨d1,n1,c1,rfl⟩ := rep_slice r1'
 obtain ⟨d2,n2,c2,rfl⟩ := rep_slice r2'
 obtain ⟨vl,hvl⟩ : ∃ vl : Nat → List UInt8 → Int,vl = fun k x => ((match k with | 0 => val b0 x | 1 => val a x | _ => val c x).getD 0) := ⟨_,rfl⟩
 have hval : ∀ x,x ∈ ns → val b0 x = some (vl 0 x) ∧ val a x = some (vl 1 x) ∧ val c x = some (vl 2 x) := fun x hx => by
  obtain ⟨b,hb⟩ := t1 x hx
  obtain ⟨p,hp,hb⟩ := Option.bind_eq_some_iff.1 (show ((val a x).bind fun p => (val c x).bind fun y => (val b0 x).bind fun z => some (p == y || (p == z || y == z))) = some b from hb)
  obtain ⟨q,hq,hb⟩ := Option.bind_eq_some_iff.1 hb
  obtain ⟨z,hz,hb⟩ := Option.bind_eq_some_iff.1 hb
  simp only [hvl,hp,hq,hz,Option.getD_some,and_self]
 have hst : ∀ x,x ∈ ns → (!(strikeO val b0 a c x).getD false) = !strikeB vl x := fun x hx => by
  obtain ⟨q0,q1,q2⟩ := hval x hx
  unfold strikeO strikeB
  rw [q0,q1,q2]; rfl
 have hyf : (show List (List UInt8) from y) = ns.filter fun x => !strikeB vl x := t2.trans (List.filter_congr hst)
 have hrun := L.run d0 d1 d2 n0 n1 n2 c0 c1 c2 ns vl w hlen (fun W q hL hq ⟨tt,hb⟩ => by
  have hqW : q < W.heap.size := by
   rcases Nat.lt_or_ge q W.heap.size with h | h
   ·exact h
   ·rw [Array.getElem?_eq_none h] at hb; cases hb
  have hwW := hL.size
  have up : ∀ {v : Value} {x : A},Rep φ w K v x → Rep φ W (fun b => K b ∨ b = q) v x := fun h => h.mono (fun b hb => hL.block b (hK b hb)) fun b hb => .inl hb
  have rr : Rep φ W (fun b => K b ∨ b = q) (.slice (some ⟨q,0,none⟩) 3 3) ((ET.one (.sl (.one (.sl setE)))).enc [b0,a,c]) :=
   Rep.sl (φ := φ) (w := W) (ok := fun b => K b ∨ b = q) q 0 3 1 ([b0,a,c].map (ET.one (.sl setE)).enc) [Value.slice d0 n0 c0,.slice d1 n1 c1,.slice d2 n2 c2] (.inr rfl) (fun x hx => by
    obtain ⟨z,_,rfl⟩ := List.mem_map.1 hx; rfl) (by simp) (.cons _ _ _ _ (up r0) (.cons _ _ _ _ (up r1) (.cons _ _ _ _ (up r2) .nil))) (fun j u hj => by
    simp only [World.cell?,hb,Nat.zero_add]
    rw [← hj]; simp)
  have hcall := (on _ _ hns).own (w := W) (K := fun b => K b ∨ b = q) (vs := [.slice (some ⟨q,0,none⟩) 3 3]) (.cons _ _ _ _ rr .nil) (fun b hb => hb.elim (fun h => Nat.lt_of_lt_of_le (hK b h) hwW) (fun h => by rw [h]; exact hqW)) (hG.on (fun b hb => .inl hb) fun b hb => hL.block b (hK b hb))
  rw [← h2]
  refine hcall.mono fun e W' hh => ?_
  obtain ⟨ad,n,cp,rfl,hlo,ho⟩ := hh
  refine ⟨hlo,_,rfl,?_⟩
  obtain ⟨o1,o2,ob,o3,o4⟩ := ho
  generalize hzs : ns.map strE.enc = zs at o3
  generalize hvv : Value.slice ad n cp = vv at o3
  cases o3 with
  | empty ad' z' =>
    cases ns with
    | nil => exact .inl ⟨ad',rfl,rfl⟩
    | cons _ _ => simp at hzs
  | mk b o cap z' zs us hc hc0 hzz hrr hcc hroom =>
    subst hzs
    obtain rfl := texts_inv hrr
    rw [List.length_map] at hc
    exact .inr ⟨b,o,cap,by rw [List.length_map],(o4 b rfl).1,hc,hc0,hcc,hroom⟩)
  (fun W k v x hk hx hL => by
    have hwW := hL.size
    obtain ⟨q0,q1,q2⟩ := hval x hx
    have up : ∀ {v : Value} {x : A},Rep φ w K v x → Rep φ W K v x := fun h => h.mono (fun b hb => hL.block b (hK b hb)) fun b hb => hb
    have fin : ∀ {l : List setE.ty} {y : Int} {v : Value},val l x = some y → Rep φ w K v ((ET.one (.sl setE)).enc l) → Calls P vf #[v,encS x] W fun e W' => e = .returned (.int .i64 y) ∧ Lo W.heap.size W W' := fun hv hr => by
     have := (ov _ _ _ hv).num (w := W) (K := K) (vs := [_,encS x]) (.cons _ _ _ _ (up hr) (.cons _ _ _ _ (.str x) .nil)) (fun b hb => Nat.lt_of_lt_of_le (hK b hb) hwW) (hG.on (fun b hb => hb) fun b hb => hL.block b (hK b hb))
     rw [h3] at this
     exact this
    match k,hk with
    | 0,hk => cases hk; exact fin q0 r0
    | 1,hk => cases hk; exact fin q1 r1
    | 2,hk => cases hk; exact fin q2 r2)
 rw [h1]
 refine hrun.mono fun e w' hh => ?_
 obtain ⟨hl,v',rfl,hh⟩ := hh
 refine ⟨v',rfl,hl,?_⟩
 rw [hyf]
 rcases hh with ⟨ad,rfl,hf⟩ | ⟨b,o,cp,rfl,q1,q2,q3,q4⟩
 ·rw [hf]; exact .slE ad 0 1
 ·have := Rep.sl (φ := φ) (w := w') (ok := fun b => w.heap.size ≤ b ∧ b < w'.heap.size) b o cp 1 ((ns.filter fun x => !strikeB vl x).map strE.enc) _ ⟨q1,q2⟩ (fun x hx => by
   obtain ⟨z,_,rfl⟩ := List.mem_map.1 hx; rfl) (by rw [List.length_map]; exact q3) (texts_reps _) q4
  rw [List.length_map] at this
  exact this
end
end Go.Ab
