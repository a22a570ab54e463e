/- slices.DeleteFunc of texts. Conditions: none. -/
import Derived.Test.YtljcekgbidbkbaaLD
import Derived.WalkKit
set_option linter.unusedVariables false
set_option linter.unusedSimpArgs false
namespace Go.Ab
open Go.RowKit
abbrev encS : List UInt8 → Value := fun l => Value.string ⟨l.toArray⟩
theorem Turned.lo {b : Nat} {w W W' : World} (h : Turned b w W) (h' : Lo W.heap.size W W') : Turned b w W' :=
 ⟨Nat.le_trans h.size h'.size,fun q hq hn => (h'.block q (Nat.lt_of_lt_of_le hq h.size)).trans (h.block q hq hn),h'.os.trans h.os,h'.output.trans h.output,
   fun q off hq => (frozen?_of_block (h'.block q (Nat.lt_of_lt_of_le hq h.size)) off).trans (h.fr q off hq),
   fun q n hr => have hr1 := h.room q n hr; hr1.of_block (h'.block q hr1.lt)⟩
theorem Turned.setCell {b : Nat} {w w1 : World} (h : Turned b w w1) (o : Nat) (v : Value) : Turned b w (w1.setCell ⟨b,o,none⟩ v) := h.setCells (.inl rfl) o [v]
def Reads (P : Program) (g : Nat) (lb : Array Value) (p : List UInt8 → Bool) (xs : List (List UInt8)) (b : Nat) (w : World) : Prop :=
 ∀ (W : World) (x : List UInt8),x ∈ xs → Turned b w W → Calls P g (#[encS x] ++ lb) W fun e W' => e = .returned (.bool (p x)) ∧ Lo W.heap.size W W'
def firstAt (p : List UInt8 → Bool) : List (List UInt8) → Nat → Option Nat
 | [],_ => none
 | x :: xs,i => if p x then some i else firstAt p xs (i + 1)
theorem firstAt_some {p : List UInt8 → Bool} : ∀ {xs : List (List UInt8)} {i k : Nat},firstAt p xs i = some k → i ≤ k ∧ k < i + xs.length ∧ (xs.take (k - i)).filter (fun x => !p x) = xs.take (k - i) ∧ (xs.take (k - i + 1)).filter (fun x => !p x) = xs.take (k - i)
 | [],_,_,h => by cases h
 | x :: xs,i,k,h => by
   rw [firstAt] at h
   split at h
   ·rename_i hp
    cases h
    refine ⟨Nat.le_refl _,by simp,?_,?_⟩
    ·simp
    ·simp [hp]
   ·rename_i hp
    have hp' : p x = false := by simpa using hp
    obtain ⟨h1,h2,h3,h4⟩ := firstAt_some h
    obtain ⟨m,rfl⟩ : ∃ m,k = i + 1 + m := ⟨k - (i + 1),by omega⟩
    have e1 : i + 1 + m - (i + 1) = m := by omega
    have e2 : i + 1 + m - i = m + 1 := by omega
    rw [e1] at h3 h4
    rw [e2]
    refine ⟨by omega,by simp only [List.length_cons]; omega,?_,?_⟩
    ·rw [List.take_succ_cons,List.filter_cons,hp',h3]; rfl
    ·rw [List.take_succ_cons,List.filter_cons,hp',h4]; rfl
structure KeptIn (p : List UInt8 → Bool) (xs : List (List UInt8)) (i j : Nat) (ys : List (List UInt8)) : Prop where
 len : ys.length = xs.length
 lt : i < j
 le : j ≤ xs.length
 low : ys.take i = (xs.take j).filter fun x => !p x
 high : ys.drop j = xs.drop j
theorem KeptIn.start {p : List UInt8 → Bool} {xs : List (List UInt8)} {k : Nat} (h : firstAt p xs 0 = some k) : KeptIn p xs k (k + 1) xs := by
 obtain ⟨h1,h2,h3,h4⟩ := firstAt_some h
 exact ⟨rfl,Nat.lt_succ_self _,by omega,by rw [Nat.sub_zero] at h4; exact h4.symm,rfl⟩
theorem KeptIn.at {p : List UInt8 → Bool} {xs ys : List (List UInt8)} {i j : Nat} (h : KeptIn p xs i j ys) (hj : j < xs.length) : ys[j]? = some xs[j] := by
 have := congrArg (fun l => l[0]?) h.high
 simp only [List.getElem?_drop,Nat.add_zero] at this
 rw [this,List.getElem?_eq_getElem hj]
theorem KeptIn.skip {p : List UInt8 → Bool} {xs ys : List (List UInt8)} {i j : Nat} (h : KeptIn p xs i j ys) (hj : j < xs.length) (hp : p xs[j] = true) : KeptIn p xs i (j + 1) ys :=
 ⟨h.len,Nat.lt_succ_of_lt h.lt,hj,by rw [List.take_succ_eq_append_getElem hj,List.filter_append,h.low]; simp [hp],by
   rw [← List.drop_drop,← List.drop_drop,h.high]⟩
theorem KeptIn.keep {p : List UInt8 → Bool} {xs ys : List (List UInt8)} {i j : Nat} (h : KeptIn p xs i j ys) (hj : j < xs.length) (hp : p xs[j] = false) : KeptIn p xs (i + 1) (j + 1) (ys.set i xs[j]) := by
 have hl := h.len
 have hij := h.lt
 refine ⟨by rw [List.length_set]; exact hl,by omega,hj,?_,?_⟩
 ·rw [List.take_succ_eq_append_getElem hj,List.filter_append,← h.low,List.take_succ_eq_append_getElem (by rw [List.length_set]; omega),List.take_set_of_le (Nat.le_refl _),List.getElem_set_self]
  simp [hp]
 ·rw [List.drop_set_of_lt (by omega),← List.drop_drop,h.high,List.drop_drop]
def posOf : Option Nat → Int
 | some k => (k : Int)
 | none => -1
structure IndexWalk (P : Program) (ix : Nat) : Prop where
 run : ∀ (g : Nat) (lb : Array Value) (eg : ∀ args w,(callFunc g args).run P w = .ok (.enter g args) w) (p : List UInt8 → Bool) (b o c : Nat) (xs : List (List UInt8)) (w : World),xs.length < 4611686018427387904 → Cells w b o (xs.map encS) → b < w.heap.size → Reads P g lb p xs b w →
  Calls P ix #[.slice (some ⟨b,o,none⟩) xs.length c,.func (.func g) #[] lb] w fun e w' => e = .returned (.int .i64 (posOf (firstAt p xs 0))) ∧ Lo w.heap.size w w'
 nil : ∀ (g : Nat) (lb : Array Value) (ad : Option Addr) (w : World),Calls P ix #[.slice ad 0 0,.func (.func g) #[] lb] w fun e w' => e = .returned (.int .i64 (-1)) ∧ Lo w.heap.size w w'
structure DelFuncWalk (P : Program) (df : Nat) : Prop where
 run : ∀ (g : Nat) (lb : Array Value) (eg : ∀ args w,(callFunc g args).run P w = .ok (.enter g args) w) (p : List UInt8 → Bool) (b o c : Nat) (xs : List (List UInt8)) (w : World),xs.length < 4611686018427387904 → xs.length ≤ c → c ≠ 0 → Cells w b o (xs.map encS) → Room 1 w b (o + c * 1) → Reads P g lb p xs b w →
  Calls P df #[.slice (some ⟨b,o,none⟩) xs.length c,.func (.func g) #[] lb] w fun e w' => e = .returned (.slice (some ⟨b,o,none⟩) (xs.filter fun x => !p x).length c) ∧ Cells w' b o ((xs.filter fun x => !p x).map encS) ∧ Turned b w w'
 none : ∀ (g : Nat) (lb : Array Value) (ad : Option Addr) (w : World),Calls P df #[.slice ad 0 0,.func (.func g) #[] lb] w fun e w' => e = .returned (.slice ad 0 0) ∧ Lo w.heap.size w w'
def strikeB (vl : Nat → List UInt8 → Int) (x : List UInt8) : Bool := vl 1 x == vl 2 x || (vl 1 x == vl 0 x || vl 2 x == vl 0 x)
structure ConfWalk (P : Program) (fn nf vf : Nat) : Prop where
 en : Entered P fn
 run : ∀ (a0 a1 a2 : Option Addr) (n0 n1 n2 c0 c1 c2 : Nat) (xs : List (List UInt8)) (vl : Nat → List UInt8 → Int) (w : World),xs.length < 4611686018427387904 →
  (∀ (W : World) (q : Nat),Lo w.heap.size w W → w.heap.size ≤ q → (∃ t,W.heap[q]? = some (.cells #[.slice a0 n0 c0,.slice a1 n1 c1,.slice a2 n2 c2] t)) → Calls P nf #[.slice (some ⟨q,0,none⟩) 3 3] W fun e W' => Lo W.heap.size W W' ∧ ∃ v,e = .returned v ∧
    ((∃ ad,v = .slice ad 0 0 ∧ xs = []) ∨ ∃ b o c,v = .slice (some ⟨b,o,none⟩) xs.length c ∧ W.heap.size ≤ b ∧ xs.length ≤ c ∧ c ≠ 0 ∧ Cells W' b o (xs.map encS) ∧ Room 1 W' b (o + c * 1))) →
  (∀ (W : World) (k : Nat) (v : Value) (x : List UInt8),[Value.slice a0 n0 c0,.slice a1 n1 c1,.slice a2 n2 c2][k]? = some v → x ∈ xs → Lo w.heap.size w W → Calls P vf #[v,encS x] W fun e W' => e = .returned (.int .i64 (vl k x)) ∧ Lo W.heap.size W W') →
  Calls P fn #[.slice a0 n0 c0,.slice a1 n1 c1,.slice a2 n2 c2] w fun e w' => Lo w.heap.size w w' ∧ ∃ v',e = .returned v' ∧
   ((∃ ad,v' = .slice ad 0 0 ∧ xs.filter (fun x => !strikeB vl x) = []) ∨ ∃ b o c,v' = .slice (some ⟨b,o,none⟩) (xs.filter fun x => !strikeB vl x).length c ∧ w.heap.size ≤ b ∧ b < w'.heap.size ∧
     (xs.filter fun x => !strikeB vl x).length ≤ c ∧ Cells w' b o ((xs.filter fun x => !strikeB vl x).map encS))
section
variable {P : Program} {φ : Nat → Nat}
theorem texts_inv {w : World} {K : Nat → Prop} : ∀ {xs : List (List UInt8)} {vs : List Value},Reps φ w K vs ((xs.map strE.enc).flatMap A.cells) → vs = xs.map encS
 | [],_,h => by cases h; rfl
 | s :: xs,_,h => by
   have h' : Reps φ w K _ (A.str s :: (xs.map strE.enc).flatMap A.cells) := h
   cases h' with
   | cons v _ vs _ h t => cases h; rw [texts_inv t,List.map_cons]
theorem texts_reps {w : World} {K : Nat → Prop} : ∀ (xs : List (List UInt8)),Reps φ w K (xs.map encS) ((xs.map strE.enc).flatMap A.cells)
 | [] => .nil
 | s :: xs => .cons _ _ _ _ (.str s) (texts_reps xs)
end
end Go.Ab
