/- Sort and Compact of texts as callees. Conditions: none. -/
import Derived.Test.YtobkmdnplcmndaaGreatDoorL4
import Derived.Test.YtobkmdnplcmndaaGreatDoorL5
import Derived.Shelf.Slices.CompactS
import Derived.Shelf.Slices.In.SortNone
import Derived.Shelf.Slices.In.SortAlone
set_option linter.unusedVariables false
set_option linter.unusedSimpArgs false
namespace Go.Ab
open Go.RowKit Go.Shelf Go.Proofs
noncomputable def sortSC : Callee :=
 { io := [true],ps := [.ios (.one .str)],rs := [],os := [.ios (.one .str)],
   f := fun x => if decide (List.length (α := List UInt8) x.1 < 4611686018427387904) then some (List.mergeSort (α := List UInt8) x.1 fun a b => decide (a ≤ b)) else none }
noncomputable def Zyn : Callee :=
 { io := [true],ps := [.ios (.one .str)],rs := [.tok (.one .str)],os := [.gone],
   f := fun x => if decide (List.length (α := List UInt8) x.1 ≤ 9223372036854775807) then some (Lib.compact (α := List UInt8) x.1,()) else none }
section
variable {P : Program} {φ : Nat → Nat} {ρ : Ren}
def turned (w : World) (blk off : Nat) (d : Array (List UInt8)) (n : Nat) (os : Array Obj) : World := Sort.grow (Sort.putRow encStr (Sort.ahead w n) blk off d) os
theorem Z16 (w : World) (blk off : Nat) (d : Array (List UInt8)) (n : Nat) (os : Array Obj) : (turned w blk off d n os).heap.size = w.heap.size + os.size := by
 unfold turned
 rw [Sort.size_grow,Sort.size_putRow]; rfl
theorem Zwk (w : World) (blk off : Nat) (d : Array (List UInt8)) (n : Nat) (os : Array Obj) {b : Nat} (hb : b < w.heap.size) (hne : b ≠ blk) : (turned w blk off d n os).heap[b]? = w.heap[b]? := by
 unfold turned
 rw [Sort.heap_grow_old _ _ (by rw [Sort.size_putRow]; exact hb)]
 show (w.heap.modify blk _)[b]? = _
 rw [Array.getElem?_modify,if_neg (Ne.symm hne)]
theorem Zri (w : World) (blk off : Nat) (d : Array (List UInt8)) (n : Nat) (os : Array Obj) {b : Nat} (hb : b < w.heap.size) (o : Nat) : (turned w blk off d n os).frozen? ⟨b,o,none⟩ = w.frozen? ⟨b,o,none⟩ := by
 unfold turned
 rw [Sort.frozen?_grow _ _ _ (by rw [Sort.size_putRow]; exact hb),Sort.frozen?_putRow]
 rfl
theorem Z2t (w : World) (blk off : Nat) (d d0 : Array (List UInt8)) (n : Nat) (os : Array Obj) (hb : blk < w.heap.size) (h0 : Sort.Holds encStr w blk off d0) (hs : d.size = d0.size) {j : Nat} (hj : j < d.size) : (turned w blk off d n os).cell? ⟨blk,off + j,none⟩ = some (encStr d[j]!) := by
 unfold turned
 rw [Sort.cell?_grow _ _ _ (by rw [Sort.size_putRow]; exact hb)]
 exact Sort.cell?_putRow encStr (Sort.ahead w n) blk off d0 d h0 hs j hj
theorem Zuw {z : Nat} (w : World) (blk off : Nat) (d : Array (List UInt8)) (n : Nat) (os : Array Obj) {b m : Nat} (h : Room z w b m) : Room z (turned w blk off d n os) b m := by
 by_cases hne : b = blk
 ·subst hne
  have hlt := h.lt
  obtain ⟨C,e,fr,h1,h2,h3⟩ := h
  refine ⟨Sort.putCells encStr off d C,e,fr,?_,?_,fun o ho => ?_⟩
  ·unfold turned
   rw [Sort.heap_grow_old _ _ (by rw [Sort.size_putRow]; exact hlt)]
   show (w.heap.modify b _)[b]? = _
   rw [Array.getElem?_modify,if_pos rfl,h1]
   rfl
  ·simpa [Sort.putCells] using h2
  ·rw [Zri _ _ _ _ _ _ hlt]
   exact h3 o (by simpa [Sort.putCells] using ho)
 ·exact h.of_block (Zwk w blk off d n os h.lt hne)
theorem Zvp {w : World} {K : Nat → Prop} : ∀ {xs : List (List UInt8)} {vs : List Value},Reps φ w K vs (xs.map A.str) → vs = xs.map encStr
 | [],_,h => by cases h; rfl
 | s :: xs,_,h => by
   cases h with
   | cons v _ vs _ h t => cases h; rw [Zvp t,List.map_cons]
theorem flat_strs' (xs : List (List UInt8)) : (xs.map A.str).flatMap A.cells = xs.map A.str := by
 induction xs with
 | nil => rfl
 | cons s xs ih => rw [List.map_cons,List.flatMap_cons,ih]; rfl
theorem reps_strs' {w : World} {K : Nat → Prop} : ∀ (xs : List (List UInt8)),Reps φ w K (xs.map encStr) (xs.map A.str)
 | [] => .nil
 | s :: xs => .cons _ _ _ _ (.str s) (reps_strs' xs)
theorem Zuz {z : Nat} {w : World} {b o m : Nat} {xs : List (List UInt8)} (hv : Cells w b o (xs.map encStr)) (hr : Room z w b m) (hm : o + xs.length ≤ m) : Sort.Holds encStr w b o xs.toArray := by
 intro j hj
 have hj' : j < xs.length := by simpa using hj
 obtain ⟨C,e,fr,h1,h2,h3⟩ := hr
 refine ⟨?_,h3 _ (by omega)⟩
 rw [hv j (encStr xs[j]) (by rw [List.getElem?_map,List.getElem?_eq_getElem hj']; rfl)]
 rw [getElem!_pos xs.toArray j hj]
 rfl
theorem Zuh {w : World} {K : Nat → Prop} (b off : Nat) (d : Array (List UInt8)) (n : Nat) (os : Array Obj) :
 w.heap.size ≤ (turned w b off d n os).heap.size ∧ (∀ c,c < w.heap.size → c ∉ [b] → (turned w b off d n os).heap[c]? = w.heap[c]?) ∧ ((turned w b off d n os).os = w.os ∧ (turned w b off d n os).output = w.output) ∧
  (∀ c o,c < w.heap.size → (turned w b off d n os).frozen? ⟨c,o,none⟩ = w.frozen? ⟨c,o,none⟩) ∧ ∀ {z : Nat} c m,Room z w c m → Room z (turned w b off d n os) c m :=
 ⟨by rw [Z16]; omega,fun c hc hn => Zwk _ _ _ _ _ _ hc (by simpa using hn),⟨rfl,rfl⟩,fun c o hc => Zri _ _ _ _ _ _ hc o,fun c m hr => Zuw _ _ _ _ _ _ hr⟩
theorem Zxa {w : World} {K : Nat → Prop} {b o cap n : Nat} {xs ys zs : List (List UInt8)} {os : Array Obj} (hv : Cells w b o (xs.map encStr)) (hr : Room 1 w b (o + cap * 1)) (hc : xs.length ≤ cap) (h0 : cap ≠ 0) (hl : (ys ++ zs).length = xs.length) :
 OwnRep φ (turned w b o (ys ++ zs).toArray n os) K (.slice (some ⟨b,o,none⟩) (ys.map A.str).length cap) 1 (ys.map A.str) (some b) := by
 have hH := Zuz hv hr (by omega)
 have hle : ys.length ≤ xs.length := by rw [← hl,List.length_append]; omega
 refine .mk b o cap 1 (ys.map A.str) (ys.map encStr) (by rw [List.length_map]; omega) h0 (fun x hx => by obtain ⟨s,_,rfl⟩ := List.mem_map.1 hx; rfl) (by rw [flat_strs']; exact reps_strs' ys) (fun j v hj => ?_) (Zuw _ _ _ _ _ _ hr)
 rw [List.getElem?_map] at hj
 obtain ⟨s,hs,rfl⟩ := Option.map_eq_some_iff.1 hj
 have hj2 : j < ys.length := (List.getElem?_eq_some_iff.1 hs).1
 have hj3 : j < (ys ++ zs).toArray.size := by simp; omega
 rw [Z2t w b o (ys ++ zs).toArray xs.toArray n os hr.lt hH (by simpa using hl) hj3,getElem!_pos _ j hj3]
 congr 2
 have : (ys ++ zs)[j]? = some s := by rw [List.getElem?_append_left hj2]; exact hs
 have h5 := List.getElem?_eq_some_iff.1 this
 simpa using h5.2
theorem FOk.of_ios1 {g : Nat} {c : Callee} (he : Entered P (φ g)) (hps : c.ps = [.ios (.one .str)])
 (h : ∀ x y,c.f x = some y → CallOk P φ g (encU c.ps x) (resA c y).1 (resA c y).2) : FOk P φ g c := by
 refine ⟨he,fun al res outs hc => ?_⟩
 unfold Callee.cf at hc
 split at hc
 ·rename_i hx
  obtain ⟨y,hy,hr⟩ := Option.map_eq_some_iff.1 hc
  have h1 := h _ _ hy
  rw [hr] at h1
  have hn : normU c.ps al = al := by
   rw [hps]
   cases al with
   | nil => rfl
   | cons a l => cases l <;> rfl
  have e : al = encU c.ps hx.choose := hn.symm.trans hx.choose_spec.2
  generalize hx.choose = x at e h1
  subst e
  exact h1
 ·cases hc
theorem Z7m (L : Lays.n190 P ρ) {g : Nat} (hφ : φ g = ρ.f 190) : FOk P φ g sortSC := by
 refine FOk.of_ios1 ⟨_,by rw [hφ]; exact L.f190,fun h => absurd ((show (Body.n190 ρ).name = "slices.Sort[[]string,string]" from rfl).symm.trans h) (by decide),rfl⟩ rfl fun x y hy0 => ?_
 obtain ⟨xs,⟨⟩⟩ := x
 have hy : (if decide (List.length (α := List UInt8) xs < 4611686018427387904) then some (List.mergeSort (α := List UInt8) xs fun a b => decide (a ≤ b)) else none) = some y := hy0
 split at hy
 ·rename_i hc
  have hlen := of_decide_eq_true hc
  obtain rfl := Option.some.inj hy
  show CallOk P φ g [A.ios 1 (xs.map A.str)] [] [A.ios 1 ((List.mergeSort (α := List UInt8) xs fun a b => decide (a ≤ b)).map A.str)]
  intro w K vs bs ha hnd hKb hK hG
  rw [hφ]
  cases ha with
  | cons v _ b vs _ bs hv t =>
    cases t
    cases hv with
    | data _ hr => cases hr
    | ios _ _ ob hO =>
      generalize hys : xs.map A.str = ys at hO
      cases hO with
      | empty ad z =>
        have : xs = [] := by cases xs with | nil => rfl | cons => simp at hys
        subst this
        refine (Any.slices_Sort_string_none L ad 0 w).mono fun e w' hh => ?_
        obtain ⟨rfl,rfl⟩ := hh
        refine ⟨_,rfl,Nat.le_refl _,fun _ _ _ => rfl,⟨rfl,rfl⟩,fun _ _ _ => rfl,fun _ _ h => h,[],K,[],[],rfl,fun _ h => h,fun _ h => .inl h,.nil,?_,List.nodup_nil,fun b hb => by cases hb⟩
        have e0 : (List.map A.str (List.mergeSort ([] : List (List UInt8)) fun a b => decide (a ≤ b))) = [] := by simp
        rw [e0]
        exact .ios _ _ _ _ none _ _ _ _ (.empty ad 1) (by simp) .nil
      | mk b o cap z _ cs hcap h0 hz h hv hr =>
        subst hys
        rw [flat_strs'] at h
        obtain rfl := Zvp h
        rw [List.length_map] at hcap
        have hH := Zuz hv hr (by omega)
        have hb := hr.lt
        have key := calls_of_every_depth fun D => AnyS.slices_Sort_string_alone L D b o cap xs w hH hb hlen
        rw [List.length_map]
        refine key.mono fun e w' hh => ?_
        obtain ⟨rfl,n,os,rfl⟩ := hh
        have e0 : (List.mergeSort xs fun x y => decide (x ≤ y)) = (List.mergeSort xs fun x y => decide (x ≤ y)) ++ [] := (List.append_nil _).symm
        have hT := Zxa (φ := φ) (K := K) (n := n) (os := os) (ys := List.mergeSort xs fun x y => decide (x ≤ y)) (zs := []) hv hr hcap h0 (by simp)
        rw [List.append_nil] at hT
        obtain ⟨b1,b2,b3,b4,b5⟩ := Zuh (w := w) (K := K) b o (List.mergeSort xs fun x y => decide (x ≤ y)).toArray n os
        refine ⟨_,rfl,b1,fun c hc hn => b2 c hc (by simpa using hn),b3,b4,b5,[],K,[],[b],rfl,fun _ h => h,fun _ h => .inl h,.nil,?_,by simp,fun c hc => ?_⟩
        ·have hl : ((List.mergeSort xs fun x y => decide (x ≤ y)).map A.str).length = xs.length := by simp
         rw [hl] at hT
         exact .ios _ _ _ _ (some b) _ _ _ _ hT (by simp) .nil
        ·simp only [List.nil_append,List.mem_singleton] at hc
         subst hc
         exact ⟨hKb _ (by simp),Nat.lt_of_lt_of_le hb b1,.inl (by simp)⟩
 ·cases hy
theorem Z2e (L : Lays.n194 P ρ) {g : Nat} (hφ : φ g = ρ.f 194) : FOk P φ g Zyn := by
 refine FOk.of_ios1 ⟨_,by rw [hφ]; exact L.f194,fun h => absurd ((show (Body.n194 ρ).name = "slices.Compact[[]string,string]" from rfl).symm.trans h) (by decide),rfl⟩ rfl fun x y hy0 => ?_
 obtain ⟨xs,⟨⟩⟩ := x
 have hy : (if decide (List.length (α := List UInt8) xs ≤ 9223372036854775807) then some (Lib.compact (α := List UInt8) xs,()) else none) = some y := hy0
 split at hy
 ·rename_i hc
  have hlen := of_decide_eq_true hc
  obtain rfl := Option.some.inj hy
  show CallOk P φ g [A.ios 1 (xs.map A.str)] [A.tok 0 1 ((Lib.compact (α := List UInt8) xs).map A.str)] [A.any]
  intro w K vs bs ha hnd hKb hK hG
  rw [hφ]
  have hpl : ((Lib.compact (α := List UInt8) xs).map A.str).all A.plain = true := by rw [List.all_map]; exact List.all_eq_true.2 fun _ _ => rfl
  cases ha with
  | cons v _ b vs _ bs hv t =>
    cases t
    cases hv with
    | data _ hr => cases hr
    | ios _ _ ob hO =>
      generalize hys : xs.map A.str = ys at hO
      cases hO with
      | empty ad z =>
        have : xs = [] := by cases xs with | nil => rfl | cons => simp at hys
        subst this
        have hce : Lib.compact ([] : List (List UInt8)) = [] := rfl
        refine (Any.slices_Compact_string_empty L ad 0 w).mono fun e w' hh => ?_
        obtain ⟨rfl,rfl⟩ := hh
        refine ⟨_,rfl,Nat.le_refl _,fun _ _ _ => rfl,⟨rfl,rfl⟩,fun _ _ _ => rfl,fun _ _ h => h,[_],K,[],[],rfl,fun _ h => h,fun _ h => .inl h,?_,.gone _ _ _ _ _ _ _ .nil,List.nodup_nil,fun b hb => by cases hb⟩
        exact .cons _ _ [] _ _ [] (.tok _ 0 1 _ none (.empty ad 1)) .nil
      | mk b o cap z _ cs hcap h0 hz h hv hr =>
        subst hys
        rw [flat_strs'] at h
        obtain rfl := Zvp h
        rw [List.length_map] at hcap
        have hH := Zuz hv hr (by omega)
        have hb := hr.lt
        have hcl : (Lib.compact (α := List UInt8) xs).length ≤ xs.length := by
         unfold Lib.compact Lib.compactUpTo
         rw [List.length_map]
         refine Nat.le_trans (List.length_filter_le _ _) (by simp)
        have key := Any.slices_Compact_string L b o cap xs w hH hlen hcap
        rw [List.length_map]
        refine key.mono fun e w' hh => ?_
        obtain ⟨rfl,n,rfl⟩ := hh
        have hsum : (Lib.compact (α := List UInt8) xs ++ List.replicate (xs.length - (Lib.compact (α := List UInt8) xs).length) []).length = xs.length := by
         rw [List.length_append,List.length_replicate]; omega
        have hT := Zxa (φ := φ) (K := K) (n := n) (os := #[]) (ys := Lib.compact (α := List UInt8) xs) (zs := List.replicate (xs.length - (Lib.compact (α := List UInt8) xs).length) []) hv hr hcap h0 hsum
        obtain ⟨b1,b2,b3,b4,b5⟩ := Zuh (w := w) (K := K) b o (Lib.compact (α := List UInt8) xs ++ List.replicate (xs.length - (Lib.compact (α := List UInt8) xs).length) []).toArray n #[]
        have hw : turned w b o (Lib.compact (α := List UInt8) xs ++ List.replicate (xs.length - (Lib.compact (α := List UInt8) xs).length) []).toArray n #[] = Sort.putRow encStr (Sort.ahead w n) b o (Lib.compact (α := List UInt8) xs ++ List.replicate (xs.length - (Lib.compact (α := List UInt8) xs).length) []).toArray := by
         unfold turned; rw [Sort.grow_empty]
        rw [← hw]
        refine ⟨_,rfl,b1,fun c hc hn => b2 c hc (by simpa using hn),b3,b4,b5,[_],K,[b],[],rfl,fun _ h => h,fun _ h => .inl h,?_,.gone _ _ _ _ _ _ _ .nil,by simp,fun c hc => ?_⟩
        ·rw [List.length_map] at hT
         exact .cons _ _ [b] _ _ [] (.tok _ 0 1 _ (some b) hT) .nil
        ·simp only [List.append_nil,List.mem_singleton] at hc
         subst hc
         exact ⟨hKb _ (by simp),Nat.lt_of_lt_of_le hb b1,.inl (by simp)⟩
 ·cases hy
end
end Go.Ab
