/- slices.Insert and slices.Delete as callees. Conditions: none. -/
import Derived.Test.YtobkmdnplcmndaaLA
import Derived.WalkKit
import Derived.Laws.IdiomCopy
import Derived.Laws.Externs
import Derived.Lib.Overlaps
import Derived.Lib.AppendZerosOnto
import Derived.Shelf.RegionOpenPlain
set_option linter.unusedVariables false
set_option linter.unusedSimpArgs false
namespace Go.Lib
variable {P : Program}
theorem Z14 {z : Value} (h1 : ∀ v ∈ z.cells.toList,v.oneCell' = true) (n : Nat) : ∀ v ∈ (Builtin.zeroCells z.cells n).toList,v.oneCell' = true := by
 intro v hv
 simp only [Builtin.zeroCells,Array.toList_map,List.mem_map] at hv
 obtain ⟨i,hi,rfl⟩ := hv
 have hi' : i < n * z.cells.size := by simpa using hi
 have hpos : 0 < z.cells.size := by
  rcases Nat.eq_zero_or_pos z.cells.size with e | e
  ·rw [e] at hi'; omega
  ·exact e
 have hlt : i % z.cells.size < z.cells.size := Nat.mod_lt _ hpos
 rw [getElem!_pos z.cells _ hlt]
 exact h1 _ (by simp)
theorem Zw6 (w : World) (t e ty : TypeId) (z : Value) (k : Nat) (ht : P.underlying t = some (.slice e)) (hv : ∀ w,(zeroValue e).run P w = .ok z w) (hz : z.cells.size = k) (h1 : ∀ v ∈ z.cells.toList,v.oneCell' = true) (b o n c : Nat) (hn : 0 < n)
 (hc : ∀ j,j < n * k → (w.cell? ⟨b,o + j,none⟩).isSome = true) (hf : ∀ j,j < n * k → w.frozen? ⟨b,o + j,none⟩ = false) :
 (Builtin.clear_ #[t] ty #[.slice (some ⟨b,o,none⟩) n c]).run P w = .ok (.tuple #[]) (w.setCells b o (Builtin.zeroCells z.cells n).toList) := by
 have hl : (Builtin.zeroCells z.cells n).toList.length = n * k := by rw [Array.length_toList,size_zeroCells,hz]
 have hst := run_storeCells_cells (P := P) b o (Builtin.zeroCells z.cells n).toList 0 w (by simpa [hl] using hc) (by simpa [hl] using hf) (Z14 h1 n)
 simp only [Nat.add_zero] at hst
 obtain ⟨m,rfl⟩ : ∃ m,n = m + 1 := ⟨n - 1,by omega⟩
 simp [Builtin.clear_,run_underlying ht,hv,hst]
theorem run_overlaps_own (w : World) (tS tR e : TypeId) (ht : P.underlying tS = some (.slice e)) (size : Nat) (hz : ∀ w,(Go.sizeOf e).run P w = .ok size w)
 (a b : Addr) (la ca lb cb : Nat) (hne : a.block ≠ b.block) (tA tB : TypeId) (kA kB : Nat)
 (hsa : w.shape? a.block = some (tA,kA)) (hsb : w.shape? b.block = some (tB,kB)) (hkA : kA ≠ 0)
 (hfb : w.frozen? b = false) (hfe : w.frozen? { block := b.block,off := kB } = false) :
 (Extern.SlicesOverlaps.overlaps #[tS,tS] #[tR] #[.slice (some a) la ca,.slice (some b) lb cb]).run P w = .ok (.bool false) w := by
 have hnb : (a.block != b.block) = true := by simpa using hne
 have hnb' : (a.block == b.block) = false := by simpa using hne
 change Sem.run P (α := Value) (do
  let some t := (#[tS,tS] : Array TypeId)[0]? | stuck "slices.overlaps: no parameter types"
  let .slice elem ← underlying t | stuck "slices.overlaps: slice type expected"
  let size ← sizeOf elem
  match (some a : Option Addr),(some b : Option Addr) with
  | some a,some b =>
    if la = 0 ∨ lb = 0 ∨ size = 0 then pure (Value.bool false)
    else if a.block != b.block && (← frozen a) && (← frozen b) then unsupported .addressObserved
    else do
     if a.block != b.block then do
      noView a; noView b
      if ← mayBeOne a b then return Value.bool ((← choose (.extern "sameAddr.stringBytes" 2)) == 1)
     pure (Value.bool (a.block == b.block && a.off < b.off + lb * size && b.off < a.off + la * size))
  | _,_ => pure (Value.bool false)) w = _
 by_cases h0 : la = 0 ∨ lb = 0 ∨ size = 0
 ·simp [run_underlying ht,hz,h0]
 ·cases kA with
  | zero => exact absurd rfl hkA
  | succ kA =>
    simp [run_underlying ht,hz,h0,hnb,hnb',frozen,noView,viewAt,mayBeOne,stringish,shape,Sem.run,hsa,hsb,hfb,hfe]
end Go.Lib
namespace Go.Ab
section
variable {P : Program}
theorem Zgv (w : World) (dT sT ty elem : TypeId) (b o dLen dCap : Nat) (a : Addr) (sLen sCap : Nat) (cs : List Value) (z k : Nat)
 (hu : P.underlying dT = some (.slice elem)) (hs : (P.info? elem).map (·.size) = some z) (hk : Nat.min sLen dLen = k) (hn : cs.length = k * z)
 (hsrc : ∀ j v,cs[j]? = some v → w.cell? (a.add j) = some v) (hc : ∀ j,j < cs.length → (w.cell? ⟨b,o + j,none⟩).isSome = true) (hf : ∀ j,j < cs.length → w.frozen? ⟨b,o + j,none⟩ = false) (h1 : ∀ v ∈ cs,v.oneCell' = true) :
 (Builtin.copy_ #[dT,sT] ty #[.slice (some ⟨b,o,none⟩) dLen dCap,.slice (some a) sLen sCap]).run P w = .ok (goInt k) (w.setCells b o cs) := by
 have hl := run_loadCells_list (P := P) w a cs hsrc
 have hst := run_storeCells_cells (P := P) b o cs 0 w (by simpa using hc) (by simpa using hf) h1
 cases hq : P.info? elem with
 | none => simp [hq] at hs
 | some i =>
   have hi : i.size = z := by simpa [hq] using hs
   simp [Builtin.copy_,run_underlying hu,Builtin.lenOf,Builtin.firstCells,sizeOf,typeInfo,hq,hi,hk,← hn,hl,hst]
end
structure Turned (b : Nat) (w w' : World) : Prop where
 size : w.heap.size ≤ w'.heap.size
 block : ∀ q,q < w.heap.size → q ≠ b → w'.heap[q]? = w.heap[q]?
 os : w'.os = w.os
 output : w'.output = w.output
 fr : ∀ q off,q < w.heap.size → w'.frozen? ⟨q,off,none⟩ = w.frozen? ⟨q,off,none⟩
 room : ∀ {z : Nat} q n,Room z w q n → Room z w' q n
theorem Turned.refl (b : Nat) (w : World) : Turned b w w := ⟨Nat.le_refl _,fun _ _ _ => rfl,rfl,rfl,fun _ _ _ => rfl,fun _ _ h => h⟩
theorem Turned.drew {b : Nat} {w w1 : World} (h : Turned b w w1) : Turned b w w1.drew := ⟨h.size,h.block,h.os,h.output,h.fr,h.room⟩
theorem Turned.alloc {b : Nat} {w w1 : World} (h : Turned b w w1) (o : Obj) : Turned b w (w1.alloc o) := by
 have hs : (w1.alloc o).heap.size = w1.heap.size + 1 := by simp
 have hb : ∀ q,q < w1.heap.size → (w1.alloc o).heap[q]? = w1.heap[q]? := fun q hq => Zai _ _ hq
 exact ⟨by have := h.size; omega,fun q hq hn => (hb q (Nat.lt_of_lt_of_le hq h.size)).trans (h.block q hq hn),h.os,h.output,fun q off hq => (frozen?_of_block (hb q (Nat.lt_of_lt_of_le hq h.size)) off).trans (h.fr q off hq),
  fun q n hr => have hr1 := h.room q n hr; hr1.of_block (hb q hr1.lt)⟩
theorem Zbn {z : Nat} {b : Nat} : ∀ (vs : List Value) (o : Nat) (w : World) {q n : Nat},Room z w q n → Room z (w.setCells b o vs) q n
 | [],_,_,_,_,h => h
 | v :: vs,o,w,_,_,h => Zbn vs (o + 1) _ (Zj2 h)
theorem Zlt (b : Nat) : ∀ (vs : List Value) (o : Nat) (w : World) (q : Nat),q ≠ b → (w.setCells b o vs).heap[q]? = w.heap[q]?
 | [],_,_,_,_ => rfl
 | v :: vs,o,w,q,h => (Zlt b vs (o + 1) _ q h).trans (Za4 _ _ _ _ _ h)
theorem Zi0 (b : Nat) : ∀ (vs : List Value) (o : Nat) (w : World),(w.setCells b o vs).heap.size = w.heap.size
 | [],_,_ => rfl
 | v :: vs,o,w => (Zi0 b vs (o + 1) _).trans (Zak _ _ _)
theorem Zol (b : Nat) : ∀ (vs : List Value) (o : Nat) (w : World),(w.setCells b o vs).os = w.os ∧ (w.setCells b o vs).output = w.output
 | [],_,_ => ⟨rfl,rfl⟩
 | v :: vs,o,w => Zol b vs (o + 1) _
theorem Turned.setCells {b b' : Nat} {w w1 : World} (h : Turned b w w1) (hb : b' = b ∨ w.heap.size ≤ b') (o : Nat) (vs : List Value) : Turned b w (w1.setCells b' o vs) :=
 ⟨by rw [Zi0]; exact h.size,fun q hq hn => (Zlt _ _ _ _ _ (by omega)).trans (h.block q hq hn),(Zol _ _ _ _).1.trans h.os,(Zol _ _ _ _).2.trans h.output,
   fun q off hq => (World.frozen?_setCells _ _ _ _ _).trans (h.fr q off hq),fun q n hr => Zbn _ _ _ (h.room q n hr)⟩
structure Zy0 (P : Program) (fn z : Nat) : Prop where
 en : Entered P fn
 nil : ∀ (ad : Option Addr) (va vo vc : Nat) (xs : List Value) (w : World),xs.length = z → Cells w va vo xs → (∀ v ∈ xs,v.oneCell' = true) → va < w.heap.size →
  Calls P fn #[.slice ad 0 0,.int .i64 0,.slice (some ⟨va,vo,none⟩) 1 vc] w fun e w' => ∃ b' cp,e = .returned (.slice (some ⟨b',0,none⟩) 1 cp) ∧ 1 ≤ cp ∧ w.heap.size ≤ b' ∧ b' < w'.heap.size ∧ Cells w' b' 0 xs ∧ Room z w' b' (cp * z) ∧ Turned w.heap.size w w'
 run : ∀ (b o n c i va vo vc : Nat) (cs xs : List Value) (w : World),c ≠ 0 → n ≤ c → i ≤ n → n + 1 < 1099511627776 → cs.length = n * z → Cells w b o cs → Room z w b (o + c * z) → xs.length = z → Cells w va vo xs → va ≠ b → (∀ v ∈ cs,v.oneCell' = true) → (∀ v ∈ xs,v.oneCell' = true) → va < w.heap.size →
  (∃ e k,w.shape? va = some (e,k) ∧ k ≠ 0) →
  Calls P fn #[.slice (some ⟨b,o,none⟩) n c,.int .i64 i,.slice (some ⟨va,vo,none⟩) 1 vc] w fun e w' => ∃ b' o' cp,e = .returned (.slice (some ⟨b',o',none⟩) (n + 1) cp) ∧ n + 1 ≤ cp ∧ (b' = b ∨ w.heap.size ≤ b' ∧ b' < w'.heap.size) ∧
   Cells w' b' o' (cs.take (i * z) ++ xs ++ cs.drop (i * z)) ∧ Room z w' b' (o' + cp * z) ∧ Turned b w w'
section
variable {P : Program}
theorem Z3q {w : World} {e : TypeId} {t : TypeId} {i : TypeInfo} (ht : P.underlying t = some (.slice e)) (hi : P.info? e = some i) {z : Nat} (hz : i.size = z) {zv : Value} (hzv : i.zero = some zv) (hzs : zv.cells.size = z)
 (hb : i.bytes ≤ 128) {base : Option Addr} {n c va vo vc : Nat} {cs xs : List Value} (hn : n + 1 < 1099511627776) (hl : cs.length = n * z) (hx : xs.length = z) (hs : Src P i.size t (.slice (some ⟨va,vo,none⟩) 1 vc) 1 xs w) (hlt : c < n + 1)
 (hold : (Builtin.firstCells i.size n (.slice base n c)).run P w.drew = .ok cs.toArray w.drew) (ty : TypeId) (b : Nat) :
 ∃ cp w',(Builtin.append_ #[t,t] ty #[.slice base n c,.slice (some ⟨va,vo,none⟩) 1 vc]).run P w = .ok (.slice (some ⟨w.heap.size,0,none⟩) (n + 1) cp) w' ∧ n + 1 ≤ cp ∧ w.heap.size < w'.heap.size ∧ Cells w' w.heap.size 0 (cs ++ xs) ∧ Room z w' w.heap.size (cp * z) ∧ Turned b w w' := by
 have hfit : Builtin.nextslicecap (n + 1) c * i.bytes ≤ 281474976710656 := growslice_fits hlt (by have := Nat.mul_le_mul (show n + 1 ≤ 1099511627776 by omega) hb; omega)
 have hrun := run_append_grow_src (P := P) w t t ty e i zv ht hi hzv base n c cs hold (.slice (some ⟨va,vo,none⟩) 1 vc) 1 xs hs hlt (by omega) hfit
 have hge := grownCap_ge w (n + 1) c e
 have hh : (w.drew.alloc (.cells ((cs ++ xs).toArray ++ Builtin.zeroCells zv.cells (grownCap w (n + 1) c e - (n + 1))) e)).heap =
  w.heap.push (.cells ((cs ++ xs).toArray ++ Builtin.zeroCells zv.cells (grownCap w (n + 1) c e - (n + 1))) e) := rfl
 have hcp := Ze4 hh
 have htl : ((cs ++ xs).toArray ++ Builtin.zeroCells zv.cells (grownCap w (n + 1) c e - (n + 1))).toList = (cs ++ xs) ++ (Builtin.zeroCells zv.cells (grownCap w (n + 1) c e - (n + 1))).toList := by simp
 rw [htl] at hcp
 have hsz : ((cs ++ xs).toArray ++ Builtin.zeroCells zv.cells (grownCap w (n + 1) c e - (n + 1))).size = grownCap w (n + 1) c e * z := by
  rw [Array.size_append,size_zeroCells,hzs]
  simp only [List.size_toArray,List.length_append,hl,hx]
  rw [show n * z + z = (n + 1) * z by rw [Nat.succ_mul],← Nat.add_mul]
  congr 1; omega
 refine ⟨_,_,hrun,hge,by rw [hh]; simp,hcp.left,Room.le (by rw [hsz]; exact Nat.le_refl _) (Zm4 hh),?_⟩
 exact ((Turned.refl b w).drew).alloc _
theorem Z41 {w : World} {t e : TypeId} (ht : P.underlying t = some (.slice e)) {z va vo vc : Nat} {xs : List Value} (hx : xs.length = z) (hc : Cells w va vo xs) (h1 : ∀ v ∈ xs,v.oneCell' = true) : Src P z t (.slice (some ⟨va,vo,none⟩) 1 vc) 1 xs w :=
 Src.ofSlice w ht ⟨va,vo,none⟩ 1 vc xs (by rw [hx,Nat.one_mul]) (fun j u hj => by rw [World.cell?_add]; exact hc j u hj) h1
theorem Zaaa {w : World} {e : TypeId} {t : TypeId} {i : TypeInfo} (ht : P.underlying t = some (.slice e)) (hi : P.info? e = some i) {z : Nat} (hz : i.size = z) {zv : Value} (hzv : i.zero = some zv) (hzs : zv.cells.size = z)
 (hb : i.bytes ≤ 128) {ad : Option Addr} {va vo vc : Nat} {xs : List Value} (hx : xs.length = z) (hc : Cells w va vo xs) (h1 : ∀ v ∈ xs,v.oneCell' = true) (ty : TypeId) :
 ∃ cp w',(Builtin.append_ #[t,t] ty #[.slice ad 0 0,.slice (some ⟨va,vo,none⟩) 1 vc]).run P w = .ok (.slice (some ⟨w.heap.size,0,none⟩) 1 cp) w' ∧ 1 ≤ cp ∧ w.heap.size < w'.heap.size ∧ Cells w' w.heap.size 0 xs ∧ Room z w' w.heap.size (cp * z) ∧ Turned w.heap.size w w' := by
 have hold : (Builtin.firstCells i.size 0 (.slice ad 0 0)).run P w.drew = .ok ([] : List Value).toArray w.drew := by
  cases ad with
  | none => exact run_firstCells_none w.drew i.size 0 0 0
  | some ad => exact run_firstCells_some w.drew i.size 0 ad 0 0 [] (by simp) (fun j u h => by simp at h)
 obtain ⟨cp,w',q⟩ := Z3q (vc := vc) (n := 0) (c := 0) (cs := []) (base := ad) ht hi hz hzv hzs hb (by omega) (by simp) hx (by rw [hz]; exact Z41 ht hx hc h1) (by omega) hold ty w.heap.size
 exact ⟨cp,w',q⟩
theorem Zaas {w : World} {e : TypeId} {t : TypeId} {i : TypeInfo} (ht : P.underlying t = some (.slice e)) (hi : P.info? e = some i) {z : Nat} (hz : i.size = z) {zv : Value} (hzv : i.zero = some zv) (hzs : zv.cells.size = z)
 (hb : i.bytes ≤ 128) {b o n c va vo vc : Nat} {cs xs : List Value} (hnc : n ≤ c) (hn : n + 1 < 1099511627776) (hl : cs.length = n * z) (hcs : Cells w b o cs) (hr : Room z w b (o + c * z)) (hx : xs.length = z) (hc : Cells w va vo xs) (h1 : ∀ v ∈ xs,v.oneCell' = true) (ty : TypeId) :
 ∃ b' o' cp w',(Builtin.append_ #[t,t] ty #[.slice (some ⟨b,o,none⟩) n c,.slice (some ⟨va,vo,none⟩) 1 vc]).run P w = .ok (.slice (some ⟨b',o',none⟩) (n + 1) cp) w' ∧ n + 1 ≤ cp ∧ (b' = b ∨ w.heap.size ≤ b' ∧ b' < w'.heap.size) ∧ Cells w' b' o' (cs ++ xs) ∧ Room z w' b' (o' + cp * z) ∧ Turned b w w' := by
 have hs := Z41 (vc := vc) ht hx hc h1
 by_cases hroom : n + 1 ≤ c
 ·have hle : n * z + z ≤ c * z := by rw [← Nat.succ_mul]; exact Nat.mul_le_mul_right _ hroom
  have hpos : ∀ j,j < xs.length → (w.cell? ⟨b,o + n * i.size + j,none⟩).isSome = true ∧ w.frozen? ⟨b,o + n * i.size + j,none⟩ = false := fun j hj => hr.cell (by rw [hz]; omega)
  have hrun := run_append_room_src (P := P) w t t ty e i ht hi b o n c (.slice (some ⟨va,vo,none⟩) 1 vc) 1 xs (by rw [hz]; exact hs) hroom (fun j hj => (hpos j hj).1) (fun j hj => (hpos j hj).2)
  refine ⟨b,o,c,_,hrun,hroom,.inl rfl,?_,Zbn _ _ _ hr,(Turned.refl b w).setCells (.inl rfl) _ _⟩
  rw [hz]
  refine Cells.append (fun j v hj => ?_) (fun j v hj => ?_)
  ·have hjl : j < cs.length := by
    rcases Nat.lt_or_ge j cs.length with h | h
    ·exact h
    ·simp [List.getElem?_eq_none h] at hj
   rw [World.cell?_setCells_out b xs _ w ⟨b,o + j,none⟩ (fun _ _ => .inl (by simp; omega))]
   exact hcs j v hj
  ·have hjl : j < xs.length := by
    rcases Nat.lt_or_ge j xs.length with h | h
    ·exact h
    ·simp [List.getElem?_eq_none h] at hj
   rw [hl,World.cell?_setCells_in b xs (o + n * z) w (fun j hj => by have := (hpos j hj).1; rwa [hz] at this) j hjl,← hj]
   simp
 ·obtain ⟨cp,w',q1,q2,q3,q4,q5,q6⟩ := Z3q (base := some ⟨b,o,none⟩) (n := n) (c := c) (cs := cs) ht hi hz hzv hzs hb hn hl hx (by rw [hz]; exact hs) (by omega)
   (run_firstCells_some w.drew i.size n ⟨b,o,none⟩ n c cs (by rw [hl,hz]) (fun j u hj => by rw [World.cell?_add]; exact hcs j u hj)) ty b
  exact ⟨w.heap.size,0,cp,w',q1,q2,.inr ⟨Nat.le_refl _,q3⟩,q4,by rw [Nat.zero_add]; exact q5,q6⟩
end
theorem Z5v {z : Nat} {w : World} {b o k m : Nat} (h : Room z w b m) (hk : o + k ≤ m) : ∃ ex : List Value,ex.length = k ∧ Cells w b o ex := by
 obtain ⟨C,e,fr,h1,h2,h3⟩ := h
 refine ⟨(C.toList.drop o).take k,by simp; omega,fun j v hj => ?_⟩
 rw [List.getElem?_take] at hj
 split at hj
 ·rw [List.getElem?_drop,Array.getElem?_toList] at hj
  simp only [World.cell?,h1]
  exact hj
 ·cases hj
theorem Z6k {n i z : Nat} {cs ex xs : List Value} (hi : i < n) (hl : cs.length = n * z) (hx : xs.length = z) (he : ex.length = z) :
 (((cs ++ ex).take ((i + 1) * z) ++ cs.drop (i * z) ++ (cs ++ ex).drop ((i + 1) * z + (cs.drop (i * z)).length)).take (i * z) ++ xs ++ ((cs ++ ex).take ((i + 1) * z) ++ cs.drop (i * z) ++ (cs ++ ex).drop ((i + 1) * z + (cs.drop (i * z)).length)).drop (i * z + xs.length)) = cs.take (i * z) ++ xs ++ cs.drop (i * z) := by
 have h1 : i * z ≤ n * z := Nat.mul_le_mul_right _ (by omega)
 have h2 : (i + 1) * z ≤ n * z := Nat.mul_le_mul_right _ (by omega)
 have h3 : (i + 1) * z = i * z + z := Nat.succ_mul _ _
 have e1 : (cs ++ ex).drop ((i + 1) * z + (cs.drop (i * z)).length) = [] := List.drop_eq_nil_of_le (by rw [List.length_append,List.length_drop]; omega)
 have e2 : (cs ++ ex).take ((i + 1) * z) = cs.take ((i + 1) * z) := by rw [List.take_append_of_le_length (by omega)]
 rw [e1,e2,List.append_nil,hx]
 have e3 : (cs.take ((i + 1) * z)).length = (i + 1) * z := by rw [List.length_take]; omega
 have e4 : (cs.take ((i + 1) * z) ++ cs.drop (i * z)).take (i * z) = cs.take (i * z) := by
  rw [List.take_append_of_le_length (by omega),List.take_take]
  congr 1; omega
 have e5 : (cs.take ((i + 1) * z) ++ cs.drop (i * z)).drop (i * z + z) = cs.drop (i * z) := by
  rw [List.drop_append,List.drop_eq_nil_of_le (by omega),List.nil_append,e3]
  rw [show i * z + z - (i + 1) * z = 0 by omega,List.drop_zero]
 rw [e4,e5]
theorem Z7v {w : World} {b o n c i z : Nat} {cs xs : List Value} (hi : i < n) (hroom : n + 1 ≤ c) (hl : cs.length = n * z) (hcs : Cells w b o cs) (hr : Room z w b (o + c * z)) (hx : xs.length = z) :
 Cells ((w.setCells b (o + (i + 1) * z) (cs.drop (i * z))).setCells b (o + i * z) xs) b o (cs.take (i * z) ++ xs ++ cs.drop (i * z)) := by
 have hle : (n + 1) * z ≤ c * z := Nat.mul_le_mul_right _ hroom
 have h4 : (n + 1) * z = n * z + z := Nat.succ_mul _ _
 have h3 : (i + 1) * z = i * z + z := Nat.succ_mul _ _
 have h1 : i * z + z ≤ n * z := by rw [← h3]; exact Nat.mul_le_mul_right _ (by omega)
 obtain ⟨ex,he,hex⟩ := Z5v (o := o + n * z) (k := z) hr (by omega)
 have h0 : Cells w b o (cs ++ ex) := hcs.append (by rw [hl]; exact hex)
 have hdl : (cs.drop (i * z)).length = n * z - i * z := by rw [List.length_drop,hl]
 have w1 := Cells.write (news := cs.drop (i * z)) (c := (i + 1) * z) h0 (hr.le (by rw [List.length_append,hl,he]; omega)) (by rw [List.length_append,hl,he,hdl]; omega)
 have w2 := Cells.write (news := xs) (c := i * z) w1 ((Zbn _ _ _ hr).le (by
  simp only [List.length_append,List.length_take,List.length_drop,hl,he]; omega)) (by
  simp only [List.length_append,List.length_take,List.length_drop,hl,he,hx]; omega)
 rw [Z6k hi hl hx he] at w2
 exact w2
theorem Z7u {w : World} {N n i z : Nat} {cs xs zs : List Value} {m : Nat} (hi : i < n) (hl : cs.length = n * z) (hx : xs.length = z) (hzs : zs.length = (n + 1 - i) * z) (h0 : Cells w N 0 (cs.take (i * z) ++ zs)) (hr : Room z w N m) (hm : (n + 1) * z ≤ m) :
 Cells ((w.setCells N (i * z) xs).setCells N ((i + 1) * z) (cs.drop (i * z))) N 0 (cs.take (i * z) ++ xs ++ cs.drop (i * z)) := by
 have h3 : (i + 1) * z = i * z + z := Nat.succ_mul _ _
 have h4 : (n + 1) * z = n * z + z := Nat.succ_mul _ _
 have h1 : i * z + z ≤ n * z := by rw [← h3]; exact Nat.mul_le_mul_right _ (by omega)
 have hz1 : (n + 1 - i) * z = n * z + z - i * z := by rw [Nat.sub_mul,h4]
 have htl : (cs.take (i * z)).length = i * z := by rw [List.length_take]; omega
 have hdl : (cs.drop (i * z)).length = n * z - i * z := by rw [List.length_drop,hl]
 have w1 := Cells.write (news := xs) (c := i * z) h0 (hr.le (by rw [List.length_append,htl,hzs]; omega)) (by rw [List.length_append,htl,hzs,hx]; omega)
 rw [Nat.zero_add] at w1
 have e1 : (cs.take (i * z) ++ zs).take (i * z) ++ xs ++ (cs.take (i * z) ++ zs).drop (i * z + xs.length) = cs.take (i * z) ++ xs ++ zs.drop z := by
  rw [hx,List.take_append_of_le_length (by omega),List.take_of_length_le (by omega),List.drop_append,List.drop_eq_nil_of_le (by omega),List.nil_append,htl]
  congr 2; omega
 rw [e1] at w1
 have w2 := Cells.write (news := cs.drop (i * z)) (c := (i + 1) * z) w1 ((Zbn _ _ _ hr).le (by simp only [List.length_append,htl,hx,List.length_drop,hzs]; omega)) (by simp only [List.length_append,htl,hx,List.length_drop,hzs,hl]; omega)
 rw [Nat.zero_add] at w2
 have e2 : (cs.take (i * z) ++ xs ++ zs.drop z).take ((i + 1) * z) = cs.take (i * z) ++ xs := by
  rw [List.take_append_of_le_length (by rw [List.length_append,htl,hx]; omega),List.take_of_length_le (by rw [List.length_append,htl,hx]; omega)]
 have e3 : (cs.take (i * z) ++ xs ++ zs.drop z).drop ((i + 1) * z + (cs.drop (i * z)).length) = [] := List.drop_eq_nil_of_le (by simp only [List.length_append,htl,hx,List.length_drop,hzs,hl]; omega)
 rw [e2,e3,List.append_nil] at w2
 exact w2
noncomputable def insertC (E : ET) : Callee :=
 { io := [true,false,false],ps := [.ios E,.d i64E,.d (.one (.sl E))],rs := [.tok E],os := [.gone],
   f := fun x => if decide (List.length (α := E.ty) x.2.2.1 = 1) && (decide (0 ≤ x.2.1) && (decide (x.2.1 ≤ (List.length (α := E.ty) x.1 : Int)) && decide (List.length (α := E.ty) x.1 + 1 < 1099511627776))) then
     some (List.take (α := E.ty) x.2.1.toNat x.1 ++ (show List E.ty from x.2.2.1) ++ List.drop (α := E.ty) x.2.1.toNat x.1,()) else none }
structure Zys (P : Program) (fn z : Nat) : Prop where
 en : Entered P fn
 run : ∀ (b o n c i j : Nat) (cs : List Value) (w : World),c ≠ 0 → n ≤ c → i < j → j ≤ n → n < 1099511627776 → cs.length = n * z → Cells w b o cs → Room z w b (o + c * z) → (∀ v ∈ cs,v.oneCell' = true) →
  Calls P fn #[.slice (some ⟨b,o,none⟩) n c,.int .i64 i,.int .i64 j] w fun e w' => e = .returned (.slice (some ⟨b,o,none⟩) (n - (j - i)) c) ∧
   Cells w' b o (cs.take (i * z) ++ cs.drop (j * z)) ∧ Room z w' b (o + c * z) ∧ Turned b w w'
theorem Z7g {w : World} {b o n c i j z : Nat} {cs zs : List Value} (hij : i < j) (hj : j ≤ n) (hnc : n ≤ c) (hl : cs.length = n * z) (hcs : Cells w b o cs) (hr : Room z w b (o + c * z)) (hz : zs.length = (j - i) * z) :
 Cells ((w.setCells b (o + i * z) (cs.drop (j * z))).setCells b (o + (i + (n - j)) * z) zs) b o (cs.take (i * z) ++ cs.drop (j * z)) := by
 have h1 : i * z ≤ j * z := Nat.mul_le_mul_right _ (by omega)
 have h2 : j * z ≤ n * z := Nat.mul_le_mul_right _ hj
 have h3 : n * z ≤ c * z := Nat.mul_le_mul_right _ hnc
 have h4 : (i + (n - j)) * z = i * z + (n * z - j * z) := by rw [Nat.add_mul,Nat.sub_mul]
 have h5 : (j - i) * z = j * z - i * z := Nat.sub_mul _ _ _
 have hdl : (cs.drop (j * z)).length = n * z - j * z := by rw [List.length_drop,hl]
 have w1 := Cells.write (news := cs.drop (j * z)) (c := i * z) hcs (hr.le (by rw [hl]; omega)) (by rw [hl,hdl]; omega)
 have w2 := Cells.write (news := zs) (c := (i + (n - j)) * z) w1 ((Zbn _ _ _ hr).le (by
  simp only [List.length_append,List.length_take,List.length_drop,hl]; omega)) (by
  simp only [List.length_append,List.length_take,List.length_drop,hl,hz,h4,h5]; omega)
 have e1 : (cs.take (i * z) ++ cs.drop (j * z) ++ cs.drop (i * z + (cs.drop (j * z)).length)).take ((i + (n - j)) * z) = cs.take (i * z) ++ cs.drop (j * z) := by
  rw [List.take_append_of_le_length (by simp only [List.length_append,List.length_take,List.length_drop,hl,h4]; omega),List.take_of_length_le (by simp only [List.length_append,List.length_take,List.length_drop,hl,h4]; omega)]
 rw [e1] at w2
 exact w2.left.left
noncomputable def deleteC (E : ET) : Callee :=
 { io := [true,false,false],ps := [.ios E,.d i64E,.d i64E],rs := [.tok E],os := [.gone],
   f := fun x => if decide (0 ≤ x.2.1) && (decide (x.2.1 < x.2.2.1) && (decide (x.2.2.1 ≤ (List.length (α := E.ty) x.1 : Int)) && decide (List.length (α := E.ty) x.1 < 1099511627776))) then
     some (List.take (α := E.ty) x.2.1.toNat x.1 ++ List.drop (α := E.ty) x.2.2.1.toNat x.1,()) else none }
section
variable {P : Program} {φ : Nat → Nat}
theorem Zzt {w : World} {K : Nat → Prop} {vs : List Value} {ys : List A} (h : Reps φ w K vs (ys.flatMap A.cells)) (hf : ys.all flatC = true) : ∀ u ∈ vs,u.oneCell' = true := fun u hu => by
 obtain ⟨j,hj⟩ := List.mem_iff_getElem?.1 hu
 obtain ⟨x,hx,hr⟩ := h.getV hj
 obtain ⟨y,hy,hxy⟩ := List.mem_flatMap.1 (List.mem_of_getElem? hx)
 have := List.all_eq_true.1 hf y hy
 exact Value.one_cell (hr.oneCell (Zzc (List.all_eq_true.1 this x hxy)))
theorem Zrg (E : ET) (xs : List E.ty) : (xs.map E.enc).all flatC = true := by
 rw [List.all_map]; exact List.all_eq_true.2 fun x _ => ET.enc_flat E x
theorem enc_z {E : ET} {xs : List E.ty} : ∀ x ∈ xs.map E.enc,x.cells.length = E.z := fun x hx => by
 obtain ⟨y,_,rfl⟩ := List.mem_map.1 hx
 exact ET.enc_z E y
theorem FOk.of_iosD {g : Nat} {c : Callee} {E : ET} {ms : List MT} (he : Entered P (φ g)) (hps : c.ps = .ios E :: ms) (hd : dOnly ms = true)
 (h : ∀ x y,c.f x = some y → CallOk P φ g (encU c.ps x) (resA c y).1 (resA c y).2) : FOk P φ g c := by
 refine ⟨he,fun al res outs hc => ?_⟩
 unfold Callee.cf at hc
 split at hc
 ·rename_i hx
  obtain ⟨y,hy,hr⟩ := Option.map_eq_some_iff.1 hc
  have h1 := h _ _ hy
  rw [hr] at h1
  have hn : normU c.ps al = al := by
   rw [hps]
   cases al with
   | nil => rfl
   | cons a l =>
     have : (MT.ios E).norm a = a := by cases a <;> rfl
     rw [normU,this,Zhw hd]
  have e : al = encU c.ps hx.choose := hn.symm.trans hx.choose_spec.2
  generalize hx.choose = x at e h1
  subst e
  exact h1
 ·cases hc
theorem Z65 {E : ET} (hp : E.plain = true) {fn g z : Nat} (hz : E.z = z) (h0z : z ≠ 0) (W : Zy0 P fn z) (hφ : φ g = fn) : FOk P φ g (insertC E) := by
 subst hφ
 refine FOk.of_iosD W.en rfl rfl fun x y hy0 => ?_
 obtain ⟨xs,i,v,⟨⟩⟩ := x
 have hy : (if decide (List.length (α := E.ty) v = 1) && (decide (0 ≤ i) && (decide (i ≤ (List.length (α := E.ty) xs : Int)) && decide (List.length (α := E.ty) xs + 1 < 1099511627776))) then
  some (List.take (α := E.ty) i.toNat xs ++ (show List E.ty from v) ++ List.drop (α := E.ty) i.toNat xs,()) else none) = some y := hy0
 split at hy
 rotate_left
 ·cases hy
 rename_i hc
 simp only [Bool.and_eq_true,decide_eq_true_eq] at hc
 obtain ⟨hv1,hi0,hil,hlim⟩ := hc
 obtain rfl := Option.some.inj hy
 have e1 : encU (insertC E).ps (xs,i,v,()) = [.ios E.z ((show List E.ty from xs).map E.enc),.int .i64 i,.sl E.z ((show List E.ty from v).map E.enc)] := by
  have q : ((ET.one (.sl E)).v (show List E.ty from v)).a = (ET.one (.sl E)).enc (show List E.ty from v) := ET.v_a _ _
  exact congrArg (fun z => [A.ios E.z ((show List E.ty from xs).map E.enc),.int .i64 i,z]) q
 rw [e1]
 generalize hxs : (show List E.ty from xs) = xl at *
 have hxs' : xs = xl := hxs
 subst hxs'
 obtain ⟨x1,rfl⟩ : ∃ x1 : E.ty,v = [x1] := by
  cases v with
  | nil => simp at hv1
  | cons a l => cases l with
    | nil => exact ⟨a,rfl⟩
    | cons b l => simp at hv1
 show CallOk P φ g [A.ios E.z (List.map E.enc xs),.int .i64 i,.sl E.z (List.map E.enc [x1])] [A.tok 0 E.z (List.map E.enc (List.take i.toNat xs ++ [x1] ++ List.drop i.toNat xs))] [A.any]
 intro w K vs bs ha hnd hKb hK hG
 cases ha with
 | cons v0 _ b0 vs0 _ bs0 hv0 t0 =>
 cases t0 with
 | cons v1 _ b1 vs1 _ bs1 hv1' t1 =>
 cases t1 with
 | cons v2 _ b2 vs2 _ bs2 hv2 t2 =>
 cases t2
 cases hv1' with
 | data _ r1 =>
 cases r1
 cases hv2 with
 | data _ r2 =>
 generalize hx1e : List.map E.enc [x1] = ex at r2
 cases r2 with
 | slE => simp at hx1e
 | sl vb vo vc z' _ us hvb hzz hcap hur huc =>
 subst hx1e
 have hul : us.length = E.z := by
  have := hur.length
  rw [Zb9 hzz] at this; simpa using this
 have hu1 := Zzt hur (Zrg E [x1])
 have hvw := hK _ hvb
 have hlen : (List.map E.enc [x1]).length = 1 := rfl
 rw [hlen]
 obtain ⟨k,hk⟩ : ∃ k : Nat,(show Int from i) = (k : Int) := ⟨Int.toNat i,(Int.toNat_of_nonneg hi0).symm⟩
 have hk' : i = (k : Int) := hk
 subst hk'
 rw [Int.toNat_natCast]
 have hkl : k ≤ xs.length := Int.ofNat_le.1 hil
 have hpl : (List.map E.enc (List.take k xs ++ [x1] ++ List.drop k xs)).all A.plain = true := Zve hp _
 have hrl : (List.map E.enc (List.take k xs ++ [x1] ++ List.drop k xs)).length = xs.length + 1 := by simp; omega
 have hflat : (List.map E.enc (List.take k xs ++ [x1] ++ List.drop k xs)).flatMap A.cells = ((List.map E.enc xs).flatMap A.cells).take (k * E.z) ++ (List.map E.enc [x1]).flatMap A.cells ++ ((List.map E.enc xs).flatMap A.cells).drop (k * E.z) := by
  rw [List.map_append,List.map_append,List.flatMap_append,List.flatMap_append,List.map_take,List.map_drop,Zfd enc_z,Zdj enc_z]
 cases hv0 with
 | data _ hr => cases hr
 | ios _ _ ob hO =>
 generalize hys : List.map E.enc xs = ys at hO
 cases hO with
 | empty ad z2 =>
   have hxn : xs = [] := by cases xs with | nil => rfl | cons => simp at hys
   subst hxn
   have hk0 : k = 0 := by simpa using hkl
   subst hk0
   have := W.nil ad vb vo vc us w (by rw [hul,hz]) huc hu1 hvw
   refine this.mono fun e w' hh => ?_
   obtain ⟨b',cp,rfl,q1,q2,q3,q4,q5,q6⟩ := hh
   refine ⟨_,rfl,q6.size,fun q hq _ => q6.block q hq (by omega),⟨q6.os,q6.output⟩,fun q off hq => q6.fr q off hq,fun q n hr => q6.room q n hr,[_],K,[b'],[],rfl,fun _ h => h,fun _ h => .inl h,?_,.gone _ _ _ _ _ _ _ (.data _ _ _ _ _ _ ⟨fun _ _ h => (by cases h),fun _ _ h => (by cases h)⟩ (.data _ _ _ _ _ _ ⟨fun _ _ h => (by cases h),fun _ _ h => (by cases h)⟩ .nil)),by simp,fun q hq => ?_⟩
   ·have hO' := OwnRep.mk (φ := φ) (w := w') (K := K) b' 0 cp E.z (List.map E.enc (List.take 0 [] ++ [x1] ++ List.drop 0 [])) us (by simpa using q1) (by omega) enc_z (by
     rw [hflat]
     simpa using hur.mono (fun q hq => q6.block q (hK q hq) (by have := hK q hq; omega)) fun _ h => h) q4 (by rw [Nat.zero_add,hz]; exact q5)
    rw [hrl] at hO'
    exact .cons _ _ [b'] _ _ [] (.tok _ 0 E.z _ (some b') hO') .nil
   ·have : q = b' := by simpa using hq
    subst this
    exact ⟨fun hk => by have := hK _ hk; omega,q3,.inr q2⟩
 | mk b o cap z2 _ cs hcap hc0 hcz hcr hcc hroom =>
   subst hys
   have hcl : cs.length = xs.length * E.z := by
    have := hcr.length
    rw [Zb9 hcz] at this; simpa using this
   have hbK : ¬ K b := hKb b (by simp)
   have hne : vb ≠ b := fun e => hbK (e ▸ hvb)
   have hsh : ∃ e k,w.shape? vb = some (e,k) ∧ k ≠ 0 := by
    have h00 : us[0]? = some us[0] := List.getElem?_eq_getElem (by omega)
    have := huc 0 _ h00
    simp only [World.cell?] at this
    split at this
    ·rename_i C eC frC hC
     refine ⟨eC,C.size,by simp [World.shape?,hC],fun e => ?_⟩
     have hlt : vo + 0 < C.size := by
      rcases Nat.lt_or_ge (vo + 0) C.size with h | h
      ·exact h
      ·rw [Array.getElem?_eq_none h] at this; cases this
     omega
    ·cases this
   have hrun := W.run b o xs.length cap k vb vo vc cs us w hc0 (by simpa using hcap) hkl hlim (by rw [hcl,hz]) hcc (by rw [← hz]; exact hroom) (by rw [hul,hz]) huc hne (Zzt hcr (Zrg E xs)) hu1 hvw hsh
   rw [List.length_map]
   refine hrun.mono fun e w' hh => ?_
   obtain ⟨b',o',cp,rfl,q1,q2,q3,q4,q5⟩ := hh
   have hKs : ∀ q,K q → w'.heap[q]? = w.heap[q]? := fun q hq => q5.block q (hK q hq) fun e => hbK (e ▸ hq)
   refine ⟨_,rfl,q5.size,fun q hq hn => q5.block q hq fun e => hn (by simp [e]),⟨q5.os,q5.output⟩,fun q off hq => q5.fr q off hq,fun q n hr => q5.room q n hr,[_],K,[b'],[],rfl,fun _ h => h,fun _ h => .inl h,?_,.gone _ _ _ _ _ _ _ (.data _ _ _ _ _ _ ⟨fun _ _ h => (by cases h),fun _ _ h => (by cases h)⟩ (.data _ _ _ _ _ _ ⟨fun _ _ h => (by cases h),fun _ _ h => (by cases h)⟩ .nil)),by simp,fun q hq => ?_⟩
   ·have hO' := OwnRep.mk (φ := φ) (w := w') (K := K) b' o' cp E.z (List.map E.enc (List.take k xs ++ [x1] ++ List.drop k xs)) (cs.take (k * E.z) ++ us ++ cs.drop (k * E.z)) (by rw [hrl]; exact q1) (by omega) enc_z (by
     rw [hflat]
     exact (((hcr.take (k * E.z)).append hur).append (hcr.drop (k * E.z))).mono hKs fun _ h => h) (by rw [hz]; exact q3) (by rw [hz]; exact q4)
    rw [hrl] at hO'
    exact .cons _ _ [b'] _ _ [] (.tok _ 0 E.z _ (some b') hO') .nil
   ·have : q = b' := by simpa using hq
    subst this
    rcases q2 with rfl | ⟨q2,q2'⟩
    ·exact ⟨hbK,Nat.lt_of_lt_of_le hroom.lt q5.size,.inl (by simp)⟩
    ·exact ⟨fun hk => by have := hK _ hk; omega,q2',.inr q2⟩
theorem Zqw {E : ET} (hp : E.plain = true) {fn g z : Nat} (hz : E.z = z) (W : Zys P fn z) (hφ : φ g = fn) : FOk P φ g (deleteC E) := by
 subst hφ
 refine FOk.of_iosD W.en rfl rfl fun x y hy0 => ?_
 obtain ⟨xs,i,j,⟨⟩⟩ := x
 have hy : (if decide (0 ≤ i) && (decide (i < j) && (decide (j ≤ (List.length (α := E.ty) xs : Int)) && decide (List.length (α := E.ty) xs < 1099511627776))) then
  some (List.take (α := E.ty) i.toNat xs ++ List.drop (α := E.ty) j.toNat xs,()) else none) = some y := hy0
 split at hy
 rotate_left
 ·cases hy
 rename_i hc
 simp only [Bool.and_eq_true,decide_eq_true_eq] at hc
 obtain ⟨hi0,hij,hjl,hlim⟩ := hc
 obtain rfl := Option.some.inj hy
 have e1 : encU (deleteC E).ps (xs,i,j,()) = [.ios E.z ((show List E.ty from xs).map E.enc),.int .i64 i,.int .i64 j] := rfl
 rw [e1]
 generalize hxs : (show List E.ty from xs) = xl at *
 have hxs' : xs = xl := hxs
 subst hxs'
 show CallOk P φ g [A.ios E.z (List.map E.enc xs),.int .i64 i,.int .i64 j] [A.tok 0 E.z (List.map E.enc (List.take i.toNat xs ++ List.drop j.toNat xs))] [A.any]
 intro w K vs bs ha hnd hKb hK hG
 cases ha with
 | cons v0 _ b0 vs0 _ bs0 hv0 t0 =>
 cases t0 with
 | cons v1 _ b1 vs1 _ bs1 hv1' t1 =>
 cases t1 with
 | cons v2 _ b2 vs2 _ bs2 hv2 t2 =>
 cases t2
 cases hv1' with
 | data _ r1 =>
 cases r1
 cases hv2 with
 | data _ r2 =>
 cases r2
 obtain ⟨k,hk⟩ : ∃ k : Nat,(show Int from i) = (k : Int) := ⟨Int.toNat i,(Int.toNat_of_nonneg hi0).symm⟩
 have hk' : i = (k : Int) := hk
 subst hk'
 obtain ⟨m,hm⟩ : ∃ m : Nat,(show Int from j) = (m : Int) := ⟨Int.toNat j,(Int.toNat_of_nonneg (Int.le_trans hi0 (Int.le_of_lt hij))).symm⟩
 have hm' : j = (m : Int) := hm
 subst hm'
 rw [Int.toNat_natCast,Int.toNat_natCast]
 have hml : m ≤ xs.length := Int.ofNat_le.1 hjl
 have hkm : k < m := Int.ofNat_lt.1 hij
 have hpl : (List.map E.enc (List.take k xs ++ List.drop m xs)).all A.plain = true := Zve hp _
 have hrl : (List.map E.enc (List.take k xs ++ List.drop m xs)).length = xs.length - (m - k) := by simp; omega
 have hflat : (List.map E.enc (List.take k xs ++ List.drop m xs)).flatMap A.cells = ((List.map E.enc xs).flatMap A.cells).take (k * E.z) ++ ((List.map E.enc xs).flatMap A.cells).drop (m * E.z) := by
  rw [List.map_append,List.flatMap_append,List.map_take,List.map_drop,Zfd enc_z,Zdj enc_z]
 cases hv0 with
 | data _ hr => cases hr
 | ios _ _ ob hO =>
 generalize hys : List.map E.enc xs = ys at hO
 cases hO with
 | empty ad z2 =>
   have hxn : xs = [] := by cases xs with | nil => rfl | cons => simp at hys
   subst hxn
   simp at hml; omega
 | mk b o cap z2 _ cs hcap hc0 hcz hcr hcc hroom =>
   subst hys
   have hcl : cs.length = xs.length * E.z := by
    have := hcr.length
    rw [Zb9 hcz] at this; simpa using this
   have hbK : ¬ K b := hKb b (by simp)
   have hrun := W.run b o xs.length cap k m cs w hc0 (by simpa using hcap) hkm hml hlim (by rw [hcl,hz]) hcc (by rw [← hz]; exact hroom) (Zzt hcr (Zrg E xs))
   rw [List.length_map]
   refine hrun.mono fun e w' hh => ?_
   obtain ⟨rfl,q3,q4,q5⟩ := hh
   have hKs : ∀ q,K q → w'.heap[q]? = w.heap[q]? := fun q hq => q5.block q (hK q hq) fun e => hbK (e ▸ hq)
   refine ⟨_,rfl,q5.size,fun q hq hn => q5.block q hq fun e => hn (by simp [e]),⟨q5.os,q5.output⟩,fun q off hq => q5.fr q off hq,fun q n hr => q5.room q n hr,[_],K,[b],[],rfl,fun _ h => h,fun _ h => .inl h,?_,.gone _ _ _ _ _ _ _ (.data _ _ _ _ _ _ ⟨fun _ _ h => (by cases h),fun _ _ h => (by cases h)⟩ (.data _ _ _ _ _ _ ⟨fun _ _ h => (by cases h),fun _ _ h => (by cases h)⟩ .nil)),by simp,fun q hq => ?_⟩
   ·have hO' := OwnRep.mk (φ := φ) (w := w') (K := K) b o cap E.z (List.map E.enc (List.take k xs ++ List.drop m xs)) (cs.take (k * E.z) ++ cs.drop (m * E.z)) (hrl ▸ Nat.le_trans (Nat.sub_le _ _) (show xs.length ≤ cap from by simpa using hcap)) hc0 enc_z (by
     rw [hflat]
     exact ((hcr.take (k * E.z)).append (hcr.drop (m * E.z))).mono hKs fun _ h => h) (by rw [hz]; exact q3) (by rw [hz]; exact q4)
    rw [hrl] at hO'
    exact .cons _ _ [b] _ _ [] (.tok _ 0 E.z _ (some b) hO') .nil
   ·have : q = b := by simpa using hq
    subst this
    exact ⟨hbK,Nat.lt_of_lt_of_le hroom.lt q5.size,.inl (by simp)⟩
end
end Go.Ab
