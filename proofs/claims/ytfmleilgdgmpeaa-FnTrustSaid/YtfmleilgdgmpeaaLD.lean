/- slices.Insert and slices.Delete as callees. Conditions: none. -/
import Derived.Test.YtfmleilgdgmpeaaLA
import Derived.WalkKit
import Derived.Laws.IdiomCopy
import Derived.Laws.Externs
import Derived.Lib.Overlaps
import Derived.Lib.AppendZerosOnto
import Derived.Shelf.RegionOpenPlain
set_option linter.unusedVariables false
set_option linter.unusedSimpArgs false
namespace Go.Lib
variable {P : Program}
theorem zeroCells_one {z : Value} (h1 : ∀ v ∈ z.cells.toList,v.oneCell' = true) (n : Nat) : ∀ v ∈ (Builtin.zeroCells z.cells n).toList,v.oneCell' = true := by
 intro v hv
 simp only [Builtin.zeroCells,Array.toList_map,List.mem_map] at hv
 obtain ⟨i,hi,rfl⟩ := hv
 have hi' : i < n * z.cells.size := by simpa using hi
 have hpos : 0 < z.cells.size := by
  rcases Nat.eq_zero_or_pos z.cells.size with e | e
  ·rw [e] at hi'; omega
  ·exact e
 have hlt : i % z.cells.size < z.cells.size := Nat.mod_lt _ hpos
 rw [getElem!_pos z.cells _ hlt]
 exact h1 _ (by simp)
theorem run_clear_cellsZ (w : World) (t e ty : TypeId) (z : Value) (k : Nat) (ht : P.underlying t = some (.slice e)) (hv : ∀ w,(zeroValue e).run P w = .ok z w) (hz : z.cells.size = k) (h1 : ∀ v ∈ z.cells.toList,v.oneCell' = true) (b o n c : Nat) (hn : 0 < n)
 (hc : ∀ j,j < n * k → (w.cell? ⟨b,o + j,none⟩).isSome = true) (hf : ∀ j,j < n * k → w.frozen? ⟨b,o + j,none⟩ = false) :
 (Builtin.clear_ #[t] ty #[.slice (some ⟨b,o,none⟩) n c]).run P w = .ok (.tuple #[]) (w.setCells b o (Builtin.zeroCells z.cells n).toList) := by
 have hl : (Builtin.zeroCells z.cells n).toList.length = n * k := by rw [Array.length_toList,size_zeroCells,hz]
 have hst := run_storeCells_cells (P := P) b o (Builtin.zeroCells z.cells n).toList 0 w (by simpa [hl] using hc) (by simpa [hl] using hf) (zeroCells_one h1 n)
 simp only [Nat.add_zero] at hst
 obtain ⟨m,rfl⟩ : ∃ m,n = m + 1 := ⟨n - 1,by omega⟩
 simp [Builtin.clear_,run_underlying ht,hv,hst]
end Go.Lib
namespace Go.Ab
section
variable {P : Program}
end
structure Turned (b : Nat) (w w' : World) : Prop where
 size : w.heap.size ≤ w'.heap.size
 block : ∀ q,q < w.heap.size → q ≠ b → w'.heap[q]? = w.heap[q]?
 os : w'.os = w.os
 output : w'.output = w.output
 fr : ∀ q off,q < w.heap.size → w'.frozen? ⟨q,off,none⟩ = w.frozen? ⟨q,off,none⟩
 room : ∀ q n,Room w q n → Room w' q n
theorem Turned.refl (b : Nat) (w : World) : Turned b w w := ⟨Nat.le_refl _,fun _ _ _ => rfl,rfl,rfl,fun _ _ _ => rfl,fun _ _ h => h⟩
theorem Turned.drew {b : Nat} {w w1 : World} (h : Turned b w w1) : Turned b w w1.drew := ⟨h.size,h.block,h.os,h.output,h.fr,h.room⟩
theorem Turned.alloc {b : Nat} {w w1 : World} (h : Turned b w w1) (o : Obj) : Turned b w (w1.alloc o) := by
 have hs : (w1.alloc o).heap.size = w1.heap.size + 1 := by simp
 have hb : ∀ q,q < w1.heap.size → (w1.alloc o).heap[q]? = w1.heap[q]? := fun q hq => get_old _ _ hq
 exact ⟨by have := h.size; omega,fun q hq hn => (hb q (Nat.lt_of_lt_of_le hq h.size)).trans (h.block q hq hn),h.os,h.output,fun q off hq => (frozen?_of_block (hb q (Nat.lt_of_lt_of_le hq h.size)) off).trans (h.fr q off hq),
  fun q n hr => have hr1 := h.room q n hr; hr1.of_block (hb q hr1.lt)⟩
theorem room_setCells {b : Nat} : ∀ (vs : List Value) (o : Nat) (w : World) {q n : Nat},Room w q n → Room (w.setCells b o vs) q n
 | [],_,_,_,_,h => h
 | v :: vs,o,w,_,_,h => room_setCells vs (o + 1) _ (room_setCell h)
theorem setCells_block (b : Nat) : ∀ (vs : List Value) (o : Nat) (w : World) (q : Nat),q ≠ b → (w.setCells b o vs).heap[q]? = w.heap[q]?
 | [],_,_,_,_ => rfl
 | v :: vs,o,w,q,h => (setCells_block b vs (o + 1) _ q h).trans (setCell_block _ _ _ _ _ h)
theorem setCells_size (b : Nat) : ∀ (vs : List Value) (o : Nat) (w : World),(w.setCells b o vs).heap.size = w.heap.size
 | [],_,_ => rfl
 | v :: vs,o,w => (setCells_size b vs (o + 1) _).trans (setCell_size _ _ _)
theorem setCells_env (b : Nat) : ∀ (vs : List Value) (o : Nat) (w : World),(w.setCells b o vs).os = w.os ∧ (w.setCells b o vs).output = w.output
 | [],_,_ => ⟨rfl,rfl⟩
 | v :: vs,o,w => setCells_env b vs (o + 1) _
theorem Turned.setCells {b b' : Nat} {w w1 : World} (h : Turned b w w1) (hb : b' = b ∨ w.heap.size ≤ b') (o : Nat) (vs : List Value) : Turned b w (w1.setCells b' o vs) :=
 ⟨by rw [setCells_size]; exact h.size,fun q hq hn => (setCells_block _ _ _ _ _ (by omega)).trans (h.block q hq hn),(setCells_env _ _ _ _).1.trans h.os,(setCells_env _ _ _ _).2.trans h.output,
   fun q off hq => (World.frozen?_setCells _ _ _ _ _).trans (h.fr q off hq),fun q n hr => room_setCells _ _ _ (h.room q n hr)⟩
structure InsertWalk (P : Program) (fn z : Nat) : Prop where
 en : Entered P fn
 nil : ∀ (ad : Option Addr) (va vo vc : Nat) (xs : List Value) (w : World),xs.length = z → Cells w va vo xs → (∀ v ∈ xs,v.oneCell' = true) → va < w.heap.size →
  Calls P fn #[.slice ad 0 0,.int .i64 0,.slice (some ⟨va,vo,none⟩) 1 vc] w fun e w' => ∃ b' cp,e = .returned (.slice (some ⟨b',0,none⟩) 1 cp) ∧ 1 ≤ cp ∧ w.heap.size ≤ b' ∧ b' < w'.heap.size ∧ Cells w' b' 0 xs ∧ Room w' b' (cp * z) ∧ Turned w.heap.size w w'
 run : ∀ (b o n c i va vo vc : Nat) (cs xs : List Value) (w : World),c ≠ 0 → n ≤ c → i ≤ n → n + 1 < 1099511627776 → cs.length = n * z → Cells w b o cs → Room w b (o + c * z) → xs.length = z → Cells w va vo xs → va ≠ b → (∀ v ∈ cs,v.oneCell' = true) → (∀ v ∈ xs,v.oneCell' = true) → va < w.heap.size →
  (∃ e k,w.shape? va = some (e,k) ∧ k ≠ 0) →
  Calls P fn #[.slice (some ⟨b,o,none⟩) n c,.int .i64 i,.slice (some ⟨va,vo,none⟩) 1 vc] w fun e w' => ∃ b' o' cp,e = .returned (.slice (some ⟨b',o',none⟩) (n + 1) cp) ∧ n + 1 ≤ cp ∧ (b' = b ∨ w.heap.size ≤ b' ∧ b' < w'.heap.size) ∧
   Cells w' b' o' (cs.take (i * z) ++ xs ++ cs.drop (i * z)) ∧ Room w' b' (o' + cp * z) ∧ Turned b w w'
section
variable {P : Program}
end
structure DeleteWalk (P : Program) (fn z : Nat) : Prop where
 en : Entered P fn
 run : ∀ (b o n c i j : Nat) (cs : List Value) (w : World),c ≠ 0 → n ≤ c → i < j → j ≤ n → n < 1099511627776 → cs.length = n * z → Cells w b o cs → Room w b (o + c * z) → (∀ v ∈ cs,v.oneCell' = true) →
  Calls P fn #[.slice (some ⟨b,o,none⟩) n c,.int .i64 i,.int .i64 j] w fun e w' => e = .returned (.slice (some ⟨b,o,none⟩) (n - (j - i)) c) ∧
   Cells w' b o (cs.take (i * z) ++ cs.drop (j * z)) ∧ Room w' b (o + c * z) ∧ Turned b w w'
theorem del_place {w : World} {b o n c i j z : Nat} {cs zs : List Value} (hij : i < j) (hj : j ≤ n) (hnc : n ≤ c) (hl : cs.length = n * z) (hcs : Cells w b o cs) (hr : Room w b (o + c * z)) (hz : zs.length = (j - i) * z) :
 Cells ((w.setCells b (o + i * z) (cs.drop (j * z))).setCells b (o + (i + (n - j)) * z) zs) b o (cs.take (i * z) ++ cs.drop (j * z)) := by
 have h1 : i * z ≤ j * z := Nat.mul_le_mul_right _ (by omega)
 have h2 : j * z ≤ n * z := Nat.mul_le_mul_right _ hj
 have h3 : n * z ≤ c * z := Nat.mul_le_mul_right _ hnc
 have h4 : (i + (n - j)) * z = i * z + (n * z - j * z) := by rw [Nat.add_mul,Nat.sub_mul]
 have h5 : (j - i) * z = j * z - i * z := Nat.sub_mul _ _ _
 have hdl : (cs.drop (j * z)).length = n * z - j * z := by rw [List.length_drop,hl]
 have w1 := Cells.write (news := cs.drop (j * z)) (c := i * z) hcs (hr.le (by rw [hl]; omega)) (by rw [hl,hdl]; omega)
 have w2 := Cells.write (news := zs) (c := (i + (n - j)) * z) w1 ((room_setCells _ _ _ hr).le (by
  simp only [List.length_append,List.length_take,List.length_drop,hl]; omega)) (by
  simp only [List.length_append,List.length_take,List.length_drop,hl,hz,h4,h5]; omega)
 have e1 : (cs.take (i * z) ++ cs.drop (j * z) ++ cs.drop (i * z + (cs.drop (j * z)).length)).take ((i + (n - j)) * z) = cs.take (i * z) ++ cs.drop (j * z) := by
  rw [List.take_append_of_le_length (by simp only [List.length_append,List.length_take,List.length_drop,hl,h4]; omega),List.take_of_length_le (by simp only [List.length_append,List.length_take,List.length_drop,hl,h4]; omega)]
 rw [e1] at w2
 exact w2.left.left
noncomputable def deleteC (E : ET) : Callee :=
 { io := [true,false,false],ps := [.ios E,.d i64E,.d i64E],rs := [.tok E],os := [.gone],
   f := fun x => if decide (0 ≤ x.2.1) && (decide (x.2.1 < x.2.2.1) && (decide (x.2.2.1 ≤ (List.length (α := E.ty) x.1 : Int)) && decide (List.length (α := E.ty) x.1 < 1099511627776))) then
     some (List.take (α := E.ty) x.2.1.toNat x.1 ++ List.drop (α := E.ty) x.2.2.1.toNat x.1,()) else none }
section
variable {P : Program} {φ : Nat → Nat}
theorem ones_of {w : World} {K : Nat → Prop} {vs : List Value} {ys : List A} (h : Reps φ w K vs (ys.flatMap A.cells)) (hf : ys.all flatC = true) : ∀ u ∈ vs,u.oneCell' = true := fun u hu => by
 obtain ⟨j,hj⟩ := List.mem_iff_getElem?.1 hu
 obtain ⟨x,hx,hr⟩ := h.getV hj
 obtain ⟨y,hy,hxy⟩ := List.mem_flatMap.1 (List.mem_of_getElem? hx)
 have := List.all_eq_true.1 hf y hy
 exact Value.one_cell (hr.oneCell (noAgg_spec (List.all_eq_true.1 this x hxy)))
theorem enc_allFlat (E : ET) (xs : List E.ty) : (xs.map E.enc).all flatC = true := by
 rw [List.all_map]; exact List.all_eq_true.2 fun x _ => ET.enc_flat E x
theorem enc_z {E : ET} {xs : List E.ty} : ∀ x ∈ xs.map E.enc,x.cells.length = E.z := fun x hx => by
 obtain ⟨y,_,rfl⟩ := List.mem_map.1 hx
 exact ET.enc_z E y
theorem FOk.of_iosD {g : Nat} {c : Callee} {E : ET} {ms : List MT} (he : Entered P (φ g)) (hps : c.ps = .ios E :: ms) (hd : dOnly ms = true)
 (h : ∀ x y,c.f x = some y → CallOk P φ g (encU c.ps x) (resA c y).1 (resA c y).2) : FOk P φ g c := by
 refine ⟨he,fun al res outs hc => ?_⟩
 unfold Callee.cf at hc
 split at hc
 ·rename_i hx
  obtain ⟨y,hy,hr⟩ := Option.map_eq_some_iff.1 hc
  have h1 := h _ _ hy
  rw [hr] at h1
  have hn : normU c.ps al = al := by
   rw [hps]
   cases al with
   | nil => rfl
   | cons a l =>
     have : (MT.ios E).norm a = a := by cases a <;> rfl
     rw [normU,this,dOnly_norm hd]
  have e : al = encU c.ps hx.choose := hn.symm.trans hx.choose_spec.2
  generalize hx.choose = x at e h1
  subst e
  exact h1
 ·cases hc
theorem delete_ok {E : ET} (hp : E.plain = true) {fn g z : Nat} (hz : E.z = z) (W : DeleteWalk P fn z) (hφ : φ g = fn) : FOk P φ g (deleteC E) := by
 subst hφ
 refine FOk.of_iosD W.en rfl rfl fun x y hy0 => ?_
 obtain ⟨xs,i,j,⟨⟩⟩ := x
 have hy : (if decide (0 ≤ i) && (decide (i < j) && (decide (j ≤ (List.length (α := E.ty) xs : Int)) && decide (List.length (α := E.ty) xs < 1099511627776))) then
  some (List.take (α := E.ty) i.toNat xs ++ List.drop (α := E.ty) j.toNat xs,()) else none) = some y := hy0
 split at hy
 rotate_left
 ·cases hy
 rename_i hc
 simp only [Bool.and_eq_true,decide_eq_true_eq] at hc
 obtain ⟨hi0,hij,hjl,hlim⟩ := hc
 obtain rfl := Option.some.inj hy
 have e1 : encU (deleteC E).ps (xs,i,j,()) = [.ios E.z ((show List E.ty from xs).map E.enc),.int .i64 i,.int .i64 j] := rfl
 rw [e1]
 generalize hxs : (show List E.ty from xs) = xl at *
 have hxs' : xs = xl := hxs
 subst hxs'
 show CallOk P φ g [A.ios E.z (List.map E.enc xs),.int .i64 i,.int .i64 j] [A.tok 0 E.z (List.map E.enc (List.take i.toNat xs ++ List.drop j.toNat xs))] [A.any]
 intro w K vs bs ha hnd hKb hK hG
 cases ha with
 | cons v0 _ b0 vs0 _ bs0 hv0 t0 =>
 cases t0 with
 | cons v1 _ b1 vs1 _ bs1 hv1' t1 =>
 cases t1 with
 | cons v2 _ b2 vs2 _ bs2 hv2 t2 =>
 cases t2
 cases hv1' with
 | data _ r1 =>
 cases r1
 cases hv2 with
 | data _ r2 =>
 cases r2
 obtain ⟨k,hk⟩ : ∃ k : Nat,(show Int from i) = (k : Int) := ⟨Int.toNat i,(Int.toNat_of_nonneg hi0).symm⟩
 have hk' : i = (k : Int) := hk
 subst hk'
 obtain ⟨m,hm⟩ : ∃ m : Nat,(show Int from j) = (m : Int) := ⟨Int.toNat j,(Int.toNat_of_nonneg (Int.le_trans hi0 (Int.le_of_lt hij))).symm⟩
 have hm' : j = (m : Int) := hm
 subst hm'
 rw [Int.toNat_natCast,Int.toNat_natCast]
 have hml : m ≤ xs.length := Int.ofNat_le.1 hjl
 have hkm : k < m := Int.ofNat_lt.1 hij
 have hpl : (List.map E.enc (List.take k xs ++ List.drop m xs)).all A.plain = true := all_plain hp _
 have hrl : (List.map E.enc (List.take k xs ++ List.drop m xs)).length = xs.length - (m - k) := by simp; omega
 have hflat : (List.map E.enc (List.take k xs ++ List.drop m xs)).flatMap A.cells = ((List.map E.enc xs).flatMap A.cells).take (k * E.z) ++ ((List.map E.enc xs).flatMap A.cells).drop (m * E.z) := by
  rw [List.map_append,List.flatMap_append,List.map_take,List.map_drop,flat_take enc_z,flat_drop enc_z]
 cases hv0 with
 | data _ hr => cases hr
 | ios _ _ ob hO =>
 generalize hys : List.map E.enc xs = ys at hO
 cases hO with
 | empty ad z2 =>
   have hxn : xs = [] := by cases xs with | nil => rfl | cons => simp at hys
   subst hxn
   simp at hml; omega
 | mk b o cap z2 _ cs hcap hc0 hcz hcr hcc hroom =>
   subst hys
   have hcl : cs.length = xs.length * E.z := by
    have := hcr.length
    rw [flat_length hcz] at this; simpa using this
   have hbK : ¬ K b := hKb b (by simp)
   have hrun := W.run b o xs.length cap k m cs w hc0 (by simpa using hcap) hkm hml hlim (by rw [hcl,hz]) hcc (by rw [← hz]; exact hroom) (ones_of hcr (enc_allFlat E xs))
   rw [List.length_map]
   refine hrun.mono fun e w' hh => ?_
   obtain ⟨rfl,q3,q4,q5⟩ := hh
   have hKs : ∀ q,K q → w'.heap[q]? = w.heap[q]? := fun q hq => q5.block q (hK q hq) fun e => hbK (e ▸ hq)
   refine ⟨_,rfl,q5.size,fun q hq hn => q5.block q hq fun e => hn (by simp [e]),⟨q5.os,q5.output⟩,fun q off hq => q5.fr q off hq,fun q n hr => q5.room q n hr,[_],K,[b],[],rfl,fun _ h => h,fun _ h => .inl h,?_,.gone _ _ _ _ _ _ _ (.data _ _ _ _ _ _ ⟨fun _ _ h => (by cases h),fun _ _ h => (by cases h)⟩ (.data _ _ _ _ _ _ ⟨fun _ _ h => (by cases h),fun _ _ h => (by cases h)⟩ .nil)),by simp,fun q hq => ?_⟩
   ·have hO' := OwnRep.mk (φ := φ) (w := w') (K := K) b o cap E.z (List.map E.enc (List.take k xs ++ List.drop m xs)) (cs.take (k * E.z) ++ cs.drop (m * E.z)) (hrl ▸ Nat.le_trans (Nat.sub_le _ _) (show xs.length ≤ cap from by simpa using hcap)) hc0 enc_z (by
     rw [hflat]
     exact ((hcr.take (k * E.z)).append (hcr.drop (m * E.z))).mono hKs fun _ h => h) (by rw [hz]; exact q3) (by rw [hz]; exact q4)
    rw [hrl] at hO'
    exact .cons _ _ [b] _ _ [] (.tok _ 0 E.z _ (some b) hO' hpl) .nil
   ·have : q = b := by simpa using hq
    subst this
    exact ⟨hbK,Nat.lt_of_lt_of_le hroom.lt q5.size,.inl (by simp)⟩
end
end Go.Ab
