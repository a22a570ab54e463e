/- slices.Insert and slices.Delete as callees. Conditions: none. -/
import Derived.Test.YtljcekgbidbkbaaLA
import Derived.WalkKit
import Derived.Laws.IdiomCopy
import Derived.Laws.Externs
import Derived.Lib.Overlaps
import Derived.Lib.AppendZerosOnto
import Derived.Shelf.RegionOpenPlain
set_option linter.unusedVariables false
set_option linter.unusedSimpArgs false
namespace Go.Lib
variable {P : Program}
end Go.Lib
namespace Go.Ab
section
variable {P : Program}
end
structure Turned (b : Nat) (w w' : World) : Prop where
 size : w.heap.size ≤ w'.heap.size
 block : ∀ q,q < w.heap.size → q ≠ b → w'.heap[q]? = w.heap[q]?
 os : w'.os = w.os
 output : w'.output = w.output
 fr : ∀ q off,q < w.heap.size → w'.frozen? ⟨q,off,none⟩ = w.frozen? ⟨q,off,none⟩
 room : ∀ {z : Nat} q n,Room z w q n → Room z w' q n
theorem Turned.refl (b : Nat) (w : World) : Turned b w w := ⟨Nat.le_refl _,fun _ _ _ => rfl,rfl,rfl,fun _ _ _ => rfl,fun _ _ h => h⟩
theorem Turned.drew {b : Nat} {w w1 : World} (h : Turned b w w1) : Turned b w w1.drew := ⟨h.size,h.block,h.os,h.output,h.fr,h.room⟩
theorem Turned.alloc {b : Nat} {w w1 : World} (h : Turned b w w1) (o : Obj) : Turned b w (w1.alloc o) := by
 have hs : (w1.alloc o).heap.size = w1.heap.size + 1 := by simp
 have hb : ∀ q,q < w1.heap.size → (w1.alloc o).heap[q]? = w1.heap[q]? := fun q hq => get_old _ _ hq
 exact ⟨by have := h.size; omega,fun q hq hn => (hb q (Nat.lt_of_lt_of_le hq h.size)).trans (h.block q hq hn),h.os,h.output,fun q off hq => (frozen?_of_block (hb q (Nat.lt_of_lt_of_le hq h.size)) off).trans (h.fr q off hq),
  fun q n hr => have hr1 := h.room q n hr; hr1.of_block (hb q hr1.lt)⟩
theorem room_setCells {z : Nat} {b : Nat} : ∀ (vs : List Value) (o : Nat) (w : World) {q n : Nat},Room z w q n → Room z (w.setCells b o vs) q n
 | [],_,_,_,_,h => h
 | v :: vs,o,w,_,_,h => room_setCells vs (o + 1) _ (room_setCell h)
theorem setCells_block (b : Nat) : ∀ (vs : List Value) (o : Nat) (w : World) (q : Nat),q ≠ b → (w.setCells b o vs).heap[q]? = w.heap[q]?
 | [],_,_,_,_ => rfl
 | v :: vs,o,w,q,h => (setCells_block b vs (o + 1) _ q h).trans (setCell_block _ _ _ _ _ h)
theorem setCells_size (b : Nat) : ∀ (vs : List Value) (o : Nat) (w : World),(w.setCells b o vs).heap.size = w.heap.size
 | [],_,_ => rfl
 | v :: vs,o,w => (setCells_size b vs (o + 1) _).trans (setCell_size _ _ _)
theorem setCells_env (b : Nat) : ∀ (vs : List Value) (o : Nat) (w : World),(w.setCells b o vs).os = w.os ∧ (w.setCells b o vs).output = w.output
 | [],_,_ => ⟨rfl,rfl⟩
 | v :: vs,o,w => setCells_env b vs (o + 1) _
theorem Turned.setCells {b b' : Nat} {w w1 : World} (h : Turned b w w1) (hb : b' = b ∨ w.heap.size ≤ b') (o : Nat) (vs : List Value) : Turned b w (w1.setCells b' o vs) :=
 ⟨by rw [setCells_size]; exact h.size,fun q hq hn => (setCells_block _ _ _ _ _ (by omega)).trans (h.block q hq hn),(setCells_env _ _ _ _).1.trans h.os,(setCells_env _ _ _ _).2.trans h.output,
   fun q off hq => (World.frozen?_setCells _ _ _ _ _).trans (h.fr q off hq),fun q n hr => room_setCells _ _ _ (h.room q n hr)⟩
structure InsertWalk (P : Program) (fn z : Nat) : Prop where
 en : Entered P fn
 nil : ∀ (ad : Option Addr) (va vo vc : Nat) (xs : List Value) (w : World),xs.length = z → Cells w va vo xs → (∀ v ∈ xs,v.oneCell' = true) → va < w.heap.size →
  Calls P fn #[.slice ad 0 0,.int .i64 0,.slice (some ⟨va,vo,none⟩) 1 vc] w fun e w' => ∃ b' cp,e = .returned (.slice (some ⟨b',0,none⟩) 1 cp) ∧ 1 ≤ cp ∧ w.heap.size ≤ b' ∧ b' < w'.heap.size ∧ Cells w' b' 0 xs ∧ Room z w' b' (cp * z) ∧ Turned w.heap.size w w'
 run : ∀ (b o n c i va vo vc : Nat) (cs xs : List Value) (w : World),c ≠ 0 → n ≤ c → i ≤ n → n + 1 < 1099511627776 → cs.length = n * z → Cells w b o cs → Room z w b (o + c * z) → xs.length = z → Cells w va vo xs → va ≠ b → (∀ v ∈ cs,v.oneCell' = true) → (∀ v ∈ xs,v.oneCell' = true) → va < w.heap.size →
  (∃ e k,w.shape? va = some (e,k) ∧ k ≠ 0) →
  Calls P fn #[.slice (some ⟨b,o,none⟩) n c,.int .i64 i,.slice (some ⟨va,vo,none⟩) 1 vc] w fun e w' => ∃ b' o' cp,e = .returned (.slice (some ⟨b',o',none⟩) (n + 1) cp) ∧ n + 1 ≤ cp ∧ (b' = b ∨ w.heap.size ≤ b' ∧ b' < w'.heap.size) ∧
   Cells w' b' o' (cs.take (i * z) ++ xs ++ cs.drop (i * z)) ∧ Room z w' b' (o' + cp * z) ∧ Turned b w w'
section
variable {P : Program}
end
structure DeleteWalk (P : Program) (fn z : Nat) : Prop where
 en : Entered P fn
 run : ∀ (b o n c i j : Nat) (cs : List Value) (w : World),c ≠ 0 → n ≤ c → i < j → j ≤ n → n < 1099511627776 → cs.length = n * z → Cells w b o cs → Room z w b (o + c * z) → (∀ v ∈ cs,v.oneCell' = true) →
  Calls P fn #[.slice (some ⟨b,o,none⟩) n c,.int .i64 i,.int .i64 j] w fun e w' => e = .returned (.slice (some ⟨b,o,none⟩) (n - (j - i)) c) ∧
   Cells w' b o (cs.take (i * z) ++ cs.drop (j * z)) ∧ Room z w' b (o + c * z) ∧ Turned b w w'
section
variable {P : Program} {φ : Nat → Nat}
theorem enc_z {E : ET} {xs : List E.ty} : ∀ x ∈ xs.map E.enc,x.cells.length = E.z := fun x hx => by
 obtain ⟨y,_,rfl⟩ := List.mem_map.1 hx
 exact ET.enc_z E y
end
end Go.Ab
