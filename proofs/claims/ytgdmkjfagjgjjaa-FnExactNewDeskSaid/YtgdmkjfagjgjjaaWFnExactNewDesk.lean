/- The law FnExactNewDesk answers true and leaves all as it was: walked through, function by function. Conditions: none. -/
import Derived.Test.YtgdmkjfagjgjjaaRows
import Derived.WalkKit
import Derived.ProofKit
import Derived.OpenShut
import Derived.JoinedOf
import Derived.Handed
import Derived.Deep.QuietTactic
import Derived.BigQuiet
set_option linter.unusedVariables false
set_option linter.unusedSimpArgs false
set_option maxRecDepth 100000
namespace Go.Proofs.Ytgdmkjfagjgjjaa.fnExactNewDesk
open Go.ChangeShapes Go.WideShapes Go.ChangeAt Go.RowKit
/-- Blocks below B are as they were. -/
structure Lo (B : Nat) (w w' : World) : Prop where
  size : w.heap.size ≤ w'.heap.size
  block : ∀ b, b < B → w'.heap[b]? = w.heap[b]?
  os : w'.os = w.os
  output : w'.output = w.output
theorem Lo.refl (B : Nat) (w : World) : Lo B w w := ⟨Nat.le_refl _, fun _ _ => rfl, rfl, rfl⟩
theorem Lo.mono {B B' : Nat} {w w' : World} (h : Lo B w w') (hB : B' ≤ B) : Lo B' w w' := ⟨h.size, fun b hb => h.block b (Nat.lt_of_lt_of_le hb hB), h.os, h.output⟩
theorem Lo.trans {B : Nat} {w w1 w2 : World} (h : Lo B w w1) (h' : Lo B w1 w2) : Lo B w w2 := ⟨Nat.le_trans h.size h'.size, fun b hb => (h'.block b hb).trans (h.block b hb), h'.os.trans h.os, h'.output.trans h.output⟩
theorem get_new (w : World) (o : Obj) {b : Nat} (h : b = w.heap.size) : (w.alloc o).heap[b]? = some o := by subst h; simp only [World.alloc, Array.getElem?_push_size]
theorem get_old (w : World) (o : Obj) {b : Nat} (h : b < w.heap.size) : (w.alloc o).heap[b]? = w.heap[b]? := by simp only [World.alloc]; rw [Array.getElem?_push_lt h, Array.getElem?_eq_getElem h]
theorem Lo.alloc {B : Nat} {w w1 : World} (h : Lo B w w1) (hB : B ≤ w1.heap.size) (o : Obj) : Lo B w (w1.alloc o) :=
  ⟨Nat.le_trans h.size (by have : (w1.alloc o).heap.size = w1.heap.size + 1 := (by simp); omega), fun b hb => (get_old _ _ (by omega)).trans (h.block b hb), h.os, h.output⟩
theorem setCell_size (w : World) (a : Addr) (v : Value) : (w.setCell a v).heap.size = w.heap.size := by simp [World.setCell]
theorem setCell_block (w : World) (b j c : Nat) (v : Value) (h : c ≠ b) : (w.setCell ⟨b, j, none⟩ v).heap[c]? = w.heap[c]? := Go.RowKit.Below.heap_setCell w _ v c h
theorem setCell_at {w : World} {b : Nat} {C : Array Value} {t : TypeId} (h : w.heap[b]? = some (.cells C t)) (j : Nat) (v : Value) : (w.setCell ⟨b, j, none⟩ v).heap[b]? = some (.cells (C.setIfInBounds j v) t) := by
  simp only [World.setCell, Array.getElem?_modify, if_true, h, Option.map_some]
  rfl
theorem Lo.setCell {B : Nat} {w w1 : World} (h : Lo B w w1) {b j : Nat} {v : Value} (hb : B ≤ b) : Lo B w (w1.setCell ⟨b, j, none⟩ v) :=
  ⟨by rw [setCell_size]; exact h.size, fun c hc => (setCell_block _ _ _ _ _ (by omega)).trans (h.block c hc), h.os, h.output⟩
theorem Lo.drew {B : Nat} {w w1 : World} (h : Lo B w w1) : Lo B w w1.drew := ⟨h.size, h.block, h.os, h.output⟩
theorem Lo.drewN {B : Nat} {w w1 : World} (h : Lo B w w1) (n : Nat) : Lo B w (w1.drewN n) := ⟨h.size, h.block, h.os, h.output⟩
theorem Lo.cell {B : Nat} {w w' : World} (h : Lo B w w') {b j : Nat} (hb : b < B) : w'.cell? ⟨b, j, none⟩ = w.cell? ⟨b, j, none⟩ := by
  simp only [World.cell?, h.block b hb]

theorem eqStack_nil (w : World) : Calls Try.prog 10 #[.slice none 0 0, .slice none 0 0] w fun e w' => e = .returned (.bool true) ∧ w' = w := by
  go_enter Try.func10, Try.ntmps10
  go_wp2_with (fail)
  refine wp_loop_rounds 1 ?_
  rw [rounds_succ]
  go_wp2_with (fail)
  go_ret
  exact ⟨rfl, rfl⟩

theorem markStack_nil (w : World) (k : Int) : Calls Try.prog 19 #[.slice none 0 0, .int .i64 k] w fun e w' => e = .returned (.int .i64 k) ∧ w' = w := by
  go_enter Try.func19, Try.ntmps19
  go_wp2_with (fail)
  refine wp_loop_rounds 1 ?_
  rw [rounds_succ]
  go_wp2_with (fail)
  go_ret
  exact ⟨rfl, rfl⟩

theorem heldStack_nil (w : World) (k : Int) : Calls Try.prog 27 #[.slice none 0 0, .int .i64 k] w fun e w' => e = .returned (.int .i64 k) ∧ w' = w := by
  go_enter Try.func27, Try.ntmps27
  go_wp2_with (fail)
  refine wp_loop_rounds 1 ?_
  rw [rounds_succ]
  go_wp2_with (fail)
  go_ret
  exact ⟨rfl, rfl⟩

theorem eqRib_nil (w : World) : Calls Try.prog 11 #[.slice none 0 0, .slice none 0 0] w fun e w' => e = .returned (.bool true) ∧ w' = w := by
  go_enter Try.func11, Try.ntmps11
  go_wp2_with (fail)
  refine wp_loop_rounds 1 ?_
  rw [rounds_succ]
  go_wp2_with (fail)
  go_ret
  exact ⟨rfl, rfl⟩

theorem markRib_nil (w : World) (k : Int) : Calls Try.prog 20 #[.slice none 0 0, .int .i64 k] w fun e w' => e = .returned (.int .i64 k) ∧ w' = w := by
  go_enter Try.func20, Try.ntmps20
  go_wp2_with (fail)
  refine wp_loop_rounds 1 ?_
  rw [rounds_succ]
  go_wp2_with (fail)
  go_ret
  exact ⟨rfl, rfl⟩

theorem heldRib_nil (w : World) (k : Int) : Calls Try.prog 28 #[.slice none 0 0, .int .i64 k] w fun e w' => e = .returned (.int .i64 k) ∧ w' = w := by
  go_enter Try.func28, Try.ntmps28
  go_wp2_with (fail)
  refine wp_loop_rounds 1 ?_
  rw [rounds_succ]
  go_wp2_with (fail)
  go_ret
  exact ⟨rfl, rfl⟩

theorem eqPeg_nil (w : World) : Calls Try.prog 14 #[.slice none 0 0, .slice none 0 0] w fun e w' => e = .returned (.bool true) ∧ w' = w := by
  go_enter Try.func14, Try.ntmps14
  go_wp2_with (fail)
  refine wp_loop_rounds 1 ?_
  rw [rounds_succ]
  go_wp2_with (fail)
  go_ret
  exact ⟨rfl, rfl⟩

theorem markPeg_nil (w : World) (k : Int) : Calls Try.prog 22 #[.slice none 0 0, .int .i64 k] w fun e w' => e = .returned (.int .i64 k) ∧ w' = w := by
  go_enter Try.func22, Try.ntmps22
  go_wp2_with (fail)
  refine wp_loop_rounds 1 ?_
  rw [rounds_succ]
  go_wp2_with (fail)
  go_ret
  exact ⟨rfl, rfl⟩

theorem heldPeg_nil (w : World) (k : Int) : Calls Try.prog 30 #[.slice none 0 0, .int .i64 k] w fun e w' => e = .returned (.int .i64 k) ∧ w' = w := by
  go_enter Try.func30, Try.ntmps30
  go_wp2_with (fail)
  refine wp_loop_rounds 1 ?_
  rw [rounds_succ]
  go_wp2_with (fail)
  go_ret
  exact ⟨rfl, rfl⟩

theorem eqPot_nil (w : World) : Calls Try.prog 15 #[.slice none 0 0, .slice none 0 0] w fun e w' => e = .returned (.bool true) ∧ w' = w := by
  go_enter Try.func15, Try.ntmps15
  go_wp2_with (fail)
  refine wp_loop_rounds 1 ?_
  rw [rounds_succ]
  go_wp2_with (fail)
  go_ret
  exact ⟨rfl, rfl⟩

theorem markPot_nil (w : World) (k : Int) : Calls Try.prog 23 #[.slice none 0 0, .int .i64 k] w fun e w' => e = .returned (.int .i64 k) ∧ w' = w := by
  go_enter Try.func23, Try.ntmps23
  go_wp2_with (fail)
  refine wp_loop_rounds 1 ?_
  rw [rounds_succ]
  go_wp2_with (fail)
  go_ret
  exact ⟨rfl, rfl⟩

theorem heldPot_nil (w : World) (k : Int) : Calls Try.prog 31 #[.slice none 0 0, .int .i64 k] w fun e w' => e = .returned (.int .i64 k) ∧ w' = w := by
  go_enter Try.func31, Try.ntmps31
  go_wp2_with (fail)
  refine wp_loop_rounds 1 ?_
  rw [rounds_succ]
  go_wp2_with (fail)
  go_ret
  exact ⟨rfl, rfl⟩

theorem eqMode_nil (w : World) : Calls Try.prog 16 #[.slice none 0 0, .slice none 0 0] w fun e w' => e = .returned (.bool true) ∧ w' = w := by
  go_enter Try.func16, Try.ntmps16
  go_wp2_with (fail)
  refine wp_loop_rounds 1 ?_
  rw [rounds_succ]
  go_wp2_with (fail)
  go_ret
  exact ⟨rfl, rfl⟩

theorem markMode_nil (w : World) (k : Int) : Calls Try.prog 24 #[.slice none 0 0, .int .i64 k] w fun e w' => e = .returned (.int .i64 k) ∧ w' = w := by
  go_enter Try.func24, Try.ntmps24
  go_wp2_with (fail)
  refine wp_loop_rounds 1 ?_
  rw [rounds_succ]
  go_wp2_with (fail)
  go_ret
  exact ⟨rfl, rfl⟩

theorem heldMode_nil (w : World) (k : Int) : Calls Try.prog 32 #[.slice none 0 0, .int .i64 k] w fun e w' => e = .returned (.int .i64 k) ∧ w' = w := by
  go_enter Try.func32, Try.ntmps32
  go_wp2_with (fail)
  refine wp_loop_rounds 1 ?_
  rw [rounds_succ]
  go_wp2_with (fail)
  go_ret
  exact ⟨rfl, rfl⟩

theorem eqWork_nil (w : World) : Calls Try.prog 17 #[.slice none 0 0, .slice none 0 0] w fun e w' => e = .returned (.bool true) ∧ w' = w := by
  go_enter Try.func17, Try.ntmps17
  go_wp2_with (fail)
  refine wp_loop_rounds 1 ?_
  rw [rounds_succ]
  go_wp2_with (fail)
  go_ret
  exact ⟨rfl, rfl⟩

theorem markWork_nil (w : World) (k : Int) : Calls Try.prog 25 #[.slice none 0 0, .int .i64 k] w fun e w' => e = .returned (.int .i64 k) ∧ w' = w := by
  go_enter Try.func25, Try.ntmps25
  go_wp2_with (fail)
  refine wp_loop_rounds 1 ?_
  rw [rounds_succ]
  go_wp2_with (fail)
  go_ret
  exact ⟨rfl, rfl⟩

theorem heldWork_nil (w : World) (k : Int) : Calls Try.prog 33 #[.slice none 0 0, .int .i64 k] w fun e w' => e = .returned (.int .i64 k) ∧ w' = w := by
  go_enter Try.func33, Try.ntmps33
  go_wp2_with (fail)
  refine wp_loop_rounds 1 ?_
  rw [rounds_succ]
  go_wp2_with (fail)
  go_ret
  exact ⟨rfl, rfl⟩

theorem eqPaper_nil (w : World) : Calls Try.prog 18 #[.slice none 0 0, .slice none 0 0] w fun e w' => e = .returned (.bool true) ∧ w' = w := by
  go_enter Try.func18, Try.ntmps18
  go_wp2_with (fail)
  refine wp_loop_rounds 1 ?_
  rw [rounds_succ]
  go_wp2_with (fail)
  go_ret
  exact ⟨rfl, rfl⟩

theorem markPaper_nil (w : World) (k : Int) : Calls Try.prog 26 #[.slice none 0 0, .int .i64 k] w fun e w' => e = .returned (.int .i64 k) ∧ w' = w := by
  go_enter Try.func26, Try.ntmps26
  go_wp2_with (fail)
  refine wp_loop_rounds 1 ?_
  rw [rounds_succ]
  go_wp2_with (fail)
  go_ret
  exact ⟨rfl, rfl⟩

theorem heldPaper_nil (w : World) (k : Int) : Calls Try.prog 34 #[.slice none 0 0, .int .i64 k] w fun e w' => e = .returned (.int .i64 k) ∧ w' = w := by
  go_enter Try.func34, Try.ntmps34
  go_wp2_with (fail)
  refine wp_loop_rounds 1 ?_
  rw [rounds_succ]
  go_wp2_with (fail)
  go_ret
  exact ⟨rfl, rfl⟩

theorem eqInt (w : World) (b c : Nat) (x y : Int) (b0 : w.cell? ⟨b, 0, none⟩ = some (.int .i64 x)) (b1 : w.cell? ⟨b, 1, none⟩ = some (.int .i64 y)) (c0 : w.cell? ⟨c, 0, none⟩ = some (.int .i64 x)) (c1 : w.cell? ⟨c, 1, none⟩ = some (.int .i64 y)) :
    Calls Try.prog 37 #[.slice (some ⟨b, 0, none⟩) 2 2, .slice (some ⟨c, 0, none⟩) 2 2] w fun e w' => e = .returned (.bool true) ∧ ∃ m, w' = w.drewN m := by
  go_enter Try.func37, Try.ntmps37
  go_wp2_with (fail)
  refine wp_loop_rounds 3 ?_
  rw [rounds_succ]
  go_wp2_with (fail)
  go_quiet (fail)
  go_wp2_with (fail)
  rw [rounds_succ]
  go_wp2_with (fail)
  go_quiet (fail)
  go_wp2_with (fail)
  rw [rounds_succ]
  go_wp2_with (fail)
  go_ret
  exact ⟨rfl, _, rfl⟩
theorem heldInt (w : World) (b : Nat) (k : Int) (hk : 0 ≤ k ∧ k ≤ 1000) (b0 : w.cell? ⟨b, 0, none⟩ = some (.int .i64 k)) (b1 : w.cell? ⟨b, 1, none⟩ = some (.int .i64 (k + 1))) :
    Calls Try.prog 45 #[.slice (some ⟨b, 0, none⟩) 2 2, .int .i64 k] w fun e w' => e = .returned (.int .i64 (k + 1 + 1)) ∧ Lo w.heap.size w w' := by
  go_enter Try.func45, Try.ntmps45
  go_wp2_with (fail)
  refine wp_loop_rounds 3 ?_
  rw [rounds_succ]
  go_wp2_with (fail)
  rw [rounds_succ]
  go_wp2_with (fail)
  rw [rounds_succ]
  go_wp2_with (fail)
  go_ret
  exact ⟨rfl, Lo.refl _ _⟩
theorem markInt (w : World) (b : Nat) (k : Int) (t : TypeId) (hk : 0 ≤ k ∧ k ≤ 1000) (x y : Value) (hb : w.heap[b]? = some (.cells #[x, y] t)) :
    Calls Try.prog 44 #[.slice (some ⟨b, 0, none⟩) 2 2, .int .i64 k] w fun e w' => e = .returned (.int .i64 (k + 1 + 1)) ∧ w' = (w.setCell ⟨b, 0, none⟩ (.int .i64 k)).setCell ⟨b, 1, none⟩ (.int .i64 (k + 1)) := by
  have b0 : w.cell? ⟨b, 0, none⟩ = some x := by simp [World.cell?, hb]
  have b1 : w.cell? ⟨b, 1, none⟩ = some y := by simp [World.cell?, hb]
  have f1 : ∀ j, w.frozen? ⟨b, j, none⟩ = false := fun j => by simp [World.frozen?, hb]
  go_enter Try.func44, Try.ntmps44
  go_wp2_with (fail)
  refine wp_loop_rounds 3 ?_
  rw [rounds_succ]
  go_wp2_with (fail)
  rw [rounds_succ]
  go_wp2_with (fail)
  rw [rounds_succ]
  go_wp2_with (fail)
  go_ret
  exact ⟨rfl, rfl⟩
theorem heldInt1 (w : World) (b : Nat) (b0 : w.cell? ⟨b, 0, none⟩ = some (.int .i64 1)) (b1 : w.cell? ⟨b, 1, none⟩ = some (.int .i64 2)) :
    Calls Try.prog 45 #[.slice (some ⟨b, 0, none⟩) 2 2, .int .i64 1] w fun e w' => e = .returned (.int .i64 3) ∧ Lo w.heap.size w w' := heldInt w b 1 (by decide) b0 b1
theorem heldInt3 (w : World) (b : Nat) (b0 : w.cell? ⟨b, 0, none⟩ = some (.int .i64 3)) (b1 : w.cell? ⟨b, 1, none⟩ = some (.int .i64 4)) :
    Calls Try.prog 45 #[.slice (some ⟨b, 0, none⟩) 2 2, .int .i64 3] w fun e w' => e = .returned (.int .i64 5) ∧ Lo w.heap.size w w' := heldInt w b 3 (by decide) b0 b1
theorem markInt1 (w : World) (b : Nat) (t : TypeId) (x y : Value) (hb : w.heap[b]? = some (.cells #[x, y] t)) :
    Calls Try.prog 44 #[.slice (some ⟨b, 0, none⟩) 2 2, .int .i64 1] w fun e w' => e = .returned (.int .i64 3) ∧ w' = (w.setCell ⟨b, 0, none⟩ (.int .i64 1)).setCell ⟨b, 1, none⟩ (.int .i64 2) := markInt w b 1 t (by decide) x y hb
theorem markInt3 (w : World) (b : Nat) (t : TypeId) (x y : Value) (hb : w.heap[b]? = some (.cells #[x, y] t)) :
    Calls Try.prog 44 #[.slice (some ⟨b, 0, none⟩) 2 2, .int .i64 3] w fun e w' => e = .returned (.int .i64 5) ∧ w' = (w.setCell ⟨b, 0, none⟩ (.int .i64 3)).setCell ⟨b, 1, none⟩ (.int .i64 4) := markInt w b 3 t (by decide) x y hb
theorem cellN (w : World) (n : Nat) (a : Addr) : (w.drewN n).cell? a = w.cell? a := by simp
theorem drewNN (w : World) (a b : Nat) : (w.drewN a).drewN b = w.drewN (a + b) := by simp
theorem eqPlate (w : World) (a b c a' b' c' : Nat) (x0 x1 y0 y1 : Int) (h0 : w.cell? ⟨a, 0, none⟩ = some (.slice (some ⟨b, 0, none⟩) 2 2)) (h1 : w.cell? ⟨a, 1, none⟩ = some (.slice (some ⟨c, 0, none⟩) 2 2))
    (b0 : w.cell? ⟨b, 0, none⟩ = some (.int .i64 x0)) (b1 : w.cell? ⟨b, 1, none⟩ = some (.int .i64 x1)) (c0 : w.cell? ⟨c, 0, none⟩ = some (.int .i64 y0)) (c1 : w.cell? ⟨c, 1, none⟩ = some (.int .i64 y1))
    (h0' : w.cell? ⟨a', 0, none⟩ = some (.slice (some ⟨b', 0, none⟩) 2 2)) (h1' : w.cell? ⟨a', 1, none⟩ = some (.slice (some ⟨c', 0, none⟩) 2 2))
    (b0' : w.cell? ⟨b', 0, none⟩ = some (.int .i64 x0)) (b1' : w.cell? ⟨b', 1, none⟩ = some (.int .i64 x1)) (c0' : w.cell? ⟨c', 0, none⟩ = some (.int .i64 y0)) (c1' : w.cell? ⟨c', 1, none⟩ = some (.int .i64 y1)) :
    Calls Try.prog 12 #[.slice (some ⟨a, 0, none⟩) 2 2, .slice (some ⟨a', 0, none⟩) 2 2] w fun e w' => e = .returned (.bool true) ∧ ∃ m, w' = w.drewN m := by
  go_enter Try.func12, Try.ntmps12
  go_wp2_with (fail)
  refine wp_loop_rounds 3 ?_
  rw [rounds_succ]
  go_wp2_with (fail)
  go_quiet (first | (go_at_call 37; exact Calls.quiet_of (eqInt _ b b' x0 x1 ((cellN _ _ _).trans b0) ((cellN _ _ _).trans b1) ((cellN _ _ _).trans b0') ((cellN _ _ _).trans b1'))))
  go_wp2_with (fail)
  rw [rounds_succ]
  go_wp2_with (fail)
  go_quiet (first | (go_at_call 37; refine (eqInt _ c c' y0 y1 ((cellN _ _ _).trans c0) ((cellN _ _ _).trans c1) ((cellN _ _ _).trans c0') ((cellN _ _ _).trans c1')).mono ?_; rintro e w2 ⟨he, m, hm⟩; exact ⟨he, _, by rw [hm, drewNN, Nat.add_assoc]⟩))
  go_wp2_with (fail)
  rw [rounds_succ]
  go_wp2_with (fail)
  go_ret
  exact ⟨rfl, _, rfl⟩
theorem heldPlate (w : World) (a b c : Nat) (ha : a < w.heap.size) (hb : b < w.heap.size) (hc : c < w.heap.size) (h0 : w.cell? ⟨a, 0, none⟩ = some (.slice (some ⟨b, 0, none⟩) 2 2)) (h1 : w.cell? ⟨a, 1, none⟩ = some (.slice (some ⟨c, 0, none⟩) 2 2))
    (b0 : w.cell? ⟨b, 0, none⟩ = some (.int .i64 1)) (b1 : w.cell? ⟨b, 1, none⟩ = some (.int .i64 2)) (c0 : w.cell? ⟨c, 0, none⟩ = some (.int .i64 3)) (c1 : w.cell? ⟨c, 1, none⟩ = some (.int .i64 4)) :
    Calls Try.prog 29 #[.slice (some ⟨a, 0, none⟩) 2 2, .int .i64 1] w fun e w' => e = .returned (.int .i64 5) ∧ Lo w.heap.size w w' := by
  go_enter Try.func29, Try.ntmps29
  go_wp2_with (fail)
  refine wp_loop_rounds 3 ?_
  rw [rounds_succ]
  go_wp2_with (fail)
  go_at_call 45
  refine (heldInt1 w b b0 b1).mono ?_
  rintro e w1 ⟨rfl, hw1⟩
  replace h1 := (hw1.cell ha).trans h1
  replace c0 := (hw1.cell hc).trans c0
  replace c1 := (hw1.cell hc).trans c1
  go_wp2_with (fail)
  rw [rounds_succ]
  go_wp2_with (fail)
  go_at_call 45
  refine (heldInt3 w1 c c0 c1).mono ?_
  rintro e w2 ⟨rfl, hw2⟩
  go_wp2_with (fail)
  rw [rounds_succ]
  go_wp2_with (fail)
  go_ret
  exact ⟨rfl, hw1.trans (hw2.mono hw1.size)⟩
theorem markPlate (w : World) (a b c : Nat) (ta tb : TypeId) (hab : a ≠ b) (hac : a ≠ c) (hbc : b ≠ c) (x0 x1 y0 y1 : Value) (ha : w.heap[a]? = some (.cells #[.slice (some ⟨b, 0, none⟩) 2 2, .slice (some ⟨c, 0, none⟩) 2 2] ta))
    (hb : w.heap[b]? = some (.cells #[x0, x1] tb)) (hc : w.heap[c]? = some (.cells #[y0, y1] tb)) :
    Calls Try.prog 21 #[.slice (some ⟨a, 0, none⟩) 2 2, .int .i64 1] w fun e w' => e = .returned (.int .i64 5) ∧ w' = ((((w.setCell ⟨b, 0, none⟩ (.int .i64 1)).setCell ⟨b, 1, none⟩ (.int .i64 2)).setCell ⟨c, 0, none⟩ (.int .i64 3)).setCell ⟨c, 1, none⟩ (.int .i64 4)) := by
  have h0 : w.cell? ⟨a, 0, none⟩ = some (.slice (some ⟨b, 0, none⟩) 2 2) := by simp [World.cell?, ha]
  have hc1 : ((w.setCell ⟨b, 0, none⟩ (.int .i64 1)).setCell ⟨b, 1, none⟩ (.int .i64 2)).heap[c]? = some (.cells #[y0, y1] tb) := by rw [setCell_block _ _ _ _ _ hbc.symm, setCell_block _ _ _ _ _ hbc.symm]; exact hc
  have ha1 : ((w.setCell ⟨b, 0, none⟩ (.int .i64 1)).setCell ⟨b, 1, none⟩ (.int .i64 2)).heap[a]? = some (.cells #[.slice (some ⟨b, 0, none⟩) 2 2, .slice (some ⟨c, 0, none⟩) 2 2] ta) := by rw [setCell_block _ _ _ _ _ hab, setCell_block _ _ _ _ _ hab]; exact ha
  have h1 : ((w.setCell ⟨b, 0, none⟩ (.int .i64 1)).setCell ⟨b, 1, none⟩ (.int .i64 2)).cell? ⟨a, 1, none⟩ = some (.slice (some ⟨c, 0, none⟩) 2 2) := by simp only [World.cell?, ha1]; rfl
  go_enter Try.func21, Try.ntmps21
  go_wp2_with (fail)
  refine wp_loop_rounds 3 ?_
  rw [rounds_succ]
  go_wp2_with (fail)
  go_at_call 44
  refine (markInt1 w b tb x0 x1 hb).mono ?_
  rintro e w1 ⟨rfl, rfl⟩
  generalize e1 : (w.setCell ⟨b, 0, none⟩ (.int .i64 1)).setCell ⟨b, 1, none⟩ (.int .i64 2) = w1 at hc1 h1 ⊢
  go_wp2_with (fail)
  rw [rounds_succ]
  go_wp2_with (fail)
  go_at_call 44
  refine (markInt3 w1 c tb y0 y1 hc1).mono ?_
  rintro e w2 ⟨rfl, rfl⟩
  go_wp2_with (fail)
  rw [rounds_succ]
  go_wp2_with (fail)
  go_ret
  subst e1
  exact ⟨rfl, rfl⟩
def deskV (a : Nat) : Value := .agg #[.slice none 0 0, .slice none 0 0, .slice (some ⟨a, 0, none⟩) 2 2, .int .i64 1300, .int .i64 1950, .int .i64 60, .int .i64 110, .slice none 0 0, .slice none 0 0, .slice none 0 0, .slice none 0 0, .slice none 0 0]
/-- The plate of a new desk lies in the blocks a, b, c. -/
structure Desk (w : World) (a b c : Nat) : Prop where
  ab : a ≠ b
  ac : a ≠ c
  bc : b ≠ c
  la : a < w.heap.size
  lb : b < w.heap.size
  lc : c < w.heap.size
  ha : w.heap[a]? = some (.cells #[.slice (some ⟨b, 0, none⟩) 2 2, .slice (some ⟨c, 0, none⟩) 2 2] 38)
  hb : w.heap[b]? = some (.cells #[.int .i64 30, .int .i64 32] 2)
  hc : w.heap[c]? = some (.cells #[.int .i64 31, .int .i64 33] 2)
theorem newDesk (w : World) : Calls Try.prog 5 #[] w fun e w' => ∃ a b c, e = .returned (deskV a) ∧ Desk w' a b c ∧ Lo w.heap.size w w' ∧ w.heap.size ≤ a ∧ w.heap.size ≤ b ∧ w.heap.size ≤ c := by
  go_enter Try.func5, Try.ntmps5
  go_wp2_with (fail)
  refine bodyPost_ret (v := deskV (w.heap.size + 1 + 1 + 1)) (by simp [results, Try.results5, go_sem, deskV]) rfl ⟨w.heap.size + 1 + 1 + 1, w.heap.size + 1, w.heap.size + 1 + 1, rfl, ?_, ?_, by omega, by omega, by omega⟩
  · refine ⟨by omega, by omega, by omega, by simp, by simp, by simp, get_new _ _ (by simp), ?_, ?_⟩
    · exact (get_old _ _ (by simp)).trans ((get_old _ _ (by simp)).trans (get_new _ _ (by simp)))
    · exact (get_old _ _ (by simp)).trans (get_new _ _ (by simp))
  · exact ((((Lo.refl _ w).alloc (Nat.le_refl _) _).alloc (by simp) _).alloc (by simp; omega) _).alloc (by simp; omega) _
theorem oldDesk (w : World) : Calls Try.prog 9 #[] w fun e w' => ∃ a b c, e = .returned (deskV a) ∧ Desk w' a b c ∧ Lo w.heap.size w w' ∧ w.heap.size ≤ a ∧ w.heap.size ≤ b ∧ w.heap.size ≤ c := by
  go_enter Try.func9, Try.ntmps9
  go_wp2_with (fail)
  refine bodyPost_ret (v := deskV (w.heap.size + 1 + 1 + 1)) (by simp [results, Try.results9, go_sem, deskV]) rfl ⟨w.heap.size + 1 + 1 + 1, w.heap.size + 1, w.heap.size + 1 + 1, rfl, ?_, ?_, by omega, by omega, by omega⟩
  · refine ⟨by omega, by omega, by omega, by simp, by simp, by simp, get_new _ _ (by simp), ?_, ?_⟩
    · exact (get_old _ _ (by simp)).trans ((get_old _ _ (by simp)).trans (get_new _ _ (by simp)))
    · exact (get_old _ _ (by simp)).trans (get_new _ _ (by simp))
  · exact ((((Lo.refl _ w).alloc (Nat.le_refl _) _).alloc (by simp) _).alloc (by simp; omega) _).alloc (by simp; omega) _
theorem specDesk (w : World) : Calls Try.prog 4 #[] w fun e w' => ∃ a b c, e = .returned (deskV a) ∧ Desk w' a b c ∧ Lo w.heap.size w w' ∧ w.heap.size ≤ a ∧ w.heap.size ≤ b ∧ w.heap.size ≤ c := by
  go_enter Try.func4, Try.ntmps4
  go_wp2_with (fail)
  go_at_call 9
  refine (oldDesk _).mono ?_
  rintro e w1 ⟨a, b, c, rfl, D, hw1, ka, kb, kc⟩
  have z : w.heap.size + 1 ≤ w1.heap.size := by have := hw1.size; simp at this; omega
  simp at ka kb kc
  have k : w1.heap[w.heap.size]? = some (.cells #[.slice none 0 0, .slice none 0 0, .slice none 0 0, .int .i64 0, .int .i64 0, .int .i64 0, .int .i64 0, .slice none 0 0, .slice none 0 0, .slice none 0 0, .slice none 0 0, .slice none 0 0] 33) := (hw1.block w.heap.size (by simp)).trans (get_new _ _ rfl)
  have q0 : w1.cell? ⟨w.heap.size, 0, none⟩ = some (.slice none 0 0) := by simp [World.cell?, k]
  have q1 : w1.cell? ⟨w.heap.size, 1, none⟩ = some (.slice none 0 0) := by simp [World.cell?, k]
  have q2 : w1.cell? ⟨w.heap.size, 2, none⟩ = some (.slice none 0 0) := by simp [World.cell?, k]
  have q3 : w1.cell? ⟨w.heap.size, 3, none⟩ = some (.int .i64 0) := by simp [World.cell?, k]
  have q4 : w1.cell? ⟨w.heap.size, 4, none⟩ = some (.int .i64 0) := by simp [World.cell?, k]
  have q5 : w1.cell? ⟨w.heap.size, 5, none⟩ = some (.int .i64 0) := by simp [World.cell?, k]
  have q6 : w1.cell? ⟨w.heap.size, 6, none⟩ = some (.int .i64 0) := by simp [World.cell?, k]
  have q7 : w1.cell? ⟨w.heap.size, 7, none⟩ = some (.slice none 0 0) := by simp [World.cell?, k]
  have q8 : w1.cell? ⟨w.heap.size, 8, none⟩ = some (.slice none 0 0) := by simp [World.cell?, k]
  have q9 : w1.cell? ⟨w.heap.size, 9, none⟩ = some (.slice none 0 0) := by simp [World.cell?, k]
  have q10 : w1.cell? ⟨w.heap.size, 10, none⟩ = some (.slice none 0 0) := by simp [World.cell?, k]
  have q11 : w1.cell? ⟨w.heap.size, 11, none⟩ = some (.slice none 0 0) := by simp [World.cell?, k]
  have f1 : ∀ j, w1.frozen? ⟨w.heap.size, j, none⟩ = false := fun j => by simp [World.frozen?, k]
  have L1 : Lo w.heap.size w w1 := ((Lo.refl _ w).alloc (Nat.le_refl _) _).trans (hw1.mono (by simp))
  unfold deskV
  go_wp2
  refine bodyPost_ret (v := deskV a) (by simp [results, Try.results4, go_sem, deskV, q0, q1, q2, q3, q4, q5, q6, q7, q8, q9, q10, q11, World.cell?_setCell_same', World.cell?_setCell_other]) rfl ⟨a, b, c, rfl, ?_, ?_, by omega, by omega, by omega⟩
  · refine ⟨D.ab, D.ac, D.bc, by simp only [setCell_size]; exact D.la, by simp only [setCell_size]; exact D.lb, by simp only [setCell_size]; exact D.lc, ?_, ?_, ?_⟩
    · rw [setCell_block _ _ _ _ _ (by omega), setCell_block _ _ _ _ _ (by omega), setCell_block _ _ _ _ _ (by omega), setCell_block _ _ _ _ _ (by omega), setCell_block _ _ _ _ _ (by omega), setCell_block _ _ _ _ _ (by omega), setCell_block _ _ _ _ _ (by omega), setCell_block _ _ _ _ _ (by omega), setCell_block _ _ _ _ _ (by omega), setCell_block _ _ _ _ _ (by omega), setCell_block _ _ _ _ _ (by omega), setCell_block _ _ _ _ _ (by omega)]; exact D.ha
    · rw [setCell_block _ _ _ _ _ (by omega), setCell_block _ _ _ _ _ (by omega), setCell_block _ _ _ _ _ (by omega), setCell_block _ _ _ _ _ (by omega), setCell_block _ _ _ _ _ (by omega), setCell_block _ _ _ _ _ (by omega), setCell_block _ _ _ _ _ (by omega), setCell_block _ _ _ _ _ (by omega), setCell_block _ _ _ _ _ (by omega), setCell_block _ _ _ _ _ (by omega), setCell_block _ _ _ _ _ (by omega), setCell_block _ _ _ _ _ (by omega)]; exact D.hb
    · rw [setCell_block _ _ _ _ _ (by omega), setCell_block _ _ _ _ _ (by omega), setCell_block _ _ _ _ _ (by omega), setCell_block _ _ _ _ _ (by omega), setCell_block _ _ _ _ _ (by omega), setCell_block _ _ _ _ _ (by omega), setCell_block _ _ _ _ _ (by omega), setCell_block _ _ _ _ _ (by omega), setCell_block _ _ _ _ _ (by omega), setCell_block _ _ _ _ _ (by omega), setCell_block _ _ _ _ _ (by omega), setCell_block _ _ _ _ _ (by omega)]; exact D.hc
  · exact (((((((((((L1.setCell (Nat.le_refl _)).setCell (Nat.le_refl _)).setCell (Nat.le_refl _)).setCell (Nat.le_refl _)).setCell (Nat.le_refl _)).setCell (Nat.le_refl _)).setCell (Nat.le_refl _)).setCell (Nat.le_refl _)).setCell (Nat.le_refl _)).setCell (Nat.le_refl _)).setCell (Nat.le_refl _)).setCell (Nat.le_refl _)
theorem eqNeckW (w : World) : Calls Try.prog 13 #[.agg #[.int .i64 1300, .int .i64 1950, .int .i64 60, .int .i64 110], .agg #[.int .i64 1300, .int .i64 1950, .int .i64 60, .int .i64 110]] w fun e w' => e = .returned (.bool true) ∧ Lo w.heap.size w w' := by
  go_enter Try.func13, Try.ntmps13
  go_wp2_with (fail)
  go_ret
  exact ⟨rfl, ((Lo.refl _ w).alloc (Nat.le_refl _) _).alloc (by simp) _⟩
theorem eqDeskW (w : World) (a b c a' b' c' : Nat) (D : Desk w a b c) (D' : Desk w a' b' c') : Calls Try.prog 6 #[deskV a, deskV a'] w fun e w' => e = .returned (.bool true) ∧ Lo w.heap.size w w' := by
  unfold deskV
  go_enter Try.func6, Try.ntmps6
  go_wp2_with (fail)
  go_at_call 10
  refine (eqStack_nil _).mono ?_
  rintro e w1 ⟨rfl, hw⟩
  have A1 : w1.heap[w.heap.size]? = some (.cells #[.slice none 0 0, .slice none 0 0, .slice (some ⟨a, 0, none⟩) 2 2, .int .i64 1300, .int .i64 1950, .int .i64 60, .int .i64 110, .slice none 0 0, .slice none 0 0, .slice none 0 0, .slice none 0 0, .slice none 0 0] 33) := by rw [hw]; exact (get_old _ _ (by simp)).trans (get_new _ _ rfl)
  have A2 : w1.heap[w.heap.size + 1]? = some (.cells #[.slice none 0 0, .slice none 0 0, .slice (some ⟨a', 0, none⟩) 2 2, .int .i64 1300, .int .i64 1950, .int .i64 60, .int .i64 110, .slice none 0 0, .slice none 0 0, .slice none 0 0, .slice none 0 0, .slice none 0 0] 33) := by rw [hw]; exact get_new _ _ (by simp)
  have L : Lo w.heap.size w w1 := by rw [hw]; exact ((Lo.refl _ w).alloc (Nat.le_refl _) _).alloc (by simp) _
  have Z : w.heap.size + 1 < w1.heap.size := by rw [hw]; simp
  clear hw
  have p1 : w1.cell? ⟨w.heap.size, 1, none⟩ = some (.slice none 0 0) := by simp [World.cell?, A1]
  have q1 : w1.cell? ⟨w.heap.size + 1, 1, none⟩ = some (.slice none 0 0) := by simp [World.cell?, A2]
  have p2 : w1.cell? ⟨w.heap.size, 2, none⟩ = some (.slice (some ⟨a, 0, none⟩) 2 2) := by simp [World.cell?, A1]
  have q2 : w1.cell? ⟨w.heap.size + 1, 2, none⟩ = some (.slice (some ⟨a', 0, none⟩) 2 2) := by simp [World.cell?, A2]
  have p3 : w1.cell? ⟨w.heap.size, 3, none⟩ = some (.int .i64 1300) := by simp [World.cell?, A1]
  have q3 : w1.cell? ⟨w.heap.size + 1, 3, none⟩ = some (.int .i64 1300) := by simp [World.cell?, A2]
  have p4 : w1.cell? ⟨w.heap.size, 4, none⟩ = some (.int .i64 1950) := by simp [World.cell?, A1]
  have q4 : w1.cell? ⟨w.heap.size + 1, 4, none⟩ = some (.int .i64 1950) := by simp [World.cell?, A2]
  have p5 : w1.cell? ⟨w.heap.size, 5, none⟩ = some (.int .i64 60) := by simp [World.cell?, A1]
  have q5 : w1.cell? ⟨w.heap.size + 1, 5, none⟩ = some (.int .i64 60) := by simp [World.cell?, A2]
  have p6 : w1.cell? ⟨w.heap.size, 6, none⟩ = some (.int .i64 110) := by simp [World.cell?, A1]
  have q6 : w1.cell? ⟨w.heap.size + 1, 6, none⟩ = some (.int .i64 110) := by simp [World.cell?, A2]
  go_wp2_with (fail)
  go_at_call 11
  refine (eqRib_nil _).mono ?_
  rintro e w1' ⟨rfl, rfl⟩
  go_wp2_with (fail)
  go_at_call 12
  refine (eqPlate _ a b c a' b' c' 30 32 31 33 ((L.cell D.la).trans (by simp [World.cell?, D.ha])) ((L.cell D.la).trans (by simp [World.cell?, D.ha])) ((L.cell D.lb).trans (by simp [World.cell?, D.hb])) ((L.cell D.lb).trans (by simp [World.cell?, D.hb])) ((L.cell D.lc).trans (by simp [World.cell?, D.hc])) ((L.cell D.lc).trans (by simp [World.cell?, D.hc])) ((L.cell D'.la).trans (by simp [World.cell?, D'.ha])) ((L.cell D'.la).trans (by simp [World.cell?, D'.ha])) ((L.cell D'.lb).trans (by simp [World.cell?, D'.hb])) ((L.cell D'.lb).trans (by simp [World.cell?, D'.hb])) ((L.cell D'.lc).trans (by simp [World.cell?, D'.hc])) ((L.cell D'.lc).trans (by simp [World.cell?, D'.hc]))).mono ?_
  rintro e w2 ⟨rfl, m, rfl⟩
  go_wp2_with (fail)
  go_at_call 13
  refine (eqNeckW _).mono ?_
  rintro e w3 ⟨rfl, h3⟩
  replace A1 := (h3.block w.heap.size (by simp; omega)).trans A1
  replace A2 := (h3.block (w.heap.size + 1) (by simp; omega)).trans A2
  replace L := (L.drewN m).trans (h3.mono (by simp; omega))
  replace Z : w.heap.size + 1 < w3.heap.size := by have := h3.size; simp at this; omega
  clear p1 p2 p3 p4 p5 p6 q1 q2 q3 q4 q5 q6
  have p7 : w3.cell? ⟨w.heap.size, 7, none⟩ = some (.slice none 0 0) := by simp [World.cell?, A1]
  have q7 : w3.cell? ⟨w.heap.size + 1, 7, none⟩ = some (.slice none 0 0) := by simp [World.cell?, A2]
  have p8 : w3.cell? ⟨w.heap.size, 8, none⟩ = some (.slice none 0 0) := by simp [World.cell?, A1]
  have q8 : w3.cell? ⟨w.heap.size + 1, 8, none⟩ = some (.slice none 0 0) := by simp [World.cell?, A2]
  have p9 : w3.cell? ⟨w.heap.size, 9, none⟩ = some (.slice none 0 0) := by simp [World.cell?, A1]
  have q9 : w3.cell? ⟨w.heap.size + 1, 9, none⟩ = some (.slice none 0 0) := by simp [World.cell?, A2]
  have p10 : w3.cell? ⟨w.heap.size, 10, none⟩ = some (.slice none 0 0) := by simp [World.cell?, A1]
  have q10 : w3.cell? ⟨w.heap.size + 1, 10, none⟩ = some (.slice none 0 0) := by simp [World.cell?, A2]
  have p11 : w3.cell? ⟨w.heap.size, 11, none⟩ = some (.slice none 0 0) := by simp [World.cell?, A1]
  have q11 : w3.cell? ⟨w.heap.size + 1, 11, none⟩ = some (.slice none 0 0) := by simp [World.cell?, A2]
  go_wp2_with (fail)
  go_at_call 14
  refine (eqPeg_nil _).mono ?_
  rintro e w4 ⟨rfl, rfl⟩
  go_wp2_with (fail)
  go_at_call 15
  refine (eqPot_nil _).mono ?_
  rintro e w4 ⟨rfl, rfl⟩
  go_wp2_with (fail)
  go_at_call 16
  refine (eqMode_nil _).mono ?_
  rintro e w4 ⟨rfl, rfl⟩
  go_wp2_with (fail)
  go_at_call 17
  refine (eqWork_nil _).mono ?_
  rintro e w4 ⟨rfl, rfl⟩
  go_wp2_with (fail)
  go_at_call 18
  refine (eqPaper_nil _).mono ?_
  rintro e w4 ⟨rfl, rfl⟩
  go_wp2_with (fail)
  go_ret
  exact ⟨rfl, L⟩
/-- Blocks outside X are as they were. -/
structure Rg (X : Nat → Prop) (w w' : World) : Prop where
  size : w.heap.size ≤ w'.heap.size
  block : ∀ c, c < w.heap.size → ¬ X c → w'.heap[c]? = w.heap[c]?
  os : w'.os = w.os
  output : w'.output = w.output
theorem Lo.rg {X : Nat → Prop} {B : Nat} {w w1 w2 : World} (h : Lo B w w1) (hr : Rg X w1 w2) (hx : ∀ c, X c → B ≤ c) (hB : B ≤ w1.heap.size) : Lo B w w2 :=
  ⟨Nat.le_trans h.size hr.size, fun c hc => (hr.block c (Nat.lt_of_lt_of_le hc hB) (fun e => Nat.lt_irrefl _ (Nat.lt_of_lt_of_le hc (hx c e)))).trans (h.block c hc), hr.os.trans h.os, hr.output.trans h.output⟩
theorem Desk.keep {w w' : World} {a b c : Nat} (D : Desk w a b c) (h : Lo w.heap.size w w') : Desk w' a b c :=
  ⟨D.ab, D.ac, D.bc, Nat.lt_of_lt_of_le D.la h.size, Nat.lt_of_lt_of_le D.lb h.size, Nat.lt_of_lt_of_le D.lc h.size, (h.block _ D.la).trans D.ha, (h.block _ D.lb).trans D.hb, (h.block _ D.lc).trans D.hc⟩
/-- A desk whose plate is marked. -/
structure Marked (w : World) (a b c : Nat) : Prop where
  la : a < w.heap.size
  lb : b < w.heap.size
  lc : c < w.heap.size
  ha : w.heap[a]? = some (.cells #[.slice (some ⟨b, 0, none⟩) 2 2, .slice (some ⟨c, 0, none⟩) 2 2] 38)
  hb : w.heap[b]? = some (.cells #[.int .i64 1, .int .i64 2] 2)
  hc : w.heap[c]? = some (.cells #[.int .i64 3, .int .i64 4] 2)
theorem Marked.keep {w w' : World} {a b c : Nat} (D : Marked w a b c) (h : Lo w.heap.size w w') : Marked w' a b c :=
  ⟨Nat.lt_of_lt_of_le D.la h.size, Nat.lt_of_lt_of_le D.lb h.size, Nat.lt_of_lt_of_le D.lc h.size, (h.block _ D.la).trans D.ha, (h.block _ D.lb).trans D.hb, (h.block _ D.lc).trans D.hc⟩
set_option maxHeartbeats 3200000 in
theorem markDeskW (w : World) (a b c : Nat) (D : Desk w a b c) : Calls Try.prog 7 #[deskV a, .int .i64 1] w fun e w' => e = .returned (.int .i64 5) ∧ Marked w' a b c ∧ Rg (fun d => d = b ∨ d = c) w w' := by
  have da := D.la
  have db := D.lb
  have dc := D.lc
  unfold deskV
  go_enter Try.func7, Try.ntmps7
  go_wp2_with (fail)
  go_at_call 19
  refine (markStack_nil _ _).mono ?_
  rintro e w1 ⟨rfl, hw⟩
  have A1 : w1.heap[w.heap.size]? = some (.cells #[.slice none 0 0, .slice none 0 0, .slice (some ⟨a, 0, none⟩) 2 2, .int .i64 1300, .int .i64 1950, .int .i64 60, .int .i64 110, .slice none 0 0, .slice none 0 0, .slice none 0 0, .slice none 0 0, .slice none 0 0] 33) := by rw [hw]; exact get_new _ _ rfl
  have L : Lo w.heap.size w w1 := by rw [hw]; exact (Lo.refl _ w).alloc (Nat.le_refl _) _
  clear hw
  have p1 : w1.cell? ⟨w.heap.size, 1, none⟩ = some (.slice none 0 0) := by simp [World.cell?, A1]
  have p2 : w1.cell? ⟨w.heap.size, 2, none⟩ = some (.slice (some ⟨a, 0, none⟩) 2 2) := by simp [World.cell?, A1]
  go_wp2_with (fail)
  go_at_call 20
  refine (markRib_nil _ _).mono ?_
  rintro e wq ⟨rfl, hq⟩
  obtain rfl := hq.symm
  go_wp2_with (fail)
  go_at_call 21
  refine (markPlate _ a b c 38 2 D.ab D.ac D.bc _ _ _ _ ((L.block _ da).trans D.ha) ((L.block _ db).trans D.hb) ((L.block _ dc).trans D.hc)).mono ?_
  rintro e w2 ⟨rfl, hw⟩
  have sz : w2.heap.size = w1.heap.size := by rw [hw]; simp only [setCell_size]
  have K : ∀ d, d ≠ b → d ≠ c → w2.heap[d]? = w1.heap[d]? := fun d h1 h2 => by rw [hw, setCell_block _ _ _ _ _ h2, setCell_block _ _ _ _ _ h2, setCell_block _ _ _ _ _ h1, setCell_block _ _ _ _ _ h1]
  have M : Marked w2 a b c := by
    refine ⟨by have := L.size; omega, by have := L.size; omega, by have := L.size; omega, (K a D.ab D.ac).trans ((L.block _ da).trans D.ha), ?_, ?_⟩
    · rw [hw, setCell_block _ _ _ _ _ D.bc, setCell_block _ _ _ _ _ D.bc]
      exact setCell_at (setCell_at ((L.block _ db).trans D.hb) _ _) _ _
    · have h4 : ((w1.setCell ⟨b, 0, none⟩ (.int .i64 1)).setCell ⟨b, 1, none⟩ (.int .i64 2)).heap[c]? = some (.cells #[.int .i64 31, .int .i64 33] 2) := by
        rw [setCell_block _ _ _ _ _ D.bc.symm, setCell_block _ _ _ _ _ D.bc.symm]; exact (L.block _ dc).trans D.hc
      rw [hw]
      exact setCell_at (setCell_at h4 _ _) _ _
  have R : Rg (fun d => d = b ∨ d = c) w w2 := by
    refine ⟨by rw [sz]; exact L.size, fun d hd hx => (K d (fun e => hx (.inl e)) (fun e => hx (.inr e))).trans (L.block d hd), ?_, ?_⟩
    · rw [hw]; exact L.os
    · rw [hw]; exact L.output
  replace A1 := (K w.heap.size (by omega) (by omega)).trans A1
  clear hw K p1 p2
  have p7 : w2.cell? ⟨w.heap.size, 7, none⟩ = some (.slice none 0 0) := by simp [World.cell?, A1]
  have p8 : w2.cell? ⟨w.heap.size, 8, none⟩ = some (.slice none 0 0) := by simp [World.cell?, A1]
  have p9 : w2.cell? ⟨w.heap.size, 9, none⟩ = some (.slice none 0 0) := by simp [World.cell?, A1]
  have p10 : w2.cell? ⟨w.heap.size, 10, none⟩ = some (.slice none 0 0) := by simp [World.cell?, A1]
  have p11 : w2.cell? ⟨w.heap.size, 11, none⟩ = some (.slice none 0 0) := by simp [World.cell?, A1]
  go_wp2_with (fail)
  go_at_call 22
  refine (markPeg_nil _ _).mono ?_
  rintro e w4 ⟨rfl, rfl⟩
  go_wp2_with (fail)
  go_at_call 23
  refine (markPot_nil _ _).mono ?_
  rintro e w4 ⟨rfl, rfl⟩
  go_wp2_with (fail)
  go_at_call 24
  refine (markMode_nil _ _).mono ?_
  rintro e w4 ⟨rfl, rfl⟩
  go_wp2_with (fail)
  go_at_call 25
  refine (markWork_nil _ _).mono ?_
  rintro e w4 ⟨rfl, rfl⟩
  go_wp2_with (fail)
  go_at_call 26
  refine (markPaper_nil _ _).mono ?_
  rintro e w4 ⟨rfl, rfl⟩
  go_wp2_with (fail)
  go_ret
  exact ⟨rfl, M, R⟩
set_option maxHeartbeats 3200000 in
theorem heldDeskW (w : World) (a b c : Nat) (D : Marked w a b c) : Calls Try.prog 8 #[deskV a, .int .i64 1] w fun e w' => e = .returned (.int .i64 5) ∧ Lo w.heap.size w w' := by
  have da := D.la
  have db := D.lb
  have dc := D.lc
  unfold deskV
  go_enter Try.func8, Try.ntmps8
  go_wp2_with (fail)
  go_at_call 27
  refine (heldStack_nil _ _).mono ?_
  rintro e w1 ⟨rfl, hw⟩
  have A1 : w1.heap[w.heap.size]? = some (.cells #[.slice none 0 0, .slice none 0 0, .slice (some ⟨a, 0, none⟩) 2 2, .int .i64 1300, .int .i64 1950, .int .i64 60, .int .i64 110, .slice none 0 0, .slice none 0 0, .slice none 0 0, .slice none 0 0, .slice none 0 0] 33) := by rw [hw]; exact get_new _ _ rfl
  have L : Lo w.heap.size w w1 := by rw [hw]; exact (Lo.refl _ w).alloc (Nat.le_refl _) _
  have Z : w.heap.size < w1.heap.size := by rw [hw]; simp
  clear hw
  have p1 : w1.cell? ⟨w.heap.size, 1, none⟩ = some (.slice none 0 0) := by simp [World.cell?, A1]
  have p2 : w1.cell? ⟨w.heap.size, 2, none⟩ = some (.slice (some ⟨a, 0, none⟩) 2 2) := by simp [World.cell?, A1]
  go_wp2_with (fail)
  go_at_call 28
  refine (heldRib_nil _ _).mono ?_
  rintro e wq ⟨rfl, hq⟩
  obtain rfl := hq.symm
  go_wp2_with (fail)
  go_at_call 29
  refine (heldPlate _ a b c (by omega) (by omega) (by omega) ((L.cell D.la).trans (by simp [World.cell?, D.ha])) ((L.cell D.la).trans (by simp [World.cell?, D.ha])) ((L.cell D.lb).trans (by simp [World.cell?, D.hb])) ((L.cell D.lb).trans (by simp [World.cell?, D.hb])) ((L.cell D.lc).trans (by simp [World.cell?, D.hc])) ((L.cell D.lc).trans (by simp [World.cell?, D.hc]))).mono ?_
  rintro e w2 ⟨rfl, h2⟩
  replace A1 := (h2.block w.heap.size Z).trans A1
  replace L := L.trans (h2.mono L.size)
  clear p1 p2
  have p7 : w2.cell? ⟨w.heap.size, 7, none⟩ = some (.slice none 0 0) := by simp [World.cell?, A1]
  have p8 : w2.cell? ⟨w.heap.size, 8, none⟩ = some (.slice none 0 0) := by simp [World.cell?, A1]
  have p9 : w2.cell? ⟨w.heap.size, 9, none⟩ = some (.slice none 0 0) := by simp [World.cell?, A1]
  have p10 : w2.cell? ⟨w.heap.size, 10, none⟩ = some (.slice none 0 0) := by simp [World.cell?, A1]
  have p11 : w2.cell? ⟨w.heap.size, 11, none⟩ = some (.slice none 0 0) := by simp [World.cell?, A1]
  go_wp2_with (fail)
  go_at_call 30
  refine (heldPeg_nil _ _).mono ?_
  rintro e w4 ⟨rfl, rfl⟩
  go_wp2_with (fail)
  go_at_call 31
  refine (heldPot_nil _ _).mono ?_
  rintro e w4 ⟨rfl, rfl⟩
  go_wp2_with (fail)
  go_at_call 32
  refine (heldMode_nil _ _).mono ?_
  rintro e w4 ⟨rfl, rfl⟩
  go_wp2_with (fail)
  go_at_call 33
  refine (heldWork_nil _ _).mono ?_
  rintro e w4 ⟨rfl, rfl⟩
  go_wp2_with (fail)
  go_at_call 34
  refine (heldPaper_nil _ _).mono ?_
  rintro e w4 ⟨rfl, rfl⟩
  go_wp2_with (fail)
  go_ret
  exact ⟨rfl, L⟩
set_option maxHeartbeats 12800000 in
theorem law (w : World) : Calls Try.prog 3 #[] w fun e w' => e = .returned (.bool true) ∧ Lo w.heap.size w w' := by
  go_enter Try.func3, Try.ntmps3
  go_wp2_with (fail)
  go_at_call 4
  refine (specDesk _).mono ?_
  rintro e w1 ⟨a0, b0, c0, rfl, D0, L, i1, i2, i3⟩
  have s0 := L.size
  have ka := D0.la
  have kb := D0.lb
  have kc := D0.lc
  unfold deskV
  go_wp2_with (fail)
  go_at_call 5
  refine (newDesk _).mono ?_
  rintro e w2 ⟨a, b, c, rfl, D, L2, j1, j2, j3⟩
  have P0 : w2.heap[w1.heap.size]? = some (.cells #[.slice none 0 0, .slice none 0 0, .slice (some ⟨a0, 0, none⟩) 2 2, .int .i64 1300, .int .i64 1950, .int .i64 60, .int .i64 110, .slice none 0 0, .slice none 0 0, .slice none 0 0, .slice none 0 0, .slice none 0 0] 33) := (L2.block _ (by simp)).trans (get_new _ _ rfl)
  have s1 : w1.heap.size < w2.heap.size := by have := L2.size; simp at this; omega
  have j1 : w1.heap.size < a := by simp at j1; omega
  have j2 : w1.heap.size < b := by simp at j2; omega
  have j3 : w1.heap.size < c := by simp at j3; omega
  have ma := D.la
  have mb := D.lb
  have mc := D.lc
  have T1 : Lo w1.heap.size w1 w2 := ((Lo.refl _ w1).alloc (Nat.le_refl _) _).trans (L2.mono (by simp))
  replace D0 := D0.keep T1
  replace L := L.trans (T1.mono s0)
  unfold deskV
  have p0 : w2.cell? ⟨w1.heap.size, 0, none⟩ = some (.slice none 0 0) := by simp [World.cell?, P0]
  have p1 : w2.cell? ⟨w1.heap.size, 1, none⟩ = some (.slice none 0 0) := by simp [World.cell?, P0]
  have p2 : w2.cell? ⟨w1.heap.size, 2, none⟩ = some (.slice (some ⟨a0, 0, none⟩) 2 2) := by simp [World.cell?, P0]
  have p3 : w2.cell? ⟨w1.heap.size, 3, none⟩ = some (.int .i64 1300) := by simp [World.cell?, P0]
  have p4 : w2.cell? ⟨w1.heap.size, 4, none⟩ = some (.int .i64 1950) := by simp [World.cell?, P0]
  have p5 : w2.cell? ⟨w1.heap.size, 5, none⟩ = some (.int .i64 60) := by simp [World.cell?, P0]
  have p6 : w2.cell? ⟨w1.heap.size, 6, none⟩ = some (.int .i64 110) := by simp [World.cell?, P0]
  have p7 : w2.cell? ⟨w1.heap.size, 7, none⟩ = some (.slice none 0 0) := by simp [World.cell?, P0]
  have p8 : w2.cell? ⟨w1.heap.size, 8, none⟩ = some (.slice none 0 0) := by simp [World.cell?, P0]
  have p9 : w2.cell? ⟨w1.heap.size, 9, none⟩ = some (.slice none 0 0) := by simp [World.cell?, P0]
  have p10 : w2.cell? ⟨w1.heap.size, 10, none⟩ = some (.slice none 0 0) := by simp [World.cell?, P0]
  have p11 : w2.cell? ⟨w1.heap.size, 11, none⟩ = some (.slice none 0 0) := by simp [World.cell?, P0]
  go_wp2_with (fail)
  go_at_call 6
  refine (eqDeskW _ a b c a0 b0 c0 (D.keep ((Lo.refl _ w2).alloc (Nat.le_refl _) _)) (D0.keep ((Lo.refl _ w2).alloc (Nat.le_refl _) _))).mono ?_
  rintro e w3 ⟨rfl, h3⟩
  clear p0 p1 p2 p3 p4 p5 p6 p7 p8 p9 p10 p11
  have s2 : w2.heap.size < w3.heap.size := by have := h3.size; simp at this; omega
  have T2 : Lo w2.heap.size w2 w3 := ((Lo.refl _ w2).alloc (Nat.le_refl _) _).trans (h3.mono (by simp))
  have P1 : w3.heap[w2.heap.size]? = some (.cells #[.slice none 0 0, .slice none 0 0, .slice (some ⟨a, 0, none⟩) 2 2, .int .i64 1300, .int .i64 1950, .int .i64 60, .int .i64 110, .slice none 0 0, .slice none 0 0, .slice none 0 0, .slice none 0 0, .slice none 0 0] 33) := (h3.block _ (by simp)).trans (get_new _ _ rfl)
  replace P0 := (T2.block _ s1).trans P0
  replace D0 := D0.keep T2
  replace D := D.keep T2
  replace L := L.trans (T2.mono (by omega))
  have p0 : w3.cell? ⟨w1.heap.size, 0, none⟩ = some (.slice none 0 0) := by simp [World.cell?, P0]
  have p1 : w3.cell? ⟨w1.heap.size, 1, none⟩ = some (.slice none 0 0) := by simp [World.cell?, P0]
  have p2 : w3.cell? ⟨w1.heap.size, 2, none⟩ = some (.slice (some ⟨a0, 0, none⟩) 2 2) := by simp [World.cell?, P0]
  have p3 : w3.cell? ⟨w1.heap.size, 3, none⟩ = some (.int .i64 1300) := by simp [World.cell?, P0]
  have p4 : w3.cell? ⟨w1.heap.size, 4, none⟩ = some (.int .i64 1950) := by simp [World.cell?, P0]
  have p5 : w3.cell? ⟨w1.heap.size, 5, none⟩ = some (.int .i64 60) := by simp [World.cell?, P0]
  have p6 : w3.cell? ⟨w1.heap.size, 6, none⟩ = some (.int .i64 110) := by simp [World.cell?, P0]
  have p7 : w3.cell? ⟨w1.heap.size, 7, none⟩ = some (.slice none 0 0) := by simp [World.cell?, P0]
  have p8 : w3.cell? ⟨w1.heap.size, 8, none⟩ = some (.slice none 0 0) := by simp [World.cell?, P0]
  have p9 : w3.cell? ⟨w1.heap.size, 9, none⟩ = some (.slice none 0 0) := by simp [World.cell?, P0]
  have p10 : w3.cell? ⟨w1.heap.size, 10, none⟩ = some (.slice none 0 0) := by simp [World.cell?, P0]
  have p11 : w3.cell? ⟨w1.heap.size, 11, none⟩ = some (.slice none 0 0) := by simp [World.cell?, P0]
  have r0 : w3.cell? ⟨w2.heap.size, 0, none⟩ = some (.slice none 0 0) := by simp [World.cell?, P1]
  have r1 : w3.cell? ⟨w2.heap.size, 1, none⟩ = some (.slice none 0 0) := by simp [World.cell?, P1]
  have r2 : w3.cell? ⟨w2.heap.size, 2, none⟩ = some (.slice (some ⟨a, 0, none⟩) 2 2) := by simp [World.cell?, P1]
  have r3 : w3.cell? ⟨w2.heap.size, 3, none⟩ = some (.int .i64 1300) := by simp [World.cell?, P1]
  have r4 : w3.cell? ⟨w2.heap.size, 4, none⟩ = some (.int .i64 1950) := by simp [World.cell?, P1]
  have r5 : w3.cell? ⟨w2.heap.size, 5, none⟩ = some (.int .i64 60) := by simp [World.cell?, P1]
  have r6 : w3.cell? ⟨w2.heap.size, 6, none⟩ = some (.int .i64 110) := by simp [World.cell?, P1]
  have r7 : w3.cell? ⟨w2.heap.size, 7, none⟩ = some (.slice none 0 0) := by simp [World.cell?, P1]
  have r8 : w3.cell? ⟨w2.heap.size, 8, none⟩ = some (.slice none 0 0) := by simp [World.cell?, P1]
  have r9 : w3.cell? ⟨w2.heap.size, 9, none⟩ = some (.slice none 0 0) := by simp [World.cell?, P1]
  have r10 : w3.cell? ⟨w2.heap.size, 10, none⟩ = some (.slice none 0 0) := by simp [World.cell?, P1]
  have r11 : w3.cell? ⟨w2.heap.size, 11, none⟩ = some (.slice none 0 0) := by simp [World.cell?, P1]
  go_wp2_with (fail)
  go_at_call 7
  refine (markDeskW _ a b c D).mono ?_
  rintro e w4 ⟨rfl, M, R⟩
  clear p0 p1 p2 p3 p4 p5 p6 p7 p8 p9 p10 p11 r0 r1 r2 r3 r4 r5 r6 r7 r8 r9 r10 r11
  have s3 := R.size
  replace P0 := (R.block _ (by omega) (by omega)).trans P0
  replace P1 := (R.block _ (by omega) (by omega)).trans P1
  replace D0 : Desk w4 a0 b0 c0 := ⟨D0.ab, D0.ac, D0.bc, by omega, by omega, by omega, (R.block _ D0.la (by omega)).trans D0.ha, (R.block _ D0.lb (by omega)).trans D0.hb, (R.block _ D0.lc (by omega)).trans D0.hc⟩
  replace L := L.rg R (fun d hd => by rcases hd with rfl | rfl <;> omega) (by omega)
  have p0 : w4.cell? ⟨w1.heap.size, 0, none⟩ = some (.slice none 0 0) := by simp [World.cell?, P0]
  have p1 : w4.cell? ⟨w1.heap.size, 1, none⟩ = some (.slice none 0 0) := by simp [World.cell?, P0]
  have p2 : w4.cell? ⟨w1.heap.size, 2, none⟩ = some (.slice (some ⟨a0, 0, none⟩) 2 2) := by simp [World.cell?, P0]
  have p3 : w4.cell? ⟨w1.heap.size, 3, none⟩ = some (.int .i64 1300) := by simp [World.cell?, P0]
  have p4 : w4.cell? ⟨w1.heap.size, 4, none⟩ = some (.int .i64 1950) := by simp [World.cell?, P0]
  have p5 : w4.cell? ⟨w1.heap.size, 5, none⟩ = some (.int .i64 60) := by simp [World.cell?, P0]
  have p6 : w4.cell? ⟨w1.heap.size, 6, none⟩ = some (.int .i64 110) := by simp [World.cell?, P0]
  have p7 : w4.cell? ⟨w1.heap.size, 7, none⟩ = some (.slice none 0 0) := by simp [World.cell?, P0]
  have p8 : w4.cell? ⟨w1.heap.size, 8, none⟩ = some (.slice none 0 0) := by simp [World.cell?, P0]
  have p9 : w4.cell? ⟨w1.heap.size, 9, none⟩ = some (.slice none 0 0) := by simp [World.cell?, P0]
  have p10 : w4.cell? ⟨w1.heap.size, 10, none⟩ = some (.slice none 0 0) := by simp [World.cell?, P0]
  have p11 : w4.cell? ⟨w1.heap.size, 11, none⟩ = some (.slice none 0 0) := by simp [World.cell?, P0]
  have r0 : w4.cell? ⟨w2.heap.size, 0, none⟩ = some (.slice none 0 0) := by simp [World.cell?, P1]
  have r1 : w4.cell? ⟨w2.heap.size, 1, none⟩ = some (.slice none 0 0) := by simp [World.cell?, P1]
  have r2 : w4.cell? ⟨w2.heap.size, 2, none⟩ = some (.slice (some ⟨a, 0, none⟩) 2 2) := by simp [World.cell?, P1]
  have r3 : w4.cell? ⟨w2.heap.size, 3, none⟩ = some (.int .i64 1300) := by simp [World.cell?, P1]
  have r4 : w4.cell? ⟨w2.heap.size, 4, none⟩ = some (.int .i64 1950) := by simp [World.cell?, P1]
  have r5 : w4.cell? ⟨w2.heap.size, 5, none⟩ = some (.int .i64 60) := by simp [World.cell?, P1]
  have r6 : w4.cell? ⟨w2.heap.size, 6, none⟩ = some (.int .i64 110) := by simp [World.cell?, P1]
  have r7 : w4.cell? ⟨w2.heap.size, 7, none⟩ = some (.slice none 0 0) := by simp [World.cell?, P1]
  have r8 : w4.cell? ⟨w2.heap.size, 8, none⟩ = some (.slice none 0 0) := by simp [World.cell?, P1]
  have r9 : w4.cell? ⟨w2.heap.size, 9, none⟩ = some (.slice none 0 0) := by simp [World.cell?, P1]
  have r10 : w4.cell? ⟨w2.heap.size, 10, none⟩ = some (.slice none 0 0) := by simp [World.cell?, P1]
  have r11 : w4.cell? ⟨w2.heap.size, 11, none⟩ = some (.slice none 0 0) := by simp [World.cell?, P1]
  go_wp2_with (fail)
  go_at_call 8
  refine (heldDeskW _ a b c M).mono ?_
  rintro e w5 ⟨rfl, h5⟩
  clear p0 p1 p2 p3 p4 p5 p6 p7 p8 p9 p10 p11 r0 r1 r2 r3 r4 r5 r6 r7 r8 r9 r10 r11
  have s5 := h5.size
  replace P0 := (h5.block _ (by omega)).trans P0
  replace P1 := (h5.block _ (by omega)).trans P1
  replace D0 := D0.keep h5
  replace M := M.keep h5
  replace L := L.trans (h5.mono (by omega))
  have p0 : w5.cell? ⟨w1.heap.size, 0, none⟩ = some (.slice none 0 0) := by simp [World.cell?, P0]
  have p1 : w5.cell? ⟨w1.heap.size, 1, none⟩ = some (.slice none 0 0) := by simp [World.cell?, P0]
  have p2 : w5.cell? ⟨w1.heap.size, 2, none⟩ = some (.slice (some ⟨a0, 0, none⟩) 2 2) := by simp [World.cell?, P0]
  have p3 : w5.cell? ⟨w1.heap.size, 3, none⟩ = some (.int .i64 1300) := by simp [World.cell?, P0]
  have p4 : w5.cell? ⟨w1.heap.size, 4, none⟩ = some (.int .i64 1950) := by simp [World.cell?, P0]
  have p5 : w5.cell? ⟨w1.heap.size, 5, none⟩ = some (.int .i64 60) := by simp [World.cell?, P0]
  have p6 : w5.cell? ⟨w1.heap.size, 6, none⟩ = some (.int .i64 110) := by simp [World.cell?, P0]
  have p7 : w5.cell? ⟨w1.heap.size, 7, none⟩ = some (.slice none 0 0) := by simp [World.cell?, P0]
  have p8 : w5.cell? ⟨w1.heap.size, 8, none⟩ = some (.slice none 0 0) := by simp [World.cell?, P0]
  have p9 : w5.cell? ⟨w1.heap.size, 9, none⟩ = some (.slice none 0 0) := by simp [World.cell?, P0]
  have p10 : w5.cell? ⟨w1.heap.size, 10, none⟩ = some (.slice none 0 0) := by simp [World.cell?, P0]
  have p11 : w5.cell? ⟨w1.heap.size, 11, none⟩ = some (.slice none 0 0) := by simp [World.cell?, P0]
  have r0 : w5.cell? ⟨w2.heap.size, 0, none⟩ = some (.slice none 0 0) := by simp [World.cell?, P1]
  have r1 : w5.cell? ⟨w2.heap.size, 1, none⟩ = some (.slice none 0 0) := by simp [World.cell?, P1]
  have r2 : w5.cell? ⟨w2.heap.size, 2, none⟩ = some (.slice (some ⟨a, 0, none⟩) 2 2) := by simp [World.cell?, P1]
  have r3 : w5.cell? ⟨w2.heap.size, 3, none⟩ = some (.int .i64 1300) := by simp [World.cell?, P1]
  have r4 : w5.cell? ⟨w2.heap.size, 4, none⟩ = some (.int .i64 1950) := by simp [World.cell?, P1]
  have r5 : w5.cell? ⟨w2.heap.size, 5, none⟩ = some (.int .i64 60) := by simp [World.cell?, P1]
  have r6 : w5.cell? ⟨w2.heap.size, 6, none⟩ = some (.int .i64 110) := by simp [World.cell?, P1]
  have r7 : w5.cell? ⟨w2.heap.size, 7, none⟩ = some (.slice none 0 0) := by simp [World.cell?, P1]
  have r8 : w5.cell? ⟨w2.heap.size, 8, none⟩ = some (.slice none 0 0) := by simp [World.cell?, P1]
  have r9 : w5.cell? ⟨w2.heap.size, 9, none⟩ = some (.slice none 0 0) := by simp [World.cell?, P1]
  have r10 : w5.cell? ⟨w2.heap.size, 10, none⟩ = some (.slice none 0 0) := by simp [World.cell?, P1]
  have r11 : w5.cell? ⟨w2.heap.size, 11, none⟩ = some (.slice none 0 0) := by simp [World.cell?, P1]
  go_wp2_with (fail)
  go_at_call 5
  refine (newDesk _).mono ?_
  rintro e w6 ⟨a2, b2, c2, rfl, D2, h6, l1, l2, l3⟩
  clear p0 p1 p2 p3 p4 p5 p6 p7 p8 p9 p10 p11 r0 r1 r2 r3 r4 r5 r6 r7 r8 r9 r10 r11
  have s6 := h6.size
  replace P0 := (h6.block _ (by omega)).trans P0
  replace P1 := (h6.block _ (by omega)).trans P1
  replace D0 := D0.keep h6
  replace M := M.keep h6
  replace L := L.trans (h6.mono (by omega))
  unfold deskV
  have z1 : w1.heap.size < w6.heap.size := by omega
  have z2 : w2.heap.size < w6.heap.size := by omega
  have p0 : w6.cell? ⟨w1.heap.size, 0, none⟩ = some (.slice none 0 0) := by simp [World.cell?, P0]
  have p1 : w6.cell? ⟨w1.heap.size, 1, none⟩ = some (.slice none 0 0) := by simp [World.cell?, P0]
  have p2 : w6.cell? ⟨w1.heap.size, 2, none⟩ = some (.slice (some ⟨a0, 0, none⟩) 2 2) := by simp [World.cell?, P0]
  have p3 : w6.cell? ⟨w1.heap.size, 3, none⟩ = some (.int .i64 1300) := by simp [World.cell?, P0]
  have p4 : w6.cell? ⟨w1.heap.size, 4, none⟩ = some (.int .i64 1950) := by simp [World.cell?, P0]
  have p5 : w6.cell? ⟨w1.heap.size, 5, none⟩ = some (.int .i64 60) := by simp [World.cell?, P0]
  have p6 : w6.cell? ⟨w1.heap.size, 6, none⟩ = some (.int .i64 110) := by simp [World.cell?, P0]
  have p7 : w6.cell? ⟨w1.heap.size, 7, none⟩ = some (.slice none 0 0) := by simp [World.cell?, P0]
  have p8 : w6.cell? ⟨w1.heap.size, 8, none⟩ = some (.slice none 0 0) := by simp [World.cell?, P0]
  have p9 : w6.cell? ⟨w1.heap.size, 9, none⟩ = some (.slice none 0 0) := by simp [World.cell?, P0]
  have p10 : w6.cell? ⟨w1.heap.size, 10, none⟩ = some (.slice none 0 0) := by simp [World.cell?, P0]
  have p11 : w6.cell? ⟨w1.heap.size, 11, none⟩ = some (.slice none 0 0) := by simp [World.cell?, P0]
  have r0 : w6.cell? ⟨w2.heap.size, 0, none⟩ = some (.slice none 0 0) := by simp [World.cell?, P1]
  have r1 : w6.cell? ⟨w2.heap.size, 1, none⟩ = some (.slice none 0 0) := by simp [World.cell?, P1]
  have r2 : w6.cell? ⟨w2.heap.size, 2, none⟩ = some (.slice (some ⟨a, 0, none⟩) 2 2) := by simp [World.cell?, P1]
  have r3 : w6.cell? ⟨w2.heap.size, 3, none⟩ = some (.int .i64 1300) := by simp [World.cell?, P1]
  have r4 : w6.cell? ⟨w2.heap.size, 4, none⟩ = some (.int .i64 1950) := by simp [World.cell?, P1]
  have r5 : w6.cell? ⟨w2.heap.size, 5, none⟩ = some (.int .i64 60) := by simp [World.cell?, P1]
  have r6 : w6.cell? ⟨w2.heap.size, 6, none⟩ = some (.int .i64 110) := by simp [World.cell?, P1]
  have r7 : w6.cell? ⟨w2.heap.size, 7, none⟩ = some (.slice none 0 0) := by simp [World.cell?, P1]
  have r8 : w6.cell? ⟨w2.heap.size, 8, none⟩ = some (.slice none 0 0) := by simp [World.cell?, P1]
  have r9 : w6.cell? ⟨w2.heap.size, 9, none⟩ = some (.slice none 0 0) := by simp [World.cell?, P1]
  have r10 : w6.cell? ⟨w2.heap.size, 10, none⟩ = some (.slice none 0 0) := by simp [World.cell?, P1]
  have r11 : w6.cell? ⟨w2.heap.size, 11, none⟩ = some (.slice none 0 0) := by simp [World.cell?, P1]
  go_wp2_with (fail)
  go_at_call 6
  refine (eqDeskW _ a2 b2 c2 a0 b0 c0 (D2.keep ((Lo.refl _ w6).alloc (Nat.le_refl _) _)) (D0.keep ((Lo.refl _ w6).alloc (Nat.le_refl _) _))).mono ?_
  rintro e w7 ⟨rfl, h7⟩
  clear p0 p1 p2 p3 p4 p5 p6 p7 p8 p9 p10 p11 r0 r1 r2 r3 r4 r5 r6 r7 r8 r9 r10 r11
  have s7 : w6.heap.size < w7.heap.size := by have := h7.size; simp at this; omega
  have T7 : Lo w6.heap.size w6 w7 := ((Lo.refl _ w6).alloc (Nat.le_refl _) _).trans (h7.mono (by simp))
  replace P0 := (T7.block _ (by omega)).trans P0
  replace P1 := (T7.block _ (by omega)).trans P1
  replace D0 := D0.keep T7
  replace M := M.keep T7
  replace L := L.trans (T7.mono (by omega))
  have p0 : w7.cell? ⟨w1.heap.size, 0, none⟩ = some (.slice none 0 0) := by simp [World.cell?, P0]
  have p1 : w7.cell? ⟨w1.heap.size, 1, none⟩ = some (.slice none 0 0) := by simp [World.cell?, P0]
  have p2 : w7.cell? ⟨w1.heap.size, 2, none⟩ = some (.slice (some ⟨a0, 0, none⟩) 2 2) := by simp [World.cell?, P0]
  have p3 : w7.cell? ⟨w1.heap.size, 3, none⟩ = some (.int .i64 1300) := by simp [World.cell?, P0]
  have p4 : w7.cell? ⟨w1.heap.size, 4, none⟩ = some (.int .i64 1950) := by simp [World.cell?, P0]
  have p5 : w7.cell? ⟨w1.heap.size, 5, none⟩ = some (.int .i64 60) := by simp [World.cell?, P0]
  have p6 : w7.cell? ⟨w1.heap.size, 6, none⟩ = some (.int .i64 110) := by simp [World.cell?, P0]
  have p7 : w7.cell? ⟨w1.heap.size, 7, none⟩ = some (.slice none 0 0) := by simp [World.cell?, P0]
  have p8 : w7.cell? ⟨w1.heap.size, 8, none⟩ = some (.slice none 0 0) := by simp [World.cell?, P0]
  have p9 : w7.cell? ⟨w1.heap.size, 9, none⟩ = some (.slice none 0 0) := by simp [World.cell?, P0]
  have p10 : w7.cell? ⟨w1.heap.size, 10, none⟩ = some (.slice none 0 0) := by simp [World.cell?, P0]
  have p11 : w7.cell? ⟨w1.heap.size, 11, none⟩ = some (.slice none 0 0) := by simp [World.cell?, P0]
  have r0 : w7.cell? ⟨w2.heap.size, 0, none⟩ = some (.slice none 0 0) := by simp [World.cell?, P1]
  have r1 : w7.cell? ⟨w2.heap.size, 1, none⟩ = some (.slice none 0 0) := by simp [World.cell?, P1]
  have r2 : w7.cell? ⟨w2.heap.size, 2, none⟩ = some (.slice (some ⟨a, 0, none⟩) 2 2) := by simp [World.cell?, P1]
  have r3 : w7.cell? ⟨w2.heap.size, 3, none⟩ = some (.int .i64 1300) := by simp [World.cell?, P1]
  have r4 : w7.cell? ⟨w2.heap.size, 4, none⟩ = some (.int .i64 1950) := by simp [World.cell?, P1]
  have r5 : w7.cell? ⟨w2.heap.size, 5, none⟩ = some (.int .i64 60) := by simp [World.cell?, P1]
  have r6 : w7.cell? ⟨w2.heap.size, 6, none⟩ = some (.int .i64 110) := by simp [World.cell?, P1]
  have r7 : w7.cell? ⟨w2.heap.size, 7, none⟩ = some (.slice none 0 0) := by simp [World.cell?, P1]
  have r8 : w7.cell? ⟨w2.heap.size, 8, none⟩ = some (.slice none 0 0) := by simp [World.cell?, P1]
  have r9 : w7.cell? ⟨w2.heap.size, 9, none⟩ = some (.slice none 0 0) := by simp [World.cell?, P1]
  have r10 : w7.cell? ⟨w2.heap.size, 10, none⟩ = some (.slice none 0 0) := by simp [World.cell?, P1]
  have r11 : w7.cell? ⟨w2.heap.size, 11, none⟩ = some (.slice none 0 0) := by simp [World.cell?, P1]
  go_wp2_with (fail)
  go_at_call 8
  refine (heldDeskW _ a b c M).mono ?_
  rintro e w8 ⟨rfl, h8⟩
  clear p0 p1 p2 p3 p4 p5 p6 p7 p8 p9 p10 p11 r0 r1 r2 r3 r4 r5 r6 r7 r8 r9 r10 r11
  have s8 := h8.size
  replace P0 := (h8.block _ (by omega)).trans P0
  replace P1 := (h8.block _ (by omega)).trans P1
  replace D0 := D0.keep h8
  replace M := M.keep h8
  replace L := L.trans (h8.mono (by omega))
  go_wp2_with (fail)
  go_ret
  exact ⟨rfl, L⟩
section
variable {H : Type} {enc : TypeId × Value → H} {P : Program}
theorem post_of_old {f : Func} {s : ChangeSpec} {apart fresh handsOn again : Bool} {W W' : World} {args : Array Value} {v : Value} {ds gs : List (DataW H)} {before pa pv : List MemPlace}
    (hW : DataW.Whole enc P f.params.toList s.vars apart W args.toList ds gs before)
    (hres : ∀ (b : Nat) (sp : Nat → Bool) (hd : Bool), DataW.TrodAll enc P W' b sp hd f.resultTypes.toList (v.resultList f.resultTypes.size) (s.fn H (ds ++ gs)).results [])
    (hargs : ∀ sp : Nat → Bool, (∀ p ∈ before, sp p.block = true) → DataW.TrodAll enc P W' 0 sp true f.params.toList args.toList (s.fn H (ds ++ gs)).args pa)
    (hvars : ∀ sp : Nat → Bool, (∀ p ∈ before, sp p.block = true) → DataW.TrodVars enc P W' sp s.vars (s.fn H (ds ++ gs)).vars pv)
    (hps : before = pa ++ pv) (hk : W.keptBut W' (· ∈ before)) (hfz : ∀ a : Addr, a.block < W.heap.size → W'.frozen? a = W.frozen? a)
    (hok : ∀ (j : Nat) (t : TypeId) (r : Value), f.resultTypes[j]? = some t → (v.resultList f.resultTypes.size)[j]? = some r → Value.okWide P W' .any 0 t r) :
    s.post enc P f apart fresh handsOn again W args v W' := by
  have hold : ∀ p ∈ before, (fun b => decide (b < W.heap.size)) p.block = true := fun p hp => by simpa using hW.lt p hp
  have hlt := fun p hp => hW.lt (p := p) hp
  refine ⟨ds, gs, before, [], pa, pv, hW, hres _ _ _, hargs _ hold, hvars _ hold, World.keptBut_mono (fun p hp => ⟨hp, ?_⟩) hk, fun _ => ?_⟩
  · rw [hps, List.mem_append] at hp
    exact Or.inr hp
  · obtain ⟨_, _, _, _, _, hz, hn⟩ := hW
    refine ⟨hok, _, _, ([] ++ pa) ++ pv, ⟨[] ++ pa, pv, trodAll_append (hargs _ (fun _ _ => rfl)) (hres _ _ _), hvars _ (fun _ _ => rfl), rfl, ?_, ?_⟩, ?_⟩
    · intro b off hp
      have hp' : MemPlace.cell b off ∈ before := by rw [hps]; simpa using hp
      rw [hfz _ (hlt _ hp')]
      exact hz b off hp'
    · intro ha
      have := hn ha
      rw [hps] at this
      simpa using this
    · intro p hp _
      rw [hps]
      simpa using hp
end
theorem own : ownKnob Try.prog.godebug = none := by kernel_rfl
theorem contract (H : Type) (enc : TypeId × Value → H) (W : World) (base : Nat) (args : Array Value) (ds gs : List (DataW H)) (before : List MemPlace)
    (hW : DataW.Whole enc Try.prog Try.f3.params.toList Rows.fnExactNewDeskSpec.vars false W args.toList ds gs before) :
    Calls Try.prog 3 args W fun e W' => ∃ v, e = .returned v ∧ Rows.fnExactNewDeskSpec.post enc Try.prog Try.f3 false true false false W args v W' := by
  have hW' := hW
  obtain ⟨p, q, hA, hV, rfl, hfz, hnd⟩ := hW
  have hvars : Rows.fnExactNewDeskSpec.vars = [] := rfl
  have hp : Try.f3.params.toList = [] := rfl
  have hres : Try.f3.resultTypes = #[4] := rfl
  rw [hvars] at hV
  obtain ⟨rfl, rfl⟩ := trodVars_none hV
  rw [hp] at hA
  obtain ⟨ha, rfl, rfl⟩ := trodAll_nil hA
  obtain rfl : args = #[] := Array.toList_inj.1 ha
  refine (law W).mono fun e W' hb => ?_
  obtain ⟨rfl, hL⟩ := hb
  refine ⟨_, rfl, ?_⟩
  have hfr : ∀ b, b < W.heap.size → W'.heap[b]? = W.heap[b]? := hL.block
  simp only [List.append_nil] at hW'
  refine post_of_old (pa := []) (pv := []) hW' (fun b sp hd => ?_) (fun sp hsp => ?_) (fun sp _ => ?_) (by simp) ?_ (fun a ha => ?_) (ok_one hres rfl (okWide_bool_mk Try.underlying4 _))
  · exact trodAll_cons_mk (shut_bool Try.underlying4 _) trodAll_mk0
  · exact trodAll_mk0
  · rfl
  · refine ⟨hL.os, hL.output, fun i hi => ?_⟩
    have := hfr i hi
    rw [this]
    cases hh : W.heap[i]? with
    | none => trivial
    | some o =>
      cases o with
      | cells c t fr => exact ⟨rfl, rfl, rfl, fun j _ => rfl⟩
      | map es clock => exact .inr ⟨rfl, rfl⟩
      | _ => rfl
  · simp only [World.frozen?, hfr a.block ha]
theorem lifted (os : Os) (started : os.Started) (H : Type) (enc : TypeId × Value → H) :
    ReturnsInHanded {} Try.checked os 3 .any (Rows.fnExactNewDeskSpec.pre6 enc Try.prog Try.f3 Rows.fnExactNewDeskRow.domain false) (Rows.fnExactNewDeskSpec.post enc Try.prog Try.f3 false true false false) := by
  refine returnsInHanded_of_change (C := Try.checked) own started (by kernel_rfl) Try.func3
    (ChangeSpec.witness6 (enc := enc) (C := Try.checked) false ⟨#[], #[], []⟩ 12 (by kernel_rfl) (by kernel_rfl) (by kernel_rfl) (by kernel_rfl)) ?_
  intro W base args ds gs before hval hW _ _
  exact contract H enc W base args ds gs before hW
theorem over : Rows.fnExactNewDeskRow.holds Try.pinned (OpenSpec.ofChange Rows.fnExactNewDeskSpec) :=
  OpenClaim.holds_of_wide 3 Try.f3 rfl rfl rfl rfl rfl rfl rfl ⟨rfl, rfl, rfl, rfl, rfl⟩ rfl rfl rfl rfl rfl (by kernel_rfl) Try.func3 (by kernel_rfl)
    (of_decide_eq_true (by kernel_rfl)) (by unfold Func.isWrapper; first | (rw [if_pos (by decide +kernel)]; kernel_rfl) | (rw [if_neg (by decide +kernel)]; exact ⟨rfl, rfl⟩))
    (fun os started H enc _ => lifted os started H enc)
/-- The statement. -/
theorem proved : Rows.FnExactNewDeskSaid := over
end Go.Proofs.Ytgdmkjfagjgjjaa.fnExactNewDesk
