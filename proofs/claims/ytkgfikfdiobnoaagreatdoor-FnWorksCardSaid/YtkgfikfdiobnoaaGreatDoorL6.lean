/- impl.ValidSteps as a callee, out of a walk. Conditions: none. -/
import Derived.Test.YtkgfikfdiobnoaaGreatDoorL4
import Derived.Maps.OwnSet
import Derived.Maps.OwnOps
import Derived.Maps.Views
import Derived.StringKeys
import Derived.WalkKit
set_option linter.unusedVariables false
set_option linter.unusedSimpArgs false
namespace Go.Ab
open Go.RowKit Go.Maps
structure Lo (B : Nat) (w w' : World) : Prop where
 size : w.heap.size ≤ w'.heap.size
 block : ∀ b,b < B → w'.heap[b]? = w.heap[b]?
 os : w'.os = w.os
 output : w'.output = w.output
theorem Lo.refl (B : Nat) (w : World) : Lo B w w := ⟨Nat.le_refl _,fun _ _ => rfl,rfl,rfl⟩
theorem Lo.mono {B B' : Nat} {w w' : World} (h : Lo B w w') (hB : B' ≤ B) : Lo B' w w' := ⟨h.size,fun b hb => h.block b (Nat.lt_of_lt_of_le hb hB),h.os,h.output⟩
theorem Lo.trans {B : Nat} {w w1 w2 : World} (h : Lo B w w1) (h' : Lo B w1 w2) : Lo B w w2 := ⟨Nat.le_trans h.size h'.size,fun b hb => (h'.block b hb).trans (h.block b hb),h'.os.trans h.os,h'.output.trans h.output⟩
theorem Lo.of_below {B : Nat} {w w' : World} (h : Below B w w') : Lo B w w' := ⟨h.size,h.block,h.os,h.output⟩
theorem Lo.alloc {B : Nat} {w w1 : World} (h : Lo B w w1) (hB : B ≤ w1.heap.size) (o : Obj) : Lo B w (w1.alloc o) := h.trans (.of_below ((Below.refl B w1).alloc hB o))
theorem Lo.cell {B : Nat} {w w' : World} (h : Lo B w w') {b j : Nat} (hb : b < B) : w'.cell? ⟨b,j,none⟩ = w.cell? ⟨b,j,none⟩ := by
 simp only [World.cell?,h.block b hb]
section
variable {P : Program} {φ : Nat → Nat}
theorem Zfw {w : World} {K : Nat → Prop} : ∀ {vs : List Value} {as : List A},Reps φ w K vs as → ArgReps φ w K vs as []
 | _,_,.nil => .nil
 | _,_,.cons v a vs as h t => .cons _ _ [] _ _ [] (.data _ _ h) (Zfw t)
theorem CallOk.of_lo {g : Nat} {as res : List A} (hn : as.any lentA = false)
 (h : ∀ (w : World) (K : Nat → Prop) (vs : List Value),Reps φ w K vs as → (∀ b,K b → b < w.heap.size) → Glob P K w →
   Calls P (φ g) vs.toArray w fun e w' => ∃ rvs,e = .returned (packV rvs) ∧ Lo w.heap.size w w' ∧ Reps φ w (fun _ => False) rvs res) : CallOk P φ g as res [] := by
 intro w K vs bs ha hnd hKb hKz hG
 obtain ⟨hr,rfl⟩ := ha.noLent hn
 refine (h w K vs hr hKz hG).mono fun e w' hh => ?_
 obtain ⟨rvs,rfl,hb,h3⟩ := hh
 refine ⟨_,rfl,hb.size,fun b hb' _ => hb.block b hb',⟨hb.os,hb.output⟩,fun b off hb' => frozen?_block (hb.block b hb') off,fun b n hr => hr.of_block (hb.block b hr.lt),?_⟩
 exact ⟨rvs,K,[],[],rfl,fun _ h => h,fun _ h => .inl h,ResReps.of_reps (h3.mono (fun _ h => h.elim) (fun _ h => h.elim)),OutReps.data_all ha.len hn,by simp,fun b hb' => by simp at hb'⟩
theorem CallOk.bool {g : Nat} {as : List A} {b : Bool} (hc : CallOk P φ g as [.bool b] []) {w : World} {K : Nat → Prop} {vs : List Value} (hr : Reps φ w K vs as) (hK : ∀ b,K b → b < w.heap.size) (hG : Glob P K w) :
 Calls P (φ g) vs.toArray w fun e w' => e = .returned (.bool b) ∧ Lo w.heap.size w w' := by
 refine (hc w K vs [] (Zfw hr) List.nodup_nil (fun _ h => by cases h) hK hG).mono fun e w' ⟨v,he,hb⟩ => ?_
 subst he
 obtain ⟨rvs,K',rb,ob,hv,_,_,hrr,_⟩ := hb.rest
 refine ⟨?_,hb.grow,fun b hb' => hb.frame b hb' (by simp),hb.env.1,hb.env.2⟩
 cases hrr with
 | cons v0 _ _ vs0 _ _ h1 h2 =>
   cases h2
   cases h1 with
   | data _ h3 => cases h3; rw [hv]; rfl
structure VsWalk (P : Program) (r v f : Nat) : Prop where
 en : Entered P r
 none : ∀ (a : Option Addr) (cap : Nat) (w : World) (fin : Bool),
  (∀ w',Lo w.heap.size w w' → Calls P f #[.int .i64 0,.int .i64 12] w' fun e w'' => e = .returned (.bool fin) ∧ Lo w'.heap.size w' w'') →
  Calls P r #[.slice a 0 cap] w fun e w' => e = .returned (.bool fin) ∧ Lo w.heap.size w w'
 run : ∀ (b off len cap : Nat) (w : World) (ids : Nat → List UInt8) (hs cs : Nat → Int) (aa : Nat → Option Addr) (al ac : Nat → Nat) (ok : Nat → Bool) (last : Nat → Int) (fin : Bool),
  b < w.heap.size → len ≤ 9223372036854775807 →
  (∀ j,j < len → w.cell? ⟨b,off + j * 4,Option.none⟩ = some (.string ⟨(ids j).toArray⟩)) →
  (∀ j,j < len → w.cell? ⟨b,off + j * 4 + 1,Option.none⟩ = some (.int .i64 (hs j))) →
  (∀ j,j < len → w.cell? ⟨b,off + j * 4 + 2,Option.none⟩ = some (.int .i64 (cs j))) →
  (∀ j,j < len → w.cell? ⟨b,off + j * 4 + 3,Option.none⟩ = some (.slice (aa j) (al j) (ac j))) →
  (∀ j,j < len → 0 < al j → ∃ c o,aa j = some ⟨c,o,Option.none⟩ ∧ c < w.heap.size ∧ al j ≤ 9223372036854775807 ∧ w.cell? ⟨c,o + (al j - 1),Option.none⟩ = some (.int .i64 (last j))) →
  (∀ j,j < len → (ids j).length ≤ 9223372036854775807) →
  (∀ j,j < len → ∀ w',Lo w.heap.size w w' → Calls P v #[.agg #[.string ⟨(ids j).toArray⟩,.int .i64 (hs j),.int .i64 (cs j),.slice (aa j) (al j) (ac j)]] w' fun e w'' => e = .returned (.bool (ok j)) ∧ Lo w'.heap.size w' w'') →
  (∀ w',Lo w.heap.size w w' → Calls P f #[.int .i64 len,.int .i64 12] w' fun e w'' => e = .returned (.bool fin) ∧ Lo w'.heap.size w' w'') →
  Calls P r #[.slice (some ⟨b,off,Option.none⟩) len cap] w fun e w' => e = .returned (.bool (vsGo ids al last ok fin len 0)) ∧ Lo w.heap.size w w'
theorem Z2l {D : List (Nat × Callee)} {H : List (Nat × ET)} {fn : Fn} {E R : ET} {g : Nat} (h : FOk P φ g (Zab D H fn [.d E] [.d R] [])) {x : E.ty} {y : R.ty} (hf : (Zab D H fn [.d E] [.d R] []).f (x,()) = some y) :
 CallOk P φ g [E.enc x] [R.enc y] [] := by
 have e : (Zab D H fn [.d E] [.d R] []).cf [E.enc x] = some ([R.enc y],[]) := by
  rw [Callee.cf_eq (c := Zab D H fn [.d E] [.d R] []) (as := [E.enc x]) (x := (x,())) rfl (by
   show normU [MT.d E] [E.enc x] = [(E.v x).a]
   rw [Znf rfl,ET.v_a]),hf]
  show some ([(R.v y).a],[]) = _
  rw [ET.v_a]
 exact h.2 _ _ _ e
end
end Go.Ab
