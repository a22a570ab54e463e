/- Library functions: the kit's contracts as callees. Conditions: none. -/
import Derived.Test.YtobkmdnplcmndaaL4
import Derived.Shelf.Strconv.Itoa4
import Derived.Shelf.Strings.Prefix
import Derived.Shelf.Small.Wraps
import Derived.Shelf.Small.Strs
import Derived.Shelf.Strings.Shaped
import Derived.Shelf.Strings.SplitShaped
import Derived.Shelf.Strings.Repeat
import Derived.Shelf.Strings.OnBuilder
import Derived.Shelf.Strconv.ParseIntPublic10
import Derived.WalkSmall
import Derived.Lib.SmallJoins
set_option linter.unusedVariables false
set_option linter.unusedSimpArgs false
namespace Go.Ab
open Go.Shelf Go.RowKit Go.Sort Go.Lib Go.Proofs
section
variable {P : Program} {φ : Nat → Nat} {ρ : Ren} {g : Nat}
theorem Z1o {w : World} {K : Nat → Prop} {vs : List Value} {a b : List UInt8} (h : Reps φ w K vs [.str a,.str b]) : vs = [.string ⟨a.toArray⟩,.string ⟨b.toArray⟩] := by
 cases h with
 | cons v _ vs _ h t => cases h; cases t with | cons v _ vs _ h t => cases h; cases t; rfl
theorem Z35 (hs : ∀ w : World,w.ShapedOpen P → ∃ m,w.cell? ⟨ρ.g 1,0,none⟩ = some (.int .i64 m)) (hg : ρ.g 1 < P.globals.size) {K : Nat → Prop} {w : World} (hG : Glob P K w) :
 ∃ m,w.cell? ⟨ρ.g 1,0,none⟩ = some (.int .i64 m) := by
 obtain ⟨W,h1,h2⟩ := hG.sh
 obtain ⟨m,hm⟩ := hs W h1
 have hlt : ρ.g 1 < W.heap.size := by
  rcases Nat.lt_or_ge (ρ.g 1) W.heap.size with h | h
  ·exact h
  ·simp [World.cell?,Array.getElem?_eq_none h] at hm
 exact ⟨m,(cell?_of_block (h2 _ hg hlt).2 0).trans hm⟩
theorem Zma (L : LaysM.n144 P ρ) (hg : ρ.g 1 < P.globals.size) (hφ : φ g = ρ.f 144) : FOk P φ g Z7t := by
 refine FOk.of_contract ⟨_,by rw [hφ]; exact L.f144,fun h => absurd ((show (Body.n144 ρ).name = "strings.Contains" from rfl).symm.trans h) (by decide),rfl⟩ rfl rfl fun x y hy0 => ?_
 obtain ⟨a,b,⟨⟩⟩ := x
 have hy : (if decide (List.length (α := UInt8) a < 4294967281) then some (Lib.contains a b) else none) = some y := hy0
 split at hy
 ·rename_i hc
  have hl := of_decide_eq_true hc
  obtain rfl := Option.some.inj hy
  show CallOk P φ g [A.str a,A.str b] [A.bool (Lib.contains a b)] []
  have hn : ([A.str a,A.str b] : List A).any lentA = false := rfl
  refine CallOk.of_plain hn fun w K vs hr hK hG => ?_
  rw [Z1o hr,hφ]
  obtain ⟨m,hm⟩ := Z35 L.s1_3 hg hG
  refine (Any.strings_Contains { L with } ⟨a.toArray⟩ ⟨b.toArray⟩ m w (by rw [Lib.size_eq]; exact hl) hm).mono fun e w' hh => ?_
  obtain ⟨rfl,rfl⟩ := hh
  exact ⟨[_],rfl,Below.refl _ _,.cons _ _ _ _ (.bool _) .nil⟩
 ·cases hy
theorem Zj0 (L : Lays.n106 P ρ) (hφ : φ g = ρ.f 106) : FOk P φ g Z2u := by
 refine FOk.of_contract ⟨_,by rw [hφ]; exact L.f106,fun h => absurd ((show (Body.n106 ρ).name = "strings.Compare" from rfl).symm.trans h) (by decide),rfl⟩ rfl rfl fun x y hy0 => ?_
 obtain ⟨a,b,⟨⟩⟩ := x
 have hy : some (Lib.compareBytes a b) = some y := hy0
 obtain rfl := Option.some.inj hy
 show CallOk P φ g [A.str a,A.str b] [A.int .i64 (Lib.compareBytes a b)] []
 have hn : ([A.str a,A.str b] : List A).any lentA = false := rfl
 refine CallOk.of_plain hn fun w K vs hr hK hG => ?_
 rw [Z1o hr,hφ]
 refine (Any.strings_Compare L ⟨a.toArray⟩ ⟨b.toArray⟩ w).mono fun e w' hh => ?_
 obtain ⟨rfl,rfl⟩ := hh
 exact ⟨[_],rfl,Below.refl _ _,.cons _ _ _ _ (.int _ _) .nil⟩
structure RdWalk (P : Program) (r p f : Nat) : Prop where
 en : Entered P r
 long : ∀ (s : ByteArray) (w : World),18 < (Lib.trimPrefix s.data.toList [45]).length →
  Calls P r #[.string s] w fun e w' => e = .returned (.tuple #[.int .i64 0,.bool false]) ∧ Below w.heap.size w w'
 bad : ∀ (s : ByteArray) (w : World),¬ 18 < (Lib.trimPrefix s.data.toList [45]).length → ∀ (m : Int) (u : TypeId),
  (Calls P p #[.string s,.int .i64 10,.int .i64 64] w fun e w' => ∃ x,e = .returned (.tuple #[.int .i64 m,.iface u x]) ∧ Below w.heap.size w w') →
  Calls P r #[.string s] w fun e w' => e = .returned (.tuple #[.int .i64 0,.bool false]) ∧ Below w.heap.size w w'
 ok : ∀ (s : ByteArray) (w : World),¬ 18 < (Lib.trimPrefix s.data.toList [45]).length → ∀ (v : Int),Lib.itoa v = s.data.toList →
  (Calls P p #[.string s,.int .i64 10,.int .i64 64] w fun e w' => e = .returned (.tuple #[.int .i64 v,.nilIface]) ∧ Below w.heap.size w w') →
  (∀ w',Below w.heap.size w w' → Calls P f #[.int .i64 v,.int .i64 10] w' fun e w'' => e = .returned (.string ⟨(Lib.itoa v).toArray⟩) ∧ Below w'.heap.size w' w'') →
  Calls P r #[.string s] w fun e w' => e = .returned (.tuple #[.int .i64 v,.bool true]) ∧ Below w.heap.size w w'
 no : ∀ (s : ByteArray) (w : World),¬ 18 < (Lib.trimPrefix s.data.toList [45]).length → ∀ (v : Int),Lib.itoa v ≠ s.data.toList →
  (Calls P p #[.string s,.int .i64 10,.int .i64 64] w fun e w' => e = .returned (.tuple #[.int .i64 v,.nilIface]) ∧ Below w.heap.size w w') →
  (∀ w',Below w.heap.size w w' → Calls P f #[.int .i64 v,.int .i64 10] w' fun e w'' => e = .returned (.string ⟨(Lib.itoa v).toArray⟩) ∧ Below w'.heap.size w' w'') →
  Calls P r #[.string s] w fun e w' => e = .returned (.tuple #[.int .i64 0,.bool false]) ∧ Below w.heap.size w w'
end
end Go.Ab
