/- Library functions: the kit's contracts as callees. Conditions: none. -/
import Derived.Test.YtabpaipnheelbaaDoorL4
import Derived.Shelf.Strconv.Itoa4
import Derived.Shelf.Strings.Prefix
import Derived.Shelf.Small.Wraps
import Derived.Shelf.Small.Strs
import Derived.Shelf.Strings.Shaped
import Derived.Shelf.Strings.SplitShaped
import Derived.Shelf.Strings.Repeat
import Derived.Shelf.Strings.OnBuilder
import Derived.Shelf.Strconv.ParseIntPublic10
import Derived.WalkSmall
import Derived.Lib.SmallJoins
set_option linter.unusedVariables false
set_option linter.unusedSimpArgs false
namespace Go.Ab
open Go.Shelf Go.RowKit Go.Sort Go.Lib Go.Proofs
theorem below_grow {w : World} (k : Nat) (os : Array Obj) : Below w.heap.size w (Go.Sort.grow (w.drewN k) os) where
 os := rfl
 tape := rfl
 output := rfl
 size := by simp [Go.Sort.grow,World.drewN]
 block b hb := by
  simp only [Go.Sort.grow,World.drewN]
  rw [Array.getElem?_append_left hb]
theorem formatInt_ok {P : Program} {φ : Nat → Nat} {ρ : Ren} {g : Nat} (L : LaysM.n173 P ρ) (hg : ∃ i,P.globalNamed pow10Name = some i) (hφ : φ g = ρ.f 173) : FOk P φ g formatIntC := by
 refine FOk.of_contract ⟨_,by rw [hφ]; exact L.f173,fun h => absurd ((show (Body.n173 ρ).name = "strconv.FormatInt" from rfl).symm.trans h) (by decide),rfl⟩ rfl rfl fun x y hy0 => ?_
 obtain ⟨n,b,⟨⟩⟩ := x
 have hy : (if decide (b = 10) && (decide (-9223372036854775808 ≤ n) && decide (n ≤ 9223372036854775807)) then some (Lib.itoa n) else none) = some y := hy0
 split at hy
 ·rename_i hc
  obtain ⟨c1,c2⟩ := Bool.and_eq_true_iff.1 hc
  obtain ⟨c2,c3⟩ := Bool.and_eq_true_iff.1 c2
  obtain rfl := of_decide_eq_true c1
  have h0 := of_decide_eq_true c2
  have h1 := of_decide_eq_true c3
  obtain rfl := Option.some.inj hy
  show CallOk P φ g [A.int .i64 n,A.int .i64 10] [A.str (Lib.itoa n)] []
  have hn : ([A.int .i64 n,A.int .i64 10] : List A).any lentA = false := rfl
  refine CallOk.of_plain hn fun w K vs hr hK hG => ?_
  have hvs : vs = [.int .i64 n,.int .i64 10] := by
   cases hr with
   | cons v _ vs _ h t =>
     cases h
     cases t with
     | cons v _ vs _ h t => cases h; cases t; rfl
  subst hvs
  obtain ⟨i,hi⟩ := hg
  rw [hφ]
  refine (Any.strconv_FormatInt_10 L n h0 h1 w (hG.tab i hi).2).mono fun e w' hh => ?_
  obtain ⟨rfl,k,os,rfl⟩ := hh
  exact ⟨[_],rfl,below_grow k os,.cons _ _ _ _ (.str _) .nil⟩
 ·cases hy
section
variable {P : Program} {φ : Nat → Nat} {ρ : Ren} {g : Nat}
structure RdWalk (P : Program) (r p f : Nat) : Prop where
 en : Entered P r
 long : ∀ (s : ByteArray) (w : World),18 < (Lib.trimPrefix s.data.toList [45]).length →
  Calls P r #[.string s] w fun e w' => e = .returned (.tuple #[.int .i64 0,.bool false]) ∧ Below w.heap.size w w'
 bad : ∀ (s : ByteArray) (w : World),¬ 18 < (Lib.trimPrefix s.data.toList [45]).length → ∀ (m : Int) (u : TypeId),
  (Calls P p #[.string s,.int .i64 10,.int .i64 64] w fun e w' => ∃ x,e = .returned (.tuple #[.int .i64 m,.iface u x]) ∧ Below w.heap.size w w') →
  Calls P r #[.string s] w fun e w' => e = .returned (.tuple #[.int .i64 0,.bool false]) ∧ Below w.heap.size w w'
 ok : ∀ (s : ByteArray) (w : World),¬ 18 < (Lib.trimPrefix s.data.toList [45]).length → ∀ (v : Int),Lib.itoa v = s.data.toList →
  (Calls P p #[.string s,.int .i64 10,.int .i64 64] w fun e w' => e = .returned (.tuple #[.int .i64 v,.nilIface]) ∧ Below w.heap.size w w') →
  (∀ w',Below w.heap.size w w' → Calls P f #[.int .i64 v,.int .i64 10] w' fun e w'' => e = .returned (.string ⟨(Lib.itoa v).toArray⟩) ∧ Below w'.heap.size w' w'') →
  Calls P r #[.string s] w fun e w' => e = .returned (.tuple #[.int .i64 v,.bool true]) ∧ Below w.heap.size w w'
 no : ∀ (s : ByteArray) (w : World),¬ 18 < (Lib.trimPrefix s.data.toList [45]).length → ∀ (v : Int),Lib.itoa v ≠ s.data.toList →
  (Calls P p #[.string s,.int .i64 10,.int .i64 64] w fun e w' => e = .returned (.tuple #[.int .i64 v,.nilIface]) ∧ Below w.heap.size w w') →
  (∀ w',Below w.heap.size w w' → Calls P f #[.int .i64 v,.int .i64 10] w' fun e w'' => e = .returned (.string ⟨(Lib.itoa v).toArray⟩) ∧ Below w'.heap.size w' w'') →
  Calls P r #[.string s] w fun e w' => e = .returned (.tuple #[.int .i64 0,.bool false]) ∧ Below w.heap.size w w'
end
end Go.Ab
