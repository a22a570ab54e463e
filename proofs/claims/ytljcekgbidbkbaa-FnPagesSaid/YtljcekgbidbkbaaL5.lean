/- Library functions: the kit's contracts as callees. Conditions: none. -/
import Derived.Test.YtljcekgbidbkbaaL4
import Derived.Shelf.Strconv.Itoa4
import Derived.Shelf.Strings.Prefix
import Derived.Shelf.Small.Wraps
import Derived.Shelf.Small.Strs
import Derived.Shelf.Strings.Shaped
import Derived.Shelf.Strings.SplitShaped
import Derived.Shelf.Strings.Repeat
import Derived.Shelf.Strings.OnBuilder
import Derived.Shelf.Strconv.ParseIntPublic10
import Derived.WalkSmall
import Derived.Lib.SmallJoins
set_option linter.unusedVariables false
set_option linter.unusedSimpArgs false
namespace Go.Ab
open Go.Shelf Go.RowKit Go.Sort Go.Lib Go.Proofs
section
variable {P : Program} {φ : Nat → Nat} {ρ : Ren} {g : Nat}
theorem reps_str2 {w : World} {K : Nat → Prop} {vs : List Value} {a b : List UInt8} (h : Reps φ w K vs [.str a,.str b]) : vs = [.string ⟨a.toArray⟩,.string ⟨b.toArray⟩] := by
 cases h with
 | cons v _ vs _ h t => cases h; cases t with | cons v _ vs _ h t => cases h; cases t; rfl
theorem reps_str_int {w : World} {K : Nat → Prop} {vs : List Value} {a : List UInt8} {k : IntKind} {n : Int} (h : Reps φ w K vs [.str a,.int k n]) : vs = [.string ⟨a.toArray⟩,.int k n] := by
 cases h with
 | cons v _ vs _ h t => cases h; cases t with | cons v _ vs _ h t => cases h; cases t; rfl
theorem maxLen_cell (hs : ∀ w : World,w.ShapedOpen P → ∃ m,w.cell? ⟨ρ.g 1,0,none⟩ = some (.int .i64 m)) (hg : ρ.g 1 < P.globals.size) {K : Nat → Prop} {w : World} (hG : Glob P K w) :
 ∃ m,w.cell? ⟨ρ.g 1,0,none⟩ = some (.int .i64 m) := by
 obtain ⟨W,h1,h2⟩ := hG.sh
 obtain ⟨m,hm⟩ := hs W h1
 have hlt : ρ.g 1 < W.heap.size := by
  rcases Nat.lt_or_ge (ρ.g 1) W.heap.size with h | h
  ·exact h
  ·simp [World.cell?,Array.getElem?_eq_none h] at hm
 exact ⟨m,(cell?_of_block (h2 _ hg hlt).2 0).trans hm⟩
theorem contains_ok (L : LaysM.n144 P ρ) (hg : ρ.g 1 < P.globals.size) (hφ : φ g = ρ.f 144) : FOk P φ g containsC := by
 refine FOk.of_contract ⟨_,by rw [hφ]; exact L.f144,fun h => absurd ((show (Body.n144 ρ).name = "strings.Contains" from rfl).symm.trans h) (by decide),rfl⟩ rfl rfl fun x y hy0 => ?_
 obtain ⟨a,b,⟨⟩⟩ := x
 have hy : (if decide (List.length (α := UInt8) a < 4294967281) then some (Lib.contains a b) else none) = some y := hy0
 split at hy
 ·rename_i hc
  have hl := of_decide_eq_true hc
  obtain rfl := Option.some.inj hy
  show CallOk P φ g [A.str a,A.str b] [A.bool (Lib.contains a b)] []
  have hn : ([A.str a,A.str b] : List A).any lentA = false := rfl
  refine CallOk.of_plain hn fun w K vs hr hK hG => ?_
  rw [reps_str2 hr,hφ]
  obtain ⟨m,hm⟩ := maxLen_cell L.s1_3 hg hG
  refine (Any.strings_Contains { L with } ⟨a.toArray⟩ ⟨b.toArray⟩ m w (by rw [Lib.size_eq]; exact hl) hm).mono fun e w' hh => ?_
  obtain ⟨rfl,rfl⟩ := hh
  exact ⟨[_],rfl,Below.refl _ _,.cons _ _ _ _ (.bool _) .nil⟩
 ·cases hy
theorem repeat_ok (L : Lays.n105 P ρ) (X : Builder.Extra P ρ) (hφ : φ g = ρ.f 105) : FOk P φ g repeatC := by
 refine FOk.of_contract ⟨_,by rw [hφ]; exact L.f105,fun h => absurd ((show (Body.n105 ρ).name = "strings.Repeat" from rfl).symm.trans h) (by decide),rfl⟩ rfl rfl fun x y hy0 => ?_
 obtain ⟨a,n,⟨⟩⟩ := x
 have hy : (if decide (0 ≤ n) && (decide (n ≤ 9223372036854775807) && decide (List.length (α := UInt8) a * n.toNat ≤ 140737488355328)) then some (Lib.repeatL a n.toNat) else none) = some y := hy0
 split at hy
 ·rename_i hc
  obtain ⟨c1,c2⟩ := Bool.and_eq_true_iff.1 hc
  obtain ⟨c2,c3⟩ := Bool.and_eq_true_iff.1 c2
  have h0 : (0 : Int) ≤ n := of_decide_eq_true c1
  have h1 : (n : Int) ≤ 9223372036854775807 := of_decide_eq_true c2
  have h2 := of_decide_eq_true c3
  obtain rfl := Option.some.inj hy
  show CallOk P φ g [A.str a,A.int .i64 n] [A.str (Lib.repeatL a n.toNat)] []
  have hn : ([A.str a,A.int .i64 n] : List A).any lentA = false := rfl
  refine CallOk.of_plain hn fun w K vs hr hK hG => ?_
  rw [reps_str_int hr,hφ]
  obtain ⟨c,rfl⟩ : ∃ c : Nat,n = (c : Int) := ⟨n.toNat,(Int.toNat_of_nonneg h0).symm⟩
  rw [Int.toNat_natCast] at h2
  refine (Any.strings_Repeat L X ⟨a.toArray⟩ c w (by have := Int.ofNat_le.1 (show ((c : Nat) : Int) ≤ ((9223372036854775807 : Nat) : Int) from h1); exact this) (by rw [Lib.size_eq]; exact h2)).mono fun e w' hh => ?_
  obtain ⟨rfl,hb⟩ := hh
  exact ⟨[_],rfl,hb,.cons _ _ _ _ (.str _) .nil⟩
 ·cases hy
structure RdWalk (P : Program) (r p f : Nat) : Prop where
 en : Entered P r
 long : ∀ (s : ByteArray) (w : World),18 < (Lib.trimPrefix s.data.toList [45]).length →
  Calls P r #[.string s] w fun e w' => e = .returned (.tuple #[.int .i64 0,.bool false]) ∧ Below w.heap.size w w'
 bad : ∀ (s : ByteArray) (w : World),¬ 18 < (Lib.trimPrefix s.data.toList [45]).length → ∀ (m : Int) (u : TypeId),
  (Calls P p #[.string s,.int .i64 10,.int .i64 64] w fun e w' => ∃ x,e = .returned (.tuple #[.int .i64 m,.iface u x]) ∧ Below w.heap.size w w') →
  Calls P r #[.string s] w fun e w' => e = .returned (.tuple #[.int .i64 0,.bool false]) ∧ Below w.heap.size w w'
 ok : ∀ (s : ByteArray) (w : World),¬ 18 < (Lib.trimPrefix s.data.toList [45]).length → ∀ (v : Int),Lib.itoa v = s.data.toList →
  (Calls P p #[.string s,.int .i64 10,.int .i64 64] w fun e w' => e = .returned (.tuple #[.int .i64 v,.nilIface]) ∧ Below w.heap.size w w') →
  (∀ w',Below w.heap.size w w' → Calls P f #[.int .i64 v,.int .i64 10] w' fun e w'' => e = .returned (.string ⟨(Lib.itoa v).toArray⟩) ∧ Below w'.heap.size w' w'') →
  Calls P r #[.string s] w fun e w' => e = .returned (.tuple #[.int .i64 v,.bool true]) ∧ Below w.heap.size w w'
 no : ∀ (s : ByteArray) (w : World),¬ 18 < (Lib.trimPrefix s.data.toList [45]).length → ∀ (v : Int),Lib.itoa v ≠ s.data.toList →
  (Calls P p #[.string s,.int .i64 10,.int .i64 64] w fun e w' => e = .returned (.tuple #[.int .i64 v,.nilIface]) ∧ Below w.heap.size w w') →
  (∀ w',Below w.heap.size w w' → Calls P f #[.int .i64 v,.int .i64 10] w' fun e w'' => e = .returned (.string ⟨(Lib.itoa v).toArray⟩) ∧ Below w'.heap.size w' w'') →
  Calls P r #[.string s] w fun e w' => e = .returned (.tuple #[.int .i64 0,.bool false]) ∧ Below w.heap.size w w'
end
end Go.Ab
