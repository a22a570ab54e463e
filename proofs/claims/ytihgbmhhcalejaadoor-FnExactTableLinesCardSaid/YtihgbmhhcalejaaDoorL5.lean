/- Library functions: the kit's contracts as callees. Conditions: none. -/
import Derived.Test.YtihgbmhhcalejaaDoorL4
import Derived.Shelf.Strconv.Itoa4
import Derived.Shelf.Strings.Prefix
import Derived.Shelf.Small.Wraps
import Derived.Shelf.Strings.Shaped
import Derived.Shelf.Strings.SplitShaped
import Derived.Shelf.Strings.Repeat
import Derived.Shelf.Strings.OnBuilder
import Derived.Shelf.Strconv.ParseIntPublic10
import Derived.WalkSmall
import Derived.Lib.SmallJoins
set_option linter.unusedVariables false
set_option linter.unusedSimpArgs false
namespace Go.Ab
open Go.Shelf Go.RowKit Go.Sort Go.Lib Go.Proofs
section
variable {P : Program} {φ : Nat → Nat} {ρ : Ren} {g : Nat}
theorem reps_str_int {w : World} {K : Nat → Prop} {vs : List Value} {a : List UInt8} {k : IntKind} {n : Int} (h : Reps φ w K vs [.str a,.int k n]) : vs = [.string ⟨a.toArray⟩,.int k n] := by
 cases h with
 | cons v _ vs _ h t => cases h; cases t with | cons v _ vs _ h t => cases h; cases t; rfl
theorem repeat_ok (L : Lays.n105 P ρ) (X : Builder.Extra P ρ) (hφ : φ g = ρ.f 105) : FOk P φ g repeatC := by
 refine FOk.of_contract ⟨_,by rw [hφ]; exact L.f105,fun h => absurd ((show (Body.n105 ρ).name = "strings.Repeat" from rfl).symm.trans h) (by decide),rfl⟩ rfl rfl fun x y hy0 => ?_
 obtain ⟨a,n,⟨⟩⟩ := x
 have hy : (if decide (0 ≤ n) && (decide (n ≤ 9223372036854775807) && decide (List.length (α := UInt8) a * n.toNat ≤ 140737488355328)) then some (Lib.repeatL a n.toNat) else none) = some y := hy0
 split at hy
 ·rename_i hc
  obtain ⟨c1,c2⟩ := Bool.and_eq_true_iff.1 hc
  obtain ⟨c2,c3⟩ := Bool.and_eq_true_iff.1 c2
  have h0 : (0 : Int) ≤ n := of_decide_eq_true c1
  have h1 : (n : Int) ≤ 9223372036854775807 := of_decide_eq_true c2
  have h2 := of_decide_eq_true c3
  obtain rfl := Option.some.inj hy
  show CallOk P φ g [A.str a,A.int .i64 n] [A.str (Lib.repeatL a n.toNat)] []
  have hn : ([A.str a,A.int .i64 n] : List A).any lentA = false := rfl
  refine CallOk.of_plain hn fun w K vs hr hK hG => ?_
  rw [reps_str_int hr,hφ]
  obtain ⟨c,rfl⟩ : ∃ c : Nat,n = (c : Int) := ⟨n.toNat,(Int.toNat_of_nonneg h0).symm⟩
  rw [Int.toNat_natCast] at h2
  refine (Any.strings_Repeat L X ⟨a.toArray⟩ c w (by have := Int.ofNat_le.1 (show ((c : Nat) : Int) ≤ ((9223372036854775807 : Nat) : Int) from h1); exact this) (by rw [Lib.size_eq]; exact h2)).mono fun e w' hh => ?_
  obtain ⟨rfl,hb⟩ := hh
  exact ⟨[_],rfl,hb,.cons _ _ _ _ (.str _) .nil⟩
 ·cases hy
theorem flat_strs (xs : List (List UInt8)) : (xs.map A.str).flatMap A.cells = xs.map A.str := by
 induction xs with
 | nil => rfl
 | cons s xs ih => rw [List.map_cons,List.flatMap_cons,ih]; rfl
theorem join_ok (L : Lays.n156 P ρ) (X : Builder.Extra P ρ) (hφ : φ g = ρ.f 156) : FOk P φ g joinC := by
 refine FOk.of_contract ⟨_,by rw [hφ]; exact L.f156,fun h => absurd ((show (Body.n156 ρ).name = "strings.Join" from rfl).symm.trans h) (by decide),rfl⟩ rfl rfl fun x y hy0 => ?_
 obtain ⟨xs,b,⟨⟩⟩ := x
 have hy : (if decide (List.length (α := List UInt8) xs ≤ 140737488355328) && decide ((Lib.join xs b).length ≤ 140737488355328) then some (Lib.join xs b) else none) = some y := hy0
 split at hy
 ·rename_i hc
  obtain ⟨c1,c2⟩ := Bool.and_eq_true_iff.1 hc
  have h0 := of_decide_eq_true c1
  have h1 := of_decide_eq_true c2
  obtain rfl := Option.some.inj hy
  show CallOk P φ g [A.sl 1 (xs.map A.str),A.str b] [A.str (Lib.join xs b)] []
  have hn : ([A.sl 1 (xs.map A.str),A.str b] : List A).any lentA = false := rfl
  refine CallOk.of_plain hn fun w K vs hr hK hG => ?_
  rw [hφ]
  cases hr with
  | cons v _ vs _ hv t =>
    cases t with
    | cons u _ us _ hu t =>
      cases t
      cases hu
      generalize hys : xs.map A.str = ys at hv
      cases hv with
      | slE ad cap z =>
        have : xs = [] := by cases xs with | nil => rfl | cons => simp at hys
        subst this
        refine (Any.strings_Join_none L X ad cap ⟨b.toArray⟩ w).mono fun e w' hh => ?_
        obtain ⟨rfl,rfl⟩ := hh
        exact ⟨[_],rfl,Below.refl _ _,.cons _ _ _ _ (.str _) .nil⟩
      | sl bk o cap z _ cs hb hz hcap h hv' =>
        subst hys
        rw [flat_strs] at h
        have hcs : cs = xs.map fun s => Value.string ⟨s.toArray⟩ := by
         clear hv' hcap hz h0 h1 c1 c2 hc hn hy hy0
         induction xs generalizing cs with
         | nil => cases h; rfl
         | cons s xs ih =>
           cases h with
           | cons v _ vs _ h t => cases h; rw [ih _ t,List.map_cons]
        subst hcs
        have hle : ((xs.map fun s => (⟨s.toArray⟩ : ByteArray)).map fun x => x.data.toList) = xs := by
         rw [List.map_map]; conv => rhs; rw [← List.map_id xs]
         exact List.map_congr_left fun x _ => by simp
        have hc := Any.strings_Join L X bk o cap (xs.map fun s => (⟨s.toArray⟩ : ByteArray)) ⟨b.toArray⟩ w (fun j x hx => by
         rw [List.getElem?_map] at hx
         obtain ⟨s,hs,rfl⟩ := Option.map_eq_some_iff.1 hx
         exact hv' j _ (by rw [List.getElem?_map,hs]; rfl)) (hK bk hb) (by simpa using h0) (by simpa using hcap) (by rw [hle]; exact h1)
        rw [hle] at hc
        have hl : (xs.map A.str).length = (xs.map fun s => (⟨s.toArray⟩ : ByteArray)).length := by simp
        rw [hl]
        refine hc.mono fun e w' hh => ?_
        obtain ⟨rfl,hbw⟩ := hh
        exact ⟨[_],rfl,hbw,.cons _ _ _ _ (.str _) .nil⟩
 ·cases hy
structure RdWalk (P : Program) (r p f : Nat) : Prop where
 en : Entered P r
 long : ∀ (s : ByteArray) (w : World),18 < (Lib.trimPrefix s.data.toList [45]).length →
  Calls P r #[.string s] w fun e w' => e = .returned (.tuple #[.int .i64 0,.bool false]) ∧ Below w.heap.size w w'
 bad : ∀ (s : ByteArray) (w : World),¬ 18 < (Lib.trimPrefix s.data.toList [45]).length → ∀ (m : Int) (u : TypeId),
  (Calls P p #[.string s,.int .i64 10,.int .i64 64] w fun e w' => ∃ x,e = .returned (.tuple #[.int .i64 m,.iface u x]) ∧ Below w.heap.size w w') →
  Calls P r #[.string s] w fun e w' => e = .returned (.tuple #[.int .i64 0,.bool false]) ∧ Below w.heap.size w w'
 ok : ∀ (s : ByteArray) (w : World),¬ 18 < (Lib.trimPrefix s.data.toList [45]).length → ∀ (v : Int),Lib.itoa v = s.data.toList →
  (Calls P p #[.string s,.int .i64 10,.int .i64 64] w fun e w' => e = .returned (.tuple #[.int .i64 v,.nilIface]) ∧ Below w.heap.size w w') →
  (∀ w',Below w.heap.size w w' → Calls P f #[.int .i64 v,.int .i64 10] w' fun e w'' => e = .returned (.string ⟨(Lib.itoa v).toArray⟩) ∧ Below w'.heap.size w' w'') →
  Calls P r #[.string s] w fun e w' => e = .returned (.tuple #[.int .i64 v,.bool true]) ∧ Below w.heap.size w w'
 no : ∀ (s : ByteArray) (w : World),¬ 18 < (Lib.trimPrefix s.data.toList [45]).length → ∀ (v : Int),Lib.itoa v ≠ s.data.toList →
  (Calls P p #[.string s,.int .i64 10,.int .i64 64] w fun e w' => e = .returned (.tuple #[.int .i64 v,.nilIface]) ∧ Below w.heap.size w w') →
  (∀ w',Below w.heap.size w w' → Calls P f #[.int .i64 v,.int .i64 10] w' fun e w'' => e = .returned (.string ⟨(Lib.itoa v).toArray⟩) ∧ Below w'.heap.size w' w'') →
  Calls P r #[.string s] w fun e w' => e = .returned (.tuple #[.int .i64 0,.bool false]) ∧ Below w.heap.size w w'
end
end Go.Ab
