/- Library functions: the kit's contracts as callees. Conditions: none. -/
import Derived.Test.YtobkmdnplcmndaaGreatDoorL4
import Derived.Shelf.Strconv.Itoa4
import Derived.Shelf.Strings.Prefix
import Derived.Shelf.Small.Wraps
import Derived.Shelf.Small.Strs
import Derived.Shelf.Strings.Shaped
import Derived.Shelf.Strings.SplitShaped
import Derived.Shelf.Strings.Repeat
import Derived.Shelf.Strings.OnBuilder
import Derived.Shelf.Strconv.ParseIntPublic10
import Derived.WalkSmall
import Derived.Lib.SmallJoins
set_option linter.unusedVariables false
set_option linter.unusedSimpArgs false
namespace Go.Ab
open Go.Shelf Go.RowKit Go.Sort Go.Lib Go.Proofs
section
variable {P : Program} {φ : Nat → Nat} {ρ : Ren} {g : Nat}
theorem Zsm {w : World} {K : Nat → Prop} {vs : List Value} {a b : List UInt8} (h : Reps φ w K vs [.str a,.str b]) : vs = [.string ⟨a.toArray⟩,.string ⟨b.toArray⟩] := by
 cases h with
 | cons v _ vs _ h t => cases h; cases t with | cons v _ vs _ h t => cases h; cases t; rfl
theorem Zug (hs : ∀ w : World,w.ShapedOpen P → ∃ m,w.cell? ⟨ρ.g 1,0,none⟩ = some (.int .i64 m)) (hg : ρ.g 1 < P.globals.size) {K : Nat → Prop} {w : World} (hG : Glob P K w) :
 ∃ m,w.cell? ⟨ρ.g 1,0,none⟩ = some (.int .i64 m) := by
 obtain ⟨W,h1,h2⟩ := hG.sh
 obtain ⟨m,hm⟩ := hs W h1
 have hlt : ρ.g 1 < W.heap.size := by
  rcases Nat.lt_or_ge (ρ.g 1) W.heap.size with h | h
  ·exact h
  ·simp [World.cell?,Array.getElem?_eq_none h] at hm
 exact ⟨m,(cell?_of_block (h2 _ hg hlt).2 0).trans hm⟩
theorem Zj6 (L : LaysM.n144 P ρ) (hg : ρ.g 1 < P.globals.size) (hφ : φ g = ρ.f 144) : FOk P φ g Z47 := by
 refine FOk.of_contract ⟨_,by rw [hφ]; exact L.f144,fun h => absurd ((show (Body.n144 ρ).name = "strings.Contains" from rfl).symm.trans h) (by decide),rfl⟩ rfl rfl fun x y hy0 => ?_
 obtain ⟨a,b,⟨⟩⟩ := x
 have hy : (if decide (List.length (α := UInt8) a < 4294967281) then some (Lib.contains a b) else none) = some y := hy0
 split at hy
 ·rename_i hc
  have hl := of_decide_eq_true hc
  obtain rfl := Option.some.inj hy
  show CallOk P φ g [A.str a,A.str b] [A.bool (Lib.contains a b)] []
  have hn : ([A.str a,A.str b] : List A).any lentA = false := rfl
  refine CallOk.of_plain hn fun w K vs hr hK hG => ?_
  rw [Zsm hr,hφ]
  obtain ⟨m,hm⟩ := Zug L.s1_3 hg hG
  refine (Any.strings_Contains { L with } ⟨a.toArray⟩ ⟨b.toArray⟩ m w (by rw [Lib.size_eq]; exact hl) hm).mono fun e w' hh => ?_
  obtain ⟨rfl,rfl⟩ := hh
  exact ⟨[_],rfl,Below.refl _ _,.cons _ _ _ _ (.bool _) .nil⟩
 ·cases hy
theorem Zqz (L : Lays.n106 P ρ) (hφ : φ g = ρ.f 106) : FOk P φ g Z04 := by
 refine FOk.of_contract ⟨_,by rw [hφ]; exact L.f106,fun h => absurd ((show (Body.n106 ρ).name = "strings.Compare" from rfl).symm.trans h) (by decide),rfl⟩ rfl rfl fun x y hy0 => ?_
 obtain ⟨a,b,⟨⟩⟩ := x
 have hy : some (Lib.compareBytes a b) = some y := hy0
 obtain rfl := Option.some.inj hy
 show CallOk P φ g [A.str a,A.str b] [A.int .i64 (Lib.compareBytes a b)] []
 have hn : ([A.str a,A.str b] : List A).any lentA = false := rfl
 refine CallOk.of_plain hn fun w K vs hr hK hG => ?_
 rw [Zsm hr,hφ]
 refine (Any.strings_Compare L ⟨a.toArray⟩ ⟨b.toArray⟩ w).mono fun e w' hh => ?_
 obtain ⟨rfl,rfl⟩ := hh
 exact ⟨[_],rfl,Below.refl _ _,.cons _ _ _ _ (.int _ _) .nil⟩
theorem Zzf {w : World} {K : Nat → Prop} : ∀ (xs : List (List UInt8)),Reps φ w K (xs.map fun s => Value.string ⟨s.toArray⟩) (xs.map A.str)
 | [] => .nil
 | s :: xs => .cons _ _ _ _ (.str s) (Zzf xs)
theorem Z57 (xs : List (List UInt8)) : (xs.map A.str).flatMap A.cells = xs.map A.str := by
 induction xs with
 | nil => rfl
 | cons s xs ih => rw [List.map_cons,List.flatMap_cons,ih]; rfl
theorem Z6v (L : LaysM.n146 P ρ) (hg : ρ.g 1 < P.globals.size) (hφ : φ g = ρ.f 146) : FOk P φ g splitC := by
 refine FOk.of_contract ⟨_,by rw [hφ]; exact L.f146,fun h => absurd ((show (Body.n146 ρ).name = "strings.Split" from rfl).symm.trans h) (by decide),rfl⟩ rfl rfl fun x y hy0 => ?_
 obtain ⟨a,b,⟨⟩⟩ := x
 have hy : (if decide (List.length (α := UInt8) a < 4294967281) && decide (1 ≤ List.length (α := UInt8) b) then some (Lib.splitK b 0 (Lib.count a b) a) else none) = some y := hy0
 split at hy
 ·rename_i hc
  obtain ⟨c1,c2⟩ := Bool.and_eq_true_iff.1 hc
  have h0 := of_decide_eq_true c1
  have h1 := of_decide_eq_true c2
  obtain rfl := Option.some.inj hy
  show CallOk P φ g [A.str a,A.str b] [A.tok 0 1 ((Lib.splitK b 0 (Lib.count a b) a).map A.str)] []
  have hn : ([A.str a,A.str b] : List A).any lentA = false := rfl
  refine CallOk.of_below hn fun w K vs hr hK hG => ?_
  rw [Zsm hr,hφ]
  obtain ⟨m,hm⟩ := Zug L.s1_3 hg hG
  refine (Any.strings_Split { L with } L.i9 ⟨a.toArray⟩ ⟨b.toArray⟩ m w (by rw [Lib.size_eq]; exact h0) hm (by rw [Lib.size_eq]; exact h1)).mono fun e w' hh => ?_
  obtain ⟨rfl,hw⟩ := hh
  have hlen := Lib.splitB_all ⟨b.toArray⟩ (by rw [Lib.size_eq]; exact h1) 0 _ (⟨a.toArray⟩ : ByteArray) rfl
  have hd := Lib.splitB_data ⟨b.toArray⟩ 0 (Lib.countB ⟨a.toArray⟩ ⟨b.toArray⟩) (⟨a.toArray⟩ : ByteArray)
  have hd : (Lib.splitB ⟨b.toArray⟩ 0 (Lib.countB ⟨a.toArray⟩ ⟨b.toArray⟩) ⟨a.toArray⟩).map (fun x : ByteArray => x.data.toList) = Lib.splitK b 0 (Lib.count a b) a := hd
  generalize hxs : Lib.splitK b 0 (Lib.count a b) a = xs at hd ⊢
  generalize Lib.splitB ⟨b.toArray⟩ 0 (Lib.countB ⟨a.toArray⟩ ⟨b.toArray⟩) ⟨a.toArray⟩ = bs at hd hw hlen
  have hxl : xs.length = Lib.countB ⟨a.toArray⟩ ⟨b.toArray⟩ + 1 := by rw [← hd,List.length_map,hlen]
  have hcs : bs.map Value.string = xs.map fun s => Value.string ⟨s.toArray⟩ := by
   rw [← hd,List.map_map]
   exact List.map_congr_left fun x _ => by simp
  have hheap : w'.heap = w.heap.push (.cells (xs.map fun s => Value.string ⟨s.toArray⟩).toArray (ρ.t 9)) := by rw [hw,hcs]; rfl
  have henv : w'.os = w.os ∧ w'.output = w.output := by rw [hw]; exact ⟨rfl,rfl⟩
  have hext := Zhb hheap henv
  have htape : w'.tape = w.tape := by rw [hw]; rfl
  refine ⟨[_],K,[w.heap.size],rfl,⟨henv.1,htape,henv.2,hext.size,fun k hk => hext.same k hk⟩,fun _ h => h,fun b h => .inl h,?_,by simp,fun c hc => ?_⟩
  ·have hsz : (xs.map fun s => Value.string ⟨s.toArray⟩).toArray.size = xs.length := by simp
   have hroom := Zn7 (z := 1) hheap
   rw [hsz] at hroom
   have hcells := Zeq hheap
   have hown : OwnRep φ w' K (.slice (some ⟨w.heap.size,0,none⟩) (xs.map A.str).length (Lib.countB ⟨a.toArray⟩ ⟨b.toArray⟩ + 1)) 1 (xs.map A.str) (some w.heap.size) :=
    .mk w.heap.size 0 (Lib.countB ⟨a.toArray⟩ ⟨b.toArray⟩ + 1) 1 (xs.map A.str) (xs.map fun s => Value.string ⟨s.toArray⟩) (by simp [hxl]) (by omega) (fun x hx => by obtain ⟨s,_,rfl⟩ := List.mem_map.1 hx; rfl)
     (by rw [Z57]; exact Zzf xs) (by simpa using hcells) (by rw [Nat.mul_one,Nat.zero_add,← hxl]; exact hroom)
   have hl2 : (xs.map A.str).length = Lib.countB ⟨a.toArray⟩ ⟨b.toArray⟩ + 1 := by simp [hxl]
   rw [hl2] at hown
   have htok : ResRep φ w' K (.slice (some ⟨w.heap.size,0,none⟩) (Lib.countB ⟨a.toArray⟩ ⟨b.toArray⟩ + 1) (Lib.countB ⟨a.toArray⟩ ⟨b.toArray⟩ + 1)) (A.tok 0 1 (xs.map A.str)) [w.heap.size] :=
    .tok _ 0 1 _ (some w.heap.size) hown
   exact ResReps.cons _ _ [w.heap.size] _ _ [] htok .nil
  ·simp only [List.mem_singleton] at hc
   subst hc
   refine ⟨fun hk => absurd (hK _ hk) (Nat.lt_irrefl _),?_,Nat.le_refl _⟩
   rw [hheap]; simp
 ·cases hy
structure RdWalk (P : Program) (r p f : Nat) : Prop where
 en : Entered P r
 long : ∀ (s : ByteArray) (w : World),18 < (Lib.trimPrefix s.data.toList [45]).length →
  Calls P r #[.string s] w fun e w' => e = .returned (.tuple #[.int .i64 0,.bool false]) ∧ Below w.heap.size w w'
 bad : ∀ (s : ByteArray) (w : World),¬ 18 < (Lib.trimPrefix s.data.toList [45]).length → ∀ (m : Int) (u : TypeId),
  (Calls P p #[.string s,.int .i64 10,.int .i64 64] w fun e w' => ∃ x,e = .returned (.tuple #[.int .i64 m,.iface u x]) ∧ Below w.heap.size w w') →
  Calls P r #[.string s] w fun e w' => e = .returned (.tuple #[.int .i64 0,.bool false]) ∧ Below w.heap.size w w'
 ok : ∀ (s : ByteArray) (w : World),¬ 18 < (Lib.trimPrefix s.data.toList [45]).length → ∀ (v : Int),Lib.itoa v = s.data.toList →
  (Calls P p #[.string s,.int .i64 10,.int .i64 64] w fun e w' => e = .returned (.tuple #[.int .i64 v,.nilIface]) ∧ Below w.heap.size w w') →
  (∀ w',Below w.heap.size w w' → Calls P f #[.int .i64 v,.int .i64 10] w' fun e w'' => e = .returned (.string ⟨(Lib.itoa v).toArray⟩) ∧ Below w'.heap.size w' w'') →
  Calls P r #[.string s] w fun e w' => e = .returned (.tuple #[.int .i64 v,.bool true]) ∧ Below w.heap.size w w'
 no : ∀ (s : ByteArray) (w : World),¬ 18 < (Lib.trimPrefix s.data.toList [45]).length → ∀ (v : Int),Lib.itoa v ≠ s.data.toList →
  (Calls P p #[.string s,.int .i64 10,.int .i64 64] w fun e w' => e = .returned (.tuple #[.int .i64 v,.nilIface]) ∧ Below w.heap.size w w') →
  (∀ w',Below w.heap.size w w' → Calls P f #[.int .i64 v,.int .i64 10] w' fun e w'' => e = .returned (.string ⟨(Lib.itoa v).toArray⟩) ∧ Below w'.heap.size w' w'') →
  Calls P r #[.string s] w fun e w' => e = .returned (.tuple #[.int .i64 0,.bool false]) ∧ Below w.heap.size w w'
end
end Go.Ab
