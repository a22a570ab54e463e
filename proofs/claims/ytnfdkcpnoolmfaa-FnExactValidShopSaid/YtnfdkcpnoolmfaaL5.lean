/- Library functions: the kit's contracts as callees. Conditions: none. -/
import Derived.Test.YtnfdkcpnoolmfaaL4
import Derived.Shelf.Strconv.Itoa4
import Derived.Shelf.Strings.Prefix
import Derived.Shelf.Small.Wraps
import Derived.Shelf.Strings.Shaped
import Derived.Shelf.Strings.SplitShaped
import Derived.Shelf.Strings.Repeat
import Derived.Shelf.Strings.OnBuilder
import Derived.Shelf.Strconv.ParseIntPublic10
import Derived.WalkSmall
import Derived.Lib.SmallJoins
set_option linter.unusedVariables false
set_option linter.unusedSimpArgs false
namespace Go.Ab
open Go.Shelf Go.RowKit Go.Sort Go.Lib Go.Proofs

theorem below_grow {w : World} (k : Nat) (os : Array Obj) : Below w.heap.size w (Go.Sort.grow (w.drewN k) os) where
  os := rfl
  tape := rfl
  output := rfl
  size := by simp [Go.Sort.grow, World.drewN]
  block b hb := by
    simp only [Go.Sort.grow, World.drewN]
    rw [Array.getElem?_append_left hb]

theorem formatInt_ok {P : Program} {φ : Nat → Nat} {ρ : Ren} {g : Nat} (L : LaysM.n173 P ρ) (hg : ∃ i, P.globalNamed pow10Name = some i) (hφ : φ g = ρ.f 173) : FOk P φ g formatIntC := by
  refine FOk.of_contract ⟨_, by rw [hφ]; exact L.f173, fun h => absurd ((show (Body.n173 ρ).name = "strconv.FormatInt" from rfl).symm.trans h) (by decide), rfl⟩ rfl rfl fun x y hy0 => ?_
  obtain ⟨n, b, ⟨⟩⟩ := x
  have hy : (if decide (b = 10) && (decide (-9223372036854775808 ≤ n) && decide (n ≤ 9223372036854775807)) then some (Lib.itoa n) else none) = some y := hy0
  split at hy
  · rename_i hc
    obtain ⟨c1, c2⟩ := Bool.and_eq_true_iff.1 hc
    obtain ⟨c2, c3⟩ := Bool.and_eq_true_iff.1 c2
    obtain rfl := of_decide_eq_true c1
    have h0 := of_decide_eq_true c2
    have h1 := of_decide_eq_true c3
    obtain rfl := Option.some.inj hy
    show CallOk P φ g [A.int .i64 n, A.int .i64 10] [A.str (Lib.itoa n)] []
    have hn : ([A.int .i64 n, A.int .i64 10] : List A).any lentA = false := rfl
    refine CallOk.of_plain hn fun w K vs hr hK hG => ?_
    have hvs : vs = [.int .i64 n, .int .i64 10] := by
      cases hr with
      | cons v _ vs _ h t =>
        cases h
        cases t with
        | cons v _ vs _ h t => cases h; cases t; rfl
    subst hvs
    obtain ⟨i, hi⟩ := hg
    rw [hφ]
    refine (Any.strconv_FormatInt_10 L n h0 h1 w (hG.tab i hi).2).mono fun e w' hh => ?_
    obtain ⟨rfl, k, os, rfl⟩ := hh
    exact ⟨[_], rfl, below_grow k os, .cons _ _ _ _ (.str _) .nil⟩
  · cases hy

section
variable {P : Program} {φ : Nat → Nat} {ρ : Ren} {g : Nat}
theorem below_drewN {w : World} (k : Nat) : Below w.heap.size w (w.drewN k) := ⟨rfl, rfl, rfl, Nat.le_refl _, fun _ _ => rfl⟩
theorem reps_str2 {w : World} {K : Nat → Prop} {vs : List Value} {a b : List UInt8} (h : Reps φ w K vs [.str a, .str b]) : vs = [.string ⟨a.toArray⟩, .string ⟨b.toArray⟩] := by
  cases h with
  | cons v _ vs _ h t => cases h; cases t with | cons v _ vs _ h t => cases h; cases t; rfl
theorem reps_str_int {w : World} {K : Nat → Prop} {vs : List Value} {a : List UInt8} {k : IntKind} {n : Int} (h : Reps φ w K vs [.str a, .int k n]) : vs = [.string ⟨a.toArray⟩, .int k n] := by
  cases h with
  | cons v _ vs _ h t => cases h; cases t with | cons v _ vs _ h t => cases h; cases t; rfl
theorem maxLen_cell (hs : ∀ w : World, w.ShapedOpen P → ∃ m, w.cell? ⟨ρ.g 1, 0, none⟩ = some (.int .i64 m)) (hg : ρ.g 1 < P.globals.size) {K : Nat → Prop} {w : World} (hG : Glob P K w) :
    ∃ m, w.cell? ⟨ρ.g 1, 0, none⟩ = some (.int .i64 m) := by
  obtain ⟨W, h1, h2⟩ := hG.sh
  obtain ⟨m, hm⟩ := hs W h1
  have hlt : ρ.g 1 < W.heap.size := by
    rcases Nat.lt_or_ge (ρ.g 1) W.heap.size with h | h
    · exact h
    · simp [World.cell?, Array.getElem?_eq_none h] at hm
  exact ⟨m, (cell?_of_block (h2 _ hg hlt).2 0).trans hm⟩

theorem trimPrefix_ok (L : Lays.n101 P ρ) (hφ : φ g = ρ.f 101) : FOk P φ g trimPrefixC := by
  refine FOk.of_contract ⟨_, by rw [hφ]; exact L.f101, fun h => absurd ((show (Body.n101 ρ).name = "strings.TrimPrefix" from rfl).symm.trans h) (by decide), rfl⟩ rfl rfl fun x y hy0 => ?_
  obtain ⟨a, b, ⟨⟩⟩ := x
  have hy : some (Lib.trimPrefix a b) = some y := hy0
  obtain rfl := Option.some.inj hy
  show CallOk P φ g [A.str a, A.str b] [A.str (Lib.trimPrefix a b)] []
  have hn : ([A.str a, A.str b] : List A).any lentA = false := rfl
  refine CallOk.of_plain hn fun w K vs hr hK hG => ?_
  rw [reps_str2 hr, hφ]
  refine (Any.strings_TrimPrefix L ⟨a.toArray⟩ ⟨b.toArray⟩ w).mono fun e w' hh => ?_
  obtain ⟨rfl, rfl⟩ := hh
  exact ⟨[_], rfl, Below.refl _ _, .cons _ _ _ _ (.str _) .nil⟩
theorem hasPrefix_ok (L : Lays.n99 P ρ) (hφ : φ g = ρ.f 99) : FOk P φ g hasPrefixC := by
  refine FOk.of_contract ⟨_, by rw [hφ]; exact L.f99, fun h => absurd ((show (Body.n99 ρ).name = "strings.HasPrefix" from rfl).symm.trans h) (by decide), rfl⟩ rfl rfl fun x y hy0 => ?_
  obtain ⟨a, b, ⟨⟩⟩ := x
  have hy : some (Lib.hasPrefix a b) = some y := hy0
  obtain rfl := Option.some.inj hy
  show CallOk P φ g [A.str a, A.str b] [A.bool (Lib.hasPrefix a b)] []
  have hn : ([A.str a, A.str b] : List A).any lentA = false := rfl
  refine CallOk.of_plain hn fun w K vs hr hK hG => ?_
  rw [reps_str2 hr, hφ]
  refine (Any.strings_HasPrefix L ⟨a.toArray⟩ ⟨b.toArray⟩ w).mono fun e w' hh => ?_
  obtain ⟨rfl, rfl⟩ := hh
  exact ⟨[_], rfl, Below.refl _ _, .cons _ _ _ _ (.bool _) .nil⟩
theorem cutPrefix_ok (L : Lays.n103 P ρ) (hφ : φ g = ρ.f 103) : FOk P φ g cutPrefixC := by
  refine FOk.of_contract ⟨_, by rw [hφ]; exact L.f103, fun h => absurd ((show (Body.n103 ρ).name = "strings.CutPrefix" from rfl).symm.trans h) (by decide), rfl⟩ rfl rfl fun x y hy0 => ?_
  obtain ⟨a, b, ⟨⟩⟩ := x
  have hy : some (Lib.trimPrefix a b, Lib.hasPrefix a b) = some y := hy0
  obtain rfl := Option.some.inj hy
  show CallOk P φ g [A.str a, A.str b] [A.str (Lib.trimPrefix a b), A.bool (Lib.hasPrefix a b)] []
  have hn : ([A.str a, A.str b] : List A).any lentA = false := rfl
  refine CallOk.of_plain hn fun w K vs hr hK hG => ?_
  rw [reps_str2 hr, hφ]
  refine (Any.strings_CutPrefix L ⟨a.toArray⟩ ⟨b.toArray⟩ w).mono fun e w' hh => ?_
  obtain ⟨rfl, rfl⟩ := hh
  exact ⟨[_, _], rfl, Below.refl _ _, .cons _ _ _ _ (.str _) (.cons _ _ _ _ (.bool _) .nil)⟩
theorem cutSuffix_ok (L : Lays.n104 P ρ) (hφ : φ g = ρ.f 104) : FOk P φ g cutSuffixC := by
  refine FOk.of_contract ⟨_, by rw [hφ]; exact L.f104, fun h => absurd ((show (Body.n104 ρ).name = "strings.CutSuffix" from rfl).symm.trans h) (by decide), rfl⟩ rfl rfl fun x y hy0 => ?_
  obtain ⟨a, b, ⟨⟩⟩ := x
  have hy : (if decide (List.length (α := UInt8) a ≤ 9223372036854775807) then some (Lib.trimSuffix a b, Lib.hasSuffix a b) else none) = some y := hy0
  split at hy
  · rename_i hc
    have hl := of_decide_eq_true hc
    obtain rfl := Option.some.inj hy
    show CallOk P φ g [A.str a, A.str b] [A.str (Lib.trimSuffix a b), A.bool (Lib.hasSuffix a b)] []
    have hn : ([A.str a, A.str b] : List A).any lentA = false := rfl
    refine CallOk.of_plain hn fun w K vs hr hK hG => ?_
    rw [reps_str2 hr, hφ]
    refine (Any.strings_CutSuffix L ⟨a.toArray⟩ ⟨b.toArray⟩ w (by rw [Lib.size_eq]; exact hl)).mono fun e w' hh => ?_
    obtain ⟨rfl, rfl⟩ := hh
    exact ⟨[_, _], rfl, Below.refl _ _, .cons _ _ _ _ (.str _) (.cons _ _ _ _ (.bool _) .nil)⟩
  · cases hy
theorem cut_ok (L : LaysM.n145 P ρ) (hg : ρ.g 1 < P.globals.size) (hφ : φ g = ρ.f 145) : FOk P φ g cutC := by
  refine FOk.of_contract ⟨_, by rw [hφ]; exact L.f145, fun h => absurd ((show (Body.n145 ρ).name = "strings.Cut" from rfl).symm.trans h) (by decide), rfl⟩ rfl rfl fun x y hy0 => ?_
  obtain ⟨a, b, ⟨⟩⟩ := x
  have hy : (if decide (List.length (α := UInt8) a < 4294967281) then some (Lib.cut a b) else none) = some y := hy0
  split at hy
  · rename_i hc
    have hl := of_decide_eq_true hc
    obtain rfl := Option.some.inj hy
    show CallOk P φ g [A.str a, A.str b] [A.str (Lib.cut a b).1, A.str (Lib.cut a b).2.1, A.bool (Lib.cut a b).2.2] []
    have hn : ([A.str a, A.str b] : List A).any lentA = false := rfl
    refine CallOk.of_plain hn fun w K vs hr hK hG => ?_
    rw [reps_str2 hr, hφ]
    obtain ⟨m, hm⟩ := maxLen_cell L.s1_3 hg hG
    refine (Any.strings_Cut { L with } ⟨a.toArray⟩ ⟨b.toArray⟩ m w (by rw [Lib.size_eq]; exact hl) hm).mono fun e w' hh => ?_
    obtain ⟨rfl, k, rfl⟩ := hh
    exact ⟨[_, _, _], rfl, below_drewN k, .cons _ _ _ _ (.str _) (.cons _ _ _ _ (.str _) (.cons _ _ _ _ (.bool _) .nil))⟩
  · cases hy
theorem repeat_ok (L : Lays.n105 P ρ) (X : Builder.Extra P ρ) (hφ : φ g = ρ.f 105) : FOk P φ g repeatC := by
  refine FOk.of_contract ⟨_, by rw [hφ]; exact L.f105, fun h => absurd ((show (Body.n105 ρ).name = "strings.Repeat" from rfl).symm.trans h) (by decide), rfl⟩ rfl rfl fun x y hy0 => ?_
  obtain ⟨a, n, ⟨⟩⟩ := x
  have hy : (if decide (0 ≤ n) && (decide (n ≤ 9223372036854775807) && decide (List.length (α := UInt8) a * n.toNat ≤ 140737488355328)) then some (Lib.repeatL a n.toNat) else none) = some y := hy0
  split at hy
  · rename_i hc
    obtain ⟨c1, c2⟩ := Bool.and_eq_true_iff.1 hc
    obtain ⟨c2, c3⟩ := Bool.and_eq_true_iff.1 c2
    have h0 : (0 : Int) ≤ n := of_decide_eq_true c1
    have h1 : (n : Int) ≤ 9223372036854775807 := of_decide_eq_true c2
    have h2 := of_decide_eq_true c3
    obtain rfl := Option.some.inj hy
    show CallOk P φ g [A.str a, A.int .i64 n] [A.str (Lib.repeatL a n.toNat)] []
    have hn : ([A.str a, A.int .i64 n] : List A).any lentA = false := rfl
    refine CallOk.of_plain hn fun w K vs hr hK hG => ?_
    rw [reps_str_int hr, hφ]
    obtain ⟨c, rfl⟩ : ∃ c : Nat, n = (c : Int) := ⟨n.toNat, (Int.toNat_of_nonneg h0).symm⟩
    rw [Int.toNat_natCast] at h2
    refine (Any.strings_Repeat L X ⟨a.toArray⟩ c w (by have := Int.ofNat_le.1 (show ((c : Nat) : Int) ≤ ((9223372036854775807 : Nat) : Int) from h1); exact this) (by rw [Lib.size_eq]; exact h2)).mono fun e w' hh => ?_
    obtain ⟨rfl, hb⟩ := hh
    exact ⟨[_], rfl, hb, .cons _ _ _ _ (.str _) .nil⟩
  · cases hy
theorem reps_strs {w : World} {K : Nat → Prop} : ∀ (xs : List (List UInt8)), Reps φ w K (xs.map fun s => Value.string ⟨s.toArray⟩) (xs.map A.str)
  | [] => .nil
  | s :: xs => .cons _ _ _ _ (.str s) (reps_strs xs)
theorem flat_strs (xs : List (List UInt8)) : (xs.map A.str).flatMap A.cells = xs.map A.str := by
  induction xs with
  | nil => rfl
  | cons s xs ih => rw [List.map_cons, List.flatMap_cons, ih]; rfl
theorem split_ok (L : LaysM.n146 P ρ) (hg : ρ.g 1 < P.globals.size) (hφ : φ g = ρ.f 146) : FOk P φ g splitC := by
  refine FOk.of_contract ⟨_, by rw [hφ]; exact L.f146, fun h => absurd ((show (Body.n146 ρ).name = "strings.Split" from rfl).symm.trans h) (by decide), rfl⟩ rfl rfl fun x y hy0 => ?_
  obtain ⟨a, b, ⟨⟩⟩ := x
  have hy : (if decide (List.length (α := UInt8) a < 4294967281) && decide (1 ≤ List.length (α := UInt8) b) then some (Lib.splitK b 0 (Lib.count a b) a) else none) = some y := hy0
  split at hy
  · rename_i hc
    obtain ⟨c1, c2⟩ := Bool.and_eq_true_iff.1 hc
    have h0 := of_decide_eq_true c1
    have h1 := of_decide_eq_true c2
    obtain rfl := Option.some.inj hy
    show CallOk P φ g [A.str a, A.str b] [A.tok 0 1 ((Lib.splitK b 0 (Lib.count a b) a).map A.str)] []
    have hn : ([A.str a, A.str b] : List A).any lentA = false := rfl
    refine CallOk.of_below hn fun w K vs hr hK hG => ?_
    rw [reps_str2 hr, hφ]
    obtain ⟨m, hm⟩ := maxLen_cell L.s1_3 hg hG
    refine (Any.strings_Split { L with } L.i9 ⟨a.toArray⟩ ⟨b.toArray⟩ m w (by rw [Lib.size_eq]; exact h0) hm (by rw [Lib.size_eq]; exact h1)).mono fun e w' hh => ?_
    obtain ⟨rfl, hw⟩ := hh
    have hlen := Lib.splitB_all ⟨b.toArray⟩ (by rw [Lib.size_eq]; exact h1) 0 _ (⟨a.toArray⟩ : ByteArray) rfl
    have hd := Lib.splitB_data ⟨b.toArray⟩ 0 (Lib.countB ⟨a.toArray⟩ ⟨b.toArray⟩) (⟨a.toArray⟩ : ByteArray)
    have hd : (Lib.splitB ⟨b.toArray⟩ 0 (Lib.countB ⟨a.toArray⟩ ⟨b.toArray⟩) ⟨a.toArray⟩).map (fun x : ByteArray => x.data.toList) = Lib.splitK b 0 (Lib.count a b) a := hd
    generalize hxs : Lib.splitK b 0 (Lib.count a b) a = xs at hd ⊢
    generalize Lib.splitB ⟨b.toArray⟩ 0 (Lib.countB ⟨a.toArray⟩ ⟨b.toArray⟩) ⟨a.toArray⟩ = bs at hd hw hlen
    have hxl : xs.length = Lib.countB ⟨a.toArray⟩ ⟨b.toArray⟩ + 1 := by rw [← hd, List.length_map, hlen]
    have hcs : bs.map Value.string = xs.map fun s => Value.string ⟨s.toArray⟩ := by
      rw [← hd, List.map_map]
      exact List.map_congr_left fun x _ => by simp
    have hheap : w'.heap = w.heap.push (.cells (xs.map fun s => Value.string ⟨s.toArray⟩).toArray (ρ.t 9)) := by rw [hw, hcs]; rfl
    have henv : w'.os = w.os ∧ w'.output = w.output := by rw [hw]; exact ⟨rfl, rfl⟩
    have hext := ext_push hheap henv
    have htape : w'.tape = w.tape := by rw [hw]; rfl
    refine ⟨[_], K, [w.heap.size], rfl, ⟨henv.1, htape, henv.2, hext.size, fun k hk => hext.same k hk⟩, fun _ h => h, fun b h => .inl h, ?_, by simp, fun c hc => ?_⟩
    · have hsz : (xs.map fun s => Value.string ⟨s.toArray⟩).toArray.size = xs.length := by simp
      have hroom := room_push hheap
      rw [hsz] at hroom
      have hcells := cells_push hheap
      have hown : OwnRep φ w' K (.slice (some ⟨w.heap.size, 0, none⟩) (xs.map A.str).length (Lib.countB ⟨a.toArray⟩ ⟨b.toArray⟩ + 1)) 1 (xs.map A.str) (some w.heap.size) :=
        .mk w.heap.size 0 (Lib.countB ⟨a.toArray⟩ ⟨b.toArray⟩ + 1) 1 (xs.map A.str) (xs.map fun s => Value.string ⟨s.toArray⟩) (by simp [hxl]) (by omega) (fun x hx => by obtain ⟨s, _, rfl⟩ := List.mem_map.1 hx; rfl)
          (by rw [flat_strs]; exact reps_strs xs) (by simpa using hcells) (by rw [Nat.mul_one, Nat.zero_add, ← hxl]; exact hroom)
      have hl2 : (xs.map A.str).length = Lib.countB ⟨a.toArray⟩ ⟨b.toArray⟩ + 1 := by simp [hxl]
      rw [hl2] at hown
      have htok : ResRep φ w' K (.slice (some ⟨w.heap.size, 0, none⟩) (Lib.countB ⟨a.toArray⟩ ⟨b.toArray⟩ + 1) (Lib.countB ⟨a.toArray⟩ ⟨b.toArray⟩ + 1)) (A.tok 0 1 (xs.map A.str)) [w.heap.size] :=
        .tok _ 0 1 _ (some w.heap.size) hown (by rw [List.all_map]; exact List.all_eq_true.2 fun _ _ => rfl)
      exact ResReps.cons _ _ [w.heap.size] _ _ [] htok .nil
    · simp only [List.mem_singleton] at hc
      subst hc
      refine ⟨fun hk => absurd (hK _ hk) (Nat.lt_irrefl _), ?_, Nat.le_refl _⟩
      rw [hheap]; simp
  · cases hy
theorem join_ok (L : Lays.n156 P ρ) (X : Builder.Extra P ρ) (hφ : φ g = ρ.f 156) : FOk P φ g joinC := by
  refine FOk.of_contract ⟨_, by rw [hφ]; exact L.f156, fun h => absurd ((show (Body.n156 ρ).name = "strings.Join" from rfl).symm.trans h) (by decide), rfl⟩ rfl rfl fun x y hy0 => ?_
  obtain ⟨xs, b, ⟨⟩⟩ := x
  have hy : (if decide (List.length (α := List UInt8) xs ≤ 140737488355328) && decide ((Lib.join xs b).length ≤ 140737488355328) then some (Lib.join xs b) else none) = some y := hy0
  split at hy
  · rename_i hc
    obtain ⟨c1, c2⟩ := Bool.and_eq_true_iff.1 hc
    have h0 := of_decide_eq_true c1
    have h1 := of_decide_eq_true c2
    obtain rfl := Option.some.inj hy
    show CallOk P φ g [A.sl 1 (xs.map A.str), A.str b] [A.str (Lib.join xs b)] []
    have hn : ([A.sl 1 (xs.map A.str), A.str b] : List A).any lentA = false := rfl
    refine CallOk.of_plain hn fun w K vs hr hK hG => ?_
    rw [hφ]
    cases hr with
    | cons v _ vs _ hv t =>
      cases t with
      | cons u _ us _ hu t =>
        cases t
        cases hu
        generalize hys : xs.map A.str = ys at hv
        cases hv with
        | slE ad cap z =>
          have : xs = [] := by cases xs with | nil => rfl | cons => simp at hys
          subst this
          refine (Any.strings_Join_none L X ad cap ⟨b.toArray⟩ w).mono fun e w' hh => ?_
          obtain ⟨rfl, rfl⟩ := hh
          exact ⟨[_], rfl, Below.refl _ _, .cons _ _ _ _ (.str _) .nil⟩
        | sl bk o cap z _ cs hb hz hcap h hv' =>
          subst hys
          rw [flat_strs] at h
          have hcs : cs = xs.map fun s => Value.string ⟨s.toArray⟩ := by
            clear hv' hcap hz h0 h1 c1 c2 hc hn hy hy0
            induction xs generalizing cs with
            | nil => cases h; rfl
            | cons s xs ih =>
              cases h with
              | cons v _ vs _ h t => cases h; rw [ih _ t, List.map_cons]
          subst hcs
          have hle : ((xs.map fun s => (⟨s.toArray⟩ : ByteArray)).map fun x => x.data.toList) = xs := by
            rw [List.map_map]; conv => rhs; rw [← List.map_id xs]
            exact List.map_congr_left fun x _ => by simp
          have hc := Any.strings_Join L X bk o cap (xs.map fun s => (⟨s.toArray⟩ : ByteArray)) ⟨b.toArray⟩ w (fun j x hx => by
            rw [List.getElem?_map] at hx
            obtain ⟨s, hs, rfl⟩ := Option.map_eq_some_iff.1 hx
            exact hv' j _ (by rw [List.getElem?_map, hs]; rfl)) (hK bk hb) (by simpa using h0) (by simpa using hcap) (by rw [hle]; exact h1)
          rw [hle] at hc
          have hl : (xs.map A.str).length = (xs.map fun s => (⟨s.toArray⟩ : ByteArray)).length := by simp
          rw [hl]
          refine hc.mono fun e w' hh => ?_
          obtain ⟨rfl, hbw⟩ := hh
          exact ⟨[_], rfl, hbw, .cons _ _ _ _ (.str _) .nil⟩
  · cases hy
theorem reps_str1 {w : World} {K : Nat → Prop} {vs : List Value} {a : List UInt8} (h : Reps φ w K vs [.str a]) : vs = [.string ⟨a.toArray⟩] := by
  cases h with
  | cons v _ vs _ h t => cases h; cases t; rfl
/-- What a walk through ReadDecimal shows, case by case (p: ParseInt, f: FormatInt). -/
structure RdWalk (P : Program) (r p f : Nat) : Prop where
  en : Entered P r
  long : ∀ (s : ByteArray) (w : World), 18 < (Lib.trimPrefix s.data.toList [45]).length →
    Calls P r #[.string s] w fun e w' => e = .returned (.tuple #[.int .i64 0, .bool false]) ∧ Below w.heap.size w w'
  bad : ∀ (s : ByteArray) (w : World), ¬ 18 < (Lib.trimPrefix s.data.toList [45]).length → ∀ (m : Int) (u : TypeId),
    (Calls P p #[.string s, .int .i64 10, .int .i64 64] w fun e w' => ∃ x, e = .returned (.tuple #[.int .i64 m, .iface u x]) ∧ Below w.heap.size w w') →
    Calls P r #[.string s] w fun e w' => e = .returned (.tuple #[.int .i64 0, .bool false]) ∧ Below w.heap.size w w'
  ok : ∀ (s : ByteArray) (w : World), ¬ 18 < (Lib.trimPrefix s.data.toList [45]).length → ∀ (v : Int), Lib.itoa v = s.data.toList →
    (Calls P p #[.string s, .int .i64 10, .int .i64 64] w fun e w' => e = .returned (.tuple #[.int .i64 v, .nilIface]) ∧ Below w.heap.size w w') →
    (∀ w', Below w.heap.size w w' → Calls P f #[.int .i64 v, .int .i64 10] w' fun e w'' => e = .returned (.string ⟨(Lib.itoa v).toArray⟩) ∧ Below w'.heap.size w' w'') →
    Calls P r #[.string s] w fun e w' => e = .returned (.tuple #[.int .i64 v, .bool true]) ∧ Below w.heap.size w w'
  no : ∀ (s : ByteArray) (w : World), ¬ 18 < (Lib.trimPrefix s.data.toList [45]).length → ∀ (v : Int), Lib.itoa v ≠ s.data.toList →
    (Calls P p #[.string s, .int .i64 10, .int .i64 64] w fun e w' => e = .returned (.tuple #[.int .i64 v, .nilIface]) ∧ Below w.heap.size w w') →
    (∀ w', Below w.heap.size w w' → Calls P f #[.int .i64 v, .int .i64 10] w' fun e w'' => e = .returned (.string ⟨(Lib.itoa v).toArray⟩) ∧ Below w'.heap.size w' w'') →
    Calls P r #[.string s] w fun e w' => e = .returned (.tuple #[.int .i64 0, .bool false]) ∧ Below w.heap.size w w'
theorem trim_short {l : List UInt8} (h : ¬ 18 < (Lib.trimPrefix l [45]).length) : l.length ≤ 19 := by
  unfold Lib.trimPrefix at h
  split at h
  · simp at h; omega
  · omega
theorem readDecimal_ok {ρ' : Ren} {r : Nat} (L : LaysC.n174 P ρ) (L' : LaysM.n173 P ρ') (hg : ∃ i, P.globalNamed pow10Name = some i)
    (h15 : P.globalNamed "strconv.ErrSyntax" = some (ρ.g 15)) (h16 : P.globalNamed "strconv.ErrRange" = some (ρ.g 16))
    (h : RdWalk P r (ρ.f 174) (ρ'.f 173)) (hφ : φ g = r) : FOk P φ g readDecC := by
  refine FOk.of_contract (by rw [hφ]; exact h.en) rfl rfl fun x y hy0 => ?_
  obtain ⟨a, ⟨⟩⟩ := x
  have hy : some (readDecP a) = some y := hy0
  obtain rfl := Option.some.inj hy
  show CallOk P φ g [A.str a] [A.int .i64 (readDecP a).1, A.bool (readDecP a).2] []
  have hn : ([A.str a] : List A).any lentA = false := rfl
  refine CallOk.of_plain hn fun w K vs hr hK hG => ?_
  rw [reps_str1 hr, hφ]
  obtain ⟨i, hi⟩ := hg
  have htab := (hG.tab i hi).2
  have hlt : i < w.heap.size := hK _ (hG.tab i hi).1
  have fin : ∀ (n : Int) (b : Bool), (Calls P r #[.string ⟨a.toArray⟩] w fun e w' => e = .returned (.tuple #[.int .i64 n, .bool b]) ∧ Below w.heap.size w w') →
      Calls P r #[.string ⟨a.toArray⟩] w fun e w' => ∃ rvs, e = .returned (packV rvs) ∧ Below w.heap.size w w' ∧ Reps φ w (fun _ => False) rvs [A.int .i64 n, A.bool b] := fun n b hc =>
    hc.mono fun e w' hh => ⟨[_, _], hh.1, hh.2, .cons _ _ _ _ (.int _ _) (.cons _ _ _ _ (.bool _) .nil)⟩
  have e1 : (⟨a.toArray⟩ : ByteArray).data.toList = a := rfl
  unfold readDecP
  split
  · rename_i hl
    exact fin _ _ (h.long ⟨a.toArray⟩ w hl)
  · rename_i hl
    have hs : (⟨a.toArray⟩ : ByteArray).size ≤ 19 := by rw [Lib.size_eq]; exact trim_short hl
    split
    · rename_i v hv
      have hb := Lib.parseIntB_bounds hv
      have e : ((2 ^ (64 - 1) : Nat) : Int) = 9223372036854775808 := by decide
      rw [e] at hb
      have hb1 : -9223372036854775808 ≤ v := hb.1
      have hb2 : v ≤ 9223372036854775807 := by have := hb.2; omega
      have hP : Calls P (ρ.f 174) #[.string ⟨a.toArray⟩, .int .i64 10, .int .i64 64] w fun e w' => e = .returned (.tuple #[.int .i64 v, .nilIface]) ∧ Below w.heap.size w w' :=
        (Any.strconv_ParseInt_10_at64_ok L ⟨a.toArray⟩ (by omega) v hv w).mono fun e w' hh => ⟨hh.1, by
          rcases hh.2 with rfl | ⟨t, rfl⟩
          · exact Below.refl _ _
          · exact Lib.bytesWorld_below _ _ _⟩
      have hF : ∀ w', Below w.heap.size w w' → Calls P (ρ'.f 173) #[.int .i64 v, .int .i64 10] w' fun e w'' => e = .returned (.string ⟨(Lib.itoa v).toArray⟩) ∧ Below w'.heap.size w' w'' := fun w' hw =>
        (Any.strconv_FormatInt_10 L' v hb1 hb2 w' (Go.Joins.tab_stays hi htab hw (Nat.le_refl _))).mono fun e w'' hh => by
          obtain ⟨rfl, k, os, rfl⟩ := hh
          exact ⟨rfl, below_grow k os⟩
      split
      · rename_i hc
        exact fin _ _ (h.ok ⟨a.toArray⟩ w hl v hc hP hF)
      · rename_i hc
        exact fin _ _ (h.no ⟨a.toArray⟩ w hl v hc hP hF)
    · rename_i hv
      cases hp : Lib.parseIntB 64 a with
      | ok v => exact absurd hp (hv v)
      | range =>
        obtain ⟨u, x, hx⟩ := (hG.err "strconv.ErrRange" (by decide) _ h16).2
        have hc := (World.var?_cell h16 hx 0).trans (show (#[Value.iface u x] : Array Value)[0]? = some (.iface u x) from rfl)
        exact fin _ _ (h.bad ⟨a.toArray⟩ w hl _ _ ((Any.strconv_ParseInt_10_at64_range L ⟨a.toArray⟩ (by omega) hp _ w hc (.inr ⟨_, _, rfl⟩)).mono fun e w' hh => by
          obtain ⟨N, rfl, _, _, hb⟩ := hh
          exact ⟨_, rfl, hb⟩))
      | _ =>
        obtain ⟨u, x, hx⟩ := (hG.err "strconv.ErrSyntax" (by decide) _ h15).2
        have hc := (World.var?_cell h15 hx 0).trans (show (#[Value.iface u x] : Array Value)[0]? = some (.iface u x) from rfl)
        exact fin _ _ (h.bad ⟨a.toArray⟩ w hl 0 _ ((Any.strconv_ParseInt_10_at64_syntax L ⟨a.toArray⟩ (by omega) hp _ w hc (.inr ⟨_, _, rfl⟩)).mono fun e w' hh => by
          obtain ⟨N, rfl, _, _, hb⟩ := hh
          exact ⟨_, rfl, hb⟩))
end
end Go.Ab

