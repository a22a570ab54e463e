/- SameDesk of the program and of the reference are equal. Conditions: numbers and lengths are those of their kinds. -/
import Derived.Test.YtdejhkhdilcadaaBFnExactSameDesk
set_option linter.unusedVariables false
set_option linter.unusedSimpArgs false
namespace Go.Ab.P
open Go.Ab

def lenEq {α : Type} (a b : List α) : Bool := ((a.length : Int) == (b.length : Int))
def sameGo {α : Type} (c : α → α → Bool) : List α → List α → Bool
  | [], _ => true
  | _ :: _, [] => true
  | x :: xs, y :: ys => c x y && sameGo c xs ys
def sameL {α : Type} (c : α → α → Bool) (a b : List α) : Bool := lenEq a b && sameGo c a b
theorem sameLoop {α β : Type} (a b : List α) (c : α → α → Option Bool) (cb : α → α → Bool) (p0 : Int → Option β) (bad last : Option β)
    (heq : ∀ i : Int, p0 i = if decide (i < (a.length : Int)) then (if decide (0 ≤ i) then (a[i.toNat]?).bind fun x1 => if decide (0 ≤ i) then (b[i.toNat]?).bind fun x2 => (c x1 x2).bind fun x3 => if (!x3) then bad else p0 (IntKind.i64.wrap (i + 1)) else none else none) else last)
    (hab : a.length = b.length) (hs : a.length ≤ 1048576) (h1 : ∀ x, x ∈ a → ∀ y, y ∈ b → c x y = some (cb x y)) :
    ∀ (k i : Nat), i + k = a.length → p0 i = if sameGo cb (a.drop i) (b.drop i) then last else bad
  | 0, i, hk => by
    rw [heq, List.drop_eq_nil_of_le (by omega)]
    have : ¬ (i : Int) < (a.length : Int) := by omega
    simp [this, sameGo]
  | k + 1, i, hk => by
    have hi : i < a.length := by omega
    have hi' : i < b.length := by omega
    have hlt : (i : Int) < (a.length : Int) := by omega
    have hw : IntKind.i64.wrap ((i : Int) + 1) = ((i + 1 : Nat) : Int) := by rw [w64 (by omega) (by omega)]; omega
    have ih := sameLoop a b c cb p0 bad last heq hab hs h1 k (i + 1) (by omega)
    rw [heq, List.drop_eq_getElem_cons hi, List.drop_eq_getElem_cons hi']
    simp only [hlt, decide_true, if_true, Int.natCast_nonneg, Int.toNat_natCast, List.getElem?_eq_getElem hi, List.getElem?_eq_getElem hi', Option.bind_some, h1 a[i] (List.getElem_mem hi) b[i] (List.getElem_mem hi'), hw, ih, sameGo]
    by_cases hcb : cb a[i] b[i] = true
    · simp [hcb]
    · simp [hcb]
theorem sameAll {α : Type} (a b : List α) (c : α → α → Option Bool) (cb : α → α → Bool) (p0 : Int → Option Bool) (S : Option Bool)
    (hS : S = if ((a.length : Int) != (b.length : Int)) then some false else p0 0)
    (heq : ∀ i : Int, p0 i = if decide (i < (a.length : Int)) then (if decide (0 ≤ i) then (a[i.toNat]?).bind fun x1 => if decide (0 ≤ i) then (b[i.toNat]?).bind fun x2 => (c x1 x2).bind fun x3 => if (!x3) then some false else p0 (IntKind.i64.wrap (i + 1)) else none else none) else some true)
    (hs : a.length ≤ 1048576) (h1 : ∀ x, x ∈ a → ∀ y, y ∈ b → c x y = some (cb x y)) : S = some (sameL cb a b) := by
  rw [hS, sameL, lenEq]
  by_cases h : a.length = b.length
  · have := sameLoop a b c cb p0 (some false) (some true) heq h hs h1 a.length 0 (by omega)
    simp only [Int.ofNat_zero, Int.natCast_zero, List.drop_zero] at this
    rw [this, h]
    simp only [bne_self_eq_false, Bool.false_eq_true, if_false, beq_self_eq_true, Bool.true_and]
    cases sameGo cb a b <;> simp
  · have h' : ¬ (a.length : Int) = (b.length : Int) := by omega
    simp [bne, h']
def pegSame (x y : T_Peg.ty) : Bool := (x.1 == y.1) && ((x.2.1 == y.2.1) && ((x.2.2.1 == y.2.2.1) && (x.2.2.2.1 == y.2.2.2.1)))
def modeSame (x y : T_Mode.ty) : Bool := (x.1 == y.1) && ((x.2.1 == y.2.1) && (x.2.2.1 == y.2.2.1))
def potSame (x y : T_Pot.ty) : Bool := (x.1 == y.1) && ((x.2.1 == y.2.1) && ((x.2.2.1 == y.2.2.1) && ((x.2.2.2.1 == y.2.2.2.1) && (x.2.2.2.2.1 == y.2.2.2.2.1))))
def paperSame (x y : T_Paper.ty) : Bool := (x.1 == y.1) && ((x.2.1 == y.2.1) && ((x.2.2.1 == y.2.2.1) && ((x.2.2.2.1 == y.2.2.2.1) && (x.2.2.2.2.1 == y.2.2.2.2.1))))
def intSame (x y : Int) : Bool := x == y
theorem impl_same_Stack_ok (a b : List T_Peg.ty) (hs : a.length ≤ 1048576) : impl_same_impl_Stack_ a b = some (sameL pegSame a b) :=
  sameAll a b (fun x y => some (pegSame x y)) pegSame (fun i => impl_same_impl_Stack__p0 a b a.length i) _ (impl_same_impl_Stack__eq a b) (fun i => impl_same_impl_Stack__p0_eq a b a.length i) hs (fun _ _ _ _ => rfl)
theorem impl_same_Peg_ok (a b : List T_Peg.ty) (hs : a.length ≤ 1048576) : impl_same_impl_Peg_ a b = some (sameL pegSame a b) :=
  sameAll a b (fun x y => some (pegSame x y)) pegSame (fun i => impl_same_impl_Peg__p0 a b a.length i) _ (impl_same_impl_Peg__eq a b) (fun i => impl_same_impl_Peg__p0_eq a b a.length i) hs (fun _ _ _ _ => rfl)
theorem impl_same_Work_ok (a b : List T_Peg.ty) (hs : a.length ≤ 1048576) : impl_same_impl_Work_ a b = some (sameL pegSame a b) :=
  sameAll a b (fun x y => some (pegSame x y)) pegSame (fun i => impl_same_impl_Work__p0 a b a.length i) _ (impl_same_impl_Work__eq a b) (fun i => impl_same_impl_Work__p0_eq a b a.length i) hs (fun _ _ _ _ => rfl)
theorem impl_same_Rib_ok (a b : List T_Mode.ty) (hs : a.length ≤ 1048576) : impl_same_impl_Rib_ a b = some (sameL modeSame a b) :=
  sameAll a b (fun x y => some (modeSame x y)) modeSame (fun i => impl_same_impl_Rib__p0 a b a.length i) _ (impl_same_impl_Rib__eq a b) (fun i => impl_same_impl_Rib__p0_eq a b a.length i) hs (fun _ _ _ _ => rfl)
theorem impl_same_Mode_ok (a b : List T_Mode.ty) (hs : a.length ≤ 1048576) : impl_same_impl_Mode_ a b = some (sameL modeSame a b) :=
  sameAll a b (fun x y => some (modeSame x y)) modeSame (fun i => impl_same_impl_Mode__p0 a b a.length i) _ (impl_same_impl_Mode__eq a b) (fun i => impl_same_impl_Mode__p0_eq a b a.length i) hs (fun _ _ _ _ => rfl)
theorem impl_same_Pot_ok (a b : List T_Pot.ty) (hs : a.length ≤ 1048576) : impl_same_impl_Pot_ a b = some (sameL potSame a b) :=
  sameAll a b (fun x y => some (potSame x y)) potSame (fun i => impl_same_impl_Pot__p0 a b a.length i) _ (impl_same_impl_Pot__eq a b) (fun i => impl_same_impl_Pot__p0_eq a b a.length i) hs (fun _ _ _ _ => rfl)
theorem impl_same_Paper_ok (a b : List T_Paper.ty) (hs : a.length ≤ 1048576) : impl_same_impl_Paper_ a b = some (sameL paperSame a b) :=
  sameAll a b (fun x y => some (paperSame x y)) paperSame (fun i => impl_same_impl_Paper__p0 a b a.length i) _ (impl_same_impl_Paper__eq a b) (fun i => impl_same_impl_Paper__p0_eq a b a.length i) hs (fun _ _ _ _ => rfl)
theorem impl_same_int64_ok (a b : List Int) (hs : a.length ≤ 1048576) : impl_same_int64_ a b = some (sameL intSame a b) :=
  sameAll a b (fun x y => some (intSame x y)) intSame (fun i => impl_same_int64__p0 a b a.length i) _ (impl_same_int64__eq a b) (fun i => impl_same_int64__p0_eq a b a.length i) hs (fun _ _ _ _ => rfl)
theorem spec_l00Same_ok (a b : List Int) (hs : a.length ≤ 1048576) : spec_l00Same a b = some (sameL intSame a b) :=
  sameAll a b (fun x y => some (intSame x y)) intSame (fun i => spec_l00Same_p0 a b i) _ (spec_l00Same_eq a b) (fun i => spec_l00Same_p0_eq a b i) hs (fun _ _ _ _ => rfl)
theorem impl_same_plate_ok (a b : List (List Int)) (hs : a.length ≤ 1048576) (ha : ∀ x, x ∈ a → x.length ≤ 1048576) :
    slices_EqualFunc_____int64_____int64___int64___int64__impl_same_int64_ a b () = some (sameL (sameL intSame) a b) :=
  sameAll a b impl_same_int64_ (sameL intSame) (fun i => slices_EqualFunc_____int64_____int64___int64___int64__impl_same_int64__p0 b a a.length i) _ (slices_EqualFunc_____int64_____int64___int64___int64__impl_same_int64__eq a b ()) (fun i => slices_EqualFunc_____int64_____int64___int64___int64__impl_same_int64__p0_eq b a a.length i) hs (fun x hx y _ => impl_same_int64_ok x y (ha x hx))
theorem sameDesk (x y : T_Desk.ty) (hx : deskSmall x) : ∃ b, spec_SameDesk x y = some b ∧ impl_SameDesk x y = some b := by
  obtain ⟨a1, a2, a3, d1, d2, d3, d4, a4, a5, a6, a7, a8, ⟨⟩⟩ := x
  obtain ⟨b1, b2, b3, e1, e2, e3, e4, b4, b5, b6, b7, b8, ⟨⟩⟩ := y
  obtain ⟨h1, h2, h3, h4, h5, h6, h7, h8⟩ := hx
  obtain ⟨h1, -⟩ := h1
  obtain ⟨h2, -⟩ := h2
  obtain ⟨h3, h3'⟩ := h3
  obtain ⟨h4, -⟩ := h4
  obtain ⟨h5, -⟩ := h5
  obtain ⟨h6, -⟩ := h6
  obtain ⟨h7, -⟩ := h7
  obtain ⟨h8, -⟩ := h8
  simp only at h1 h2 h3 h3' h4 h5 h6 h7 h8
  have i1 := impl_same_Stack_ok a1 b1 h1
  have i2 := impl_same_Rib_ok a2 b2 h2
  have i3 := impl_same_plate_ok a3 b3 h3 h3'
  have i4 := impl_same_Peg_ok a4 b4 h4
  have i5 := impl_same_Pot_ok a5 b5 h5
  have i6 := impl_same_Mode_ok a6 b6 h6
  have i7 := impl_same_Work_ok a7 b7 h7
  have i8 := impl_same_Paper_ok a8 b8 h8
  have I : impl_SameDesk (a1, a2, a3, d1, d2, d3, d4, a4, a5, a6, a7, a8, ()) (b1, b2, b3, e1, e2, e3, e4, b4, b5, b6, b7, b8, ()) = some (sameL pegSame a1 b1 && (sameL modeSame a2 b2 && (sameL (sameL intSame) a3 b3 && (((d1 == e1) && ((d2 == e2) && ((d3 == e3) && (d4 == e4)))) && (sameL pegSame a4 b4 && (sameL potSame a5 b5 && (sameL modeSame a6 b6 && (sameL pegSame a7 b7 && sameL paperSame a8 b8)))))))) := by
    rw [impl_SameDesk_eq]
    simp only [i1, i2, i3, i4, i5, i6, i7, i8, Option.bind_some]
    generalize ((d1 == e1) && ((d2 == e2) && ((d3 == e3) && (d4 == e4)))) = N
    generalize sameL pegSame a1 b1 = s1
    generalize sameL modeSame a2 b2 = s2
    generalize sameL (sameL intSame) a3 b3 = s3
    generalize sameL pegSame a4 b4 = s4
    generalize sameL potSame a5 b5 = s5
    generalize sameL modeSame a6 b6 = s6
    generalize sameL pegSame a7 b7 = s7
    generalize sameL paperSame a8 b8 = s8
    cases s1
    · rfl
    cases s2
    · rfl
    cases s3
    · rfl
    cases N
    · rfl
    cases s4
    · rfl
    cases s5
    · rfl
    cases s6
    · rfl
    cases s7 <;> rfl
  refine ⟨_, ?_, I⟩
  have L : spec_l32Lists (a1, a2, a3, d1, d2, d3, d4, a4, a5, a6, a7, a8, ()) (b1, b2, b3, e1, e2, e3, e4, b4, b5, b6, b7, b8, ()) = some (lenEq a1 b1 && (lenEq a2 b2 && (lenEq a3 b3 && (lenEq a4 b4 && (lenEq a5 b5 && (lenEq a6 b6 && (lenEq a7 b7 && lenEq a8 b8))))))) := by
    rw [spec_l32Lists_eq]
    show (if lenEq a1 b1 = true then if lenEq a2 b2 = true then if lenEq a3 b3 = true then if lenEq a4 b4 = true then if lenEq a5 b5 = true then if lenEq a6 b6 = true then if lenEq a7 b7 = true then some (lenEq a8 b8) else some false else some false else some false else some false else some false else some false else some false) = _
    cases lenEq a1 b1
    · rfl
    cases lenEq a2 b2
    · rfl
    cases lenEq a3 b3
    · rfl
    cases lenEq a4 b4
    · rfl
    cases lenEq a5 b5
    · rfl
    cases lenEq a6 b6
    · rfl
    cases lenEq a7 b7 <;> rfl
  rw [spec_SameDesk_eq, L, Option.bind_some]
  simp only
  cases l1 : lenEq a1 b1
  · simp [sameL, l1]
  cases l2 : lenEq a2 b2
  · simp [sameL, l2]
  cases l3 : lenEq a3 b3
  · simp [sameL, l3]
  cases l4 : lenEq a4 b4
  · simp [sameL, l4]
  cases l5 : lenEq a5 b5
  · simp [sameL, l5]
  cases l6 : lenEq a6 b6
  · simp [sameL, l6]
  cases l7 : lenEq a7 b7
  · simp [sameL, l7]
  cases l8 : lenEq a8 b8
  · simp [sameL, l8]
  have toN {α : Type} (a b : List α) (h : lenEq a b = true) : a.length = b.length := by
    rw [lenEq, beq_iff_eq] at h; omega
  have z8 := sameLoop a8 b8 (fun x y => some (paperSame x y)) paperSame (fun i => spec_SameDesk_p8 i a1 a2 a3 d1 d2 d3 d4 a4 a5 a6 a7 a8 b1 b2 b3 e1 e2 e3 e4 b4 b5 b6 b7 b8) _ _ (fun i => spec_SameDesk_p8_eq i a1 a2 a3 d1 d2 d3 d4 a4 a5 a6 a7 a8 b1 b2 b3 e1 e2 e3 e4 b4 b5 b6 b7 b8) (toN _ _ l8) h8 (fun _ _ _ _ => rfl) a8.length 0 (Nat.zero_add _)
  have z7 := sameLoop a7 b7 (fun x y => some (pegSame x y)) pegSame (fun i => spec_SameDesk_p7 i a1 a2 a3 d1 d2 d3 d4 a4 a5 a6 a7 a8 b1 b2 b3 e1 e2 e3 e4 b4 b5 b6 b7 b8) _ _ (fun i => spec_SameDesk_p7_eq i a1 a2 a3 d1 d2 d3 d4 a4 a5 a6 a7 a8 b1 b2 b3 e1 e2 e3 e4 b4 b5 b6 b7 b8) (toN _ _ l7) h7 (fun _ _ _ _ => rfl) a7.length 0 (Nat.zero_add _)
  have z6 := sameLoop a6 b6 (fun x y => some (modeSame x y)) modeSame (fun i => spec_SameDesk_p6 i a1 a2 a3 d1 d2 d3 d4 a4 a5 a6 a7 a8 b1 b2 b3 e1 e2 e3 e4 b4 b5 b6 b7 b8) _ _ (fun i => spec_SameDesk_p6_eq i a1 a2 a3 d1 d2 d3 d4 a4 a5 a6 a7 a8 b1 b2 b3 e1 e2 e3 e4 b4 b5 b6 b7 b8) (toN _ _ l6) h6 (fun _ _ _ _ => rfl) a6.length 0 (Nat.zero_add _)
  have z5 := sameLoop a5 b5 (fun x y => some (potSame x y)) potSame (fun i => spec_SameDesk_p5 i a1 a2 a3 d1 d2 d3 d4 a4 a5 a6 a7 a8 b1 b2 b3 e1 e2 e3 e4 b4 b5 b6 b7 b8) _ _ (fun i => spec_SameDesk_p5_eq i a1 a2 a3 d1 d2 d3 d4 a4 a5 a6 a7 a8 b1 b2 b3 e1 e2 e3 e4 b4 b5 b6 b7 b8) (toN _ _ l5) h5 (fun _ _ _ _ => rfl) a5.length 0 (Nat.zero_add _)
  have z4 := sameLoop a4 b4 (fun x y => some (pegSame x y)) pegSame (fun i => spec_SameDesk_p4 i a1 a2 a3 d1 d2 d3 d4 a4 a5 a6 a7 a8 b1 b2 b3 e1 e2 e3 e4 b4 b5 b6 b7 b8) _ _ (fun i => spec_SameDesk_p4_eq i a1 a2 a3 d1 d2 d3 d4 a4 a5 a6 a7 a8 b1 b2 b3 e1 e2 e3 e4 b4 b5 b6 b7 b8) (toN _ _ l4) h4 (fun _ _ _ _ => rfl) a4.length 0 (Nat.zero_add _)
  have z2 := sameLoop a2 b2 (fun x y => some (modeSame x y)) modeSame (fun i => spec_SameDesk_p3 i a1 a2 a3 d1 d2 d3 d4 a4 a5 a6 a7 a8 b1 b2 b3 e1 e2 e3 e4 b4 b5 b6 b7 b8) _ _ (fun i => spec_SameDesk_p3_eq i a1 a2 a3 d1 d2 d3 d4 a4 a5 a6 a7 a8 b1 b2 b3 e1 e2 e3 e4 b4 b5 b6 b7 b8) (toN _ _ l2) h2 (fun _ _ _ _ => rfl) a2.length 0 (Nat.zero_add _)
  have z1 := sameLoop a1 b1 (fun x y => some (pegSame x y)) pegSame (fun i => spec_SameDesk_p2 i a1 a2 a3 d1 d2 d3 d4 a4 a5 a6 a7 a8 b1 b2 b3 e1 e2 e3 e4 b4 b5 b6 b7 b8) _ _ (fun i => spec_SameDesk_p2_eq i a1 a2 a3 d1 d2 d3 d4 a4 a5 a6 a7 a8 b1 b2 b3 e1 e2 e3 e4 b4 b5 b6 b7 b8) (toN _ _ l1) h1 (fun _ _ _ _ => rfl) a1.length 0 (Nat.zero_add _)
  have z3 := sameLoop a3 b3 spec_l00Same (sameL intSame) (fun i => spec_SameDesk_p1 i a1 a2 a3 d1 d2 d3 d4 a4 a5 a6 a7 a8 b1 b2 b3 e1 e2 e3 e4 b4 b5 b6 b7 b8) _ _ (fun i => spec_SameDesk_p1_eq i a1 a2 a3 d1 d2 d3 d4 a4 a5 a6 a7 a8 b1 b2 b3 e1 e2 e3 e4 b4 b5 b6 b7 b8) (toN _ _ l3) h3 (fun x hx y _ => spec_l00Same_ok x y (h3' x hx)) a3.length 0 (Nat.zero_add _)
  simp only [Int.ofNat_zero, Int.natCast_zero, List.drop_zero] at z1 z2 z3 z4 z5 z6 z7 z8
  rw [spec_SameDesk_p0_eq, z3, z1, z2, z4, z5, z6, z7, z8]
  simp only [sameL, l1, l2, l3, l4, l5, l6, l7, l8, Bool.true_and, Bool.and_self, Bool.not_true, Bool.false_eq_true, if_false]
  generalize ((d1 == e1) && ((d2 == e2) && ((d3 == e3) && (d4 == e4)))) = N
  generalize sameGo pegSame a1 b1 = s1
  generalize sameGo modeSame a2 b2 = s2
  generalize sameGo _ a3 b3 = s3
  generalize sameGo pegSame a4 b4 = s4
  generalize sameGo potSame a5 b5 = s5
  generalize sameGo modeSame a6 b6 = s6
  generalize sameGo pegSame a7 b7 = s7
  generalize sameGo paperSame a8 b8 = s8
  cases N
  · cases s1 <;> cases s2 <;> cases s3 <;> rfl
  cases s3
  · cases s1 <;> cases s2 <;> rfl
  cases s1
  · rfl
  cases s2
  · rfl
  cases s4
  · rfl
  cases s5
  · rfl
  cases s6
  · rfl
  cases s7
  · rfl
  cases s8 <;> rfl
theorem laws_FnExactSameDesk_true (x y : T_Desk.ty) (h : ET.wf T_Desk x) (h' : ET.wf T_Desk y) : laws_FnExactSameDesk x y = some true := by
  obtain ⟨n, e1, e2, e3⟩ := szDesk_okL x h 1048576 (by omega) (by omega)
  rw [laws_FnExactSameDesk_eq, e1, Option.bind_some]
  by_cases hn : n < 0
  · simp [hn]
  obtain ⟨m, f1, f2, f3⟩ := szDesk_okL y h' n (by omega) e2
  simp only [hn, decide_false, Bool.false_eq_true, if_false, f1, Option.bind_some]
  by_cases hm : m < 0
  · simp [hm]
  have hs := e3 (by omega)
  have hs' := f3 (by omega)
  obtain ⟨b, r1, r2⟩ := sameDesk x y hs
  simp only [hm, decide_false, Bool.false_eq_true, if_false, toDesk_ok x hs, toDesk_ok y hs', r1, r2, eqDesk_ok x hs, eqDesk_ok y hs', Option.bind_some, beq_self_eq_true, Bool.not_true]
end Go.Ab.P
