/- The thickest board that dries in time, stacks that are ready, the oldest stack, and boards that shrink. Conditions: bytes are bytes. -/
import Derived.Test.YtbijadelckpmjaaGreatDoorBFnStacks
set_option linter.unusedVariables false
set_option linter.unusedSimpArgs false
namespace Go.Ab.P
open Go.Ab

def sId (x : T_Peg.ty) : List UInt8 := x.1
def sM (x : T_Peg.ty) : Int := x.2.1
def sT (x : T_Peg.ty) : Int := x.2.2.1
def sS (x : T_Peg.ty) : Int := x.2.2.2.1
theorem st_ok {x : T_Peg.ty} (h : stackOk x = true) : isName (sId x) = true ∧ (0 ≤ sM x ∧ sM x ≤ 1000) ∧ (10 ≤ sT x ∧ sT x ≤ 1000) ∧ 0 ≤ sS x ∧ sS x ≤ 36524 := stackOk_iff.1 h

/-! Texts of stacks. -/
theorem dig_no32 {a : List UInt8} (h : ∀ c, c ∈ a → 48 ≤ c.toNat ∧ c.toNat ≤ 57) : (32 : UInt8) ∉ a := not_mem_dig h (by decide)
theorem date_text (d : Int) (h : 0 ≤ d ∧ d ≤ 36524) : ∃ t, impl_DateText d = some t ∧ impl_ReadDate t = some (d, true) ∧ (32 : UInt8) ∉ t ∧ t ≠ [] ∧ t.length ≤ 20 := by
  obtain ⟨y, m, r, hd, e1⟩ := impl_DateOf_ok d h.1 h.2
  have hd' := hd
  obtain ⟨hy, hm, hr0, hr1, hde⟩ := hd'
  have hb := mdays_bd (y := 2000 + y) (m := m) hm
  obtain ⟨rn, rfl⟩ : ∃ rn : Nat, r = rn := ⟨r.toNat, by omega⟩
  have hdt := impl_DateText_ok e1 hy hm (show rn < 31 by omega)
  refine ⟨_, hdt, readDate_ok hd hdt, ?_, by simp, ?_⟩
  · intro e
    rcases List.mem_append.1 e with e | e
    · exact dig_no32 (by rw [itoa_pos]; exact decDigits_dig _) e
    · rcases List.mem_cons.1 e with e | e
      · exact absurd e (by decide)
      · rcases List.mem_append.1 e with e | e
        · exact dig_no32 (padP_dig _ _) e
        · rcases List.mem_cons.1 e with e | e
          · exact absurd e (by decide)
          · exact dig_no32 (padP_dig _ _) e
  · have l1 := itoa_year y hy
    have l2 := pad_two (m + 1) (by omega)
    have l3 := pad_two (rn + 1) (by omega)
    simp only [List.length_append, List.length_cons, l1.1, l2.2.1, l3.2.1]; omega
theorem stackText (id : List UInt8) (m t s : Int) (h : stackOk (id, m, t, s, ()) = true) : ∃ x, impl_StackText (id, m, t, s, ()) = some x ∧ impl_ReadStack x = some ((id, m, t, s, ()), true) := by
  have hk := stackOk_iff.1 h
  have hn := isName_mem hk.1
  obtain ⟨u, u1, u2, u3, u4, u5⟩ := date_text s hk.2.2.2
  have hx : ∀ x, x ∈ [m, t] → -1000000000000 ≤ x ∧ x ≤ 1000000000000 := fun x hx => by
    simp only [List.mem_cons, List.not_mem_nil, or_false] at hx
    rcases hx with rfl | rfl <;> omega
  have hl := listP_len [m, t] (by simp) hx
  have hv : impl_Stack_valid (id, m, t, s, ()) = some true := by rw [impl_Stack_valid_ok _ (show id.length < _ by omega), h]
  have e1 : (id ++ 32 :: listP [m, t]).length + 1 ≤ strMax := by rw [strMax_eq]; simp only [List.length_append, List.length_cons]; omega
  have e2 : (id ++ 32 :: listP [m, t]).length + 1 + u.length ≤ strMax := by rw [strMax_eq]; simp only [List.length_append, List.length_cons]; omega
  have ht : impl_StackText (id, m, t, s, ()) = some (id ++ 32 :: (listP [m, t] ++ 32 :: u)) := by
    rw [impl_StackText_eq, hv]
    simp only [Option.bind_some, Bool.not_true, Bool.false_eq_true, if_false, impl_named_ok id [m, t] (by omega) (by simp) (by simp) hx, List.length_append (as := id ++ 32 :: listP [m, t]), List.length_singleton, e1, decide_true, if_true, u1, e2]
    simp
  refine ⟨_, ht, ?_⟩
  have hid : id ≠ [] := by
    intro e
    have := hk.1
    rw [e] at this
    simp [isName] at this
  rw [impl_ReadStack_eq, impl_SplitWords_3 id (listP [m, t]) u hid (listP_ne (by simp)) u4 (isName_no hk.1 (by decide)) (listP_no (by simp) (by decide) (by decide) (by decide)) u3 (by omega)]
  simp only [Option.bind_some]
  have g1 : ([id, listP [m, t], u] : List (List UInt8))[1]? = some (listP [m, t]) := rfl
  have g2 : ([id, listP [m, t], u] : List (List UInt8))[2]? = some u := rfl
  have n3 : ((([id, listP [m, t], u] : List (List UInt8)).length : Int) != 3) = false := by simp
  have n1 : (1 : Int) < (([id, listP [m, t], u] : List (List UInt8)).length : Int) := by simp
  have n2 : (2 : Int) < (([id, listP [m, t], u] : List (List UInt8)).length : Int) := by simp
  simp only [n3, Bool.false_eq_true, if_false, n1, n2, decide_true, if_true, g1, g2, Option.bind_some, impl_ReadList_ok [m, t] (by simp) (by simp) hx, u2, Bool.not_true]
  have n4 : ((([m, t] : List Int).length : Int) != 2) = false := by simp
  simp only [n4, Bool.false_eq_true, if_false, impl_ReadStack_p0_eq]
  have g3 : ([id, listP [m, t], u] : List (List UInt8))[0]? = some id := rfl
  have g4 : ([m, t] : List Int)[0]? = some m := rfl
  have g5 : ([m, t] : List Int)[1]? = some t := rfl
  have n5 : (0 : Int) < (([id, listP [m, t], u] : List (List UInt8)).length : Int) := by simp
  have n6 : (0 : Int) < (([m, t] : List Int).length : Int) := by simp
  have n7 : (1 : Int) < (([m, t] : List Int).length : Int) := by simp
  simp only [n5, n6, n7, decide_true, if_true, g3, g4, g5, Option.bind_some, ht, beq_self_eq_true, Bool.not_true, Bool.false_eq_true, if_false]

/-! Drawn lists. -/
theorem draw_p1 (n : Nat) (hn : n ≤ 13) : ∀ (k i : Nat) (s : T_l00Src.ty) (c : Int) (r : List T_Peg.ty), i + k = n → SrcOk s c → c + 6 * k ≤ 90000 → r.length = i → (∀ x, x ∈ r → (sId x).length ≤ 4) →
    ∃ (r' : List T_Peg.ty) (s' : T_l00Src.ty), spec_l04Draw_p1 n i s.1 s.2.1 s.2.2.1 r = some (r', s') ∧ SrcOk s' (c + 6 * k) ∧ r'.length ≤ 20 ∧ ∀ x, x ∈ r' → (sId x).length ≤ 4
  | 0, i, s, c, r, hk, hs, hc, hr, hx => by
    rw [spec_l04Draw_p1_eq]
    have : ¬ (i : Int) < (n : Int) := by omega
    simp only [this, decide_false, Bool.false_eq_true, if_false, List.take_length, src_eta]
    exact ⟨r, s, rfl, hs.up (by omega), by omega, hx⟩
  | k + 1, i, s, c, r, hk, hs, hc, hr, hx => by
    rw [spec_l04Draw_p1_eq]
    have hlt : (i : Int) < (n : Int) := by omega
    have hm : 1 + ([IntKind.u8.wrap (IntKind.i64.wrap (97 + (i : Int)))].map vu8).length ≤ strMax := by rw [strMax_eq]; simp
    obtain ⟨m, t, d, s1, e1, k1⟩ := spec_l04DrawOne_ok hs (by omega) ([110] ++ ([IntKind.u8.wrap (IntKind.i64.wrap (97 + (i : Int)))].map vu8))
    have hl : r.length + 1 < lim := by rw [lim_eq]; omega
    simp only [hlt, decide_true, if_true, List.length_singleton, hm, src_eta, e1, Option.bind_some, hl, List.take_length, wsucc (show i < 4611686018427387904 by omega)]
    obtain ⟨r', s', f1, f2, f3, f4⟩ := draw_p1 n hn k (i + 1) s1 (c + 6) (r ++ [([110] ++ ([IntKind.u8.wrap (IntKind.i64.wrap (97 + (i : Int)))].map vu8), m, t, d, ())]) (by omega) k1 (by omega) (by simp; omega) (fun x hx' => by
      rcases List.mem_append.1 hx' with h | h
      · exact hx x h
      · simp only [List.mem_singleton] at h; subst h; simp [sId])
    exact ⟨r', s', f1, f2.up (by omega), f3, f4⟩
theorem draw_p0 : ∀ (k i : Nat) (s : T_l00Src.ty) (c : Int) (r : List T_Peg.ty), i + k = 4 → SrcOk s c → c + 10 * k ≤ 2000 → r.length ≤ i → (∀ x, x ∈ r → (sId x).length ≤ 4) →
    ∃ (r' : List T_Peg.ty) (s' : T_l00Src.ty), spec_l04Draw_p0 i s.1 s.2.1 s.2.2.1 [[115, 97], [115, 98], [115, 99], [115, 100]] r = some (r', s') ∧ SrcOk s' 20000 ∧ r'.length ≤ 20 ∧ ∀ x, x ∈ r' → (sId x).length ≤ 4
  | 0, i, s, c, r, hk, hs, hc, hr, hx => by
    have hi : i = 4 := by omega
    subst hi
    rw [spec_l04Draw_p0_eq]
    have h4 : ¬ ((4 : Nat) : Int) < (([[115, 97], [115, 98], [115, 99], [115, 100]] : List (List UInt8)).length : Int) := by simp
    obtain ⟨v, s1, e1, k1, _⟩ := pick_ok hs (by omega) 20 (by omega)
    simp only [h4, decide_false, Bool.false_eq_true, if_false, src_eta, e1, Option.bind_some]
    by_cases c0 : v = 0
    · obtain ⟨m, t, d, s2, e2, k2⟩ := spec_l04DrawOne_ok k1 (by omega) [122, 122]
      obtain ⟨m', t', d', s3, e3, k3⟩ := spec_l04Bent_ok k2 (by omega) [122, 122] m t d
      have hl : r.length + 1 < lim := by rw [lim_eq]; omega
      simp only [c0, beq_self_eq_true, if_true, e2, e3, Option.bind_some, src_eta, hl, decide_true, List.take_length]
      refine ⟨_, s3, rfl, k3.up (by omega), by simp; omega, fun x hx' => ?_⟩
      rcases List.mem_append.1 hx' with h | h
      · exact hx x h
      · simp only [List.mem_singleton] at h; subst h; simp [sId]
    have c0' : (v == 0) = false := by simpa using c0
    by_cases c1 : v = 1
    · obtain ⟨n, s2, e2, k2, hn⟩ := among_ok k1 (by omega) [12, 13] (by decide) (by decide)
      obtain ⟨nn, rfl, hnn⟩ : ∃ nn : Nat, n = nn ∧ nn ≤ 13 := by
        simp at hn
        rcases hn with rfl | rfl
        · exact ⟨12, rfl, by omega⟩
        · exact ⟨13, rfl, by omega⟩
      obtain ⟨r', s', f1, f2, f3, f4⟩ := draw_p1 nn hnn nn 0 s2 _ [] (by omega) k2 (by omega) rfl (fun x hx => by cases hx)
      have f1 : spec_l04Draw_p1 (nn : Int) 0 s2.1 s2.2.1 s2.2.2.1 [] = some (r', s') := f1
      simp only [c1, show ((1 : Int) == 0) = false from rfl, beq_self_eq_true, Bool.false_eq_true, if_false, if_true, e2, Option.bind_some, f1]
      exact ⟨r', s', rfl, f2.up (by omega), f3, f4⟩
    · have c1' : (v == 1) = false := by simpa using c1
      simp only [c0', c1', Bool.false_eq_true, if_false, List.take_length, src_eta]
      exact ⟨r, s1, rfl, k1.up (by omega), by omega, hx⟩
  | k + 1, i, s, c, r, hk, hs, hc, hr, hx => by
    rw [spec_l04Draw_p0_eq]
    have h4 : (i : Int) < (([[115, 97], [115, 98], [115, 99], [115, 100]] : List (List UInt8)).length : Int) := by simp; omega
    have hi0 : (0 : Int) ≤ (i : Int) := by omega
    have hi4 : i < ([[115, 97], [115, 98], [115, 99], [115, 100]] : List (List UInt8)).length := by simp; omega
    obtain ⟨b, s1, e1, k1⟩ := one_ok hs (by omega) 3 (by omega)
    simp only [h4, decide_true, if_true, src_eta, e1, Option.bind_some, hi0, Bool.and_self, Int.toNat_natCast, getElem?_lt hi4, wsucc (show i < 4611686018427387904 by omega)]
    cases b
    · obtain ⟨m, t, d, s2, e2, k2⟩ := spec_l04DrawOne_ok k1 (by omega) ([[115, 97], [115, 98], [115, 99], [115, 100]] : List (List UInt8))[i]
      have hl : r.length + 1 < lim := by rw [lim_eq]; omega
      simp only [Bool.not_false, if_true, src_eta, e2, Option.bind_some, hl, decide_true, List.take_length]
      have hid : (([[115, 97], [115, 98], [115, 99], [115, 100]] : List (List UInt8))[i]).length ≤ 4 := by
        have : ∀ x, x ∈ ([[115, 97], [115, 98], [115, 99], [115, 100]] : List (List UInt8)) → x.length ≤ 4 := by decide
        exact this _ (List.getElem_mem hi4)
      exact draw_p0 k (i + 1) s2 (c + 8) _ (by omega) (k2.up (by omega)) (by omega) (by simp; omega) (fun x hx' => by
        rcases List.mem_append.1 hx' with h | h
        · exact hx x h
        · simp only [List.mem_singleton] at h; subst h; exact hid)
    · simp only [Bool.not_true, Bool.false_eq_true, if_false]
      exact draw_p0 k (i + 1) s1 (c + 2) r (by omega) (k1.up (by omega)) (by omega) (by omega) hx
theorem draw_ok {s : T_l00Src.ty} (hs : SrcOk s 0) : ∃ (r : List T_Peg.ty) (s' : T_l00Src.ty), spec_l04Draw s = some (r, s') ∧ SrcOk s' 20000 ∧ r.length ≤ 20 ∧ ∀ x, x ∈ r → (sId x).length ≤ 4 := by
  rw [spec_l04Draw_eq]
  exact draw_p0 4 0 s 0 [] (by omega) hs (by omega) (by simp) (fun x hx => by cases hx)

/-! Boards that shrink. -/
theorem shrunk (width a b share : Int) : ∀ v1 : List Int, spec_DrawShrunkTo v1 = some (width, a, b, share) → laws_FnStacks_p5 v1 = some true := fun v1 hd => by
  rw [laws_FnStacks_p5_eq, hd, Option.bind_some]
  simp only []
  rw [impl_ShrunkTo_eq]
  simp only [impl_isPart_eq, impl_within_ok, Option.bind_some]
  cases h1 : inR width 1 100000
  · rfl
  simp only [Bool.not_true, Bool.false_eq_true, if_false]
  cases h2 : inR a 0 1000
  · rfl
  simp only [Bool.not_true, Bool.false_eq_true, if_false]
  cases h3 : inR b 0 1000
  · rfl
  simp only [Bool.not_true, Bool.false_eq_true, if_false]
  cases h4 : inR share 0 1000
  · rfl
  have k1 := inR_iff'.1 h1
  have k2 := inR_iff'.1 h2
  have k3 := inR_iff'.1 h3
  have k4 := inR_iff'.1 h4
  simp only [Bool.not_true, Bool.false_eq_true, if_false, impl_ShrunkTo_p0_eq]
  have ea : (if a < 280 then a else 280) = (if 280 < a then 280 else a) := by split <;> split <;> omega
  have eb : (if b < 280 then b else 280) = (if 280 < b then 280 else b) := by split <;> split <;> omega
  rw [ea, eb]
  have ba : 0 ≤ (if 280 < a then 280 else a) ∧ (if 280 < a then 280 else a) ≤ 280 := by split <;> omega
  have bb : 0 ≤ (if 280 < b then 280 else b) ∧ (if 280 < b then 280 else b) ≤ 280 := by split <;> omega
  generalize (if 280 < a then 280 else a) = x at ba ⊢
  generalize (if 280 < b then 280 else b) = y at bb ⊢
  have m1 := mul_bd (b := width) (d := x - y) (B := 100000) (D := 280) (by omega) (by omega)
  have m2 : -28000000000 ≤ width * (x - y) * share ∧ width * (x - y) * share ≤ 28000000000 := by
    rw [Int.mul_comm]; have := mul_bd (b := share) (d := width * (x - y)) (B := 1000) (D := 28000000) (by omega) (by omega); omega
  have r := rdivP_bd (a := width * (x - y) * share) (b := 280000) (m := 28000000000) (by omega) (by omega)
  simp only [w64 (n := x - y) (by omega) (by omega), w64 (n := width * (x - y)) (by omega) (by omega), w64 (n := width * (x - y) * share) (by omega) (by omega),
    impl_divRound_ok (width * (x - y) * share) 280000 (by omega) (by omega), laws_b10Div_ok (width * (x - y) * share) 280000 (by omega) (by omega), Option.bind_some, bne_self_eq_false, beq_self_eq_true]
  rfl
theorem law_p5 (v1 : List Int) (m1 : ∀ x, x ∈ v1 → 0 ≤ x ∧ x ≤ 255) (m2 : v1.length ≤ 1048576) : laws_FnStacks_p5 v1 = some true := by
  obtain ⟨s, e, k⟩ := from_ok v1 m1 m2
  obtain ⟨w, s1, e1, k1, _⟩ := among_ok k (by omega) [0, 1, 1200, 2100, 100000, 100001] (by decide) (by decide)
  obtain ⟨a, s2, e2, k2⟩ := spec_l04DrawShare_ok k1 (by omega)
  obtain ⟨b, s3, e3, k3⟩ := spec_l04DrawGoal_ok k2 (by omega)
  obtain ⟨g, s4, e4, k4, _⟩ := among_ok k3 (by omega) [0, 40, 80, 1000, 1001, (-1)] (by decide) (by decide)
  refine shrunk w a b g v1 ?_
  rw [spec_DrawShrunkTo_eq, e]
  simp only [Option.bind_some, e1, src_eta, e2, e3, e4]

/-! The oldest stack. -/
theorem pegS (x : T_Peg.ty) : x.2.2.2.1 = sS x := rfl
theorem oldest_loop (now : Int) (xs : List T_Peg.ty) (hs : xs.length ≤ 1000) (sv : Nat → Int) (hsv : ∀ (j : Nat) (h : j < xs.length), sv j = sS xs[j]) : ∀ (k i b : Nat) (hk : i + k = xs.length) (hb : b < xs.length), (∀ j, j < i → sv b ≤ sv j) →
    ∃ (b' : Nat) (h' : b' < xs.length), (∀ j, j < xs.length → sv b' ≤ sv j) ∧ impl_OldestStack_p0 now xs xs.length i (xs[b].1) (xs[b].2.1) (xs[b].2.2.1) (xs[b].2.2.2.1) = if sv b' > now then some ([], 0, 6) else some (sId xs[b'], IntKind.i64.wrap (now - sv b'), 0)
  | 0, i, b, hk, hb, h1 => by
    refine ⟨b, hb, fun j hj => h1 j (by omega), ?_⟩
    rw [impl_OldestStack_p0_eq]
    have : ¬ (i : Int) < (xs.length : Int) := by omega
    simp only [this, decide_false, Bool.false_eq_true, if_false, pegS, ← hsv b hb, decide_eq_true_eq]
    rfl
  | k + 1, i, b, hk, hb, h1 => by
    have hi : i < xs.length := by omega
    have hlt : (i : Int) < (xs.length : Int) := by omega
    have hi0 : (0 : Int) ≤ (i : Int) := by omega
    rw [impl_OldestStack_p0_eq]
    simp only [hlt, decide_true, if_true, hi0, Int.toNat_natCast, getElem?_lt hi, Option.bind_some, wsucc (show i < 4611686018427387904 by omega), pegS (xs[i]), ← hsv i hi]
    by_cases hc : sv i < sv b
    · have hc' : sv i < sS xs[b] := by rw [← hsv b hb]; exact hc
      have e : decide (sv i < xs[b].2.2.2.1) = true := decide_eq_true hc'
      simp only [e, if_true]
      have ih := oldest_loop now xs hs sv hsv k (i + 1) i (by omega) hi (fun j hj => by
        by_cases hj' : j = i
        · subst hj'; omega
        · have := h1 j (by omega); omega)
      rw [hsv i hi]
      exact ih
    · have hc' : ¬ sv i < sS xs[b] := by rw [← hsv b hb]; exact hc
      have e : decide (sv i < xs[b].2.2.2.1) = false := decide_eq_false hc'
      simp only [e, Bool.false_eq_true, if_false]
      exact oldest_loop now xs hs sv hsv k (i + 1) b (by omega) hb (fun j hj => by
        by_cases hj' : j = i
        · subst hj'; omega
        · exact h1 j (by omega))
theorem law_p4 (v1 : List Int) (now : Int) (id : List UInt8) (age : Int) (xs : List T_Peg.ty) (hs : xs.length ≤ 1000) (sv : Nat → Int) (hsv : ∀ (j : Nat) (h : j < xs.length), sv j = sS xs[j]) (hb : ∀ j, j < xs.length → 0 ≤ sv j ∧ sv j ≤ 36524) (hn : 0 ≤ now ∧ now ≤ 36524)
    (ha : 0 ≤ age) (hall : ∀ j, j < xs.length → now - sv j ≤ age) : ∀ (k i : Nat) (f : Bool), i + k = xs.length → (f = true ∨ ∃ (j : Nat) (h : j < xs.length), i ≤ j ∧ sId xs[j] = id ∧ now - sv j = age) → laws_FnStacks_p4 v1 now id age f i xs = laws_FnStacks_p5 v1
  | 0, i, f, hk, hf => by
    have hf' : f = true := hf.resolve_right fun ⟨j, h, h2, _⟩ => by omega
    subst hf'
    rw [laws_FnStacks_p4_eq]
    have : ¬ (i : Int) < (xs.length : Int) := by omega
    have ha' : ¬ age < 0 := by omega
    simp only [this, decide_false, Bool.false_eq_true, if_false, Bool.not_true, ha']
  | k + 1, i, f, hk, hf => by
    have hi : i < xs.length := by omega
    have hlt : (i : Int) < (xs.length : Int) := by omega
    have hi0 : (0 : Int) ≤ (i : Int) := by omega
    have hbi := hb i hi
    have p6 : ∀ g : Bool, (g = true ∨ ∃ (j : Nat) (h : j < xs.length), i + 1 ≤ j ∧ sId xs[j] = id ∧ now - sv j = age) → laws_FnStacks_p6 v1 now id age g i xs = laws_FnStacks_p5 v1 := fun g hg => by
      rw [laws_FnStacks_p6_eq]
      have c : ¬ now - sv i > age := by have := hall i hi; omega
      simp only [hi0, hlt, decide_true, Bool.and_self, if_true, Int.toNat_natCast, getElem?_lt hi, Option.bind_some, pegS, ← hsv i hi, w64 (n := now - sv i) (by omega) (by omega), c, decide_false, Bool.false_eq_true, if_false, wsucc (show i < 4611686018427387904 by omega)]
      exact law_p4 v1 now id age xs hs sv hsv hb hn ha hall k (i + 1) g (by omega) hg
    rw [laws_FnStacks_p4_eq]
    simp only [hi0, hlt, decide_true, Bool.and_self, if_true, Int.toNat_natCast, getElem?_lt hi, Option.bind_some, pegS, ← hsv i hi, w64 (n := now - sv i) (by omega) (by omega)]
    cases f
    · obtain ⟨j, h, h2, h3, h4⟩ := hf.resolve_left (by simp)
      simp only [Bool.false_eq_true, if_false]
      by_cases hid : (xs[i].1 == id) = true
      · simp only [hid, if_true]
        refine p6 _ ?_
        by_cases ht : now - sv i = age
        · left; simpa using ht
        · right
          refine ⟨j, h, ?_, h3, h4⟩
          by_cases e : j = i
          · subst e; exact absurd h4 ht
          · omega
      · have hid' : (xs[i].1 == id) = false := by simpa using hid
        simp only [hid', Bool.false_eq_true, if_false]
        refine p6 _ (.inr ⟨j, h, ?_, h3, h4⟩)
        by_cases e : j = i
        · subst e
          exact absurd (by rw [beq_iff_eq]; exact h3) hid
        · omega
    · simp only [if_true]
      exact p6 true (.inl rfl)
def svOf (xs : List T_Peg.ty) (j : Nat) : Int := if h : j < xs.length then sS xs[j] else 0
theorem p3_core (v0 v1 : List Int) (xs : List T_Peg.ty) (now : Int) (hl : xs.length ≤ 20) (hx : ∀ x, x ∈ xs → (sId x).length ≤ 4) (hd : spec_DrawOldestStack v0 = some (xs, now)) (hp5 : laws_FnStacks_p5 v1 = some true) : laws_FnStacks_p3 v0 v1 = some true := by
  rw [laws_FnStacks_p3_eq, hd, Option.bind_some]
  simp only [List.take_length]
  rw [impl_OldestStack_eq, impl_ValidStacks_ok xs (by omega) (fun x hm => by have := hx x hm; have e : x.1.length = (sId x).length := rfl; omega)]
  cases hv : stacksOk xs
  · exact hp5
  simp only [Option.bind_some, Bool.not_true, Bool.false_eq_true, if_false, impl_isDay_eq, impl_within_ok]
  cases hn : inR now 0 36524
  · exact hp5
  have kn := inR_iff'.1 hn
  simp only [Option.bind_some, Bool.not_true, Bool.false_eq_true, if_false]
  by_cases h0 : (xs.length : Int) = 0
  · have e : ((xs.length : Int) == 0) = true := by simpa using h0
    simp only [e, if_true, Option.bind_some]
    exact hp5
  have e : ((xs.length : Int) == 0) = false := by simpa using h0
  have hp : 0 < xs.length := by omega
  have hok : ∀ (j : Nat) (h : j < xs.length), stackOk xs[j] = true := fun j h => stacksOk_all hv _ (List.getElem_mem h)
  have hsv' : ∀ (j : Nat) (h : j < xs.length), svOf xs j = sS xs[j] := fun j h => by simp [svOf, h]
  obtain ⟨b, hb, h1, h2⟩ := oldest_loop now xs (by omega) (svOf xs) hsv' xs.length 0 0 (by omega) hp (fun j hj => by omega)
  generalize svOf xs = sv at h1 h2 hsv'
  have hbd : ∀ j, j < xs.length → 0 ≤ sv j ∧ sv j ≤ 36524 := fun j h => by rw [hsv' j h]; exact (st_ok (hok j h)).2.2.2
  have h2 : impl_OldestStack_p0 now xs (xs.length : Int) 0 (xs[0].1) (xs[0].2.1) (xs[0].2.2.1) (xs[0].2.2.2.1) = (if sv b > now then some ([], 0, 6) else some (sId xs[b], IntKind.i64.wrap (now - sv b), 0)) := h2
  simp only [e, Bool.false_eq_true, if_false, getElem?_lt hp, Option.bind_some, h2]
  by_cases hc : sv b > now
  · simp only [hc, if_true, Option.bind_some]
    exact hp5
  · have := hbd b hb
    simp only [hc, if_false, Option.bind_some, beq_self_eq_true, if_true, w64 (n := now - sv b) (by omega) (by omega)]
    rw [show laws_FnStacks_p4 v1 now (sId xs[b]) (now - sv b) false 0 xs = laws_FnStacks_p5 v1 from law_p4 v1 now (sId xs[b]) (now - sv b) xs (by omega) sv hsv' hbd kn (by omega) (fun j hj => by have := h1 j hj; omega) xs.length 0 false (by omega) (.inr ⟨b, hb, by omega, rfl, rfl⟩)]
    exact hp5
theorem law_p3 (v0 v1 : List Int) (h1 : ∀ x, x ∈ v0 → 0 ≤ x ∧ x ≤ 255) (h2 : v0.length ≤ 1048576) (m1 : ∀ x, x ∈ v1 → 0 ≤ x ∧ x ≤ 255) (m2 : v1.length ≤ 1048576) : laws_FnStacks_p3 v0 v1 = some true := by
  obtain ⟨s, e, k⟩ := from_ok v0 h1 h2
  obtain ⟨xs, s1, e1, k1, l1, l2⟩ := draw_ok k
  obtain ⟨b, s2, e2, k2⟩ := one_ok k1 (by omega) 6 (by omega)
  have hdraw : ∃ n : Int, spec_DrawOldestStack v0 = some (xs, n) := by
    rw [spec_DrawOldestStack_eq, e]
    simp only [Option.bind_some, e1, src_eta, e2, List.take_length]
    cases b
    · obtain ⟨v, s3, e3, k3, _⟩ := pick_ok k2 (by omega) 1500 (by omega)
      simp only [Bool.false_eq_true, if_false, e3, Option.bind_some]
      exact ⟨_, rfl⟩
    · obtain ⟨v, s3, e3, k3, _⟩ := among_ok k2 (by omega) [(-1), 0, 36524, 36525] (by decide) (by decide)
      simp only [if_true, e3, Option.bind_some]
      exact ⟨_, rfl⟩
  obtain ⟨n, hn⟩ := hdraw
  exact p3_core v0 v1 xs n l1 l2 hn (law_p5 v1 m1 m2)

/-! Stacks that are ready. -/
def dryP (xs : List T_Peg.ty) (air day want : Int) (i : Nat) : Bool := match xs[i]? with
  | some x => inR (day - sS x) 0 4000 && decide (aft (evenP air) (sT x) (day - sS x).toNat (sM x) ≤ want)
  | none => false
theorem ready_loop (air day want : Int) (xs : List T_Peg.ty) (hs : xs.length ≤ 1000) (hok : ∀ (j : Nat) (h : j < xs.length), stackOk xs[j] = true) (ha : 0 ≤ air ∧ air ≤ 1000) (hd : 0 ≤ day ∧ day ≤ 36524) : ∀ (k i : Nat), i + k = xs.length →
    impl_ReadyStacks_p1 air day want xs xs.length i (idx (dryP xs air day want) i) = some (idx (dryP xs air day want) xs.length, 0)
  | 0, i, hk => by
    have hi : i = xs.length := by omega
    subst hi
    rw [impl_ReadyStacks_p1_eq]
    have : ¬ ((xs.length : Nat) : Int) < (xs.length : Int) := by omega
    simp only [this, decide_false, Bool.false_eq_true, if_false, List.take_length]
  | k + 1, i, hk => by
    have hi : i < xs.length := by omega
    have hlt : (i : Int) < (xs.length : Int) := by omega
    have hi0 : (0 : Int) ≤ (i : Int) := by omega
    have hv := st_ok (hok i hi)
    have hlim : (idx (dryP xs air day want) i).length + 1 < lim := by have := idx_len (dryP xs air day want) i; rw [lim_eq]; omega
    have ih := ready_loop air day want xs hs hok ha hd k (i + 1) (by omega)
    rw [idx_succ] at ih
    have hP : dryP xs air day want i = (inR (day - sS xs[i]) 0 4000 && decide (aft (evenP air) (sT xs[i]) (day - sS xs[i]).toNat (sM xs[i]) ≤ want)) := by
      unfold dryP; rw [getElem?_lt hi]
    rw [hP] at ih
    rw [impl_ReadyStacks_p1_eq]
    simp only [hlt, decide_true, if_true, hi0, Int.toNat_natCast, getElem?_lt hi, Option.bind_some, wsucc (show i < 4611686018427387904 by omega), pegS, w64 (n := day - sS xs[i]) (by omega) (by omega), impl_isDry_eq, impl_within_ok, List.take_length]
    cases hr : inR (day - sS xs[i]) 0 4000
    · rw [hr] at ih
      simp only [Bool.false_and, Bool.false_eq_true, if_false, List.append_nil] at ih ⊢
      exact ih
    · have kr := inR_iff'.1 hr
      have ea : impl_Stack_after xs[i] air (day - sS xs[i]) = some (aft (evenP air) (sT xs[i]) (day - sS xs[i]).toNat (sM xs[i])) := impl_after_ok (sId xs[i]) (sM xs[i]) (sT xs[i]) (sS xs[i]) air (day - sS xs[i]) hv.2.1 hv.2.2.1 ha kr
      rw [hr] at ih
      simp only [if_true, ea, Option.bind_some, Bool.true_and] at ih ⊢
      by_cases hc : aft (evenP air) (sT xs[i]) (day - sS xs[i]).toNat (sM xs[i]) ≤ want
      · simp only [hc, decide_true, if_true, hlim] at ih ⊢
        exact ih
      · simp only [hc, decide_false, Bool.false_eq_true, if_false, List.append_nil] at ih ⊢
        exact ih
theorem law_p2 (v0 v1 : List Int) (air day want : Int) (xs : List T_Peg.ty) (hs : xs.length ≤ 1000) (hok : ∀ (j : Nat) (h : j < xs.length), stackOk xs[j] = true) (ha : inR air 0 1000 = true) (hd : 0 ≤ day ∧ day ≤ 36524) : ∀ (k i : Nat), i + k = xs.length →
    laws_FnStacks_p2 v0 v1 air day want i xs (idx (dryP xs air day want) xs.length) = laws_FnStacks_p3 v0 v1
  | 0, i, hk => by
    rw [laws_FnStacks_p2_eq]
    have : ¬ (i : Int) < (xs.length : Int) := by omega
    simp only [this, decide_false, Bool.false_eq_true, if_false]
  | k + 1, i, hk => by
    have hi : i < xs.length := by omega
    have hlt : (i : Int) < (xs.length : Int) := by omega
    have hi0 : (0 : Int) ≤ (i : Int) := by omega
    have hv := st_ok (hok i hi)
    have hn := isName_mem hv.1
    obtain ⟨t, et, er⟩ := stackText (sId xs[i]) (sM xs[i]) (sT xs[i]) (sS xs[i]) (hok i hi)
    have et : impl_StackText xs[i] = some t := et
    have er : impl_ReadStack t = some (xs[i], true) := er
    have em : spec_MoistureAfter xs[i] air (day - sS xs[i]) = some (moistP (sId xs[i]) (sM xs[i]) (sT xs[i]) (sS xs[i]) air (day - sS xs[i])) := spec_MoistureAfter_ok (sId xs[i]) (sM xs[i]) (sT xs[i]) (sS xs[i]) air (day - sS xs[i]) (by omega)
    have hP : dryP xs air day want i = (inR (day - sS xs[i]) 0 4000 && decide (aft (evenP air) (sT xs[i]) (day - sS xs[i]).toNat (sM xs[i]) ≤ want)) := by
      unfold dryP; rw [getElem?_lt hi]
    have hb : laws_b10Has (idx (dryP xs air day want) xs.length) (i : Int) = some (dryP xs air day want i) := by
      rw [laws_b10Has_ok _ _ (by have := idx_len (dryP xs air day want) xs.length; omega)]
      congr 1
      rw [Bool.eq_iff_iff, decide_eq_true_eq, idx_mem]
      exact ⟨fun h => h.2, fun h => ⟨hi, h⟩⟩
    have ih := law_p2 v0 v1 air day want xs hs hok ha hd k (i + 1) (by omega)
    rw [show (((i + 1 : Nat)) : Int) = (i : Int) + 1 by omega] at ih
    have hmo : stackOk (sId xs[i], sM xs[i], sT xs[i], sS xs[i], ()) = true := hok i hi
    rw [laws_FnStacks_p2_eq]
    simp only [hlt, decide_true, if_true, hi0, Bool.and_self, Int.toNat_natCast, getElem?_lt hi, Option.bind_some, pegS, w64 (n := day - sS xs[i]) (by omega) (by omega), em, et, er, List.take_length, hb, hP, moistP, hmo, ha, true_and, show IntKind.i64.wrap ((i : Int) + 1) = (i : Int) + 1 by rw [w64 (by omega) (by omega)]]
    cases hr : inR (day - sS xs[i]) 0 4000
    · simp [ih]
    · simp [ih]
theorem p1_core (v0 v1 : List Int) (xs : List T_Peg.ty) (air day want : Int) (hl : xs.length ≤ 20) (hx : ∀ x, x ∈ xs → (sId x).length ≤ 4) (hd : spec_DrawReadyStacks v1 = some (xs, air, day, want)) (hp3 : laws_FnStacks_p3 v0 v1 = some true) : laws_FnStacks_p1 v0 v1 = some true := by
  rw [laws_FnStacks_p1_eq, hd, Option.bind_some]
  simp only [List.take_length]
  rw [impl_ReadyStacks_eq, impl_ValidStacks_ok xs (by omega) (fun x hm => by have := hx x hm; have e : x.1.length = (sId x).length := rfl; omega)]
  cases hv : stacksOk xs
  · exact hp3
  simp only [Option.bind_some, Bool.not_true, Bool.false_eq_true, if_false, impl_isDay_eq, impl_isPart_eq, impl_within_ok]
  cases h1 : inR air 0 1000
  · exact hp3
  simp only [Option.bind_some, Bool.not_true, Bool.false_eq_true, if_false]
  cases h2 : inR day 0 36524
  · exact hp3
  simp only [Option.bind_some, Bool.not_true, Bool.false_eq_true, if_false]
  cases h3 : inR want 0 1000
  · exact hp3
  have hok : ∀ (j : Nat) (h : j < xs.length), stackOk xs[j] = true := fun j h => stacksOk_all hv _ (List.getElem_mem h)
  have k1 := inR_iff'.1 h1
  have k2 := inR_iff'.1 h2
  have hr := ready_loop air day want xs (by omega) hok k1 k2 xs.length 0 (by omega)
  have hr : impl_ReadyStacks_p1 air day want xs (xs.length : Int) 0 [] = some (idx (dryP xs air day want) xs.length, 0) := hr
  have hil := idx_len (dryP xs air day want) xs.length
  simp only [Option.bind_some, Bool.not_true, Bool.false_eq_true, if_false, impl_ReadyStacks_p0_eq, hr, beq_self_eq_true, if_true, List.take_length,
    laws_b10Rises_ok (idx (dryP xs air day want) xs.length) xs.length (by omega) (idx_bd _ _) (idx_rise _ _)]
  have hp := law_p2 v0 v1 air day want xs (by omega) hok h1 k2 xs.length 0 (by omega)
  have hp : laws_FnStacks_p2 v0 v1 air day want 0 xs (idx (dryP xs air day want) xs.length) = laws_FnStacks_p3 v0 v1 := hp
  rw [hp]
  exact hp3
theorem law_p1 (v0 v1 : List Int) (h1 : ∀ x, x ∈ v0 → 0 ≤ x ∧ x ≤ 255) (h2 : v0.length ≤ 1048576) (m1 : ∀ x, x ∈ v1 → 0 ≤ x ∧ x ≤ 255) (m2 : v1.length ≤ 1048576) : laws_FnStacks_p1 v0 v1 = some true := by
  obtain ⟨s, e, k⟩ := from_ok v1 m1 m2
  obtain ⟨xs, s1, e1, k1, l1, l2⟩ := draw_ok k
  obtain ⟨air, s2, e2, k2⟩ := spec_l04DrawShare_ok k1 (by omega)
  obtain ⟨u, s3, e3, k3, _⟩ := pick_ok k2 (by omega) 1500 (by omega)
  obtain ⟨b, s4, e4, k4⟩ := one_ok k3 (by omega) 9 (by omega)
  have hdraw : ∃ d w : Int, spec_DrawReadyStacks v1 = some (xs, air, d, w) := by
    rw [spec_DrawReadyStacks_eq, e]
    simp only [Option.bind_some, e1, src_eta, e2, e3, e4]
    cases b
    · obtain ⟨g, s5, e5, k5⟩ := spec_l04DrawGoal_ok k4 (by omega)
      simp only [Bool.false_eq_true, if_false, spec_DrawReadyStacks_p0_eq, src_eta, e5, Option.bind_some, List.take_length]
      exact ⟨_, _, rfl⟩
    · obtain ⟨v, s6, e6, k6, _⟩ := among_ok k4 (by omega) [(-1), 0, 36524, 36525] (by decide) (by decide)
      obtain ⟨g, s5, e5, k5⟩ := spec_l04DrawGoal_ok k6 (by omega)
      simp only [if_true, e6, Option.bind_some, spec_DrawReadyStacks_p0_eq, src_eta, e5, List.take_length]
      exact ⟨_, _, rfl⟩
  obtain ⟨d, w, hd⟩ := hdraw
  exact p1_core v0 v1 xs air d w l1 l2 hd (law_p3 v0 v1 h1 h2 m1 m2)

/-! The thickest board. -/
theorem thick_loop (m h goal d : Int) (hm : 0 ≤ m ∧ m ≤ 1000) (hh : 0 ≤ h ∧ h ≤ 1000) (hd : 0 ≤ d ∧ d ≤ 4000) : ∀ (k : Nat) (t : Int), t - 9 = k → t ≤ 1000 → (t = 1000 ∨ goal < aft (evenP h) (t + 1) d.toNat m) →
    ∃ n e : Int, impl_ThickToDry_p1 m h goal d t = some (n, e) ∧ ((e = 0 ∧ 10 ≤ n ∧ n ≤ 1000 ∧ aft (evenP h) n d.toNat m ≤ goal ∧ (n = 1000 ∨ goal < aft (evenP h) (n + 1) d.toNat m)) ∨ (e = 3 ∧ n = 0))
  | 0, t, hk, ht, hp => by
    rw [impl_ThickToDry_p1_eq]
    have : ¬ t ≥ 10 := by omega
    simp only [this, decide_false, Bool.false_eq_true, if_false]
    exact ⟨0, 3, rfl, .inr ⟨rfl, rfl⟩⟩
  | k + 1, t, hk, ht, hp => by
    rw [impl_ThickToDry_p1_eq]
    have h10 : t ≥ 10 := by omega
    simp only [h10, decide_true, if_true, impl_after_ok [] m t 0 h d hm (by omega) hh hd, Option.bind_some]
    by_cases hs : aft (evenP h) t d.toNat m ≤ goal
    · simp only [hs, decide_true, if_true]
      exact ⟨t, 0, rfl, .inl ⟨rfl, h10, ht, hs, hp⟩⟩
    · simp only [hs, decide_false, Bool.false_eq_true, if_false, w64 (n := t - 1) (by omega) (by omega)]
      exact thick_loop m h goal d hm hh hd k (t - 1) (by omega) (by omega) (.inr (by rw [show t - 1 + 1 = t by omega]; omega))
theorem p0_core (v0 v1 : List Int) (m h goal d : Int) (hdraw : spec_DrawThickToDry v0 = some (m, h, goal, d)) (hp1 : laws_FnStacks_p1 v0 v1 = some true) : laws_FnStacks_p0 v0 v1 = some true := by
  rw [laws_FnStacks_p0_eq, hdraw, Option.bind_some]
  simp only []
  rw [impl_ThickToDry_eq]
  simp only [impl_isPart_eq, impl_isDry_eq, impl_within_ok, Option.bind_some]
  cases h1 : inR m 0 1000
  · exact hp1
  simp only [Bool.not_true, Bool.false_eq_true, if_false]
  cases h2 : inR h 0 1000
  · exact hp1
  simp only [Bool.not_true, Bool.false_eq_true, if_false]
  cases h3 : inR goal 0 1000
  · exact hp1
  simp only [Bool.not_true, Bool.false_eq_true, if_false]
  cases h4 : inR d 0 4000
  · exact hp1
  have k1 := inR_iff'.1 h1
  have k2 := inR_iff'.1 h2
  have k4 := inR_iff'.1 h4
  simp only [Bool.not_true, Bool.false_eq_true, if_false, impl_ThickToDry_p0_eq]
  obtain ⟨n, e, en, ⟨rfl, n0, n1, n2, n3⟩ | ⟨rfl, rfl⟩⟩ := thick_loop m h goal d k1 k2 k4 991 1000 (by omega) (by omega) (.inl rfl)
  · have ox : isName [120] = true := by decide
    have o1 : stackOk ([120], m, n, 0, ()) = true := stackOk_iff.2 ⟨ox, k1, ⟨n0, n1⟩, by omega⟩
    have n2' : ¬ aft (evenP h) n d.toNat m > goal := by omega
    simp only [en, Option.bind_some, beq_self_eq_true, if_true, w64 (n := n + 1) (by omega) (by omega), spec_MoistureAfter_ok [120] m n 0 h d (by decide), spec_MoistureAfter_ok [120] m (n + 1) 0 h d (by decide), moistP, o1, h2, h4, and_self, bne_self_eq_false, Bool.false_eq_true, if_false, n2', decide_false]
    by_cases hn : n = 1000
    · have o2 : stackOk ([120], m, n + 1, 0, ()) = false := by
        cases hv : stackOk ([120], m, n + 1, 0, ())
        · rfl
        · have := stackOk_iff.1 hv; omega
      simp only [o2, Bool.false_eq_true, if_false, show ((1 : Int) == 0) = false from rfl, hp1]
    · have o2 : stackOk ([120], m, n + 1, 0, ()) = true := stackOk_iff.2 ⟨ox, k1, by omega, by omega⟩
      have n3' : ¬ aft (evenP h) (n + 1) d.toNat m ≤ goal := by have := n3.resolve_left hn; omega
      simp only [o2, if_true, beq_self_eq_true, n3', decide_false, Bool.false_eq_true, if_false, hp1]
  · simp only [en, Option.bind_some]
    exact hp1
theorem law_core (v0 v1 : List Int) (h1 : ∀ x, x ∈ v0 → 0 ≤ x ∧ x ≤ 255) (m1 : ∀ x, x ∈ v1 → 0 ≤ x ∧ x ≤ 255) : laws_FnStacks v0 v1 = some true := by
  rw [laws_FnStacks_eq, laws_b10Long_eq, laws_b10Long_eq]
  simp only [Option.bind_some, decide_eq_true_eq]
  by_cases c1 : (v0.length : Int) > 1048576
  · simp [c1]
  by_cases c2 : (v1.length : Int) > 1048576
  · simp [c2]
  simp only [c1, c2, if_false]
  obtain ⟨s, e, k⟩ := from_ok v0 h1 (by omega)
  obtain ⟨m, s1, e1, k1⟩ := spec_l04DrawShare_ok k (by omega)
  obtain ⟨h, s2, e2, k2⟩ := spec_l04DrawShare_ok k1 (by omega)
  obtain ⟨g, s3, e3, k3⟩ := spec_l04DrawGoal_ok k2 (by omega)
  obtain ⟨d, s4, e4, k4, _⟩ := among_ok k3 (by omega) [0, 5, 30, 90, 300, 4001, (-1)] (by decide) (by decide)
  refine p0_core v0 v1 m h g d ?_ (law_p1 v0 v1 h1 (by omega) m1 (by omega))
  rw [spec_DrawThickToDry_eq, e]
  simp only [Option.bind_some, e1, src_eta, e2, e3, e4]
theorem laws_FnStacks_true (code more : List Int) (h : CT.wf (.sl (.one (.int .u8))) code) (h' : CT.wf (.sl (.one (.int .u8))) more) : laws_FnStacks code more = some true :=
  law_core code more (bytes_ok h) (bytes_ok h')
end Go.Ab.P
