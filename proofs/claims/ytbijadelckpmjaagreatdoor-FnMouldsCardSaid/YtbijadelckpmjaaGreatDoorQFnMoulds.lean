/- Ribs that are stretched fill the mould, blocks stand one behind the other, and a rib's text is read back. Conditions: bytes are bytes. -/
import Derived.Test.YtbijadelckpmjaaGreatDoorBFnMoulds
set_option linter.unusedVariables false
set_option linter.unusedSimpArgs false
namespace Go.Ab.P
open Go.Ab

def rId (x : T_Mode.ty) : List UInt8 := x.1
def rL (x : T_Mode.ty) : Int := x.2.1
def rH (x : T_Mode.ty) : Int := x.2.2.1
theorem ribE (x : T_Mode.ty) : x.2.1 = rL x := rfl
theorem ribF (x : T_Mode.ty) : x.2.2.1 = rH x := rfl
theorem rib_eta (x : T_Mode.ty) : (x.1, x.2.1, x.2.2.1, ()) = x := rfl
theorem rib_ok {x : T_Mode.ty} (h : ribOk x = true) : isName (rId x) = true ∧ (1 ≤ rL x ∧ rL x ≤ 10000) ∧ 1 ≤ rH x ∧ rH x ≤ 10000 := by
  simp only [ribOk, Bool.and_eq_true] at h
  exact ⟨h.1, inR_iff'.1 h.2.1, inR_iff'.1 h.2.2⟩

/-! Texts of ribs. -/
theorem ribText (id : List UInt8) (l h : Int) (hv : ribOk (id, l, h, ()) = true) : ∃ t, t ≠ [] ∧ impl_RibText (id, l, h, ()) = some t ∧ impl_ReadRib t = some ((id, l, h, ()), true) := by
  have hk := rib_ok hv
  have hk : isName id = true ∧ (1 ≤ l ∧ l ≤ 10000) ∧ 1 ≤ h ∧ h ≤ 10000 := hk
  have hn := isName_mem hk.1
  have hx : ∀ x, x ∈ [l, h] → -1000000000000 ≤ x ∧ x ≤ 1000000000000 := fun x hx => by
    simp only [List.mem_cons, List.not_mem_nil, or_false] at hx
    rcases hx with rfl | rfl <;> omega
  have hv' : impl_Rib_valid (id, l, h, ()) = some true := by rw [impl_Rib_valid_ok _ (show id.length < _ by omega), hv]
  refine ⟨id ++ 32 :: listP [l, h], by simp, ?_, ?_⟩
  · rw [impl_RibText_eq, hv']
    simp only [Option.bind_some, Bool.not_true, Bool.false_eq_true, if_false]
    rw [impl_named_ok id [l, h] (by omega) (by simp) (by simp) hx, Option.bind_some]
  · rw [impl_ReadRib_eq, impl_readNamed_ok id [l, h] 2 (isName_no hk.1 (by decide)) (by omega) (by simp) (by simp) hx, Option.bind_some]
    simp [hv']
theorem spec_ribText (id : List UInt8) (l h : Int) (hv : ribOk (id, l, h, ()) = true) : ∃ t, t ≠ [] ∧ spec_RibText (id, l, h, ()) = some t := by
  have hk := rib_ok hv
  have hk : isName id = true ∧ (1 ≤ l ∧ l ≤ 10000) ∧ 1 ≤ h ∧ h ≤ 10000 := hk
  have hn := isName_mem hk.1
  obtain ⟨a, ea, la⟩ := spec_l01Dec_tot l (by omega)
  obtain ⟨b, eb, lb⟩ := spec_l01Dec_tot h (by omega)
  have w1 : IntKind.i64.wrap (0 + 1) = 1 := by decide
  have w2 : IntKind.i64.wrap (1 + 1) = 2 := by decide
  have hlist : spec_l01List [l, h] = some (a ++ [44] ++ b) := by
    have s1 : a.length ≤ strMax := by rw [strMax_eq]; omega
    have s2 : a.length + 1 ≤ strMax := by rw [strMax_eq]; omega
    have s3 : (a ++ [44]).length + b.length ≤ strMax := by rw [strMax_eq]; simp; omega
    have e2 : spec_l01List_p0 [l, h] (a ++ [44] ++ b) 2 = some (a ++ [44] ++ b) := by rw [spec_l01List_p0_eq]; rfl
    have e1 : spec_l01List_p0 [l, h] a 1 = some (a ++ [44] ++ b) := by
      rw [spec_l01List_p0_eq, spec_l01List_p1_eq]
      have c1 : (1 : Int) < (([l, h] : List Int).length : Int) := by simp
      have c2 : (1 : Int) > 0 := by decide
      have c3 : (0 : Int) ≤ 1 := by decide
      have g : ([l, h] : List Int)[(1 : Int).toNat]? = some h := rfl
      simp only [c1, c2, c3, decide_true, if_true, List.length_singleton, s2, g, Option.bind_some, eb, s3, w2, e2]
    rw [spec_l01List_eq, spec_l01List_p0_eq]
    have c0 : ((([l, h] : List Int).length : Int) == 0) = false := by simp
    have c1 : (0 : Int) < (([l, h] : List Int).length : Int) := by simp
    have c2 : ¬ (0 : Int) > 0 := by decide
    have c3 : (0 : Int) ≤ 0 := by decide
    have g : ([l, h] : List Int)[(0 : Int).toNat]? = some l := rfl
    have s0 : ([] : List UInt8).length + a.length ≤ strMax := by simpa using s1
    simp only [c0, c1, c2, Bool.false_eq_true, decide_true, decide_false, if_true, if_false]
    rw [spec_l01List_p1_eq]
    simp only [c3, decide_true, if_true, g, Option.bind_some, ea, s0, List.nil_append, w1, e1]
  have t1 : id.length + 1 ≤ strMax := by rw [strMax_eq]; omega
  have t2 : id.length + 1 + (a ++ [44] ++ b).length ≤ strMax := by rw [strMax_eq]; simp; omega
  refine ⟨(id ++ [32]) ++ (a ++ [44] ++ b), by simp, ?_⟩
  rw [spec_RibText_eq, spec_l06One_ok _ (show id.length < _ by omega), hv]
  simp only [Option.bind_some, Bool.not_true, Bool.false_eq_true, if_false, spec_l06Text_eq, List.length_append (as := id), List.length_singleton, t1, decide_true, if_true, hlist, t2]
theorem p6_core (v0 : List Int) (id : List UInt8) (l h : Int) (hid : id.length ≤ 4) (hd : spec_DrawRibText v0 = some (id, l, h, ())) : laws_FnMoulds_p6 v0 = some true := by
  rw [laws_FnMoulds_p6_eq, hd, Option.bind_some]
  cases hv : ribOk (id, l, h, ())
  · have e1 : impl_RibText (id, l, h, ()) = some [] := by
      rw [impl_RibText_eq, impl_Rib_valid_ok _ (show id.length < _ by omega), hv]; rfl
    have e2 : spec_RibText (id, l, h, ()) = some [] := by
      rw [spec_RibText_eq, spec_l06One_ok _ (show id.length < _ by omega), hv]; rfl
    have e3 : impl_ReadRib [] = some (([], 0, 0, ()), false) := by
      have hr : ∀ x y z : Int, True := fun _ _ _ => trivial
      rw [impl_ReadRib_eq, impl_readNamed_eq, strings_Cut_eq, cut1_none (by simp)]
      have hl : impl_ReadList [] = some ([], false) := by
        rw [impl_ReadList_eq, strings_Split_eq]
        have hs : Lib.splitK [44] 0 (Lib.count [] [44]) [] = [[]] := split1_last (by simp)
        have h1 : (1 : Nat) ≤ ([44] : List UInt8).length := by decide
        have h2 : ([] : List UInt8).length < 4294967281 := by decide
        have h3 : (([] : List UInt8) == [45]) = false := rfl
        simp only [h3, Bool.false_eq_true, if_false, h2, h1, decide_true, Bool.and_self, if_true, hs, Option.bind_some]
        rw [impl_ReadList_p0_eq]
        have h4 : (0 : Int) < (([[]] : List (List UInt8)).length : Int) := by simp
        have h5 : (0 : Int) ≤ 0 := by decide
        have g : ([[]] : List (List UInt8))[(0 : Int).toNat]? = some [] := rfl
        have hd : impl_ReadDecimal [] = some (0, false) := by rw [impl_ReadDecimal_eq]; rfl
        simp only [h4, h5, decide_true, if_true, g, Option.bind_some, hd, Bool.not_false]
      have h2 : ([] : List UInt8).length < 4294967281 := by decide
      simp only [h2, decide_true, if_true, Option.bind_some, hl, Bool.false_eq_true, if_false, Bool.not_false]
    simp [e1, e2, e3]
  · obtain ⟨t, t0, t1, t2⟩ := ribText id l h hv
    obtain ⟨u, u0, u1⟩ := spec_ribText id l h hv
    have c1 : t.isEmpty = false := by simpa using t0
    have c2 : u.isEmpty = false := by simpa using u0
    simp [t1, t2, u1, c1, c2, t0]

/-! Drawn lists. -/
theorem drawOne_ok {s : T_l00Src.ty} {c : Int} (hs : SrcOk s c) (hc : c ≤ 100000) (id : List UInt8) : ∃ (l h : Int) (s' : T_l00Src.ty), spec_l06DrawOne s id = some ((id, l, h, ()), s') ∧ SrcOk s' (c + 4) := by
  obtain ⟨u1, s1, e1, k1, _⟩ := pick_ok hs (by omega) 160 (by omega)
  obtain ⟨u2, s2, e2, k2, _⟩ := pick_ok k1 (by omega) 20 (by omega)
  rw [spec_l06DrawOne_eq]
  simp only [e1, e2, Option.bind_some, src_eta]
  exact ⟨_, _, s2, rfl, k2.up (by omega)⟩
theorem bent_ok {s : T_l00Src.ty} {c : Int} (hs : SrcOk s c) (hc : c ≤ 100000) (id : List UInt8) (l h : Int) : ∃ (l' h' : Int) (s' : T_l00Src.ty), spec_l06Bent s (id, l, h, ()) = some ((id, l', h', ()), s') ∧ SrcOk s' (c + 4) := by
  obtain ⟨v, s1, e1, k1, _⟩ := pick_ok hs (by omega) 16 (by omega)
  obtain ⟨a, t1, f1, g1, _⟩ := among_ok k1 (by omega) [0, 1, 10000, 10001] (by decide) (by decide)
  rw [spec_l06Bent_eq]
  simp only [e1, f1, Option.bind_some, src_eta]
  repeat' split
  all_goals exact ⟨_, _, _, rfl, SrcOk.up (by first | exact g1 | exact k1) (by omega)⟩
theorem draw_p1 (n : Nat) (hn : n ≤ 9) : ∀ (k i : Nat) (s : T_l00Src.ty) (c : Int) (r : List T_Mode.ty), i + k = n → SrcOk s c → c + 4 * k ≤ 90000 → r.length = i → (∀ x, x ∈ r → (rId x).length ≤ 30) →
    ∃ (r' : List T_Mode.ty) (s' : T_l00Src.ty), spec_l06Draw_p1 n i s.1 s.2.1 s.2.2.1 r = some (r', s') ∧ SrcOk s' (c + 4 * k) ∧ r'.length ≤ 20 ∧ ∀ x, x ∈ r' → (rId x).length ≤ 30
  | 0, i, s, c, r, hk, hs, hc, hr, hx => by
    rw [spec_l06Draw_p1_eq]
    have : ¬ (i : Int) < (n : Int) := by omega
    simp only [this, decide_false, Bool.false_eq_true, if_false, List.take_length, src_eta]
    exact ⟨r, s, rfl, hs.up (by omega), by omega, hx⟩
  | k + 1, i, s, c, r, hk, hs, hc, hr, hx => by
    rw [spec_l06Draw_p1_eq]
    have hlt : (i : Int) < (n : Int) := by omega
    obtain ⟨u, eu, lu⟩ := spec_l01Dec_tot (i : Int) (by omega)
    have hm : 1 + u.length ≤ strMax := by rw [strMax_eq]; omega
    obtain ⟨m, t, s1, e1, k1⟩ := drawOne_ok hs (by omega) ([110] ++ u)
    have hl : r.length + 1 < lim := by rw [lim_eq]; omega
    simp only [hlt, decide_true, if_true, eu, Option.bind_some, List.length_singleton, hm, src_eta, e1, hl, List.take_length, wsucc (show i < 4611686018427387904 by omega)]
    obtain ⟨r', s', f1, f2, f3, f4⟩ := draw_p1 n hn k (i + 1) s1 (c + 4) (r ++ [([110] ++ u, m, t, ())]) (by omega) k1 (by omega) (by simp; omega) (fun x hx' => by
      rcases List.mem_append.1 hx' with h | h
      · exact hx x h
      · simp only [List.mem_singleton] at h; subst h; simp [rId]; omega)
    exact ⟨r', s', f1, f2.up (by omega), f3, f4⟩
theorem draw_p0 : ∀ (k i : Nat) (s : T_l00Src.ty) (c : Int) (r : List T_Mode.ty), i + k = 6 → SrcOk s c → c + 10 * k ≤ 2000 → r.length ≤ i → (∀ x, x ∈ r → (rId x).length ≤ 30) →
    ∃ (r' : List T_Mode.ty) (s' : T_l00Src.ty), spec_l06Draw_p0 i s.1 s.2.1 s.2.2.1 [[114, 97], [114, 98], [114, 99], [114, 100], [114, 101], [114, 102]] r = some (r', s') ∧ SrcOk s' 20000 ∧ r'.length ≤ 20 ∧ ∀ x, x ∈ r' → (rId x).length ≤ 30
  | 0, i, s, c, r, hk, hs, hc, hr, hx => by
    have hi : i = 6 := by omega
    subst hi
    rw [spec_l06Draw_p0_eq]
    have h4 : ¬ ((6 : Nat) : Int) < (([[114, 97], [114, 98], [114, 99], [114, 100], [114, 101], [114, 102]] : List (List UInt8)).length : Int) := by simp
    obtain ⟨v, s1, e1, k1, _⟩ := pick_ok hs (by omega) 20 (by omega)
    simp only [h4, decide_false, Bool.false_eq_true, if_false, src_eta, e1, Option.bind_some]
    by_cases c0 : v = 0
    · obtain ⟨m, t, s2, e2, k2⟩ := drawOne_ok k1 (by omega) [122, 122]
      obtain ⟨m', t', s3, e3, k3⟩ := bent_ok k2 (by omega) [122, 122] m t
      have hl : r.length + 1 < lim := by rw [lim_eq]; omega
      simp only [c0, beq_self_eq_true, if_true, e2, e3, Option.bind_some, src_eta, hl, decide_true, List.take_length]
      refine ⟨_, s3, rfl, k3.up (by omega), by simp; omega, fun x hx' => ?_⟩
      rcases List.mem_append.1 hx' with h | h
      · exact hx x h
      · simp only [List.mem_singleton] at h; subst h; simp [rId]
    have c0' : (v == 0) = false := by simpa using c0
    by_cases c1 : v = 1
    · obtain ⟨n, s2, e2, k2, hn⟩ := among_ok k1 (by omega) [8, 9] (by decide) (by decide)
      obtain ⟨nn, rfl, hnn⟩ : ∃ nn : Nat, n = nn ∧ nn ≤ 9 := by
        simp at hn
        rcases hn with rfl | rfl
        · exact ⟨8, rfl, by omega⟩
        · exact ⟨9, rfl, by omega⟩
      obtain ⟨r', s', f1, f2, f3, f4⟩ := draw_p1 nn hnn nn 0 s2 _ [] (by omega) k2 (by omega) rfl (fun x hx => by cases hx)
      have f1 : spec_l06Draw_p1 (nn : Int) 0 s2.1 s2.2.1 s2.2.2.1 [] = some (r', s') := f1
      simp only [c1, show ((1 : Int) == 0) = false from rfl, beq_self_eq_true, Bool.false_eq_true, if_false, if_true, e2, Option.bind_some, f1]
      exact ⟨r', s', rfl, f2.up (by omega), f3, f4⟩
    · have c1' : (v == 1) = false := by simpa using c1
      simp only [c0', c1', Bool.false_eq_true, if_false, List.take_length, src_eta]
      exact ⟨r, s1, rfl, k1.up (by omega), by omega, hx⟩
  | k + 1, i, s, c, r, hk, hs, hc, hr, hx => by
    rw [spec_l06Draw_p0_eq]
    have h4 : (i : Int) < (([[114, 97], [114, 98], [114, 99], [114, 100], [114, 101], [114, 102]] : List (List UInt8)).length : Int) := by simp; omega
    have hi0 : (0 : Int) ≤ (i : Int) := by omega
    have hi4 : i < ([[114, 97], [114, 98], [114, 99], [114, 100], [114, 101], [114, 102]] : List (List UInt8)).length := by simp; omega
    obtain ⟨b, s1, e1, k1⟩ := one_ok hs (by omega) 4 (by omega)
    simp only [h4, decide_true, if_true, src_eta, e1, Option.bind_some, hi0, Bool.and_self, Int.toNat_natCast, getElem?_lt hi4, wsucc (show i < 4611686018427387904 by omega)]
    cases b
    · obtain ⟨m, t, s2, e2, k2⟩ := drawOne_ok k1 (by omega) ([[114, 97], [114, 98], [114, 99], [114, 100], [114, 101], [114, 102]] : List (List UInt8))[i]
      have hl : r.length + 1 < lim := by rw [lim_eq]; omega
      simp only [Bool.not_false, if_true, src_eta, e2, Option.bind_some, hl, decide_true, List.take_length]
      have hid : (([[114, 97], [114, 98], [114, 99], [114, 100], [114, 101], [114, 102]] : List (List UInt8))[i]).length ≤ 30 := by
        have : ∀ x, x ∈ ([[114, 97], [114, 98], [114, 99], [114, 100], [114, 101], [114, 102]] : List (List UInt8)) → x.length ≤ 30 := by decide
        exact this _ (List.getElem_mem hi4)
      exact draw_p0 k (i + 1) s2 (c + 8) _ (by omega) (k2.up (by omega)) (by omega) (by simp; omega) (fun x hx' => by
        rcases List.mem_append.1 hx' with h | h
        · exact hx x h
        · simp only [List.mem_singleton] at h; subst h; exact hid)
    · simp only [Bool.not_true, Bool.false_eq_true, if_false]
      exact draw_p0 k (i + 1) s1 (c + 2) r (by omega) (k1.up (by omega)) (by omega) (by omega) hx
theorem draw_ok {s : T_l00Src.ty} (hs : SrcOk s 0) : ∃ (r : List T_Mode.ty) (s' : T_l00Src.ty), spec_l06Draw s = some (r, s') ∧ SrcOk s' 20000 ∧ r.length ≤ 20 ∧ ∀ x, x ∈ r → (rId x).length ≤ 30 := by
  rw [spec_l06Draw_eq]
  exact draw_p0 6 0 s 0 [] (by omega) hs (by omega) (by simp) (fun x hx => by cases hx)
theorem law_p6 (v0 : List Int) (h1 : ∀ x, x ∈ v0 → 0 ≤ x ∧ x ≤ 255) (h2 : v0.length ≤ 1048576) : laws_FnMoulds_p6 v0 = some true := by
  obtain ⟨s, e, k⟩ := from_ok v0 h1 h2
  obtain ⟨l, h, s1, e1, k1⟩ := drawOne_ok k (by omega) [114, 97]
  obtain ⟨l', h', s2, e2, k2⟩ := bent_ok k1 (by omega) [114, 97] l h
  refine p6_core v0 [114, 97] l' h' (by simp) ?_
  rw [spec_DrawRibText_eq, e]
  simp only [Option.bind_some, e1, src_eta, e2]

/-! Blocks. -/
def sumL (xs : List T_Mode.ty) : Int := (xs.map rL).sum
theorem sumL_take (xs : List T_Mode.ty) (i : Nat) (h : i < xs.length) : sumL (xs.take (i + 1)) = sumL (xs.take i) + rL xs[i] := by
  unfold sumL
  rw [List.take_add_one, getElem?_lt h, List.map_append, List.sum_append]
  simp
theorem sumL_bd {m : Int} (hm : 0 ≤ m) : ∀ (xs : List T_Mode.ty), (∀ x, x ∈ xs → 0 ≤ rL x ∧ rL x ≤ m) → 0 ≤ sumL xs ∧ sumL xs ≤ m * xs.length
  | [], _ => by simp [sumL]
  | x :: r, h => by
    have h1 := sumL_bd hm r fun y hy => h y (List.mem_cons_of_mem _ hy)
    have h2 := h x (by simp)
    have e : sumL (x :: r) = rL x + sumL r := by simp [sumL]
    have e2 : m * ((x :: r).length : Int) = m * (r.length : Int) + m := by rw [List.length_cons]; push_cast; rw [Int.mul_add, Int.mul_one]
    rw [e, e2]; omega
def offs (xs : List T_Mode.ty) (n : Nat) : List Int := (List.range n).map fun j => sumL (xs.take j)
theorem offs_succ (xs : List T_Mode.ty) (n : Nat) : offs xs (n + 1) = offs xs n ++ [sumL (xs.take n)] := by
  unfold offs; rw [List.range_succ, List.map_append]; rfl
theorem blocks_loop (height : Int) (xs : List T_Mode.ty) (hs : xs.length ≤ 20) (hx : ∀ x, x ∈ xs → 1 ≤ rL x ∧ rL x ≤ 10000) : ∀ (k i : Nat), i + k = xs.length → (∀ (j : Nat) (h : j < xs.length), j < i → ¬ rH xs[j] < height) →
    ∃ (r : List Int) (e : Int), impl_BlocksAt_p0 height (sumL (xs.take i)) xs xs.length i (offs xs i) = some (r, e) ∧ ((e = 0 ∧ r = offs xs xs.length ∧ ∀ (j : Nat) (h : j < xs.length), ¬ rH xs[j] < height) ∨ (e ≠ 0))
  | 0, i, hk, hj => by
    have hi : i = xs.length := by omega
    subst hi
    rw [impl_BlocksAt_p0_eq]
    have : ¬ ((xs.length : Nat) : Int) < (xs.length : Int) := by omega
    simp only [this, decide_false, Bool.false_eq_true, if_false, List.take_length]
    exact ⟨_, 0, rfl, .inl ⟨rfl, rfl, fun j h => hj j h h⟩⟩
  | k + 1, i, hk, hj => by
    have hi : i < xs.length := by omega
    have hlt : (i : Int) < (xs.length : Int) := by omega
    have hi0 : (0 : Int) ≤ (i : Int) := by omega
    have hb := sumL_bd (m := 10000) (by omega) (xs.take i) fun x h => by have := hx x (List.mem_of_mem_take h); omega
    have hl : (xs.take i).length ≤ 20 := by rw [List.length_take]; omega
    have hr := hx xs[i] (List.getElem_mem hi)
    have hlim : (offs xs i).length + 1 < lim := by rw [lim_eq]; simp [offs]; omega
    rw [impl_BlocksAt_p0_eq]
    simp only [hlt, decide_true, if_true, hi0, Int.toNat_natCast, getElem?_lt hi, Option.bind_some, ribE]
    by_cases hc : rH xs[i] < height
    · have e : decide (xs[i].2.2.1 < height) = true := decide_eq_true hc
      simp only [e, if_true]
      exact ⟨[], 6, rfl, .inr (by decide)⟩
    · have e : decide (xs[i].2.2.1 < height) = false := decide_eq_false hc
      simp only [e, Bool.false_eq_true, if_false, hlim, decide_true, if_true, List.take_length, w64 (n := sumL (xs.take i) + rL xs[i]) (by omega) (by omega), wsucc (show i < 4611686018427387904 by omega)]
      rw [← sumL_take xs i hi, ← offs_succ]
      exact blocks_loop height xs hs hx k (i + 1) (by omega) (fun j h hj' => by
        by_cases e : j = i
        · subst e; exact hc
        · exact hj j h (by omega))
theorem law_p5 (v0 : List Int) (height : Int) (xs : List T_Mode.ty) (hs : xs.length ≤ 20) (hx : ∀ x, x ∈ xs → 1 ≤ rL x ∧ rL x ≤ 10000) (hh : ∀ (j : Nat) (h : j < xs.length), ¬ rH xs[j] < height) : ∀ (k i : Nat), i + k = xs.length →
    laws_FnMoulds_p5 v0 height (sumL (xs.take i)) i xs (offs xs xs.length) = laws_FnMoulds_p6 v0
  | 0, i, hk => by
    rw [laws_FnMoulds_p5_eq]
    have : ¬ (i : Int) < (xs.length : Int) := by omega
    simp only [this, decide_false, Bool.false_eq_true, if_false]
  | k + 1, i, hk => by
    have hi : i < xs.length := by omega
    have hlt : (i : Int) < (xs.length : Int) := by omega
    have hi0 : (0 : Int) ≤ (i : Int) := by omega
    have hb := sumL_bd (m := 10000) (by omega) (xs.take i) fun x h => by have := hx x (List.mem_of_mem_take h); omega
    have hl : (xs.take i).length ≤ 20 := by rw [List.length_take]; omega
    have hr := hx xs[i] (List.getElem_mem hi)
    have ho : ((offs xs xs.length).length : Int) = xs.length := by simp [offs]
    have hg : (offs xs xs.length)[i]? = some (sumL (xs.take i)) := by unfold offs; rw [List.getElem?_map, List.getElem?_range hi]; rfl
    have e : decide (xs[i].2.2.1 < height) = false := decide_eq_false (hh i hi)
    have ih := law_p5 v0 height xs hs hx hh k (i + 1) (by omega)
    rw [laws_FnMoulds_p5_eq]
    simp only [hlt, hi0, ho, decide_true, Bool.and_self, if_true, Int.toNat_natCast, hg, Option.bind_some, bne_self_eq_false, Bool.false_eq_true, if_false, getElem?_lt hi, e, laws_FnMoulds_p7_eq, ribE, w64 (n := sumL (xs.take i) + rL xs[i]) (by omega) (by omega), wsucc (show i < 4611686018427387904 by omega)]
    rw [← sumL_take xs i hi]
    exact ih
theorem p3_core (v0 v1 : List Int) (xs : List T_Mode.ty) (height : Int) (hl : xs.length ≤ 20) (hx : ∀ x, x ∈ xs → (rId x).length ≤ 30) (hd : spec_DrawBlocksAt v1 = some (xs, height)) (hp6 : laws_FnMoulds_p6 v0 = some true) : laws_FnMoulds_p3 v0 v1 = some true := by
  rw [laws_FnMoulds_p3_eq, hd, Option.bind_some]
  simp only [List.take_length]
  rw [impl_BlocksAt_eq, impl_ValidRibs_ok xs (by omega) (fun x hm => by have := hx x hm; have e : x.1.length = (rId x).length := rfl; omega)]
  cases hv : ribsOk xs
  · exact hp6
  simp only [Option.bind_some, Bool.not_true, Bool.false_eq_true, if_false, impl_within_ok]
  cases hh : inR height 1 10000
  · exact hp6
  have hok : ∀ x, x ∈ xs → 1 ≤ rL x ∧ rL x ≤ 10000 := fun x hm => (rib_ok (ribsOk_all hv x hm)).2.1
  obtain ⟨r, e, he, h⟩ := blocks_loop height xs hl hok xs.length 0 (by omega) (fun j _ h => by omega)
  have he : impl_BlocksAt_p0 height 0 xs (xs.length : Int) 0 [] = some (r, e) := he
  simp only [Bool.not_true, Bool.false_eq_true, if_false, he, Option.bind_some]
  rcases h with ⟨rfl, rfl, h3⟩ | h
  · have ho : (((offs xs xs.length).length : Int) != (xs.length : Int)) = false := by simp [offs]
    have hp := law_p5 v0 height xs hl hok h3 xs.length 0 (by omega)
    have hp : laws_FnMoulds_p5 v0 height 0 0 xs (offs xs xs.length) = laws_FnMoulds_p6 v0 := hp
    simp only [beq_self_eq_true, if_true, ho, Bool.false_eq_true, if_false, hp, hp6]
  · have : (e == 0) = false := by simpa using h
    simp only [this, Bool.false_eq_true, if_false, hp6]
theorem law_p3 (v0 v1 : List Int) (h1 : ∀ x, x ∈ v0 → 0 ≤ x ∧ x ≤ 255) (h2 : v0.length ≤ 1048576) (m1 : ∀ x, x ∈ v1 → 0 ≤ x ∧ x ≤ 255) (m2 : v1.length ≤ 1048576) : laws_FnMoulds_p3 v0 v1 = some true := by
  obtain ⟨s, e, k⟩ := from_ok v1 m1 m2
  obtain ⟨xs, s1, e1, k1, l1, l2⟩ := draw_ok k
  obtain ⟨h, s2, e2, k2, _⟩ := among_ok k1 (by omega) [1, 200, 250, 300, 10000, 10001, 0] (by decide) (by decide)
  refine p3_core v0 v1 xs h l1 l2 ?_ (law_p6 v0 h1 h2)
  rw [spec_DrawBlocksAt_eq, e]
  simp only [Option.bind_some, e1, src_eta, e2, List.take_length]

/-! Stretching. -/
theorem step_len {α : Type} (f : α → α) (xs : List α) (i : Nat) : ((xs.take i).map f ++ xs.drop i).length = xs.length := by
  rw [List.length_append, List.length_map, List.length_take, List.length_drop]; omega
theorem step_get {α : Type} (f : α → α) (xs : List α) (i : Nat) (hi : i < xs.length) : ((xs.take i).map f ++ xs.drop i)[i]? = some xs[i] := by
  have hl : ((xs.take i).map f).length = i := by rw [List.length_map, List.length_take]; omega
  rw [List.getElem?_append_right (by omega), hl, Nat.sub_self, drop_cons hi]; rfl
theorem step_set {α : Type} (f : α → α) (xs : List α) (i : Nat) (hi : i < xs.length) : ((xs.take i).map f ++ xs.drop i).set i (f xs[i]) = (xs.take (i + 1)).map f ++ xs.drop (i + 1) := by
  have hl : ((xs.take i).map f).length = i := by rw [List.length_map, List.length_take]; omega
  rw [List.set_append_right _ _ (by omega), hl, Nat.sub_self, drop_cons hi, List.set_cons_zero, List.take_add_one, getElem?_lt hi, List.map_append, List.append_assoc]
  rfl
theorem length_loop (xs : List T_Mode.ty) (hs : xs.length ≤ 20) (hx : ∀ x, x ∈ xs → 0 ≤ rL x ∧ rL x ≤ 10000000000) : ∀ (k i : Nat), i + k = xs.length → impl_ribsLength_p0 (sumL (xs.take i)) xs xs.length i = some (sumL xs)
  | 0, i, hk => by
    have hi : i = xs.length := by omega
    subst hi
    rw [impl_ribsLength_p0_eq]
    have : ¬ ((xs.length : Nat) : Int) < (xs.length : Int) := by omega
    simp only [this, decide_false, Bool.false_eq_true, if_false, List.take_length]
  | k + 1, i, hk => by
    have hi : i < xs.length := by omega
    have hlt : (i : Int) < (xs.length : Int) := by omega
    have hi0 : (0 : Int) ≤ (i : Int) := by omega
    have hb := sumL_bd (m := 10000000000) (by omega) (xs.take i) fun x h => hx x (List.mem_of_mem_take h)
    have hl : (xs.take i).length ≤ 20 := by rw [List.length_take]; omega
    have hr := hx xs[i] (List.getElem_mem hi)
    rw [impl_ribsLength_p0_eq]
    simp only [hlt, decide_true, if_true, hi0, Int.toNat_natCast, getElem?_lt hi, Option.bind_some, ribE, w64 (n := sumL (xs.take i) + rL xs[i]) (by omega) (by omega), wsucc (show i < 4611686018427387904 by omega)]
    rw [← sumL_take xs i hi]
    exact length_loop xs hs hx k (i + 1) (by omega)
theorem length_ok (xs : List T_Mode.ty) (hs : xs.length ≤ 20) (hx : ∀ x, x ∈ xs → 0 ≤ rL x ∧ rL x ≤ 10000000000) : impl_ribsLength xs = some (sumL xs) := by
  rw [impl_ribsLength_eq]
  exact length_loop xs hs hx xs.length 0 (by omega)
def str1 (round long : Int) (x : T_Mode.ty) : T_Mode.ty := (x.1, round * rL x / long, x.2.2.1, ())
def bmp (x : T_Mode.ty) : T_Mode.ty := (x.1, rL x + 1, x.2.2.1, ())
theorem prod_bd {a b A B : Int} (ha : 0 ≤ a ∧ a ≤ A) (hb : 0 ≤ b ∧ b ≤ B) : 0 ≤ a * b ∧ a * b ≤ A * B := ⟨Int.mul_nonneg ha.1 hb.1, Int.mul_le_mul ha.2 hb.2 hb.1 (by omega)⟩
theorem str1_bd {round long : Int} {x : T_Mode.ty} (hr : 0 ≤ round ∧ round ≤ 100000) (hl : 1 ≤ long) (hx : 1 ≤ rL x ∧ rL x ≤ 10000) : (0 ≤ rL (str1 round long x) ∧ rL (str1 round long x) ≤ 1000000000) ∧ rL (str1 round long x) * long ≤ round * rL x ∧ round * rL x < (rL (str1 round long x) + 1) * long := by
  have hp := prod_bd (a := round) (b := rL x) hr (show 0 ≤ rL x ∧ rL x ≤ 10000 by omega)
  have e : rL (str1 round long x) = round * rL x / long := rfl
  rw [e]
  have h0 : 0 ≤ round * rL x / long := Int.ediv_nonneg hp.1 (by omega)
  have h1 : round * rL x / long ≤ round * rL x := Int.ediv_le_self _ hp.1
  exact ⟨by omega, Int.ediv_mul_le _ (by omega), Int.lt_ediv_add_one_mul_self _ (by omega)⟩
theorem stretch_loop (round long : Int) (xs : List T_Mode.ty) (hs : xs.length ≤ 20) (hx : ∀ x, x ∈ xs → 1 ≤ rL x ∧ rL x ≤ 10000) (hr : 0 ≤ round ∧ round ≤ 100000) (hl : 1 ≤ long ∧ long ≤ 1000000) : ∀ (k i : Nat), i + k = xs.length →
    impl_StretchRibs_p0 xs round long xs.length xs.length i ((xs.take i).map (str1 round long) ++ xs.drop i) = (impl_ribsLength (xs.map (str1 round long))).bind fun x3 => impl_StretchRibs_p1 xs.length (IntKind.i64.wrap (round - x3)) 0 (xs.map (str1 round long))
  | 0, i, hk => by
    have hi : i = xs.length := by omega
    subst hi
    rw [impl_StretchRibs_p0_eq]
    have : ¬ ((xs.length : Nat) : Int) < (xs.length : Int) := by omega
    have e : (xs.map (str1 round long)).take xs.length = xs.map (str1 round long) := List.take_of_length_le (by simp)
    simp only [this, decide_false, Bool.false_eq_true, if_false, List.take_length, List.drop_length, List.append_nil, e]
  | k + 1, i, hk => by
    have hi : i < xs.length := by omega
    have hlt : (i : Int) < (xs.length : Int) := by omega
    have hi0 : (0 : Int) ≤ (i : Int) := by omega
    have hxi := hx xs[i] (List.getElem_mem hi)
    have hp := prod_bd (a := round) (b := rL xs[i]) hr (show 0 ≤ rL xs[i] ∧ rL xs[i] ≤ 10000 by omega)
    have hb := (str1_bd (x := xs[i]) hr hl.1 hxi).1
    have hb : 0 ≤ round * rL xs[i] / long ∧ round * rL xs[i] / long ≤ 1000000000 := hb
    have hz : ¬ long = 0 := by omega
    rw [impl_StretchRibs_p0_eq]
    simp only [hlt, decide_true, if_true, hi0, Bool.and_self, Int.toNat_natCast, getElem?_lt hi, Option.bind_some, hz, decide_false, Bool.false_eq_true, if_false, step_get (str1 round long) xs i hi, ribE, w64 (n := round * rL xs[i]) (by omega) (by omega), tdiv_nonneg_eq hp.1, w64 (n := round * rL xs[i] / long) (by omega) (by omega), wsucc (show i < 4611686018427387904 by omega)]
    have hset := step_set (str1 round long) xs i hi
    have hset : ((xs.take i).map (str1 round long) ++ xs.drop i).set i (xs[i].1, round * rL xs[i] / long, xs[i].2.2.1, ()) = (xs.take (i + 1)).map (str1 round long) ++ xs.drop (i + 1) := hset
    rw [hset]
    exact stretch_loop round long xs hs hx hr hl k (i + 1) (by omega)
theorem bump_loop (ys : List T_Mode.ty) (m : Nat) (hm : m ≤ ys.length) (hs : ys.length ≤ 20) (hx : ∀ x, x ∈ ys → 0 ≤ rL x ∧ rL x ≤ 1000000000) : ∀ (k i : Nat), i + k = m →
    impl_StretchRibs_p1 ys.length m i ((ys.take i).map bmp ++ ys.drop i) = (impl_ValidRibs ((ys.take m).map bmp ++ ys.drop m)).bind fun x3 => if (!x3) then some ([], 6) else some ((ys.take m).map bmp ++ ys.drop m, 0)
  | 0, i, hk => by
    have hi : i = m := by omega
    subst hi
    rw [impl_StretchRibs_p1_eq]
    have : ¬ ((i : Nat) : Int) < (i : Int) := by omega
    have e : ((ys.take i).map bmp ++ ys.drop i).take ys.length = (ys.take i).map bmp ++ ys.drop i := List.take_of_length_le (by rw [step_len]; exact Nat.le_refl _)
    simp only [this, decide_false, Bool.false_eq_true, if_false, e]
  | k + 1, i, hk => by
    have hi : i < ys.length := by omega
    have hlt : (i : Int) < (m : Int) := by omega
    have hlt' : (i : Int) < (ys.length : Int) := by omega
    have hi0 : (0 : Int) ≤ (i : Int) := by omega
    have hxi := hx ys[i] (List.getElem_mem hi)
    rw [impl_StretchRibs_p1_eq]
    simp only [hlt, hlt', decide_true, if_true, hi0, Bool.and_self, Int.toNat_natCast, step_get bmp ys i hi, Option.bind_some, ribE, w64 (n := rL ys[i] + 1) (by omega) (by omega), wsucc (show i < 4611686018427387904 by omega)]
    have hset := step_set bmp ys i hi
    have hset : ((ys.take i).map bmp ++ ys.drop i).set i (ys[i].1, rL ys[i] + 1, ys[i].2.2.1, ()) = (ys.take (i + 1)).map bmp ++ ys.drop (i + 1) := hset
    rw [hset]
    exact bump_loop ys m hm hs hx k (i + 1) (by omega)
theorem sums (round long : Int) (hr : 0 ≤ round ∧ round ≤ 100000) (hl : 1 ≤ long) : ∀ xs : List T_Mode.ty, (∀ x, x ∈ xs → 1 ≤ rL x ∧ rL x ≤ 10000) →
    sumL (xs.map (str1 round long)) * long ≤ round * sumL xs ∧ round * sumL xs ≤ (sumL (xs.map (str1 round long)) + xs.length) * long - xs.length
  | [], _ => by simp [sumL]
  | x :: r, h => by
    obtain ⟨h1, h2⟩ := sums round long hr hl r fun y hy => h y (List.mem_cons_of_mem _ hy)
    obtain ⟨_, h3, h4⟩ := str1_bd (round := round) (long := long) (x := x) hr hl (h x (by simp))
    have e1 : sumL ((x :: r).map (str1 round long)) = rL (str1 round long x) + sumL (r.map (str1 round long)) := by simp [sumL]
    have e2 : sumL (x :: r) = rL x + sumL r := by simp [sumL]
    have e3 : (((x :: r).length : Nat) : Int) = (r.length : Int) + 1 := by simp
    rw [e1, e2, e3]
    rw [Int.add_mul] at h2 h4
    have e4 : (rL (str1 round long x) + sumL (r.map (str1 round long)) + ((r.length : Int) + 1)) * long = rL (str1 round long x) * long + sumL (r.map (str1 round long)) * long + ((r.length : Int) * long + 1 * long) := by rw [Int.add_mul, Int.add_mul, Int.add_mul]
    rw [e4, Int.add_mul, Int.mul_add]
    omega
theorem sum_bump : ∀ (ys : List T_Mode.ty) (m : Nat), m ≤ ys.length → sumL ((ys.take m).map bmp ++ ys.drop m) = sumL ys + m
  | ys, 0, _ => by simp [sumL]
  | [], m + 1, h => by simp at h
  | y :: r, m + 1, h => by
    have ih := sum_bump r m (by simpa using h)
    have e1 : sumL (((y :: r).take (m + 1)).map bmp ++ (y :: r).drop (m + 1)) = rL y + 1 + sumL ((r.take m).map bmp ++ r.drop m) := by simp [sumL, bmp, rL]
    have e2 : sumL (y :: r) = rL y + sumL r := by simp [sumL]
    rw [e1, e2, ih]; omega

theorem bump_get (ys : List T_Mode.ty) (m : Nat) (i : Nat) (hi : i < ys.length) : ∃ z, ((ys.take m).map bmp ++ ys.drop m)[i]? = some z ∧ (z = bmp ys[i] ∨ z = ys[i]) := by
  by_cases h : i < m
  · refine ⟨bmp ys[i], ?_, .inl rfl⟩
    rw [List.getElem?_append_left (by rw [List.length_map, List.length_take]; omega), List.getElem?_map, List.getElem?_take_of_lt h, getElem?_lt hi]; rfl
  · refine ⟨ys[i], ?_, .inr rfl⟩
    have hl : ((ys.take m).map bmp).length = m := by rw [List.length_map, List.length_take]; omega
    rw [List.getElem?_append_right (by omega), hl, List.getElem?_drop, show m + (i - m) = i by omega, getElem?_lt hi]
theorem law_p4 (v0 v1 : List Int) (round long : Int) (xs zs : List T_Mode.ty) (hn : zs.length = xs.length) (hs : xs.length ≤ 20) (hx : ∀ x, x ∈ xs → 1 ≤ rL x ∧ rL x ≤ 10000) (hr : 0 ≤ round ∧ round ≤ 100000) (hl : 1 ≤ long ∧ long ≤ 1000000)
    (hz : ∀ (i : Nat) (h : i < xs.length), ∃ z, zs[i]? = some z ∧ (z = bmp (str1 round long xs[i]) ∨ z = str1 round long xs[i])) : ∀ (k i : Nat), i + k = xs.length → laws_FnMoulds_p4 v0 v1 round long i xs zs = laws_FnMoulds_p3 v0 v1
  | 0, i, hk => by
    rw [laws_FnMoulds_p4_eq, hn]
    have : ¬ (i : Int) < (xs.length : Int) := by omega
    simp only [this, decide_false, Bool.false_eq_true, if_false]
  | k + 1, i, hk => by
    have hi : i < xs.length := by omega
    have hlt : (i : Int) < (xs.length : Int) := by omega
    have hi0 : (0 : Int) ≤ (i : Int) := by omega
    have hxi := hx xs[i] (List.getElem_mem hi)
    obtain ⟨q1, q2, q3⟩ := str1_bd (round := round) (long := long) (x := xs[i]) hr hl.1 hxi
    have hp := prod_bd (a := round) (b := rL xs[i]) hr (show 0 ≤ rL xs[i] ∧ rL xs[i] ≤ 10000 by omega)
    rw [Int.add_mul] at q3
    obtain ⟨z, gz, hz'⟩ := hz i hi
    have z1 : (z.1 == xs[i].1) = true := by rcases hz' with rfl | rfl <;> simp [bmp, str1]
    have z2 : (z.2.2.1 != xs[i].2.2.1) = false := by rcases hz' with rfl | rfl <;> simp [bmp, str1]
    have z0 : 0 ≤ rL (str1 round long xs[i]) * long := Int.mul_nonneg q1.1 (by omega)
    have z3 : 0 ≤ rL z * long ∧ -long ≤ rL z * long - rL xs[i] * round ∧ rL z * long - rL xs[i] * round ≤ long ∧ rL z * long ≤ 2000000000 := by
      rw [Int.mul_comm (rL xs[i])]
      rcases hz' with rfl | rfl
      · have e : rL (bmp (str1 round long xs[i])) * long = rL (str1 round long xs[i]) * long + 1 * long := by
          show (rL (str1 round long xs[i]) + 1) * long = _
          rw [Int.add_mul]
        rw [e]; omega
      · omega
    have z4 : 0 ≤ rL xs[i] * round ∧ rL xs[i] * round ≤ 1000000000 := by rw [Int.mul_comm]; omega
    have z5 := absI_le (n := rL z * long - rL xs[i] * round) (b := long)
    have z6 : ¬ absI (rL z * long - rL xs[i] * round) > long := by
      have := z5.2 ⟨z3.2.1, z3.2.2.1⟩; omega
    have ih := law_p4 v0 v1 round long xs zs hn hs hx hr hl hz k (i + 1) (by omega)
    rw [laws_FnMoulds_p4_eq, hn]
    simp only [hlt, hi0, decide_true, Bool.and_self, if_true, Int.toNat_natCast, gz, getElem?_lt hi, Option.bind_some, z1, Bool.not_true, Bool.false_eq_true, if_false, z2, ribE, w64 (n := rL z * long) (by omega) (by omega), w64 (n := rL xs[i] * round) (by omega) (by omega), w64 (n := rL z * long - rL xs[i] * round) (by omega) (by omega),
      laws_b10Abs_ok (rL z * long - rL xs[i] * round) (by omega), z6, decide_false, wsucc (show i < 4611686018427387904 by omega)]
    exact ih
theorem p0_core (v0 v1 : List Int) (xs : List T_Mode.ty) (round : Int) (hl : xs.length ≤ 20) (hx : ∀ x, x ∈ xs → (rId x).length ≤ 30) (hd : spec_DrawStretchRibs v0 = some (xs, round)) (hp3 : laws_FnMoulds_p3 v0 v1 = some true) : laws_FnMoulds_p0 v0 v1 = some true := by
  have hV := impl_ValidRibs_ok xs (by omega) (fun x hm => by have := hx x hm; have e : x.1.length = (rId x).length := rfl; omega)
  have fail : ∀ (round e g long : Int), e ≠ 0 → laws_FnMoulds_p1 v0 v1 round e g long xs [] = some true := fun round e g long he => by
    rw [laws_FnMoulds_p1_eq]
    have : (e == 0) = false := by simpa using he
    simp only [this, Bool.false_eq_true, if_false, List.length_nil]
    exact hp3
  rw [laws_FnMoulds_p0_eq, hd, Option.bind_some]
  simp only [List.take_length]
  rw [impl_StretchRibs_eq, impl_MouldGap_eq, impl_RibsLength_eq, hV]
  cases hv : ribsOk xs
  · exact fail round 1 1 0 (by decide)
  have hok : ∀ x, x ∈ xs → 1 ≤ rL x ∧ rL x ≤ 10000 := fun x hm => (rib_ok (ribsOk_all hv x hm)).2.1
  have hlen := length_ok xs hl fun x hm => by have := hok x hm; omega
  have hsum := sumL_bd (m := 10000) (by omega) xs fun x hm => by have := hok x hm; omega
  have hge : (xs.length : Int) ≤ sumL xs := by
    have : ∀ ys : List T_Mode.ty, (∀ x, x ∈ ys → 1 ≤ rL x ∧ rL x ≤ 10000) → (ys.length : Int) ≤ sumL ys := fun ys => by
      induction ys with
      | nil => intro _; simp [sumL]
      | cons y r ih =>
        intro h
        have h1 := ih fun z hz => h z (List.mem_cons_of_mem _ hz)
        have h2 := h y (by simp)
        have e2 : sumL (y :: r) = rL y + sumL r := by simp [sumL]
        rw [e2]; simp; omega
    exact this xs hok
  simp only [Option.bind_some, Bool.not_true, Bool.false_eq_true, if_false, impl_isRound_eq, impl_within_ok, hlen]
  cases hr : inR round 0 100000
  · exact fail round 2 2 _ (by decide)
  have kr := inR_iff'.1 hr
  have c1 : (round - sumL xs != IntKind.i64.wrap (round - sumL xs)) = false := by rw [w64 (by omega) (by omega)]; simp
  have c2 : ¬ sumL xs < (xs.length : Int) := by omega
  simp only [Bool.not_true, Bool.false_eq_true, if_false, Option.bind_some, w64 (n := round - sumL xs) (by omega) (by omega), beq_self_eq_true, if_true, bne_self_eq_false, c2, decide_false]
  by_cases h0 : (xs.length : Int) = 0
  · have e : ((xs.length : Int) == 0) = true := by simpa using h0
    simp only [e, if_true, Option.bind_some]
    exact fail round 6 0 _ (by decide)
  have e : ((xs.length : Int) == 0) = false := by simpa using h0
  have hlim : (xs.length : Int).toNat < lim := by rw [lim_eq]; omega
  have hlim' : 0 + xs.length < lim := by rw [lim_eq]; omega
  have hclone : impl_clone_impl_Rib_ xs = some xs := by
    rw [impl_clone_impl_Rib__eq]
    have h1 : (0 : Int) ≤ (xs.length : Int) := by omega
    simp only [h1, hlim, hlim', decide_true, Bool.and_self, if_true, List.nil_append, List.take_length]
  have hlong : 1 ≤ sumL xs ∧ sumL xs ≤ 1000000 := by omega
  have hst := stretch_loop round (sumL xs) xs hl hok kr hlong xs.length 0 (by omega)
  have hst : impl_StretchRibs_p0 xs round (sumL xs) xs.length xs.length 0 xs = _ := hst
  simp only [e, Bool.false_eq_true, if_false, hclone, Option.bind_some, hst]
  generalize hys : xs.map (str1 round (sumL xs)) = ys
  have hyl : ys.length = xs.length := by rw [← hys]; simp
  have hyb : ∀ y, y ∈ ys → 0 ≤ rL y ∧ rL y ≤ 1000000000 := fun y hy => by
    rw [← hys] at hy
    obtain ⟨x, hxm, rfl⟩ := List.mem_map.1 hy
    exact (str1_bd kr hlong.1 (hok x hxm)).1
  obtain ⟨s1, s2⟩ := sums round (sumL xs) kr hlong.1 xs hok
  rw [hys] at s1 s2
  have r1 : sumL ys ≤ round := Int.le_of_mul_le_mul_right s1 (by omega)
  have r2 : round < sumL ys + xs.length := Int.lt_of_mul_lt_mul_right (a := sumL xs) (by omega) (by omega)
  have hys0 := sumL_bd (m := 1000000000) (by omega) ys hyb
  obtain ⟨m, hm⟩ : ∃ m : Nat, round - sumL ys = m := ⟨(round - sumL ys).toNat, by omega⟩
  have hml : m ≤ ys.length := by omega
  have hb := bump_loop ys m hml (by omega) hyb m 0 (by omega)
  have hb : impl_StretchRibs_p1 ys.length (m : Int) 0 ys = _ := hb
  rw [length_ok ys (by omega) (fun y hy => by have := hyb y hy; omega), Option.bind_some, w64 (n := round - sumL ys) (by omega) (by omega), hm, ← hyl, hb]
  generalize hzs : (ys.take m).map bmp ++ ys.drop m = zs
  have hzl : zs.length = xs.length := by rw [← hzs, step_len, hyl]
  have hzsum : sumL zs = round := by rw [← hzs, sum_bump ys m hml]; omega
  have hzb : ∀ z, z ∈ zs → 0 ≤ rL z ∧ rL z ≤ 10000000000 := fun z hz => by
    rw [← hzs] at hz
    rcases List.mem_append.1 hz with h | h
    · obtain ⟨y, hy, rfl⟩ := List.mem_map.1 h
      have := hyb y (List.mem_of_mem_take hy)
      show 0 ≤ rL y + 1 ∧ rL y + 1 ≤ 10000000000
      omega
    · have := hyb z (List.mem_of_mem_drop h); omega
  have hzid : ∀ z, z ∈ zs → z.1.length ≤ 1048576 := fun z hz => by
    have hyid : ∀ y, y ∈ ys → (rId y).length ≤ 30 := fun y hy => by
      rw [← hys] at hy
      obtain ⟨x, hxm, rfl⟩ := List.mem_map.1 hy
      exact hx x hxm
    have : (rId z).length ≤ 30 := by
      rw [← hzs] at hz
      rcases List.mem_append.1 hz with h | h
      · obtain ⟨y, hy, rfl⟩ := List.mem_map.1 h
        exact hyid y (List.mem_of_mem_take hy)
      · exact hyid z (List.mem_of_mem_drop h)
    have e : z.1.length = (rId z).length := rfl
    omega
  rw [impl_ValidRibs_ok zs (by omega) hzid, Option.bind_some]
  cases hzv : ribsOk zs
  · exact fail round 6 0 _ (by decide)
  · simp only [Bool.not_true, Bool.false_eq_true, if_false, Option.bind_some]
    rw [laws_FnMoulds_p1_eq]
    have hgap : impl_MouldGap zs round = some (0, 0) := by
      rw [impl_MouldGap_eq, impl_ValidRibs_ok zs (by omega) hzid, hzv]
      simp only [Option.bind_some, Bool.not_true, Bool.false_eq_true, if_false, impl_isRound_eq, impl_within_ok, hr, length_ok zs (by omega) hzb, hzsum, Int.sub_self]
      rfl
    have c3 : ((zs.length : Int) != (xs.length : Int)) = false := by rw [hzl]; simp
    have hp4 := law_p4 v0 v1 round (sumL xs) xs zs hzl hl hok kr hlong (fun i hi => by
      have hi' : i < ys.length := by omega
      obtain ⟨z, gz, hz⟩ := bump_get ys m i hi'
      have ey : ys[i] = str1 round (sumL xs) xs[i] := by simp [← hys]
      rw [hzs] at gz
      rw [ey] at hz
      exact ⟨z, gz, hz⟩) xs.length 0 (by omega)
    have hp4 : laws_FnMoulds_p4 v0 v1 round (sumL xs) 0 xs zs = laws_FnMoulds_p3 v0 v1 := hp4
    simp only [beq_self_eq_true, if_true, List.take_length, hgap, Option.bind_some, c3, Bool.false_eq_true, if_false, bne_self_eq_false, laws_FnMoulds_p2_eq, hp4, hp3]
theorem law_core (v0 v1 : List Int) (h1 : ∀ x, x ∈ v0 → 0 ≤ x ∧ x ≤ 255) (m1 : ∀ x, x ∈ v1 → 0 ≤ x ∧ x ≤ 255) : laws_FnMoulds v0 v1 = some true := by
  rw [laws_FnMoulds_eq, laws_b10Long_eq, laws_b10Long_eq]
  simp only [Option.bind_some, decide_eq_true_eq]
  by_cases c1 : (v0.length : Int) > 1048576
  · simp [c1]
  by_cases c2 : (v1.length : Int) > 1048576
  · simp [c2]
  simp only [c1, c2, if_false]
  obtain ⟨s, e, k⟩ := from_ok v0 h1 (by omega)
  obtain ⟨xs, s1, e1, k1, l1, l2⟩ := draw_ok k
  have hround : ∃ (r : Int) (s' : T_l00Src.ty), spec_l06DrawRound s1 = some (r, s') := by
    obtain ⟨b, t1, f1, g1⟩ := one_ok k1 (by omega) 8 (by omega)
    rw [spec_l06DrawRound_eq, f1]
    cases b
    · obtain ⟨x, t2, f2, g2, _⟩ := pick_ok g1 (by omega) 1200 (by omega)
      simp only [Option.bind_some, Bool.false_eq_true, if_false, src_eta, f2]
      exact ⟨_, _, rfl⟩
    · obtain ⟨x, t2, f2, g2, _⟩ := among_ok g1 (by omega) [(-1), 0, 100000, 100001] (by decide) (by decide)
      simp only [Option.bind_some, if_true, src_eta, f2]
      exact ⟨_, _, rfl⟩
  obtain ⟨r, s2, e2⟩ := hround
  refine p0_core v0 v1 xs r l1 l2 ?_ (law_p3 v0 v1 h1 (by omega) m1 (by omega))
  rw [spec_DrawStretchRibs_eq, e]
  simp only [Option.bind_some, e1, src_eta, e2, List.take_length]
theorem laws_FnMoulds_true (code more : List Int) (h : CT.wf (.sl (.one (.int .u8))) code) (h' : CT.wf (.sl (.one (.int .u8))) more) : laws_FnMoulds code more = some true :=
  law_core code more (bytes_ok h) (bytes_ok h')
end Go.Ab.P
