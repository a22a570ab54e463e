/- Pegs: the way in, pegs fitted to holes, holes reamed, and a peg's text read back. Conditions: bytes are bytes. -/
import Derived.Test.YtflhphejcnomaaaGreatDoorBFnPegs
set_option linter.unusedVariables false
set_option linter.unusedSectionVars false
set_option linter.unusedSimpArgs false
namespace Go.Ab.P
open Go.Ab

def pId (x : T_Peg.ty) : List UInt8 := x.1
def pD (x : T_Peg.ty) : Int := x.2.1
def pL (x : T_Peg.ty) : Int := x.2.2.1
def pS (x : T_Peg.ty) : Int := x.2.2.2.1
theorem peg_ok {x : T_Peg.ty} (h : pegOk x = true) : isName (pId x) = true ∧ (20 ≤ pD x ∧ pD x ≤ 200) ∧ (100 ≤ pL x ∧ pL x ≤ 1000) ∧ 10 ≤ pS x ∧ pS x ≤ 100 := by
  simp only [pegOk, Bool.and_eq_true] at h
  exact ⟨h.1, inR_iff'.1 h.2.1, inR_iff'.1 h.2.2.1, inR_iff'.1 h.2.2.2⟩
theorem peg_eta (x : T_Peg.ty) : (x.1, x.2.1, x.2.2.1, x.2.2.2.1, ()) = x := rfl
/-- How far a peg goes in. -/
def wayN (d s hole : Int) : Int := (if hole - d > 0 then hole - d else 0) * s
theorem way_bd {d s hole : Int} (hd : 0 ≤ d ∧ d ≤ 1000) (hs : 0 ≤ s ∧ s ≤ 100) (hh : 0 ≤ hole ∧ hole ≤ 1000) : 0 ≤ wayN d s hole ∧ wayN d s hole ≤ 100000 := by
  have hm : 0 ≤ (if hole - d > 0 then hole - d else 0) ∧ (if hole - d > 0 then hole - d else 0) ≤ 1000 := by split <;> omega
  have := mul_bd (b := (if hole - d > 0 then hole - d else 0)) (d := s) (B := 1000) (D := 100) hm (by omega)
  exact ⟨Int.mul_nonneg hm.1 hs.1, this.2⟩
theorem wayIn_ok (id : List UInt8) (d l s hole : Int) (hd : 20 ≤ d ∧ d ≤ 200) (hs : 10 ≤ s ∧ s ≤ 100) (hh : 0 ≤ hole ∧ hole ≤ 1000) : impl_Peg_wayIn (id, d, l, s, ()) hole = some (wayN d s hole, decide (wayN d s hole ≤ l)) := by
  have hb := way_bd (d := d) (s := s) (hole := hole) (by omega) (by omega) hh
  rw [impl_Peg_wayIn_eq]
  simp only [w64 (n := hole - d) (by omega) (by omega)]
  unfold wayN at hb ⊢
  rw [w64 (n := (if hole - d > 0 then hole - d else 0) * s) (by omega) (by omega)]
theorem spec_in_ok (id : List UInt8) (d l s hole : Int) (hd : 20 ≤ d ∧ d ≤ 200) (hs : 10 ≤ s ∧ s ≤ 100) (hh : 0 ≤ hole ∧ hole ≤ 1000) : spec_l12In (id, d, l, s, ()) hole = some (if wayN d s hole > l then -1 else wayN d s hole) := by
  have hb := way_bd (d := d) (s := s) (hole := hole) (by omega) (by omega) hh
  rw [spec_l12In_eq]
  simp only [w64 (n := hole - d) (by omega) (by omega), spec_l00Max_ok, Option.bind_some]
  unfold wayN at hb ⊢
  rw [w64 (n := (if hole - d > 0 then hole - d else 0) * s) (by omega) (by omega)]
  by_cases h : (if hole - d > 0 then hole - d else 0) * s > l
  · simp only [h, decide_true, if_true]
  · simp only [h, decide_false, Bool.false_eq_true, if_false]
theorem spec_way (id : List UInt8) (d l s hole : Int) (hid : id.length ≤ 1000) (hv : pegOk (id, d, l, s, ()) = true) (hh : inR hole 20 200 = true) (hw : wayN d s hole ≤ l) : spec_WayIn (id, d, l, s, ()) hole = some (wayN d s hole, 0) := by
  have hk := peg_ok hv
  have hk : isName id = true ∧ (20 ≤ d ∧ d ≤ 200) ∧ (100 ≤ l ∧ l ≤ 1000) ∧ 10 ≤ s ∧ s ≤ 100 := hk
  have kh := inR_iff'.1 hh
  have hb := way_bd (d := d) (s := s) (hole := hole) (by omega) (by omega) (by omega)
  have h1 : ¬ wayN d s hole > l := by omega
  have h2 : ¬ wayN d s hole < 0 := by omega
  rw [spec_WayIn_eq, spec_l12One_ok _ (show id.length < _ by omega), hv]
  simp only [Option.bind_some, Bool.not_true, Bool.false_eq_true, if_false, spec_l12Hole_eq, spec_l00In_ok, hh, spec_in_ok id d l s hole hk.2.1 hk.2.2.2 (by omega), h1, h2, decide_false]

/-! Texts of pegs. -/
theorem pegText (id : List UInt8) (d l s : Int) (hv : pegOk (id, d, l, s, ()) = true) : ∃ t, t ≠ [] ∧ impl_PegText (id, d, l, s, ()) = some t ∧ impl_ReadPeg t = some ((id, d, l, s, ()), true) := by
  have hk := peg_ok hv
  have hk : isName id = true ∧ (20 ≤ d ∧ d ≤ 200) ∧ (100 ≤ l ∧ l ≤ 1000) ∧ 10 ≤ s ∧ s ≤ 100 := hk
  have hn := isName_mem hk.1
  have hx : ∀ x, x ∈ [d, l, s] → -1000000000000 ≤ x ∧ x ≤ 1000000000000 := fun x hx => by
    simp only [List.mem_cons, List.not_mem_nil, or_false] at hx
    rcases hx with rfl | rfl | rfl <;> omega
  have hv' : impl_Peg_valid (id, d, l, s, ()) = some true := by rw [impl_Peg_valid_ok _ (show id.length < _ by omega), hv]
  refine ⟨id ++ 32 :: listP [d, l, s], by simp, ?_, ?_⟩
  · rw [impl_PegText_eq, hv']
    simp only [Option.bind_some, Bool.not_true, Bool.false_eq_true, if_false]
    rw [impl_named_ok id [d, l, s] (by omega) (by simp) (by simp) hx, Option.bind_some]
  · rw [impl_ReadPeg_eq, impl_readNamed_ok id [d, l, s] 3 (isName_no hk.1 (by decide)) (by omega) (by simp) (by simp) hx, Option.bind_some]
    simp [hv']

/-! Fitting. -/
structure Given (list : List T_Peg.ty) (holes : List Int) (most : Int) (given : List Int) : Prop where
  nd : given.Nodup
  le : given.length ≤ holes.length
  at_ : ∀ (i : Nat) (x h : Int), given[i]? = some x → holes[i]? = some h → ∃ (j : Nat) (hj : j < list.length), x = j ∧ wayN (pD list[j]) (pS list[j]) h ≤ pL list[j] ∧ wayN (pD list[j]) (pS list[j]) h ≤ most
theorem Given.add {list : List T_Peg.ty} {holes : List Int} {most : Int} {given : List Int} (hg : Given list holes most given) (j : Nat) (hj : j < list.length) (hn : (j : Int) ∉ given) (hlt : given.length < holes.length)
    (h1 : wayN (pD list[j]) (pS list[j]) holes[given.length] ≤ pL list[j]) (h2 : wayN (pD list[j]) (pS list[j]) holes[given.length] ≤ most) : Given list holes most (given ++ [(j : Int)]) where
  nd := by
    rw [List.nodup_append]
    refine ⟨hg.nd, by simp, fun a ha b hb => ?_⟩
    simp only [List.mem_singleton] at hb
    subst hb
    intro e; subst e; exact hn ha
  le := by simp; omega
  at_ i x h hx hh := by
    by_cases hi : i < given.length
    · rw [List.getElem?_append_left hi] at hx
      exact hg.at_ i x h hx hh
    · rw [List.getElem?_append_right (by omega)] at hx
      have e : i = given.length := by
        rcases Nat.lt_or_ge (i - given.length) 1 with h' | h'
        · omega
        · rw [List.getElem?_eq_none (by simpa using h')] at hx; cases hx
      subst e
      simp at hx
      rw [getElem?_lt hlt] at hh
      obtain rfl := Option.some.inj hh
      exact ⟨j, hj, hx.symm, h1, h2⟩
theorem clone_ok (l : List Int) (h : l.length ≤ 1000) : impl_clone_int64_ l = some l := by
  have hlim : (l.length : Int).toNat < lim := by rw [lim_eq]; omega
  have hlim' : 0 + l.length < lim := by rw [lim_eq]; omega
  rw [impl_clone_int64__eq]
  have h1 : (0 : Int) ≤ (l.length : Int) := by omega
  simp only [h1, hlim, hlim', decide_true, Bool.and_self, if_true, List.nil_append, List.take_length]
section
variable (list : List T_Peg.ty) (holes : List Int) (most : Int) (hl : list.length ≤ 8) (hok : ∀ (j : Nat) (h : j < list.length), pegOk list[j] = true) (hh : ∀ x, x ∈ holes → 20 ≤ x ∧ x ≤ 200) (hhl : holes.length ≤ 8)
include hl hok hh hhl
/-- The end of what is done for one peg. -/
theorem fit_loop1 (n : Nat) (given : List Int) (hgl : given.length ≤ 8) (v : Int) (w26 : Int) (w27 : Int) (id : List UInt8) (d l s : Int) : ∀ (k i : Nat) (f : Bool), i + k = given.length →
    impl_fit_p1 n list holes most given v f list w26 w27 given given.length i id d l s = impl_fit_p1 n list holes most given v (f || decide (v ∈ given.drop i)) list w26 w27 given given.length given.length id d l s
  | 0, i, f, hk => by
    have hi : i = given.length := by omega
    subst hi
    simp
  | k + 1, i, f, hk => by
    have hi : i < given.length := by omega
    have hlt : (i : Int) < (given.length : Int) := by omega
    have hi0 : (0 : Int) ≤ (i : Int) := by omega
    rw [impl_fit_p1_eq]
    simp only [hlt, decide_true, if_true, hi0, Int.toNat_natCast, getElem?_lt hi, Option.bind_some, wsucc (show i < 4611686018427387904 by omega)]
    have e : decide (v ∈ given.drop i) = (given[i] == v || decide (v ∈ given.drop (i + 1))) := by
      rw [drop_cons hi, Bool.eq_iff_iff]
      simp only [decide_eq_true_eq, Bool.or_eq_true, beq_iff_eq, List.mem_cons]
      exact ⟨fun h => h.imp Eq.symm (fun x => x), fun h => h.imp Eq.symm (fun x => x)⟩
    cases f
    · simp only [Bool.false_eq_true, if_false, Bool.false_or, e]
      exact fit_loop1 n given hgl v w26 w27 id d l s k (i + 1) _ (by omega)
    · simp only [if_true, Bool.true_or]
      have := fit_loop1 n given hgl v w26 w27 id d l s k (i + 1) true (by omega)
      simpa using this
theorem fit_loop0 (n : Nat) (given : List Int) (hg : Given list holes most given) (hlt : given.length < holes.length)
    (ih : ∀ g : List Int, Given list holes most g → g.length = given.length + 1 → ∃ (r : List Int) (ok : Bool), impl_fit n list holes most g = some (r, ok) ∧ (ok = true → Given list holes most r ∧ r.length = holes.length)) :
    ∀ (k i : Nat), i + k = list.length → ∃ (r : List Int) (ok : Bool), impl_fit_p0 n list holes most given list list.length i = some (r, ok) ∧ (ok = true → Given list holes most r ∧ r.length = holes.length)
  | 0, i, hk => by
    rw [impl_fit_p0_eq]
    have : ¬ (i : Int) < (list.length : Int) := by omega
    simp only [this, decide_false, Bool.false_eq_true, if_false]
    exact ⟨[], false, rfl, fun h => by cases h⟩
  | k + 1, i, hk => by
    have hi : i < list.length := by omega
    have hlt' : (i : Int) < (list.length : Int) := by omega
    have hi0 : (0 : Int) ≤ (i : Int) := by omega
    have hgl : given.length ≤ 8 := by omega
    have hp := peg_ok (hok i hi)
    have hhole := hh holes[given.length] (List.getElem_mem hlt)
    have next := fit_loop0 n given hg hlt ih k (i + 1) (by omega)
    have hway : impl_Peg_wayIn (list[i].1, list[i].2.1, list[i].2.2.1, list[i].2.2.2.1, ()) holes[given.length] = some (wayN (pD list[i]) (pS list[i]) holes[given.length], decide (wayN (pD list[i]) (pS list[i]) holes[given.length] ≤ pL list[i])) :=
      wayIn_ok (pId list[i]) (pD list[i]) (pL list[i]) (pS list[i]) holes[given.length] hp.2.1 hp.2.2.2 (by omega)
    have g0 : (0 : Int) ≤ (given.length : Int) := by omega
    have gn : ¬ ((given.length : Nat) : Int) < (given.length : Int) := by omega
    rw [impl_fit_p0_eq]
    simp only [hlt', decide_true, if_true, hi0, Int.toNat_natCast, getElem?_lt hi, Option.bind_some]
    have h1 := fit_loop1 list holes most hl hok hh hhl n given hgl (i : Int) (list.length : Int) (i : Int) list[i].1 list[i].2.1 list[i].2.2.1 list[i].2.2.2.1 given.length 0 false (by omega)
    have h1 : impl_fit_p1 n list holes most given (i : Int) false list (list.length : Int) (i : Int) given (given.length : Int) 0 list[i].1 list[i].2.1 list[i].2.2.1 list[i].2.2.2.1 = _ := h1
    rw [h1, List.drop_zero, impl_fit_p1_eq]
    simp only [gn, decide_false, Bool.false_eq_true, if_false, g0, decide_true, if_true, Int.toNat_natCast, getElem?_lt hlt, Option.bind_some, hway, Bool.false_or, wsucc (show i < 4611686018427387904 by omega)]
    by_cases hm : (i : Int) ∈ given
    · simp only [hm, decide_true, if_true]
      exact next
    simp only [hm, decide_false, Bool.false_eq_true, if_false]
    by_cases hw : wayN (pD list[i]) (pS list[i]) holes[given.length] ≤ pL list[i]
    · simp only [hw, decide_true, Bool.not_true, Bool.false_eq_true, if_false]
      by_cases hw2 : wayN (pD list[i]) (pS list[i]) holes[given.length] > most
      · simp only [hw2, decide_true, if_true]
        exact next
      · have hlim : given.length + 1 < lim := by rw [lim_eq]; omega
        simp only [hw2, decide_false, Bool.false_eq_true, if_false, impl_fit_p2_eq, clone_ok given (by omega), Option.bind_some, hlim, decide_true, if_true, wsucc (show i < 4611686018427387904 by omega)]
        obtain ⟨r, ok, er, hr⟩ := ih (given ++ [(i : Int)]) (hg.add i hi hm hlt hw (by omega)) (by simp)
        rw [er, Option.bind_some]
        cases ok
        · simp only [Bool.false_eq_true, if_false]
          exact next
        · simp only [if_true]
          exact ⟨r, true, rfl, fun _ => hr rfl⟩
    · simp only [hw, decide_false, Bool.not_false, if_true]
      exact next
theorem fit_ok : ∀ (n : Nat) (given : List Int), Given list holes most given → holes.length - given.length < n → ∃ (r : List Int) (ok : Bool), impl_fit n list holes most given = some (r, ok) ∧ (ok = true → Given list holes most r ∧ r.length = holes.length)
  | 0, given, hg, hn => by omega
  | n + 1, given, hg, hn => by
    rw [impl_fit_eq]
    by_cases he : given.length = holes.length
    · have e : ((given.length : Int) == (holes.length : Int)) = true := by rw [he]; simp
      simp only [e, if_true]
      exact ⟨given, true, rfl, fun _ => ⟨hg, he⟩⟩
    · have e : ((given.length : Int) == (holes.length : Int)) = false := by rw [beq_eq_false_iff_ne]; omega
      simp only [e, Bool.false_eq_true, if_false]
      have hle := hg.le
      exact fit_loop0 list holes most hl hok hh hhl n given hg (by omega) (fun g hg' hgl => fit_ok n g hg' (by omega)) list.length 0 (by omega)
end

/-! Drawn lists. -/
theorem drawOne_ok {s : T_l00Src.ty} {c : Int} (hs : SrcOk s c) (hc : c ≤ 100000) (id : List UInt8) : ∃ (d l w : Int) (s' : T_l00Src.ty), spec_l12DrawOne s id = some ((id, d, l, w, ()), s') ∧ SrcOk s' (c + 6) := by
  obtain ⟨u1, s1, e1, k1, _⟩ := pick_ok hs (by omega) 20 (by omega)
  obtain ⟨u2, s2, e2, k2, _⟩ := pick_ok k1 (by omega) 40 (by omega)
  obtain ⟨u3, s3, e3, k3, _⟩ := pick_ok k2 (by omega) 5 (by omega)
  rw [spec_l12DrawOne_eq]
  simp only [e1, e2, e3, Option.bind_some, src_eta]
  exact ⟨_, _, _, s3, rfl, k3.up (by omega)⟩
theorem bent_ok {s : T_l00Src.ty} {c : Int} (hs : SrcOk s c) (hc : c ≤ 100000) (id : List UInt8) (d l w : Int) : ∃ (d' l' w' : Int) (s' : T_l00Src.ty), spec_l12Bent s (id, d, l, w, ()) = some ((id, d', l', w', ()), s') ∧ SrcOk s' (c + 4) := by
  obtain ⟨v, s1, e1, k1, _⟩ := pick_ok hs (by omega) 18 (by omega)
  obtain ⟨a, t1, f1, g1, _⟩ := among_ok k1 (by omega) [19, 20, 200, 201] (by decide) (by decide)
  obtain ⟨a2, t2, f2, g2, _⟩ := among_ok k1 (by omega) [99, 100, 1000, 1001] (by decide) (by decide)
  obtain ⟨a3, t3, f3, g3, _⟩ := among_ok k1 (by omega) [9, 10, 100, 101] (by decide) (by decide)
  rw [spec_l12Bent_eq]
  simp only [e1, f1, f2, f3, Option.bind_some, src_eta]
  repeat' split
  all_goals exact ⟨_, _, _, _, rfl, SrcOk.up (by first | exact g1 | exact g2 | exact g3 | exact k1) (by omega)⟩
theorem hole_ok {s : T_l00Src.ty} {c : Int} (hs : SrcOk s c) (hc : c ≤ 100000) : ∃ (h : Int) (s' : T_l00Src.ty), spec_l12DrawHole s = some (h, s') ∧ SrcOk s' (c + 4) := by
  obtain ⟨b, t1, f1, g1⟩ := one_ok hs (by omega) 9 (by omega)
  rw [spec_l12DrawHole_eq, f1]
  cases b
  · obtain ⟨x, t2, f2, g2, _⟩ := pick_ok g1 (by omega) 26 (by omega)
    simp only [Option.bind_some, Bool.false_eq_true, if_false, src_eta, f2]
    exact ⟨_, _, rfl, g2.up (by omega)⟩
  · obtain ⟨x, t2, f2, g2, _⟩ := among_ok g1 (by omega) [19, 20, 200, 201] (by decide) (by decide)
    simp only [Option.bind_some, if_true, src_eta, f2]
    exact ⟨_, _, rfl, g2.up (by omega)⟩
theorem way_draw {s : T_l00Src.ty} {c : Int} (hs : SrcOk s c) (hc : c ≤ 100000) : ∃ (h : Int) (s' : T_l00Src.ty), spec_l12DrawWay s = some (h, s') := by
  obtain ⟨b, t1, f1, g1⟩ := one_ok hs (by omega) 9 (by omega)
  rw [spec_l12DrawWay_eq, f1]
  cases b
  · obtain ⟨x, t2, f2, g2, _⟩ := pick_ok g1 (by omega) 60 (by omega)
    simp only [Option.bind_some, Bool.false_eq_true, if_false, src_eta, f2]
    exact ⟨_, _, rfl⟩
  · obtain ⟨x, t2, f2, g2, _⟩ := among_ok g1 (by omega) [(-1), 0, 1000, 1001] (by decide) (by decide)
    simp only [Option.bind_some, if_true, src_eta, f2]
    exact ⟨_, _, rfl⟩
theorem draw_p1 (n : Nat) (hn : n ≤ 9) : ∀ (k i : Nat) (s : T_l00Src.ty) (c : Int) (r : List T_Peg.ty), i + k = n → SrcOk s c → c + 6 * k ≤ 90000 → r.length = i → (∀ x, x ∈ r → (pId x).length ≤ 30) →
    ∃ (r' : List T_Peg.ty) (s' : T_l00Src.ty), spec_l12Draw_p1 n i s.1 s.2.1 s.2.2.1 r = some (r', s') ∧ SrcOk s' (c + 6 * k) ∧ r'.length ≤ 20 ∧ ∀ x, x ∈ r' → (pId x).length ≤ 30
  | 0, i, s, c, r, hk, hs, hc, hr, hx => by
    rw [spec_l12Draw_p1_eq]
    have : ¬ (i : Int) < (n : Int) := by omega
    simp only [this, decide_false, Bool.false_eq_true, if_false, List.take_length, src_eta]
    exact ⟨r, s, rfl, hs.up (by omega), by omega, hx⟩
  | k + 1, i, s, c, r, hk, hs, hc, hr, hx => by
    rw [spec_l12Draw_p1_eq]
    have hlt : (i : Int) < (n : Int) := by omega
    obtain ⟨u, eu, lu⟩ := spec_l01Dec_tot (i : Int) (by omega)
    have hm : 1 + u.length ≤ strMax := by rw [strMax_eq]; omega
    obtain ⟨m, t, w, s1, e1, k1⟩ := drawOne_ok hs (by omega) ([110] ++ u)
    have hl : r.length + 1 < lim := by rw [lim_eq]; omega
    simp only [hlt, decide_true, if_true, eu, Option.bind_some, List.length_singleton, hm, src_eta, e1, hl, List.take_length, wsucc (show i < 4611686018427387904 by omega)]
    obtain ⟨r', s', f1, f2, f3, f4⟩ := draw_p1 n hn k (i + 1) s1 (c + 6) (r ++ [([110] ++ u, m, t, w, ())]) (by omega) k1 (by omega) (by simp; omega) (fun x hx' => by
      rcases List.mem_append.1 hx' with h | h
      · exact hx x h
      · simp only [List.mem_singleton] at h; subst h; simp [pId]; omega)
    exact ⟨r', s', f1, f2.up (by omega), f3, f4⟩
theorem draw_p0 : ∀ (k i : Nat) (s : T_l00Src.ty) (c : Int) (r : List T_Peg.ty), i + k = 4 → SrcOk s c → c + 10 * k ≤ 2000 → r.length ≤ i → (∀ x, x ∈ r → (pId x).length ≤ 30) →
    ∃ (r' : List T_Peg.ty) (s' : T_l00Src.ty), spec_l12Draw_p0 i s.1 s.2.1 s.2.2.1 [[112, 97], [112, 98], [112, 99], [112, 100]] r = some (r', s') ∧ SrcOk s' 20000 ∧ r'.length ≤ 20 ∧ ∀ x, x ∈ r' → (pId x).length ≤ 30
  | 0, i, s, c, r, hk, hs, hc, hr, hx => by
    have hi : i = 4 := by omega
    subst hi
    rw [spec_l12Draw_p0_eq]
    have h4 : ¬ ((4 : Nat) : Int) < (([[112, 97], [112, 98], [112, 99], [112, 100]] : List (List UInt8)).length : Int) := by simp
    obtain ⟨v, s1, e1, k1, _⟩ := pick_ok hs (by omega) 20 (by omega)
    simp only [h4, decide_false, Bool.false_eq_true, if_false, src_eta, e1, Option.bind_some]
    by_cases c0 : v = 0
    · obtain ⟨m, t, w, s2, e2, k2⟩ := drawOne_ok k1 (by omega) [122, 122]
      obtain ⟨m', t', w', s3, e3, k3⟩ := bent_ok k2 (by omega) [122, 122] m t w
      have hl : r.length + 1 < lim := by rw [lim_eq]; omega
      simp only [c0, beq_self_eq_true, if_true, e2, e3, Option.bind_some, src_eta, hl, decide_true, List.take_length]
      refine ⟨_, s3, rfl, k3.up (by omega), by simp; omega, fun x hx' => ?_⟩
      rcases List.mem_append.1 hx' with h | h
      · exact hx x h
      · simp only [List.mem_singleton] at h; subst h; simp [pId]
    have c0' : (v == 0) = false := by simpa using c0
    by_cases c1 : v = 1
    · obtain ⟨n, s2, e2, k2, hn⟩ := among_ok k1 (by omega) [8, 9] (by decide) (by decide)
      obtain ⟨nn, rfl, hnn⟩ : ∃ nn : Nat, n = nn ∧ nn ≤ 9 := by
        simp at hn
        rcases hn with rfl | rfl
        · exact ⟨8, rfl, by omega⟩
        · exact ⟨9, rfl, by omega⟩
      obtain ⟨r', s', f1, f2, f3, f4⟩ := draw_p1 nn hnn nn 0 s2 _ [] (by omega) k2 (by omega) rfl (fun x hx => by cases hx)
      have f1 : spec_l12Draw_p1 (nn : Int) 0 s2.1 s2.2.1 s2.2.2.1 [] = some (r', s') := f1
      simp only [c1, show ((1 : Int) == 0) = false from rfl, beq_self_eq_true, Bool.false_eq_true, if_false, if_true, e2, Option.bind_some, f1]
      exact ⟨r', s', rfl, f2.up (by omega), f3, f4⟩
    · have c1' : (v == 1) = false := by simpa using c1
      simp only [c0', c1', Bool.false_eq_true, if_false, List.take_length, src_eta]
      exact ⟨r, s1, rfl, k1.up (by omega), by omega, hx⟩
  | k + 1, i, s, c, r, hk, hs, hc, hr, hx => by
    rw [spec_l12Draw_p0_eq]
    have h4 : (i : Int) < (([[112, 97], [112, 98], [112, 99], [112, 100]] : List (List UInt8)).length : Int) := by simp; omega
    have hi0 : (0 : Int) ≤ (i : Int) := by omega
    have hi4 : i < ([[112, 97], [112, 98], [112, 99], [112, 100]] : List (List UInt8)).length := by simp; omega
    obtain ⟨b, s1, e1, k1⟩ := one_ok hs (by omega) 4 (by omega)
    simp only [h4, decide_true, if_true, src_eta, e1, Option.bind_some, hi0, Bool.and_self, Int.toNat_natCast, getElem?_lt hi4, wsucc (show i < 4611686018427387904 by omega)]
    cases b
    · obtain ⟨m, t, w, s2, e2, k2⟩ := drawOne_ok k1 (by omega) ([[112, 97], [112, 98], [112, 99], [112, 100]] : List (List UInt8))[i]
      have hl : r.length + 1 < lim := by rw [lim_eq]; omega
      simp only [Bool.not_false, if_true, src_eta, e2, Option.bind_some, hl, decide_true, List.take_length]
      have hid : (([[112, 97], [112, 98], [112, 99], [112, 100]] : List (List UInt8))[i]).length ≤ 30 := by
        have : ∀ x, x ∈ ([[112, 97], [112, 98], [112, 99], [112, 100]] : List (List UInt8)) → x.length ≤ 30 := by decide
        exact this _ (List.getElem_mem hi4)
      exact draw_p0 k (i + 1) s2 (c + 8) _ (by omega) (k2.up (by omega)) (by omega) (by simp; omega) (fun x hx' => by
        rcases List.mem_append.1 hx' with h | h
        · exact hx x h
        · simp only [List.mem_singleton] at h; subst h; exact hid)
    · simp only [Bool.not_true, Bool.false_eq_true, if_false]
      exact draw_p0 k (i + 1) s1 (c + 2) r (by omega) (k1.up (by omega)) (by omega) (by omega) hx
theorem draw_ok {s : T_l00Src.ty} (hs : SrcOk s 0) : ∃ (r : List T_Peg.ty) (s' : T_l00Src.ty), spec_l12Draw s = some (r, s') ∧ SrcOk s' 20000 ∧ r.length ≤ 20 ∧ ∀ x, x ∈ r → (pId x).length ≤ 30 := by
  rw [spec_l12Draw_eq]
  exact draw_p0 4 0 s 0 [] (by omega) hs (by omega) (by simp) (fun x hx => by cases hx)

theorem list_tot (l : List Int) (hx : ∀ x, x ∈ l → 0 ≤ x ∧ x ≤ 1000000000) (hl : l.length ≤ 20) : ∀ (k i : Nat) (acc : List UInt8), i + k = l.length → acc.length + 30 * k ≤ 1000 → ∃ t, spec_l01List_p0 l acc i = some t ∧ t.length ≤ acc.length + 30 * k
  | 0, i, acc, hk, ha => by
    rw [spec_l01List_p0_eq]
    have : ¬ (i : Int) < (l.length : Int) := by omega
    simp only [this, decide_false, Bool.false_eq_true, if_false]
    exact ⟨acc, rfl, by omega⟩
  | k + 1, i, acc, hk, ha => by
    have hi : i < l.length := by omega
    have hlt : (i : Int) < (l.length : Int) := by omega
    have hi0 : (0 : Int) ≤ (i : Int) := by omega
    obtain ⟨u, eu, lu⟩ := spec_l01Dec_tot l[i] (hx _ (List.getElem_mem hi))
    have p1 : ∀ b : List UInt8, b.length ≤ acc.length + 1 → ∃ t, spec_l01List_p1 l b i = some t ∧ t.length ≤ acc.length + 30 * (k + 1) := fun b hb => by
      have hs : b.length + u.length ≤ strMax := by rw [strMax_eq]; omega
      rw [spec_l01List_p1_eq]
      simp only [hi0, decide_true, if_true, Int.toNat_natCast, getElem?_lt hi, Option.bind_some, eu, hs, wsucc (show i < 4611686018427387904 by omega)]
      obtain ⟨t, et, lt⟩ := list_tot l hx hl k (i + 1) (b ++ u) (by omega) (by simp; omega)
      exact ⟨t, et, by simp at lt; omega⟩
    rw [spec_l01List_p0_eq]
    simp only [hlt, decide_true, if_true]
    by_cases h0 : (i : Int) > 0
    · have hs : acc.length + 1 ≤ strMax := by rw [strMax_eq]; omega
      simp only [h0, decide_true, if_true, List.length_singleton, hs]
      exact p1 _ (by simp)
    · simp only [h0, decide_false, Bool.false_eq_true, if_false]
      exact p1 _ (by omega)
theorem spec_pegText (id : List UInt8) (d l s : Int) (hv : pegOk (id, d, l, s, ()) = true) : ∃ t, t ≠ [] ∧ spec_PegText (id, d, l, s, ()) = some t := by
  have hk := peg_ok hv
  have hk : isName id = true ∧ (20 ≤ d ∧ d ≤ 200) ∧ (100 ≤ l ∧ l ≤ 1000) ∧ 10 ≤ s ∧ s ≤ 100 := hk
  have hn := isName_mem hk.1
  obtain ⟨u, eu, lu⟩ := list_tot [d, l, s] (fun x hx => by
    simp only [List.mem_cons, List.not_mem_nil, or_false] at hx
    rcases hx with rfl | rfl | rfl <;> omega) (by simp) 3 0 [] (by simp) (by simp)
  have eu : spec_l01List_p0 [d, l, s] [] 0 = some u := eu
  have c0 : ((([d, l, s] : List Int).length : Int) == 0) = false := by simp
  have hlist : spec_l01List [d, l, s] = some u := by
    rw [spec_l01List_eq]; simp only [c0, Bool.false_eq_true, if_false, eu]
  have t1 : id.length + 1 ≤ strMax := by rw [strMax_eq]; omega
  have t2 : id.length + 1 + u.length ≤ strMax := by rw [strMax_eq]; simp at lu; omega
  refine ⟨(id ++ [32]) ++ u, by simp, ?_⟩
  rw [spec_PegText_eq, spec_l12One_ok _ (show id.length < _ by omega), hv]
  simp only [Option.bind_some, Bool.not_true, Bool.false_eq_true, if_false, spec_l12Text_eq, List.length_append (as := id), List.length_singleton, t1, decide_true, if_true, hlist, t2]
theorem p5_core (v1 : List Int) (id : List UInt8) (d l s : Int) (hid : id.length ≤ 4) (hd : spec_DrawPegText v1 = some (id, d, l, s, ())) : laws_FnPegs_p5 v1 = some true := by
  rw [laws_FnPegs_p5_eq, hd, Option.bind_some]
  cases hv : pegOk (id, d, l, s, ())
  · have e1 : impl_PegText (id, d, l, s, ()) = some [] := by
      rw [impl_PegText_eq, impl_Peg_valid_ok _ (show id.length < _ by omega), hv]; rfl
    have e2 : spec_PegText (id, d, l, s, ()) = some [] := by
      rw [spec_PegText_eq, spec_l12One_ok _ (show id.length < _ by omega), hv]; rfl
    have e3 : impl_ReadPeg [] = some (([], 0, 0, 0, ()), false) := by
      rw [impl_ReadPeg_eq, impl_readNamed_eq, strings_Cut_eq, cut1_none (by simp)]
      have hl : impl_ReadList [] = some ([], false) := by
        rw [impl_ReadList_eq, strings_Split_eq]
        have hs : Lib.splitK [44] 0 (Lib.count [] [44]) [] = [[]] := split1_last (by simp)
        have h1 : (1 : Nat) ≤ ([44] : List UInt8).length := by decide
        have h2 : ([] : List UInt8).length < 4294967281 := by decide
        have h3 : (([] : List UInt8) == [45]) = false := rfl
        simp only [h3, Bool.false_eq_true, if_false, h2, h1, decide_true, Bool.and_self, if_true, hs, Option.bind_some]
        rw [impl_ReadList_p0_eq]
        have h4 : (0 : Int) < (([[]] : List (List UInt8)).length : Int) := by simp
        have h5 : (0 : Int) ≤ 0 := by decide
        have g : ([[]] : List (List UInt8))[(0 : Int).toNat]? = some [] := rfl
        have hd : impl_ReadDecimal [] = some (0, false) := by rw [impl_ReadDecimal_eq]; rfl
        simp only [h4, h5, decide_true, if_true, g, Option.bind_some, hd, Bool.not_false]
      have h2 : ([] : List UInt8).length < 4294967281 := by decide
      simp only [h2, decide_true, if_true, Option.bind_some, hl, Bool.false_eq_true, if_false, Bool.not_false]
    simp [e1, e2, e3]
  · obtain ⟨t, t0, t1, t2⟩ := pegText id d l s hv
    obtain ⟨u, u0, u1⟩ := spec_pegText id d l s hv
    have c1 : t.isEmpty = false := by simpa using t0
    have c2 : u.isEmpty = false := by simpa using u0
    simp [t1, t2, u1, c1, c2, t0]
theorem draw_bent (v : List Int) (h1 : ∀ x, x ∈ v → 0 ≤ x ∧ x ≤ 255) (h2 : v.length ≤ 1048576) : ∃ s d l w s1 d' l' w' s2, spec_l00From v = some s ∧ spec_l12DrawOne s [112, 97] = some (([112, 97], d, l, w, ()), s1) ∧ spec_l12Bent s1 ([112, 97], d, l, w, ()) = some (([112, 97], d', l', w', ()), s2) ∧ SrcOk s2 20 := by
  obtain ⟨s, e, k⟩ := from_ok v h1 h2
  obtain ⟨d, l, w, s1, e1, k1⟩ := drawOne_ok k (by omega) [112, 97]
  obtain ⟨d', l', w', s2, e2, k2⟩ := bent_ok k1 (by omega) [112, 97] d l w
  exact ⟨s, d, l, w, s1, d', l', w', s2, e, e1, e2, k2.up (by omega)⟩
theorem law_p5 (v1 : List Int) (h1 : ∀ x, x ∈ v1 → 0 ≤ x ∧ x ≤ 255) (h2 : v1.length ≤ 1048576) : laws_FnPegs_p5 v1 = some true := by
  obtain ⟨s, d, l, w, s1, d', l', w', s2, e, e1, e2, k⟩ := draw_bent v1 h1 h2
  refine p5_core v1 [112, 97] d' l' w' (by simp) ?_
  rw [spec_DrawPegText_eq, e]
  simp only [Option.bind_some, e1, src_eta, e2]

/-! Holes reamed. -/
theorem ream_loop (wide deep : Int) (id : List UInt8) (d l s : Int) (hd : 20 ≤ d ∧ d ≤ 200) (hs : 10 ≤ s ∧ s ≤ 100) (hw : 20 ≤ wide ∧ wide ≤ 200) : ∀ (k : Nat) (v : Int), v + k = 201 → wide ≤ v → (v = wide ∨ (wayN d s (v - 1) ≤ l ∧ wayN d s (v - 1) < deep)) →
    ∃ n e : Int, impl_ReamTo_p1 wide deep v id d l s = some (n, e) ∧ ((e = 0 ∧ 0 ≤ n ∧ wide + n ≤ 200 ∧ wayN d s (wide + n) ≤ l ∧ deep ≤ wayN d s (wide + n) ∧ (n = 0 ∨ (wayN d s (wide + n - 1) ≤ l ∧ wayN d s (wide + n - 1) < deep))) ∨ (e ≠ 0 ∧ n = 0))
  | 0, v, hk, hv, hp => by
    rw [impl_ReamTo_p1_eq]
    have : ¬ v ≤ 200 := by omega
    simp only [this, decide_false, Bool.false_eq_true, if_false]
    exact ⟨0, 3, rfl, .inr ⟨by decide, rfl⟩⟩
  | k + 1, v, hk, hv, hp => by
    rw [impl_ReamTo_p1_eq]
    have : v ≤ 200 := by omega
    simp only [this, decide_true, if_true, wayIn_ok id d l s v hd hs (by omega), Option.bind_some]
    by_cases h1 : wayN d s v ≤ l
    · simp only [h1, decide_true, Bool.not_true, Bool.false_eq_true, if_false]
      by_cases h2 : wayN d s v ≥ deep
      · simp only [h2, decide_true, if_true, w64 (n := v - wide) (by omega) (by omega)]
        refine ⟨v - wide, 0, rfl, .inl ⟨rfl, by omega, by omega, ?_, ?_, ?_⟩⟩
        · rw [show wide + (v - wide) = v by omega]; exact h1
        · rw [show wide + (v - wide) = v by omega]; exact h2
        · rw [show wide + (v - wide) - 1 = v - 1 by omega]
          rcases hp with rfl | hp
          · left; omega
          · right; exact hp
      · simp only [h2, decide_false, Bool.false_eq_true, if_false, w64 (n := v + 1) (by omega) (by omega)]
        exact ream_loop wide deep id d l s hd hs hw k (v + 1) (by omega) (by omega) (.inr (by rw [show v + 1 - 1 = v by omega]; exact ⟨h1, by omega⟩))
    · simp only [h1, decide_false, Bool.not_false, if_true]
      exact ⟨0, 3, rfl, .inr ⟨by decide, rfl⟩⟩
theorem p3_core (v0 v1 : List Int) (id : List UInt8) (d l s wide deep : Int) (hid : id.length ≤ 4) (hd : spec_DrawReamTo v0 = some (wide, (id, d, l, s, ()), deep)) (hp5 : laws_FnPegs_p5 v1 = some true) : laws_FnPegs_p3 v0 v1 = some true := by
  rw [laws_FnPegs_p3_eq, hd, Option.bind_some]
  simp only []
  rw [impl_ReamTo_eq, impl_Peg_valid_ok _ (show id.length < _ by omega)]
  cases hv : pegOk (id, d, l, s, ())
  · exact hp5
  have hk := peg_ok hv
  have hk : isName id = true ∧ (20 ≤ d ∧ d ≤ 200) ∧ (100 ≤ l ∧ l ≤ 1000) ∧ 10 ≤ s ∧ s ≤ 100 := hk
  simp only [Option.bind_some, Bool.not_true, Bool.false_eq_true, if_false, impl_isHole_eq, impl_isWay_eq, impl_within_ok]
  cases h1 : inR wide 20 200
  · exact hp5
  simp only [Option.bind_some, Bool.not_true, Bool.false_eq_true, if_false]
  cases h2 : inR deep 0 1000
  · exact hp5
  have k1 := inR_iff'.1 h1
  simp only [Option.bind_some, Bool.not_true, Bool.false_eq_true, if_false, impl_ReamTo_p0_eq]
  obtain ⟨n, e, en, h⟩ := ream_loop wide deep id d l s hk.2.1 hk.2.2.2 k1 (201 - wide).toNat wide (by omega) (by omega) (.inl rfl)
  rcases h with ⟨rfl, n0, n1, n2, n3, n4⟩ | ⟨he, rfl⟩
  · have n0' : ¬ n < 0 := by omega
    have n3' : ¬ wayN d s (wide + n) < deep := by omega
    have w1 := spec_way id d l s (wide + n) (by omega) hv (inR_iff'.2 (by omega)) n2
    simp only [en, Option.bind_some, beq_self_eq_true, if_true, w64 (n := wide + n) (by omega) (by omega), w64 (n := wide + n - 1) (by omega) (by omega), w1]
    by_cases hp : n > 0
    · have h4 := n4.resolve_left (by omega)
      have w2 := spec_way id d l s (wide + n - 1) (by omega) hv (inR_iff'.2 (by omega)) h4.1
      have n4' : ¬ wayN d s (wide + n - 1) ≥ deep := by omega
      simp only [w2, Option.bind_some, n0', decide_false, Bool.false_eq_true, if_false, bne_self_eq_false, n3', hp, decide_true, if_true, n4', hp5]
    · have n00 : n = 0 := by omega
      have hsome : ∃ x, spec_WayIn (id, d, l, s, ()) (wide + n - 1) = some x := by
        rw [spec_WayIn_eq, spec_l12One_ok _ (show id.length < _ by omega), hv]
        simp only [Option.bind_some, Bool.not_true, Bool.false_eq_true, if_false, spec_l12Hole_eq, spec_l00In_ok, spec_in_ok id d l s (wide + n - 1) hk.2.1 hk.2.2.2 (by omega)]
        repeat' split
        all_goals exact ⟨_, rfl⟩
      obtain ⟨x, ex⟩ := hsome
      simp only [ex, Option.bind_some, n0', decide_false, Bool.false_eq_true, if_false, bne_self_eq_false, n3', hp, hp5]
  · have : (e == 0) = false := by simpa using he
    simp only [en, Option.bind_some, this, Bool.false_eq_true, if_false, bne_self_eq_false, hp5]
theorem law_p3 (v0 v1 : List Int) (h1 : ∀ x, x ∈ v0 → 0 ≤ x ∧ x ≤ 255) (h2 : v0.length ≤ 1048576) (m1 : ∀ x, x ∈ v1 → 0 ≤ x ∧ x ≤ 255) (m2 : v1.length ≤ 1048576) : laws_FnPegs_p3 v0 v1 = some true := by
  obtain ⟨s, d, l, w, s1, d', l', w', s2, e, e1, e2, k⟩ := draw_bent v0 h1 h2
  obtain ⟨h, s3, e3, k3⟩ := hole_ok k (by omega)
  obtain ⟨y, s4, e4⟩ := way_draw k3 (by omega)
  refine p3_core v0 v1 [112, 97] d' l' w' h y (by simp) ?_ (law_p5 v1 m1 m2)
  rw [spec_DrawReamTo_eq, e]
  simp only [Option.bind_some, e1, src_eta, e2, e3, e4]

/-! Fitting, in the law. -/
theorem nodup_take {l : List Int} (h : l.Nodup) (i : Nat) (hi : i < l.length) : l[i] ∉ l.take i := by
  have e : l = l.take i ++ l[i] :: l.drop (i + 1) := by rw [← drop_cons hi, List.take_append_drop]
  rw [e, List.nodup_append] at h
  intro hm
  exact h.2.2 _ hm _ (List.mem_cons.2 (.inl rfl)) rfl
theorem law_p2 (v0 v1 : List Int) (list : List T_Peg.ty) (holes : List Int) (most : Int) (r : List Int) (hl : list.length ≤ 8) (hid : ∀ x, x ∈ list → (pId x).length ≤ 30) (hok : ∀ (j : Nat) (h : j < list.length), pegOk list[j] = true) (hh : ∀ x, x ∈ holes → inR x 20 200 = true)
    (hg : Given list holes most r) (hr : r.length = holes.length) (hrl : r.length ≤ 8) : ∀ (k i : Nat), i + k = r.length → laws_FnPegs_p2 v0 v1 list holes most r i = laws_FnPegs_p3 v0 v1
  | 0, i, hk => by
    rw [laws_FnPegs_p2_eq]
    have : ¬ (i : Int) < (r.length : Int) := by omega
    simp only [this, decide_false, Bool.false_eq_true, if_false]
  | k + 1, i, hk => by
    have hi : i < r.length := by omega
    have hih : i < holes.length := by omega
    have hlt : (i : Int) < (r.length : Int) := by omega
    have hle : (i : Int) ≤ (r.length : Int) := by omega
    have hi0 : (0 : Int) ≤ (i : Int) := by omega
    obtain ⟨j, hj, ej, w1, w2⟩ := hg.at_ i r[i] holes[i] (getElem?_lt hi) (getElem?_lt hih)
    have c1 : ¬ (j : Int) < 0 := by omega
    have c2 : ¬ (j : Int) ≥ (list.length : Int) := by omega
    have c3 : (0 : Int) ≤ (j : Int) := by omega
    have c4 : ¬ wayN (pD list[j]) (pS list[j]) holes[i] > most := by omega
    have hb : laws_b10Has (r.take i) (j : Int) = some false := by
      rw [laws_b10Has_ok _ _ (by rw [List.length_take]; omega)]
      have := nodup_take hg.nd i hi
      rw [ej] at this
      simp [this]
    have hw : spec_WayIn list[j] holes[i] = some (wayN (pD list[j]) (pS list[j]) holes[i], 0) := spec_way (pId list[j]) (pD list[j]) (pL list[j]) (pS list[j]) holes[i] (by have := hid list[j] (List.getElem_mem hj); omega) (hok j hj) (hh _ (List.getElem_mem hih)) w1
    rw [laws_FnPegs_p2_eq]
    simp only [hlt, hle, hi0, decide_true, Bool.and_self, if_true, Int.toNat_natCast, getElem?_lt hi, ej, Option.bind_some, c1, c2, decide_false, Bool.false_eq_true, if_false, hb, laws_FnPegs_p4_eq, c3, getElem?_lt hj, getElem?_lt hih, hw, bne_self_eq_false, c4, wsucc (show i < 4611686018427387904 by omega)]
    exact law_p2 v0 v1 list holes most r hl hid hok hh hg hr hrl k (i + 1) (by omega)
theorem holes_loop (list : List T_Peg.ty) (holes : List Int) (most : Int) (hs : holes.length ≤ 8) : ∀ (k i : Nat), i + k = holes.length →
    impl_FitPegs_p1 list holes most holes holes.length i = if (holes.drop i).all (fun h => inR h 20 200) = true then impl_FitPegs_p1 list holes most holes holes.length holes.length else some ([], 2)
  | 0, i, hk => by
    have hi : i = holes.length := by omega
    subst hi
    simp
  | k + 1, i, hk => by
    have hi : i < holes.length := by omega
    have hlt : (i : Int) < (holes.length : Int) := by omega
    have hi0 : (0 : Int) ≤ (i : Int) := by omega
    rw [impl_FitPegs_p1_eq, drop_cons hi, List.all_cons]
    simp only [hlt, decide_true, if_true, hi0, Int.toNat_natCast, getElem?_lt hi, Option.bind_some, impl_isHole_eq, impl_within_ok, wsucc (show i < 4611686018427387904 by omega)]
    cases h : inR holes[i] 20 200
    · simp
    · simp only [Bool.not_true, Bool.false_eq_true, if_false, Bool.true_and]
      exact holes_loop list holes most hs k (i + 1) (by omega)
theorem p1_core (v0 v1 : List Int) (list : List T_Peg.ty) (holes : List Int) (most : Int) (hl : list.length ≤ 20) (hid : ∀ x, x ∈ list → (pId x).length ≤ 30) (hd : spec_DrawFitPegs v1 = some (list, holes, most)) (hp3 : laws_FnPegs_p3 v0 v1 = some true) : laws_FnPegs_p1 v0 v1 = some true := by
  rw [laws_FnPegs_p1_eq, hd, Option.bind_some]
  simp only [List.take_length]
  rw [impl_FitPegs_eq, impl_ValidPegs_ok list (by omega) (fun x hm => by have := hid x hm; have e : x.1.length = (pId x).length := rfl; omega)]
  cases hv : pegsOk list
  · exact hp3
  have hok : ∀ (j : Nat) (h : j < list.length), pegOk list[j] = true := fun j h => pegsOk_all hv _ (List.getElem_mem h)
  have hl8 : list.length ≤ 8 := by
    have : pegsOk list = true := hv
    simp only [pegsOk, Bool.and_eq_true, decide_eq_true_eq] at this
    omega
  simp only [Option.bind_some, Bool.not_true, Bool.false_eq_true, if_false, impl_isWay_eq, impl_within_ok, impl_few_eq]
  cases h1 : inR most 0 1000
  · exact hp3
  simp only [Option.bind_some, Bool.not_true, Bool.false_eq_true, if_false]
  by_cases h8 : (holes.length : Int) ≤ 8
  · have hloop := holes_loop list holes most (by omega) holes.length 0 (by omega)
    have hloop : impl_FitPegs_p1 list holes most holes (holes.length : Int) 0 = _ := hloop
    simp only [h8, decide_true, Bool.not_true, Bool.false_eq_true, if_false, impl_FitPegs_p0_eq, hloop, List.drop_zero]
    cases ha : holes.all fun h => inR h 20 200
    · exact hp3
    have hh : ∀ x, x ∈ holes → inR x 20 200 = true := List.all_eq_true.1 ha
    simp only [if_true]
    rw [impl_FitPegs_p1_eq]
    have hn : ¬ ((holes.length : Nat) : Int) < (holes.length : Int) := by omega
    simp only [hn, decide_false, Bool.false_eq_true, if_false]
    by_cases he : holes.length = list.length
    · have e : ((holes.length : Int) != (list.length : Int)) = false := by rw [he]; simp
      obtain ⟨r, ok, er, hr⟩ := fit_ok list holes most hl8 hok (fun x hx => inR_iff'.1 (hh x hx)) (by omega) 1000 [] ⟨by simp, by simp, fun i x h hx => by simp at hx⟩ (by omega)
      simp only [e, Bool.false_eq_true, if_false, er, Option.bind_some]
      cases ok
      · exact hp3
      · obtain ⟨g, gl⟩ := hr rfl
        have e2 : ((r.length : Int) != (holes.length : Int)) = false := by rw [gl]; simp
        have hp2 := law_p2 v0 v1 list holes most r hl8 hid hok hh g gl (by omega) r.length 0 (by omega)
        have hp2 : laws_FnPegs_p2 v0 v1 list holes most r 0 = laws_FnPegs_p3 v0 v1 := hp2
        simp only [Bool.not_true, Bool.false_eq_true, if_false, Option.bind_some, beq_self_eq_true, if_true, e2, hp2, hp3]
    · have e : ((holes.length : Int) != (list.length : Int)) = true := by simp; omega
      simp only [e, if_true]
      exact hp3
  · simp only [h8, decide_false, Bool.not_false, if_true]
    exact hp3
theorem draw_holes (xs : List T_Peg.ty) (hx : xs.length ≤ 20) : ∀ (k i : Nat) (s : T_l00Src.ty) (c : Int) (r : List Int), i + k = xs.length → r.length = i → SrcOk s c → c + 10 * k ≤ 50000 →
    ∃ (h : List Int) (m : Int), spec_DrawFitPegs_p0 i xs r s.1 s.2.1 s.2.2.1 = some (xs, h, m)
  | 0, i, s, c, r, hk, hr, hs, hc => by
    rw [spec_DrawFitPegs_p0_eq]
    have : ¬ (i : Int) < (xs.length : Int) := by omega
    have hlim : r.length + 1 < lim := by rw [lim_eq]; omega
    obtain ⟨v, s1, e1, k1, _⟩ := pick_ok hs (by omega) 16 (by omega)
    obtain ⟨w, s2, e2⟩ := way_draw k1 (by omega)
    simp only [this, decide_false, Bool.false_eq_true, if_false, src_eta, e1, Option.bind_some]
    by_cases c0 : v = 0
    · simp only [c0, beq_self_eq_true, if_true, hlim, decide_true, spec_DrawFitPegs_p1_eq, src_eta, e2, Option.bind_some, List.take_length]
      exact ⟨_, _, rfl⟩
    have c0' : (v == 0) = false := by simpa using c0
    by_cases c1 : v = 1
    · subst c1
      simp only [show ((1 : Int) == 0) = false from rfl, beq_self_eq_true, Bool.false_eq_true, if_false, if_true]
      by_cases h0 : (r.length : Int) > 0
      · have h0' : (0 : Int) < (r.length : Int) := h0
        have h0n : 0 < r.length := by omega
        obtain ⟨h, s3, e3, k3⟩ := hole_ok k1 (by omega)
        obtain ⟨w', s4, e4⟩ := way_draw k3 (by omega)
        simp only [h0, h0', decide_true, if_true, src_eta, e3, Option.bind_some, getElem?_lt h0n, spec_DrawFitPegs_p1_eq, e4, List.take_length]
        exact ⟨_, _, rfl⟩
      · simp only [h0, decide_false, Bool.false_eq_true, if_false, spec_DrawFitPegs_p1_eq, src_eta, e2, Option.bind_some, List.take_length]
        exact ⟨_, _, rfl⟩
    · have c1' : (v == 1) = false := by simpa using c1
      simp only [c0', c1', Bool.false_eq_true, if_false, spec_DrawFitPegs_p1_eq, src_eta, e2, Option.bind_some, List.take_length]
      exact ⟨_, _, rfl⟩
  | k + 1, i, s, c, r, hk, hr, hs, hc => by
    rw [spec_DrawFitPegs_p0_eq]
    have hlt : (i : Int) < (xs.length : Int) := by omega
    have hlim : r.length + 1 < lim := by rw [lim_eq]; omega
    obtain ⟨v, s1, e1, k1, _⟩ := pick_ok hs (by omega) 18 (by omega)
    simp only [hlt, decide_true, if_true, src_eta, e1, Option.bind_some, hlim, List.take_length, wsucc (show i < 4611686018427387904 by omega)]
    exact draw_holes xs hx k (i + 1) s1 (c + 2) _ (by omega) (by simp; omega) k1 (by omega)
theorem law_p1 (v0 v1 : List Int) (h1 : ∀ x, x ∈ v0 → 0 ≤ x ∧ x ≤ 255) (h2 : v0.length ≤ 1048576) (m1 : ∀ x, x ∈ v1 → 0 ≤ x ∧ x ≤ 255) (m2 : v1.length ≤ 1048576) : laws_FnPegs_p1 v0 v1 = some true := by
  obtain ⟨s, e, k⟩ := from_ok v1 m1 m2
  obtain ⟨xs, s1, e1, k1, l1, l2⟩ := draw_ok k
  obtain ⟨h, m, e2⟩ := draw_holes xs l1 xs.length 0 s1 20000 [] (by omega) rfl k1 (by omega)
  have e2 : spec_DrawFitPegs_p0 0 xs [] s1.1 s1.2.1 s1.2.2.1 = some (xs, h, m) := e2
  refine p1_core v0 v1 xs h m l1 l2 ?_ (law_p3 v0 v1 h1 h2 m1 m2)
  rw [spec_DrawFitPegs_eq, e]
  simp only [Option.bind_some, e1, e2]
theorem p0_core (v0 v1 : List Int) (id : List UInt8) (d l s hole : Int) (hid : id.length ≤ 4) (hd : spec_DrawWayIn v0 = some ((id, d, l, s, ()), hole)) (hp1 : laws_FnPegs_p1 v0 v1 = some true) : laws_FnPegs_p0 v0 v1 = some true := by
  rw [laws_FnPegs_p0_eq, hd, Option.bind_some]
  simp only []
  have hV : impl_Peg_valid (id, d, l, s, ()) = some (pegOk (id, d, l, s, ())) := impl_Peg_valid_ok _ (show id.length < _ by omega)
  cases hv : pegOk (id, d, l, s, ())
  · rw [impl_WayIn_eq, hV, hv]
    exact hp1
  have hk := peg_ok hv
  have hk : isName id = true ∧ (20 ≤ d ∧ d ≤ 200) ∧ (100 ≤ l ∧ l ≤ 1000) ∧ 10 ≤ s ∧ s ≤ 100 := hk
  cases h1 : inR hole 20 200
  · rw [impl_WayIn_eq, hV, hv]
    simp only [Option.bind_some, Bool.not_true, Bool.false_eq_true, if_false, impl_isHole_eq, impl_within_ok, h1, Bool.not_false, if_true]
    exact hp1
  have k1 := inR_iff'.1 h1
  have hwi : impl_WayIn (id, d, l, s, ()) hole = some (if wayN d s hole ≤ l then (wayN d s hole, 0) else (0, 3)) := by
    rw [impl_WayIn_eq, hV, hv]
    simp only [Option.bind_some, Bool.not_true, Bool.false_eq_true, if_false, impl_isHole_eq, impl_within_ok, h1, wayIn_ok id d l s hole hk.2.1 hk.2.2.2 (by omega)]
    by_cases h : wayN d s hole ≤ l
    · simp [h]
    · simp [h]
  by_cases hw : wayN d s hole ≤ l
  · rw [hwi, if_pos hw]
    have hb := way_bd (d := d) (s := s) (hole := hole) (by omega) (by omega) (by omega)
    have hm : 0 ≤ (if hole - d > 0 then hole - d else 0) ∧ (if hole - d > 0 then hole - d else 0) ≤ 200 ∧ hole ≤ d + (if hole - d > 0 then hole - d else 0) ∧ ((if hole - d > 0 then hole - d else 0) = 0 ∨ d + (if hole - d > 0 then hole - d else 0) = hole) := by
      split <;> omega
    generalize hmm : (if hole - d > 0 then hole - d else 0) = m at hm
    have hwm : wayN d s hole = m * s := by unfold wayN; rw [hmm]
    rw [hwm] at hw hb ⊢
    have at1 : ∀ v : Int, 0 ≤ v → v ≤ l → impl_PegAt (id, d, l, s, ()) v = some (d + v / s, 0) := fun v h0 hvl => by
      have hdv : 0 ≤ v / s := Int.ediv_nonneg h0 (by omega)
      have hdv2 : v / s ≤ v := Int.ediv_le_self _ h0
      have hr : inR v 0 1000 = true := inR_iff'.2 (by omega)
      have hn : ¬ v > l := by omega
      have hz : ¬ s = 0 := by omega
      rw [impl_PegAt_eq, hV, hv]
      simp only [Option.bind_some, Bool.not_true, Bool.false_eq_true, if_false, impl_isWay_eq, impl_within_ok, hr, hn, decide_false, impl_PegAt_p0_eq, impl_Peg_at_eq, hz, tdiv_nonneg_eq h0, w64 (n := v / s) (by omega) (by omega), w64 (n := d + v / s) (by omega) (by omega)]
    have q1 : m * s / s = m := Int.mul_ediv_cancel _ (by omega)
    have a1 := at1 (m * s) hb.1 hw
    rw [q1] at a1
    have ta : impl_TurnFor (id, d, l, s, ()) hole 10 = some (rdivP 3600000 (3142 * (d + m)), 0) := by
      have hz : ¬ s = 0 := by omega
      rw [impl_TurnFor_eq, hV, hv]
      have h10 : inR 10 0 100 = true := by decide
      simp only [Option.bind_some, Bool.not_true, Bool.false_eq_true, if_false, impl_isHole_eq, impl_within_ok, h1, h10, impl_TurnFor_p0_eq, hwi, hwm, hw, if_true, bne_self_eq_false, impl_Peg_at_eq, hz, decide_false, tdiv_nonneg_eq hb.1, q1, w64 (n := m) (by omega) (by omega), w64 (n := d + m) (by omega) (by omega), w64 (n := 3142 * (d + m)) (by omega) (by omega)]
      rw [show IntKind.i64.wrap (10 * 360000) = 3600000 by decide, impl_divRound_ok 3600000 (3142 * (d + m)) (by omega) (by omega), Option.bind_some]
    have rb := rdivP_bd (a := 3600000) (b := 3142 * (d + m)) (m := 3600000) (by omega) (by omega)
    have pb : -4600000000000 ≤ 3142 * (d + m) * rdivP 3600000 (3142 * (d + m)) ∧ 3142 * (d + m) * rdivP 3600000 (3142 * (d + m)) ≤ 4600000000000 := by
      have := mul_bd (b := 3142 * (d + m)) (d := rdivP 3600000 (3142 * (d + m))) (B := 1256800) (D := 3600001) (by omega) (by omega); omega
    have er : 2 * absI (3142 * (d + m) * rdivP 3600000 (3142 * (d + m)) - 3600000) ≤ 3142 * (d + m) := by
      have := rdivP_err (a := 3600000) (b := 3142 * (d + m)) (by omega)
      rwa [Int.mul_comm (rdivP 3600000 (3142 * (d + m)))] at this
    have ab := absI_bd (n := 3142 * (d + m) * rdivP 3600000 (3142 * (d + m)) - 3600000) (b := 5000000000000) (by omega)
    have er' : ¬ 2 * absI (3142 * (d + m) * rdivP 3600000 (3142 * (d + m)) - 3600000) > 3142 * (d + m) := by omega
    have c1 : ¬ d + m < hole := by omega
    have c2 : ¬ m * s < 0 := by omega
    have c3 : ¬ m * s > l := by omega
    simp only [Option.bind_some, beq_self_eq_true, if_true, a1, ta, w64 (n := m * s - 1) (by omega) (by omega), bne_self_eq_false, Bool.false_eq_true, if_false, c1, c2, c3, decide_false,
      w64 (n := 3142 * (d + m)) (by omega) (by omega), w64 (n := 3142 * (d + m) * rdivP 3600000 (3142 * (d + m))) (by omega) (by omega), w64 (n := 3142 * (d + m) * rdivP 3600000 (3142 * (d + m)) - 3600000) (by omega) (by omega),
      laws_b10Abs_ok (3142 * (d + m) * rdivP 3600000 (3142 * (d + m)) - 3600000) (by omega), w64 (n := 2 * absI (3142 * (d + m) * rdivP 3600000 (3142 * (d + m)) - 3600000)) (by omega) (by omega), er']
    by_cases hm0 : m = 0
    · have hz : m * s = 0 := by rw [hm0]; omega
      have e4 : impl_PegAt (id, d, l, s, ()) (m * s - 1) = some (0, 2) := by
        have hr : inR (m * s - 1) 0 1000 = false := by rw [hz]; decide
        rw [impl_PegAt_eq, hV, hv]
        simp only [Option.bind_some, Bool.not_true, Bool.false_eq_true, if_false, impl_isWay_eq, impl_within_ok, hr, Bool.not_false, if_true]
      simp only [e4, Option.bind_some, show ((2 : Int) == 0) = false from rfl, Bool.false_eq_true, if_false, hp1]
    · have hpos : 1 * 10 ≤ m * s := Int.mul_le_mul (by omega) (by omega) (by omega) (by omega)
      have a2 := at1 (m * s - 1) (by omega) (by omega)
      have q2 : (m * s - 1) / s < m := Int.ediv_lt_of_lt_mul (by omega) (by omega)
      have c4 : ¬ d + (m * s - 1) / s ≥ hole := by omega
      simp only [a2, Option.bind_some, beq_self_eq_true, if_true, c4, decide_false, Bool.false_eq_true, if_false, hp1]
  · rw [hwi, if_neg hw]
    exact hp1
theorem law_core (v0 v1 : List Int) (h1 : ∀ x, x ∈ v0 → 0 ≤ x ∧ x ≤ 255) (m1 : ∀ x, x ∈ v1 → 0 ≤ x ∧ x ≤ 255) : laws_FnPegs v0 v1 = some true := by
  rw [laws_FnPegs_eq, laws_b10Long_eq, laws_b10Long_eq]
  simp only [Option.bind_some, decide_eq_true_eq]
  by_cases c1 : (v0.length : Int) > 1048576
  · simp [c1]
  by_cases c2 : (v1.length : Int) > 1048576
  · simp [c2]
  simp only [c1, c2, if_false]
  obtain ⟨s, d, l, w, s1, d', l', w', s2, e, e1, e2, k⟩ := draw_bent v0 h1 (by omega)
  obtain ⟨h, s3, e3, k3⟩ := hole_ok k (by omega)
  refine p0_core v0 v1 [112, 97] d' l' w' h (by simp) ?_ (law_p1 v0 v1 h1 (by omega) m1 (by omega))
  rw [spec_DrawWayIn_eq, e]
  simp only [Option.bind_some, e1, src_eta, e2, e3]
theorem laws_FnPegs_true (code more : List Int) (h : CT.wf (.sl (.one (.int .u8))) code) (h' : CT.wf (.sl (.one (.int .u8))) more) : laws_FnPegs code more = some true :=
  law_core code more (bytes_ok h) (bytes_ok h')
end Go.Ab.P
