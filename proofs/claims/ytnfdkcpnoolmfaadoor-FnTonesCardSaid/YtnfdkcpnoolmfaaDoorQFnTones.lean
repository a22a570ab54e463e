/- Notes have their own tones, a tone lies nearest to its note, and modes ring just as long as told. Conditions: bytes are bytes. -/
import Derived.Test.YtnfdkcpnoolmfaaDoorBFnTones
set_option linter.unusedVariables false
set_option linter.unusedSimpArgs false
namespace Go.Ab.P
open Go.Ab

theorem ringAfter_ok (t l a n : Int) (hm : modeOk ([109, 97], t, l, ()) = true) (ha : inR a 0 1000000 = true) (hn : inR n 0 1000 = true) : impl_RingAfter ([109, 97], t, l, ()) a n = some (ring l n.toNat a, 0) := by
  rw [impl_RingAfter_eq, impl_Mode_valid_ok _ (show ([109, 97] : List UInt8).length < 4611686018427387904 by decide), hm]
  simp only [Option.bind_some, Bool.not_true, Bool.false_eq_true, if_false, impl_isStrength_eq, impl_within_ok, ha, hn, impl_RingAfter_p0_eq]
  simp only [modeOk, Bool.and_eq_true] at hm
  have h1 := inR_iff'.1 hm.2.2
  have h2 := inR_iff'.1 ha
  have h3 := inR_iff'.1 hn
  exact impl_RingAfter_p1_ok [109, 97] t l n h1 h3.2 n.toNat 0 a (by omega) (by omega) h2
theorem ringAfter_out (t l a n : Int) (hm : modeOk ([109, 97], t, l, ()) = true) (ha : inR a 0 1000000 = true) (hn : inR n 0 1000 = false) : impl_RingAfter ([109, 97], t, l, ()) a n = some (0, 2) := by
  rw [impl_RingAfter_eq, impl_Mode_valid_ok _ (show ([109, 97] : List UInt8).length < 4611686018427387904 by decide), hm]
  simp only [Option.bind_some, Bool.not_true, Bool.false_eq_true, if_false, impl_isStrength_eq, impl_within_ok, ha, hn, Bool.not_false, if_true]

theorem law_p2 (v1 : List Int) (h1 : ∀ x, x ∈ v1 → 0 ≤ x ∧ x ≤ 255) (h2 : v1.length ≤ 1048576) : laws_FnTones_p2 v1 = some true := by
  obtain ⟨t, l, a, g, e⟩ := spec_DrawCyclesTo_ok v1 h1 h2
  have hml : ([109, 97] : List UInt8).length < 4611686018427387904 := by decide
  have hc : impl_CyclesTo ([109, 97], t, l, ()) a g = (if modeOk ([109, 97], t, l, ()) = true then if inR a 0 1000000 = true then if inR g 0 1000000 = true then impl_CyclesTo_p1 a g 0 [109, 97] t l else some (0, 2) else some (0, 2) else some (0, 1)) := by
    rw [impl_CyclesTo_eq, impl_Mode_valid_ok _ hml]
    simp only [Option.bind_some, impl_isStrength_eq, impl_within_ok, impl_CyclesTo_p0_eq]
    cases modeOk ([109, 97], t, l, ()) <;> cases inR a 0 1000000 <;> cases inR g 0 1000000 <;> rfl
  rw [laws_FnTones_p2_eq, e]
  simp only [Option.bind_some, hc]
  cases hm : modeOk ([109, 97], t, l, ())
  · rfl
  cases ha : inR a 0 1000000
  · rfl
  cases hg : inR g 0 1000000
  · rfl
  have hm' := hm
  simp only [modeOk, Bool.and_eq_true] at hm'
  have k1 := inR_iff'.1 hm'.2.2
  have k2 := inR_iff'.1 ha
  simp only [if_true]
  rcases impl_CyclesTo_p1_ok [109, 97] t l g a k1 k2 1001 0 (by omega) (fun j hj => by omega) with q | ⟨n, n1, n2, n3, q⟩
  · have q : impl_CyclesTo_p1 a g 0 [109, 97] t l = some (0, 3) := q
    rw [q]; rfl
  have q : impl_CyclesTo_p1 a g 0 [109, 97] t l = some ((n : Int), 0) := q
  have hr := ring_bd k1 n k2
  have e1 := ringAfter_ok t l a (n : Int) hm ha (inR_iff'.2 (by omega))
  rw [Int.toNat_natCast] at e1
  have c1 : (n : Int) ≥ 0 := by omega
  have c2 : ring l n a ≥ 0 := by omega
  rw [q]
  simp only [Option.bind_some, bne_self_eq_false, Bool.false_eq_true, if_false, e1, c1, decide_true, if_true, beq_self_eq_true, n2, c2, w64 (n := (n : Int) - 1) (by omega) (by omega)]
  by_cases hz : n = 0
  · subst hz
    have e2 := ringAfter_out t l a (-1) hm ha (by decide)
    rw [show ((0 : Nat) : Int) - 1 = -1 by omega, e2]
    rfl
  · obtain ⟨m, rfl⟩ : ∃ m, n = m + 1 := ⟨n - 1, by omega⟩
    have e2 := ringAfter_ok t l a ((m + 1 : Nat) - 1 : Int) hm ha (inR_iff'.2 (by omega))
    have hmm : ((m + 1 : Nat) - 1 : Int).toNat = m := by omega
    rw [hmm] at e2
    have hz' : (((m + 1 : Nat) : Int) == 0) = false := by simp; omega
    have c3 := n3 m (by omega)
    have hb := ring_bd k1 m k2
    have c4 := fallP_bd k1 (s := ring l m a) (by omega)
    rw [← ring_succ] at c4
    have c5 : ring l m a > g := by omega
    have c6 : ring l m a ≥ ring l (m + 1) a := by omega
    simp only [e2, Option.bind_some, hz', Bool.false_eq_true, if_false, beq_self_eq_true, if_true, c5, c6, decide_true]

theorem law_p3 (v1 : List Int) (x off own : Int) (c : Nat) (hx : 1000 ≤ x ∧ x ≤ 100000) (hc : c ≤ 60) (hm : ∀ j, j ≤ 60 → absI (nt c - x) ≤ absI (nt j - x)) (ho : off = x - nt c) (hw : own = nt c)
    (h1 : ∀ x, x ∈ v1 → 0 ≤ x ∧ x ≤ 255) (h2 : v1.length ≤ 1048576) : ∀ (k i : Nat), i + k = 61 → laws_FnTones_p3 v1 x (c : Int) off own i = some true
  | 0, i, hk => by
    have hb := nt_bd c hc
    have hn : ¬ (i : Int) ≤ 60 := by omega
    rw [laws_FnTones_p3_eq]
    simp only [hn, decide_false, Bool.false_eq_true, if_false, w64 (n := (c : Int) + 12) (by omega) (by omega), w64 (n := 2 * own) (by omega) (by omega), law_p2 v1 h1 h2]
    by_cases h12 : c ≤ 48
    · have e := impl_NoteTone_ok (c + 12) (by omega)
      rw [show ((c + 12 : Nat) : Int) = (c : Int) + 12 by omega] at e
      rw [e, nt_oct c h12, hw]
      simp
    · rw [impl_NoteTone_out _ (by simp [inR]; omega)]
      rfl
  | k + 1, i, hk => by
    have hb := nt_bd c hc
    have hi := nt_bd i (by omega)
    have hle : (i : Int) ≤ 60 := by omega
    have hm' := hm i (by omega)
    have h3 : ¬ absI (nt i - x) < absI off := by
      rw [ho, show x - nt c = -(nt c - x) by omega]
      unfold absI at hm' ⊢
      split at hm' <;> split at hm' <;> split <;> split <;> omega
    rw [laws_FnTones_p3_eq]
    simp only [hle, decide_true, if_true, spec_NoteTone_ok i (by omega), Option.bind_some, bne_self_eq_false, Bool.false_eq_true, if_false, w64 (n := nt i - x) (by omega) (by omega), laws_b10Abs_ok (nt i - x) (by omega), laws_b10Abs_ok off (by omega), h3, decide_false, wsucc (show i < 4611686018427387904 by omega)]
    exact law_p3 v1 x off own c hx hc hm ho hw h1 h2 k (i + 1) (by omega)

theorem law_core (v0 v1 : List Int) (h1 : ∀ x, x ∈ v0 → 0 ≤ x ∧ x ≤ 255) (m1 : ∀ x, x ∈ v1 → 0 ≤ x ∧ x ≤ 255) : laws_FnTones v0 v1 = some true := by
  rw [laws_FnTones_eq, laws_b10Long_eq, laws_b10Long_eq]
  simp only [Option.bind_some, decide_eq_true_eq]
  by_cases c1 : (v0.length : Int) > 1048576
  · simp [c1]
  by_cases c2 : (v1.length : Int) > 1048576
  · simp [c2]
  simp only [c1, c2, if_false]
  obtain ⟨x, e⟩ := spec_DrawNoteOf_ok v0 h1 (by omega)
  rw [laws_FnTones_p0_eq, e, Option.bind_some]
  cases hx : inR x 1000 100000
  · rw [impl_NoteOf_out x hx]
    exact law_p2 v1 m1 (by omega)
  have hx' := inR_iff'.1 hx
  obtain ⟨c, hc, hm, e1⟩ := impl_NoteOf_ok x hx'
  have hb := nt_bd c hc
  obtain ⟨t, e2, ht⟩ := impl_NoteName_ok c hc
  have ht' : (t == []) = false := by simpa using ht
  have hle : nt c ≤ 100000 := by omega
  have ho : nt c + (x - nt c) = x := by omega
  rw [e1]
  simp only [Option.bind_some, beq_self_eq_true, if_true, impl_NoteTone_ok c hc, e2, impl_NoteOf_own c hc, bne_self_eq_false, Bool.false_eq_true, if_false, ho, w64 (n := x) (by omega) (by omega), ht', hle, decide_true, laws_FnTones_p1_eq]
  exact law_p3 v1 x (x - nt c) (nt c) c hx' hc hm rfl rfl m1 (by omega) 61 0 (by omega)
theorem laws_FnTones_true (code more : List Int) (h : CT.wf (.sl (.one (.int .u8))) code) (h' : CT.wf (.sl (.one (.int .u8))) more) : laws_FnTones code more = some true :=
  law_core code more (bytes_ok h) (bytes_ok h')
end Go.Ab.P
