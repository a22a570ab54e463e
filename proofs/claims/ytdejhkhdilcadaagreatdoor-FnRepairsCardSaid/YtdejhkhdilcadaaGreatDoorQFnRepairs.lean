/- Steps begin no earlier than they may and no later than they must, and critical steps make up the whole time. Conditions: the arguments are bytes. -/
import Derived.Test.YtdejhkhdilcadaaGreatDoorBFnRepairs
set_option linter.unusedVariables false
set_option linter.unusedSimpArgs false
namespace Go.Ab.P
open Go.Ab
theorem r8Has_ok (l : List Int) (v : Int) (hs : l.length ≤ 1048576) : laws_r8Has l v = some (decide (v ∈ l)) := by
 have loop : ∀ (k i : Nat),i + k = l.length → laws_r8Has_p0 l v i = some (decide (v ∈ l.drop i)) := by
  intro k
  induction k with
  | zero =>
    intro i hk
    rw [laws_r8Has_p0_eq,List.drop_eq_nil_of_le (by omega)]
    have : ¬ (i : Int) < (l.length : Int) := by omega
    simp only [this,decide_false,Bool.false_eq_true,if_false,List.not_mem_nil]
  | succ k ih =>
    intro i hk
    have hi : i < l.length := by omega
    have hlt : (i : Int) < (l.length : Int) := by omega
    have hwi : IntKind.i64.wrap ((i : Int) + 1) = ((i + 1 : Nat) : Int) := by rw [w64 (by omega) (by omega)]; omega
    rw [laws_r8Has_p0_eq,List.drop_eq_getElem_cons hi]
    simp only [hlt,Int.natCast_nonneg,decide_true,if_true,Int.toNat_natCast,List.getElem?_eq_getElem hi,Option.bind_some,hwi]
    by_cases e : l[i] = v
    ·simp [e]
    ·have e2 : ¬ v = l[i] := fun h => e h.symm
     have e3 : (l[i] == v) = false := by simpa using e
     simp only [e3,Bool.false_eq_true,if_false,ih (i + 1) (by omega),List.mem_cons,e2,false_or]
 rw [laws_r8Has_eq]
 exact loop l.length 0 (by omega)
theorem r8Same_ok2 (l : List Int) (hl : l.length ≤ 1048576) : laws_r8Same l l = some true := by
 have loop : ∀ (k i : Nat),i + k = l.length → laws_r8Same_p0 l l i = some true := by
  intro k
  induction k with
  | zero =>
    intro i hk
    obtain rfl : i = l.length := by omega
    rw [laws_r8Same_p0_eq]; simp
  | succ k ih =>
    intro i hk
    have hi : i < l.length := by omega
    have hlt : (i : Int) < (l.length : Int) := by omega
    have hwi : IntKind.i64.wrap ((i : Int) + 1) = ((i + 1 : Nat) : Int) := by rw [w64 (by omega) (by omega)]; omega
    rw [laws_r8Same_p0_eq]
    simp only [hlt,Int.natCast_nonneg,decide_true,if_true,Int.toNat_natCast,List.getElem?_eq_getElem hi,Option.bind_some,bne_self_eq_false,Bool.false_eq_true,if_false,hwi]
    exact ih (i + 1) (by omega)
 rw [laws_r8Same_eq]
 simp only [bne_self_eq_false,Bool.false_eq_true,if_false]
 exact loop l.length 0 (by omega)
structure RepI (xs : List T_Step.ty) (i : Nat) (b c : Bool) : Prop where
 ends : b = true ∨ ∃ j,i ≤ j ∧ j < xs.length ∧ earlyB xs j + sHrs xs j = totalP xs
 begins : c = true ∨ ∃ j,i ≤ j ∧ j < xs.length ∧ sBeg (lateP xs) j = 0
theorem r8_ok (xs : List T_Step.ty) (V : StSmall xs) {i : Nat} (hi : i < xs.length) (K : some true = laws_FnRepairs_p1 xs (totalP xs) false false 0 (bld (rdyP xs) xs.length) (lateP xs) (idx (critB xs) xs.length) → True) (b c : Bool) (r12 : List Int) : ∀ (k j : Nat),j + k = (idx (bAt (needP xs i)) i).length →
 laws_FnRepairs_p8 xs (totalP xs) b c i j (bld (rdyP xs) xs.length) (lateP xs) r12 (idx (bAt (needP xs i)) i) = laws_FnRepairs_p1 xs (totalP xs) b c ((i + 1 : Nat) : Int) (bld (rdyP xs) xs.length) (lateP xs) r12
 | 0,j,hk => by
   have hf := V.fit.few
   have hwi : IntKind.i64.wrap ((i : Int) + 1) = ((i + 1 : Nat) : Int) := by rw [w64 (by omega) (by omega)]; omega
   obtain rfl : j = (idx (bAt (needP xs i)) i).length := by omega
   rw [laws_FnRepairs_p8_eq]
   simp only [Int.lt_irrefl,decide_false,Bool.false_eq_true,if_false,hwi]
 | k + 1,j,hk => by
   have S := V.fit
   have hf := S.few
   have hl := idx_len (bAt (needP xs i)) i
   have hj : j < (idx (bAt (needP xs i)) i).length := by omega
   have hlj : (j : Int) < ((idx (bAt (needP xs i)) i).length : Int) := by omega
   have hwj : IntKind.i64.wrap ((j : Int) + 1) = ((j + 1 : Nat) : Int) := by rw [w64 (by omega) (by omega)]; omega
   have hm := List.getElem_mem hj
   have bd := idx_bd (bAt (needP xs i)) i _ hm
   generalize hx : (idx (bAt (needP xs i)) i)[j] = x at *
   have hxe : ((x.toNat : Nat) : Int) = x := by omega
   have hr : bAt (needP xs i) x.toNat = true := ((idx_mem (bAt (needP xs i)) i x.toNat).1 (by rw [hxe]; exact hm)).2
   have rc := (need_iff S hi x.toNat).1 hr
   have re := rc.early S hi
   have re2 : earlyB xs x.toNat + sHrs xs x.toNat ≤ earlyB xs i := by
    rcases re with h | h
    ·omega
    ·exact h.2
   have eb := earlyB_bd S (show x.toNat < xs.length by omega)
   have eh := S.hrs x.toNat (by omega)
   have c1 : ¬ x < 0 := by omega
   have c2 : ¬ x ≥ (i : Int) := by omega
   have l1 : x < ((bld (rdyP xs) xs.length).length : Int) := by rw [bld_len]; omega
   have l2 : (i : Int) < ((bld (rdyP xs) xs.length).length : Int) := by rw [bld_len]; omega
   have b1 : x.toNat < (bld (rdyP xs) xs.length).length := by omega
   have b2 : i < (bld (rdyP xs) xs.length).length := by omega
   have hw : IntKind.i64.wrap (sBeg (bld (rdyP xs) xs.length) x.toNat + (stAt xs x.toNat).2.1) = earlyB xs x.toNat + sHrs xs x.toNat := by
    show IntKind.i64.wrap (earlyB xs x.toNat + sHrs xs x.toNat) = _
    rw [w64 (by omega) (by omega)]
   have c3 : ¬ earlyB xs x.toNat + sHrs xs x.toNat > sBeg (bld (rdyP xs) xs.length) i := by
    show ¬ _ > earlyB xs i
    omega
   rw [laws_FnRepairs_p8_eq]
   simp only [hlj,Int.natCast_nonneg,decide_true,Bool.and_self,if_true,Int.toNat_natCast,List.getElem?_eq_getElem hj,hx,Option.bind_some,c1,c2,decide_false,Bool.false_eq_true,if_false,bd.1,l1,l2,sBeg_get b1,sBeg_get b2,st_get (show x.toNat < xs.length by omega),hw,c3,hwj]
   exact r8_ok xs V hi K b c r12 k (j + 1) (by omega)
theorem r7_ok (xs : List T_Step.ty) (V : StSmall xs) {i q : Nat} (hi : i < xs.length) (b c : Bool) (r12 : List Int) (w0 : List UInt8) (w1 w2 : Int) (w3 : List Int) (hw3 : w3 = sAft xs i) (hq : q < w3.length) : ∀ (k j : Nat),j + k = (idx (bAt (needP xs (w3[q]).toNat)) (w3[q]).toNat).length →
 laws_FnRepairs_p7 xs (totalP xs) b c i q j (bld (rdyP xs) xs.length) (lateP xs) r12 w0 w1 w2 w3 (idx (bAt (needP xs i)) i) (idx (bAt (needP xs (w3[q]).toNat)) (w3[q]).toNat) = laws_FnRepairs_p6 xs (totalP xs) b c i ((q + 1 : Nat) : Int) (bld (rdyP xs) xs.length) (lateP xs) r12 w0 w1 w2 w3 (idx (bAt (needP xs i)) i)
 | 0,j,hk => by
   have hal := V.fit.al i hi
   rw [← hw3] at hal
   have hwq : IntKind.i64.wrap ((q : Int) + 1) = ((q + 1 : Nat) : Int) := by rw [w64 (by omega) (by omega)]; omega
   obtain rfl : j = (idx (bAt (needP xs (w3[q]).toNat)) (w3[q]).toNat).length := by omega
   rw [laws_FnRepairs_p7_eq]
   simp only [Int.lt_irrefl,decide_false,Bool.false_eq_true,if_false,hwq]
 | k + 1,j,hk => by
   have S := V.fit
   have hf := S.few
   have ha : w3[q] ∈ sAft xs i := by rw [← hw3]; exact List.getElem_mem hq
   have hab := S.aft i hi _ ha
   have hl := idx_len (bAt (needP xs (w3[q]).toNat)) (w3[q]).toNat
   have hl2 := idx_len (bAt (needP xs i)) i
   have hj : j < (idx (bAt (needP xs (w3[q]).toNat)) (w3[q]).toNat).length := by omega
   have hlj : (j : Int) < ((idx (bAt (needP xs (w3[q]).toNat)) (w3[q]).toNat).length : Int) := by omega
   have hwj : IntKind.i64.wrap ((j : Int) + 1) = ((j + 1 : Nat) : Int) := by rw [w64 (by omega) (by omega)]; omega
   have hm := List.getElem_mem hj
   have bd := idx_bd _ _ _ hm
   have hin : (idx (bAt (needP xs (w3[q]).toNat)) (w3[q]).toNat)[j] ∈ idx (bAt (needP xs i)) i := by
    generalize (idx (bAt (needP xs (w3[q]).toNat)) (w3[q]).toNat)[j] = x at *
    have hxe : ((x.toNat : Nat) : Int) = x := by omega
    rw [← hxe] at hm ⊢
    have h1 := (idx_mem _ _ _).1 hm
    have rc := (need_iff S (show (w3[q]).toNat < xs.length by omega) x.toNat).1 h1.2
    exact (idx_mem _ _ _).2 ⟨by omega,(need_iff S hi x.toNat).2 (((Rch.refl xs i).step ha).trans rc)⟩
   rw [laws_FnRepairs_p7_eq]
   simp only [hlj,Int.natCast_nonneg,decide_true,Bool.and_self,if_true,Int.toNat_natCast,List.getElem?_eq_getElem hj,Option.bind_some,List.take_length,r8Has_ok _ _ (show (idx (bAt (needP xs i)) i).length ≤ 1048576 by omega),hin,Bool.not_true,Bool.false_eq_true,if_false,hwj]
   exact r7_ok xs V hi b c r12 w0 w1 w2 w3 hw3 hq k (j + 1) (by omega)
theorem r6_ok (xs : List T_Step.ty) (V : StSmall xs) {i : Nat} (hi : i < xs.length) (b c : Bool) (r12 : List Int) (w0 : List UInt8) (w1 w2 : Int) (w3 : List Int) (hw3 : w3 = sAft xs i) : ∀ (k q : Nat),q + k = w3.length →
 laws_FnRepairs_p6 xs (totalP xs) b c i q (bld (rdyP xs) xs.length) (lateP xs) r12 w0 w1 w2 w3 (idx (bAt (needP xs i)) i) = laws_FnRepairs_p8 xs (totalP xs) b c i 0 (bld (rdyP xs) xs.length) (lateP xs) r12 (idx (bAt (needP xs i)) i)
 | 0,q,hk => by
   obtain rfl : q = w3.length := by omega
   rw [laws_FnRepairs_p6_eq]
   simp only [Int.lt_irrefl,decide_false,Bool.false_eq_true,if_false]
 | k + 1,q,hk => by
   have S := V.fit
   have hf := S.few
   have hq : q < w3.length := by omega
   have hlq : (q : Int) < (w3.length : Int) := by omega
   have ha : w3[q] ∈ sAft xs i := by rw [← hw3]; exact List.getElem_mem hq
   have hab := S.aft i hi _ ha
   have hl2 := idx_len (bAt (needP xs i)) i
   have hae : (((w3[q]).toNat : Nat) : Int) = w3[q] := by omega
   have hin : w3[q] ∈ idx (bAt (needP xs i)) i := by
    rw [← hae]
    exact (idx_mem _ _ _).2 ⟨by omega,(need_iff S hi _).2 ((Rch.refl xs i).step ha)⟩
   have hn := spec_NeededBefore_okN V (k := (w3[q]).toNat) (by omega)
   rw [hae] at hn
   rw [laws_FnRepairs_p6_eq]
   simp only [hlq,Int.natCast_nonneg,decide_true,if_true,Int.toNat_natCast,List.getElem?_eq_getElem hq,Option.bind_some,List.take_length,r8Has_ok _ _ (show (idx (bAt (needP xs i)) i).length ≤ 1048576 by omega),hin,Bool.not_true,Bool.false_eq_true,if_false,hn,bne_self_eq_false]
   exact (r7_ok xs V hi b c r12 w0 w1 w2 w3 hw3 hq _ 0 (Nat.zero_add _)).trans (r6_ok xs V hi b c r12 w0 w1 w2 w3 hw3 k (q + 1) (by omega))
theorem r4_ok (xs : List T_Step.ty) (V : StSmall xs) {i : Nat} (hi : i < xs.length) (b c : Bool) (id : List UInt8) (h cl : Int) (R : List Int) (hst : stAt xs i = (id,h,cl,R,())) :
 laws_FnRepairs_p4 xs (totalP xs) b c i (rdyP xs (bld (rdyP xs) xs.length) i) (bld (rdyP xs) xs.length) (lateP xs) (idx (critB xs) xs.length) id h cl R = laws_FnRepairs_p1 xs (totalP xs) b c ((i + 1 : Nat) : Int) (bld (rdyP xs) xs.length) (lateP xs) (idx (critB xs) xs.length) := by
 have S := V.fit
 have hf := S.few
 have I := late_ok S
 have sc : stepOk (id,h,cl,R,()) = true := by
  have := V.ok
  rw [stepsOk,Bool.and_eq_true] at this
  have := List.all_eq_true.1 this.1 i (by simp; omega)
  rw [stepC,Bool.and_eq_true,hst] at this
  exact this.1
 have hR : R.length ≤ 64 := by
  have hk := sc
  simp only [stepOk,Bool.and_eq_true] at hk
  have hk := hk.2.2.2
  rcases Nat.lt_or_ge 12 R.length with h9 | h9
  ·exfalso
   have lt := risesB_lt hk
   have key : ∀ d,(hd : d < R.length) → (d : Int) ≤ R[d] := by
    intro d
    induction d with
    | zero =>
      intro hd
      have := risesB_at hk hd
      rw [risesAt,Bool.and_eq_true,List.getElem?_eq_getElem hd] at this
      have := (inR_iff'.1 this.1).1
      simpa using this
    | succ d ih =>
      intro hd
      have h1 := ih (by omega)
      have h2 := (lt 1 d hd).2 (by omega)
      omega
   have h1 := key 12 h9
   have := risesB_at hk h9
   rw [risesAt,Bool.and_eq_true,List.getElem?_eq_getElem h9] at this
   have := (inR_iff'.1 this.1).2
   simp only [Option.getD_some] at this
   omega
  ·omega
 obtain ⟨t,t1,t2⟩ := stepText_okN id h cl R sc hR
 have hh : h = sHrs xs i := by unfold sHrs; rw [hst]
 have hA : R = sAft xs i := by unfold sAft; rw [hst]
 have lh := I.hi i (Nat.zero_le _) hi
 have eb := earlyB_bd S hi
 have eh := S.hrs i hi
 have b1 : i < (bld (rdyP xs) xs.length).length := by rw [bld_len]; exact hi
 have b2 : i < (lateP xs).length := by rw [I.len]; exact hi
 have l1 : (i : Int) < ((bld (rdyP xs) xs.length).length : Int) := by omega
 have l2 : (i : Int) < ((lateP xs).length : Int) := by omega
 have e1 : (sBeg (bld (rdyP xs) xs.length) i != rdyP xs (bld (rdyP xs) xs.length) i) = false := by
  have := earlyB_eq S hi
  unfold earlyB at this
  rw [this]; simp
 have c1 : ¬ sBeg (lateP xs) i < sBeg (bld (rdyP xs) xs.length) i := by
  have := lh.2
  unfold earlyB at this
  omega
 have hw : IntKind.i64.wrap (sBeg (lateP xs) i + h) = sBeg (lateP xs) i + sHrs xs i := by
  rw [hh,w64 (by omega) (by omega)]
 have c2 : ¬ sBeg (lateP xs) i + sHrs xs i > totalP xs := by omega
 have hcl := idx_len (critB xs) xs.length
 have hcr : decide ((i : Int) ∈ idx (critB xs) xs.length) = (sBeg (bld (rdyP xs) xs.length) i == sBeg (lateP xs) i) := by
  rw [Bool.eq_iff_iff,decide_eq_true_eq,idx_mem]
  exact ⟨fun h => h.2,fun h => ⟨hi,h⟩⟩
 rw [laws_FnRepairs_p4_eq]
 simp only [t1,t2,Option.bind_some,Int.natCast_nonneg,l1,l2,decide_true,Bool.and_self,if_true,Int.toNat_natCast,sBeg_get b1,sBeg_get b2,e1,c1,hw,c2,decide_false,Bool.false_eq_true,if_false,List.take_length,r8Has_ok _ _ (show (idx (critB xs) xs.length).length ≤ 1048576 by omega),hcr,beq_self_eq_true,Bool.not_true,bne_self_eq_false,r8Same_ok2 R (by omega)]
 rw [laws_FnRepairs_p5_eq,impl_NeededBefore_okN V hi]
 simp only [Option.bind_some,bne_self_eq_false,Bool.false_eq_true,if_false]
 exact (r6_ok xs V hi b c _ id h cl R hA R.length 0 (by omega)).trans (r8_ok xs V hi (fun _ => trivial) b c _ _ 0 (Nat.zero_add _))
theorem r2_ok (xs : List T_Step.ty) (V : StSmall xs) {i : Nat} (hi : i < xs.length) (b c : Bool) (id : List UInt8) (h cl : Int) (R : List Int) (hst : stAt xs i = (id,h,cl,R,())) : ∀ (k j : Nat) (m : Int),j + k = R.length → 0 ≤ m → m ≤ 10000 →
 laws_FnRepairs_p2 xs (totalP xs) b c i m j (bld (rdyP xs) xs.length) (lateP xs) (idx (critB xs) xs.length) id h cl R =
  laws_FnRepairs_p4 xs (totalP xs) (b || (earlyB xs i + sHrs xs i == totalP xs)) (c || (sBeg (lateP xs) i == 0)) i (rdyL xs (bld (rdyP xs) xs.length) (R.drop j) m) (bld (rdyP xs) xs.length) (lateP xs) (idx (critB xs) xs.length) id h cl R
 | 0,j,m,hk,h0,h1 => by
   have S := V.fit
   have I := late_ok S
   obtain rfl : j = R.length := by omega
   have b1 : i < (bld (rdyP xs) xs.length).length := by rw [bld_len]; exact hi
   have b2 : i < (lateP xs).length := by rw [I.len]; exact hi
   have l1 : (i : Int) < ((bld (rdyP xs) xs.length).length : Int) := by omega
   have l2 : (i : Int) < ((lateP xs).length : Int) := by omega
   have eb := earlyB_bd S hi
   have eh := S.hrs i hi
   have hh : h = sHrs xs i := by unfold sHrs; rw [hst]
   have hw : IntKind.i64.wrap (sBeg (bld (rdyP xs) xs.length) i + h) = earlyB xs i + sHrs xs i := by
    rw [hh]
    show IntKind.i64.wrap (earlyB xs i + sHrs xs i) = _
    rw [w64 (by omega) (by omega)]
   have p3 : ∀ b,laws_FnRepairs_p3 xs (totalP xs) b c i m (bld (rdyP xs) xs.length) (lateP xs) (idx (critB xs) xs.length) id h cl R = laws_FnRepairs_p4 xs (totalP xs) b (c || (sBeg (lateP xs) i == 0)) i m (bld (rdyP xs) xs.length) (lateP xs) (idx (critB xs) xs.length) id h cl R := fun b => by
    rw [laws_FnRepairs_p3_eq]
    cases c
    ·simp only [Bool.false_eq_true,if_false,Int.natCast_nonneg,l2,decide_true,Bool.and_self,if_true,Int.toNat_natCast,sBeg_get b2,Option.bind_some,Bool.false_or]
    ·simp only [if_true,Bool.true_or]
   rw [laws_FnRepairs_p2_eq,List.drop_eq_nil_of_le (Nat.le_refl _),rdyL]
   simp only [Int.lt_irrefl,decide_false,Bool.false_eq_true,if_false]
   cases b
   ·simp only [Bool.false_eq_true,if_false,Int.natCast_nonneg,l1,decide_true,Bool.and_self,if_true,Int.toNat_natCast,sBeg_get b1,Option.bind_some,hw,Bool.false_or]
    exact p3 _
   ·simp only [if_true,Bool.true_or]
    exact p3 _
 | k + 1,j,m,hk,h0,h1 => by
   have S := V.fit
   have hf := S.few
   have I := late_ok S
   have hA : R = sAft xs i := by unfold sAft; rw [hst]
   have hal := S.al i hi
   have hj : j < R.length := by omega
   have hlj : (j : Int) < (R.length : Int) := by omega
   rw [← hA] at hal
   have hwj : IntKind.i64.wrap ((j : Int) + 1) = ((j + 1 : Nat) : Int) := by rw [w64 (by omega) (by omega)]; omega
   have ha : R[j] ∈ sAft xs i := by rw [← hA]; exact List.getElem_mem hj
   have hab := S.aft i hi _ ha
   have ho := I.ord i (Nat.zero_le _) hi _ ha
   rw [if_pos (Nat.zero_le _)] at ho
   have hx : (R[j]).toNat < xs.length := by omega
   have eb := earlyB_bd S hx
   have eh := S.hrs _ hx
   have lh := I.hi _ (Nat.zero_le _) hx
   have b1 : (R[j]).toNat < (bld (rdyP xs) xs.length).length := by rw [bld_len]; exact hx
   have b2 : (R[j]).toNat < (lateP xs).length := by rw [I.len]; exact hx
   have b3 : i < (lateP xs).length := by rw [I.len]; exact hi
   have l1 : R[j] < ((bld (rdyP xs) xs.length).length : Int) := by omega
   have l2 : R[j] < ((lateP xs).length : Int) := by omega
   have l3 : (i : Int) < ((lateP xs).length : Int) := by omega
   have hw : IntKind.i64.wrap (sBeg (bld (rdyP xs) xs.length) (R[j]).toNat + (stAt xs (R[j]).toNat).2.1) = sBeg (bld (rdyP xs) xs.length) (R[j]).toNat + sHrs xs (R[j]).toNat := by
    show IntKind.i64.wrap (earlyB xs (R[j]).toNat + sHrs xs (R[j]).toNat) = earlyB xs (R[j]).toNat + sHrs xs (R[j]).toNat
    rw [w64 (by omega) (by omega)]
   have hw2 : IntKind.i64.wrap (sBeg (lateP xs) (R[j]).toNat + (stAt xs (R[j]).toNat).2.1) = sBeg (lateP xs) (R[j]).toNat + sHrs xs (R[j]).toNat := by
    show IntKind.i64.wrap (sBeg (lateP xs) (R[j]).toNat + sHrs xs (R[j]).toNat) = _
    rw [w64 (by omega) (by omega)]
   have c1 : ¬ sBeg (lateP xs) (R[j]).toNat + sHrs xs (R[j]).toNat > sBeg (lateP xs) i := by omega
   have mb : sBeg (bld (rdyP xs) xs.length) (R[j]).toNat + sHrs xs (R[j]).toNat ≤ 10000 := by
    have : earlyB xs (R[j]).toNat + sHrs xs (R[j]).toNat ≤ 10000 := by omega
    exact this
   rw [laws_FnRepairs_p2_eq,List.drop_eq_getElem_cons hj]
   simp only [hlj,Int.natCast_nonneg,decide_true,if_true,Int.toNat_natCast,List.getElem?_eq_getElem hj,Option.bind_some,hab.1,l1,l2,l3,Bool.and_self,sBeg_get b1,sBeg_get b2,sBeg_get b3,st_get hx,hw,hw2,c1,decide_false,Bool.false_eq_true,if_false,mx_if,hwj,rdyL]
   exact r2_ok xs V hi b c id h cl R hst k (j + 1) _ (by omega) (Int.le_trans h0 (mx_l _ _)) (mx_le.2 ⟨h1,mb⟩)
theorem r1_ok (xs : List T_Step.ty) (V : StSmall xs) : ∀ (k i : Nat) (b c : Bool),i + k = xs.length → (0 < xs.length → RepI xs i b c) →
 laws_FnRepairs_p1 xs (totalP xs) b c i (bld (rdyP xs) xs.length) (lateP xs) (idx (critB xs) xs.length) = some true
 | 0,i,b,c,hk,H => by
   obtain rfl : i = xs.length := by omega
   rw [laws_FnRepairs_p1_eq]
   simp only [Int.lt_irrefl,decide_false,Bool.false_eq_true,if_false]
   by_cases h0 : 0 < xs.length
   ·have I := H h0
    have hb : b = true := by
     rcases I.ends with h | ⟨j,h1,h2,_⟩
     ·exact h
     ·omega
    have hc : c = true := by
     rcases I.begins with h | ⟨j,h1,h2,_⟩
     ·exact h
     ·omega
    have hn : ((xs.length : Int) == 0) = false := by rw [beq_eq_false_iff_ne]; omega
    simp [hn,hb,hc]
   ·have hz : xs.length = 0 := by omega
    have ht : totalP xs = 0 := by unfold totalP; rw [hz]; rfl
    simp [hz,ht]
 | k + 1,i,b,c,hk,H => by
   have S := V.fit
   have hi : i < xs.length := by omega
   have hlt : (i : Int) < (xs.length : Int) := by omega
   have I := H (by omega)
   rw [laws_FnRepairs_p1_eq]
   simp only [hlt,Int.natCast_nonneg,decide_true,if_true,Int.toNat_natCast,st_get hi,Option.bind_some]
   rcases hst : stAt xs i with ⟨id,h,cl,R,⟨⟩⟩
   have e2 := r2_ok xs V hi b c id h cl R hst R.length 0 0 (by omega) (by omega) (by omega)
   have hA : R = sAft xs i := by unfold sAft; rw [hst]
   rw [List.drop_zero] at e2
   have er : rdyL xs (bld (rdyP xs) xs.length) R 0 = rdyP xs (bld (rdyP xs) xs.length) i := by rw [hA]; rfl
   rw [er] at e2
   refine e2.trans ((r4_ok xs V hi _ _ id h cl R hst).trans ?_)
   refine r1_ok xs V k (i + 1) _ _ (by omega) fun _ => ⟨?_,?_⟩
   ·rcases I.ends with h | ⟨j,h1,h2,h3⟩
    ·left; simp [h]
    ·by_cases e : j = i
     ·left; subst e; simp [h3]
     ·exact .inr ⟨j,by omega,h2,h3⟩
   ·rcases I.begins with h | ⟨j,h1,h2,h3⟩
    ·left; simp [h]
    ·by_cases e : j = i
     ·left; subst e; simp [h3]
     ·exact .inr ⟨j,by omega,h2,h3⟩
theorem laws_FnRepairs_true (a0 a1 : List Int) (h0 : CT.wf (.sl (.one (.int .u8))) a0) (h1 : CT.wf (.sl (.one (.int .u8))) a1) : laws_FnRepairs a0 a1 = some true := by
 have m0 := bytes_ok h0
 rw [laws_FnRepairs_eq,laws_r8Long_eq]
 by_cases g0 : (a0.length : Int) > 1048576
 ·simp [g0]
 by_cases g1 : (a1.length : Int) > 1048576
 ·simp [g0,g1]
 simp only [g0,g1,decide_false,Bool.false_eq_true,if_false,Option.bind_some]
 obtain ⟨xs,e,V,h6,_⟩ := spec_R8Steps_ok a0 m0 (by omega)
 have S := V.fit
 have I := late_ok S
 have hcr : (!(decide (((idx (critB xs) xs.length).length : Int) > 0) == decide ((xs.length : Int) > 0))) = false := by
  by_cases hz : 0 < xs.length
  ·obtain ⟨_,_,j,hj,hje⟩ := ends_begins S hz
   have hm : (j : Int) ∈ idx (critB xs) xs.length := (idx_mem _ _ _).2 ⟨hj,by unfold critB; unfold earlyB at hje; rw [hje]; simp⟩
   have hp : 0 < (idx (critB xs) xs.length).length := List.length_pos_of_mem hm
   have e1 : ((idx (critB xs) xs.length).length : Int) > 0 := by omega
   have e2 : (xs.length : Int) > 0 := by omega
   simp only [e1,e2,decide_true,beq_self_eq_true,Bool.not_true]
  ·have hl := idx_len (critB xs) xs.length
   have e1 : ¬ ((idx (critB xs) xs.length).length : Int) > 0 := by omega
   have e2 : ¬ (xs.length : Int) > 0 := by omega
   simp only [e1,e2,decide_false,beq_self_eq_true,Bool.not_true]
 simp only [e,Option.bind_some,impl_EarliestStarts_okN V,impl_LatestStarts_okN V,impl_TotalHours_okN V,impl_CriticalSteps_okN V,bne_self_eq_false,Bool.false_eq_true,if_false,bld_len,I.len,hcr,impl_ValidSteps_ok xs V.s1 V.s2,V.ok,Bool.not_true]
 rw [laws_FnRepairs_p0_eq]
 refine r1_ok xs V xs.length 0 false false (by omega) fun hz => ?_
 obtain ⟨⟨j,h1,h2⟩,⟨k,h3,h4⟩,_⟩ := ends_begins S hz
 exact ⟨.inr ⟨j,Nat.zero_le _,h1,h2⟩,.inr ⟨k,Nat.zero_le _,h3,h4⟩⟩
end Go.Ab.P
