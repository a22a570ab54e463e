/- Plans with clamps keep them, and the fewest clamps are just enough. Conditions: the arguments are bytes. -/
import Derived.Test.YtnfdkcpnoolmfaaBFnClamps
set_option linter.unusedVariables false
set_option linter.unusedSimpArgs false
namespace Go.Ab.P
open Go.Ab
theorem r8At_p0_ok (l : List Int) (hl : ∀ x,x ∈ l → 0 ≤ x ∧ x ≤ 255) (k : Nat) (hk : k < l.length) (n : Int) (h1 : 2 ≤ n ∧ n ≤ 256) : ∃ x : Int,laws_r8At_p0 l k n = some x ∧ 0 ≤ x ∧ x < n := by
 have hb := hl _ (List.getElem_mem hk)
 have hn : ¬ n = 0 := by omega
 rw [laws_r8At_p0_eq]
 simp only [Int.natCast_nonneg,decide_true,if_true,Int.toNat_natCast,List.getElem?_eq_getElem hk,Option.bind_some,hn,decide_false,Bool.false_eq_true,if_false]
 rw [w64 (n := l[k]) (by omega) (by omega),tmod_nonneg_eq hb.1]
 exact ⟨_,rfl,Int.emod_nonneg _ hn,Int.emod_lt_of_pos _ (by omega)⟩
theorem r8At_ok (l : List Int) (hl : ∀ x,x ∈ l → 0 ≤ x ∧ x ≤ 255) (k : Nat) (n : Int) (h1 : 2 ≤ n ∧ n ≤ 256) : ∃ x : Int,laws_r8At l k n = some x ∧ 0 ≤ x ∧ x < n := by
 rw [laws_r8At_eq]
 have hn : ¬ n ≤ 1 := by omega
 simp only [hn,decide_false,Bool.false_eq_true,if_false]
 by_cases hk : (k : Int) ≥ (l.length : Int)
 ·simp only [hk,decide_true,if_true]; exact ⟨0,rfl,by omega,by omega⟩
 ·simp only [hk,decide_false,Bool.false_eq_true,if_false]
  exact r8At_p0_ok l hl k (by omega) n h1
theorem r8Same_ok (l : List Int) (hl : l.length ≤ 1048576) : laws_r8Same l l = some true := by
 have loop : ∀ (k i : Nat),i + k = l.length → laws_r8Same_p0 l l i = some true := by
  intro k
  induction k with
  | zero =>
    intro i hk
    obtain rfl : i = l.length := by omega
    rw [laws_r8Same_p0_eq]; simp
  | succ k ih =>
    intro i hk
    have hi : i < l.length := by omega
    have hlt : (i : Int) < (l.length : Int) := by omega
    have hwi : IntKind.i64.wrap ((i : Int) + 1) = ((i + 1 : Nat) : Int) := by rw [w64 (by omega) (by omega)]; omega
    rw [laws_r8Same_p0_eq]
    simp only [hlt,Int.natCast_nonneg,decide_true,if_true,Int.toNat_natCast,List.getElem?_eq_getElem hi,Option.bind_some,bne_self_eq_false,Bool.false_eq_true,if_false,hwi]
    exact ih (i + 1) (by omega)
 rw [laws_r8Same_eq]
 simp only [bne_self_eq_false,Bool.false_eq_true,if_false]
 exact loop l.length 0 (by omega)
def mostP (xs : List T_Step.ty) : Nat → Int
 | 0 => 0
 | k + 1 => mx (mostP xs k) (sClp xs k)
theorem mostP_le {xs : List T_Step.ty} {c : Int} : ∀ k,mostP xs k ≤ c ↔ 0 ≤ c ∧ clpOk xs c k
 | 0 => ⟨fun h => ⟨h,fun i hi => absurd hi (Nat.not_lt_zero _)⟩,fun h => h.1⟩
 | k + 1 => by
   rw [mostP,mx_le,mostP_le k]
   constructor
   ·rintro ⟨⟨h1,h2⟩,h3⟩
    refine ⟨h1,fun i hi => ?_⟩
    by_cases h : i < k
    ·exact h2 i h
    ·obtain rfl : i = k := by omega
     exact h3
   ·rintro ⟨h1,h2⟩
    exact ⟨⟨h1,fun i hi => h2 i (by omega)⟩,h2 k (by omega)⟩
theorem mostP_nonneg (xs : List T_Step.ty) : ∀ k,0 ≤ mostP xs k
 | 0 => Int.le_refl _
 | k + 1 => Int.le_trans (mostP_nonneg xs k) (mx_l _ _)
theorem total_bd {xs : List T_Step.ty} (S : StFit xs) (h6 : xs.length ≤ 6) : 0 ≤ totalP xs ∧ totalP xs ≤ 1200 := by
 refine ⟨endsP_nonneg _ _ _,endsP_le (by omega) _ fun j hj => ?_⟩
 have := early_bd S (Nat.le_refl _) j hj
 omega
theorem p8_ok {xs : List T_Step.ty} (S : StFit xs) {l : List Int} (B : BgFit xs l) (hl : l.length = xs.length) (tot hours f n v27 : Int) : ∀ (k i : Nat),i + k = xs.length →
 laws_FnClamps_p8 xs tot hours f n 0 (endsP xs l i) i l = if endsP xs l xs.length ≤ hours then some false else laws_FnClamps_p7 xs tot hours f (IntKind.i64.wrap (n + 1))
 | 0,i,hk => by
   obtain rfl : i = xs.length := by omega
   rw [laws_FnClamps_p8_eq,hl]
   simp only [Int.lt_irrefl,decide_false,Bool.false_eq_true,if_false,bne_self_eq_false,decide_eq_true_eq]
 | k + 1,i,hk => by
   have hf := S.few
   have hi : i < xs.length := by omega
   have hlt : (i : Int) < (l.length : Int) := by omega
   have hwi : IntKind.i64.wrap ((i : Int) + 1) = ((i + 1 : Nat) : Int) := by rw [w64 (by omega) (by omega)]; omega
   have h2 := B.beg i
   have h3 := S.hrs i hi
   have hw : IntKind.i64.wrap (sBeg l i + (stAt xs i).2.1) = sBeg l i + sHrs xs i := by
    show IntKind.i64.wrap (sBeg l i + sHrs xs i) = _
    rw [w64 (by omega) (by omega)]
   rw [laws_FnClamps_p8_eq]
   simp only [hlt,Int.natCast_nonneg,decide_true,Bool.and_self,if_true,Int.toNat_natCast,sBeg_get (show i < l.length by omega),st_get hi,Option.bind_some,hw,mx_if,hwi]
   exact p8_ok S B hl tot hours f n v27 k (i + 1) (by omega)
theorem p7_end {xs : List T_Step.ty} (V : StSmall xs) (h6 : xs.length ≤ 6) (hours f n : Int) (hn : ¬ n < f) : laws_FnClamps_p7 xs (totalP xs) hours f n = some true := by
 have S := V.fit
 have tb := total_bd S h6
 rw [laws_FnClamps_p7_eq,w64 (n := totalP xs - 1) (by omega) (by omega)]
 simp only [hn,decide_false,Bool.false_eq_true,if_false]
 by_cases ht : totalP xs > 0
 ·have hh : (if totalP xs - 1 > 0 then totalP xs - 1 else 0) = totalP xs - 1 := by split <;> omega
  rw [hh]
  rcases impl_FewestClamps_okN V (hours := totalP xs - 1) (by omega) (by omega) with ⟨f,_,f3,_,_⟩ | ⟨_,f2⟩
  ·have := good_ge S f3; omega
  ·rw [f2]; simp [ht]
 ·have h0 : totalP xs = 0 := by omega
  have hh : (if totalP xs - 1 > 0 then totalP xs - 1 else 0) = 0 := by split <;> omega
  rw [hh]
  rcases impl_FewestClamps_okN V (hours := 0) (by omega) (by omega) with ⟨f,_,f3,_,f5⟩ | ⟨f1,_⟩
  ·rw [f5]; simp [ht]
  ·exact absurd (good_many S (show totalP xs ≤ 0 by omega)) (f1 240 (by omega))
theorem p7_ok {xs : List T_Step.ty} (V : StSmall xs) (h6 : xs.length ≤ 6) {hours : Int} {f : Nat} (hf : f ≤ 240) (hmin : ∀ g : Nat,g < f → ¬ goodC xs hours g) : ∀ (k n : Nat),n + k = f → mostP xs xs.length ≤ (n : Int) →
 laws_FnClamps_p7 xs (totalP xs) hours f n = some true
 | 0,n,hk,hm => p7_end V h6 hours f n (by omega)
 | k + 1,n,hk,hm => by
   have S := V.fit
   have hc := ((mostP_le _).1 hm).2
   have hlt : (n : Int) < (f : Int) := by omega
   have hw : IntKind.i64.wrap ((n : Int) + 1) = ((n + 1 : Nat) : Int) := by rw [w64 (by omega) (by omega)]; omega
   rw [laws_FnClamps_p7_eq]
   simp only [hlt,decide_true,if_true,spec_WithClamps_okN V (show (0 : Int) ≤ n by omega) (show (n : Int) ≤ 240 by omega) hc,Option.bind_some]
   have e := p8_ok S (plan_fit S (Nat.le_refl _) hc) (bld_len _ _) (totalP xs) hours f n 0 xs.length 0 (by omega)
   rw [if_neg (fun h => hmin n (by omega) ⟨hc,h⟩),hw] at e
   exact e.trans (p7_ok V h6 hf hmin k (n + 1) (by omega) (by omega))
theorem p6_ok {xs : List T_Step.ty} (S : StFit xs) {l : List Int} (B : BgFit xs l) (hl : l.length = xs.length) (tot most hours f : Int) : ∀ (k i : Nat),i + k = xs.length →
 laws_FnClamps_p6 xs tot most hours f (endsP xs l i) i l = if endsP xs l xs.length > hours then some false else laws_FnClamps_p7 xs tot hours f most
 | 0,i,hk => by
   obtain rfl : i = xs.length := by omega
   rw [laws_FnClamps_p6_eq]
   simp only [Int.lt_irrefl,decide_false,Bool.false_eq_true,if_false,decide_eq_true_eq]
 | k + 1,i,hk => by
   have hf := S.few
   have hi : i < xs.length := by omega
   have hlt : (i : Int) < (xs.length : Int) := by omega
   have hlt2 : (i : Int) < (l.length : Int) := by omega
   have hwi : IntKind.i64.wrap ((i : Int) + 1) = ((i + 1 : Nat) : Int) := by rw [w64 (by omega) (by omega)]; omega
   have h2 := B.beg i
   have h3 := S.hrs i hi
   have hw : IntKind.i64.wrap (sBeg l i + (stAt xs i).2.1) = sBeg l i + sHrs xs i := by
    show IntKind.i64.wrap (sBeg l i + sHrs xs i) = _
    rw [w64 (by omega) (by omega)]
   rw [laws_FnClamps_p6_eq]
   simp only [hlt,hlt2,Int.natCast_nonneg,decide_true,Bool.and_self,if_true,Int.toNat_natCast,sBeg_get (show i < l.length by omega),st_get hi,Option.bind_some,hw,mx_if,hwi]
   exact p6_ok S B hl tot most hours f k (i + 1) (by omega)
theorem p3_ok {xs : List T_Step.ty} (V : StSmall xs) (h6 : xs.length ≤ 6) (a1 : List Int) (hb : ∀ x,x ∈ a1 → 0 ≤ x ∧ x ≤ 255) : laws_FnClamps_p3 a1 xs (totalP xs) (mostP xs xs.length) = some true := by
 have S := V.fit
 have tb := total_bd S h6
 obtain ⟨x,e1,b1,b2⟩ := r8At_ok a1 hb 1 20 (by omega)
 have e1' : laws_r8At a1 1 20 = some x := e1
 rw [laws_FnClamps_p3_eq,e1',Option.bind_some,w64 (n := totalP xs + x) (by omega) (by omega)]
 rcases impl_FewestClamps_okN V (hours := totalP xs + x) (by omega) (by omega) with ⟨f,f1,f3,f4,f5⟩ | ⟨f1,_⟩
 ·have hm : mostP xs xs.length ≤ (f : Int) := (mostP_le _).2 ⟨by omega,f3.1⟩
  have c1 : ¬ (f : Int) < mostP xs xs.length := by omega
  have c2 : ¬ (f : Int) > 240 := by omega
  simp only [f5,Option.bind_some,bne_self_eq_false,Bool.false_eq_true,if_false,c1,c2,decide_false]
  rw [laws_FnClamps_p5_eq,spec_WithClamps_okN V (show (0 : Int) ≤ f by omega) (by omega) f3.1]
  simp only [Option.bind_some,bne_self_eq_false,Bool.false_eq_true,if_false]
  have e := p6_ok S (plan_fit S (Nat.le_refl _) f3.1) (bld_len _ _) (totalP xs) (mostP xs xs.length) (totalP xs + x) f xs.length 0 (by omega)
  rw [if_neg (by have := f3.2; omega)] at e
  refine e.trans ?_
  have hmn := mostP_nonneg xs xs.length
  obtain ⟨n,hn⟩ : ∃ n : Nat,mostP xs xs.length = (n : Int) := ⟨(mostP xs xs.length).toNat,by omega⟩
  rw [hn]
  exact p7_ok V h6 f1 f4 (f - n) n (by omega) (by omega)
 ·exact absurd (good_many S (show totalP xs ≤ totalP xs + x by omega)) (f1 240 (by omega))
theorem p4_ok {xs : List T_Step.ty} (V : StSmall xs) (h6 : xs.length ≤ 6) (a1 : List Int) (hb : ∀ x,x ∈ a1 → 0 ≤ x ∧ x ≤ 255) {cl : Int} (c0 : 0 ≤ cl) (hc : clpOk xs cl xs.length) : ∀ (k i : Nat),i + k = xs.length →
 laws_FnClamps_p4 a1 xs cl (totalP xs) (mostP xs xs.length) i (bld (planF xs cl) xs.length) (bld (rdyP xs) xs.length) = some true
 | 0,i,hk => by
   obtain rfl : i = xs.length := by omega
   rw [laws_FnClamps_p4_eq]
   simp only [Int.lt_irrefl,decide_false,Bool.false_eq_true,if_false]
   exact p3_ok V h6 a1 hb
 | k + 1,i,hk => by
   have S := V.fit
   have hi : i < xs.length := by omega
   have hlt : (i : Int) < (xs.length : Int) := by omega
   have hwi : IntKind.i64.wrap ((i : Int) + 1) = ((i + 1 : Nat) : Int) := by rw [w64 (by omega) (by omega)]; omega
   have P := planOk S xs.length (Nat.le_refl _) hc
   have B := plan_fit S (Nat.le_refl _) hc
   have h2 := P.beg i hi
   have h3 := S.hrs i hi
   have h4 := early_le S (Nat.le_refl _) hc i hi
   have u1 := P.use (sBeg (bld (planF xs cl) xs.length) i)
   have u1' : usedP xs (bld (planF xs cl) xs.length) (sBeg (bld (planF xs cl) xs.length) i) ≤ cl := by
    unfold mx at u1; split at u1 <;> omega
   have u2 : sClp xs i ≤ usedP xs (bld (planF xs cl) xs.length) (sBeg (bld (planF xs cl) xs.length) i) := by
    have := sumG_ge (f := usedG xs (bld (planF xs cl) xs.length) (sBeg (bld (planF xs cl) xs.length) i)) (fun j => (usedG_bdS S _ _ j).1) (bld (planF xs cl) xs.length).length 0 i (by omega) (by rw [bld_len]; omega)
    refine Int.le_trans ?_ this
    unfold usedG
    have a1 : sBeg (bld (planF xs cl) xs.length) i < sBeg (bld (planF xs cl) xs.length) i + sHrs xs i := by omega
    simp [a1,hi]
   have hcu := impl_ClampsUsed_okN V B (bld_len _ _) h2.1 (show _ ≤ 2400 by omega)
   have d1 : ¬ sBeg (bld (planF xs cl) xs.length) i < sBeg (bld (rdyP xs) xs.length) i := by omega
   have d2 : ¬ usedP xs (bld (planF xs cl) xs.length) (sBeg (bld (planF xs cl) xs.length) i) < (stAt xs i).2.2.1 := by
    show ¬ _ < sClp xs i
    omega
   have d3 : ¬ usedP xs (bld (planF xs cl) xs.length) (sBeg (bld (planF xs cl) xs.length) i) > cl := by omega
   have b1 : i < (bld (planF xs cl) xs.length).length := by rw [bld_len]; exact hi
   have b2 : i < (bld (rdyP xs) xs.length).length := by rw [bld_len]; exact hi
   have l1 : (i : Int) < ((bld (planF xs cl) xs.length).length : Int) := by omega
   have l2 : (i : Int) < ((bld (rdyP xs) xs.length).length : Int) := by omega
   rw [laws_FnClamps_p4_eq]
   simp only [hlt,l1,l2,Int.natCast_nonneg,decide_true,Bool.and_self,if_true,Int.toNat_natCast,sBeg_get b1,sBeg_get b2,List.take_length,hcu,st_get hi,Option.bind_some,d1,d2,d3,decide_false,bne_self_eq_false,Bool.false_eq_true,if_false,hwi]
   exact p4_ok V h6 a1 hb c0 hc k (i + 1) (by omega)
theorem p1_ok (xs : List T_Step.ty) (hs : xs.length ≤ 12) (a1 : List Int) (cl v8 tot : Int) (r7 r11 : List Int) : ∀ (k i : Nat),i + k = xs.length →
 laws_FnClamps_p1 a1 xs cl v8 tot (mostP xs i) i r7 r11 = laws_FnClamps_p1 a1 xs cl v8 tot (mostP xs xs.length) xs.length r7 r11
 | 0,i,hk => by
   obtain rfl : i = xs.length := by omega
   rfl
 | k + 1,i,hk => by
   have hi : i < xs.length := by omega
   have hlt : (i : Int) < (xs.length : Int) := by omega
   have hwi : IntKind.i64.wrap ((i : Int) + 1) = ((i + 1 : Nat) : Int) := by rw [w64 (by omega) (by omega)]; omega
   have e : (stAt xs i).2.2.1 = sClp xs i := rfl
   have ih := p1_ok xs hs a1 cl v8 tot r7 r11 k (i + 1) (by omega)
   rw [laws_FnClamps_p1_eq]
   simp only [hlt,Int.natCast_nonneg,decide_true,if_true,Int.toNat_natCast,st_get hi,Option.bind_some,e,mx_if,hwi]
   exact ih
theorem laws_FnClamps_true (a0 a1 : List Int) (h0 : CT.wf (.sl (.one (.int .u8))) a0) (h1 : CT.wf (.sl (.one (.int .u8))) a1) : laws_FnClamps a0 a1 = some true := by
 have m0 := bytes_ok h0
 have m1 := bytes_ok h1
 rw [laws_FnClamps_eq,laws_r8Long_eq]
 by_cases g0 : (a0.length : Int) > 1048576
 ·simp [g0]
 by_cases g1 : (a1.length : Int) > 1048576
 ·simp [g0,g1]
 simp only [g0,g1,decide_false,Bool.false_eq_true,if_false,Option.bind_some]
 obtain ⟨xs,e,V,h6,_⟩ := spec_R8Steps_ok a0 m0 (by omega)
 have S := V.fit
 obtain ⟨cl,e1,b1,b2⟩ := r8At_ok a1 m1 0 20 (by omega)
 have e1' : laws_r8At a1 0 20 = some cl := e1
 have hm : clpOk xs 240 xs.length := fun i hi => by have := S.clp i hi; omega
 have w1 := impl_WithClamps_okN V (cl := 240) (by omega) (by omega)
 rw [if_pos (clpOk_iff.2 hm),plan_many S _ (Nat.le_refl _)] at w1
 have w2 := impl_WithClamps_okN V (cl := cl) b1 (by omega)
 have sm := r8Same_ok (bld (rdyP xs) xs.length) (by rw [bld_len]; omega)
 simp only [e,e1',w1,w2,Option.bind_some,spec_EarliestStarts_okN V,spec_TotalHours_okN V,bne_self_eq_false,Bool.false_eq_true,if_false,List.take_length,sm,Bool.not_true]
 rw [laws_FnClamps_p0_eq]
 have k1 := p1_ok xs S.few a1 cl
 have step := fun v8 r7 => k1 v8 (totalP xs) r7 (bld (rdyP xs) xs.length) xs.length 0 (by omega)
 by_cases hc : clpOk xs cl xs.length
 ·rw [if_pos (clpOk_iff.2 hc)]
  refine (step 0 _).trans ?_
  have c1 : mostP xs xs.length ≤ cl := (mostP_le _).2 ⟨b1,hc⟩
  have P := planOk S xs.length (Nat.le_refl _) hc
  have B := plan_fit S (Nat.le_refl _) hc
  have hu : ∀ h,usedP xs (bld (planF xs cl) xs.length) h ≤ cl := fun h => by
   have u1 := P.use h
   unfold mx at u1; split at u1 <;> omega
  have tk : (bld (planF xs cl) xs.length).take xs.length = bld (planF xs cl) xs.length := List.take_of_length_le (by rw [bld_len]; exact Nat.le_refl _)
  rw [laws_FnClamps_p1_eq]
  simp only [tk,Int.lt_irrefl,decide_false,Bool.false_eq_true,if_false,beq_self_eq_true,c1,decide_true,Bool.not_true,if_true,bld_len,bne_self_eq_false,List.take_length,spec_KeepsClamps_okN V B (bld_len _ _) b1 (by omega) P.rdy hu,impl_KeepsClamps_okN V B (bld_len _ _) b1 (by omega) P.rdy hu,Option.bind_some]
  rw [laws_FnClamps_p2_eq]
  exact p4_ok V h6 a1 m1 b1 hc xs.length 0 (by omega)
 ·rw [if_neg (fun h => hc (clpOk_iff.1 h))]
  refine (step 3 _).trans ?_
  have c1 : ¬ mostP xs xs.length ≤ cl := fun h => hc ((mostP_le _).1 h).2
  rw [laws_FnClamps_p1_eq]
  simp only [Int.lt_irrefl,decide_false,Bool.false_eq_true,if_false,c1]
  exact p3_ok V h6 a1 m1
end Go.Ab.P
