/- The law of a shop that passes the audit. Condition: the code is a list of bytes. -/
import Derived.Test.YtcadiimcjfakjaaGreatDoorBFnTop
set_option linter.unusedVariables false
set_option linter.unusedSimpArgs false
namespace Go.Ab.P
open Go.Ab
theorem top_p2 {a : List T_Arc.ty} {b : List T_Neck.ty} {s : Int} {xs : List T_Step.ty} {l : List Int} {f : Int} {g : List T_Paper.ty} {h : List T_Entry.ty} (hs : shopSmall (a,b,s,xs,l,f,g,h,())) (hk : shopOk (a,b,s,xs,l,f,g,h,()) = true) (hp : auditP (a,b,s,xs,l,f,g,h,()) = []) :
 ∀ (k i : Nat),i + k = 40 → laws_FnTop_p2 i a b s xs l f g h = some true := by
 obtain ⟨o1,o2,o3,o4,o5,o6,o7,o8⟩ := shopOk_parts hk
 obtain ⟨n1,n2,n3,n4,n5⟩ := auditP_nil hp
 obtain ⟨h1,h2,h3,h4,h5,h6⟩ := hs
 have F : StepsFit xs l := stepsFit o4 o5 fun y hy => (h3.2 y hy).2
 have V : StSmall xs := ⟨o4,h3.1,h3.2⟩
 have BG : BgFit xs l := ⟨Nat.le_of_eq F.len,F.beg⟩
 have G : RentFit g := rentFit o7
 have K : BookFit h := bookFit o8
 have o4 : stepsOk xs = true := o4
 have o5 : startsOk xs l = true := o5
 have o6 : inR f 0 240 = true := o6
 have o7 : rentalsOk g = true := o7
 have o8 : bookOk h = true := o8
 have n3 : workP xs l f = [] := n3
 have n4 : clashesP g = [] := n4
 have n5 : cashP h = [] := n5
 have fl := F.len
 obtain ⟨f0,f1⟩ := inR_iff'.1 o6
 have hwork : ∀ i,i < xs.length → rdyP xs l i ≤ sBeg l i ∧ usedP xs l (sBeg l i) ≤ f := fun i hi => work_nil n3 hi (F.beg i).1
 have hu : ∀ t,usedP xs l t ≤ f := used_all F f0 fun i hi => (hwork i (by omega)).2
 have hclamps : ∀ i : Nat,i < 40 → spec_ClampsUsed xs l i = some (usedP xs l i,0) := fun i hi => by
  have hin : inR (i : Int) 0 1000000000000 = true := inR_iff'.2 (by omega)
  rw [spec_ClampsUsed_eq,spec_l17Ok_ok xs V.s1 V.s2,V.ok]
  simp only [Option.bind_some,Bool.not_true,Bool.false_eq_true,if_false,spec_l00In_ok,hin,spec_l17Starts_ok xs l h4,o5,spec_l17Used_ok F]
 have hcl : spec_ClashesOf g = some ([],0) := by
  rw [spec_ClashesOf_eq,spec_l21Ok_ok g h5.1 h5.2,o7]
  simp only [Option.bind_some,Bool.not_true,Bool.false_eq_true,if_false,spec_l21Clashes_ok G,n4]
 have hneg : fstNeg (chgG h cashN) h.length 0 0 = none := by
  unfold cashP at n5
  split at n5
  ·cases n5
  ·assumption
 have hfb : spec_FirstBelow h cashN = some (0,3) := by
  have e : isName cashN = true := by decide
  rw [spec_FirstBelow_eq,spec_l25Ask_eq,spec_l25Ok_ok h h6.1 h6.2,o8]
  simp only [Option.bind_some,Bool.not_true,Bool.false_eq_true,if_false,spec_l01Name_ok cashN (by decide),e,bne_self_eq_false]
  exact spec_FirstBelow_none K cashN h.length 0 0 (by omega) (by omega) hneg
 have hfb2 : spec_FirstBelow h [99,97,115,104] = some (0,3) := hfb
 have hke := spec_KeepsClamps_okN V BG F.len f0 f1 (fun i hi => (hwork i hi).1) hu
 intro k
 induction k with
 | zero =>
   intro i hi
   obtain rfl : i = 40 := by omega
   rw [laws_FnTop_p2_eq]
   simp only [show ¬ ((40 : Nat) : Int) < 40 by decide,decide_false,Bool.false_eq_true,if_false,hcl,hfb2,hke,Option.bind_some,if_true,beq_self_eq_true,List.length_nil]
   rfl
 | succ k ih =>
   intro i hi
   have hlt : (i : Int) < 40 := by omega
   have hw : IntKind.i64.wrap ((i : Int) + 1) = ((i + 1 : Nat) : Int) := by rw [w64 (by omega) (by omega)]; omega
   have hb : ¬ usedP xs l (i : Int) > f := by have := hu (i : Int); omega
   rw [laws_FnTop_p2_eq]
   simp only [hlt,decide_true,if_true,hclamps i (by omega),Option.bind_some,bne_self_eq_false,Bool.false_eq_true,if_false,hb,decide_false,hw]
   exact ih (i + 1) (by omega)
theorem top_p1 {a : List T_Arc.ty} {b : List T_Neck.ty} {s : Int} {xs : List T_Step.ty} {l : List Int} {f : Int} {g : List T_Paper.ty} {h : List T_Entry.ty} (hs : shopSmall (a,b,s,xs,l,f,g,h,())) (hk : shopOk (a,b,s,xs,l,f,g,h,()) = true) (hp : auditP (a,b,s,xs,l,f,g,h,()) = []) :
 ∀ (k i : Nat),i + k = b.length → laws_FnTop_p1 i a b s xs l f g h = some true := by
 have h2 : b.length ≤ 1048576 := hs.2.1
 have o2 : cordsOk b = true := (shopOk_parts hk).2.1
 have n2 : breakP b s = [] := (auditP_nil hp).2.1
 intro k
 induction k with
 | zero =>
   intro i hi
   obtain rfl : i = b.length := by omega
   rw [laws_FnTop_p1_eq]
   simp only [Int.lt_irrefl,decide_false,Bool.false_eq_true,if_false]
   exact top_p2 hs hk hp 40 0 (by omega)
 | succ k ih =>
   intro i hi
   have hi2 : i < b.length := by omega
   have hlt : (i : Int) < (b.length : Int) := by omega
   have hw : IntKind.i64.wrap ((i : Int) + 1) = ((i + 1 : Nat) : Int) := by rw [w64 (by omega) (by omega)]; omega
   have hc := cordsOk_at o2 hi2
   have ht : spec_TensionOf (cordAt b i) = some (tensX (cordAt b i),0) := by
    rw [spec_TensionOf_eq,spec_l09One_ok,hc]
    simp only [Option.bind_some,Bool.not_true,Bool.false_eq_true,if_false,spec_l09Tension_ok hc]
   have hb : ¬ IntKind.i64.wrap (1000 * tensX (cordAt b i)) > IntKind.i64.wrap (s * (cordAt b i).2.2.2.1) := by
    have := gather_nil _ _ n2 i (Nat.zero_le _) (by omega)
    unfold breakF at this
    split at this
    ·rename_i q
     rw [holdsC,decide_eq_true_eq] at q
     exact Int.not_lt.2 q
    ·cases this
   rw [laws_FnTop_p1_eq]
   simp only [hlt,decide_true,if_true,Int.natCast_nonneg,Int.toNat_natCast,cordAt_get hi2,ht,Option.bind_some,bne_self_eq_false,Bool.false_eq_true,if_false,hb,decide_false,hw]
   exact ih (i + 1) (by omega)
theorem top_p0 {a : List T_Arc.ty} {b : List T_Neck.ty} {s : Int} {xs : List T_Step.ty} {l : List Int} {f : Int} {g : List T_Paper.ty} {h : List T_Entry.ty} (hs : shopSmall (a,b,s,xs,l,f,g,h,())) (hk : shopOk (a,b,s,xs,l,f,g,h,()) = true) (hp : auditP (a,b,s,xs,l,f,g,h,()) = []) :
 ∀ (k i : Nat),i + k = a.length → laws_FnTop_p0 a.length i a b s xs l f g h = some true := by
 have h1 : a.length ≤ 1048576 := hs.1
 have o1 : outOk a = true := (shopOk_parts hk).1
 have n1 : cornersP a = [] := (auditP_nil hp).1
 have oc : ∀ i,i < a.length → outC a i = true := fun i hi => by
  simp only [outOk,Bool.and_eq_true] at o1
  exact List.all_eq_true.1 o1.1 i (by simp; omega)
 intro k
 induction k with
 | zero =>
   intro i hi
   obtain rfl : i = a.length := by omega
   rw [laws_FnTop_p0_eq]
   simp only [Int.lt_irrefl,decide_false,Bool.false_eq_true,if_false]
   exact top_p1 hs hk hp b.length 0 (by omega)
 | succ k ih =>
   intro i hi
   have hi2 : i < a.length := by omega
   have hlt : (i : Int) < (a.length : Int) := by omega
   have hw : IntKind.i64.wrap ((i : Int) + 1) = (i : Int) + 1 := w64 (by omega) (by omega)
   have hw2 : (i : Int) + 1 = ((i + 1 : Nat) : Int) := by omega
   have h0 : ¬ (a.length : Int) = 0 := by omega
   obtain ⟨t1,t2⟩ := next_at hi2
   have hn : (i + 1) % a.length < a.length := Nat.mod_lt _ (by omega)
   have c1 := oc i hi2
   have c2 := oc _ hn
   simp only [outC,Bool.and_eq_true] at c1 c2
   have hsm : smoothC a i = true := by
    have := gather_nil _ _ n1 i (Nat.zero_le _) (by omega)
    unfold cornerF at this
    split at this
    ·assumption
    ·cases this
   have hj : spec_IsSmoothJoint (arcAt a i) (arcAt a ((i + 1) % a.length)) = some true := by
    rw [spec_IsSmoothJoint_eq,spec_l05One_ok,spec_l05One_ok,c1.1,c2.1]
    simp only [Option.bind_some,if_true,c1.2.1,c1.2.2,Bool.and_self,spec_l05Smooth_eq]
    exact congrArg some hsm
   rw [laws_FnTop_p0_eq]
   simp only [hlt,decide_true,if_true,Int.natCast_nonneg,Int.toNat_natCast,arcAt_get hi2,h0,decide_false,Bool.false_eq_true,if_false,hw,t1,t2,arcAt_get hn,hj,Option.bind_some,Bool.not_true]
   rw [hw2]
   exact ih (i + 1) (by omega)
theorem laws_FnTop_true (code : List Int) (h : CT.wf (.sl (.one (.int .u8))) code) : laws_FnTop code = some true := by
 rw [laws_FnTop_eq]
 by_cases hb : (code.length : Int) > 1048576
 ·simp [hb]
 obtain ⟨x,e,hs⟩ := spec_R8Shop_ok code (bytes_ok h) (by omega)
 simp only [hb,decide_false,Bool.false_eq_true,if_false,e,Option.bind_some,spec_ValidShop_eq,spec_l31Ok_ok x hs,impl_PassesAudit_ok x hs,impl_AuditShop_ok x hs]
 by_cases hk : shopOk x = true
 ·by_cases hp : auditP x = []
  ·simp only [hk,hp,Bool.not_true,Bool.false_eq_true,if_false,List.length_nil,Bool.true_and]
   obtain ⟨a,b,s,xs,l,f,g,hh,⟨⟩⟩ := x
   exact top_p0 hs hk hp a.length 0 (by omega)
  ·have hl : ¬ ((auditP x).length : Int) = 0 := fun q => hp (List.eq_nil_of_length_eq_zero (by omega))
   have hl2 : ((auditP x).length : Int) > 0 := by omega
   have hl3 : (((auditP x).length : Int) == 0) = false := by simpa using hl
   simp only [hk,Bool.not_true,Bool.false_eq_true,if_false,Bool.true_and,hl3,Bool.not_false,if_true,beq_self_eq_true,hl2,decide_true]
 ·simp only [Bool.eq_false_iff.2 hk,Bool.not_false,if_true,Bool.false_and]
end Go.Ab.P
