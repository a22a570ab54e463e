/- The law of a shop's problems. Condition: the code is a list of bytes. -/
import Derived.Test.YtcadiimcjfakjaaGreatDoorBFnAudit
set_option linter.unusedVariables false
set_option linter.unusedSimpArgs false
namespace Go.Ab.P
open Go.Ab
def twoRents : List T_Paper.ty := [([97],[118,105,111,108,97],0,2,0,()),([98],[118,105,111,108,97],40,1,0,())]
theorem twoRents_clash : clashesP twoRents = [[0,1]] := by decide
theorem two_len : twoRents.length ≤ 1048576 := by decide
theorem two_short (y : T_Paper.ty) (hy : y ∈ twoRents) : y.1.length ≤ 1048576 ∧ y.2.1.length ≤ 1048576 := by
 rcases List.mem_cons.1 hy with rfl | hy
 ·exact ⟨show List.length (α := UInt8) [97] ≤ 1048576 by decide,show List.length (α := UInt8) [118,105,111,108,97] ≤ 1048576 by decide⟩
 ·rw [List.mem_singleton] at hy
  subst hy
  exact ⟨show List.length (α := UInt8) [98] ≤ 1048576 by decide,show List.length (α := UInt8) [118,105,111,108,97] ≤ 1048576 by decide⟩
theorem two_small {a : List T_Arc.ty} {b : List T_Neck.ty} {s : Int} {xs : List T_Step.ty} {l : List Int} {f : Int} {g : List T_Paper.ty} {h : List T_Entry.ty} (hs : shopSmall (a,b,s,xs,l,f,g,h,())) : shopSmall (a,b,s,xs,l,f,twoRents,h,()) := by
 obtain ⟨h1,h2,h3,h4,h5,h6⟩ := hs
 exact ⟨h1,h2,h3,h4,⟨two_len,two_short⟩,h6⟩
theorem audit_tail {a : List T_Arc.ty} {b : List T_Neck.ty} {s : Int} {xs : List T_Step.ty} {l : List Int} {f : Int} {g : List T_Paper.ty} {h : List T_Entry.ty} (hs : shopSmall (a,b,s,xs,l,f,g,h,())) (hk : shopOk (a,b,s,xs,l,f,g,h,()) = true) (hb : cordsBig b) (ps : List T_Problem.ty) (hl : ps.length ≤ 1048576)
 (hp : ∀ p : T_Problem.ty,p ∈ ps → ((1 : Int) ≤ p.1 ∧ (p.1 : Int) ≤ 5) ∧ p.2.1.length ≤ 2000000 ∧ p.2.2.1.length ≤ 2000000) :
 ∀ (k i : Nat),i + k = ps.length → laws_FnAudit_p1 i a b s xs l f g h ps = some true := by
 have hs1 : shopSmall (a,b,0,xs,l,f,g,h,()) := hs
 have hs2 := two_small hs
 obtain ⟨o1,o2,o3,o4,o5,o6,o7,o8⟩ := shopOk_parts hk
 have o1 : outOk a = true := o1
 have o2 : cordsOk b = true := o2
 have o3 : inR s 0 1000 = true := o3
 have o4 : stepsOk xs = true := o4
 have o5 : startsOk xs l = true := o5
 have o6 : inR f 0 240 = true := o6
 have o8 : bookOk h = true := o8
 have hk1 : shopOk (a,b,0,xs,l,f,g,h,()) = true := by
  simp only [shopOk,Bool.and_eq_true] at hk ⊢
  exact ⟨o1,o2,by decide,hk.2.2.2⟩
 have hr2 : rentalsOk twoRents = true := by decide
 have hk2 : shopOk (a,b,s,xs,l,f,twoRents,h,()) = true := by
  simp only [shopOk,Bool.and_eq_true] at hk ⊢
  exact ⟨o1,o2,o3,o4,o5,o6,hr2,o8⟩
 have e1 : impl_BodyProblems (a,b,0,xs,l,f,g,h,()) = some (bodyP a b 0,0) := impl_BodyProblems_ok (a,b,0,xs,l,f,g,h,()) hs1 hk1
 have e2 : impl_TradeProblems (a,b,s,xs,l,f,twoRents,h,()) = some (tradeP twoRents h,0) := impl_TradeProblems_ok (a,b,s,xs,l,f,twoRents,h,()) hs2 hk2
 have e2 : impl_TradeProblems (a,b,s,xs,l,f,[([97],[118,105,111,108,97],0,2,0,()),([98],[118,105,111,108,97],40,1,0,())],h,()) = some (tradeP twoRents h,0) := e2
 have hl1 : (bodyP a b 0).length ≤ 20 := bodyP_small (x := (a,b,0,xs,l,f,g,h,())) hk1
 obtain ⟨r,c1,c2,c3,c4⟩ := impl_CountProblems_some (bodyP a b 0) (by omega) fun p q => (bodyP_mem hs.1 hs.2.1 o2 q).1
 rw [body_two o2 hb] at c4
 obtain ⟨T,hT⟩ : ∃ T : List T_Problem.ty,tradeP twoRents h = (4,[97],[98],()) :: T := by
  unfold tradeP
  rw [twoRents_clash]
  exact ⟨_,rfl⟩
 have tl1 : ((((4,[97],[98],()) : T_Problem.ty) :: T).length : Int) ≠ 0 := by rw [List.length_cons]; omega
 have tl2 : (0 : Int) < ((((4,[97],[98],()) : T_Problem.ty) :: T).length : Int) := by rw [List.length_cons]; omega
 have tl3 : (((((4,[97],[98],()) : T_Problem.ty) :: T).length : Int) == 0) = false := by simpa using tl1
 intro k
 induction k with
 | zero =>
   intro i hi
   obtain rfl : i = ps.length := by omega
   have rl : ((r.length : Int) == 6) = true := by rw [c2]; rfl
   have rl2 : (2 : Int) < (r.length : Int) := by omega
   rw [laws_FnAudit_p1_eq]
   simp only [Int.lt_irrefl,decide_false,Bool.false_eq_true,if_false,e1,Option.bind_some,List.take_length,c1,e2,bne_self_eq_false,hT,tl3,laws_FnAudit_p2_eq,beq_self_eq_true,if_true,rl,rl2,tl2,decide_true,c4,List.getElem?_cons_zero]
 | succ k ih =>
   intro i hi
   have hi2 : i < ps.length := by omega
   have hlt : (i : Int) < (ps.length : Int) := by omega
   have hw : IntKind.i64.wrap ((i : Int) + 1) = ((i + 1 : Nat) : Int) := by rw [w64 (by omega) (by omega)]; omega
   obtain ⟨g1,g2⟩ := hp _ (List.getElem_mem hi2)
   obtain ⟨t,t1,t2⟩ := impl_ProblemText_some ps[i] g1 g2
   obtain ⟨n,n1,n2,_⟩ := impl_ProblemName_some ps[i].1 g1
   rw [laws_FnAudit_p1_eq]
   simp only [hlt,decide_true,if_true,Int.natCast_nonneg,Int.toNat_natCast,Bool.and_self,List.getElem?_eq_getElem hi2,Option.bind_some,t1,t2,n1,n2,Bool.false_eq_true,if_false,hw]
   exact ih (i + 1) (by omega)
theorem laws_FnAudit_true (code : List Int) (h : CT.wf (.sl (.one (.int .u8))) code) : laws_FnAudit code = some true := by
 rw [laws_FnAudit_eq]
 by_cases hb : (code.length : Int) > 1048576
 ·simp [hb]
 obtain ⟨x,e,hs,hbig⟩ := spec_R8Shop_ok2 code (bytes_ok h) (by omega)
 simp only [hb,decide_false,Bool.false_eq_true,if_false,e,Option.bind_some,spec_ValidShop_eq,spec_l31Ok_ok x hs,impl_PassesAudit_ok x hs,impl_AuditShop_ok x hs]
 by_cases hk : shopOk x = true
 ·obtain ⟨l1,l2,l3⟩ := audit_small hs hk
  have hal : (auditP x).length = (bodyP x.1 x.2.1 x.2.2.1).length + (workP x.2.2.2.1 x.2.2.2.2.1 x.2.2.2.2.2.1).length + (tradeP x.2.2.2.2.2.2.1 x.2.2.2.2.2.2.2.1).length := by
   unfold auditP; rw [List.length_append,List.length_append]
  obtain ⟨r,c1,c2,c3,_⟩ := impl_CountProblems_some (auditP x) (by omega) fun p q => (auditP_mem hs hk q).1
  have hsum : IntKind.i64.wrap ((IntKind.i64.wrap (((bodyP x.1 x.2.1 x.2.2.1).length : Int) + ((workP x.2.2.2.1 x.2.2.2.2.1 x.2.2.2.2.2.1).length : Int))) + ((tradeP x.2.2.2.2.2.2.1 x.2.2.2.2.2.2.2.1).length : Int)) = ((auditP x).length : Int) := by
   rw [w64 (n := ((bodyP x.1 x.2.1 x.2.2.1).length : Int) + ((workP x.2.2.2.1 x.2.2.2.2.1 x.2.2.2.2.2.1).length : Int)) (by omega) (by omega),w64 (by omega) (by omega),hal]
   omega
  have rl : ((r.length : Int) != 6) = false := by rw [c2]; rfl
  have rl2 : (0 : Int) < (r.length : Int) := by omega
  simp only [hk,if_true,impl_BodyProblems_ok x hs hk,impl_WorkProblems_ok x hs hk,impl_TradeProblems_ok x hs hk,Option.bind_some,Bool.not_true,Bool.false_eq_true,if_false,List.take_length,c1,bne_self_eq_false,hsum,rl,rl2,decide_true,c3,Bool.true_and,beq_self_eq_true]
  have hm : ∀ p : T_Problem.ty,p ∈ auditP x → ((1 : Int) ≤ p.1 ∧ (p.1 : Int) ≤ 5) ∧ p.2.1.length ≤ 2000000 ∧ p.2.2.1.length ≤ 2000000 := fun p q => auditP_mem hs hk q
  have hl : (auditP x).length ≤ 1048576 := by omega
  generalize auditP x = ps at hm hl
  obtain ⟨a,b,s,xs,l,f,g,hh,⟨⟩⟩ := x
  rw [laws_FnAudit_p0_eq]
  exact audit_tail hs hk hbig ps hl hm ps.length 0 (by omega)
 ·simp only [Bool.eq_false_iff.2 hk,Bool.not_false,if_true,Bool.false_and]
end Go.Ab.P
