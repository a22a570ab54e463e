/- DeskReport of the program and of the reference are equal, wherever the sizes pass. Conditions: numbers and lengths are those of their kinds. -/
import Derived.Test.YtihgbmhhcalejaaGreatDoorBFnExactDeskReport
set_option linter.unusedVariables false
set_option linter.unusedSimpArgs false
namespace Go.Ab.P
open Go.Ab
theorem neckStop {a b c d : Int} (h : neckOk (a,b,c,d,()) = true) : -1000000000000 ≤ a ∧ a ≤ 1000000000000 := by
 simp only [neckOk,inR,Bool.and_eq_true,decide_eq_true_eq] at h
 omega
theorem deskReport_same (x : T_Desk.ty) (h : deskSmall x) : ∃ (ps : List (List UInt8)) (c : Int),ps.length ≤ 1048576 ∧ spec_DeskReport x = some (ps,c) ∧ impl_DeskReport x = some (ps,c) := by
 rw [spec_DeskReport_eq,impl_DeskReport_eq,spec_l32Ok_okD x h,impl_ValidDesk_ok x h]
 simp only [Option.bind_some]
 by_cases hk : deskOk x = true
 ·have hneck : neckOk (x.2.2.2.1,x.2.2.2.2.1,x.2.2.2.2.2.1,x.2.2.2.2.2.2.1,()) = true := by
   simp only [deskOk,Bool.and_eq_true] at hk
   exact hk.2.2.2.1
  have hst := neckStop hneck
  obtain ⟨h1,h2,h3,h4,h5,h6,h7,h8⟩ := h
  simp only [hk,Bool.not_true,Bool.false_eq_true,if_false]
  have e5 : decide ([(115 : Nat),116,111,112,32].length + (Lib.itoa x.2.2.2.1).length ≤ strMax) = true := by
   have := itoa_len x.2.2.2.1 hst
   rw [strMax_eq]; simp only [List.length_cons,List.length_nil,decide_eq_true_eq]; omega
  rw [deskLine_1 _ _ (by decide) (by have := h1.1; omega),deskLine_1 _ _ (by decide) (by have := h2.1; omega),deskLine_1 _ _ (by decide) (by have := h3.1; omega),impl_Decimal_ok _ (by omega),
   deskLine_1 _ _ (by decide) (by have := h4.1; omega),deskLine_1 _ _ (by decide) (by have := h5.1; omega),deskLine_1 _ _ (by decide) (by have := h6.1; omega),deskLine_1 _ _ (by decide) (by have := h7.1; omega),deskLine_1 _ _ (by decide) (by have := h8.1; omega)]
  simp only [Option.bind_some,e5,if_true]
  have q := deskReport_loop [[115,116,97,99,107,115],[114,105,98,115],[114,111,119,115],[115,116,111,112],[112,101,103,115],[112,111,116,115],[109,111,100,101,115],[119,111,114,107,115],[112,97,112,101,114,115]]
   [(List.length (α := T_Peg.ty) x.1 : Int),(List.length (α := T_Mode.ty) x.2.1 : Int),(List.length (α := List Int) x.2.2.1 : Int),x.2.2.2.1,(List.length (α := T_Peg.ty) x.2.2.2.2.2.2.2.1 : Int),(List.length (α := T_Pot.ty) x.2.2.2.2.2.2.2.2.1 : Int),(List.length (α := T_Mode.ty) x.2.2.2.2.2.2.2.2.2.1 : Int),(List.length (α := T_Peg.ty) x.2.2.2.2.2.2.2.2.2.2.1 : Int),(List.length (α := T_Paper.ty) x.2.2.2.2.2.2.2.2.2.2.2.1 : Int)]
   (by decide) (by
     intro n hn
     have := h1.1; have := h2.1; have := h3.1; have := h4.1; have := h5.1; have := h6.1; have := h7.1; have := h8.1
     simp only [List.mem_cons,List.not_mem_nil,or_false] at hn
     rcases hn with rfl | rfl | rfl | rfl | rfl | rfl | rfl | rfl | rfl <;> omega) rfl (by decide) 9 0 [] rfl rfl
  exact ⟨_,0,by show (9 : Nat) ≤ 1048576; decide,q,rfl⟩
 ·have hk' : deskOk x = false := by simpa using hk
  simp only [hk',Bool.not_false,if_true]
  exact ⟨[],1,by decide,rfl,rfl⟩
theorem laws_FnExactDeskReport_true (x : T_Desk.ty) (h : ET.wf T_Desk x) : laws_FnExactDeskReport_F.Cond x := by
 obtain ⟨n,e1,e2⟩ := szDesk_ok x h
 refine ⟨n,e1,?_⟩
 by_cases hn : n < 0
 ·exact .inl hn
 have hs := e2 (by omega)
 obtain ⟨ps,c,hl,r1,r2⟩ := deskReport_same x hs
 have es := eqDesk_ok x hs
 obtain ⟨h1,h2,h3,h4,h5,h6,h7,h8⟩ := hs
 have hrow : ∀ j,j < List.length (α := List Int) x.2.2.1 → (rowAt (show List (List Int) from x.2.2.1) j).length ≤ 1048576 := fun j hj => by
  have : rowAt (show List (List Int) from x.2.2.1) j = (show List (List Int) from x.2.2.1)[j] := by simp [rowAt,List.getElem?_eq_getElem hj]
  rw [this]; exact h3.2 _ (List.getElem_mem hj)
 exact .inr {
  hl := h3.1
  hn := hrow
  cN := laws_toNeck_eq _
  c0 := toStackS_ok _ h1.1
  c1 := toRibS_ok _ h2.1
  c7 := toPegS_ok _ h4.1
  c8 := toPotS_ok _ h5.1
  c9 := toModeS_ok _ h6.1
  c10 := toWorkS_ok _ h7.1
  c11 := toPaperS_ok _ h8.1
  cI := fun ns h => toInt64S_ok ns h
  k0 := fun m hm => markStackS_okD _ h1.1 m hm
  k1 := fun m hm => markRibS_okD _ h2.1 m hm
  k7 := fun m hm => markPegS_okD _ h4.1 m hm
  k8 := fun m hm => markPotS_okD _ h5.1 m hm
  k9 := fun m hm => markModeS_okD _ h6.1 m hm
  k10 := fun m hm => markWorkS_okD _ h7.1 m hm
  k11 := fun m hm => markPaperS_okD _ h8.1 m hm
  kI := fun ns m h hm => ⟨m + ns.length,_,by omega,(markInt64S_ok ns m (by omega) (by omega)).trans (by rw [Int.natCast_add])⟩
  es := es
  res := ⟨ps,c,1 + ps.length,tmarks 1 ps.length,r1,r2,eqStringS_ok ps hl,(markStringS_ok ps 1 (by omega) (by omega)).trans (by rw [Int.natCast_add]; rfl),(heldStringS_ok 1 ps.length (by omega) (by omega)).trans (by rw [Int.natCast_add]; rfl)⟩ }
end Go.Ab.P
