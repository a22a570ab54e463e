/- Functions of the program: abstract forms, and what their runs give. Conditions: none. -/
import Derived.Test.YtmflggnljccofaaGreatDoorL4
set_option maxRecDepth 100000
set_option linter.unusedVariables false
namespace Go.Ab.P
open Go.Ab
def spec_CommandNames_ir : Fn := { np := 0,io := [],res := [.t 0],own := [true],body :=
 (.seq (.reg false [.W 0 (.asg (.c (.nils 1)))] [] []) (.seq (.reg false [.V 1 (.bsl 1 (.str []) 25 [(0,.c (.str [98,101,110,99,104,101,115])),(1,.c (.str [99,108,101,97,110])),(2,.c (.str [99,117,116])),(3,.c (.str [100,114,121])),(4,.c (.str [102,105,116])),(5,.c (.str [103,108,117,101])),(6,.c (.str [104,101,108,112])),(7,.c (.str [109,97,115,115])),(8,.c (.str [109,111,100,101])),(9,.c (.str [110,101,99,107])),(10,.c (.str [110,111,116,101])),(11,.c (.str [111,112,101,110])),(12,.c (.str [112,97,112,101,114])),(13,.c (.str [112,101,103])),(14,.c (.str [112,108,97,116,101])),(15,.c (.str [112,111,116])),(16,.c (.str [114,101,112,111,114,116])),(17,.c (.str [114,105,98])),(18,.c (.str [115,104,105,109])),(19,.c (.str [115,104,111,119])),(20,.c (.str [115,116,97,99,107])),(21,.c (.str [116,104,105,110])),(22,.c (.str [116,114,117,115,116])),(23,.c (.str [119,111,108,102])),(24,.c (.str [119,111,114,107]))]),.W 0 (.asg (.t 1))] [0] [0]) .ret)) }
noncomputable def spec_CommandNames_D : List (Nat × Callee) := []
def spec_CommandNames_H : List (Nat × ET) := [(0,(.one .str)),(1,(.one .str))]
noncomputable def spec_CommandNames_c : Callee := mkCallee spec_CommandNames_D spec_CommandNames_H spec_CommandNames_ir [] [.tok (.one .str)] []
noncomputable def spec_CommandNames  : Option (List (List UInt8)) := spec_CommandNames_c.f (())
theorem spec_CommandNames_eq  : spec_CommandNames  =
 some [[98,101,110,99,104,101,115],[99,108,101,97,110],[99,117,116],[100,114,121],[102,105,116],[103,108,117,101],[104,101,108,112],[109,97,115,115],[109,111,100,101],[110,101,99,107],[110,111,116,101],[111,112,101,110],[112,97,112,101,114],[112,101,103],[112,108,97,116,101],[112,111,116],[114,101,112,111,114,116],[114,105,98],[115,104,105,109],[115,104,111,119],[115,116,97,99,107],[116,104,105,110],[116,114,117,115,116],[119,111,108,102],[119,111,114,107]] :=
 (mk_f _ _ _ _ _ _ _ 4000).trans (by kernel_rfl)
noncomputable def impl_CommandNames_c : Callee := namesC cmdNames
noncomputable def impl_CommandNames  : Option (List (List UInt8)) := impl_CommandNames_c.f (())
theorem impl_CommandNames_eq  : impl_CommandNames  = some cmdNames := rfl
def laws_eqStringS_k0 : C :=
 .seq (.seq (.reg false [.V 11 (.mv (.t 5)),.V 12 (.mv (.t 0)),.V 13 (.len (.t 12)),.V 14 (.bin .lss (.t 11) (.t 13))] [0,1,5,14] []) (.cond (.t 14) .skip (.exit 0))) (.seq (.block 1 (.seq (.reg true [.V 17 (.mv (.t 0)),.V 18 (.mv (.t 5)),.V 19 (.ia 1 (.t 17) (.t 18)),.V 20 (.ld none (.t 19)),.V 21 (.mv (.t 1)),.V 22 (.mv (.t 5)),.V 23 (.ia 1 (.t 21) (.t 22)),.V 24 (.ld none (.t 23)),.V 25 (.bin .neq (.t 20) (.t 24))] [0,1,5,25] []) (.cond (.t 25) (.seq (.reg false [.V 4 (.asg (.c (.bool false)))] [4] []) .ret) .skip))) (.reg false [.V 15 (.mv (.t 5)),.V 16 (.bin .add (.t 15) (.c (.int .i64 1))),.V 5 (.asg (.t 16))] [0,1,5] []))
def laws_eqStringS_k1 : C :=
 .norm [0,1,5] [] laws_eqStringS_k0
def laws_eqStringS_k2 : C :=
 .seq (.reg false [.V 4 (.asg (.c (.bool true)))] [4] []) .ret
def laws_eqStringS_ir : Fn := { np := 2,io := [],res := [.t 4],own := [false],body :=
 (.seq (.reg false [.V 4 (.asg (.c (.bool false)))] [0,1] []) (.seq (.seq (.reg false [.V 6 (.mv (.t 0)),.V 7 (.len (.t 6)),.V 8 (.mv (.t 1)),.V 9 (.len (.t 8)),.V 10 (.bin .neq (.t 7) (.t 9))] [0,1,10] []) (.cond (.t 10) (.seq (.reg false [.V 4 (.asg (.c (.bool false)))] [4] []) .ret) .skip)) (.seq (.seq (.reg false [.V 5 (.asg (.c (.int .i64 0)))] [0,1,5] []) (.block 0 (.loop laws_eqStringS_k1))) laws_eqStringS_k2))) }
noncomputable def laws_eqStringS_D : List (Nat × Callee) := []
def laws_eqStringS_H : List (Nat × ET) := [(6,(.one .str)),(8,(.one .str)),(12,(.one .str)),(17,(.one .str)),(21,(.one .str))]
noncomputable def laws_eqStringS_c : Callee := mkCallee laws_eqStringS_D laws_eqStringS_H laws_eqStringS_ir [.d (.one (.sl (.one .str))),.d (.one (.sl (.one .str)))] [.d (.one .bool)] []
noncomputable def laws_eqStringS (a0 : List (List UInt8)) (a1 : List (List UInt8)) : Option (Bool) := laws_eqStringS_c.f (a0,a1,())
noncomputable def laws_eqStringS_p0  (v0 : List (List UInt8)) (v1 : List (List UInt8)) (v5 : Int) : Option (Bool) :=
 goL laws_eqStringS_D laws_eqStringS_H (vleave laws_eqStringS_ir [.d (.one (.sl (.one .str))),.d (.one (.sl (.one .str)))] [.d (.one .bool)] [] []) [.c laws_eqStringS_k0,.l laws_eqStringS_k1,.e 0,.c laws_eqStringS_k2]
  ⟨[(0,.sl (.one .str) v0),(1,.sl (.one .str) v1),(5,.int .i64 v5)],[]⟩
theorem laws_eqStringS_eq (a0 : List (List UInt8)) (a1 : List (List UInt8)) : laws_eqStringS a0 a1 =
 if ((a0.length : Int) != (a1.length : Int)) then
  some false
 else
  laws_eqStringS_p0 a0 a1 0 :=
 (mk_f _ _ _ _ _ _ _ 4000).trans (by kernel_rfl)
theorem laws_eqStringS_p0_eq  (v0 : List (List UInt8)) (v1 : List (List UInt8)) (v5 : Int) : laws_eqStringS_p0 v0 v1 v5 =
 if decide (v5 < (v0.length : Int)) then
  if decide (0 ≤ v5) then
   (v0[v5.toNat]?).bind fun x1 =>
    if decide (0 ≤ v5) then
     (v1[v5.toNat]?).bind fun x2 =>
      if (!(x1 == x2)) then
       some false
      else
       laws_eqStringS_p0 v0 v1 (IntKind.i64.wrap (v5 + 1))
    else
     none
  else
   none
 else
  some true :=
 (goL_dn _ _ _ 4000 _ _).trans (by kernel_rfl)
def laws_markText_k0 : C :=
 .seq (.seq (.reg false [.V 6 (.mv (.t 0)),.V 7 (.bin .gtr (.t 6) (.c (.int .i64 0)))] [0,3,7] []) (.cond (.t 7) .skip (.exit 0))) (.block 1 (.seq (.reg false [.V 8 (.mv (.t 0)),.V 9 (.bin .rem (.t 8) (.c (.int .i64 10))),.V 10 (.bin .add (.c (.int .i64 48)) (.t 9)),.V 11 (.conv (.int .u8) (.t 10)),.V 12 (.bsl 1 (.int .u8 0) 1 [(0,.t 11)]),.V 13 (.conv .bytesStr (.t 12)),.V 14 (.mv (.t 3)),.V 15 (.bin .add (.t 13) (.t 14)),.V 3 (.asg (.t 15))] [0,3] []) (.reg false [.V 16 (.mv (.t 0)),.V 17 (.bin .quo (.t 16) (.c (.int .i64 10))),.V 0 (.asg (.t 17))] [0,3] [])))
def laws_markText_k1 : C :=
 .norm [0,3] [] laws_markText_k0
def laws_markText_k2 : C :=
 .seq (.reg false [.V 18 (.mv (.t 3)),.V 19 (.bin .add (.c (.str [109])) (.t 18)),.V 2 (.asg (.t 19))] [2] []) .ret
def laws_markText_ir : Fn := { np := 1,io := [],res := [.t 2],own := [false],body :=
 (.seq (.reg false [.V 2 (.asg (.c (.str [])))] [0] []) (.seq (.seq (.reg false [.V 4 (.mv (.t 0)),.V 5 (.bin .leq (.t 4) (.c (.int .i64 0)))] [0,5] []) (.cond (.t 5) (.seq (.reg false [.V 2 (.asg (.c (.str [109,48])))] [2] []) .ret) .skip)) (.seq (.reg false [.V 3 (.asg (.c (.str [])))] [0,3] []) (.seq (.block 0 (.loop laws_markText_k1)) laws_markText_k2)))) }
noncomputable def laws_markText_D : List (Nat × Callee) := []
def laws_markText_H : List (Nat × ET) := [(12,(.one (.int .u8)))]
noncomputable def laws_markText_c : Callee := mkCallee laws_markText_D laws_markText_H laws_markText_ir [.d (.one (.int .i64))] [.d (.one .str)] []
noncomputable def laws_markText (a0 : Int) : Option (List UInt8) := laws_markText_c.f (a0,())
noncomputable def laws_markText_p0  (v0 : Int) (v3 : List UInt8) : Option (List UInt8) :=
 goL laws_markText_D laws_markText_H (vleave laws_markText_ir [.d (.one (.int .i64))] [.d (.one .str)] [] []) [.c laws_markText_k0,.l laws_markText_k1,.e 0,.c laws_markText_k2]
  ⟨[(0,.int .i64 v0),(3,.str v3)],[]⟩
theorem laws_markText_eq (a0 : Int) : laws_markText a0 =
 if decide (a0 ≤ 0) then
  some [109,48]
 else
  laws_markText_p0 a0 [] :=
 (mk_f _ _ _ _ _ _ _ 4000).trans (by kernel_rfl)
theorem laws_markText_p0_eq  (v0 : Int) (v3 : List UInt8) : laws_markText_p0 v0 v3 =
 if decide (v0 > 0) then
  if decide (([IntKind.u8.wrap (IntKind.i64.wrap (48 + (v0.tmod 10)))].map vu8).length + v3.length ≤ strMax) then
   laws_markText_p0 (IntKind.i64.wrap (v0.tdiv 10)) (([IntKind.u8.wrap (IntKind.i64.wrap (48 + (v0.tmod 10)))].map vu8) ++ v3)
  else
   none
 else
  if decide ([109].length + v3.length ≤ strMax) then
   some ([109] ++ v3)
  else
   none :=
 (goL_dn _ _ _ 4000 _ _).trans (by kernel_rfl)
def laws_markStringS_k0 : C :=
 .seq (.seq (.reg false [.V 6 (.mv (.t 5)),.V 7 (.mv (.t 0)),.V 8 (.len (.t 7)),.V 9 (.bin .lss (.t 6) (.t 8))] [0,1,5,9] [0]) (.cond (.t 9) .skip (.exit 0))) (.seq (.block 1 (.seq (.reg false [.V 12 (.mv (.t 0)),.V 13 (.mv (.t 5)),.V 14 (.mv (.t 1)),.V 15 (.call (.c (.fn 40 [])) [.t 14]),.V 16 (.ia 1 (.t 12) (.t 13)),⟨none,true,.sto 1 (.t 16) (.t 15),none,false,[]⟩] [0,1,5] [0]) (.reg false [.V 17 (.mv (.t 1)),.V 18 (.bin .add (.t 17) (.c (.int .i64 1))),.V 1 (.asg (.t 18))] [0,1,5] [0]))) (.reg false [.V 10 (.mv (.t 5)),.V 11 (.bin .add (.t 10) (.c (.int .i64 1))),.V 5 (.asg (.t 11))] [0,1,5] [0]))
def laws_markStringS_k1 : C :=
 .norm [0,1,5] [0] laws_markStringS_k0
def laws_markStringS_k2 : C :=
 .seq (.reg false [.V 19 (.mv (.t 1)),.V 4 (.asg (.t 19))] [0,4] [0]) .ret
def laws_markStringS_ir : Fn := { np := 2,io := [true,false],res := [.t 4],own := [false],body :=
 (.seq (.reg false [.V 4 (.asg (.c (.int .i64 0)))] [0,1] [0]) (.seq (.seq (.reg false [.V 5 (.asg (.c (.int .i64 0)))] [0,1,5] [0]) (.block 0 (.loop laws_markStringS_k1))) laws_markStringS_k2)) }
noncomputable def laws_markStringS_D : List (Nat × Callee) := [(40,laws_markText_c)]
def laws_markStringS_H : List (Nat × ET) := [(7,(.one .str)),(12,(.one .str))]
noncomputable def laws_markStringS_c : Callee := mkCallee laws_markStringS_D laws_markStringS_H laws_markStringS_ir [.ios (.one .str),.d (.one (.int .i64))] [.d (.one (.int .i64))] [.ios (.one .str)]
noncomputable def laws_markStringS (a0 : List (List UInt8)) (a1 : Int) : Option (Int × List (List UInt8)) := laws_markStringS_c.f (a0,a1,())
noncomputable def laws_markStringS_p0 (l0 : Nat) (v0n : Nat) (v1 : Int) (v5 : Int) (r0 : List (List UInt8)) : Option (Int × List (List UInt8)) :=
 goL laws_markStringS_D laws_markStringS_H (vleave laws_markStringS_ir [.ios (.one .str),.d (.one (.int .i64))] [.d (.one (.int .i64))] [.ios (.one .str)] [l0]) [.c laws_markStringS_k0,.l laws_markStringS_k1,.e 0,.c laws_markStringS_k2]
  ⟨[(0,.view 0 0 v0n),(1,.int .i64 v1),(5,.int .i64 v5)],[(0,some (.sl (.one .str) r0))]⟩
theorem laws_markStringS_eq (a0 : List (List UInt8)) (a1 : Int) : laws_markStringS a0 a1 =
 laws_markStringS_p0 a0.length a0.length a1 0 a0 :=
 (mk_f _ _ _ _ _ _ _ 4000).trans (by kernel_rfl)
theorem laws_markStringS_p0_eq (l0 : Nat) (v0n : Nat) (v1 : Int) (v5 : Int) (r0 : List (List UInt8)) : laws_markStringS_p0 l0 v0n v1 v5 r0 =
 if decide (v5 < (v0n : Int)) then
  (laws_markText v1).bind fun x1 =>
   if decide (0 ≤ v5) && decide (v5 < (v0n : Int)) then
    (r0[v5.toNat]?).bind fun x2 =>
     laws_markStringS_p0 l0 v0n (IntKind.i64.wrap (v1 + 1)) (IntKind.i64.wrap (v5 + 1)) (r0.set v5.toNat x1)
   else
    none
 else
  if decide (r0.length = l0) then
   some (v1,r0)
  else
   none :=
 (goL_dn _ _ _ 4000 _ _).trans (by kernel_rfl)
def laws_heldStringS_k0 : C :=
 .seq (.seq (.reg false [.V 6 (.mv (.t 5)),.V 7 (.mv (.t 0)),.V 8 (.len (.t 7)),.V 9 (.bin .lss (.t 6) (.t 8))] [0,1,5,9] []) (.cond (.t 9) .skip (.exit 0))) (.seq (.block 1 (.seq (.seq (.reg true [.V 12 (.mv (.t 0)),.V 13 (.mv (.t 5)),.V 14 (.ia 1 (.t 12) (.t 13)),.V 15 (.ld none (.t 14)),.V 16 (.mv (.t 1)),.V 17 (.call (.c (.fn 40 [])) [.t 16]),.V 18 (.bin .neq (.t 15) (.t 17))] [0,1,5,18] []) (.cond (.t 18) (.seq (.reg false [.V 4 (.asg (.c (.int .i64 (-1))))] [4] []) .ret) .skip)) (.reg false [.V 19 (.mv (.t 1)),.V 20 (.bin .add (.t 19) (.c (.int .i64 1))),.V 1 (.asg (.t 20))] [0,1,5] []))) (.reg false [.V 10 (.mv (.t 5)),.V 11 (.bin .add (.t 10) (.c (.int .i64 1))),.V 5 (.asg (.t 11))] [0,1,5] []))
def laws_heldStringS_k1 : C :=
 .norm [0,1,5] [] laws_heldStringS_k0
def laws_heldStringS_k2 : C :=
 .seq (.reg false [.V 21 (.mv (.t 1)),.V 4 (.asg (.t 21))] [4] []) .ret
def laws_heldStringS_ir : Fn := { np := 2,io := [],res := [.t 4],own := [false],body :=
 (.seq (.reg false [.V 4 (.asg (.c (.int .i64 0)))] [0,1] []) (.seq (.seq (.reg false [.V 5 (.asg (.c (.int .i64 0)))] [0,1,5] []) (.block 0 (.loop laws_heldStringS_k1))) laws_heldStringS_k2)) }
noncomputable def laws_heldStringS_D : List (Nat × Callee) := [(40,laws_markText_c)]
def laws_heldStringS_H : List (Nat × ET) := [(7,(.one .str)),(12,(.one .str))]
noncomputable def laws_heldStringS_c : Callee := mkCallee laws_heldStringS_D laws_heldStringS_H laws_heldStringS_ir [.d (.one (.sl (.one .str))),.d (.one (.int .i64))] [.d (.one (.int .i64))] []
noncomputable def laws_heldStringS (a0 : List (List UInt8)) (a1 : Int) : Option (Int) := laws_heldStringS_c.f (a0,a1,())
noncomputable def laws_heldStringS_p0  (v0 : List (List UInt8)) (v1 : Int) (v5 : Int) : Option (Int) :=
 goL laws_heldStringS_D laws_heldStringS_H (vleave laws_heldStringS_ir [.d (.one (.sl (.one .str))),.d (.one (.int .i64))] [.d (.one (.int .i64))] [] []) [.c laws_heldStringS_k0,.l laws_heldStringS_k1,.e 0,.c laws_heldStringS_k2]
  ⟨[(0,.sl (.one .str) v0),(1,.int .i64 v1),(5,.int .i64 v5)],[]⟩
theorem laws_heldStringS_eq (a0 : List (List UInt8)) (a1 : Int) : laws_heldStringS a0 a1 =
 laws_heldStringS_p0 a0 a1 0 :=
 (mk_f _ _ _ _ _ _ _ 4000).trans (by kernel_rfl)
theorem laws_heldStringS_p0_eq  (v0 : List (List UInt8)) (v1 : Int) (v5 : Int) : laws_heldStringS_p0 v0 v1 v5 =
 if decide (v5 < (v0.length : Int)) then
  if decide (0 ≤ v5) then
   (v0[v5.toNat]?).bind fun x1 =>
    (laws_markText v1).bind fun x2 =>
     if (!(x1 == x2)) then
      some (-1)
     else
      laws_heldStringS_p0 v0 (IntKind.i64.wrap (v1 + 1)) (IntKind.i64.wrap (v5 + 1))
  else
   none
 else
  some v1 :=
 (goL_dn _ _ _ 4000 _ _).trans (by kernel_rfl)
def laws_FnExactCommandNames_ir : Fn := { np := 0,io := [],res := [.t 0],own := [false],body :=
 (.seq (.reg false [.V 0 (.asg (.c (.bool false)))] [] []) (.seq (.reg false [.V 6 (.call (.c (.fn 433 [])) []),.W 1 (.asg (.t 6))] [1] [1]) (.seq (.reg false [.V 7 (.call (.c (.fn 432 [])) []),.W 2 (.asg (.t 7))] [1,2] [1,2]) (.seq (.seq (.reg false [.V 8 (.mv (.t 2)),.V 9 (.mv (.t 1)),.V 10 (.call (.c (.fn 137 [])) [.t 8,.t 9]),.V 11 (.un .not (.t 10))] [1,2,11] [1,2]) (.cond (.t 11) (.seq (.reg false [.V 0 (.asg (.c (.bool false)))] [0] []) .ret) .skip)) (.seq (.reg false [.V 3 (.asg (.c (.int .i64 1)))] [1,2,3] [1,2]) (.seq (.reg false [.V 12 (.mv (.t 2)),.V 13 (.mv (.t 3)),.W 14 (.call (.c (.fn 139 [])) [.t 12,.t 13]),.V 3 (.asg (.t 14))] [1,2,3] [1,2]) (.seq (.reg false [.V 4 (.asg (.c (.int .i64 1)))] [1,2,3,4] [1,2]) (.seq (.reg false [.V 15 (.mv (.t 2)),.V 16 (.mv (.t 4)),.V 17 (.call (.c (.fn 136 [])) [.t 15,.t 16]),.V 4 (.asg (.t 17))] [1,2,3,4] [1,2]) (.seq (.seq (.reg false [.V 18 (.mv (.t 4)),.V 19 (.bin .lss (.t 18) (.c (.int .i64 0)))] [1,2,3,4,19] [1,2]) (.cond (.t 19) (.seq (.reg false [.V 0 (.asg (.c (.bool false)))] [0] []) .ret) .skip)) (.seq (.seq (.reg false [.V 20 (.mv (.t 4)),.V 21 (.mv (.t 3)),.V 22 (.bin .neq (.t 20) (.t 21))] [1,2,3,22] [1,2]) (.cond (.t 22) (.seq (.reg false [.V 0 (.asg (.c (.bool false)))] [0] []) .ret) .skip)) (.seq (.reg false [.V 23 (.call (.c (.fn 432 [])) []),.W 5 (.asg (.t 23))] [1,2,3,5] [1,2,5]) (.seq (.seq (.reg false [.V 24 (.mv (.t 5)),.V 25 (.mv (.t 1)),.V 26 (.call (.c (.fn 137 [])) [.t 24,.t 25]),.V 27 (.un .not (.t 26))] [2,3,27] [2]) (.cond (.t 27) (.seq (.reg false [.V 0 (.asg (.c (.bool false)))] [0] []) .ret) .skip)) (.seq (.reg false [.V 4 (.asg (.c (.int .i64 1)))] [2,3,4] [2]) (.seq (.reg false [.V 28 (.mv (.t 2)),.V 29 (.mv (.t 4)),.V 30 (.call (.c (.fn 136 [])) [.t 28,.t 29]),.V 4 (.asg (.t 30))] [3,4] []) (.seq (.seq (.reg false [.V 31 (.mv (.t 4)),.V 32 (.bin .lss (.t 31) (.c (.int .i64 0)))] [3,4,32] []) (.cond (.t 32) (.seq (.reg false [.V 0 (.asg (.c (.bool false)))] [0] []) .ret) .skip)) (.seq (.seq (.reg false [.V 33 (.mv (.t 4)),.V 34 (.mv (.t 3)),.V 35 (.bin .neq (.t 33) (.t 34))] [35] []) (.cond (.t 35) (.seq (.reg false [.V 0 (.asg (.c (.bool false)))] [0] []) .ret) .skip)) (.seq (.reg false [.V 0 (.asg (.c (.bool true)))] [0] []) .ret))))))))))))))))) }
noncomputable def laws_FnExactCommandNames_D : List (Nat × Callee) := [(136,laws_heldStringS_c),(137,laws_eqStringS_c),(139,laws_markStringS_c),(432,impl_CommandNames_c),(433,spec_CommandNames_c)]
def laws_FnExactCommandNames_H : List (Nat × ET) := [(1,(.one .str)),(2,(.one .str)),(5,(.one .str)),(6,(.one .str)),(7,(.one .str)),(8,(.one .str)),(9,(.one .str)),(12,(.one .str)),(15,(.one .str)),(23,(.one .str)),(24,(.one .str)),(25,(.one .str)),(28,(.one .str))]
noncomputable def laws_FnExactCommandNames_c : Callee := mkCallee laws_FnExactCommandNames_D laws_FnExactCommandNames_H laws_FnExactCommandNames_ir [] [.d (.one .bool)] []
noncomputable def laws_FnExactCommandNames  : Option (Bool) := laws_FnExactCommandNames_c.f (())
theorem laws_FnExactCommandNames_eq  : laws_FnExactCommandNames  =
 (spec_CommandNames).bind fun x1 =>
  (impl_CommandNames).bind fun x2 =>
   (laws_eqStringS (x2.take x2.length) (x1.take x1.length)).bind fun x3 =>
    if (!x3) then
     some false
    else
     if decide (x2.length = x2.length) then
      (laws_markStringS x2 1).bind fun x4 =>
       (laws_heldStringS (x4.2.take x2.length) 1).bind fun x5 =>
        if decide (x5 < 0) then
         some false
        else
         if (x5 != x4.1) then
          some false
         else
          (impl_CommandNames).bind fun x6 =>
           (laws_eqStringS (x6.take x6.length) (x1.take x1.length)).bind fun x7 =>
            if (!x7) then
             some false
            else
             (laws_heldStringS (x4.2.take x2.length) 1).bind fun x8 =>
              if decide (x8 < 0) then
               some false
              else
               if (x8 != x4.1) then
                some false
               else
                some true
     else
      none :=
 (mk_f _ _ _ _ _ _ _ 4000).trans (by kernel_rfl)
end Go.Ab.P
