/- Functions of the program: abstract forms, and what their runs give. Conditions: none. -/
import Derived.Test.YtbijadelckpmjaaGreatDoorPFnStacks1
set_option maxRecDepth 100000
set_option linter.unusedVariables false
namespace Go.Ab.P
open Go.Ab
/- impl.IsName -/
def impl_IsName_k0 : C :=
 .seq (.reg false [⟨some 21, false, .mv (.t 4), none, false, []⟩, ⟨some 22, false, .un .not (.t 21), none, false, []⟩, ⟨some 23, false, .mv (.t 22), none, false, []⟩, ⟨some 24, false, .mv (.t 3), some (2, true), false, []⟩, ⟨some 25, false, .bin .eql (.t 24) (.c (.int .i64 0)), some (2, true), false, []⟩, ⟨some 26, false, .mv (.t 25), some (2, true), false, []⟩, ⟨some 27, false, .mv (.t 0), some (5, false), false, []⟩, ⟨some 28, false, .mv (.t 3), some (5, false), false, []⟩, ⟨some 29, false, .ix (.t 27) (.t 28), some (5, false), false, []⟩, ⟨some 30, false, .call (.c (.fn 22 [])) [.t 29], some (5, false), false, []⟩, ⟨some 31, false, .un .not (.t 30), some (5, false), false, []⟩, ⟨some 32, false, .pick (.t 26) (.c (.bool true)) (.t 31), some (2, true), false, []⟩, ⟨some 33, false, .pick (.t 23) (.t 32) (.c (.bool false)), none, false, []⟩] [0, 3, 33] []) (.cond (.t 33) (.seq (.reg false [⟨some 2, false, .asg (.c (.bool false)), none, false, []⟩] [2] []) .ret) .skip)
def impl_IsName_k1 : C :=
 .reg false [⟨some 9, false, .mv (.t 3), none, false, []⟩, ⟨some 10, false, .bin .add (.t 9) (.c (.int .i64 1)), none, false, []⟩, ⟨some 3, false, .asg (.t 10), none, false, []⟩] [0, 3] []
def impl_IsName_k2 : C :=
 .seq (.seq (.reg false [⟨some 5, false, .mv (.t 3), none, false, []⟩, ⟨some 6, false, .mv (.t 0), none, false, []⟩, ⟨some 7, false, .lens (.t 6), none, false, []⟩, ⟨some 8, false, .bin .lss (.t 5) (.t 7), none, false, []⟩] [0, 3, 8] []) (.cond (.t 8) .skip (.exit 0))) (.seq (.block 1 (.seq (.reg false [⟨some 11, false, .mv (.t 0), none, false, []⟩, ⟨some 12, false, .mv (.t 3), none, false, []⟩, ⟨some 13, false, .ix (.t 11) (.t 12), none, false, []⟩, ⟨some 14, false, .bin .geq (.t 13) (.c (.int .u8 97)), none, false, []⟩, ⟨some 15, false, .mv (.t 14), none, false, []⟩, ⟨some 16, false, .mv (.t 0), some (4, true), false, []⟩, ⟨some 17, false, .mv (.t 3), some (4, true), false, []⟩, ⟨some 18, false, .ix (.t 16) (.t 17), some (4, true), false, []⟩, ⟨some 19, false, .bin .leq (.t 18) (.c (.int .u8 122)), some (4, true), false, []⟩, ⟨some 20, false, .pick (.t 15) (.t 19) (.c (.bool false)), none, false, []⟩, ⟨some 4, false, .asg (.t 20), none, false, []⟩] [0, 3, 4] []) (.norm [0, 3, 4] [] impl_IsName_k0))) impl_IsName_k1)
def impl_IsName_k3 : C :=
 .norm [0, 3] [] impl_IsName_k2
def impl_IsName_k4 : C :=
 .seq (.reg false [⟨some 34, false, .mv (.t 0), none, false, []⟩, ⟨some 35, false, .bin .neq (.t 34) (.c (.str [])), none, false, []⟩, ⟨some 36, false, .mv (.t 35), none, false, []⟩, ⟨some 37, false, .mv (.t 0), some (2, true), false, []⟩, ⟨some 38, false, .lens (.t 37), some (2, true), false, []⟩, ⟨some 39, false, .call (.c (.fn 21 [])) [.t 38, .c (.int .i64 10)], some (2, true), false, []⟩, ⟨some 40, false, .pick (.t 36) (.t 39) (.c (.bool false)), none, false, []⟩, ⟨some 2, false, .asg (.t 40), none, false, []⟩] [2] []) .ret
def impl_IsName_ir : Fn := { np := 1, io := [], res := [.t 2], own := [false], body :=
 (.seq (.reg false [⟨some 2, false, .asg (.c (.bool false)), none, false, []⟩] [0] []) (.seq (.seq (.reg false [⟨some 3, false, .asg (.c (.int .i64 0)), none, false, []⟩] [0, 3] []) (.block 0 (.loop impl_IsName_k3))) impl_IsName_k4)) }
noncomputable def impl_IsName_D : List (Nat × Callee) := [(21, impl_few_c), (22, impl_isDigit_c)]
def impl_IsName_H : List (Nat × ET) := []
noncomputable def impl_IsName_c : Callee := mkCallee impl_IsName_D impl_IsName_H impl_IsName_ir [.d (.one .str)] [.d (.one .bool)] []
noncomputable def impl_IsName (a0 : List UInt8) : Option (Bool) := impl_IsName_c.f (a0, ())
noncomputable def impl_IsName_p0  (v0 : List UInt8) (v3 : Int) : Option (Bool) :=
 goL impl_IsName_D impl_IsName_H (vleave impl_IsName_ir [.d (.one .str)] [.d (.one .bool)] [] []) [.c impl_IsName_k2, .l impl_IsName_k3, .e 0, .c impl_IsName_k4]
  ⟨[(0, .str v0), (3, .int .i64 v3)], []⟩
noncomputable def impl_IsName_p1  (v0 : List UInt8) (v3 : Int) (v4 : Bool) : Option (Bool) :=
 goL impl_IsName_D impl_IsName_H (vleave impl_IsName_ir [.d (.one .str)] [.d (.one .bool)] [] []) [.c impl_IsName_k0, .e 1, .c impl_IsName_k1, .l impl_IsName_k3, .e 0, .c impl_IsName_k4]
  ⟨[(0, .str v0), (3, .int .i64 v3), (4, .bool v4)], []⟩
theorem impl_IsName_eq (a0 : List UInt8) : impl_IsName a0 =
  impl_IsName_p0 a0 0 :=
 (mk_f _ _ _ _ _ _ _ 4000).trans (by kernel_rfl)
theorem impl_IsName_p0_eq  (v0 : List UInt8) (v3 : Int) : impl_IsName_p0 v0 v3 =
  if decide (v3 < (v0.length : Int)) then
   if decide (0 ≤ v3) then
    (v0[v3.toNat]?).bind fun x1 =>
     if decide ((x1.toNat : Int) ≥ 97) then
      if decide (0 ≤ v3) then
       (v0[v3.toNat]?).bind fun x2 =>
        impl_IsName_p1 v0 v3 (decide ((x2.toNat : Int) ≤ 122))
      else
       none
     else
      impl_IsName_p1 v0 v3 false
   else
    none
  else
   if (!(v0 == [])) then
    (impl_few (v0.length : Int) 10).bind fun x3 =>
     some x3
   else
    some false :=
 (goL_dn _ _ _ 4000 _ _).trans (by kernel_rfl)
theorem impl_IsName_p1_eq  (v0 : List UInt8) (v3 : Int) (v4 : Bool) : impl_IsName_p1 v0 v3 v4 =
  if (!v4) then
   if (v3 == 0) then
    some false
   else
    if decide (0 ≤ v3) then
     (v0[v3.toNat]?).bind fun x1 =>
      (impl_isDigit (x1.toNat : Int)).bind fun x2 =>
       if (!x2) then
        some false
       else
        impl_IsName_p0 v0 (IntKind.i64.wrap (v3 + 1))
    else
     none
  else
   impl_IsName_p0 v0 (IntKind.i64.wrap (v3 + 1)) :=
 (goL_dn _ _ _ 4000 _ _).trans (by kernel_rfl)

/- impl.isDay -/
def impl_isDay_ir : Fn := { np := 1, io := [], res := [.t 2], own := [false], body :=
 (.seq (.reg false [⟨some 2, false, .asg (.c (.bool false)), none, false, []⟩] [0] []) (.seq (.reg false [⟨some 3, false, .mv (.t 0), none, false, []⟩, ⟨some 4, false, .call (.c (.fn 23 [])) [.t 3, .c (.int .i64 0), .c (.int .i64 36524)], none, false, []⟩, ⟨some 2, false, .asg (.t 4), none, false, []⟩] [2] []) .ret)) }
noncomputable def impl_isDay_D : List (Nat × Callee) := [(23, impl_within_c)]
def impl_isDay_H : List (Nat × ET) := []
noncomputable def impl_isDay_c : Callee := mkCallee impl_isDay_D impl_isDay_H impl_isDay_ir [.d (.one (.int .i64))] [.d (.one .bool)] []
noncomputable def impl_isDay (a0 : Int) : Option (Bool) := impl_isDay_c.f (a0, ())
theorem impl_isDay_eq (a0 : Int) : impl_isDay a0 =
  (impl_within a0 0 36524).bind fun x1 =>
   some x1 :=
 (mk_f _ _ _ _ _ _ _ 4000).trans (by kernel_rfl)

/- (impl.Stack).valid -/
def impl_Stack_valid_ir : Fn := { np := 1, io := [], res := [.t 2], own := [false], body :=
 (.seq (.reg false [⟨some 1, true, .box 4 (.t 0), none, false, []⟩, ⟨some 2, false, .asg (.c (.bool false)), none, false, []⟩] [1] [1]) (.seq (.reg false [⟨some 3, false, .fa 0 (.t 1), none, false, []⟩, ⟨some 4, false, .ld none (.t 3), none, false, []⟩, ⟨some 5, false, .call (.c (.fn 24 [])) [.t 4], none, false, []⟩, ⟨some 6, false, .mv (.t 5), none, false, []⟩, ⟨some 7, false, .fa 1 (.t 1), some (3, true), false, []⟩, ⟨some 8, false, .ld none (.t 7), some (3, true), false, []⟩, ⟨some 9, false, .call (.c (.fn 483 [])) [.t 8], some (3, true), false, []⟩, ⟨some 10, false, .pick (.t 6) (.t 9) (.c (.bool false)), none, false, []⟩, ⟨some 11, false, .mv (.t 10), none, false, []⟩, ⟨some 12, false, .fa 2 (.t 1), some (8, true), false, []⟩, ⟨some 13, false, .ld none (.t 12), some (8, true), false, []⟩, ⟨some 14, false, .call (.c (.fn 23 [])) [.t 13, .c (.int .i64 10), .c (.int .i64 1000)], some (8, true), false, []⟩, ⟨some 15, false, .pick (.t 11) (.t 14) (.c (.bool false)), none, false, []⟩, ⟨some 16, false, .mv (.t 15), none, false, []⟩, ⟨some 17, false, .fa 3 (.t 1), some (13, true), false, []⟩, ⟨some 18, false, .ld none (.t 17), some (13, true), false, []⟩, ⟨some 19, false, .call (.c (.fn 682 [])) [.t 18], some (13, true), false, []⟩, ⟨some 20, false, .pick (.t 16) (.t 19) (.c (.bool false)), none, false, []⟩, ⟨some 2, false, .asg (.t 20), none, false, []⟩] [2] []) .ret)) }
noncomputable def impl_Stack_valid_D : List (Nat × Callee) := [(23, impl_within_c), (24, impl_IsName_c), (483, impl_isPart_c), (682, impl_isDay_c)]
def impl_Stack_valid_H : List (Nat × ET) := []
noncomputable def impl_Stack_valid_c : Callee := mkCallee impl_Stack_valid_D impl_Stack_valid_H impl_Stack_valid_ir [.d T_Peg] [.d (.one .bool)] []
noncomputable def impl_Stack_valid (a0 : T_Peg.ty) : Option (Bool) := impl_Stack_valid_c.f (a0, ())
theorem impl_Stack_valid_eq (a0 : T_Peg.ty) : impl_Stack_valid a0 =
  (impl_IsName a0.1).bind fun x1 =>
   if x1 then
    (impl_isPart a0.2.1).bind fun x2 =>
     if x2 then
      (impl_within a0.2.2.1 10 1000).bind fun x3 =>
       if x3 then
        (impl_isDay a0.2.2.2.1).bind fun x4 =>
         some x4
       else
        some false
     else
      some false
   else
    some false :=
 (mk_f _ _ _ _ _ _ _ 4000).trans (by kernel_rfl)

/- impl.ValidStacks -/
def impl_ValidStacks_k0 : C :=
 .seq (.reg false [⟨some 8, false, .bin .lss (.t 7) (.t 6), none, false, []⟩] [0, 5, 6, 7, 8] []) (.seq (.cond (.t 8) .skip (.exit 0)) (.seq (.block 1 (.seq (.reg false [⟨some 9, false, .mv (.t 7), none, false, []⟩, ⟨some 10, false, .ia 4 (.t 5) (.t 7), none, false, []⟩, ⟨some 11, false, .ld (some 4) (.t 10), none, false, []⟩, ⟨some 4, true, .alloc 4 (.agg [.str [], .int .i64 0, .int .i64 0, .int .i64 0]), none, false, []⟩, ⟨some 3, false, .asg (.t 9), none, false, []⟩, ⟨none, true, .sto 4 (.t 4) (.t 11), none, false, []⟩] [0, 3, 4, 5, 6, 7] [4]) (.seq (.reg true [⟨some 12, false, .ld (some 4) (.t 4), none, false, []⟩, ⟨some 13, false, .call (.c (.fn 485 [])) [.t 12], none, false, []⟩, ⟨some 14, false, .un .not (.t 13), none, false, []⟩, ⟨some 15, false, .mv (.t 14), none, false, []⟩, ⟨some 16, false, .mv (.t 3), some (3, false), false, []⟩, ⟨some 17, false, .bin .gtr (.t 16) (.c (.int .i64 0)), some (3, false), false, []⟩, ⟨some 18, false, .mv (.t 17), some (3, false), false, []⟩, ⟨some 19, false, .mv (.t 0), some (6, true), false, []⟩, ⟨some 20, false, .mv (.t 3), some (6, true), false, []⟩, ⟨some 21, false, .bin .sub (.t 20) (.c (.int .i64 1)), some (6, true), false, []⟩, ⟨some 22, false, .ia 4 (.t 19) (.t 21), some (6, true), false, []⟩, ⟨some 23, false, .fa 0 (.t 22), some (6, true), false, []⟩, ⟨some 24, false, .ld none (.t 23), some (6, true), false, []⟩, ⟨some 25, false, .fa 0 (.t 4), some (6, true), false, []⟩, ⟨some 26, false, .ld none (.t 25), some (6, true), false, []⟩, ⟨some 27, false, .bin .geq (.t 24) (.t 26), some (6, true), false, []⟩, ⟨some 28, false, .pick (.t 18) (.t 27) (.c (.bool false)), some (3, false), false, []⟩, ⟨some 29, false, .pick (.t 15) (.c (.bool true)) (.t 28), none, false, []⟩] [0, 5, 6, 7, 29] []) (.cond (.t 29) (.seq (.reg false [⟨some 2, false, .asg (.c (.bool false)), none, false, []⟩] [2] []) .ret) .skip)))) (.reg false [⟨some 30, false, .bin .add (.t 7) (.c (.int .i64 1)), none, false, []⟩, ⟨some 7, false, .mv (.t 30), none, false, []⟩] [0, 5, 6, 7] [])))
def impl_ValidStacks_k1 : C :=
 .norm [0, 5, 6, 7] [] impl_ValidStacks_k0
def impl_ValidStacks_k2 : C :=
 .seq (.reg false [⟨some 31, false, .mv (.t 0), none, false, []⟩, ⟨some 32, false, .len (.t 31), none, false, []⟩, ⟨some 33, false, .call (.c (.fn 21 [])) [.t 32, .c (.int .i64 12)], none, false, []⟩, ⟨some 2, false, .asg (.t 33), none, false, []⟩] [2] []) .ret
def impl_ValidStacks_ir : Fn := { np := 1, io := [], res := [.t 2], own := [false], body :=
 (.seq (.reg false [⟨some 2, false, .asg (.c (.bool false)), none, false, []⟩] [0] []) (.seq (.seq (.reg false [⟨some 5, false, .mv (.t 0), none, false, []⟩, ⟨some 6, false, .len (.t 5), none, false, []⟩, ⟨some 7, false, .mv (.c (.int .i64 0)), none, false, []⟩] [0, 5, 6, 7] []) (.block 0 (.loop impl_ValidStacks_k1))) impl_ValidStacks_k2)) }
noncomputable def impl_ValidStacks_D : List (Nat × Callee) := [(21, impl_few_c), (485, impl_Stack_valid_c)]
def impl_ValidStacks_H : List (Nat × ET) := [(5, T_Peg), (19, T_Peg), (31, T_Peg)]
noncomputable def impl_ValidStacks_c : Callee := mkCallee impl_ValidStacks_D impl_ValidStacks_H impl_ValidStacks_ir [.d (.one (.sl T_Peg))] [.d (.one .bool)] []
noncomputable def impl_ValidStacks (a0 : List T_Peg.ty) : Option (Bool) := impl_ValidStacks_c.f (a0, ())
noncomputable def impl_ValidStacks_p0  (v0 : List T_Peg.ty) (v5 : List T_Peg.ty) (v6 : Int) (v7 : Int) : Option (Bool) :=
 goL impl_ValidStacks_D impl_ValidStacks_H (vleave impl_ValidStacks_ir [.d (.one (.sl T_Peg))] [.d (.one .bool)] [] []) [.c impl_ValidStacks_k0, .l impl_ValidStacks_k1, .e 0, .c impl_ValidStacks_k2]
  ⟨[(0, .sl T_Peg v0), (5, .sl T_Peg v5), (6, .int .i64 v6), (7, .int .i64 v7)], []⟩
theorem impl_ValidStacks_eq (a0 : List T_Peg.ty) : impl_ValidStacks a0 =
  impl_ValidStacks_p0 a0 a0 (a0.length : Int) 0 :=
 (mk_f _ _ _ _ _ _ _ 4000).trans (by kernel_rfl)
theorem impl_ValidStacks_p0_eq  (v0 : List T_Peg.ty) (v5 : List T_Peg.ty) (v6 : Int) (v7 : Int) : impl_ValidStacks_p0 v0 v5 v6 v7 =
  if decide (v7 < v6) then
   if decide (0 ≤ v7) then
    (v5[v7.toNat]?).bind fun x1 =>
     (impl_Stack_valid x1).bind fun x2 =>
      if (!x2) then
       some false
      else
       if decide (v7 > 0) then
        if decide (0 ≤ IntKind.i64.wrap (v7 - 1)) then
         (v0[(IntKind.i64.wrap (v7 - 1)).toNat]?).bind fun x3 =>
          if (!Op.bytesLess x3.1 x1.1) then
           some false
          else
           impl_ValidStacks_p0 v0 v5 v6 (IntKind.i64.wrap (v7 + 1))
        else
         none
       else
        impl_ValidStacks_p0 v0 v5 v6 (IntKind.i64.wrap (v7 + 1))
   else
    none
  else
   (impl_few (v0.length : Int) 12).bind fun x4 =>
    some x4 :=
 (goL_dn _ _ _ 4000 _ _).trans (by kernel_rfl)

/- impl.ReadyStacks -/
def impl_ReadyStacks_k0 : C :=
 .seq (.reg false [⟨some 33, false, .bin .lss (.t 32) (.t 31), none, false, []⟩] [1, 2, 3, 10, 30, 31, 32, 33] [10]) (.seq (.cond (.t 33) .skip (.exit 0)) (.seq (.block 1 (.seq (.reg false [⟨some 34, false, .mv (.t 32), none, false, []⟩, ⟨some 35, false, .ia 4 (.t 30) (.t 32), none, false, []⟩, ⟨some 36, false, .ld (some 4) (.t 35), none, false, []⟩, ⟨some 12, true, .alloc 4 (.agg [.str [], .int .i64 0, .int .i64 0, .int .i64 0]), none, false, []⟩, ⟨some 11, false, .asg (.t 34), none, false, []⟩, ⟨none, true, .sto 4 (.t 12) (.t 36), none, false, []⟩] [1, 2, 3, 10, 11, 12, 30, 31, 32] [10, 12]) (.seq (.reg false [⟨some 37, false, .mv (.t 2), none, false, []⟩, ⟨some 38, false, .fa 3 (.t 12), none, false, []⟩, ⟨some 39, false, .ld none (.t 38), none, false, []⟩, ⟨some 40, false, .bin .sub (.t 37) (.t 39), none, false, []⟩, ⟨some 41, false, .call (.c (.fn 484 [])) [.t 40], none, false, []⟩, ⟨some 42, false, .mv (.t 41), none, false, []⟩, ⟨some 43, false, .ld (some 4) (.t 12), some (5, true), false, []⟩, ⟨some 44, false, .mv (.t 1), some (5, true), false, []⟩, ⟨some 45, false, .mv (.t 2), some (5, true), false, []⟩, ⟨some 46, false, .fa 3 (.t 12), some (5, true), false, []⟩, ⟨some 47, false, .ld none (.t 46), some (5, true), false, []⟩, ⟨some 48, false, .bin .sub (.t 45) (.t 47), some (5, true), false, []⟩, ⟨some 49, false, .call (.c (.fn 482 [])) [.t 43, .t 44, .t 48], some (5, true), false, []⟩, ⟨some 50, false, .mv (.t 3), some (5, true), false, []⟩, ⟨some 51, false, .bin .leq (.t 49) (.t 50), some (5, true), false, []⟩, ⟨some 52, false, .pick (.t 42) (.t 51) (.c (.bool false)), none, false, []⟩] [1, 2, 3, 10, 11, 30, 31, 32, 52] [10]) (.cond (.t 52) (.reg false [⟨some 53, false, .mv (.t 10), none, false, []⟩, ⟨some 54, false, .mv (.t 11), none, false, []⟩, ⟨some 55, false, .bsl 1 (.int .i64 0) 1 [(0, .t 54)], none, false, []⟩, ⟨some 56, true, .app 1 8 (.t 53) (.t 55), none, false, []⟩, ⟨some 10, true, .asg (.t 56), none, false, []⟩] [1, 2, 3, 10, 30, 31, 32] [10]) .skip)))) (.reg false [⟨some 57, false, .bin .add (.t 32) (.c (.int .i64 1)), none, false, []⟩, ⟨some 32, false, .mv (.t 57), none, false, []⟩] [1, 2, 3, 10, 30, 31, 32] [10])))
def impl_ReadyStacks_k1 : C :=
 .norm [1, 2, 3, 10, 30, 31, 32] [10] impl_ReadyStacks_k0
def impl_ReadyStacks_k2 : C :=
 .seq (.reg false [⟨some 58, false, .mv (.t 10), none, false, []⟩, ⟨some 8, true, .asg (.t 58), none, false, []⟩, ⟨some 9, false, .asg (.c (.int .i64 0)), none, false, []⟩] [8, 9] [8, 10]) .ret
def impl_ReadyStacks_k3 : C :=
 .seq (.reg false [⟨some 29, false, .bsl 1 (.int .i64 0) 0 [], none, false, []⟩, ⟨some 10, true, .asg (.t 29), none, false, []⟩] [0, 1, 2, 3, 10] [10]) (.seq (.seq (.reg false [⟨some 30, false, .mv (.t 0), none, false, []⟩, ⟨some 31, false, .len (.t 30), none, false, []⟩, ⟨some 32, false, .mv (.c (.int .i64 0)), none, false, []⟩] [1, 2, 3, 10, 30, 31, 32] [10]) (.block 0 (.loop impl_ReadyStacks_k1))) impl_ReadyStacks_k2)
def impl_ReadyStacks_ir : Fn := { np := 4, io := [], res := [.t 8, .t 9], own := [true, false], body :=
 (.seq (.reg false [⟨some 8, true, .asg (.c (.nils 1)), none, false, []⟩, ⟨some 9, false, .asg (.c (.int .i64 0)), none, false, []⟩] [0, 1, 2, 3] []) (.seq (.seq (.reg false [⟨some 13, false, .mv (.t 0), none, false, []⟩, ⟨some 14, false, .call (.c (.fn 713 [])) [.t 13], none, false, []⟩, ⟨some 15, false, .un .not (.t 14), none, false, []⟩] [0, 1, 2, 3, 15] []) (.cond (.t 15) (.seq (.reg false [⟨some 8, true, .asg (.c (.nils 1)), none, false, []⟩, ⟨some 9, false, .asg (.c (.int .i64 1)), none, false, []⟩] [8, 9] [8, 10]) .ret) .skip)) (.seq (.seq (.reg false [⟨some 16, false, .mv (.t 1), none, false, []⟩, ⟨some 17, false, .call (.c (.fn 483 [])) [.t 16], none, false, []⟩, ⟨some 18, false, .un .not (.t 17), none, false, []⟩, ⟨some 19, false, .mv (.t 18), none, false, []⟩, ⟨some 20, false, .mv (.t 2), some (3, false), false, []⟩, ⟨some 21, false, .call (.c (.fn 682 [])) [.t 20], some (3, false), false, []⟩, ⟨some 22, false, .un .not (.t 21), some (3, false), false, []⟩, ⟨some 23, false, .pick (.t 19) (.c (.bool true)) (.t 22), none, false, []⟩, ⟨some 24, false, .mv (.t 23), none, false, []⟩, ⟨some 25, false, .mv (.t 3), some (8, false), false, []⟩, ⟨some 26, false, .call (.c (.fn 483 [])) [.t 25], some (8, false), false, []⟩, ⟨some 27, false, .un .not (.t 26), some (8, false), false, []⟩, ⟨some 28, false, .pick (.t 24) (.c (.bool true)) (.t 27), none, false, []⟩] [0, 1, 2, 3, 28] []) (.cond (.t 28) (.seq (.reg false [⟨some 8, true, .asg (.c (.nils 1)), none, false, []⟩, ⟨some 9, false, .asg (.c (.int .i64 2)), none, false, []⟩] [8, 9] [8, 10]) .ret) .skip)) (.norm [0, 1, 2, 3] [] impl_ReadyStacks_k3)))) }
noncomputable def impl_ReadyStacks_D : List (Nat × Callee) := [(482, impl_Stack_after_c), (483, impl_isPart_c), (484, impl_isDry_c), (682, impl_isDay_c), (713, impl_ValidStacks_c)]
def impl_ReadyStacks_H : List (Nat × ET) := [(8, (.one (.int .i64))), (10, (.one (.int .i64))), (13, T_Peg), (29, (.one (.int .i64))), (30, T_Peg), (53, (.one (.int .i64))), (55, (.one (.int .i64))), (56, (.one (.int .i64))), (58, (.one (.int .i64)))]
noncomputable def impl_ReadyStacks_c : Callee := mkCallee impl_ReadyStacks_D impl_ReadyStacks_H impl_ReadyStacks_ir [.d (.one (.sl T_Peg)), .d (.one (.int .i64)), .d (.one (.int .i64)), .d (.one (.int .i64))] [.tok (.one (.int .i64)), .d (.one (.int .i64))] []
noncomputable def impl_ReadyStacks (a0 : List T_Peg.ty) (a1 : Int) (a2 : Int) (a3 : Int) : Option (List Int × Int) := impl_ReadyStacks_c.f (a0, a1, a2, a3, ())
noncomputable def impl_ReadyStacks_p0  (v0 : List T_Peg.ty) (v1 : Int) (v2 : Int) (v3 : Int) : Option (List Int × Int) :=
 goL impl_ReadyStacks_D impl_ReadyStacks_H (vleave impl_ReadyStacks_ir [.d (.one (.sl T_Peg)), .d (.one (.int .i64)), .d (.one (.int .i64)), .d (.one (.int .i64))] [.tok (.one (.int .i64)), .d (.one (.int .i64))] [] []) [.c impl_ReadyStacks_k3]
  ⟨[(0, .sl T_Peg v0), (1, .int .i64 v1), (2, .int .i64 v2), (3, .int .i64 v3)], []⟩
noncomputable def impl_ReadyStacks_p1  (v1 : Int) (v2 : Int) (v3 : Int) (v30 : List T_Peg.ty) (v31 : Int) (v32 : Int) (r10 : List Int) : Option (List Int × Int) :=
 goL impl_ReadyStacks_D impl_ReadyStacks_H (vleave impl_ReadyStacks_ir [.d (.one (.sl T_Peg)), .d (.one (.int .i64)), .d (.one (.int .i64)), .d (.one (.int .i64))] [.tok (.one (.int .i64)), .d (.one (.int .i64))] [] []) [.c impl_ReadyStacks_k0, .l impl_ReadyStacks_k1, .e 0, .c impl_ReadyStacks_k2]
  ⟨[(1, .int .i64 v1), (2, .int .i64 v2), (3, .int .i64 v3), (10, .view 10 0 r10.length), (30, .sl T_Peg v30), (31, .int .i64 v31), (32, .int .i64 v32)], [(10, some (.sl (.one (.int .i64)) r10))]⟩
theorem impl_ReadyStacks_eq (a0 : List T_Peg.ty) (a1 : Int) (a2 : Int) (a3 : Int) : impl_ReadyStacks a0 a1 a2 a3 =
  (impl_ValidStacks a0).bind fun x1 =>
   if (!x1) then
    some ([], 1)
   else
    (impl_isPart a1).bind fun x2 =>
     if (!x2) then
      some ([], 2)
     else
      (impl_isDay a2).bind fun x3 =>
       if (!x3) then
        some ([], 2)
       else
        (impl_isPart a3).bind fun x4 =>
         if (!x4) then
          some ([], 2)
         else
          impl_ReadyStacks_p0 a0 a1 a2 a3 :=
 (mk_f _ _ _ _ _ _ _ 4000).trans (by kernel_rfl)
theorem impl_ReadyStacks_p0_eq  (v0 : List T_Peg.ty) (v1 : Int) (v2 : Int) (v3 : Int) : impl_ReadyStacks_p0 v0 v1 v2 v3 =
  impl_ReadyStacks_p1 v1 v2 v3 v0 (v0.length : Int) 0 [] :=
 (goL_dn _ _ _ 4000 _ _).trans (by kernel_rfl)
theorem impl_ReadyStacks_p1_eq  (v1 : Int) (v2 : Int) (v3 : Int) (v30 : List T_Peg.ty) (v31 : Int) (v32 : Int) (r10 : List Int) : impl_ReadyStacks_p1 v1 v2 v3 v30 v31 v32 r10 =
  if decide (v32 < v31) then
   if decide (0 ≤ v32) then
    (v30[v32.toNat]?).bind fun x1 =>
     (impl_isDry (IntKind.i64.wrap (v2 - x1.2.2.2.1))).bind fun x2 =>
      if x2 then
       (impl_Stack_after x1 v1 (IntKind.i64.wrap (v2 - x1.2.2.2.1))).bind fun x3 =>
        if decide (x3 ≤ v3) then
         if decide (r10.length + 1 < lim) then
          impl_ReadyStacks_p1 v1 v2 v3 v30 v31 (IntKind.i64.wrap (v32 + 1)) ((r10.take r10.length) ++ [v32])
         else
          none
        else
         impl_ReadyStacks_p1 v1 v2 v3 v30 v31 (IntKind.i64.wrap (v32 + 1)) r10
      else
       impl_ReadyStacks_p1 v1 v2 v3 v30 v31 (IntKind.i64.wrap (v32 + 1)) r10
   else
    none
  else
   some ((r10.take r10.length), 0) :=
 (goL_dn _ _ _ 4000 _ _).trans (by kernel_rfl)

/- laws.b10Rises -/
def laws_b10Rises_k0 : C :=
 .seq (.seq (.reg false [⟨some 6, false, .mv (.t 5), none, false, []⟩, ⟨some 7, false, .mv (.t 0), none, false, []⟩, ⟨some 8, false, .len (.t 7), none, false, []⟩, ⟨some 9, false, .bin .lss (.t 6) (.t 8), none, false, []⟩] [0, 1, 5, 9] []) (.cond (.t 9) .skip (.exit 0))) (.seq (.block 1 (.seq (.reg true [⟨some 12, false, .mv (.t 0), none, false, []⟩, ⟨some 13, false, .mv (.t 5), none, false, []⟩, ⟨some 14, false, .ia 1 (.t 12) (.t 13), none, false, []⟩, ⟨some 15, false, .ld none (.t 14), none, false, []⟩, ⟨some 16, false, .bin .lss (.t 15) (.c (.int .i64 0)), none, false, []⟩, ⟨some 17, false, .mv (.t 16), none, false, []⟩, ⟨some 18, false, .mv (.t 0), some (5, false), false, []⟩, ⟨some 19, false, .mv (.t 5), some (5, false), false, []⟩, ⟨some 20, false, .ia 1 (.t 18) (.t 19), some (5, false), false, []⟩, ⟨some 21, false, .ld none (.t 20), some (5, false), false, []⟩, ⟨some 22, false, .mv (.t 1), some (5, false), false, []⟩, ⟨some 23, false, .bin .geq (.t 21) (.t 22), some (5, false), false, []⟩, ⟨some 24, false, .pick (.t 17) (.c (.bool true)) (.t 23), none, false, []⟩, ⟨some 25, false, .mv (.t 24), none, false, []⟩, ⟨some 26, false, .mv (.t 5), some (13, false), false, []⟩, ⟨some 27, false, .bin .gtr (.t 26) (.c (.int .i64 0)), some (13, false), false, []⟩, ⟨some 28, false, .mv (.t 27), some (13, false), false, []⟩, ⟨some 29, false, .mv (.t 0), some (16, true), false, []⟩, ⟨some 30, false, .mv (.t 5), some (16, true), false, []⟩, ⟨some 31, false, .bin .sub (.t 30) (.c (.int .i64 1)), some (16, true), false, []⟩, ⟨some 32, false, .ia 1 (.t 29) (.t 31), some (16, true), false, []⟩, ⟨some 33, false, .ld none (.t 32), some (16, true), false, []⟩, ⟨some 34, false, .mv (.t 0), some (16, true), false, []⟩, ⟨some 35, false, .mv (.t 5), some (16, true), false, []⟩, ⟨some 36, false, .ia 1 (.t 34) (.t 35), some (16, true), false, []⟩, ⟨some 37, false, .ld none (.t 36), some (16, true), false, []⟩, ⟨some 38, false, .bin .geq (.t 33) (.t 37), some (16, true), false, []⟩, ⟨some 39, false, .pick (.t 28) (.t 38) (.c (.bool false)), some (13, false), false, []⟩, ⟨some 40, false, .pick (.t 25) (.c (.bool true)) (.t 39), none, false, []⟩] [0, 1, 5, 40] []) (.cond (.t 40) (.seq (.reg false [⟨some 4, false, .asg (.c (.bool false)), none, false, []⟩] [4] []) .ret) .skip))) (.reg false [⟨some 10, false, .mv (.t 5), none, false, []⟩, ⟨some 11, false, .bin .add (.t 10) (.c (.int .i64 1)), none, false, []⟩, ⟨some 5, false, .asg (.t 11), none, false, []⟩] [0, 1, 5] []))
def laws_b10Rises_k1 : C :=
 .norm [0, 1, 5] [] laws_b10Rises_k0
def laws_b10Rises_k2 : C :=
 .seq (.reg false [⟨some 4, false, .asg (.c (.bool true)), none, false, []⟩] [4] []) .ret
def laws_b10Rises_ir : Fn := { np := 2, io := [], res := [.t 4], own := [false], body :=
 (.seq (.reg false [⟨some 4, false, .asg (.c (.bool false)), none, false, []⟩] [0, 1] []) (.seq (.seq (.reg false [⟨some 5, false, .asg (.c (.int .i64 0)), none, false, []⟩] [0, 1, 5] []) (.block 0 (.loop laws_b10Rises_k1))) laws_b10Rises_k2)) }
noncomputable def laws_b10Rises_D : List (Nat × Callee) := []
def laws_b10Rises_H : List (Nat × ET) := [(7, (.one (.int .i64))), (12, (.one (.int .i64))), (18, (.one (.int .i64))), (29, (.one (.int .i64))), (34, (.one (.int .i64)))]
noncomputable def laws_b10Rises_c : Callee := mkCallee laws_b10Rises_D laws_b10Rises_H laws_b10Rises_ir [.d (.one (.sl (.one (.int .i64)))), .d (.one (.int .i64))] [.d (.one .bool)] []
noncomputable def laws_b10Rises (a0 : List Int) (a1 : Int) : Option (Bool) := laws_b10Rises_c.f (a0, a1, ())
noncomputable def laws_b10Rises_p0  (v0 : List Int) (v1 : Int) (v5 : Int) : Option (Bool) :=
 goL laws_b10Rises_D laws_b10Rises_H (vleave laws_b10Rises_ir [.d (.one (.sl (.one (.int .i64)))), .d (.one (.int .i64))] [.d (.one .bool)] [] []) [.c laws_b10Rises_k0, .l laws_b10Rises_k1, .e 0, .c laws_b10Rises_k2]
  ⟨[(0, .sl (.one (.int .i64)) v0), (1, .int .i64 v1), (5, .int .i64 v5)], []⟩
theorem laws_b10Rises_eq (a0 : List Int) (a1 : Int) : laws_b10Rises a0 a1 =
  laws_b10Rises_p0 a0 a1 0 :=
 (mk_f _ _ _ _ _ _ _ 4000).trans (by kernel_rfl)
theorem laws_b10Rises_p0_eq  (v0 : List Int) (v1 : Int) (v5 : Int) : laws_b10Rises_p0 v0 v1 v5 =
  if decide (v5 < (v0.length : Int)) then
   if decide (0 ≤ v5) then
    (v0[v5.toNat]?).bind fun x1 =>
     if decide (x1 < 0) then
      some false
     else
      if decide (0 ≤ v5) then
       (v0[v5.toNat]?).bind fun x2 =>
        if decide (x2 ≥ v1) then
         some false
        else
         if decide (v5 > 0) then
          if decide (0 ≤ IntKind.i64.wrap (v5 - 1)) then
           (v0[(IntKind.i64.wrap (v5 - 1)).toNat]?).bind fun x3 =>
            if decide (0 ≤ v5) then
             (v0[v5.toNat]?).bind fun x4 =>
              if decide (x3 ≥ x4) then
               some false
              else
               laws_b10Rises_p0 v0 v1 (IntKind.i64.wrap (v5 + 1))
            else
             none
          else
           none
         else
          laws_b10Rises_p0 v0 v1 (IntKind.i64.wrap (v5 + 1))
      else
       none
   else
    none
  else
   some true :=
 (goL_dn _ _ _ 4000 _ _).trans (by kernel_rfl)

/- strconv.FormatInt -/
noncomputable def strconv_FormatInt_c : Callee := formatIntC
noncomputable def strconv_FormatInt (a0 : Int) (a1 : Int) : Option (List UInt8) := strconv_FormatInt_c.f (a0, a1, ())
theorem strconv_FormatInt_eq (a0 : Int) (a1 : Int) : strconv_FormatInt a0 a1 = if decide (a1 = 10) && (decide (-9223372036854775808 ≤ a0) && decide (a0 ≤ 9223372036854775807)) then some (Lib.itoa a0) else none := rfl

/- impl.Decimal -/
def impl_Decimal_ir : Fn := { np := 1, io := [], res := [.t 2], own := [false], body :=
 (.seq (.reg false [⟨some 2, false, .asg (.c (.str [])), none, false, []⟩] [0] []) (.seq (.reg false [⟨some 3, false, .mv (.t 0), none, false, []⟩, ⟨some 4, false, .call (.c (.fn 864 [])) [.t 3, .c (.int .i64 10)], none, false, []⟩, ⟨some 2, false, .asg (.t 4), none, false, []⟩] [2] []) .ret)) }
noncomputable def impl_Decimal_D : List (Nat × Callee) := [(864, strconv_FormatInt_c)]
def impl_Decimal_H : List (Nat × ET) := []
noncomputable def impl_Decimal_c : Callee := mkCallee impl_Decimal_D impl_Decimal_H impl_Decimal_ir [.d (.one (.int .i64))] [.d (.one .str)] []
noncomputable def impl_Decimal (a0 : Int) : Option (List UInt8) := impl_Decimal_c.f (a0, ())
theorem impl_Decimal_eq (a0 : Int) : impl_Decimal a0 =
  (strconv_FormatInt a0 10).bind fun x1 =>
   some x1 :=
 (mk_f _ _ _ _ _ _ _ 4000).trans (by kernel_rfl)

/- strings.Join -/
noncomputable def strings_Join_c : Callee := joinC
noncomputable def strings_Join (a0 : List (List UInt8)) (a1 : List UInt8) : Option (List UInt8) := strings_Join_c.f (a0, a1, ())
theorem strings_Join_eq (a0 : List (List UInt8)) (a1 : List UInt8) : strings_Join a0 a1 = if decide (a0.length ≤ 140737488355328) && decide ((Lib.join a0 a1).length ≤ 140737488355328) then some (Lib.join a0 a1) else none := rfl

/- impl.ListText -/
def impl_ListText_k0 : C :=
 .seq (.reg false [⟨some 17, false, .bin .lss (.t 16) (.t 15), none, false, []⟩] [3, 14, 15, 16, 17] [3]) (.seq (.cond (.t 17) .skip (.exit 0)) (.seq (.block 1 (.seq (.reg false [⟨some 18, false, .ia 1 (.t 14) (.t 16), none, false, []⟩, ⟨some 19, false, .ld none (.t 18), none, false, []⟩, ⟨some 5, false, .asg (.t 19), none, false, []⟩] [3, 5, 14, 15, 16] [3]) (.seq (.seq (.reg false [⟨some 20, false, .mv (.t 5), none, false, []⟩, ⟨some 21, false, .call (.c (.fn 23 [])) [.t 20, .c (.int .i64 (-1000000000000)), .c (.int .i64 1000000000000)], none, false, []⟩, ⟨some 22, false, .un .not (.t 21), none, false, []⟩] [3, 5, 14, 15, 16, 22] [3]) (.cond (.t 22) (.seq (.reg false [⟨some 2, false, .asg (.c (.str [])), none, false, []⟩] [2] []) .ret) .skip)) (.reg false [⟨some 23, false, .mv (.t 3), none, false, []⟩, ⟨some 24, false, .mv (.t 5), none, false, []⟩, ⟨some 25, false, .call (.c (.fn 524 [])) [.t 24], none, false, []⟩, ⟨some 26, false, .bsl 1 (.str []) 1 [(0, .t 25)], none, false, []⟩, ⟨some 27, true, .app 1 16 (.t 23) (.t 26), none, false, []⟩, ⟨some 3, true, .asg (.t 27), none, false, []⟩] [3, 14, 15, 16] [3])))) (.reg false [⟨some 28, false, .bin .add (.t 16) (.c (.int .i64 1)), none, false, []⟩, ⟨some 16, false, .mv (.t 28), none, false, []⟩] [3, 14, 15, 16] [3])))
def impl_ListText_k1 : C :=
 .norm [3, 14, 15, 16] [3] impl_ListText_k0
def impl_ListText_k2 : C :=
 .seq (.reg false [⟨some 29, false, .mv (.t 3), none, false, []⟩, ⟨some 30, false, .call (.c (.fn 630 [])) [.t 29, .c (.str [44])], none, false, []⟩, ⟨some 2, false, .asg (.t 30), none, false, []⟩] [2] []) .ret
def impl_ListText_ir : Fn := { np := 1, io := [], res := [.t 2], own := [false], body :=
 (.seq (.reg false [⟨some 2, false, .asg (.c (.str [])), none, false, []⟩] [0] []) (.seq (.seq (.reg false [⟨some 6, false, .mv (.t 0), none, false, []⟩, ⟨some 7, false, .len (.t 6), none, false, []⟩, ⟨some 8, false, .call (.c (.fn 21 [])) [.t 7, .c (.int .i64 64)], none, false, []⟩, ⟨some 9, false, .un .not (.t 8), none, false, []⟩] [0, 9] []) (.cond (.t 9) (.seq (.reg false [⟨some 2, false, .asg (.c (.str [])), none, false, []⟩] [2] []) .ret) .skip)) (.seq (.seq (.reg false [⟨some 10, false, .mv (.t 0), none, false, []⟩, ⟨some 11, false, .len (.t 10), none, false, []⟩, ⟨some 12, false, .bin .eql (.t 11) (.c (.int .i64 0)), none, false, []⟩] [0, 12] []) (.cond (.t 12) (.seq (.reg false [⟨some 2, false, .asg (.c (.str [45])), none, false, []⟩] [2] []) .ret) .skip)) (.seq (.reg false [⟨some 13, false, .bsl 1 (.str []) 0 [], none, false, []⟩, ⟨some 3, true, .asg (.t 13), none, false, []⟩] [0, 3] [3]) (.seq (.seq (.reg false [⟨some 14, false, .mv (.t 0), none, false, []⟩, ⟨some 15, false, .len (.t 14), none, false, []⟩, ⟨some 16, false, .mv (.c (.int .i64 0)), none, false, []⟩] [3, 14, 15, 16] [3]) (.block 0 (.loop impl_ListText_k1))) impl_ListText_k2))))) }
noncomputable def impl_ListText_D : List (Nat × Callee) := [(21, impl_few_c), (23, impl_within_c), (524, impl_Decimal_c), (630, strings_Join_c)]
def impl_ListText_H : List (Nat × ET) := [(3, (.one .str)), (6, (.one (.int .i64))), (10, (.one (.int .i64))), (13, (.one .str)), (14, (.one (.int .i64))), (23, (.one .str)), (26, (.one .str)), (27, (.one .str)), (29, (.one .str))]
noncomputable def impl_ListText_c : Callee := mkCallee impl_ListText_D impl_ListText_H impl_ListText_ir [.d (.one (.sl (.one (.int .i64))))] [.d (.one .str)] []
noncomputable def impl_ListText (a0 : List Int) : Option (List UInt8) := impl_ListText_c.f (a0, ())
noncomputable def impl_ListText_p0  (v14 : List Int) (v15 : Int) (v16 : Int) (r3 : List (List UInt8)) : Option (List UInt8) :=
 goL impl_ListText_D impl_ListText_H (vleave impl_ListText_ir [.d (.one (.sl (.one (.int .i64))))] [.d (.one .str)] [] []) [.c impl_ListText_k0, .l impl_ListText_k1, .e 0, .c impl_ListText_k2]
  ⟨[(3, .view 3 0 r3.length), (14, .sl (.one (.int .i64)) v14), (15, .int .i64 v15), (16, .int .i64 v16)], [(3, some (.sl (.one .str) r3))]⟩
theorem impl_ListText_eq (a0 : List Int) : impl_ListText a0 =
  (impl_few (a0.length : Int) 64).bind fun x1 =>
   if (!x1) then
    some []
   else
    if ((a0.length : Int) == 0) then
     some [45]
    else
     impl_ListText_p0 a0 (a0.length : Int) 0 [] :=
 (mk_f _ _ _ _ _ _ _ 4000).trans (by kernel_rfl)
theorem impl_ListText_p0_eq  (v14 : List Int) (v15 : Int) (v16 : Int) (r3 : List (List UInt8)) : impl_ListText_p0 v14 v15 v16 r3 =
  if decide (v16 < v15) then
   if decide (0 ≤ v16) then
    (v14[v16.toNat]?).bind fun x1 =>
     (impl_within x1 (-1000000000000) 1000000000000).bind fun x2 =>
      if (!x2) then
       some []
      else
       (impl_Decimal x1).bind fun x3 =>
        if decide (r3.length + 1 < lim) then
         impl_ListText_p0 v14 v15 (IntKind.i64.wrap (v16 + 1)) ((r3.take r3.length) ++ [x3])
        else
         none
   else
    none
  else
   (strings_Join (r3.take r3.length) [44]).bind fun x4 =>
    some x4 :=
 (goL_dn _ _ _ 4000 _ _).trans (by kernel_rfl)

/- impl.named -/
def impl_named_ir : Fn := { np := 2, io := [], res := [.t 4], own := [false], body :=
 (.seq (.reg false [⟨some 4, false, .asg (.c (.str [])), none, false, []⟩] [0, 1] []) (.seq (.reg false [⟨some 5, false, .mv (.t 0), none, false, []⟩, ⟨some 6, false, .bin .add (.t 5) (.c (.str [32])), none, false, []⟩, ⟨some 7, false, .mv (.t 1), none, false, []⟩, ⟨some 8, false, .call (.c (.fn 460 [])) [.t 7], none, false, []⟩, ⟨some 9, false, .bin .add (.t 6) (.t 8), none, false, []⟩, ⟨some 4, false, .asg (.t 9), none, false, []⟩] [4] []) .ret)) }
noncomputable def impl_named_D : List (Nat × Callee) := [(460, impl_ListText_c)]
def impl_named_H : List (Nat × ET) := [(7, (.one (.int .i64)))]
noncomputable def impl_named_c : Callee := mkCallee impl_named_D impl_named_H impl_named_ir [.d (.one .str), .d (.one (.sl (.one (.int .i64))))] [.d (.one .str)] []
noncomputable def impl_named (a0 : List UInt8) (a1 : List Int) : Option (List UInt8) := impl_named_c.f (a0, a1, ())
theorem impl_named_eq (a0 : List UInt8) (a1 : List Int) : impl_named a0 a1 =
  if decide (a0.length + [32].length ≤ strMax) then
   (impl_ListText a1).bind fun x1 =>
    if decide ((a0 ++ [32]).length + x1.length ≤ strMax) then
     some ((a0 ++ [32]) ++ x1)
    else
     none
  else
   none :=
 (mk_f _ _ _ _ _ _ _ 4000).trans (by kernel_rfl)

/- impl.monthDays -/
def impl_monthDays_ir : Fn := { np := 2, io := [], res := [.t 4], own := [false], body :=
 (.seq (.reg false [⟨some 4, false, .asg (.c (.int .i64 0)), none, false, []⟩] [0, 1] []) (.seq (.seq (.reg false [⟨some 5, false, .mv (.t 1), none, false, []⟩, ⟨some 6, false, .bin .eql (.t 5) (.c (.int .i64 2)), none, false, []⟩, ⟨some 7, false, .mv (.t 6), none, false, []⟩, ⟨some 8, false, .mv (.t 0), some (2, true), false, []⟩, ⟨some 9, false, .bin .rem (.t 8) (.c (.int .i64 4)), some (2, true), false, []⟩, ⟨some 10, false, .bin .eql (.t 9) (.c (.int .i64 0)), some (2, true), false, []⟩, ⟨some 11, false, .pick (.t 7) (.t 10) (.c (.bool false)), none, false, []⟩] [1, 11] []) (.cond (.t 11) (.seq (.reg false [⟨some 4, false, .asg (.c (.int .i64 29)), none, false, []⟩] [4] []) .ret) .skip)) (.seq (.reg false [⟨some 12, false, .build [.int .i64 0, .int .i64 0, .int .i64 0, .int .i64 0, .int .i64 0, .int .i64 0, .int .i64 0, .int .i64 0, .int .i64 0, .int .i64 0, .int .i64 0, .int .i64 0] [(0, 1, .c (.int .i64 31)), (1, 1, .c (.int .i64 28)), (2, 1, .c (.int .i64 31)), (3, 1, .c (.int .i64 30)), (4, 1, .c (.int .i64 31)), (5, 1, .c (.int .i64 30)), (6, 1, .c (.int .i64 31)), (7, 1, .c (.int .i64 31)), (8, 1, .c (.int .i64 30)), (9, 1, .c (.int .i64 31)), (10, 1, .c (.int .i64 30)), (11, 1, .c (.int .i64 31))], none, false, []⟩, ⟨some 13, false, .mv (.t 1), none, false, []⟩, ⟨some 14, false, .bin .sub (.t 13) (.c (.int .i64 1)), none, false, []⟩, ⟨some 15, false, .ixa 12 1 none (.t 12) (.t 14), none, false, []⟩, ⟨some 4, false, .asg (.t 15), none, false, []⟩] [4] []) .ret))) }
noncomputable def impl_monthDays_D : List (Nat × Callee) := []
def impl_monthDays_H : List (Nat × ET) := []
noncomputable def impl_monthDays_c : Callee := mkCallee impl_monthDays_D impl_monthDays_H impl_monthDays_ir [.d (.one (.int .i64)), .d (.one (.int .i64))] [.d (.one (.int .i64))] []
noncomputable def impl_monthDays (a0 : Int) (a1 : Int) : Option (Int) := impl_monthDays_c.f (a0, a1, ())
theorem impl_monthDays_eq (a0 : Int) (a1 : Int) : impl_monthDays a0 a1 =
  if (a1 == 2) then
   if (a0.tmod 4 == 0) then
    some 29
   else
    if decide (IntKind.i64.wrap (a1 - 1) = 0) then
     some 31
    else
     if decide (IntKind.i64.wrap (a1 - 1) = 1) then
      some 28
     else
      if decide (IntKind.i64.wrap (a1 - 1) = 2) then
       some 31
      else
       if decide (IntKind.i64.wrap (a1 - 1) = 3) then
        some 30
       else
        if decide (IntKind.i64.wrap (a1 - 1) = 4) then
         some 31
        else
         if decide (IntKind.i64.wrap (a1 - 1) = 5) then
          some 30
         else
          if decide (IntKind.i64.wrap (a1 - 1) = 6) then
           some 31
          else
           if decide (IntKind.i64.wrap (a1 - 1) = 7) then
            some 31
           else
            if decide (IntKind.i64.wrap (a1 - 1) = 8) then
             some 30
            else
             if decide (IntKind.i64.wrap (a1 - 1) = 9) then
              some 31
             else
              if decide (IntKind.i64.wrap (a1 - 1) = 10) then
               some 30
              else
               if decide (IntKind.i64.wrap (a1 - 1) = 11) then
                some 31
               else
                none
  else
   if decide (IntKind.i64.wrap (a1 - 1) = 0) then
    some 31
   else
    if decide (IntKind.i64.wrap (a1 - 1) = 1) then
     some 28
    else
     if decide (IntKind.i64.wrap (a1 - 1) = 2) then
      some 31
     else
      if decide (IntKind.i64.wrap (a1 - 1) = 3) then
       some 30
      else
       if decide (IntKind.i64.wrap (a1 - 1) = 4) then
        some 31
       else
        if decide (IntKind.i64.wrap (a1 - 1) = 5) then
         some 30
        else
         if decide (IntKind.i64.wrap (a1 - 1) = 6) then
          some 31
         else
          if decide (IntKind.i64.wrap (a1 - 1) = 7) then
           some 31
          else
           if decide (IntKind.i64.wrap (a1 - 1) = 8) then
            some 30
           else
            if decide (IntKind.i64.wrap (a1 - 1) = 9) then
             some 31
            else
             if decide (IntKind.i64.wrap (a1 - 1) = 10) then
              some 30
             else
              if decide (IntKind.i64.wrap (a1 - 1) = 11) then
               some 31
              else
               none :=
 (mk_f _ _ _ _ _ _ _ 4000).trans (by kernel_rfl)

/- impl.yearDays -/
def impl_yearDays_ir : Fn := { np := 1, io := [], res := [.t 2], own := [false], body :=
 (.seq (.reg false [⟨some 2, false, .asg (.c (.int .i64 0)), none, false, []⟩] [0] []) (.seq (.reg false [⟨some 3, false, .mv (.t 0), none, false, []⟩, ⟨some 4, false, .call (.c (.fn 680 [])) [.t 3, .c (.int .i64 2)], none, false, []⟩, ⟨some 5, false, .bin .add (.c (.int .i64 337)) (.t 4), none, false, []⟩, ⟨some 2, false, .asg (.t 5), none, false, []⟩] [2] []) .ret)) }
noncomputable def impl_yearDays_D : List (Nat × Callee) := [(680, impl_monthDays_c)]
def impl_yearDays_H : List (Nat × ET) := []
noncomputable def impl_yearDays_c : Callee := mkCallee impl_yearDays_D impl_yearDays_H impl_yearDays_ir [.d (.one (.int .i64))] [.d (.one (.int .i64))] []
noncomputable def impl_yearDays (a0 : Int) : Option (Int) := impl_yearDays_c.f (a0, ())
theorem impl_yearDays_eq (a0 : Int) : impl_yearDays a0 =
  (impl_monthDays a0 2).bind fun x1 =>
   some (IntKind.i64.wrap (337 + x1)) :=
 (mk_f _ _ _ _ _ _ _ 4000).trans (by kernel_rfl)

/- impl.DateOf -/
def impl_DateOf_k0 : C :=
 .seq (.seq (.reg false [⟨some 11, false, .mv (.t 0), none, false, []⟩, ⟨some 12, false, .mv (.t 6), none, false, []⟩, ⟨some 13, false, .call (.c (.fn 681 [])) [.t 12], none, false, []⟩, ⟨some 14, false, .bin .geq (.t 11) (.t 13), none, false, []⟩] [0, 6, 14] []) (.cond (.t 14) .skip (.exit 0))) (.block 1 (.seq (.reg false [⟨some 15, false, .mv (.t 0), none, false, []⟩, ⟨some 16, false, .mv (.t 6), none, false, []⟩, ⟨some 17, false, .call (.c (.fn 681 [])) [.t 16], none, false, []⟩, ⟨some 18, false, .bin .sub (.t 15) (.t 17), none, false, []⟩, ⟨some 0, false, .asg (.t 18), none, false, []⟩] [0, 6] []) (.reg false [⟨some 19, false, .mv (.t 6), none, false, []⟩, ⟨some 20, false, .bin .add (.t 19) (.c (.int .i64 1)), none, false, []⟩, ⟨some 6, false, .asg (.t 20), none, false, []⟩] [0, 6] [])))
def impl_DateOf_k1 : C :=
 .norm [0, 6] [] impl_DateOf_k0
def impl_DateOf_k2 : C :=
 .seq (.seq (.reg false [⟨some 21, false, .mv (.t 0), none, false, []⟩, ⟨some 22, false, .mv (.t 6), none, false, []⟩, ⟨some 23, false, .mv (.t 7), none, false, []⟩, ⟨some 24, false, .call (.c (.fn 680 [])) [.t 22, .t 23], none, false, []⟩, ⟨some 25, false, .bin .geq (.t 21) (.t 24), none, false, []⟩] [0, 6, 7, 25] []) (.cond (.t 25) .skip (.exit 2))) (.block 3 (.seq (.reg false [⟨some 26, false, .mv (.t 0), none, false, []⟩, ⟨some 27, false, .mv (.t 6), none, false, []⟩, ⟨some 28, false, .mv (.t 7), none, false, []⟩, ⟨some 29, false, .call (.c (.fn 680 [])) [.t 27, .t 28], none, false, []⟩, ⟨some 30, false, .bin .sub (.t 26) (.t 29), none, false, []⟩, ⟨some 0, false, .asg (.t 30), none, false, []⟩] [0, 6, 7] []) (.reg false [⟨some 31, false, .mv (.t 7), none, false, []⟩, ⟨some 32, false, .bin .add (.t 31) (.c (.int .i64 1)), none, false, []⟩, ⟨some 7, false, .asg (.t 32), none, false, []⟩] [0, 6, 7] [])))
def impl_DateOf_k3 : C :=
 .norm [0, 6, 7] [] impl_DateOf_k2
def impl_DateOf_k4 : C :=
 .seq (.reg false [⟨some 33, false, .mv (.t 6), none, false, []⟩, ⟨some 34, false, .mv (.t 7), none, false, []⟩, ⟨some 35, false, .mv (.t 0), none, false, []⟩, ⟨some 36, false, .bin .add (.t 35) (.c (.int .i64 1)), none, false, []⟩, ⟨some 2, false, .asg (.t 33), none, false, []⟩, ⟨some 3, false, .asg (.t 34), none, false, []⟩, ⟨some 4, false, .asg (.t 36), none, false, []⟩, ⟨some 5, false, .asg (.c (.int .i64 0)), none, false, []⟩] [2, 3, 4, 5] []) .ret
def impl_DateOf_k5 : C :=
 .seq (.reg false [⟨some 7, false, .asg (.c (.int .i64 1)), none, false, []⟩] [0, 6, 7] []) (.seq (.block 2 (.loop impl_DateOf_k3)) impl_DateOf_k4)
def impl_DateOf_ir : Fn := { np := 1, io := [], res := [.t 2, .t 3, .t 4, .t 5], own := [false, false, false, false], body :=
 (.seq (.reg false [⟨some 2, false, .asg (.c (.int .i64 0)), none, false, []⟩, ⟨some 3, false, .asg (.c (.int .i64 0)), none, false, []⟩, ⟨some 4, false, .asg (.c (.int .i64 0)), none, false, []⟩, ⟨some 5, false, .asg (.c (.int .i64 0)), none, false, []⟩] [0] []) (.seq (.seq (.reg false [⟨some 8, false, .mv (.t 0), none, false, []⟩, ⟨some 9, false, .call (.c (.fn 682 [])) [.t 8], none, false, []⟩, ⟨some 10, false, .un .not (.t 9), none, false, []⟩] [0, 10] []) (.cond (.t 10) (.seq (.reg false [⟨some 2, false, .asg (.c (.int .i64 0)), none, false, []⟩, ⟨some 3, false, .asg (.c (.int .i64 0)), none, false, []⟩, ⟨some 4, false, .asg (.c (.int .i64 0)), none, false, []⟩, ⟨some 5, false, .asg (.c (.int .i64 2)), none, false, []⟩] [2, 3, 4, 5] []) .ret) .skip)) (.seq (.reg false [⟨some 6, false, .asg (.c (.int .i64 2000)), none, false, []⟩] [0, 6] []) (.seq (.block 0 (.loop impl_DateOf_k1)) impl_DateOf_k5)))) }
noncomputable def impl_DateOf_D : List (Nat × Callee) := [(680, impl_monthDays_c), (681, impl_yearDays_c), (682, impl_isDay_c)]
def impl_DateOf_H : List (Nat × ET) := []
noncomputable def impl_DateOf_c : Callee := mkCallee impl_DateOf_D impl_DateOf_H impl_DateOf_ir [.d (.one (.int .i64))] [.d (.one (.int .i64)), .d (.one (.int .i64)), .d (.one (.int .i64)), .d (.one (.int .i64))] []
noncomputable def impl_DateOf (a0 : Int) : Option (Int × Int × Int × Int) := impl_DateOf_c.f (a0, ())
noncomputable def impl_DateOf_p0  (v0 : Int) (v6 : Int) : Option (Int × Int × Int × Int) :=
 goL impl_DateOf_D impl_DateOf_H (vleave impl_DateOf_ir [.d (.one (.int .i64))] [.d (.one (.int .i64)), .d (.one (.int .i64)), .d (.one (.int .i64)), .d (.one (.int .i64))] [] []) [.c impl_DateOf_k0, .l impl_DateOf_k1, .e 0, .c impl_DateOf_k5]
  ⟨[(0, .int .i64 v0), (6, .int .i64 v6)], []⟩
noncomputable def impl_DateOf_p1  (v0 : Int) (v6 : Int) (v7 : Int) : Option (Int × Int × Int × Int) :=
 goL impl_DateOf_D impl_DateOf_H (vleave impl_DateOf_ir [.d (.one (.int .i64))] [.d (.one (.int .i64)), .d (.one (.int .i64)), .d (.one (.int .i64)), .d (.one (.int .i64))] [] []) [.c impl_DateOf_k2, .l impl_DateOf_k3, .e 2, .c impl_DateOf_k4]
  ⟨[(0, .int .i64 v0), (6, .int .i64 v6), (7, .int .i64 v7)], []⟩
theorem impl_DateOf_eq (a0 : Int) : impl_DateOf a0 =
  (impl_isDay a0).bind fun x1 =>
   if (!x1) then
    some (0, 0, 0, 2)
   else
    impl_DateOf_p0 a0 2000 :=
 (mk_f _ _ _ _ _ _ _ 4000).trans (by kernel_rfl)
theorem impl_DateOf_p0_eq  (v0 : Int) (v6 : Int) : impl_DateOf_p0 v0 v6 =
  (impl_yearDays v6).bind fun x1 =>
   if decide (v0 ≥ x1) then
    (impl_yearDays v6).bind fun x2 =>
     impl_DateOf_p0 (IntKind.i64.wrap (v0 - x2)) (IntKind.i64.wrap (v6 + 1))
   else
    impl_DateOf_p1 v0 v6 1 :=
 (goL_dn _ _ _ 4000 _ _).trans (by kernel_rfl)
theorem impl_DateOf_p1_eq  (v0 : Int) (v6 : Int) (v7 : Int) : impl_DateOf_p1 v0 v6 v7 =
  (impl_monthDays v6 v7).bind fun x1 =>
   if decide (v0 ≥ x1) then
    (impl_monthDays v6 v7).bind fun x2 =>
     impl_DateOf_p1 (IntKind.i64.wrap (v0 - x2)) v6 (IntKind.i64.wrap (v7 + 1))
   else
    some (v6, v7, IntKind.i64.wrap (v0 + 1), 0) :=
 (goL_dn _ _ _ 4000 _ _).trans (by kernel_rfl)

/- strings.Repeat -/
noncomputable def strings_Repeat_c : Callee := repeatC
noncomputable def strings_Repeat (a0 : List UInt8) (a1 : Int) : Option (List UInt8) := strings_Repeat_c.f (a0, a1, ())
theorem strings_Repeat_eq (a0 : List UInt8) (a1 : Int) : strings_Repeat a0 a1 = if decide (0 ≤ a1) && (decide (a1 ≤ 9223372036854775807) && decide (a0.length * a1.toNat ≤ 140737488355328)) then some (Lib.repeatL a0 a1.toNat) else none := rfl

/- impl.padded -/
def impl_padded_ir : Fn := { np := 2, io := [], res := [.t 4], own := [false], body :=
 (.seq (.reg false [⟨some 4, false, .asg (.c (.str [])), none, false, []⟩] [0, 1] []) (.seq (.reg false [⟨some 6, false, .mv (.t 0), none, false, []⟩, ⟨some 7, false, .call (.c (.fn 524 [])) [.t 6], none, false, []⟩, ⟨some 5, false, .asg (.t 7), none, false, []⟩] [1, 5] []) (.seq (.reg false [⟨some 8, false, .mv (.t 1), none, false, []⟩, ⟨some 9, false, .mv (.t 5), none, false, []⟩, ⟨some 10, false, .lens (.t 9), none, false, []⟩, ⟨some 11, false, .bin .sub (.t 8) (.t 10), none, false, []⟩, ⟨some 12, false, .max [.c (.int .i64 0), .t 11], none, false, []⟩, ⟨some 13, false, .call (.c (.fn 518 [])) [.c (.str [48]), .t 12], none, false, []⟩, ⟨some 14, false, .mv (.t 5), none, false, []⟩, ⟨some 15, false, .bin .add (.t 13) (.t 14), none, false, []⟩, ⟨some 4, false, .asg (.t 15), none, false, []⟩] [4] []) .ret))) }
noncomputable def impl_padded_D : List (Nat × Callee) := [(518, strings_Repeat_c), (524, impl_Decimal_c)]
def impl_padded_H : List (Nat × ET) := []
noncomputable def impl_padded_c : Callee := mkCallee impl_padded_D impl_padded_H impl_padded_ir [.d (.one (.int .i64)), .d (.one (.int .i64))] [.d (.one .str)] []
noncomputable def impl_padded (a0 : Int) (a1 : Int) : Option (List UInt8) := impl_padded_c.f (a0, a1, ())
theorem impl_padded_eq (a0 : Int) (a1 : Int) : impl_padded a0 a1 =
  (impl_Decimal a0).bind fun x1 =>
   (strings_Repeat [48] (if IntKind.i64.wrap (a1 - (x1.length : Int)) > 0 then IntKind.i64.wrap (a1 - (x1.length : Int)) else 0)).bind fun x2 =>
    if decide (x2.length + x1.length ≤ strMax) then
     some (x2 ++ x1)
    else
     none :=
 (mk_f _ _ _ _ _ _ _ 4000).trans (by kernel_rfl)

/- impl.DateText -/
def impl_DateText_ir : Fn := { np := 1, io := [], res := [.t 2], own := [false], body :=
 (.seq (.reg false [⟨some 2, false, .asg (.c (.str [])), none, false, []⟩] [0] []) (.seq (.reg false [⟨some 8, false, .mv (.t 0), none, false, []⟩, ⟨some 9, false, .call (.c (.fn 263 [])) [.t 8], none, false, []⟩, ⟨some 7, false, .mv (.t 9), none, false, []⟩, ⟨some 10, false, .ext (.t 7) 0, none, false, []⟩, ⟨some 11, false, .ext (.t 7) 1, none, false, []⟩, ⟨some 12, false, .ext (.t 7) 2, none, false, []⟩, ⟨some 13, false, .ext (.t 7) 3, none, false, []⟩, ⟨some 3, false, .asg (.t 10), none, false, []⟩, ⟨some 4, false, .asg (.t 11), none, false, []⟩, ⟨some 5, false, .asg (.t 12), none, false, []⟩, ⟨some 6, false, .asg (.t 13), none, false, []⟩] [3, 4, 5, 6] []) (.seq (.seq (.reg false [⟨some 14, false, .mv (.t 6), none, false, []⟩, ⟨some 15, false, .bin .neq (.t 14) (.c (.int .i64 0)), none, false, []⟩] [3, 4, 5, 15] []) (.cond (.t 15) (.seq (.reg false [⟨some 2, false, .asg (.c (.str [])), none, false, []⟩] [2] []) .ret) .skip)) (.seq (.reg false [⟨some 16, false, .mv (.t 3), none, false, []⟩, ⟨some 17, false, .call (.c (.fn 524 [])) [.t 16], none, false, []⟩, ⟨some 18, false, .bin .add (.t 17) (.c (.str [45])), none, false, []⟩, ⟨some 19, false, .mv (.t 4), none, false, []⟩, ⟨some 20, false, .call (.c (.fn 668 [])) [.t 19, .c (.int .i64 2)], none, false, []⟩, ⟨some 21, false, .bin .add (.t 18) (.t 20), none, false, []⟩, ⟨some 22, false, .bin .add (.t 21) (.c (.str [45])), none, false, []⟩, ⟨some 23, false, .mv (.t 5), none, false, []⟩, ⟨some 24, false, .call (.c (.fn 668 [])) [.t 23, .c (.int .i64 2)], none, false, []⟩, ⟨some 25, false, .bin .add (.t 22) (.t 24), none, false, []⟩, ⟨some 2, false, .asg (.t 25), none, false, []⟩] [2] []) .ret)))) }
noncomputable def impl_DateText_D : List (Nat × Callee) := [(263, impl_DateOf_c), (524, impl_Decimal_c), (668, impl_padded_c)]
def impl_DateText_H : List (Nat × ET) := []
noncomputable def impl_DateText_c : Callee := mkCallee impl_DateText_D impl_DateText_H impl_DateText_ir [.d (.one (.int .i64))] [.d (.one .str)] []
noncomputable def impl_DateText (a0 : Int) : Option (List UInt8) := impl_DateText_c.f (a0, ())
theorem impl_DateText_eq (a0 : Int) : impl_DateText a0 =
  (impl_DateOf a0).bind fun x1 =>
   if (x1.2.2.2 != 0) then
    some []
   else
    (impl_Decimal x1.1).bind fun x2 =>
     if decide (x2.length + [45].length ≤ strMax) then
      (impl_padded x1.2.1 2).bind fun x3 =>
       if decide ((x2 ++ [45]).length + x3.length ≤ strMax) then
        if decide (((x2 ++ [45]) ++ x3).length + [45].length ≤ strMax) then
         (impl_padded x1.2.2.1 2).bind fun x4 =>
          if decide ((((x2 ++ [45]) ++ x3) ++ [45]).length + x4.length ≤ strMax) then
           some ((((x2 ++ [45]) ++ x3) ++ [45]) ++ x4)
          else
           none
        else
         none
       else
        none
     else
      none :=
 (mk_f _ _ _ _ _ _ _ 4000).trans (by kernel_rfl)

/- impl.StackText -/
def impl_StackText_ir : Fn := { np := 1, io := [], res := [.t 2], own := [false], body :=
 (.seq (.reg false [⟨some 1, true, .box 4 (.t 0), none, false, []⟩, ⟨some 2, false, .asg (.c (.str [])), none, false, []⟩] [1] [1]) (.seq (.seq (.reg false [⟨some 3, false, .ld (some 4) (.t 1), none, false, []⟩, ⟨some 4, false, .call (.c (.fn 485 [])) [.t 3], none, false, []⟩, ⟨some 5, false, .un .not (.t 4), none, false, []⟩] [1, 5] [1]) (.cond (.t 5) (.seq (.reg false [⟨some 2, false, .asg (.c (.str [])), none, false, []⟩] [2] []) .ret) .skip)) (.seq (.reg true [⟨some 6, false, .fa 0 (.t 1), none, false, []⟩, ⟨some 7, false, .ld none (.t 6), none, false, []⟩, ⟨some 8, false, .fa 1 (.t 1), none, false, []⟩, ⟨some 9, false, .ld none (.t 8), none, false, []⟩, ⟨some 10, false, .fa 2 (.t 1), none, false, []⟩, ⟨some 11, false, .ld none (.t 10), none, false, []⟩, ⟨some 12, false, .bsl 1 (.int .i64 0) 2 [(0, .t 9), (1, .t 11)], none, false, []⟩, ⟨some 13, false, .call (.c (.fn 459 [])) [.t 7, .t 12], none, false, []⟩, ⟨some 14, false, .bin .add (.t 13) (.c (.str [32])), none, false, []⟩, ⟨some 15, false, .fa 3 (.t 1), none, false, []⟩, ⟨some 16, false, .ld none (.t 15), none, false, []⟩, ⟨some 17, false, .call (.c (.fn 260 [])) [.t 16], none, false, []⟩, ⟨some 18, false, .bin .add (.t 14) (.t 17), none, false, []⟩, ⟨some 2, false, .asg (.t 18), none, false, []⟩] [2] []) .ret))) }
noncomputable def impl_StackText_D : List (Nat × Callee) := [(260, impl_DateText_c), (459, impl_named_c), (485, impl_Stack_valid_c)]
def impl_StackText_H : List (Nat × ET) := [(12, (.one (.int .i64)))]
noncomputable def impl_StackText_c : Callee := mkCallee impl_StackText_D impl_StackText_H impl_StackText_ir [.d T_Peg] [.d (.one .str)] []
noncomputable def impl_StackText (a0 : T_Peg.ty) : Option (List UInt8) := impl_StackText_c.f (a0, ())
theorem impl_StackText_eq (a0 : T_Peg.ty) : impl_StackText a0 =
  (impl_Stack_valid a0).bind fun x1 =>
   if (!x1) then
    some []
   else
    (impl_named a0.1 [a0.2.1, a0.2.2.1]).bind fun x2 =>
     if decide (x2.length + [32].length ≤ strMax) then
      (impl_DateText a0.2.2.2.1).bind fun x3 =>
       if decide ((x2 ++ [32]).length + x3.length ≤ strMax) then
        some ((x2 ++ [32]) ++ x3)
       else
        none
     else
      none :=
 (mk_f _ _ _ _ _ _ _ 4000).trans (by kernel_rfl)

/- strings.Split -/
noncomputable def strings_Split_c : Callee := splitC
noncomputable def strings_Split (a0 : List UInt8) (a1 : List UInt8) : Option (List (List UInt8)) := strings_Split_c.f (a0, a1, ())
theorem strings_Split_eq (a0 : List UInt8) (a1 : List UInt8) : strings_Split a0 a1 = if decide (a0.length < 4294967281) && decide (1 ≤ a1.length) then some (Lib.splitK a1 0 (Lib.count a0 a1) a0) else none := rfl

/- impl.SplitWords -/
def impl_SplitWords_k0 : C :=
 .seq (.reg false [⟨some 11, false, .bin .lss (.t 10) (.t 9), none, false, []⟩] [3, 8, 9, 10, 11] [3]) (.seq (.cond (.t 11) .skip (.exit 0)) (.seq (.block 1 (.seq (.reg false [⟨some 12, false, .ia 1 (.t 8) (.t 10), none, false, []⟩, ⟨some 13, false, .ld none (.t 12), none, false, []⟩, ⟨some 5, false, .asg (.t 13), none, false, []⟩] [3, 5, 8, 9, 10] [3]) (.seq (.reg false [⟨some 14, false, .mv (.t 5), none, false, []⟩, ⟨some 15, false, .bin .neq (.t 14) (.c (.str [])), none, false, []⟩] [3, 5, 8, 9, 10, 15] [3]) (.cond (.t 15) (.reg false [⟨some 16, false, .mv (.t 3), none, false, []⟩, ⟨some 17, false, .mv (.t 5), none, false, []⟩, ⟨some 18, false, .bsl 1 (.str []) 1 [(0, .t 17)], none, false, []⟩, ⟨some 19, true, .app 1 16 (.t 16) (.t 18), none, false, []⟩, ⟨some 3, true, .asg (.t 19), none, false, []⟩] [3, 8, 9, 10] [3]) .skip)))) (.reg false [⟨some 20, false, .bin .add (.t 10) (.c (.int .i64 1)), none, false, []⟩, ⟨some 10, false, .mv (.t 20), none, false, []⟩] [3, 8, 9, 10] [3])))
def impl_SplitWords_k1 : C :=
 .norm [3, 8, 9, 10] [3] impl_SplitWords_k0
def impl_SplitWords_k2 : C :=
 .seq (.reg false [⟨some 21, false, .mv (.t 3), none, false, []⟩, ⟨some 2, true, .asg (.t 21), none, false, []⟩] [2] [2, 3]) .ret
def impl_SplitWords_ir : Fn := { np := 1, io := [], res := [.t 2], own := [true], body :=
 (.seq (.reg false [⟨some 2, true, .asg (.c (.nils 1)), none, false, []⟩] [0] []) (.seq (.reg false [⟨some 6, false, .bsl 1 (.str []) 0 [], none, false, []⟩, ⟨some 3, true, .asg (.t 6), none, false, []⟩] [0, 3] [3]) (.seq (.seq (.reg false [⟨some 7, false, .mv (.t 0), none, false, []⟩, ⟨some 8, false, .call (.c (.fn 683 [])) [.t 7, .c (.str [32])], none, false, []⟩, ⟨some 9, false, .len (.t 8), none, false, []⟩, ⟨some 10, false, .mv (.c (.int .i64 0)), none, false, []⟩] [3, 8, 9, 10] [3]) (.block 0 (.loop impl_SplitWords_k1))) impl_SplitWords_k2))) }
noncomputable def impl_SplitWords_D : List (Nat × Callee) := [(683, strings_Split_c)]
def impl_SplitWords_H : List (Nat × ET) := [(2, (.one .str)), (3, (.one .str)), (6, (.one .str)), (8, (.one .str)), (16, (.one .str)), (18, (.one .str)), (19, (.one .str)), (21, (.one .str))]
noncomputable def impl_SplitWords_c : Callee := mkCallee impl_SplitWords_D impl_SplitWords_H impl_SplitWords_ir [.d (.one .str)] [.tok (.one .str)] []
noncomputable def impl_SplitWords (a0 : List UInt8) : Option (List (List UInt8)) := impl_SplitWords_c.f (a0, ())
noncomputable def impl_SplitWords_p0  (v8 : List (List UInt8)) (v9 : Int) (v10 : Int) (r3 : List (List UInt8)) : Option (List (List UInt8)) :=
 goL impl_SplitWords_D impl_SplitWords_H (vleave impl_SplitWords_ir [.d (.one .str)] [.tok (.one .str)] [] []) [.c impl_SplitWords_k0, .l impl_SplitWords_k1, .e 0, .c impl_SplitWords_k2]
  ⟨[(3, .view 3 0 r3.length), (8, .sl (.one .str) v8), (9, .int .i64 v9), (10, .int .i64 v10)], [(3, some (.sl (.one .str) r3))]⟩
theorem impl_SplitWords_eq (a0 : List UInt8) : impl_SplitWords a0 =
  (strings_Split a0 [32]).bind fun x1 =>
   impl_SplitWords_p0 x1 (x1.length : Int) 0 [] :=
 (mk_f _ _ _ _ _ _ _ 4000).trans (by kernel_rfl)
theorem impl_SplitWords_p0_eq  (v8 : List (List UInt8)) (v9 : Int) (v10 : Int) (r3 : List (List UInt8)) : impl_SplitWords_p0 v8 v9 v10 r3 =
  if decide (v10 < v9) then
   if decide (0 ≤ v10) then
    (v8[v10.toNat]?).bind fun x1 =>
     if (!(x1 == [])) then
      if decide (r3.length + 1 < lim) then
       impl_SplitWords_p0 v8 v9 (IntKind.i64.wrap (v10 + 1)) ((r3.take r3.length) ++ [x1])
      else
       none
     else
      impl_SplitWords_p0 v8 v9 (IntKind.i64.wrap (v10 + 1)) r3
   else
    none
  else
   some (r3.take r3.length) :=
 (goL_dn _ _ _ 4000 _ _).trans (by kernel_rfl)

/- loop.example/g01061/impl.ReadDecimal -/
noncomputable def impl_ReadDecimal_c : Callee := readDecC
noncomputable def impl_ReadDecimal (a0 : List UInt8) : Option (Int × Bool) := impl_ReadDecimal_c.f (a0, ())
theorem impl_ReadDecimal_eq (a0 : List UInt8) : impl_ReadDecimal a0 = some (readDecP a0) := rfl

/- impl.ReadList -/
def impl_ReadList_k0 : C :=
 .seq (.reg false [⟨some 16, false, .bin .lss (.t 15) (.t 14), none, false, []⟩] [4, 13, 14, 15, 16] [4]) (.seq (.cond (.t 16) .skip (.exit 0)) (.seq (.block 1 (.seq (.reg false [⟨some 17, false, .ia 1 (.t 13) (.t 15), none, false, []⟩, ⟨some 18, false, .ld none (.t 17), none, false, []⟩, ⟨some 6, false, .asg (.t 18), none, false, []⟩] [4, 6, 13, 14, 15] [4]) (.seq (.reg false [⟨some 20, false, .mv (.t 6), none, false, []⟩, ⟨some 21, false, .call (.c (.fn 522 [])) [.t 20], none, false, []⟩, ⟨some 19, false, .mv (.t 21), none, false, []⟩, ⟨some 22, false, .ext (.t 19) 0, none, false, []⟩, ⟨some 23, false, .ext (.t 19) 1, none, false, []⟩, ⟨some 7, false, .asg (.t 22), none, false, []⟩, ⟨some 8, false, .asg (.t 23), none, false, []⟩] [4, 7, 8, 13, 14, 15] [4]) (.seq (.seq (.reg false [⟨some 24, false, .mv (.t 8), none, false, []⟩, ⟨some 25, false, .un .not (.t 24), none, false, []⟩, ⟨some 26, false, .mv (.t 25), none, false, []⟩, ⟨some 27, false, .mv (.t 7), some (2, false), false, []⟩, ⟨some 28, false, .call (.c (.fn 23 [])) [.t 27, .c (.int .i64 (-1000000000000)), .c (.int .i64 1000000000000)], some (2, false), false, []⟩, ⟨some 29, false, .un .not (.t 28), some (2, false), false, []⟩, ⟨some 30, false, .pick (.t 26) (.c (.bool true)) (.t 29), none, false, []⟩, ⟨some 31, false, .mv (.t 30), none, false, []⟩, ⟨some 32, false, .mv (.t 4), some (7, false), false, []⟩, ⟨some 33, false, .len (.t 32), some (7, false), false, []⟩, ⟨some 34, false, .bin .eql (.t 33) (.c (.int .i64 64)), some (7, false), false, []⟩, ⟨some 35, false, .pick (.t 31) (.c (.bool true)) (.t 34), none, false, []⟩] [4, 7, 13, 14, 15, 35] [4]) (.cond (.t 35) (.seq (.reg false [⟨some 2, true, .asg (.c (.nils 1)), none, false, []⟩, ⟨some 3, false, .asg (.c (.bool false)), none, false, []⟩] [2, 3] [2, 4]) .ret) .skip)) (.reg false [⟨some 36, false, .mv (.t 4), none, false, []⟩, ⟨some 37, false, .mv (.t 7), none, false, []⟩, ⟨some 38, false, .bsl 1 (.int .i64 0) 1 [(0, .t 37)], none, false, []⟩, ⟨some 39, true, .app 1 8 (.t 36) (.t 38), none, false, []⟩, ⟨some 4, true, .asg (.t 39), none, false, []⟩] [4, 13, 14, 15] [4]))))) (.reg false [⟨some 40, false, .bin .add (.t 15) (.c (.int .i64 1)), none, false, []⟩, ⟨some 15, false, .mv (.t 40), none, false, []⟩] [4, 13, 14, 15] [4])))
def impl_ReadList_k1 : C :=
 .norm [4, 13, 14, 15] [4] impl_ReadList_k0
def impl_ReadList_k2 : C :=
 .seq (.reg false [⟨some 41, false, .mv (.t 4), none, false, []⟩, ⟨some 2, true, .asg (.t 41), none, false, []⟩, ⟨some 3, false, .asg (.c (.bool true)), none, false, []⟩] [2, 3] [2, 4]) .ret
def impl_ReadList_ir : Fn := { np := 1, io := [], res := [.t 2, .t 3], own := [true, false], body :=
 (.seq (.reg false [⟨some 2, true, .asg (.c (.nils 1)), none, false, []⟩, ⟨some 3, false, .asg (.c (.bool false)), none, false, []⟩] [0] []) (.seq (.seq (.reg false [⟨some 9, false, .mv (.t 0), none, false, []⟩, ⟨some 10, false, .bin .eql (.t 9) (.c (.str [45])), none, false, []⟩] [0, 10] []) (.cond (.t 10) (.seq (.reg false [⟨some 2, true, .asg (.c (.nils 1)), none, false, []⟩, ⟨some 3, false, .asg (.c (.bool true)), none, false, []⟩] [2, 3] [2, 4]) .ret) .skip)) (.seq (.reg false [⟨some 11, false, .bsl 1 (.int .i64 0) 0 [], none, false, []⟩, ⟨some 4, true, .asg (.t 11), none, false, []⟩] [0, 4] [4]) (.seq (.seq (.reg false [⟨some 12, false, .mv (.t 0), none, false, []⟩, ⟨some 13, false, .call (.c (.fn 683 [])) [.t 12, .c (.str [44])], none, false, []⟩, ⟨some 14, false, .len (.t 13), none, false, []⟩, ⟨some 15, false, .mv (.c (.int .i64 0)), none, false, []⟩] [4, 13, 14, 15] [4]) (.block 0 (.loop impl_ReadList_k1))) impl_ReadList_k2)))) }
noncomputable def impl_ReadList_D : List (Nat × Callee) := [(23, impl_within_c), (522, impl_ReadDecimal_c), (683, strings_Split_c)]
def impl_ReadList_H : List (Nat × ET) := [(2, (.one (.int .i64))), (4, (.one (.int .i64))), (11, (.one (.int .i64))), (13, (.one .str)), (32, (.one (.int .i64))), (36, (.one (.int .i64))), (38, (.one (.int .i64))), (39, (.one (.int .i64))), (41, (.one (.int .i64)))]
noncomputable def impl_ReadList_c : Callee := mkCallee impl_ReadList_D impl_ReadList_H impl_ReadList_ir [.d (.one .str)] [.tok (.one (.int .i64)), .d (.one .bool)] []
noncomputable def impl_ReadList (a0 : List UInt8) : Option (List Int × Bool) := impl_ReadList_c.f (a0, ())
noncomputable def impl_ReadList_p0  (v13 : List (List UInt8)) (v14 : Int) (v15 : Int) (r4 : List Int) : Option (List Int × Bool) :=
 goL impl_ReadList_D impl_ReadList_H (vleave impl_ReadList_ir [.d (.one .str)] [.tok (.one (.int .i64)), .d (.one .bool)] [] []) [.c impl_ReadList_k0, .l impl_ReadList_k1, .e 0, .c impl_ReadList_k2]
  ⟨[(4, .view 4 0 r4.length), (13, .sl (.one .str) v13), (14, .int .i64 v14), (15, .int .i64 v15)], [(4, some (.sl (.one (.int .i64)) r4))]⟩
theorem impl_ReadList_eq (a0 : List UInt8) : impl_ReadList a0 =
  if (a0 == [45]) then
   some ([], true)
  else
   (strings_Split a0 [44]).bind fun x1 =>
    impl_ReadList_p0 x1 (x1.length : Int) 0 [] :=
 (mk_f _ _ _ _ _ _ _ 4000).trans (by kernel_rfl)
theorem impl_ReadList_p0_eq  (v13 : List (List UInt8)) (v14 : Int) (v15 : Int) (r4 : List Int) : impl_ReadList_p0 v13 v14 v15 r4 =
  if decide (v15 < v14) then
   if decide (0 ≤ v15) then
    (v13[v15.toNat]?).bind fun x1 =>
     (impl_ReadDecimal x1).bind fun x2 =>
      if (!x2.2) then
       some ([], false)
      else
       (impl_within x2.1 (-1000000000000) 1000000000000).bind fun x3 =>
        if (!x3) then
         some ([], false)
        else
         if ((r4.length : Int) == 64) then
          some ([], false)
         else
          if decide (r4.length + 1 < lim) then
           impl_ReadList_p0 v13 v14 (IntKind.i64.wrap (v15 + 1)) ((r4.take r4.length) ++ [x2.1])
          else
           none
   else
    none
  else
   some ((r4.take r4.length), true) :=
 (goL_dn _ _ _ 4000 _ _).trans (by kernel_rfl)

/- impl.digitsOf -/
def impl_digitsOf_k0 : C :=
 .seq (.seq (.reg false [⟨some 13, false, .mv (.t 5), none, false, []⟩, ⟨some 14, false, .mv (.t 0), none, false, []⟩, ⟨some 15, false, .lens (.t 14), none, false, []⟩, ⟨some 16, false, .bin .lss (.t 13) (.t 15), none, false, []⟩] [0, 4, 5, 16] []) (.cond (.t 16) .skip (.exit 0))) (.seq (.block 1 (.seq (.seq (.reg false [⟨some 19, false, .mv (.t 0), none, false, []⟩, ⟨some 20, false, .mv (.t 5), none, false, []⟩, ⟨some 21, false, .ix (.t 19) (.t 20), none, false, []⟩, ⟨some 22, false, .call (.c (.fn 22 [])) [.t 21], none, false, []⟩, ⟨some 23, false, .un .not (.t 22), none, false, []⟩] [0, 4, 5, 23] []) (.cond (.t 23) (.seq (.reg false [⟨some 2, false, .asg (.c (.int .i64 0)), none, false, []⟩, ⟨some 3, false, .asg (.c (.bool false)), none, false, []⟩] [2, 3] []) .ret) .skip)) (.reg false [⟨some 24, false, .mv (.t 4), none, false, []⟩, ⟨some 25, false, .bin .mul (.c (.int .i64 10)) (.t 24), none, false, []⟩, ⟨some 26, false, .mv (.t 0), none, false, []⟩, ⟨some 27, false, .mv (.t 5), none, false, []⟩, ⟨some 28, false, .ix (.t 26) (.t 27), none, false, []⟩, ⟨some 29, false, .bin .sub (.t 28) (.c (.int .u8 48)), none, false, []⟩, ⟨some 30, false, .conv (.int .i64) (.t 29), none, false, []⟩, ⟨some 31, false, .bin .add (.t 25) (.t 30), none, false, []⟩, ⟨some 4, false, .asg (.t 31), none, false, []⟩] [0, 4, 5] []))) (.reg false [⟨some 17, false, .mv (.t 5), none, false, []⟩, ⟨some 18, false, .bin .add (.t 17) (.c (.int .i64 1)), none, false, []⟩, ⟨some 5, false, .asg (.t 18), none, false, []⟩] [0, 4, 5] []))
def impl_digitsOf_k1 : C :=
 .norm [0, 4, 5] [] impl_digitsOf_k0
def impl_digitsOf_k2 : C :=
 .seq (.reg false [⟨some 32, false, .mv (.t 4), none, false, []⟩, ⟨some 2, false, .asg (.t 32), none, false, []⟩, ⟨some 3, false, .asg (.c (.bool true)), none, false, []⟩] [2, 3] []) .ret
def impl_digitsOf_k3 : C :=
 .seq (.reg false [⟨some 4, false, .asg (.c (.int .i64 0)), none, false, []⟩] [0, 4] []) (.seq (.seq (.reg false [⟨some 5, false, .asg (.c (.int .i64 0)), none, false, []⟩] [0, 4, 5] []) (.block 0 (.loop impl_digitsOf_k1))) impl_digitsOf_k2)
def impl_digitsOf_ir : Fn := { np := 1, io := [], res := [.t 2, .t 3], own := [false, false], body :=
 (.seq (.reg false [⟨some 2, false, .asg (.c (.int .i64 0)), none, false, []⟩, ⟨some 3, false, .asg (.c (.bool false)), none, false, []⟩] [0] []) (.seq (.seq (.reg false [⟨some 6, false, .mv (.t 0), none, false, []⟩, ⟨some 7, false, .bin .eql (.t 6) (.c (.str [])), none, false, []⟩, ⟨some 8, false, .mv (.t 7), none, false, []⟩, ⟨some 9, false, .mv (.t 0), some (2, false), false, []⟩, ⟨some 10, false, .lens (.t 9), some (2, false), false, []⟩, ⟨some 11, false, .bin .gtr (.t 10) (.c (.int .i64 18)), some (2, false), false, []⟩, ⟨some 12, false, .pick (.t 8) (.c (.bool true)) (.t 11), none, false, []⟩] [0, 12] []) (.cond (.t 12) (.seq (.reg false [⟨some 2, false, .asg (.c (.int .i64 0)), none, false, []⟩, ⟨some 3, false, .asg (.c (.bool false)), none, false, []⟩] [2, 3] []) .ret) .skip)) (.norm [0] [] impl_digitsOf_k3))) }
noncomputable def impl_digitsOf_D : List (Nat × Callee) := [(22, impl_isDigit_c)]
def impl_digitsOf_H : List (Nat × ET) := []
noncomputable def impl_digitsOf_c : Callee := mkCallee impl_digitsOf_D impl_digitsOf_H impl_digitsOf_ir [.d (.one .str)] [.d (.one (.int .i64)), .d (.one .bool)] []
noncomputable def impl_digitsOf (a0 : List UInt8) : Option (Int × Bool) := impl_digitsOf_c.f (a0, ())
noncomputable def impl_digitsOf_p0  (v0 : List UInt8) : Option (Int × Bool) :=
 goL impl_digitsOf_D impl_digitsOf_H (vleave impl_digitsOf_ir [.d (.one .str)] [.d (.one (.int .i64)), .d (.one .bool)] [] []) [.c impl_digitsOf_k3]
  ⟨[(0, .str v0)], []⟩
noncomputable def impl_digitsOf_p1  (v0 : List UInt8) (v4 : Int) (v5 : Int) : Option (Int × Bool) :=
 goL impl_digitsOf_D impl_digitsOf_H (vleave impl_digitsOf_ir [.d (.one .str)] [.d (.one (.int .i64)), .d (.one .bool)] [] []) [.c impl_digitsOf_k0, .l impl_digitsOf_k1, .e 0, .c impl_digitsOf_k2]
  ⟨[(0, .str v0), (4, .int .i64 v4), (5, .int .i64 v5)], []⟩
theorem impl_digitsOf_eq (a0 : List UInt8) : impl_digitsOf a0 =
  if (a0 == []) then
   some (0, false)
  else
   if decide ((a0.length : Int) > 18) then
    some (0, false)
   else
    impl_digitsOf_p0 a0 :=
 (mk_f _ _ _ _ _ _ _ 4000).trans (by kernel_rfl)
theorem impl_digitsOf_p0_eq  (v0 : List UInt8) : impl_digitsOf_p0 v0 =
  impl_digitsOf_p1 v0 0 0 :=
 (goL_dn _ _ _ 4000 _ _).trans (by kernel_rfl)
theorem impl_digitsOf_p1_eq  (v0 : List UInt8) (v4 : Int) (v5 : Int) : impl_digitsOf_p1 v0 v4 v5 =
  if decide (v5 < (v0.length : Int)) then
   if decide (0 ≤ v5) then
    (v0[v5.toNat]?).bind fun x1 =>
     (impl_isDigit (x1.toNat : Int)).bind fun x2 =>
      if (!x2) then
       some (0, false)
      else
       if decide (0 ≤ v5) then
        (v0[v5.toNat]?).bind fun x3 =>
         impl_digitsOf_p1 v0 (IntKind.i64.wrap ((IntKind.i64.wrap (10 * v4)) + (IntKind.i64.wrap (IntKind.u8.wrap ((x3.toNat : Int) - 48))))) (IntKind.i64.wrap (v5 + 1))
       else
        none
   else
    none
  else
   some (v4, true) :=
 (goL_dn _ _ _ 4000 _ _).trans (by kernel_rfl)

/- impl.DayNumber -/
def impl_DayNumber_k0 : C :=
 .seq (.seq (.reg false [⟨some 29, false, .mv (.t 9), none, false, []⟩, ⟨some 30, false, .mv (.t 0), none, false, []⟩, ⟨some 31, false, .bin .lss (.t 29) (.t 30), none, false, []⟩] [0, 1, 8, 9, 31] []) (.cond (.t 31) .skip (.exit 0))) (.seq (.block 1 (.reg false [⟨some 34, false, .mv (.t 8), none, false, []⟩, ⟨some 35, false, .mv (.t 9), none, false, []⟩, ⟨some 36, false, .call (.c (.fn 681 [])) [.t 35], none, false, []⟩, ⟨some 37, false, .bin .add (.t 34) (.t 36), none, false, []⟩, ⟨some 8, false, .asg (.t 37), none, false, []⟩] [0, 1, 8, 9] [])) (.reg false [⟨some 32, false, .mv (.t 9), none, false, []⟩, ⟨some 33, false, .bin .add (.t 32) (.c (.int .i64 1)), none, false, []⟩, ⟨some 9, false, .asg (.t 33), none, false, []⟩] [0, 1, 8, 9] []))
def impl_DayNumber_k1 : C :=
 .norm [0, 1, 8, 9] [] impl_DayNumber_k0
def impl_DayNumber_k2 : C :=
 .seq (.seq (.reg false [⟨some 38, false, .mv (.t 10), none, false, []⟩, ⟨some 39, false, .mv (.t 1), none, false, []⟩, ⟨some 40, false, .bin .lss (.t 38) (.t 39), none, false, []⟩] [0, 1, 8, 10, 40] []) (.cond (.t 40) .skip (.exit 2))) (.seq (.block 3 (.reg false [⟨some 43, false, .mv (.t 8), none, false, []⟩, ⟨some 44, false, .mv (.t 0), none, false, []⟩, ⟨some 45, false, .mv (.t 10), none, false, []⟩, ⟨some 46, false, .call (.c (.fn 680 [])) [.t 44, .t 45], none, false, []⟩, ⟨some 47, false, .bin .add (.t 43) (.t 46), none, false, []⟩, ⟨some 8, false, .asg (.t 47), none, false, []⟩] [0, 1, 8, 10] [])) (.reg false [⟨some 41, false, .mv (.t 10), none, false, []⟩, ⟨some 42, false, .bin .add (.t 41) (.c (.int .i64 1)), none, false, []⟩, ⟨some 10, false, .asg (.t 42), none, false, []⟩] [0, 1, 8, 10] []))
def impl_DayNumber_k3 : C :=
 .norm [0, 1, 8, 10] [] impl_DayNumber_k2
def impl_DayNumber_k4 : C :=
 .seq (.reg false [⟨some 48, false, .mv (.t 8), none, false, []⟩, ⟨some 6, false, .asg (.t 48), none, false, []⟩, ⟨some 7, false, .asg (.c (.int .i64 0)), none, false, []⟩] [6, 7] []) .ret
def impl_DayNumber_k5 : C :=
 .seq (.seq (.reg false [⟨some 10, false, .asg (.c (.int .i64 1)), none, false, []⟩] [0, 1, 8, 10] []) (.block 2 (.loop impl_DayNumber_k3))) impl_DayNumber_k4
def impl_DayNumber_k6 : C :=
 .seq (.reg false [⟨some 27, false, .mv (.t 2), none, false, []⟩, ⟨some 28, false, .bin .sub (.t 27) (.c (.int .i64 1)), none, false, []⟩, ⟨some 8, false, .asg (.t 28), none, false, []⟩] [0, 1, 8] []) (.seq (.seq (.reg false [⟨some 9, false, .asg (.c (.int .i64 2000)), none, false, []⟩] [0, 1, 8, 9] []) (.block 0 (.loop impl_DayNumber_k1))) impl_DayNumber_k5)
def impl_DayNumber_ir : Fn := { np := 3, io := [], res := [.t 6, .t 7], own := [false, false], body :=
 (.seq (.reg false [⟨some 6, false, .asg (.c (.int .i64 0)), none, false, []⟩, ⟨some 7, false, .asg (.c (.int .i64 0)), none, false, []⟩] [0, 1, 2] []) (.seq (.seq (.reg false [⟨some 11, false, .mv (.t 0), none, false, []⟩, ⟨some 12, false, .call (.c (.fn 23 [])) [.t 11, .c (.int .i64 2000), .c (.int .i64 2099)], none, false, []⟩, ⟨some 13, false, .un .not (.t 12), none, false, []⟩, ⟨some 14, false, .mv (.t 13), none, false, []⟩, ⟨some 15, false, .mv (.t 1), some (3, false), false, []⟩, ⟨some 16, false, .call (.c (.fn 23 [])) [.t 15, .c (.int .i64 1), .c (.int .i64 12)], some (3, false), false, []⟩, ⟨some 17, false, .un .not (.t 16), some (3, false), false, []⟩, ⟨some 18, false, .pick (.t 14) (.c (.bool true)) (.t 17), none, false, []⟩, ⟨some 19, false, .mv (.t 18), none, false, []⟩, ⟨some 20, false, .mv (.t 2), some (8, false), false, []⟩, ⟨some 21, false, .mv (.t 0), some (8, false), false, []⟩, ⟨some 22, false, .mv (.t 1), some (8, false), false, []⟩, ⟨some 23, false, .call (.c (.fn 680 [])) [.t 21, .t 22], some (8, false), false, []⟩, ⟨some 24, false, .call (.c (.fn 23 [])) [.t 20, .c (.int .i64 1), .t 23], some (8, false), false, []⟩, ⟨some 25, false, .un .not (.t 24), some (8, false), false, []⟩, ⟨some 26, false, .pick (.t 19) (.c (.bool true)) (.t 25), none, false, []⟩] [0, 1, 2, 26] []) (.cond (.t 26) (.seq (.reg false [⟨some 6, false, .asg (.c (.int .i64 0)), none, false, []⟩, ⟨some 7, false, .asg (.c (.int .i64 2)), none, false, []⟩] [6, 7] []) .ret) .skip)) (.norm [0, 1, 2] [] impl_DayNumber_k6))) }
noncomputable def impl_DayNumber_D : List (Nat × Callee) := [(23, impl_within_c), (680, impl_monthDays_c), (681, impl_yearDays_c)]
def impl_DayNumber_H : List (Nat × ET) := []
noncomputable def impl_DayNumber_c : Callee := mkCallee impl_DayNumber_D impl_DayNumber_H impl_DayNumber_ir [.d (.one (.int .i64)), .d (.one (.int .i64)), .d (.one (.int .i64))] [.d (.one (.int .i64)), .d (.one (.int .i64))] []
noncomputable def impl_DayNumber (a0 : Int) (a1 : Int) (a2 : Int) : Option (Int × Int) := impl_DayNumber_c.f (a0, a1, a2, ())
noncomputable def impl_DayNumber_p0  (v0 : Int) (v1 : Int) (v2 : Int) : Option (Int × Int) :=
 goL impl_DayNumber_D impl_DayNumber_H (vleave impl_DayNumber_ir [.d (.one (.int .i64)), .d (.one (.int .i64)), .d (.one (.int .i64))] [.d (.one (.int .i64)), .d (.one (.int .i64))] [] []) [.c impl_DayNumber_k6]
  ⟨[(0, .int .i64 v0), (1, .int .i64 v1), (2, .int .i64 v2)], []⟩
noncomputable def impl_DayNumber_p1  (v0 : Int) (v1 : Int) (v8 : Int) (v9 : Int) : Option (Int × Int) :=
 goL impl_DayNumber_D impl_DayNumber_H (vleave impl_DayNumber_ir [.d (.one (.int .i64)), .d (.one (.int .i64)), .d (.one (.int .i64))] [.d (.one (.int .i64)), .d (.one (.int .i64))] [] []) [.c impl_DayNumber_k0, .l impl_DayNumber_k1, .e 0, .c impl_DayNumber_k5]
  ⟨[(0, .int .i64 v0), (1, .int .i64 v1), (8, .int .i64 v8), (9, .int .i64 v9)], []⟩
noncomputable def impl_DayNumber_p2  (v0 : Int) (v1 : Int) (v8 : Int) (v10 : Int) : Option (Int × Int) :=
 goL impl_DayNumber_D impl_DayNumber_H (vleave impl_DayNumber_ir [.d (.one (.int .i64)), .d (.one (.int .i64)), .d (.one (.int .i64))] [.d (.one (.int .i64)), .d (.one (.int .i64))] [] []) [.c impl_DayNumber_k2, .l impl_DayNumber_k3, .e 2, .c impl_DayNumber_k4]
  ⟨[(0, .int .i64 v0), (1, .int .i64 v1), (8, .int .i64 v8), (10, .int .i64 v10)], []⟩
theorem impl_DayNumber_eq (a0 : Int) (a1 : Int) (a2 : Int) : impl_DayNumber a0 a1 a2 =
  (impl_within a0 2000 2099).bind fun x1 =>
   if (!x1) then
    some (0, 2)
   else
    (impl_within a1 1 12).bind fun x2 =>
     if (!x2) then
      some (0, 2)
     else
      (impl_monthDays a0 a1).bind fun x3 =>
       (impl_within a2 1 x3).bind fun x4 =>
        if (!x4) then
         some (0, 2)
        else
         impl_DayNumber_p0 a0 a1 a2 :=
 (mk_f _ _ _ _ _ _ _ 4000).trans (by kernel_rfl)
theorem impl_DayNumber_p0_eq  (v0 : Int) (v1 : Int) (v2 : Int) : impl_DayNumber_p0 v0 v1 v2 =
  impl_DayNumber_p1 v0 v1 (IntKind.i64.wrap (v2 - 1)) 2000 :=
 (goL_dn _ _ _ 4000 _ _).trans (by kernel_rfl)
theorem impl_DayNumber_p1_eq  (v0 : Int) (v1 : Int) (v8 : Int) (v9 : Int) : impl_DayNumber_p1 v0 v1 v8 v9 =
  if decide (v9 < v0) then
   (impl_yearDays v9).bind fun x1 =>
    impl_DayNumber_p1 v0 v1 (IntKind.i64.wrap (v8 + x1)) (IntKind.i64.wrap (v9 + 1))
  else
   impl_DayNumber_p2 v0 v1 v8 1 :=
 (goL_dn _ _ _ 4000 _ _).trans (by kernel_rfl)
theorem impl_DayNumber_p2_eq  (v0 : Int) (v1 : Int) (v8 : Int) (v10 : Int) : impl_DayNumber_p2 v0 v1 v8 v10 =
  if decide (v10 < v1) then
   (impl_monthDays v0 v10).bind fun x1 =>
    impl_DayNumber_p2 v0 v1 (IntKind.i64.wrap (v8 + x1)) (IntKind.i64.wrap (v10 + 1))
  else
   some (v8, 0) :=
 (goL_dn _ _ _ 4000 _ _).trans (by kernel_rfl)

/- impl.ReadDate -/
def impl_ReadDate_k0 : C :=
 .seq (.reg false [⟨some 18, false, .bin .lss (.t 17) (.t 16), none, false, []⟩] [0, 5, 15, 16, 17, 18] [4, 5]) (.seq (.cond (.t 18) .skip (.exit 0)) (.seq (.block 1 (.seq (.reg false [⟨some 19, false, .mv (.t 17), none, false, []⟩, ⟨some 20, false, .ia 1 (.t 15) (.t 17), none, false, []⟩, ⟨some 21, false, .ld none (.t 20), none, false, []⟩, ⟨some 6, false, .asg (.t 19), none, false, []⟩, ⟨some 7, false, .asg (.t 21), none, false, []⟩] [0, 5, 6, 7, 15, 16, 17] [4, 5]) (.reg false [⟨some 23, false, .mv (.t 6), none, false, []⟩, ⟨some 24, false, .mv (.t 7), none, false, []⟩, ⟨some 25, false, .call (.c (.fn 673 [])) [.t 24], none, false, []⟩, ⟨some 22, false, .mv (.t 25), none, false, []⟩, ⟨some 26, false, .ext (.t 22) 0, none, false, []⟩, ⟨some 27, false, .ext (.t 22) 1, none, false, []⟩, ⟨some 28, false, .iaa 3 1 (.t 5) (.t 23), none, false, []⟩, ⟨none, true, .sto 1 (.t 28) (.t 26), none, false, []⟩] [0, 5, 15, 16, 17] [4, 5]))) (.reg false [⟨some 29, false, .bin .add (.t 17) (.c (.int .i64 1)), none, false, []⟩, ⟨some 17, false, .mv (.t 29), none, false, []⟩] [0, 5, 15, 16, 17] [4, 5])))
def impl_ReadDate_k1 : C :=
 .norm [0, 5, 15, 16, 17] [4, 5] impl_ReadDate_k0
def impl_ReadDate_k2 : C :=
 .seq (.reg false [⟨some 31, false, .iaa 3 1 (.t 5) (.c (.int .i64 0)), none, false, []⟩, ⟨some 32, false, .ld none (.t 31), none, false, []⟩, ⟨some 33, false, .iaa 3 1 (.t 5) (.c (.int .i64 1)), none, false, []⟩, ⟨some 34, false, .ld none (.t 33), none, false, []⟩, ⟨some 35, false, .iaa 3 1 (.t 5) (.c (.int .i64 2)), none, false, []⟩, ⟨some 36, false, .ld none (.t 35), none, false, []⟩, ⟨some 37, false, .call (.c (.fn 262 [])) [.t 32, .t 34, .t 36], none, false, []⟩, ⟨some 30, false, .mv (.t 37), none, false, []⟩, ⟨some 38, false, .ext (.t 30) 0, none, false, []⟩, ⟨some 39, false, .ext (.t 30) 1, none, false, []⟩, ⟨some 8, false, .asg (.t 38), none, false, []⟩, ⟨some 9, false, .asg (.t 39), none, false, []⟩] [0, 8, 9] []) (.seq (.seq (.reg false [⟨some 40, false, .mv (.t 9), none, false, []⟩, ⟨some 41, false, .bin .neq (.t 40) (.c (.int .i64 0)), none, false, []⟩, ⟨some 42, false, .mv (.t 41), none, false, []⟩, ⟨some 43, false, .mv (.t 8), some (2, false), false, []⟩, ⟨some 44, false, .call (.c (.fn 260 [])) [.t 43], some (2, false), false, []⟩, ⟨some 45, false, .mv (.t 0), some (2, false), false, []⟩, ⟨some 46, false, .bin .neq (.t 44) (.t 45), some (2, false), false, []⟩, ⟨some 47, false, .pick (.t 42) (.c (.bool true)) (.t 46), none, false, []⟩] [8, 47] []) (.cond (.t 47) (.seq (.reg false [⟨some 2, false, .asg (.c (.int .i64 0)), none, false, []⟩, ⟨some 3, false, .asg (.c (.bool false)), none, false, []⟩] [2, 3] []) .ret) .skip)) (.seq (.reg false [⟨some 48, false, .mv (.t 8), none, false, []⟩, ⟨some 2, false, .asg (.t 48), none, false, []⟩, ⟨some 3, false, .asg (.c (.bool true)), none, false, []⟩] [2, 3] []) .ret))
def impl_ReadDate_ir : Fn := { np := 1, io := [], res := [.t 2, .t 3], own := [false, false], body :=
 (.seq (.reg false [⟨some 2, false, .asg (.c (.int .i64 0)), none, false, []⟩, ⟨some 3, false, .asg (.c (.bool false)), none, false, []⟩] [0] []) (.seq (.reg false [⟨some 10, false, .mv (.t 0), none, false, []⟩, ⟨some 11, false, .call (.c (.fn 683 [])) [.t 10, .c (.str [45])], none, false, []⟩, ⟨some 4, true, .asg (.t 11), none, false, []⟩] [0, 4] [4]) (.seq (.seq (.reg false [⟨some 12, false, .mv (.t 4), none, false, []⟩, ⟨some 13, false, .len (.t 12), none, false, []⟩, ⟨some 14, false, .bin .neq (.t 13) (.c (.int .i64 3)), none, false, []⟩] [0, 4, 14] [4]) (.cond (.t 14) (.seq (.reg false [⟨some 2, false, .asg (.c (.int .i64 0)), none, false, []⟩, ⟨some 3, false, .asg (.c (.bool false)), none, false, []⟩] [2, 3] []) .ret) .skip)) (.seq (.reg false [⟨some 5, true, .alloc 3 (.agg [.int .i64 0, .int .i64 0, .int .i64 0]), none, false, []⟩] [0, 4, 5] [4, 5]) (.seq (.seq (.reg false [⟨some 15, false, .mv (.t 4), none, false, []⟩, ⟨some 16, false, .len (.t 15), none, false, []⟩, ⟨some 17, false, .mv (.c (.int .i64 0)), none, false, []⟩] [0, 5, 15, 16, 17] [4, 5]) (.block 0 (.loop impl_ReadDate_k1))) impl_ReadDate_k2))))) }
noncomputable def impl_ReadDate_D : List (Nat × Callee) := [(260, impl_DateText_c), (262, impl_DayNumber_c), (673, impl_digitsOf_c), (683, strings_Split_c)]
def impl_ReadDate_H : List (Nat × ET) := [(4, (.one .str)), (11, (.one .str)), (12, (.one .str)), (15, (.one .str))]
noncomputable def impl_ReadDate_c : Callee := mkCallee impl_ReadDate_D impl_ReadDate_H impl_ReadDate_ir [.d (.one .str)] [.d (.one (.int .i64)), .d (.one .bool)] []
noncomputable def impl_ReadDate (a0 : List UInt8) : Option (Int × Bool) := impl_ReadDate_c.f (a0, ())
noncomputable def impl_ReadDate_p0  (v0 : List UInt8) (v16 : Int) (v17 : Int) (r4 : List (List UInt8)) (r5_0 : Int) (r5_1 : Int) (r5_2 : Int) : Option (Int × Bool) :=
 goL impl_ReadDate_D impl_ReadDate_H (vleave impl_ReadDate_ir [.d (.one .str)] [.d (.one (.int .i64)), .d (.one .bool)] [] []) [.c impl_ReadDate_k0, .l impl_ReadDate_k1, .e 0, .c impl_ReadDate_k2]
  ⟨[(0, .str v0), (5, .loc 5 0 0), (15, .view 4 0 r4.length), (16, .int .i64 v16), (17, .int .i64 v17)], [(4, some (.sl (.one .str) r4)), (5, some (.var 3 (.agg [.int .i64 r5_0, .int .i64 r5_1, .int .i64 r5_2])))]⟩
theorem impl_ReadDate_eq (a0 : List UInt8) : impl_ReadDate a0 =
  (strings_Split a0 [45]).bind fun x1 =>
   if ((x1.length : Int) != 3) then
    some (0, false)
   else
    impl_ReadDate_p0 a0 (x1.length : Int) 0 x1 0 0 0 :=
 (mk_f _ _ _ _ _ _ _ 4000).trans (by kernel_rfl)
theorem impl_ReadDate_p0_eq  (v0 : List UInt8) (v16 : Int) (v17 : Int) (r4 : List (List UInt8)) (r5_0 : Int) (r5_1 : Int) (r5_2 : Int) : impl_ReadDate_p0 v0 v16 v17 r4 r5_0 r5_1 r5_2 =
  if decide (v17 < v16) then
   if decide (0 ≤ v17) && decide (v17 < (r4.length : Int)) then
    (r4[v17.toNat]?).bind fun x1 =>
     (impl_digitsOf x1).bind fun x2 =>
      if decide (v17 = 0) then
       impl_ReadDate_p0 v0 v16 (IntKind.i64.wrap (v17 + 1)) r4 x2.1 r5_1 r5_2
      else
       if decide (v17 = 1) then
        impl_ReadDate_p0 v0 v16 (IntKind.i64.wrap (v17 + 1)) r4 r5_0 x2.1 r5_2
       else
        if decide (v17 = 2) then
         impl_ReadDate_p0 v0 v16 (IntKind.i64.wrap (v17 + 1)) r4 r5_0 r5_1 x2.1
        else
         none
   else
    none
  else
   (impl_DayNumber r5_0 r5_1 r5_2).bind fun x3 =>
    if (x3.2 != 0) then
     some (0, false)
    else
     (impl_DateText x3.1).bind fun x4 =>
      if (!(x4 == v0)) then
       some (0, false)
      else
       some (x3.1, true) :=
 (goL_dn _ _ _ 4000 _ _).trans (by kernel_rfl)

/- impl.ReadStack -/
def impl_ReadStack_k0 : C :=
 .seq (.reg true [⟨some 42, false, .mv (.t 4), none, false, [9]⟩, ⟨some 43, false, .ia 1 (.t 42) (.c (.int .i64 0)), none, false, [9]⟩, ⟨some 44, false, .ld none (.t 43), none, false, [9]⟩, ⟨some 45, false, .mv (.t 5), none, false, [9]⟩, ⟨some 46, false, .ia 1 (.t 45) (.c (.int .i64 0)), none, false, [9]⟩, ⟨some 47, false, .ld none (.t 46), none, false, [9]⟩, ⟨some 48, false, .mv (.t 5), none, false, [9]⟩, ⟨some 49, false, .ia 1 (.t 48) (.c (.int .i64 1)), none, false, [9]⟩, ⟨some 50, false, .ld none (.t 49), none, false, [9]⟩, ⟨some 51, false, .mv (.t 7), none, false, [9]⟩, ⟨some 52, false, .build [.str [], .int .i64 0, .int .i64 0, .int .i64 0] [(0, 1, .t 44), (1, 1, .t 47), (2, 1, .t 50), (3, 1, .t 51)], none, false, [9]⟩, ⟨some 9, true, .alloc 4 (.agg [.str [], .int .i64 0, .int .i64 0, .int .i64 0]), none, false, []⟩, ⟨none, true, .sto 4 (.t 9) (.t 52), none, false, []⟩] [0, 2, 9] [2, 9]) (.seq (.seq (.reg false [⟨some 53, false, .ld (some 4) (.t 9), none, false, []⟩, ⟨some 54, false, .call (.c (.fn 412 [])) [.t 53], none, false, []⟩, ⟨some 55, false, .mv (.t 0), none, false, []⟩, ⟨some 56, false, .bin .neq (.t 54) (.t 55), none, false, []⟩] [2, 9, 56] [2, 9]) (.cond (.t 56) (.seq (.reg false [⟨some 57, false, .build [.str [], .int .i64 0, .int .i64 0, .int .i64 0] [], none, false, []⟩, ⟨none, true, .sto 4 (.t 2) (.t 57), none, false, []⟩, ⟨some 3, false, .asg (.c (.bool false)), none, false, []⟩] [2, 3] [2]) .ret) .skip)) (.seq (.reg false [⟨some 58, false, .ld (some 4) (.t 9), none, false, []⟩, ⟨none, true, .sto 4 (.t 2) (.t 58), none, false, []⟩, ⟨some 3, false, .asg (.c (.bool true)), none, false, []⟩] [2, 3] [2]) .ret))
def impl_ReadStack_ir : Fn := { np := 1, io := [], res := [.cell 2 (some 4), .t 3], own := [false, false], body :=
 (.seq (.reg false [⟨some 2, true, .alloc 4 (.agg [.str [], .int .i64 0, .int .i64 0, .int .i64 0]), none, false, []⟩, ⟨some 3, false, .asg (.c (.bool false)), none, false, []⟩] [0, 2] [2]) (.seq (.reg false [⟨some 10, false, .mv (.t 0), none, false, []⟩, ⟨some 11, false, .call (.c (.fn 458 [])) [.t 10], none, false, []⟩, ⟨some 4, true, .asg (.t 11), none, false, []⟩] [0, 2, 4] [2, 4]) (.seq (.seq (.reg false [⟨some 12, false, .mv (.t 4), none, false, []⟩, ⟨some 13, false, .len (.t 12), none, false, []⟩, ⟨some 14, false, .bin .neq (.t 13) (.c (.int .i64 3)), none, false, []⟩] [0, 2, 4, 14] [2, 4]) (.cond (.t 14) (.seq (.reg false [⟨some 15, false, .build [.str [], .int .i64 0, .int .i64 0, .int .i64 0] [], none, false, []⟩, ⟨none, true, .sto 4 (.t 2) (.t 15), none, false, []⟩, ⟨some 3, false, .asg (.c (.bool false)), none, false, []⟩] [2, 3] [2]) .ret) .skip)) (.seq (.reg false [⟨some 17, false, .mv (.t 4), none, false, []⟩, ⟨some 18, false, .ia 1 (.t 17) (.c (.int .i64 1)), none, false, []⟩, ⟨some 19, false, .ld none (.t 18), none, false, []⟩, ⟨some 20, false, .call (.c (.fn 457 [])) [.t 19], none, false, []⟩, ⟨some 16, false, .mv (.t 20), none, false, []⟩, ⟨some 21, false, .ext (.t 16) 0, none, false, []⟩, ⟨some 22, false, .ext (.t 16) 1, none, false, []⟩, ⟨some 5, true, .asg (.t 21), none, false, []⟩, ⟨some 6, false, .asg (.t 22), none, false, []⟩] [0, 2, 4, 5, 6] [2, 4, 5]) (.seq (.reg false [⟨some 24, false, .mv (.t 4), none, false, []⟩, ⟨some 25, false, .ia 1 (.t 24) (.c (.int .i64 2)), none, false, []⟩, ⟨some 26, false, .ld none (.t 25), none, false, []⟩, ⟨some 27, false, .call (.c (.fn 261 [])) [.t 26], none, false, []⟩, ⟨some 23, false, .mv (.t 27), none, false, []⟩, ⟨some 28, false, .ext (.t 23) 0, none, false, []⟩, ⟨some 29, false, .ext (.t 23) 1, none, false, []⟩, ⟨some 7, false, .asg (.t 28), none, false, []⟩, ⟨some 8, false, .asg (.t 29), none, false, []⟩] [0, 2, 4, 5, 6, 7, 8] [2, 4, 5]) (.seq (.seq (.reg false [⟨some 30, false, .mv (.t 6), none, false, []⟩, ⟨some 31, false, .un .not (.t 30), none, false, []⟩, ⟨some 32, false, .mv (.t 31), none, false, []⟩, ⟨some 33, false, .mv (.t 8), some (2, false), false, []⟩, ⟨some 34, false, .un .not (.t 33), some (2, false), false, []⟩, ⟨some 35, false, .pick (.t 32) (.c (.bool true)) (.t 34), none, false, []⟩, ⟨some 36, false, .mv (.t 35), none, false, []⟩, ⟨some 37, false, .mv (.t 5), some (6, false), false, []⟩, ⟨some 38, false, .len (.t 37), some (6, false), false, []⟩, ⟨some 39, false, .bin .neq (.t 38) (.c (.int .i64 2)), some (6, false), false, []⟩, ⟨some 40, false, .pick (.t 36) (.c (.bool true)) (.t 39), none, false, []⟩] [0, 2, 4, 5, 7, 40] [2, 4, 5]) (.cond (.t 40) (.seq (.reg false [⟨some 41, false, .build [.str [], .int .i64 0, .int .i64 0, .int .i64 0] [], none, false, []⟩, ⟨none, true, .sto 4 (.t 2) (.t 41), none, false, []⟩, ⟨some 3, false, .asg (.c (.bool false)), none, false, []⟩] [2, 3] [2]) .ret) .skip)) (.norm [0, 2, 4, 5, 7] [2, 4, 5] impl_ReadStack_k0))))))) }
noncomputable def impl_ReadStack_D : List (Nat × Callee) := [(261, impl_ReadDate_c), (412, impl_StackText_c), (457, impl_ReadList_c), (458, impl_SplitWords_c)]
def impl_ReadStack_H : List (Nat × ET) := [(4, (.one .str)), (5, (.one (.int .i64))), (11, (.one .str)), (12, (.one .str)), (17, (.one .str)), (21, (.one (.int .i64))), (24, (.one .str)), (37, (.one (.int .i64))), (42, (.one .str)), (45, (.one (.int .i64))), (48, (.one (.int .i64)))]
noncomputable def impl_ReadStack_c : Callee := mkCallee impl_ReadStack_D impl_ReadStack_H impl_ReadStack_ir [.d (.one .str)] [.d T_Peg, .d (.one .bool)] []
noncomputable def impl_ReadStack (a0 : List UInt8) : Option (T_Peg.ty × Bool) := impl_ReadStack_c.f (a0, ())
noncomputable def impl_ReadStack_p0  (v0 : List UInt8) (v7 : Int) (r2_0 : List UInt8) (r2_1 : Int) (r2_2 : Int) (r2_3 : Int) (r4 : List (List UInt8)) (r5 : List Int) : Option (T_Peg.ty × Bool) :=
 goL impl_ReadStack_D impl_ReadStack_H (vleave impl_ReadStack_ir [.d (.one .str)] [.d T_Peg, .d (.one .bool)] [] []) [.c impl_ReadStack_k0]
  ⟨[(0, .str v0), (2, .loc 2 0 0), (4, .view 4 0 r4.length), (5, .view 5 0 r5.length), (7, .int .i64 v7)], [(2, some (.var 4 (.agg [.str r2_0, .int .i64 r2_1, .int .i64 r2_2, .int .i64 r2_3]))), (4, some (.sl (.one .str) r4)), (5, some (.sl (.one (.int .i64)) r5))]⟩
theorem impl_ReadStack_eq (a0 : List UInt8) : impl_ReadStack a0 =
  (impl_SplitWords a0).bind fun x1 =>
   if ((x1.length : Int) != 3) then
    some (([], 0, 0, 0, ()), false)
   else
    if decide (1 < (x1.length : Int)) then
     (x1[1]?).bind fun x2 =>
      (impl_ReadList x2).bind fun x3 =>
       if decide (2 < (x1.length : Int)) then
        (x1[2]?).bind fun x4 =>
         (impl_ReadDate x4).bind fun x5 =>
          if (!x3.2) then
           some (([], 0, 0, 0, ()), false)
          else
           if (!x5.2) then
            some (([], 0, 0, 0, ()), false)
           else
            if ((x3.1.length : Int) != 2) then
             some (([], 0, 0, 0, ()), false)
            else
             impl_ReadStack_p0 a0 x5.1 [] 0 0 0 x1 x3.1
       else
        none
    else
     none :=
 (mk_f _ _ _ _ _ _ _ 4000).trans (by kernel_rfl)
theorem impl_ReadStack_p0_eq  (v0 : List UInt8) (v7 : Int) (r2_0 : List UInt8) (r2_1 : Int) (r2_2 : Int) (r2_3 : Int) (r4 : List (List UInt8)) (r5 : List Int) : impl_ReadStack_p0 v0 v7 r2_0 r2_1 r2_2 r2_3 r4 r5 =
  if decide (0 < (r4.length : Int)) then
   (r4[0]?).bind fun x1 =>
    if decide (0 < (r5.length : Int)) then
     (r5[0]?).bind fun x2 =>
      if decide (1 < (r5.length : Int)) then
       (r5[1]?).bind fun x3 =>
        (impl_StackText (x1, x2, x3, v7, ())).bind fun x4 =>
         if (!(x4 == v0)) then
          some (([], 0, 0, 0, ()), false)
         else
          some ((x1, x2, x3, v7, ()), true)
      else
       none
    else
     none
  else
   none :=
 (goL_dn _ _ _ 4000 _ _).trans (by kernel_rfl)

/- laws.b10Has -/
def laws_b10Has_k0 : C :=
 .seq (.seq (.reg false [⟨some 6, false, .mv (.t 5), none, false, []⟩, ⟨some 7, false, .mv (.t 0), none, false, []⟩, ⟨some 8, false, .len (.t 7), none, false, []⟩, ⟨some 9, false, .bin .lss (.t 6) (.t 8), none, false, []⟩] [0, 1, 5, 9] []) (.cond (.t 9) .skip (.exit 0))) (.seq (.block 1 (.seq (.reg false [⟨some 12, false, .mv (.t 0), none, false, []⟩, ⟨some 13, false, .mv (.t 5), none, false, []⟩, ⟨some 14, false, .ia 1 (.t 12) (.t 13), none, false, []⟩, ⟨some 15, false, .ld none (.t 14), none, false, []⟩, ⟨some 16, false, .mv (.t 1), none, false, []⟩, ⟨some 17, false, .bin .eql (.t 15) (.t 16), none, false, []⟩] [0, 1, 5, 17] []) (.cond (.t 17) (.seq (.reg false [⟨some 4, false, .asg (.c (.bool true)), none, false, []⟩] [4] []) .ret) .skip))) (.reg false [⟨some 10, false, .mv (.t 5), none, false, []⟩, ⟨some 11, false, .bin .add (.t 10) (.c (.int .i64 1)), none, false, []⟩, ⟨some 5, false, .asg (.t 11), none, false, []⟩] [0, 1, 5] []))
def laws_b10Has_k1 : C :=
 .norm [0, 1, 5] [] laws_b10Has_k0
def laws_b10Has_k2 : C :=
 .seq (.reg false [⟨some 4, false, .asg (.c (.bool false)), none, false, []⟩] [4] []) .ret
def laws_b10Has_ir : Fn := { np := 2, io := [], res := [.t 4], own := [false], body :=
 (.seq (.reg false [⟨some 4, false, .asg (.c (.bool false)), none, false, []⟩] [0, 1] []) (.seq (.seq (.reg false [⟨some 5, false, .asg (.c (.int .i64 0)), none, false, []⟩] [0, 1, 5] []) (.block 0 (.loop laws_b10Has_k1))) laws_b10Has_k2)) }
noncomputable def laws_b10Has_D : List (Nat × Callee) := []
def laws_b10Has_H : List (Nat × ET) := [(7, (.one (.int .i64))), (12, (.one (.int .i64)))]
noncomputable def laws_b10Has_c : Callee := mkCallee laws_b10Has_D laws_b10Has_H laws_b10Has_ir [.d (.one (.sl (.one (.int .i64)))), .d (.one (.int .i64))] [.d (.one .bool)] []
noncomputable def laws_b10Has (a0 : List Int) (a1 : Int) : Option (Bool) := laws_b10Has_c.f (a0, a1, ())
noncomputable def laws_b10Has_p0  (v0 : List Int) (v1 : Int) (v5 : Int) : Option (Bool) :=
 goL laws_b10Has_D laws_b10Has_H (vleave laws_b10Has_ir [.d (.one (.sl (.one (.int .i64)))), .d (.one (.int .i64))] [.d (.one .bool)] [] []) [.c laws_b10Has_k0, .l laws_b10Has_k1, .e 0, .c laws_b10Has_k2]
  ⟨[(0, .sl (.one (.int .i64)) v0), (1, .int .i64 v1), (5, .int .i64 v5)], []⟩
theorem laws_b10Has_eq (a0 : List Int) (a1 : Int) : laws_b10Has a0 a1 =
  laws_b10Has_p0 a0 a1 0 :=
 (mk_f _ _ _ _ _ _ _ 4000).trans (by kernel_rfl)
theorem laws_b10Has_p0_eq  (v0 : List Int) (v1 : Int) (v5 : Int) : laws_b10Has_p0 v0 v1 v5 =
  if decide (v5 < (v0.length : Int)) then
   if decide (0 ≤ v5) then
    (v0[v5.toNat]?).bind fun x1 =>
     if (x1 == v1) then
      some true
     else
      laws_b10Has_p0 v0 v1 (IntKind.i64.wrap (v5 + 1))
   else
    none
  else
   some false :=
 (goL_dn _ _ _ 4000 _ _).trans (by kernel_rfl)

/- spec.DrawOldestStack -/
def spec_DrawOldestStack_ir : Fn := { np := 1, io := [], res := [.t 2, .t 3], own := [true, false], body :=
 (.seq (.reg false [⟨some 2, true, .asg (.c (.nils 4)), none, false, []⟩, ⟨some 3, false, .asg (.c (.int .i64 0)), none, false, []⟩] [0] []) (.seq (.reg false [⟨some 6, false, .mv (.t 0), none, false, []⟩, ⟨some 7, true, .call (.c (.fn 441 [])) [.t 6], none, false, []⟩, ⟨some 4, false, .asg (.t 7), none, false, []⟩] [4] [7, 8000]) (.seq (.reg false [⟨some 8, false, .mv (.t 4), none, false, []⟩, ⟨some 9, true, .call (.c (.fn 821 [])) [.t 8], none, false, []⟩, ⟨some 5, true, .asg (.t 9), none, false, []⟩] [4, 5] [5, 7, 8000]) (.seq (.seq (.reg false [⟨some 10, false, .mv (.t 4), none, false, []⟩, ⟨some 11, true, .call (.c (.fn 642 [])) [.t 10, .c (.int .i64 6)], none, false, []⟩] [4, 5, 11] [5, 7, 8000]) (.cond (.t 11) (.seq (.reg false [⟨some 12, false, .mv (.t 5), none, false, []⟩, ⟨some 13, false, .mv (.t 4), none, false, []⟩, ⟨some 14, false, .bsl 1 (.int .i64 0) 4 [(0, .c (.int .i64 (-1))), (1, .c (.int .i64 0)), (2, .c (.int .i64 36524)), (3, .c (.int .i64 36525))], none, false, []⟩, ⟨some 15, true, .call (.c (.fn 445 [])) [.t 13, .t 14], none, false, []⟩, ⟨some 2, true, .asg (.t 12), none, false, []⟩, ⟨some 3, false, .asg (.t 15), none, false, []⟩] [2, 3] [2, 5]) .ret) .skip)) (.seq (.reg false [⟨some 16, false, .mv (.t 5), none, false, []⟩, ⟨some 17, false, .mv (.t 4), none, false, []⟩, ⟨some 18, true, .call (.c (.fn 463 [])) [.t 17, .c (.int .i64 1500)], none, false, []⟩, ⟨some 19, false, .bin .add (.c (.int .i64 8000)) (.t 18), none, false, []⟩, ⟨some 2, true, .asg (.t 16), none, false, []⟩, ⟨some 3, false, .asg (.t 19), none, false, []⟩] [2, 3] [2, 5]) .ret))))) }
noncomputable def spec_DrawOldestStack_D : List (Nat × Callee) := [(441, spec_l00From_c), (445, spec_l00Src_among_c), (463, spec_l00Src_pick_c), (642, spec_l00Src_one_c), (821, spec_l04Draw_c)]
def spec_DrawOldestStack_H : List (Nat × ET) := [(2, T_Peg), (5, T_Peg), (6, (.one (.int .u8))), (9, T_Peg), (12, T_Peg), (14, (.one (.int .i64))), (16, T_Peg)]
noncomputable def spec_DrawOldestStack_c : Callee := mkCallee spec_DrawOldestStack_D spec_DrawOldestStack_H spec_DrawOldestStack_ir [.d (.one (.sl (.one (.int .u8))))] [.tok T_Peg, .d (.one (.int .i64))] []
noncomputable def spec_DrawOldestStack (a0 : List Int) : Option (List T_Peg.ty × Int) := spec_DrawOldestStack_c.f (a0, ())
theorem spec_DrawOldestStack_eq (a0 : List Int) : spec_DrawOldestStack a0 =
  (spec_l00From a0).bind fun x1 =>
   (spec_l04Draw x1).bind fun x2 =>
    (spec_l00Src_one (x2.2.1, x2.2.2.1, x2.2.2.2.1, ()) 6).bind fun x3 =>
     if x3.1 then
      (spec_l00Src_among (x3.2.1, x3.2.2.1, x3.2.2.2.1, ()) [(-1), 0, 36524, 36525]).bind fun x4 =>
       some ((x2.1.take x2.1.length), x4.1)
     else
      (spec_l00Src_pick (x3.2.1, x3.2.2.1, x3.2.2.2.1, ()) 1500).bind fun x5 =>
       some ((x2.1.take x2.1.length), IntKind.i64.wrap (8000 + x5.1)) :=
 (mk_f _ _ _ _ _ _ _ 4000).trans (by kernel_rfl)

/- impl.OldestStack -/
def impl_OldestStack_k0 : C :=
 .seq (.reg false [⟨some 28, false, .bin .lss (.t 27) (.t 26), none, false, []⟩] [1, 7, 25, 26, 27, 28] [7]) (.seq (.cond (.t 28) .skip (.exit 1)) (.seq (.block 2 (.seq (.reg false [⟨some 29, false, .ia 4 (.t 25) (.t 27), none, false, []⟩, ⟨some 30, false, .ld (some 4) (.t 29), none, false, []⟩, ⟨some 9, true, .alloc 4 (.agg [.str [], .int .i64 0, .int .i64 0, .int .i64 0]), none, false, []⟩, ⟨none, true, .sto 4 (.t 9) (.t 30), none, false, []⟩] [1, 7, 9, 25, 26, 27] [7, 9]) (.seq (.reg false [⟨some 31, false, .fa 3 (.t 9), none, false, []⟩, ⟨some 32, false, .ld none (.t 31), none, false, []⟩, ⟨some 33, false, .fa 3 (.t 7), none, false, []⟩, ⟨some 34, false, .ld none (.t 33), none, false, []⟩, ⟨some 35, false, .bin .lss (.t 32) (.t 34), none, false, []⟩] [1, 7, 9, 25, 26, 27, 35] [7, 9]) (.cond (.t 35) (.reg false [⟨some 36, false, .ld (some 4) (.t 9), none, false, []⟩, ⟨none, true, .sto 4 (.t 7) (.t 36), none, false, []⟩] [1, 7, 25, 26, 27] [7]) .skip)))) (.reg false [⟨some 37, false, .bin .add (.t 27) (.c (.int .i64 1)), none, false, []⟩, ⟨some 27, false, .mv (.t 37), none, false, []⟩] [1, 7, 25, 26, 27] [7])))
def impl_OldestStack_k1 : C :=
 .norm [1, 7, 25, 26, 27] [7] impl_OldestStack_k0
def impl_OldestStack_k2 : C :=
 .seq (.seq (.reg false [⟨some 38, false, .fa 3 (.t 7), none, false, []⟩, ⟨some 39, false, .ld none (.t 38), none, false, []⟩, ⟨some 40, false, .mv (.t 1), none, false, []⟩, ⟨some 41, false, .bin .gtr (.t 39) (.t 40), none, false, []⟩] [1, 7, 41] [7]) (.cond (.t 41) (.seq (.reg false [⟨some 4, false, .asg (.c (.str [])), none, false, []⟩, ⟨some 5, false, .asg (.c (.int .i64 0)), none, false, []⟩, ⟨some 6, false, .asg (.c (.int .i64 6)), none, false, []⟩] [4, 5, 6] []) .ret) .skip)) (.seq (.reg true [⟨some 42, false, .fa 0 (.t 7), none, false, []⟩, ⟨some 43, false, .ld none (.t 42), none, false, []⟩, ⟨some 44, false, .mv (.t 1), none, false, []⟩, ⟨some 45, false, .fa 3 (.t 7), none, false, []⟩, ⟨some 46, false, .ld none (.t 45), none, false, []⟩, ⟨some 47, false, .bin .sub (.t 44) (.t 46), none, false, []⟩, ⟨some 4, false, .asg (.t 43), none, false, []⟩, ⟨some 5, false, .asg (.t 47), none, false, []⟩, ⟨some 6, false, .asg (.c (.int .i64 0)), none, false, []⟩] [4, 5, 6] []) .ret)
def impl_OldestStack_ir : Fn := { np := 2, io := [], res := [.t 4, .t 5, .t 6], own := [false, false, false], body :=
 (.seq (.reg false [⟨some 4, false, .asg (.c (.str [])), none, false, []⟩, ⟨some 5, false, .asg (.c (.int .i64 0)), none, false, []⟩, ⟨some 6, false, .asg (.c (.int .i64 0)), none, false, []⟩] [0, 1] []) (.seq (.block 0 (.seq (.reg false [⟨some 11, false, .mv (.t 0), none, false, []⟩, ⟨some 12, false, .call (.c (.fn 713 [])) [.t 11], none, false, []⟩, ⟨some 13, false, .un .not (.t 12), none, false, []⟩, ⟨some 10, false, .asg (.t 13), none, false, []⟩] [0, 1, 10] []) (.cond (.t 10) (.seq (.reg false [⟨some 4, false, .asg (.c (.str [])), none, false, []⟩, ⟨some 5, false, .asg (.c (.int .i64 0)), none, false, []⟩, ⟨some 6, false, .asg (.c (.int .i64 1)), none, false, []⟩] [4, 5, 6] []) .ret) (.seq (.reg false [⟨some 15, false, .mv (.t 1), none, false, []⟩, ⟨some 16, false, .call (.c (.fn 682 [])) [.t 15], none, false, []⟩, ⟨some 17, false, .un .not (.t 16), none, false, []⟩, ⟨some 14, false, .asg (.t 17), none, false, []⟩] [0, 1, 14] []) (.cond (.t 14) (.seq (.reg false [⟨some 4, false, .asg (.c (.str [])), none, false, []⟩, ⟨some 5, false, .asg (.c (.int .i64 0)), none, false, []⟩, ⟨some 6, false, .asg (.c (.int .i64 2)), none, false, []⟩] [4, 5, 6] []) .ret) (.seq (.reg false [⟨some 19, false, .mv (.t 0), none, false, []⟩, ⟨some 20, false, .len (.t 19), none, false, []⟩, ⟨some 21, false, .bin .eql (.t 20) (.c (.int .i64 0)), none, false, []⟩, ⟨some 18, false, .asg (.t 21), none, false, []⟩] [0, 1, 18] []) (.cond (.t 18) (.seq (.reg false [⟨some 4, false, .asg (.c (.str [])), none, false, []⟩, ⟨some 5, false, .asg (.c (.int .i64 0)), none, false, []⟩, ⟨some 6, false, .asg (.c (.int .i64 3)), none, false, []⟩] [4, 5, 6] []) .ret) .skip))))))) (.seq (.reg false [⟨some 22, false, .mv (.t 0), none, false, []⟩, ⟨some 23, false, .ia 4 (.t 22) (.c (.int .i64 0)), none, false, []⟩, ⟨some 24, false, .ld (some 4) (.t 23), none, false, []⟩, ⟨some 7, true, .alloc 4 (.agg [.str [], .int .i64 0, .int .i64 0, .int .i64 0]), none, false, []⟩, ⟨none, true, .sto 4 (.t 7) (.t 24), none, false, []⟩] [0, 1, 7] [7]) (.seq (.seq (.reg false [⟨some 25, false, .mv (.t 0), none, false, []⟩, ⟨some 26, false, .len (.t 25), none, false, []⟩, ⟨some 27, false, .mv (.c (.int .i64 0)), none, false, []⟩] [1, 7, 25, 26, 27] [7]) (.block 1 (.loop impl_OldestStack_k1))) impl_OldestStack_k2)))) }
noncomputable def impl_OldestStack_D : List (Nat × Callee) := [(682, impl_isDay_c), (713, impl_ValidStacks_c)]
def impl_OldestStack_H : List (Nat × ET) := [(11, T_Peg), (19, T_Peg), (22, T_Peg), (25, T_Peg)]
noncomputable def impl_OldestStack_c : Callee := mkCallee impl_OldestStack_D impl_OldestStack_H impl_OldestStack_ir [.d (.one (.sl T_Peg)), .d (.one (.int .i64))] [.d (.one .str), .d (.one (.int .i64)), .d (.one (.int .i64))] []
noncomputable def impl_OldestStack (a0 : List T_Peg.ty) (a1 : Int) : Option (List UInt8 × Int × Int) := impl_OldestStack_c.f (a0, a1, ())
noncomputable def impl_OldestStack_p0  (v1 : Int) (v25 : List T_Peg.ty) (v26 : Int) (v27 : Int) (r7_0 : List UInt8) (r7_1 : Int) (r7_2 : Int) (r7_3 : Int) : Option (List UInt8 × Int × Int) :=
 goL impl_OldestStack_D impl_OldestStack_H (vleave impl_OldestStack_ir [.d (.one (.sl T_Peg)), .d (.one (.int .i64))] [.d (.one .str), .d (.one (.int .i64)), .d (.one (.int .i64))] [] []) [.c impl_OldestStack_k0, .l impl_OldestStack_k1, .e 1, .c impl_OldestStack_k2]
  ⟨[(1, .int .i64 v1), (7, .loc 7 0 0), (25, .sl T_Peg v25), (26, .int .i64 v26), (27, .int .i64 v27)], [(7, some (.var 4 (.agg [.str r7_0, .int .i64 r7_1, .int .i64 r7_2, .int .i64 r7_3])))]⟩
theorem impl_OldestStack_eq (a0 : List T_Peg.ty) (a1 : Int) : impl_OldestStack a0 a1 =
  (impl_ValidStacks a0).bind fun x1 =>
   if (!x1) then
    some ([], 0, 1)
   else
    (impl_isDay a1).bind fun x2 =>
     if (!x2) then
      some ([], 0, 2)
     else
      if ((a0.length : Int) == 0) then
       some ([], 0, 3)
      else
       (a0[0]?).bind fun x3 =>
        impl_OldestStack_p0 a1 a0 (a0.length : Int) 0 x3.1 x3.2.1 x3.2.2.1 x3.2.2.2.1 :=
 (mk_f _ _ _ _ _ _ _ 4000).trans (by kernel_rfl)
theorem impl_OldestStack_p0_eq  (v1 : Int) (v25 : List T_Peg.ty) (v26 : Int) (v27 : Int) (r7_0 : List UInt8) (r7_1 : Int) (r7_2 : Int) (r7_3 : Int) : impl_OldestStack_p0 v1 v25 v26 v27 r7_0 r7_1 r7_2 r7_3 =
  if decide (v27 < v26) then
   if decide (0 ≤ v27) then
    (v25[v27.toNat]?).bind fun x1 =>
     if decide (x1.2.2.2.1 < r7_3) then
      impl_OldestStack_p0 v1 v25 v26 (IntKind.i64.wrap (v27 + 1)) x1.1 x1.2.1 x1.2.2.1 x1.2.2.2.1
     else
      impl_OldestStack_p0 v1 v25 v26 (IntKind.i64.wrap (v27 + 1)) r7_0 r7_1 r7_2 r7_3
   else
    none
  else
   if decide (r7_3 > v1) then
    some ([], 0, 6)
   else
    some (r7_0, IntKind.i64.wrap (v1 - r7_3), 0) :=
 (goL_dn _ _ _ 4000 _ _).trans (by kernel_rfl)

/- spec.DrawShrunkTo -/
def spec_DrawShrunkTo_ir : Fn := { np := 1, io := [], res := [.t 2, .t 3, .t 4, .t 5], own := [false, false, false, false], body :=
 (.seq (.reg false [⟨some 2, false, .asg (.c (.int .i64 0)), none, false, []⟩, ⟨some 3, false, .asg (.c (.int .i64 0)), none, false, []⟩, ⟨some 4, false, .asg (.c (.int .i64 0)), none, false, []⟩, ⟨some 5, false, .asg (.c (.int .i64 0)), none, false, []⟩] [0] []) (.seq (.reg false [⟨some 10, false, .mv (.t 0), none, false, []⟩, ⟨some 11, true, .call (.c (.fn 441 [])) [.t 10], none, false, []⟩, ⟨some 6, false, .asg (.t 11), none, false, []⟩] [6] [11, 12000]) (.seq (.reg false [⟨some 12, false, .mv (.t 6), none, false, []⟩, ⟨some 13, false, .bsl 1 (.int .i64 0) 6 [(0, .c (.int .i64 0)), (1, .c (.int .i64 1)), (2, .c (.int .i64 1200)), (3, .c (.int .i64 2100)), (4, .c (.int .i64 100000)), (5, .c (.int .i64 100001))], none, false, []⟩, ⟨some 14, true, .call (.c (.fn 445 [])) [.t 12, .t 13], none, false, []⟩, ⟨some 7, false, .asg (.t 14), none, false, []⟩] [6, 7] [11, 12000]) (.seq (.reg false [⟨some 15, false, .mv (.t 6), none, false, []⟩, ⟨some 16, true, .call (.c (.fn 479 [])) [.t 15], none, false, []⟩, ⟨some 8, false, .asg (.t 16), none, false, []⟩] [6, 7, 8] [11, 12000]) (.seq (.reg false [⟨some 17, false, .mv (.t 6), none, false, []⟩, ⟨some 18, true, .call (.c (.fn 487 [])) [.t 17], none, false, []⟩, ⟨some 9, false, .asg (.t 18), none, false, []⟩] [6, 7, 8, 9] [11, 12000]) (.seq (.reg false [⟨some 19, false, .mv (.t 7), none, false, []⟩, ⟨some 20, false, .mv (.t 8), none, false, []⟩, ⟨some 21, false, .mv (.t 9), none, false, []⟩, ⟨some 22, false, .mv (.t 6), none, false, []⟩, ⟨some 23, false, .bsl 1 (.int .i64 0) 6 [(0, .c (.int .i64 0)), (1, .c (.int .i64 40)), (2, .c (.int .i64 80)), (3, .c (.int .i64 1000)), (4, .c (.int .i64 1001)), (5, .c (.int .i64 (-1)))], none, false, []⟩, ⟨some 24, true, .call (.c (.fn 445 [])) [.t 22, .t 23], none, false, []⟩, ⟨some 2, false, .asg (.t 19), none, false, []⟩, ⟨some 3, false, .asg (.t 20), none, false, []⟩, ⟨some 4, false, .asg (.t 21), none, false, []⟩, ⟨some 5, false, .asg (.t 24), none, false, []⟩] [2, 3, 4, 5] []) .ret)))))) }
noncomputable def spec_DrawShrunkTo_D : List (Nat × Callee) := [(441, spec_l00From_c), (445, spec_l00Src_among_c), (479, spec_l04DrawShare_c), (487, spec_l04DrawGoal_c)]
def spec_DrawShrunkTo_H : List (Nat × ET) := [(10, (.one (.int .u8))), (13, (.one (.int .i64))), (23, (.one (.int .i64)))]
noncomputable def spec_DrawShrunkTo_c : Callee := mkCallee spec_DrawShrunkTo_D spec_DrawShrunkTo_H spec_DrawShrunkTo_ir [.d (.one (.sl (.one (.int .u8))))] [.d (.one (.int .i64)), .d (.one (.int .i64)), .d (.one (.int .i64)), .d (.one (.int .i64))] []
noncomputable def spec_DrawShrunkTo (a0 : List Int) : Option (Int × Int × Int × Int) := spec_DrawShrunkTo_c.f (a0, ())
theorem spec_DrawShrunkTo_eq (a0 : List Int) : spec_DrawShrunkTo a0 =
  (spec_l00From a0).bind fun x1 =>
   (spec_l00Src_among x1 [0, 1, 1200, 2100, 100000, 100001]).bind fun x2 =>
    (spec_l04DrawShare (x2.2.1, x2.2.2.1, x2.2.2.2.1, ())).bind fun x3 =>
     (spec_l04DrawGoal (x3.2.1, x3.2.2.1, x3.2.2.2.1, ())).bind fun x4 =>
      (spec_l00Src_among (x4.2.1, x4.2.2.1, x4.2.2.2.1, ()) [0, 40, 80, 1000, 1001, (-1)]).bind fun x5 =>
       some (x2.1, x3.1, x4.1, x5.1) :=
 (mk_f _ _ _ _ _ _ _ 4000).trans (by kernel_rfl)

/- impl.ShrunkTo -/
def impl_ShrunkTo_k0 : C :=
 .seq (.reg false [⟨some 28, false, .mv (.t 0), none, false, []⟩, ⟨some 29, false, .mv (.t 0), none, false, []⟩, ⟨some 30, false, .mv (.t 1), none, false, []⟩, ⟨some 31, false, .min [.t 30, .c (.int .i64 280)], none, false, []⟩, ⟨some 32, false, .mv (.t 2), none, false, []⟩, ⟨some 33, false, .min [.t 32, .c (.int .i64 280)], none, false, []⟩, ⟨some 34, false, .bin .sub (.t 31) (.t 33), none, false, []⟩, ⟨some 35, false, .bin .mul (.t 29) (.t 34), none, false, []⟩, ⟨some 36, false, .mv (.t 3), none, false, []⟩, ⟨some 37, false, .bin .mul (.t 35) (.t 36), none, false, []⟩, ⟨some 38, false, .call (.c (.fn 27 [])) [.t 37, .c (.int .i64 280000)], none, false, []⟩, ⟨some 39, false, .bin .sub (.t 28) (.t 38), none, false, []⟩, ⟨some 8, false, .asg (.t 39), none, false, []⟩, ⟨some 9, false, .asg (.c (.int .i64 0)), none, false, []⟩] [8, 9] []) .ret
def impl_ShrunkTo_ir : Fn := { np := 4, io := [], res := [.t 8, .t 9], own := [false, false], body :=
 (.seq (.reg false [⟨some 8, false, .asg (.c (.int .i64 0)), none, false, []⟩, ⟨some 9, false, .asg (.c (.int .i64 0)), none, false, []⟩] [0, 1, 2, 3] []) (.seq (.seq (.reg false [⟨some 10, false, .mv (.t 0), none, false, []⟩, ⟨some 11, false, .call (.c (.fn 23 [])) [.t 10, .c (.int .i64 1), .c (.int .i64 100000)], none, false, []⟩, ⟨some 12, false, .un .not (.t 11), none, false, []⟩, ⟨some 13, false, .mv (.t 12), none, false, []⟩, ⟨some 14, false, .mv (.t 1), some (3, false), false, []⟩, ⟨some 15, false, .call (.c (.fn 483 [])) [.t 14], some (3, false), false, []⟩, ⟨some 16, false, .un .not (.t 15), some (3, false), false, []⟩, ⟨some 17, false, .pick (.t 13) (.c (.bool true)) (.t 16), none, false, []⟩, ⟨some 18, false, .mv (.t 17), none, false, []⟩, ⟨some 19, false, .mv (.t 2), some (8, false), false, []⟩, ⟨some 20, false, .call (.c (.fn 483 [])) [.t 19], some (8, false), false, []⟩, ⟨some 21, false, .un .not (.t 20), some (8, false), false, []⟩, ⟨some 22, false, .pick (.t 18) (.c (.bool true)) (.t 21), none, false, []⟩, ⟨some 23, false, .mv (.t 22), none, false, []⟩, ⟨some 24, false, .mv (.t 3), some (13, false), false, []⟩, ⟨some 25, false, .call (.c (.fn 483 [])) [.t 24], some (13, false), false, []⟩, ⟨some 26, false, .un .not (.t 25), some (13, false), false, []⟩, ⟨some 27, false, .pick (.t 23) (.c (.bool true)) (.t 26), none, false, []⟩] [0, 1, 2, 3, 27] []) (.cond (.t 27) (.seq (.reg false [⟨some 8, false, .asg (.c (.int .i64 0)), none, false, []⟩, ⟨some 9, false, .asg (.c (.int .i64 2)), none, false, []⟩] [8, 9] []) .ret) .skip)) (.norm [0, 1, 2, 3] [] impl_ShrunkTo_k0))) }
noncomputable def impl_ShrunkTo_D : List (Nat × Callee) := [(23, impl_within_c), (27, impl_divRound_c), (483, impl_isPart_c)]
def impl_ShrunkTo_H : List (Nat × ET) := []
noncomputable def impl_ShrunkTo_c : Callee := mkCallee impl_ShrunkTo_D impl_ShrunkTo_H impl_ShrunkTo_ir [.d (.one (.int .i64)), .d (.one (.int .i64)), .d (.one (.int .i64)), .d (.one (.int .i64))] [.d (.one (.int .i64)), .d (.one (.int .i64))] []
noncomputable def impl_ShrunkTo (a0 : Int) (a1 : Int) (a2 : Int) (a3 : Int) : Option (Int × Int) := impl_ShrunkTo_c.f (a0, a1, a2, a3, ())
noncomputable def impl_ShrunkTo_p0  (v0 : Int) (v1 : Int) (v2 : Int) (v3 : Int) : Option (Int × Int) :=
 goL impl_ShrunkTo_D impl_ShrunkTo_H (vleave impl_ShrunkTo_ir [.d (.one (.int .i64)), .d (.one (.int .i64)), .d (.one (.int .i64)), .d (.one (.int .i64))] [.d (.one (.int .i64)), .d (.one (.int .i64))] [] []) [.c impl_ShrunkTo_k0]
  ⟨[(0, .int .i64 v0), (1, .int .i64 v1), (2, .int .i64 v2), (3, .int .i64 v3)], []⟩
theorem impl_ShrunkTo_eq (a0 : Int) (a1 : Int) (a2 : Int) (a3 : Int) : impl_ShrunkTo a0 a1 a2 a3 =
  (impl_within a0 1 100000).bind fun x1 =>
   if (!x1) then
    some (0, 2)
   else
    (impl_isPart a1).bind fun x2 =>
     if (!x2) then
      some (0, 2)
     else
      (impl_isPart a2).bind fun x3 =>
       if (!x3) then
        some (0, 2)
       else
        (impl_isPart a3).bind fun x4 =>
         if (!x4) then
          some (0, 2)
         else
          impl_ShrunkTo_p0 a0 a1 a2 a3 :=
 (mk_f _ _ _ _ _ _ _ 4000).trans (by kernel_rfl)
theorem impl_ShrunkTo_p0_eq  (v0 : Int) (v1 : Int) (v2 : Int) (v3 : Int) : impl_ShrunkTo_p0 v0 v1 v2 v3 =
  (impl_divRound (IntKind.i64.wrap ((IntKind.i64.wrap (v0 * (IntKind.i64.wrap ((if 280 < v1 then 280 else v1) - (if 280 < v2 then 280 else v2))))) * v3)) 280000).bind fun x1 =>
   some (IntKind.i64.wrap (v0 - x1), 0) :=
 (goL_dn _ _ _ 4000 _ _).trans (by kernel_rfl)

/- laws.b10Div -/
def laws_b10Div_ir : Fn := { np := 2, io := [], res := [.t 4], own := [false], body :=
 (.seq (.reg false [⟨some 4, false, .asg (.c (.int .i64 0)), none, false, []⟩] [0, 1] []) (.seq (.seq (.reg false [⟨some 5, false, .mv (.t 0), none, false, []⟩, ⟨some 6, false, .bin .lss (.t 5) (.c (.int .i64 0)), none, false, []⟩] [0, 1, 6] []) (.cond (.t 6) (.seq (.reg false [⟨some 7, false, .mv (.t 0), none, false, []⟩, ⟨some 8, false, .un .neg (.t 7), none, false, []⟩, ⟨some 9, false, .mv (.t 1), none, false, []⟩, ⟨some 10, false, .call (.c (.fn 90 [])) [.t 8, .t 9], none, false, []⟩, ⟨some 11, false, .un .neg (.t 10), none, false, []⟩, ⟨some 4, false, .asg (.t 11), none, false, []⟩] [4] []) .ret) .skip)) (.seq (.reg false [⟨some 12, false, .mv (.t 0), none, false, []⟩, ⟨some 13, false, .bin .mul (.c (.int .i64 2)) (.t 12), none, false, []⟩, ⟨some 14, false, .mv (.t 1), none, false, []⟩, ⟨some 15, false, .bin .add (.t 13) (.t 14), none, false, []⟩, ⟨some 16, false, .mv (.t 1), none, false, []⟩, ⟨some 17, false, .bin .mul (.c (.int .i64 2)) (.t 16), none, false, []⟩, ⟨some 18, false, .bin .quo (.t 15) (.t 17), none, false, []⟩, ⟨some 4, false, .asg (.t 18), none, false, []⟩] [4] []) .ret))) }
def laws_b10Div_H : List (Nat × ET) := []
noncomputable def laws_b10Div_F : Nat → tysU [.d (.one (.int .i64)), .d (.one (.int .i64))] → Option (tys1 ([.d (.one (.int .i64))] ++ []))
 | 0 => fun _ => none
 | n + 1 => (mkCallee [(90, ⟨[], [.d (.one (.int .i64)), .d (.one (.int .i64))], [.d (.one (.int .i64))], [], laws_b10Div_F n⟩)] laws_b10Div_H laws_b10Div_ir [.d (.one (.int .i64)), .d (.one (.int .i64))] [.d (.one (.int .i64))] []).f
noncomputable def laws_b10Div_D (n : Nat) : List (Nat × Callee) := [(90, ⟨[], [.d (.one (.int .i64)), .d (.one (.int .i64))], [.d (.one (.int .i64))], [], laws_b10Div_F n⟩)]
noncomputable def laws_b10Div_c : Callee := ⟨[], [.d (.one (.int .i64)), .d (.one (.int .i64))], [.d (.one (.int .i64))], [], laws_b10Div_F 1000⟩
noncomputable def laws_b10Div_N (n : Nat) : Callee := ⟨[], [.d (.one (.int .i64)), .d (.one (.int .i64))], [.d (.one (.int .i64))], [], laws_b10Div_F n⟩
theorem laws_b10Div_N_eq (n : Nat) : laws_b10Div_N (n + 1) = mkCallee (laws_b10Div_D n) laws_b10Div_H laws_b10Div_ir [.d (.one (.int .i64)), .d (.one (.int .i64))] [.d (.one (.int .i64))] [] := rfl
noncomputable def laws_b10Div (n : Nat) (a0 : Int) (a1 : Int) : Option (Int) := laws_b10Div_F n (a0, a1, ())
theorem laws_b10Div_eq (n : Nat) (a0 : Int) (a1 : Int) : laws_b10Div (n + 1) a0 a1 =
  if decide (a0 < 0) then
   (laws_b10Div n (IntKind.i64.wrap (0 - a0)) a1).bind fun x1 =>
    some (IntKind.i64.wrap (0 - x1))
  else
   if decide (IntKind.i64.wrap (2 * a1) = 0) then
    none
   else
    some (IntKind.i64.wrap ((IntKind.i64.wrap ((IntKind.i64.wrap (2 * a0)) + a1)).tdiv (IntKind.i64.wrap (2 * a1)))) :=
 (mk_f (laws_b10Div_D n) laws_b10Div_H laws_b10Div_ir [.d (.one (.int .i64)), .d (.one (.int .i64))] [.d (.one (.int .i64))] [] (a0, a1, ()) 4000).trans (by kernel_rfl)

/- laws.FnStacks -/
def laws_FnStacks_k0 : C :=
 .seq (.seq (.reg false [⟨some 124, false, .mv (.t 22), none, false, []⟩, ⟨some 125, false, .mv (.t 16), none, false, []⟩, ⟨some 126, false, .len (.t 125), none, false, []⟩, ⟨some 127, false, .bin .lss (.t 124) (.t 126), none, false, []⟩] [0, 1, 16, 17, 18, 19, 20, 22, 127] [16, 20]) (.cond (.t 127) .skip (.exit 0))) (.seq (.block 1 (.seq (.reg true [⟨some 131, false, .mv (.t 16), none, false, []⟩, ⟨some 132, false, .mv (.t 22), none, false, []⟩, ⟨some 133, false, .ia 4 (.t 131) (.t 132), none, false, []⟩, ⟨some 134, false, .ld (some 4) (.t 133), none, false, []⟩, ⟨some 135, false, .mv (.t 17), none, false, []⟩, ⟨some 136, false, .mv (.t 18), none, false, []⟩, ⟨some 137, false, .mv (.t 16), none, false, []⟩, ⟨some 138, false, .mv (.t 22), none, false, []⟩, ⟨some 139, false, .ia 4 (.t 137) (.t 138), none, false, []⟩, ⟨some 140, false, .fa 3 (.t 139), none, false, []⟩, ⟨some 141, false, .ld none (.t 140), none, false, []⟩, ⟨some 142, false, .bin .sub (.t 136) (.t 141), none, false, []⟩, ⟨some 143, false, .call (.c (.fn 111 [])) [.t 134, .t 135, .t 142], none, false, []⟩, ⟨some 130, false, .mv (.t 143), none, false, []⟩, ⟨some 144, false, .ext (.t 130) 0, none, false, []⟩, ⟨some 145, false, .ext (.t 130) 1, none, false, []⟩, ⟨some 23, false, .asg (.t 144), none, false, []⟩, ⟨some 24, false, .asg (.t 145), none, false, []⟩] [0, 1, 16, 17, 18, 19, 20, 22, 23, 24] [16, 20]) (.seq (.reg false [⟨some 147, false, .mv (.t 16), none, false, []⟩, ⟨some 148, false, .mv (.t 22), none, false, []⟩, ⟨some 149, false, .ia 4 (.t 147) (.t 148), none, false, []⟩, ⟨some 150, false, .ld (some 4) (.t 149), none, false, []⟩, ⟨some 151, false, .call (.c (.fn 412 [])) [.t 150], none, false, []⟩, ⟨some 152, false, .call (.c (.fn 413 [])) [.t 151], none, false, []⟩, ⟨some 146, false, .mv (.t 152), none, false, []⟩, ⟨some 153, false, .ext (.t 146) 0, none, false, []⟩, ⟨some 154, false, .ext (.t 146) 1, none, false, []⟩, ⟨some 25, true, .alloc 4 (.agg [.str [], .int .i64 0, .int .i64 0, .int .i64 0]), none, false, []⟩, ⟨none, true, .sto 4 (.t 25) (.t 153), none, false, []⟩, ⟨some 26, false, .asg (.t 154), none, false, []⟩] [0, 1, 16, 17, 18, 19, 20, 22, 23, 24, 25, 26] [16, 20, 25]) (.seq (.reg true [⟨some 155, false, .mv (.t 20), none, false, []⟩, ⟨some 156, false, .mv (.t 22), none, false, []⟩, ⟨some 157, false, .call (.c (.fn 69 [])) [.t 155, .t 156], none, false, []⟩, ⟨some 158, false, .mv (.t 24), none, false, []⟩, ⟨some 159, false, .bin .eql (.t 158) (.c (.int .i64 0)), none, false, []⟩, ⟨some 160, false, .mv (.t 159), none, false, []⟩, ⟨some 161, false, .mv (.t 23), some (5, true), false, []⟩, ⟨some 162, false, .mv (.t 19), some (5, true), false, []⟩, ⟨some 163, false, .bin .leq (.t 161) (.t 162), some (5, true), false, []⟩, ⟨some 164, false, .pick (.t 160) (.t 163) (.c (.bool false)), none, false, []⟩, ⟨some 165, false, .eqb true (.t 157) (.t 164), none, false, []⟩, ⟨some 166, false, .mv (.t 165), none, false, []⟩, ⟨some 167, false, .mv (.t 26), some (11, false), false, []⟩, ⟨some 168, false, .un .not (.t 167), some (11, false), false, []⟩, ⟨some 169, false, .pick (.t 166) (.c (.bool true)) (.t 168), none, false, []⟩, ⟨some 170, false, .mv (.t 169), none, false, []⟩, ⟨some 171, false, .ld (some 4) (.t 25), some (15, false), false, []⟩, ⟨some 172, false, .mv (.t 16), some (15, false), false, []⟩, ⟨some 173, false, .mv (.t 22), some (15, false), false, []⟩, ⟨some 174, false, .ia 4 (.t 172) (.t 173), some (15, false), false, []⟩, ⟨some 175, false, .ld (some 4) (.t 174), some (15, false), false, []⟩, ⟨some 176, false, .eqs true [.s, .i, .i, .i] (.t 171) (.t 175), some (15, false), false, []⟩, ⟨some 177, false, .pick (.t 170) (.c (.bool true)) (.t 176), none, false, []⟩] [0, 1, 16, 17, 18, 19, 20, 22, 177] [16, 20]) (.cond (.t 177) (.seq (.reg false [⟨some 4, false, .asg (.c (.bool false)), none, false, []⟩] [4] []) .ret) .skip))))) (.reg false [⟨some 128, false, .mv (.t 22), none, false, []⟩, ⟨some 129, false, .bin .add (.t 128) (.c (.int .i64 1)), none, false, []⟩, ⟨some 22, false, .asg (.t 129), none, false, []⟩] [0, 1, 16, 17, 18, 19, 20, 22] [16, 20]))
def laws_FnStacks_k1 : C :=
 .norm [0, 1, 16, 17, 18, 19, 20, 22] [16, 20] laws_FnStacks_k0
def laws_FnStacks_k2 : C :=
 .seq (.reg false [⟨some 222, false, .mv (.t 28), none, false, []⟩, ⟨some 223, false, .mv (.t 27), none, false, []⟩, ⟨some 224, false, .mv (.t 33), none, false, []⟩, ⟨some 225, false, .ia 4 (.t 223) (.t 224), none, false, []⟩, ⟨some 226, false, .fa 3 (.t 225), none, false, []⟩, ⟨some 227, false, .ld none (.t 226), none, false, []⟩, ⟨some 228, false, .bin .sub (.t 222) (.t 227), none, false, []⟩, ⟨some 229, false, .mv (.t 30), none, false, []⟩, ⟨some 230, false, .bin .gtr (.t 228) (.t 229), none, false, []⟩] [1, 27, 28, 29, 30, 32, 33, 230] [27]) (.cond (.t 230) (.seq (.reg false [⟨some 4, false, .asg (.c (.bool false)), none, false, []⟩] [4] []) .ret) .skip)
def laws_FnStacks_k3 : C :=
 .reg false [⟨some 199, false, .mv (.t 33), none, false, []⟩, ⟨some 200, false, .bin .add (.t 199) (.c (.int .i64 1)), none, false, []⟩, ⟨some 33, false, .asg (.t 200), none, false, []⟩] [1, 27, 28, 29, 30, 32, 33] [27]
def laws_FnStacks_k4 : C :=
 .seq (.seq (.reg false [⟨some 195, false, .mv (.t 33), none, false, []⟩, ⟨some 196, false, .mv (.t 27), none, false, []⟩, ⟨some 197, false, .len (.t 196), none, false, []⟩, ⟨some 198, false, .bin .lss (.t 195) (.t 197), none, false, []⟩] [1, 27, 28, 29, 30, 32, 33, 198] [27]) (.cond (.t 198) .skip (.exit 2))) (.seq (.block 3 (.seq (.reg false [⟨some 201, false, .mv (.t 32), none, false, []⟩, ⟨some 202, false, .mv (.t 201), none, false, []⟩, ⟨some 203, false, .mv (.t 27), some (1, false), false, []⟩, ⟨some 204, false, .mv (.t 33), some (1, false), false, []⟩, ⟨some 205, false, .ia 4 (.t 203) (.t 204), some (1, false), false, []⟩, ⟨some 206, false, .fa 0 (.t 205), some (1, false), false, []⟩, ⟨some 207, false, .ld none (.t 206), some (1, false), false, []⟩, ⟨some 208, false, .mv (.t 29), some (1, false), false, []⟩, ⟨some 209, false, .bin .eql (.t 207) (.t 208), some (1, false), false, []⟩, ⟨some 210, false, .mv (.t 209), some (1, false), false, []⟩, ⟨some 211, false, .mv (.t 28), some (9, true), false, []⟩, ⟨some 212, false, .mv (.t 27), some (9, true), false, []⟩, ⟨some 213, false, .mv (.t 33), some (9, true), false, []⟩, ⟨some 214, false, .ia 4 (.t 212) (.t 213), some (9, true), false, []⟩, ⟨some 215, false, .fa 3 (.t 214), some (9, true), false, []⟩, ⟨some 216, false, .ld none (.t 215), some (9, true), false, []⟩, ⟨some 217, false, .bin .sub (.t 211) (.t 216), some (9, true), false, []⟩, ⟨some 218, false, .mv (.t 30), some (9, true), false, []⟩, ⟨some 219, false, .bin .eql (.t 217) (.t 218), some (9, true), false, []⟩, ⟨some 220, false, .pick (.t 210) (.t 219) (.c (.bool false)), some (1, false), false, []⟩, ⟨some 221, false, .pick (.t 202) (.c (.bool true)) (.t 220), none, false, []⟩, ⟨some 32, false, .asg (.t 221), none, false, []⟩] [1, 27, 28, 29, 30, 32, 33] [27]) (.norm [1, 27, 28, 29, 30, 32, 33] [27] laws_FnStacks_k2))) laws_FnStacks_k3)
def laws_FnStacks_k5 : C :=
 .norm [1, 27, 28, 29, 30, 32, 33] [27] laws_FnStacks_k4
def laws_FnStacks_k6 : C :=
 .seq (.reg false [⟨some 231, false, .mv (.t 32), none, false, []⟩, ⟨some 232, false, .un .not (.t 231), none, false, []⟩, ⟨some 233, false, .mv (.t 232), none, false, []⟩, ⟨some 234, false, .mv (.t 30), some (2, false), false, []⟩, ⟨some 235, false, .bin .lss (.t 234) (.c (.int .i64 0)), some (2, false), false, []⟩, ⟨some 236, false, .pick (.t 233) (.c (.bool true)) (.t 235), none, false, []⟩] [1, 236] []) (.cond (.t 236) (.seq (.reg false [⟨some 4, false, .asg (.c (.bool false)), none, false, []⟩] [4] []) .ret) .skip)
def laws_FnStacks_k7 : C :=
 .seq (.reg false [⟨some 238, false, .mv (.t 1), none, false, []⟩, ⟨some 239, false, .call (.c (.fn 409 [])) [.t 238], none, false, []⟩, ⟨some 237, false, .mv (.t 239), none, false, []⟩, ⟨some 240, false, .ext (.t 237) 0, none, false, []⟩, ⟨some 241, false, .ext (.t 237) 1, none, false, []⟩, ⟨some 242, false, .ext (.t 237) 2, none, false, []⟩, ⟨some 243, false, .ext (.t 237) 3, none, false, []⟩, ⟨some 34, false, .asg (.t 240), none, false, []⟩, ⟨some 35, false, .asg (.t 241), none, false, []⟩, ⟨some 36, false, .asg (.t 242), none, false, []⟩, ⟨some 37, false, .asg (.t 243), none, false, []⟩] [34, 35, 36, 37] []) (.seq (.reg false [⟨some 245, false, .mv (.t 34), none, false, []⟩, ⟨some 246, false, .mv (.t 35), none, false, []⟩, ⟨some 247, false, .mv (.t 36), none, false, []⟩, ⟨some 248, false, .mv (.t 37), none, false, []⟩, ⟨some 249, false, .call (.c (.fn 408 [])) [.t 245, .t 246, .t 247, .t 248], none, false, []⟩, ⟨some 244, false, .mv (.t 249), none, false, []⟩, ⟨some 250, false, .ext (.t 244) 0, none, false, []⟩, ⟨some 251, false, .ext (.t 244) 1, none, false, []⟩, ⟨some 38, false, .asg (.t 250), none, false, []⟩, ⟨some 39, false, .asg (.t 251), none, false, []⟩] [34, 35, 36, 37, 38, 39] []) (.seq (.seq (.reg false [⟨some 252, false, .mv (.t 39), none, false, []⟩, ⟨some 253, false, .bin .neq (.t 252) (.c (.int .i64 0)), none, false, []⟩] [34, 35, 36, 37, 38, 253] []) (.cond (.t 253) (.seq (.reg false [⟨some 254, false, .mv (.t 38), none, false, []⟩, ⟨some 255, false, .bin .eql (.t 254) (.c (.int .i64 0)), none, false, []⟩, ⟨some 4, false, .asg (.t 255), none, false, []⟩] [4] []) .ret) .skip)) (.seq (.reg false [⟨some 256, false, .mv (.t 34), none, false, []⟩, ⟨some 257, false, .mv (.t 35), none, false, []⟩, ⟨some 258, false, .min [.c (.int .i64 280), .t 257], none, false, []⟩, ⟨some 259, false, .mv (.t 36), none, false, []⟩, ⟨some 260, false, .min [.c (.int .i64 280), .t 259], none, false, []⟩, ⟨some 261, false, .bin .sub (.t 258) (.t 260), none, false, []⟩, ⟨some 262, false, .bin .mul (.t 256) (.t 261), none, false, []⟩, ⟨some 263, false, .mv (.t 37), none, false, []⟩, ⟨some 264, false, .bin .mul (.t 262) (.t 263), none, false, []⟩, ⟨some 265, false, .call (.c (.fn 90 [])) [.t 264, .c (.int .i64 280000)], none, false, []⟩, ⟨some 40, false, .asg (.t 265), none, false, []⟩] [34, 38, 40] []) (.seq (.reg false [⟨some 266, false, .mv (.t 38), none, false, []⟩, ⟨some 267, false, .mv (.t 34), none, false, []⟩, ⟨some 268, false, .mv (.t 40), none, false, []⟩, ⟨some 269, false, .bin .sub (.t 267) (.t 268), none, false, []⟩, ⟨some 270, false, .bin .eql (.t 266) (.t 269), none, false, []⟩, ⟨some 4, false, .asg (.t 270), none, false, []⟩] [4] []) .ret))))
def laws_FnStacks_k8 : C :=
 .norm [1] [] laws_FnStacks_k7
def laws_FnStacks_k9 : C :=
 .seq (.reg false [⟨some 182, false, .mv (.t 0), none, false, []⟩, ⟨some 183, false, .call (.c (.fn 411 [])) [.t 182], none, false, []⟩, ⟨some 181, false, .mv (.t 183), none, false, []⟩, ⟨some 184, false, .ext (.t 181) 0, none, false, []⟩, ⟨some 185, false, .ext (.t 181) 1, none, false, []⟩, ⟨some 27, true, .asg (.t 184), none, false, []⟩, ⟨some 28, false, .asg (.t 185), none, false, []⟩] [1, 27, 28] [27]) (.seq (.reg false [⟨some 187, false, .mv (.t 27), none, false, []⟩, ⟨some 188, false, .mv (.t 28), none, false, []⟩, ⟨some 189, false, .call (.c (.fn 410 [])) [.t 187, .t 188], none, false, []⟩, ⟨some 186, false, .mv (.t 189), none, false, []⟩, ⟨some 190, false, .ext (.t 186) 0, none, false, []⟩, ⟨some 191, false, .ext (.t 186) 1, none, false, []⟩, ⟨some 192, false, .ext (.t 186) 2, none, false, []⟩, ⟨some 29, false, .asg (.t 190), none, false, []⟩, ⟨some 30, false, .asg (.t 191), none, false, []⟩, ⟨some 31, false, .asg (.t 192), none, false, []⟩] [1, 27, 28, 29, 30, 31] [27]) (.seq (.seq (.reg false [⟨some 193, false, .mv (.t 31), none, false, []⟩, ⟨some 194, false, .bin .eql (.t 193) (.c (.int .i64 0)), none, false, []⟩] [1, 27, 28, 29, 30, 194] [27]) (.cond (.t 194) (.seq (.reg false [⟨some 32, false, .asg (.c (.bool false)), none, false, []⟩] [1, 27, 28, 29, 30, 32] [27]) (.seq (.seq (.reg false [⟨some 33, false, .asg (.c (.int .i64 0)), none, false, []⟩] [1, 27, 28, 29, 30, 32, 33] [27]) (.block 2 (.loop laws_FnStacks_k5))) laws_FnStacks_k6)) .skip)) laws_FnStacks_k8))
def laws_FnStacks_k10 : C :=
 .norm [0, 1] [] laws_FnStacks_k9
def laws_FnStacks_k11 : C :=
 .seq (.reg false [⟨some 103, false, .mv (.t 1), none, false, []⟩, ⟨some 104, false, .call (.c (.fn 415 [])) [.t 103], none, false, []⟩, ⟨some 102, false, .mv (.t 104), none, false, []⟩, ⟨some 105, false, .ext (.t 102) 0, none, false, []⟩, ⟨some 106, false, .ext (.t 102) 1, none, false, []⟩, ⟨some 107, false, .ext (.t 102) 2, none, false, []⟩, ⟨some 108, false, .ext (.t 102) 3, none, false, []⟩, ⟨some 16, true, .asg (.t 105), none, false, []⟩, ⟨some 17, false, .asg (.t 106), none, false, []⟩, ⟨some 18, false, .asg (.t 107), none, false, []⟩, ⟨some 19, false, .asg (.t 108), none, false, []⟩] [0, 1, 16, 17, 18, 19] [16]) (.seq (.reg false [⟨some 110, false, .mv (.t 16), none, false, []⟩, ⟨some 111, false, .mv (.t 17), none, false, []⟩, ⟨some 112, false, .mv (.t 18), none, false, []⟩, ⟨some 113, false, .mv (.t 19), none, false, []⟩, ⟨some 114, false, .call (.c (.fn 414 [])) [.t 110, .t 111, .t 112, .t 113], none, false, []⟩, ⟨some 109, false, .mv (.t 114), none, false, []⟩, ⟨some 115, false, .ext (.t 109) 0, none, false, []⟩, ⟨some 116, false, .ext (.t 109) 1, none, false, []⟩, ⟨some 20, true, .asg (.t 115), none, false, []⟩, ⟨some 21, false, .asg (.t 116), none, false, []⟩] [0, 1, 16, 17, 18, 19, 20, 21] [16, 20]) (.seq (.seq (.reg false [⟨some 117, false, .mv (.t 21), none, false, []⟩, ⟨some 118, false, .bin .eql (.t 117) (.c (.int .i64 0)), none, false, []⟩] [0, 1, 16, 17, 18, 19, 20, 118] [16, 20]) (.cond (.t 118) (.seq (.seq (.reg false [⟨some 119, false, .mv (.t 20), none, false, []⟩, ⟨some 120, false, .mv (.t 16), none, false, []⟩, ⟨some 121, false, .len (.t 120), none, false, []⟩, ⟨some 122, false, .call (.c (.fn 71 [])) [.t 119, .t 121], none, false, []⟩, ⟨some 123, false, .un .not (.t 122), none, false, []⟩] [0, 1, 16, 17, 18, 19, 20, 123] [16, 20]) (.cond (.t 123) (.seq (.reg false [⟨some 4, false, .asg (.c (.bool false)), none, false, []⟩] [4] []) .ret) .skip)) (.seq (.reg false [⟨some 22, false, .asg (.c (.int .i64 0)), none, false, []⟩] [0, 1, 16, 17, 18, 19, 20, 22] [16, 20]) (.block 0 (.loop laws_FnStacks_k1)))) (.seq (.reg false [⟨some 178, false, .mv (.t 20), none, false, []⟩, ⟨some 179, false, .len (.t 178), none, false, []⟩, ⟨some 180, false, .bin .neq (.t 179) (.c (.int .i64 0)), none, false, []⟩] [0, 1, 180] []) (.cond (.t 180) (.seq (.reg false [⟨some 4, false, .asg (.c (.bool false)), none, false, []⟩] [4] []) .ret) .skip)))) laws_FnStacks_k10))
def laws_FnStacks_k12 : C :=
 .seq (.reg false [⟨some 48, false, .mv (.t 0), none, false, []⟩, ⟨some 49, false, .call (.c (.fn 417 [])) [.t 48], none, false, []⟩, ⟨some 47, false, .mv (.t 49), none, false, []⟩, ⟨some 50, false, .ext (.t 47) 0, none, false, []⟩, ⟨some 51, false, .ext (.t 47) 1, none, false, []⟩, ⟨some 52, false, .ext (.t 47) 2, none, false, []⟩, ⟨some 53, false, .ext (.t 47) 3, none, false, []⟩, ⟨some 5, false, .asg (.t 50), none, false, []⟩, ⟨some 6, false, .asg (.t 51), none, false, []⟩, ⟨some 7, false, .asg (.t 52), none, false, []⟩, ⟨some 8, false, .asg (.t 53), none, false, []⟩] [0, 1, 5, 6, 7, 8] []) (.seq (.reg false [⟨some 55, false, .mv (.t 5), none, false, []⟩, ⟨some 56, false, .mv (.t 6), none, false, []⟩, ⟨some 57, false, .mv (.t 7), none, false, []⟩, ⟨some 58, false, .mv (.t 8), none, false, []⟩, ⟨some 59, false, .call (.c (.fn 416 [])) [.t 55, .t 56, .t 57, .t 58], none, false, []⟩, ⟨some 54, false, .mv (.t 59), none, false, []⟩, ⟨some 60, false, .ext (.t 54) 0, none, false, []⟩, ⟨some 61, false, .ext (.t 54) 1, none, false, []⟩, ⟨some 9, false, .asg (.t 60), none, false, []⟩, ⟨some 10, false, .asg (.t 61), none, false, []⟩] [0, 1, 5, 6, 7, 8, 9, 10] []) (.seq (.seq (.reg false [⟨some 62, false, .mv (.t 10), none, false, []⟩, ⟨some 63, false, .bin .eql (.t 62) (.c (.int .i64 0)), none, false, []⟩] [0, 1, 5, 6, 7, 8, 9, 63] []) (.cond (.t 63) (.seq (.reg false [⟨some 64, false, .mv (.t 5), none, false, []⟩, ⟨some 65, false, .mv (.t 9), none, false, []⟩, ⟨some 66, false, .build [.str [], .int .i64 0, .int .i64 0, .int .i64 0] [(0, 1, .c (.str [120])), (1, 1, .t 64), (2, 1, .t 65)], none, false, []⟩, ⟨some 11, true, .alloc 4 (.agg [.str [], .int .i64 0, .int .i64 0, .int .i64 0]), none, false, []⟩, ⟨none, true, .sto 4 (.t 11) (.t 66), none, false, []⟩] [0, 1, 6, 7, 8, 9, 11] [11]) (.seq (.reg false [⟨some 68, false, .ld (some 4) (.t 11), none, false, []⟩, ⟨some 69, false, .mv (.t 6), none, false, []⟩, ⟨some 70, false, .mv (.t 8), none, false, []⟩, ⟨some 71, false, .call (.c (.fn 111 [])) [.t 68, .t 69, .t 70], none, false, []⟩, ⟨some 67, false, .mv (.t 71), none, false, []⟩, ⟨some 72, false, .ext (.t 67) 0, none, false, []⟩, ⟨some 73, false, .ext (.t 67) 1, none, false, []⟩, ⟨some 12, false, .asg (.t 72), none, false, []⟩, ⟨some 13, false, .asg (.t 73), none, false, []⟩] [0, 1, 6, 7, 8, 9, 11, 12, 13] [11]) (.seq (.reg false [⟨some 74, false, .mv (.t 9), none, false, []⟩, ⟨some 75, false, .bin .add (.t 74) (.c (.int .i64 1)), none, false, []⟩, ⟨some 76, false, .fa 2 (.t 11), none, false, []⟩, ⟨none, true, .sto 1 (.t 76) (.t 75), none, false, []⟩] [0, 1, 6, 7, 8, 11, 12, 13] [11]) (.seq (.reg false [⟨some 78, false, .ld (some 4) (.t 11), none, false, []⟩, ⟨some 79, false, .mv (.t 6), none, false, []⟩, ⟨some 80, false, .mv (.t 8), none, false, []⟩, ⟨some 81, false, .call (.c (.fn 111 [])) [.t 78, .t 79, .t 80], none, false, []⟩, ⟨some 77, false, .mv (.t 81), none, false, []⟩, ⟨some 82, false, .ext (.t 77) 0, none, false, []⟩, ⟨some 83, false, .ext (.t 77) 1, none, false, []⟩, ⟨some 14, false, .asg (.t 82), none, false, []⟩, ⟨some 15, false, .asg (.t 83), none, false, []⟩] [0, 1, 7, 12, 13, 14, 15] []) (.seq (.reg false [⟨some 84, false, .mv (.t 13), none, false, []⟩, ⟨some 85, false, .bin .neq (.t 84) (.c (.int .i64 0)), none, false, []⟩, ⟨some 86, false, .mv (.t 85), none, false, []⟩, ⟨some 87, false, .mv (.t 12), some (2, false), false, []⟩, ⟨some 88, false, .mv (.t 7), some (2, false), false, []⟩, ⟨some 89, false, .bin .gtr (.t 87) (.t 88), some (2, false), false, []⟩, ⟨some 90, false, .pick (.t 86) (.c (.bool true)) (.t 89), none, false, []⟩, ⟨some 91, false, .mv (.t 90), none, false, []⟩, ⟨some 92, false, .mv (.t 15), some (7, false), false, []⟩, ⟨some 93, false, .bin .eql (.t 92) (.c (.int .i64 0)), some (7, false), false, []⟩, ⟨some 94, false, .mv (.t 93), some (7, false), false, []⟩, ⟨some 95, false, .mv (.t 14), some (10, true), false, []⟩, ⟨some 96, false, .mv (.t 7), some (10, true), false, []⟩, ⟨some 97, false, .bin .leq (.t 95) (.t 96), some (10, true), false, []⟩, ⟨some 98, false, .pick (.t 94) (.t 97) (.c (.bool false)), some (7, false), false, []⟩, ⟨some 99, false, .pick (.t 91) (.c (.bool true)) (.t 98), none, false, []⟩] [0, 1, 99] []) (.cond (.t 99) (.seq (.reg false [⟨some 4, false, .asg (.c (.bool false)), none, false, []⟩] [4] []) .ret) .skip)))))) (.seq (.reg false [⟨some 100, false, .mv (.t 9), none, false, []⟩, ⟨some 101, false, .bin .neq (.t 100) (.c (.int .i64 0)), none, false, []⟩] [0, 1, 101] []) (.cond (.t 101) (.seq (.reg false [⟨some 4, false, .asg (.c (.bool false)), none, false, []⟩] [4] []) .ret) .skip)))) (.norm [0, 1] [] laws_FnStacks_k11)))
def laws_FnStacks_ir : Fn := { np := 2, io := [], res := [.t 4], own := [false], body :=
 (.seq (.reg false [⟨some 4, false, .asg (.c (.bool false)), none, false, []⟩] [0, 1] []) (.seq (.seq (.reg false [⟨some 41, false, .mv (.t 0), none, false, []⟩, ⟨some 42, false, .call (.c (.fn 76 [])) [.t 41], none, false, []⟩, ⟨some 43, false, .mv (.t 42), none, false, []⟩, ⟨some 44, false, .mv (.t 1), some (2, false), false, []⟩, ⟨some 45, false, .call (.c (.fn 76 [])) [.t 44], some (2, false), false, []⟩, ⟨some 46, false, .pick (.t 43) (.c (.bool true)) (.t 45), none, false, []⟩] [0, 1, 46] []) (.cond (.t 46) (.seq (.reg false [⟨some 4, false, .asg (.c (.bool true)), none, false, []⟩] [4] []) .ret) .skip)) (.norm [0, 1] [] laws_FnStacks_k12))) }
noncomputable def laws_FnStacks_D : List (Nat × Callee) := [(69, laws_b10Has_c), (71, laws_b10Rises_c), (76, laws_b10Long_c), (90, laws_b10Div_c), (111, spec_MoistureAfter_c), (408, impl_ShrunkTo_c), (409, spec_DrawShrunkTo_c), (410, impl_OldestStack_c), (411, spec_DrawOldestStack_c), (412, impl_StackText_c), (413, impl_ReadStack_c), (414, impl_ReadyStacks_c), (415, spec_DrawReadyStacks_c), (416, impl_ThickToDry_c), (417, spec_DrawThickToDry_c)]
def laws_FnStacks_H : List (Nat × ET) := [(16, T_Peg), (20, (.one (.int .i64))), (27, T_Peg), (41, (.one (.int .u8))), (44, (.one (.int .u8))), (48, (.one (.int .u8))), (103, (.one (.int .u8))), (105, T_Peg), (110, T_Peg), (115, (.one (.int .i64))), (119, (.one (.int .i64))), (120, T_Peg), (125, T_Peg), (131, T_Peg), (137, T_Peg), (147, T_Peg), (155, (.one (.int .i64))), (172, T_Peg), (178, (.one (.int .i64))), (182, (.one (.int .u8))), (184, T_Peg), (187, T_Peg), (196, T_Peg), (203, T_Peg), (212, T_Peg), (223, T_Peg), (238, (.one (.int .u8)))]
noncomputable def laws_FnStacks_c : Callee := mkCallee laws_FnStacks_D laws_FnStacks_H laws_FnStacks_ir [.d (.one (.sl (.one (.int .u8)))), .d (.one (.sl (.one (.int .u8))))] [.d (.one .bool)] []
noncomputable def laws_FnStacks (a0 : List Int) (a1 : List Int) : Option (Bool) := laws_FnStacks_c.f (a0, a1, ())
noncomputable def laws_FnStacks_p0  (v0 : List Int) (v1 : List Int) : Option (Bool) :=
 goL laws_FnStacks_D laws_FnStacks_H (vleave laws_FnStacks_ir [.d (.one (.sl (.one (.int .u8)))), .d (.one (.sl (.one (.int .u8))))] [.d (.one .bool)] [] []) [.c laws_FnStacks_k12]
  ⟨[(0, .sl (.one (.int .u8)) v0), (1, .sl (.one (.int .u8)) v1)], []⟩
noncomputable def laws_FnStacks_p1  (v0 : List Int) (v1 : List Int) : Option (Bool) :=
 goL laws_FnStacks_D laws_FnStacks_H (vleave laws_FnStacks_ir [.d (.one (.sl (.one (.int .u8)))), .d (.one (.sl (.one (.int .u8))))] [.d (.one .bool)] [] []) [.c laws_FnStacks_k11]
  ⟨[(0, .sl (.one (.int .u8)) v0), (1, .sl (.one (.int .u8)) v1)], []⟩
noncomputable def laws_FnStacks_p2  (v0 : List Int) (v1 : List Int) (v17 : Int) (v18 : Int) (v19 : Int) (v22 : Int) (r16 : List T_Peg.ty) (r20 : List Int) : Option (Bool) :=
 goL laws_FnStacks_D laws_FnStacks_H (vleave laws_FnStacks_ir [.d (.one (.sl (.one (.int .u8)))), .d (.one (.sl (.one (.int .u8))))] [.d (.one .bool)] [] []) [.c laws_FnStacks_k0, .l laws_FnStacks_k1, .e 0, .c laws_FnStacks_k10]
  ⟨[(0, .sl (.one (.int .u8)) v0), (1, .sl (.one (.int .u8)) v1), (16, .view 16 0 r16.length), (17, .int .i64 v17), (18, .int .i64 v18), (19, .int .i64 v19), (20, .view 20 0 r20.length), (22, .int .i64 v22)], [(16, some (.sl T_Peg r16)), (20, some (.sl (.one (.int .i64)) r20))]⟩
noncomputable def laws_FnStacks_p3  (v0 : List Int) (v1 : List Int) : Option (Bool) :=
 goL laws_FnStacks_D laws_FnStacks_H (vleave laws_FnStacks_ir [.d (.one (.sl (.one (.int .u8)))), .d (.one (.sl (.one (.int .u8))))] [.d (.one .bool)] [] []) [.c laws_FnStacks_k9]
  ⟨[(0, .sl (.one (.int .u8)) v0), (1, .sl (.one (.int .u8)) v1)], []⟩
noncomputable def laws_FnStacks_p4  (v1 : List Int) (v28 : Int) (v29 : List UInt8) (v30 : Int) (v32 : Bool) (v33 : Int) (r27 : List T_Peg.ty) : Option (Bool) :=
 goL laws_FnStacks_D laws_FnStacks_H (vleave laws_FnStacks_ir [.d (.one (.sl (.one (.int .u8)))), .d (.one (.sl (.one (.int .u8))))] [.d (.one .bool)] [] []) [.c laws_FnStacks_k4, .l laws_FnStacks_k5, .e 2, .c laws_FnStacks_k6, .c laws_FnStacks_k8]
  ⟨[(1, .sl (.one (.int .u8)) v1), (27, .view 27 0 r27.length), (28, .int .i64 v28), (29, .str v29), (30, .int .i64 v30), (32, .bool v32), (33, .int .i64 v33)], [(27, some (.sl T_Peg r27))]⟩
noncomputable def laws_FnStacks_p5  (v1 : List Int) : Option (Bool) :=
 goL laws_FnStacks_D laws_FnStacks_H (vleave laws_FnStacks_ir [.d (.one (.sl (.one (.int .u8)))), .d (.one (.sl (.one (.int .u8))))] [.d (.one .bool)] [] []) [.c laws_FnStacks_k7]
  ⟨[(1, .sl (.one (.int .u8)) v1)], []⟩
noncomputable def laws_FnStacks_p6  (v1 : List Int) (v28 : Int) (v29 : List UInt8) (v30 : Int) (v32 : Bool) (v33 : Int) (r27 : List T_Peg.ty) : Option (Bool) :=
 goL laws_FnStacks_D laws_FnStacks_H (vleave laws_FnStacks_ir [.d (.one (.sl (.one (.int .u8)))), .d (.one (.sl (.one (.int .u8))))] [.d (.one .bool)] [] []) [.c laws_FnStacks_k2, .e 3, .c laws_FnStacks_k3, .l laws_FnStacks_k5, .e 2, .c laws_FnStacks_k6, .c laws_FnStacks_k8]
  ⟨[(1, .sl (.one (.int .u8)) v1), (27, .view 27 0 r27.length), (28, .int .i64 v28), (29, .str v29), (30, .int .i64 v30), (32, .bool v32), (33, .int .i64 v33)], [(27, some (.sl T_Peg r27))]⟩
theorem laws_FnStacks_eq (a0 : List Int) (a1 : List Int) : laws_FnStacks a0 a1 =
  (laws_b10Long a0).bind fun x1 =>
   if x1 then
    some true
   else
    (laws_b10Long a1).bind fun x2 =>
     if x2 then
      some true
     else
      laws_FnStacks_p0 a0 a1 :=
 (mk_f _ _ _ _ _ _ _ 4000).trans (by kernel_rfl)
theorem laws_FnStacks_p0_eq  (v0 : List Int) (v1 : List Int) : laws_FnStacks_p0 v0 v1 =
  (spec_DrawThickToDry v0).bind fun x1 =>
   (impl_ThickToDry x1.1 x1.2.1 x1.2.2.1 x1.2.2.2).bind fun x2 =>
    if (x2.2 == 0) then
     (spec_MoistureAfter ([120], x1.1, x2.1, 0, ()) x1.2.1 x1.2.2.2).bind fun x3 =>
      (spec_MoistureAfter ([120], x1.1, IntKind.i64.wrap (x2.1 + 1), 0, ()) x1.2.1 x1.2.2.2).bind fun x4 =>
       if (x3.2 != 0) then
        some false
       else
        if decide (x3.1 > x1.2.2.1) then
         some false
        else
         if (x4.2 == 0) then
          if decide (x4.1 ≤ x1.2.2.1) then
           some false
          else
           laws_FnStacks_p1 v0 v1
         else
          laws_FnStacks_p1 v0 v1
    else
     if (x2.1 != 0) then
      some false
     else
      laws_FnStacks_p1 v0 v1 :=
 (goL_dn _ _ _ 4000 _ _).trans (by kernel_rfl)
theorem laws_FnStacks_p1_eq  (v0 : List Int) (v1 : List Int) : laws_FnStacks_p1 v0 v1 =
  (spec_DrawReadyStacks v1).bind fun x1 =>
   (impl_ReadyStacks (x1.1.take x1.1.length) x1.2.1 x1.2.2.1 x1.2.2.2).bind fun x2 =>
    if (x2.2 == 0) then
     (laws_b10Rises (x2.1.take x2.1.length) (x1.1.length : Int)).bind fun x3 =>
      if (!x3) then
       some false
      else
       laws_FnStacks_p2 v0 v1 x1.2.1 x1.2.2.1 x1.2.2.2 0 x1.1 x2.1
    else
     if ((x2.1.length : Int) != 0) then
      some false
     else
      laws_FnStacks_p3 v0 v1 :=
 (goL_dn _ _ _ 4000 _ _).trans (by kernel_rfl)
theorem laws_FnStacks_p2_eq  (v0 : List Int) (v1 : List Int) (v17 : Int) (v18 : Int) (v19 : Int) (v22 : Int) (r16 : List T_Peg.ty) (r20 : List Int) : laws_FnStacks_p2 v0 v1 v17 v18 v19 v22 r16 r20 =
  if decide (v22 < (r16.length : Int)) then
   if decide (0 ≤ v22) && decide (v22 < (r16.length : Int)) then
    (r16[v22.toNat]?).bind fun x1 =>
     if decide (0 ≤ v22) && decide (v22 < (r16.length : Int)) then
      (r16[v22.toNat]?).bind fun x2 =>
       (spec_MoistureAfter x1 v17 (IntKind.i64.wrap (v18 - x2.2.2.2.1))).bind fun x3 =>
        if decide (0 ≤ v22) && decide (v22 < (r16.length : Int)) then
         (r16[v22.toNat]?).bind fun x4 =>
          (impl_StackText x4).bind fun x5 =>
           (impl_ReadStack x5).bind fun x6 =>
            (laws_b10Has (r20.take r20.length) v22).bind fun x7 =>
             if (x3.2 == 0) then
              if (!(x7 == decide (x3.1 ≤ v19))) then
               some false
              else
               if (!x6.2) then
                some false
               else
                if decide (0 ≤ v22) && decide (v22 < (r16.length : Int)) then
                 (r16[v22.toNat]?).bind fun x8 =>
                  if (!((x6.1.1 == x8.1) && ((x6.1.2.1 == x8.2.1) && ((x6.1.2.2.1 == x8.2.2.1) && (x6.1.2.2.2.1 == x8.2.2.2.1))))) then
                   some false
                  else
                   laws_FnStacks_p2 v0 v1 v17 v18 v19 (IntKind.i64.wrap (v22 + 1)) r16 r20
                else
                 none
             else
              if (!(x7 == false)) then
               some false
              else
               if (!x6.2) then
                some false
               else
                if decide (0 ≤ v22) && decide (v22 < (r16.length : Int)) then
                 (r16[v22.toNat]?).bind fun x9 =>
                  if (!((x6.1.1 == x9.1) && ((x6.1.2.1 == x9.2.1) && ((x6.1.2.2.1 == x9.2.2.1) && (x6.1.2.2.2.1 == x9.2.2.2.1))))) then
                   some false
                  else
                   laws_FnStacks_p2 v0 v1 v17 v18 v19 (IntKind.i64.wrap (v22 + 1)) r16 r20
                else
                 none
        else
         none
     else
      none
   else
    none
  else
   laws_FnStacks_p3 v0 v1 :=
 (goL_dn _ _ _ 4000 _ _).trans (by kernel_rfl)
theorem laws_FnStacks_p3_eq  (v0 : List Int) (v1 : List Int) : laws_FnStacks_p3 v0 v1 =
  (spec_DrawOldestStack v0).bind fun x1 =>
   (impl_OldestStack (x1.1.take x1.1.length) x1.2).bind fun x2 =>
    if (x2.2.2 == 0) then
     laws_FnStacks_p4 v1 x1.2 x2.1 x2.2.1 false 0 x1.1
    else
     laws_FnStacks_p5 v1 :=
 (goL_dn _ _ _ 4000 _ _).trans (by kernel_rfl)
theorem laws_FnStacks_p4_eq  (v1 : List Int) (v28 : Int) (v29 : List UInt8) (v30 : Int) (v32 : Bool) (v33 : Int) (r27 : List T_Peg.ty) : laws_FnStacks_p4 v1 v28 v29 v30 v32 v33 r27 =
  if decide (v33 < (r27.length : Int)) then
   if v32 then
    laws_FnStacks_p6 v1 v28 v29 v30 true v33 r27
   else
    if decide (0 ≤ v33) && decide (v33 < (r27.length : Int)) then
     (r27[v33.toNat]?).bind fun x1 =>
      if (x1.1 == v29) then
       if decide (0 ≤ v33) && decide (v33 < (r27.length : Int)) then
        (r27[v33.toNat]?).bind fun x2 =>
         laws_FnStacks_p6 v1 v28 v29 v30 (IntKind.i64.wrap (v28 - x2.2.2.2.1) == v30) v33 r27
       else
        none
      else
       laws_FnStacks_p6 v1 v28 v29 v30 false v33 r27
    else
     none
  else
   if (!v32) then
    some false
   else
    if decide (v30 < 0) then
     some false
    else
     laws_FnStacks_p5 v1 :=
 (goL_dn _ _ _ 4000 _ _).trans (by kernel_rfl)
theorem laws_FnStacks_p5_eq  (v1 : List Int) : laws_FnStacks_p5 v1 =
  (spec_DrawShrunkTo v1).bind fun x1 =>
   (impl_ShrunkTo x1.1 x1.2.1 x1.2.2.1 x1.2.2.2).bind fun x2 =>
    if (x2.2 != 0) then
     some (x2.1 == 0)
    else
     (laws_b10Div 1000 (IntKind.i64.wrap ((IntKind.i64.wrap (x1.1 * (IntKind.i64.wrap ((if x1.2.1 < 280 then x1.2.1 else 280) - (if x1.2.2.1 < 280 then x1.2.2.1 else 280))))) * x1.2.2.2)) 280000).bind fun x3 =>
      some (x2.1 == IntKind.i64.wrap (x1.1 - x3)) :=
 (goL_dn _ _ _ 4000 _ _).trans (by kernel_rfl)
theorem laws_FnStacks_p6_eq  (v1 : List Int) (v28 : Int) (v29 : List UInt8) (v30 : Int) (v32 : Bool) (v33 : Int) (r27 : List T_Peg.ty) : laws_FnStacks_p6 v1 v28 v29 v30 v32 v33 r27 =
  if decide (0 ≤ v33) && decide (v33 < (r27.length : Int)) then
   (r27[v33.toNat]?).bind fun x1 =>
    if decide (IntKind.i64.wrap (v28 - x1.2.2.2.1) > v30) then
     some false
    else
     laws_FnStacks_p4 v1 v28 v29 v30 v32 (IntKind.i64.wrap (v33 + 1)) r27
  else
   none :=
 (goL_dn _ _ _ 4000 _ _).trans (by kernel_rfl)

end Go.Ab.P
