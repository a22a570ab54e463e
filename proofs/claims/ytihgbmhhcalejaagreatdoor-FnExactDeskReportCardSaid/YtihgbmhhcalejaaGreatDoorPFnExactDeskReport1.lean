/- Functions of the program: abstract forms, and what their runs give. Conditions: none. -/
import Derived.Test.YtihgbmhhcalejaaGreatDoorLB
set_option maxRecDepth 100000
set_option linter.unusedVariables false
namespace Go.Ab.P
open Go.Ab
@[reducible] def T_Pot : ET := .agg (.cons .str (.cons (.int .i64) (.cons (.int .i64) (.cons (.int .i64) (.cons (.int .i64) .nil)))))
@[reducible] def T_Neck : ET := .agg (.cons (.int .i64) (.cons (.int .i64) (.cons (.int .i64) (.cons (.int .i64) .nil))))
@[reducible] def T_Peg : ET := .agg (.cons .str (.cons (.int .i64) (.cons (.int .i64) (.cons (.int .i64) .nil))))
@[reducible] def T_Mode : ET := .agg (.cons .str (.cons (.int .i64) (.cons (.int .i64) .nil)))
@[reducible] def T_Paper : ET := .agg (.cons .str (.cons .str (.cons (.int .i64) (.cons (.int .i64) (.cons (.int .i64) .nil)))))
@[reducible] def T_Desk : ET := .agg (.cons (.sl T_Peg) (.cons (.sl T_Mode) (.cons (.sl (.one (.sl (.one (.int .i64))))) (.cons (.int .i64) (.cons (.int .i64) (.cons (.int .i64) (.cons (.int .i64) (.cons (.sl T_Peg) (.cons (.sl T_Pot) (.cons (.sl T_Mode) (.cons (.sl T_Peg) (.cons (.sl T_Paper) .nil))))))))))))
def laws_szStack_ir : Fn := { np := 2,io := [],res := [.t 4],own := [false],body :=
 (.seq (.reg false [.W 2 (.box 4 (.t 0)),.V 4 (.asg (.c (.int .i64 0)))] [1,2] [2]) (.seq (.reg false [.V 5 (.mv (.t 1)),.V 6 (.fa 0 (.t 2)),.V 7 (.ld none (.t 6)),.V 8 (.lens (.t 7)),.V 9 (.bin .sub (.t 5) (.t 8)),.V 1 (.asg (.t 9))] [1] []) (.seq (.seq (.reg false [.V 10 (.mv (.t 1)),.V 11 (.bin .lss (.t 10) (.c (.int .i64 0)))] [1,11] []) (.cond (.t 11) (.seq (.reg false [.V 4 (.asg (.c (.int .i64 (-1))))] [4] []) .ret) .skip)) (.seq (.reg false [.V 12 (.mv (.t 1)),.V 4 (.asg (.t 12))] [4] []) .ret)))) }
noncomputable def laws_szStack_D : List (Nat × Callee) := []
def laws_szStack_H : List (Nat × ET) := []
noncomputable def laws_szStack_c : Callee := mkCallee laws_szStack_D laws_szStack_H laws_szStack_ir [.d T_Peg,.d (.one (.int .i64))] [.d (.one (.int .i64))] []
noncomputable def laws_szStack (a0 : T_Peg.ty) (a1 : Int) : Option (Int) := laws_szStack_c.f (a0,a1,())
theorem laws_szStack_eq (a0 : T_Peg.ty) (a1 : Int) : laws_szStack a0 a1 =
 if decide (IntKind.i64.wrap (a1 - (a0.1.length : Int)) < 0) then
  some (-1)
 else
  some (IntKind.i64.wrap (a1 - (a0.1.length : Int))) :=
 (mk_f _ _ _ _ _ _ _ 4000).trans (by kernel_rfl)
def laws_szStackS_k0 : C :=
 .seq (.seq (.reg false [.V 12 (.mv (.t 5)),.V 13 (.mv (.t 0)),.V 14 (.len (.t 13)),.V 15 (.bin .lss (.t 12) (.t 14))] [0,1,5,15] []) (.cond (.t 15) .skip (.exit 0))) (.seq (.block 1 (.seq (.reg false [.V 18 (.mv (.t 0)),.V 19 (.mv (.t 5)),.V 20 (.ia 4 (.t 18) (.t 19)),.V 21 (.ld (some 4) (.t 20)),.V 22 (.mv (.t 1)),.V 23 (.call (.c (.fn 913 [])) [.t 21,.t 22]),.V 1 (.asg (.t 23))] [0,1,5] []) (.seq (.reg false [.V 24 (.mv (.t 1)),.V 25 (.bin .lss (.t 24) (.c (.int .i64 0)))] [0,1,5,25] []) (.cond (.t 25) (.seq (.reg false [.V 4 (.asg (.c (.int .i64 (-1))))] [4] []) .ret) .skip)))) (.reg false [.V 16 (.mv (.t 5)),.V 17 (.bin .add (.t 16) (.c (.int .i64 1))),.V 5 (.asg (.t 17))] [0,1,5] []))
def laws_szStackS_k1 : C :=
 .norm [0,1,5] [] laws_szStackS_k0
def laws_szStackS_k2 : C :=
 .seq (.reg false [.V 26 (.mv (.t 1)),.V 4 (.asg (.t 26))] [4] []) .ret
def laws_szStackS_ir : Fn := { np := 2,io := [],res := [.t 4],own := [false],body :=
 (.seq (.reg false [.V 4 (.asg (.c (.int .i64 0)))] [0,1] []) (.seq (.reg false [.V 6 (.mv (.t 1)),.V 7 (.mv (.t 0)),.V 8 (.len (.t 7)),.V 9 (.bin .sub (.t 6) (.t 8)),.V 1 (.asg (.t 9))] [0,1] []) (.seq (.seq (.reg false [.V 10 (.mv (.t 1)),.V 11 (.bin .lss (.t 10) (.c (.int .i64 0)))] [0,1,11] []) (.cond (.t 11) (.seq (.reg false [.V 4 (.asg (.c (.int .i64 (-1))))] [4] []) .ret) .skip)) (.seq (.seq (.reg false [.V 5 (.asg (.c (.int .i64 0)))] [0,1,5] []) (.block 0 (.loop laws_szStackS_k1))) laws_szStackS_k2)))) }
noncomputable def laws_szStackS_D : List (Nat × Callee) := [(913,laws_szStack_c)]
def laws_szStackS_H : List (Nat × ET) := [(7,T_Peg),(13,T_Peg),(18,T_Peg)]
noncomputable def laws_szStackS_c : Callee := mkCallee laws_szStackS_D laws_szStackS_H laws_szStackS_ir [.d (.one (.sl T_Peg)),.d (.one (.int .i64))] [.d (.one (.int .i64))] []
noncomputable def laws_szStackS (a0 : List T_Peg.ty) (a1 : Int) : Option (Int) := laws_szStackS_c.f (a0,a1,())
noncomputable def laws_szStackS_p0  (v0 : List T_Peg.ty) (v1 : Int) (v5 : Int) : Option (Int) :=
 goL laws_szStackS_D laws_szStackS_H (vleave laws_szStackS_ir [.d (.one (.sl T_Peg)),.d (.one (.int .i64))] [.d (.one (.int .i64))] [] []) [.c laws_szStackS_k0,.l laws_szStackS_k1,.e 0,.c laws_szStackS_k2]
  ⟨[(0,.sl T_Peg v0),(1,.int .i64 v1),(5,.int .i64 v5)],[]⟩
theorem laws_szStackS_eq (a0 : List T_Peg.ty) (a1 : Int) : laws_szStackS a0 a1 =
 if decide (IntKind.i64.wrap (a1 - (a0.length : Int)) < 0) then
  some (-1)
 else
  laws_szStackS_p0 a0 (IntKind.i64.wrap (a1 - (a0.length : Int))) 0 :=
 (mk_f _ _ _ _ _ _ _ 4000).trans (by kernel_rfl)
theorem laws_szStackS_p0_eq  (v0 : List T_Peg.ty) (v1 : Int) (v5 : Int) : laws_szStackS_p0 v0 v1 v5 =
 if decide (v5 < (v0.length : Int)) then
  if decide (0 ≤ v5) then
   (v0[v5.toNat]?).bind fun x1 =>
    (laws_szStack x1 v1).bind fun x2 =>
     if decide (x2 < 0) then
      some (-1)
     else
      laws_szStackS_p0 v0 x2 (IntKind.i64.wrap (v5 + 1))
  else
   none
 else
  some v1 :=
 (goL_dn _ _ _ 4000 _ _).trans (by kernel_rfl)
def laws_szRib_ir : Fn := { np := 2,io := [],res := [.t 4],own := [false],body :=
 (.seq (.reg false [.W 2 (.box 3 (.t 0)),.V 4 (.asg (.c (.int .i64 0)))] [1,2] [2]) (.seq (.reg false [.V 5 (.mv (.t 1)),.V 6 (.fa 0 (.t 2)),.V 7 (.ld none (.t 6)),.V 8 (.lens (.t 7)),.V 9 (.bin .sub (.t 5) (.t 8)),.V 1 (.asg (.t 9))] [1] []) (.seq (.seq (.reg false [.V 10 (.mv (.t 1)),.V 11 (.bin .lss (.t 10) (.c (.int .i64 0)))] [1,11] []) (.cond (.t 11) (.seq (.reg false [.V 4 (.asg (.c (.int .i64 (-1))))] [4] []) .ret) .skip)) (.seq (.reg false [.V 12 (.mv (.t 1)),.V 4 (.asg (.t 12))] [4] []) .ret)))) }
noncomputable def laws_szRib_D : List (Nat × Callee) := []
def laws_szRib_H : List (Nat × ET) := []
noncomputable def laws_szRib_c : Callee := mkCallee laws_szRib_D laws_szRib_H laws_szRib_ir [.d T_Mode,.d (.one (.int .i64))] [.d (.one (.int .i64))] []
noncomputable def laws_szRib (a0 : T_Mode.ty) (a1 : Int) : Option (Int) := laws_szRib_c.f (a0,a1,())
theorem laws_szRib_eq (a0 : T_Mode.ty) (a1 : Int) : laws_szRib a0 a1 =
 if decide (IntKind.i64.wrap (a1 - (a0.1.length : Int)) < 0) then
  some (-1)
 else
  some (IntKind.i64.wrap (a1 - (a0.1.length : Int))) :=
 (mk_f _ _ _ _ _ _ _ 4000).trans (by kernel_rfl)
def laws_szRibS_k0 : C :=
 .seq (.seq (.reg false [.V 12 (.mv (.t 5)),.V 13 (.mv (.t 0)),.V 14 (.len (.t 13)),.V 15 (.bin .lss (.t 12) (.t 14))] [0,1,5,15] []) (.cond (.t 15) .skip (.exit 0))) (.seq (.block 1 (.seq (.reg false [.V 18 (.mv (.t 0)),.V 19 (.mv (.t 5)),.V 20 (.ia 3 (.t 18) (.t 19)),.V 21 (.ld (some 3) (.t 20)),.V 22 (.mv (.t 1)),.V 23 (.call (.c (.fn 914 [])) [.t 21,.t 22]),.V 1 (.asg (.t 23))] [0,1,5] []) (.seq (.reg false [.V 24 (.mv (.t 1)),.V 25 (.bin .lss (.t 24) (.c (.int .i64 0)))] [0,1,5,25] []) (.cond (.t 25) (.seq (.reg false [.V 4 (.asg (.c (.int .i64 (-1))))] [4] []) .ret) .skip)))) (.reg false [.V 16 (.mv (.t 5)),.V 17 (.bin .add (.t 16) (.c (.int .i64 1))),.V 5 (.asg (.t 17))] [0,1,5] []))
def laws_szRibS_k1 : C :=
 .norm [0,1,5] [] laws_szRibS_k0
def laws_szRibS_k2 : C :=
 .seq (.reg false [.V 26 (.mv (.t 1)),.V 4 (.asg (.t 26))] [4] []) .ret
def laws_szRibS_ir : Fn := { np := 2,io := [],res := [.t 4],own := [false],body :=
 (.seq (.reg false [.V 4 (.asg (.c (.int .i64 0)))] [0,1] []) (.seq (.reg false [.V 6 (.mv (.t 1)),.V 7 (.mv (.t 0)),.V 8 (.len (.t 7)),.V 9 (.bin .sub (.t 6) (.t 8)),.V 1 (.asg (.t 9))] [0,1] []) (.seq (.seq (.reg false [.V 10 (.mv (.t 1)),.V 11 (.bin .lss (.t 10) (.c (.int .i64 0)))] [0,1,11] []) (.cond (.t 11) (.seq (.reg false [.V 4 (.asg (.c (.int .i64 (-1))))] [4] []) .ret) .skip)) (.seq (.seq (.reg false [.V 5 (.asg (.c (.int .i64 0)))] [0,1,5] []) (.block 0 (.loop laws_szRibS_k1))) laws_szRibS_k2)))) }
noncomputable def laws_szRibS_D : List (Nat × Callee) := [(914,laws_szRib_c)]
def laws_szRibS_H : List (Nat × ET) := [(7,T_Mode),(13,T_Mode),(18,T_Mode)]
noncomputable def laws_szRibS_c : Callee := mkCallee laws_szRibS_D laws_szRibS_H laws_szRibS_ir [.d (.one (.sl T_Mode)),.d (.one (.int .i64))] [.d (.one (.int .i64))] []
noncomputable def laws_szRibS (a0 : List T_Mode.ty) (a1 : Int) : Option (Int) := laws_szRibS_c.f (a0,a1,())
noncomputable def laws_szRibS_p0  (v0 : List T_Mode.ty) (v1 : Int) (v5 : Int) : Option (Int) :=
 goL laws_szRibS_D laws_szRibS_H (vleave laws_szRibS_ir [.d (.one (.sl T_Mode)),.d (.one (.int .i64))] [.d (.one (.int .i64))] [] []) [.c laws_szRibS_k0,.l laws_szRibS_k1,.e 0,.c laws_szRibS_k2]
  ⟨[(0,.sl T_Mode v0),(1,.int .i64 v1),(5,.int .i64 v5)],[]⟩
theorem laws_szRibS_eq (a0 : List T_Mode.ty) (a1 : Int) : laws_szRibS a0 a1 =
 if decide (IntKind.i64.wrap (a1 - (a0.length : Int)) < 0) then
  some (-1)
 else
  laws_szRibS_p0 a0 (IntKind.i64.wrap (a1 - (a0.length : Int))) 0 :=
 (mk_f _ _ _ _ _ _ _ 4000).trans (by kernel_rfl)
theorem laws_szRibS_p0_eq  (v0 : List T_Mode.ty) (v1 : Int) (v5 : Int) : laws_szRibS_p0 v0 v1 v5 =
 if decide (v5 < (v0.length : Int)) then
  if decide (0 ≤ v5) then
   (v0[v5.toNat]?).bind fun x1 =>
    (laws_szRib x1 v1).bind fun x2 =>
     if decide (x2 < 0) then
      some (-1)
     else
      laws_szRibS_p0 v0 x2 (IntKind.i64.wrap (v5 + 1))
  else
   none
 else
  some v1 :=
 (goL_dn _ _ _ 4000 _ _).trans (by kernel_rfl)
def laws_szInt64S_ir : Fn := { np := 2,io := [],res := [.t 4],own := [false],body :=
 (.seq (.reg false [.V 4 (.asg (.c (.int .i64 0)))] [0,1] []) (.seq (.reg false [.V 5 (.mv (.t 1)),.V 6 (.mv (.t 0)),.V 7 (.len (.t 6)),.V 8 (.bin .sub (.t 5) (.t 7)),.V 1 (.asg (.t 8))] [1] []) (.seq (.seq (.reg false [.V 9 (.mv (.t 1)),.V 10 (.bin .lss (.t 9) (.c (.int .i64 0)))] [1,10] []) (.cond (.t 10) (.seq (.reg false [.V 4 (.asg (.c (.int .i64 (-1))))] [4] []) .ret) .skip)) (.seq (.reg false [.V 11 (.mv (.t 1)),.V 4 (.asg (.t 11))] [4] []) .ret)))) }
noncomputable def laws_szInt64S_D : List (Nat × Callee) := []
def laws_szInt64S_H : List (Nat × ET) := [(6,(.one (.int .i64)))]
noncomputable def laws_szInt64S_c : Callee := mkCallee laws_szInt64S_D laws_szInt64S_H laws_szInt64S_ir [.d (.one (.sl (.one (.int .i64)))),.d (.one (.int .i64))] [.d (.one (.int .i64))] []
noncomputable def laws_szInt64S (a0 : List Int) (a1 : Int) : Option (Int) := laws_szInt64S_c.f (a0,a1,())
theorem laws_szInt64S_eq (a0 : List Int) (a1 : Int) : laws_szInt64S a0 a1 =
 if decide (IntKind.i64.wrap (a1 - (a0.length : Int)) < 0) then
  some (-1)
 else
  some (IntKind.i64.wrap (a1 - (a0.length : Int))) :=
 (mk_f _ _ _ _ _ _ _ 4000).trans (by kernel_rfl)
def laws_szInt64SS_k0 : C :=
 .seq (.seq (.reg false [.V 12 (.mv (.t 5)),.V 13 (.mv (.t 0)),.V 14 (.len (.t 13)),.V 15 (.bin .lss (.t 12) (.t 14))] [0,1,5,15] []) (.cond (.t 15) .skip (.exit 0))) (.seq (.block 1 (.seq (.reg false [.V 18 (.mv (.t 0)),.V 19 (.mv (.t 5)),.V 20 (.ia 1 (.t 18) (.t 19)),.V 21 (.ld none (.t 20)),.V 22 (.mv (.t 1)),.V 23 (.call (.c (.fn 598 [])) [.t 21,.t 22]),.V 1 (.asg (.t 23))] [0,1,5] []) (.seq (.reg false [.V 24 (.mv (.t 1)),.V 25 (.bin .lss (.t 24) (.c (.int .i64 0)))] [0,1,5,25] []) (.cond (.t 25) (.seq (.reg false [.V 4 (.asg (.c (.int .i64 (-1))))] [4] []) .ret) .skip)))) (.reg false [.V 16 (.mv (.t 5)),.V 17 (.bin .add (.t 16) (.c (.int .i64 1))),.V 5 (.asg (.t 17))] [0,1,5] []))
def laws_szInt64SS_k1 : C :=
 .norm [0,1,5] [] laws_szInt64SS_k0
def laws_szInt64SS_k2 : C :=
 .seq (.reg false [.V 26 (.mv (.t 1)),.V 4 (.asg (.t 26))] [4] []) .ret
def laws_szInt64SS_ir : Fn := { np := 2,io := [],res := [.t 4],own := [false],body :=
 (.seq (.reg false [.V 4 (.asg (.c (.int .i64 0)))] [0,1] []) (.seq (.reg false [.V 6 (.mv (.t 1)),.V 7 (.mv (.t 0)),.V 8 (.len (.t 7)),.V 9 (.bin .sub (.t 6) (.t 8)),.V 1 (.asg (.t 9))] [0,1] []) (.seq (.seq (.reg false [.V 10 (.mv (.t 1)),.V 11 (.bin .lss (.t 10) (.c (.int .i64 0)))] [0,1,11] []) (.cond (.t 11) (.seq (.reg false [.V 4 (.asg (.c (.int .i64 (-1))))] [4] []) .ret) .skip)) (.seq (.seq (.reg false [.V 5 (.asg (.c (.int .i64 0)))] [0,1,5] []) (.block 0 (.loop laws_szInt64SS_k1))) laws_szInt64SS_k2)))) }
noncomputable def laws_szInt64SS_D : List (Nat × Callee) := [(598,laws_szInt64S_c)]
def laws_szInt64SS_H : List (Nat × ET) := [(7,(.one (.sl (.one (.int .i64))))),(13,(.one (.sl (.one (.int .i64))))),(18,(.one (.sl (.one (.int .i64))))),(21,(.one (.int .i64)))]
noncomputable def laws_szInt64SS_c : Callee := mkCallee laws_szInt64SS_D laws_szInt64SS_H laws_szInt64SS_ir [.d (.one (.sl (.one (.sl (.one (.int .i64)))))),.d (.one (.int .i64))] [.d (.one (.int .i64))] []
noncomputable def laws_szInt64SS (a0 : List (List Int)) (a1 : Int) : Option (Int) := laws_szInt64SS_c.f (a0,a1,())
noncomputable def laws_szInt64SS_p0  (v0 : List (List Int)) (v1 : Int) (v5 : Int) : Option (Int) :=
 goL laws_szInt64SS_D laws_szInt64SS_H (vleave laws_szInt64SS_ir [.d (.one (.sl (.one (.sl (.one (.int .i64)))))),.d (.one (.int .i64))] [.d (.one (.int .i64))] [] []) [.c laws_szInt64SS_k0,.l laws_szInt64SS_k1,.e 0,.c laws_szInt64SS_k2]
  ⟨[(0,.sl (.one (.sl (.one (.int .i64)))) v0),(1,.int .i64 v1),(5,.int .i64 v5)],[]⟩
theorem laws_szInt64SS_eq (a0 : List (List Int)) (a1 : Int) : laws_szInt64SS a0 a1 =
 if decide (IntKind.i64.wrap (a1 - (a0.length : Int)) < 0) then
  some (-1)
 else
  laws_szInt64SS_p0 a0 (IntKind.i64.wrap (a1 - (a0.length : Int))) 0 :=
 (mk_f _ _ _ _ _ _ _ 4000).trans (by kernel_rfl)
theorem laws_szInt64SS_p0_eq  (v0 : List (List Int)) (v1 : Int) (v5 : Int) : laws_szInt64SS_p0 v0 v1 v5 =
 if decide (v5 < (v0.length : Int)) then
  if decide (0 ≤ v5) then
   (v0[v5.toNat]?).bind fun x1 =>
    (laws_szInt64S x1 v1).bind fun x2 =>
     if decide (x2 < 0) then
      some (-1)
     else
      laws_szInt64SS_p0 v0 x2 (IntKind.i64.wrap (v5 + 1))
  else
   none
 else
  some v1 :=
 (goL_dn _ _ _ 4000 _ _).trans (by kernel_rfl)
def laws_szPeg_ir : Fn := { np := 2,io := [],res := [.t 4],own := [false],body :=
 (.seq (.reg false [.W 2 (.box 4 (.t 0)),.V 4 (.asg (.c (.int .i64 0)))] [1,2] [2]) (.seq (.reg false [.V 5 (.mv (.t 1)),.V 6 (.fa 0 (.t 2)),.V 7 (.ld none (.t 6)),.V 8 (.lens (.t 7)),.V 9 (.bin .sub (.t 5) (.t 8)),.V 1 (.asg (.t 9))] [1] []) (.seq (.seq (.reg false [.V 10 (.mv (.t 1)),.V 11 (.bin .lss (.t 10) (.c (.int .i64 0)))] [1,11] []) (.cond (.t 11) (.seq (.reg false [.V 4 (.asg (.c (.int .i64 (-1))))] [4] []) .ret) .skip)) (.seq (.reg false [.V 12 (.mv (.t 1)),.V 4 (.asg (.t 12))] [4] []) .ret)))) }
noncomputable def laws_szPeg_D : List (Nat × Callee) := []
def laws_szPeg_H : List (Nat × ET) := []
noncomputable def laws_szPeg_c : Callee := mkCallee laws_szPeg_D laws_szPeg_H laws_szPeg_ir [.d T_Peg,.d (.one (.int .i64))] [.d (.one (.int .i64))] []
noncomputable def laws_szPeg (a0 : T_Peg.ty) (a1 : Int) : Option (Int) := laws_szPeg_c.f (a0,a1,())
theorem laws_szPeg_eq (a0 : T_Peg.ty) (a1 : Int) : laws_szPeg a0 a1 =
 if decide (IntKind.i64.wrap (a1 - (a0.1.length : Int)) < 0) then
  some (-1)
 else
  some (IntKind.i64.wrap (a1 - (a0.1.length : Int))) :=
 (mk_f _ _ _ _ _ _ _ 4000).trans (by kernel_rfl)
def laws_szPegS_k0 : C :=
 .seq (.seq (.reg false [.V 12 (.mv (.t 5)),.V 13 (.mv (.t 0)),.V 14 (.len (.t 13)),.V 15 (.bin .lss (.t 12) (.t 14))] [0,1,5,15] []) (.cond (.t 15) .skip (.exit 0))) (.seq (.block 1 (.seq (.reg false [.V 18 (.mv (.t 0)),.V 19 (.mv (.t 5)),.V 20 (.ia 4 (.t 18) (.t 19)),.V 21 (.ld (some 4) (.t 20)),.V 22 (.mv (.t 1)),.V 23 (.call (.c (.fn 493 [])) [.t 21,.t 22]),.V 1 (.asg (.t 23))] [0,1,5] []) (.seq (.reg false [.V 24 (.mv (.t 1)),.V 25 (.bin .lss (.t 24) (.c (.int .i64 0)))] [0,1,5,25] []) (.cond (.t 25) (.seq (.reg false [.V 4 (.asg (.c (.int .i64 (-1))))] [4] []) .ret) .skip)))) (.reg false [.V 16 (.mv (.t 5)),.V 17 (.bin .add (.t 16) (.c (.int .i64 1))),.V 5 (.asg (.t 17))] [0,1,5] []))
def laws_szPegS_k1 : C :=
 .norm [0,1,5] [] laws_szPegS_k0
def laws_szPegS_k2 : C :=
 .seq (.reg false [.V 26 (.mv (.t 1)),.V 4 (.asg (.t 26))] [4] []) .ret
def laws_szPegS_ir : Fn := { np := 2,io := [],res := [.t 4],own := [false],body :=
 (.seq (.reg false [.V 4 (.asg (.c (.int .i64 0)))] [0,1] []) (.seq (.reg false [.V 6 (.mv (.t 1)),.V 7 (.mv (.t 0)),.V 8 (.len (.t 7)),.V 9 (.bin .sub (.t 6) (.t 8)),.V 1 (.asg (.t 9))] [0,1] []) (.seq (.seq (.reg false [.V 10 (.mv (.t 1)),.V 11 (.bin .lss (.t 10) (.c (.int .i64 0)))] [0,1,11] []) (.cond (.t 11) (.seq (.reg false [.V 4 (.asg (.c (.int .i64 (-1))))] [4] []) .ret) .skip)) (.seq (.seq (.reg false [.V 5 (.asg (.c (.int .i64 0)))] [0,1,5] []) (.block 0 (.loop laws_szPegS_k1))) laws_szPegS_k2)))) }
noncomputable def laws_szPegS_D : List (Nat × Callee) := [(493,laws_szPeg_c)]
def laws_szPegS_H : List (Nat × ET) := [(7,T_Peg),(13,T_Peg),(18,T_Peg)]
noncomputable def laws_szPegS_c : Callee := mkCallee laws_szPegS_D laws_szPegS_H laws_szPegS_ir [.d (.one (.sl T_Peg)),.d (.one (.int .i64))] [.d (.one (.int .i64))] []
noncomputable def laws_szPegS (a0 : List T_Peg.ty) (a1 : Int) : Option (Int) := laws_szPegS_c.f (a0,a1,())
noncomputable def laws_szPegS_p0  (v0 : List T_Peg.ty) (v1 : Int) (v5 : Int) : Option (Int) :=
 goL laws_szPegS_D laws_szPegS_H (vleave laws_szPegS_ir [.d (.one (.sl T_Peg)),.d (.one (.int .i64))] [.d (.one (.int .i64))] [] []) [.c laws_szPegS_k0,.l laws_szPegS_k1,.e 0,.c laws_szPegS_k2]
  ⟨[(0,.sl T_Peg v0),(1,.int .i64 v1),(5,.int .i64 v5)],[]⟩
theorem laws_szPegS_eq (a0 : List T_Peg.ty) (a1 : Int) : laws_szPegS a0 a1 =
 if decide (IntKind.i64.wrap (a1 - (a0.length : Int)) < 0) then
  some (-1)
 else
  laws_szPegS_p0 a0 (IntKind.i64.wrap (a1 - (a0.length : Int))) 0 :=
 (mk_f _ _ _ _ _ _ _ 4000).trans (by kernel_rfl)
theorem laws_szPegS_p0_eq  (v0 : List T_Peg.ty) (v1 : Int) (v5 : Int) : laws_szPegS_p0 v0 v1 v5 =
 if decide (v5 < (v0.length : Int)) then
  if decide (0 ≤ v5) then
   (v0[v5.toNat]?).bind fun x1 =>
    (laws_szPeg x1 v1).bind fun x2 =>
     if decide (x2 < 0) then
      some (-1)
     else
      laws_szPegS_p0 v0 x2 (IntKind.i64.wrap (v5 + 1))
  else
   none
 else
  some v1 :=
 (goL_dn _ _ _ 4000 _ _).trans (by kernel_rfl)
def laws_szPot_ir : Fn := { np := 2,io := [],res := [.t 4],own := [false],body :=
 (.seq (.reg false [.W 2 (.box 5 (.t 0)),.V 4 (.asg (.c (.int .i64 0)))] [1,2] [2]) (.seq (.reg false [.V 5 (.mv (.t 1)),.V 6 (.fa 0 (.t 2)),.V 7 (.ld none (.t 6)),.V 8 (.lens (.t 7)),.V 9 (.bin .sub (.t 5) (.t 8)),.V 1 (.asg (.t 9))] [1] []) (.seq (.seq (.reg false [.V 10 (.mv (.t 1)),.V 11 (.bin .lss (.t 10) (.c (.int .i64 0)))] [1,11] []) (.cond (.t 11) (.seq (.reg false [.V 4 (.asg (.c (.int .i64 (-1))))] [4] []) .ret) .skip)) (.seq (.reg false [.V 12 (.mv (.t 1)),.V 4 (.asg (.t 12))] [4] []) .ret)))) }
noncomputable def laws_szPot_D : List (Nat × Callee) := []
def laws_szPot_H : List (Nat × ET) := []
noncomputable def laws_szPot_c : Callee := mkCallee laws_szPot_D laws_szPot_H laws_szPot_ir [.d T_Pot,.d (.one (.int .i64))] [.d (.one (.int .i64))] []
noncomputable def laws_szPot (a0 : T_Pot.ty) (a1 : Int) : Option (Int) := laws_szPot_c.f (a0,a1,())
theorem laws_szPot_eq (a0 : T_Pot.ty) (a1 : Int) : laws_szPot a0 a1 =
 if decide (IntKind.i64.wrap (a1 - (a0.1.length : Int)) < 0) then
  some (-1)
 else
  some (IntKind.i64.wrap (a1 - (a0.1.length : Int))) :=
 (mk_f _ _ _ _ _ _ _ 4000).trans (by kernel_rfl)
def laws_szPotS_k0 : C :=
 .seq (.seq (.reg false [.V 12 (.mv (.t 5)),.V 13 (.mv (.t 0)),.V 14 (.len (.t 13)),.V 15 (.bin .lss (.t 12) (.t 14))] [0,1,5,15] []) (.cond (.t 15) .skip (.exit 0))) (.seq (.block 1 (.seq (.reg false [.V 18 (.mv (.t 0)),.V 19 (.mv (.t 5)),.V 20 (.ia 5 (.t 18) (.t 19)),.V 21 (.ld (some 5) (.t 20)),.V 22 (.mv (.t 1)),.V 23 (.call (.c (.fn 34 [])) [.t 21,.t 22]),.V 1 (.asg (.t 23))] [0,1,5] []) (.seq (.reg false [.V 24 (.mv (.t 1)),.V 25 (.bin .lss (.t 24) (.c (.int .i64 0)))] [0,1,5,25] []) (.cond (.t 25) (.seq (.reg false [.V 4 (.asg (.c (.int .i64 (-1))))] [4] []) .ret) .skip)))) (.reg false [.V 16 (.mv (.t 5)),.V 17 (.bin .add (.t 16) (.c (.int .i64 1))),.V 5 (.asg (.t 17))] [0,1,5] []))
def laws_szPotS_k1 : C :=
 .norm [0,1,5] [] laws_szPotS_k0
def laws_szPotS_k2 : C :=
 .seq (.reg false [.V 26 (.mv (.t 1)),.V 4 (.asg (.t 26))] [4] []) .ret
def laws_szPotS_ir : Fn := { np := 2,io := [],res := [.t 4],own := [false],body :=
 (.seq (.reg false [.V 4 (.asg (.c (.int .i64 0)))] [0,1] []) (.seq (.reg false [.V 6 (.mv (.t 1)),.V 7 (.mv (.t 0)),.V 8 (.len (.t 7)),.V 9 (.bin .sub (.t 6) (.t 8)),.V 1 (.asg (.t 9))] [0,1] []) (.seq (.seq (.reg false [.V 10 (.mv (.t 1)),.V 11 (.bin .lss (.t 10) (.c (.int .i64 0)))] [0,1,11] []) (.cond (.t 11) (.seq (.reg false [.V 4 (.asg (.c (.int .i64 (-1))))] [4] []) .ret) .skip)) (.seq (.seq (.reg false [.V 5 (.asg (.c (.int .i64 0)))] [0,1,5] []) (.block 0 (.loop laws_szPotS_k1))) laws_szPotS_k2)))) }
noncomputable def laws_szPotS_D : List (Nat × Callee) := [(34,laws_szPot_c)]
def laws_szPotS_H : List (Nat × ET) := [(7,T_Pot),(13,T_Pot),(18,T_Pot)]
noncomputable def laws_szPotS_c : Callee := mkCallee laws_szPotS_D laws_szPotS_H laws_szPotS_ir [.d (.one (.sl T_Pot)),.d (.one (.int .i64))] [.d (.one (.int .i64))] []
noncomputable def laws_szPotS (a0 : List T_Pot.ty) (a1 : Int) : Option (Int) := laws_szPotS_c.f (a0,a1,())
noncomputable def laws_szPotS_p0  (v0 : List T_Pot.ty) (v1 : Int) (v5 : Int) : Option (Int) :=
 goL laws_szPotS_D laws_szPotS_H (vleave laws_szPotS_ir [.d (.one (.sl T_Pot)),.d (.one (.int .i64))] [.d (.one (.int .i64))] [] []) [.c laws_szPotS_k0,.l laws_szPotS_k1,.e 0,.c laws_szPotS_k2]
  ⟨[(0,.sl T_Pot v0),(1,.int .i64 v1),(5,.int .i64 v5)],[]⟩
theorem laws_szPotS_eq (a0 : List T_Pot.ty) (a1 : Int) : laws_szPotS a0 a1 =
 if decide (IntKind.i64.wrap (a1 - (a0.length : Int)) < 0) then
  some (-1)
 else
  laws_szPotS_p0 a0 (IntKind.i64.wrap (a1 - (a0.length : Int))) 0 :=
 (mk_f _ _ _ _ _ _ _ 4000).trans (by kernel_rfl)
theorem laws_szPotS_p0_eq  (v0 : List T_Pot.ty) (v1 : Int) (v5 : Int) : laws_szPotS_p0 v0 v1 v5 =
 if decide (v5 < (v0.length : Int)) then
  if decide (0 ≤ v5) then
   (v0[v5.toNat]?).bind fun x1 =>
    (laws_szPot x1 v1).bind fun x2 =>
     if decide (x2 < 0) then
      some (-1)
     else
      laws_szPotS_p0 v0 x2 (IntKind.i64.wrap (v5 + 1))
  else
   none
 else
  some v1 :=
 (goL_dn _ _ _ 4000 _ _).trans (by kernel_rfl)
def laws_szMode_ir : Fn := { np := 2,io := [],res := [.t 4],own := [false],body :=
 (.seq (.reg false [.W 2 (.box 3 (.t 0)),.V 4 (.asg (.c (.int .i64 0)))] [1,2] [2]) (.seq (.reg false [.V 5 (.mv (.t 1)),.V 6 (.fa 0 (.t 2)),.V 7 (.ld none (.t 6)),.V 8 (.lens (.t 7)),.V 9 (.bin .sub (.t 5) (.t 8)),.V 1 (.asg (.t 9))] [1] []) (.seq (.seq (.reg false [.V 10 (.mv (.t 1)),.V 11 (.bin .lss (.t 10) (.c (.int .i64 0)))] [1,11] []) (.cond (.t 11) (.seq (.reg false [.V 4 (.asg (.c (.int .i64 (-1))))] [4] []) .ret) .skip)) (.seq (.reg false [.V 12 (.mv (.t 1)),.V 4 (.asg (.t 12))] [4] []) .ret)))) }
noncomputable def laws_szMode_D : List (Nat × Callee) := []
def laws_szMode_H : List (Nat × ET) := []
noncomputable def laws_szMode_c : Callee := mkCallee laws_szMode_D laws_szMode_H laws_szMode_ir [.d T_Mode,.d (.one (.int .i64))] [.d (.one (.int .i64))] []
noncomputable def laws_szMode (a0 : T_Mode.ty) (a1 : Int) : Option (Int) := laws_szMode_c.f (a0,a1,())
theorem laws_szMode_eq (a0 : T_Mode.ty) (a1 : Int) : laws_szMode a0 a1 =
 if decide (IntKind.i64.wrap (a1 - (a0.1.length : Int)) < 0) then
  some (-1)
 else
  some (IntKind.i64.wrap (a1 - (a0.1.length : Int))) :=
 (mk_f _ _ _ _ _ _ _ 4000).trans (by kernel_rfl)
def laws_szModeS_k0 : C :=
 .seq (.seq (.reg false [.V 12 (.mv (.t 5)),.V 13 (.mv (.t 0)),.V 14 (.len (.t 13)),.V 15 (.bin .lss (.t 12) (.t 14))] [0,1,5,15] []) (.cond (.t 15) .skip (.exit 0))) (.seq (.block 1 (.seq (.reg false [.V 18 (.mv (.t 0)),.V 19 (.mv (.t 5)),.V 20 (.ia 3 (.t 18) (.t 19)),.V 21 (.ld (some 3) (.t 20)),.V 22 (.mv (.t 1)),.V 23 (.call (.c (.fn 915 [])) [.t 21,.t 22]),.V 1 (.asg (.t 23))] [0,1,5] []) (.seq (.reg false [.V 24 (.mv (.t 1)),.V 25 (.bin .lss (.t 24) (.c (.int .i64 0)))] [0,1,5,25] []) (.cond (.t 25) (.seq (.reg false [.V 4 (.asg (.c (.int .i64 (-1))))] [4] []) .ret) .skip)))) (.reg false [.V 16 (.mv (.t 5)),.V 17 (.bin .add (.t 16) (.c (.int .i64 1))),.V 5 (.asg (.t 17))] [0,1,5] []))
def laws_szModeS_k1 : C :=
 .norm [0,1,5] [] laws_szModeS_k0
def laws_szModeS_k2 : C :=
 .seq (.reg false [.V 26 (.mv (.t 1)),.V 4 (.asg (.t 26))] [4] []) .ret
def laws_szModeS_ir : Fn := { np := 2,io := [],res := [.t 4],own := [false],body :=
 (.seq (.reg false [.V 4 (.asg (.c (.int .i64 0)))] [0,1] []) (.seq (.reg false [.V 6 (.mv (.t 1)),.V 7 (.mv (.t 0)),.V 8 (.len (.t 7)),.V 9 (.bin .sub (.t 6) (.t 8)),.V 1 (.asg (.t 9))] [0,1] []) (.seq (.seq (.reg false [.V 10 (.mv (.t 1)),.V 11 (.bin .lss (.t 10) (.c (.int .i64 0)))] [0,1,11] []) (.cond (.t 11) (.seq (.reg false [.V 4 (.asg (.c (.int .i64 (-1))))] [4] []) .ret) .skip)) (.seq (.seq (.reg false [.V 5 (.asg (.c (.int .i64 0)))] [0,1,5] []) (.block 0 (.loop laws_szModeS_k1))) laws_szModeS_k2)))) }
noncomputable def laws_szModeS_D : List (Nat × Callee) := [(915,laws_szMode_c)]
def laws_szModeS_H : List (Nat × ET) := [(7,T_Mode),(13,T_Mode),(18,T_Mode)]
noncomputable def laws_szModeS_c : Callee := mkCallee laws_szModeS_D laws_szModeS_H laws_szModeS_ir [.d (.one (.sl T_Mode)),.d (.one (.int .i64))] [.d (.one (.int .i64))] []
noncomputable def laws_szModeS (a0 : List T_Mode.ty) (a1 : Int) : Option (Int) := laws_szModeS_c.f (a0,a1,())
noncomputable def laws_szModeS_p0  (v0 : List T_Mode.ty) (v1 : Int) (v5 : Int) : Option (Int) :=
 goL laws_szModeS_D laws_szModeS_H (vleave laws_szModeS_ir [.d (.one (.sl T_Mode)),.d (.one (.int .i64))] [.d (.one (.int .i64))] [] []) [.c laws_szModeS_k0,.l laws_szModeS_k1,.e 0,.c laws_szModeS_k2]
  ⟨[(0,.sl T_Mode v0),(1,.int .i64 v1),(5,.int .i64 v5)],[]⟩
theorem laws_szModeS_eq (a0 : List T_Mode.ty) (a1 : Int) : laws_szModeS a0 a1 =
 if decide (IntKind.i64.wrap (a1 - (a0.length : Int)) < 0) then
  some (-1)
 else
  laws_szModeS_p0 a0 (IntKind.i64.wrap (a1 - (a0.length : Int))) 0 :=
 (mk_f _ _ _ _ _ _ _ 4000).trans (by kernel_rfl)
theorem laws_szModeS_p0_eq  (v0 : List T_Mode.ty) (v1 : Int) (v5 : Int) : laws_szModeS_p0 v0 v1 v5 =
 if decide (v5 < (v0.length : Int)) then
  if decide (0 ≤ v5) then
   (v0[v5.toNat]?).bind fun x1 =>
    (laws_szMode x1 v1).bind fun x2 =>
     if decide (x2 < 0) then
      some (-1)
     else
      laws_szModeS_p0 v0 x2 (IntKind.i64.wrap (v5 + 1))
  else
   none
 else
  some v1 :=
 (goL_dn _ _ _ 4000 _ _).trans (by kernel_rfl)
def laws_szWork_ir : Fn := { np := 2,io := [],res := [.t 4],own := [false],body :=
 (.seq (.reg false [.W 2 (.box 4 (.t 0)),.V 4 (.asg (.c (.int .i64 0)))] [1,2] [2]) (.seq (.reg false [.V 5 (.mv (.t 1)),.V 6 (.fa 0 (.t 2)),.V 7 (.ld none (.t 6)),.V 8 (.lens (.t 7)),.V 9 (.bin .sub (.t 5) (.t 8)),.V 1 (.asg (.t 9))] [1] []) (.seq (.seq (.reg false [.V 10 (.mv (.t 1)),.V 11 (.bin .lss (.t 10) (.c (.int .i64 0)))] [1,11] []) (.cond (.t 11) (.seq (.reg false [.V 4 (.asg (.c (.int .i64 (-1))))] [4] []) .ret) .skip)) (.seq (.reg false [.V 12 (.mv (.t 1)),.V 4 (.asg (.t 12))] [4] []) .ret)))) }
noncomputable def laws_szWork_D : List (Nat × Callee) := []
def laws_szWork_H : List (Nat × ET) := []
noncomputable def laws_szWork_c : Callee := mkCallee laws_szWork_D laws_szWork_H laws_szWork_ir [.d T_Peg,.d (.one (.int .i64))] [.d (.one (.int .i64))] []
noncomputable def laws_szWork (a0 : T_Peg.ty) (a1 : Int) : Option (Int) := laws_szWork_c.f (a0,a1,())
theorem laws_szWork_eq (a0 : T_Peg.ty) (a1 : Int) : laws_szWork a0 a1 =
 if decide (IntKind.i64.wrap (a1 - (a0.1.length : Int)) < 0) then
  some (-1)
 else
  some (IntKind.i64.wrap (a1 - (a0.1.length : Int))) :=
 (mk_f _ _ _ _ _ _ _ 4000).trans (by kernel_rfl)
def laws_szWorkS_k0 : C :=
 .seq (.seq (.reg false [.V 12 (.mv (.t 5)),.V 13 (.mv (.t 0)),.V 14 (.len (.t 13)),.V 15 (.bin .lss (.t 12) (.t 14))] [0,1,5,15] []) (.cond (.t 15) .skip (.exit 0))) (.seq (.block 1 (.seq (.reg false [.V 18 (.mv (.t 0)),.V 19 (.mv (.t 5)),.V 20 (.ia 4 (.t 18) (.t 19)),.V 21 (.ld (some 4) (.t 20)),.V 22 (.mv (.t 1)),.V 23 (.call (.c (.fn 916 [])) [.t 21,.t 22]),.V 1 (.asg (.t 23))] [0,1,5] []) (.seq (.reg false [.V 24 (.mv (.t 1)),.V 25 (.bin .lss (.t 24) (.c (.int .i64 0)))] [0,1,5,25] []) (.cond (.t 25) (.seq (.reg false [.V 4 (.asg (.c (.int .i64 (-1))))] [4] []) .ret) .skip)))) (.reg false [.V 16 (.mv (.t 5)),.V 17 (.bin .add (.t 16) (.c (.int .i64 1))),.V 5 (.asg (.t 17))] [0,1,5] []))
def laws_szWorkS_k1 : C :=
 .norm [0,1,5] [] laws_szWorkS_k0
def laws_szWorkS_k2 : C :=
 .seq (.reg false [.V 26 (.mv (.t 1)),.V 4 (.asg (.t 26))] [4] []) .ret
def laws_szWorkS_ir : Fn := { np := 2,io := [],res := [.t 4],own := [false],body :=
 (.seq (.reg false [.V 4 (.asg (.c (.int .i64 0)))] [0,1] []) (.seq (.reg false [.V 6 (.mv (.t 1)),.V 7 (.mv (.t 0)),.V 8 (.len (.t 7)),.V 9 (.bin .sub (.t 6) (.t 8)),.V 1 (.asg (.t 9))] [0,1] []) (.seq (.seq (.reg false [.V 10 (.mv (.t 1)),.V 11 (.bin .lss (.t 10) (.c (.int .i64 0)))] [0,1,11] []) (.cond (.t 11) (.seq (.reg false [.V 4 (.asg (.c (.int .i64 (-1))))] [4] []) .ret) .skip)) (.seq (.seq (.reg false [.V 5 (.asg (.c (.int .i64 0)))] [0,1,5] []) (.block 0 (.loop laws_szWorkS_k1))) laws_szWorkS_k2)))) }
noncomputable def laws_szWorkS_D : List (Nat × Callee) := [(916,laws_szWork_c)]
def laws_szWorkS_H : List (Nat × ET) := [(7,T_Peg),(13,T_Peg),(18,T_Peg)]
noncomputable def laws_szWorkS_c : Callee := mkCallee laws_szWorkS_D laws_szWorkS_H laws_szWorkS_ir [.d (.one (.sl T_Peg)),.d (.one (.int .i64))] [.d (.one (.int .i64))] []
noncomputable def laws_szWorkS (a0 : List T_Peg.ty) (a1 : Int) : Option (Int) := laws_szWorkS_c.f (a0,a1,())
noncomputable def laws_szWorkS_p0  (v0 : List T_Peg.ty) (v1 : Int) (v5 : Int) : Option (Int) :=
 goL laws_szWorkS_D laws_szWorkS_H (vleave laws_szWorkS_ir [.d (.one (.sl T_Peg)),.d (.one (.int .i64))] [.d (.one (.int .i64))] [] []) [.c laws_szWorkS_k0,.l laws_szWorkS_k1,.e 0,.c laws_szWorkS_k2]
  ⟨[(0,.sl T_Peg v0),(1,.int .i64 v1),(5,.int .i64 v5)],[]⟩
theorem laws_szWorkS_eq (a0 : List T_Peg.ty) (a1 : Int) : laws_szWorkS a0 a1 =
 if decide (IntKind.i64.wrap (a1 - (a0.length : Int)) < 0) then
  some (-1)
 else
  laws_szWorkS_p0 a0 (IntKind.i64.wrap (a1 - (a0.length : Int))) 0 :=
 (mk_f _ _ _ _ _ _ _ 4000).trans (by kernel_rfl)
theorem laws_szWorkS_p0_eq  (v0 : List T_Peg.ty) (v1 : Int) (v5 : Int) : laws_szWorkS_p0 v0 v1 v5 =
 if decide (v5 < (v0.length : Int)) then
  if decide (0 ≤ v5) then
   (v0[v5.toNat]?).bind fun x1 =>
    (laws_szWork x1 v1).bind fun x2 =>
     if decide (x2 < 0) then
      some (-1)
     else
      laws_szWorkS_p0 v0 x2 (IntKind.i64.wrap (v5 + 1))
  else
   none
 else
  some v1 :=
 (goL_dn _ _ _ 4000 _ _).trans (by kernel_rfl)
def laws_szPaper_ir : Fn := { np := 2,io := [],res := [.t 4],own := [false],body :=
 (.seq (.reg false [.W 2 (.box 5 (.t 0)),.V 4 (.asg (.c (.int .i64 0)))] [1,2] [2]) (.seq (.reg false [.V 5 (.mv (.t 1)),.V 6 (.fa 0 (.t 2)),.V 7 (.ld none (.t 6)),.V 8 (.lens (.t 7)),.V 9 (.bin .sub (.t 5) (.t 8)),.V 1 (.asg (.t 9))] [1,2] [2]) (.seq (.seq (.reg false [.V 10 (.mv (.t 1)),.V 11 (.bin .lss (.t 10) (.c (.int .i64 0)))] [1,2,11] [2]) (.cond (.t 11) (.seq (.reg false [.V 4 (.asg (.c (.int .i64 (-1))))] [4] []) .ret) .skip)) (.seq (.reg false [.V 12 (.mv (.t 1)),.V 13 (.fa 1 (.t 2)),.V 14 (.ld none (.t 13)),.V 15 (.lens (.t 14)),.V 16 (.bin .sub (.t 12) (.t 15)),.V 1 (.asg (.t 16))] [1] []) (.seq (.seq (.reg false [.V 17 (.mv (.t 1)),.V 18 (.bin .lss (.t 17) (.c (.int .i64 0)))] [1,18] []) (.cond (.t 18) (.seq (.reg false [.V 4 (.asg (.c (.int .i64 (-1))))] [4] []) .ret) .skip)) (.seq (.reg false [.V 19 (.mv (.t 1)),.V 4 (.asg (.t 19))] [4] []) .ret)))))) }
noncomputable def laws_szPaper_D : List (Nat × Callee) := []
def laws_szPaper_H : List (Nat × ET) := []
noncomputable def laws_szPaper_c : Callee := mkCallee laws_szPaper_D laws_szPaper_H laws_szPaper_ir [.d T_Paper,.d (.one (.int .i64))] [.d (.one (.int .i64))] []
noncomputable def laws_szPaper (a0 : T_Paper.ty) (a1 : Int) : Option (Int) := laws_szPaper_c.f (a0,a1,())
theorem laws_szPaper_eq (a0 : T_Paper.ty) (a1 : Int) : laws_szPaper a0 a1 =
 if decide (IntKind.i64.wrap (a1 - (a0.1.length : Int)) < 0) then
  some (-1)
 else
  if decide (IntKind.i64.wrap ((IntKind.i64.wrap (a1 - (a0.1.length : Int))) - (a0.2.1.length : Int)) < 0) then
   some (-1)
  else
   some (IntKind.i64.wrap ((IntKind.i64.wrap (a1 - (a0.1.length : Int))) - (a0.2.1.length : Int))) :=
 (mk_f _ _ _ _ _ _ _ 4000).trans (by kernel_rfl)
def laws_szPaperS_k0 : C :=
 .seq (.seq (.reg false [.V 12 (.mv (.t 5)),.V 13 (.mv (.t 0)),.V 14 (.len (.t 13)),.V 15 (.bin .lss (.t 12) (.t 14))] [0,1,5,15] []) (.cond (.t 15) .skip (.exit 0))) (.seq (.block 1 (.seq (.reg false [.V 18 (.mv (.t 0)),.V 19 (.mv (.t 5)),.V 20 (.ia 5 (.t 18) (.t 19)),.V 21 (.ld (some 5) (.t 20)),.V 22 (.mv (.t 1)),.V 23 (.call (.c (.fn 725 [])) [.t 21,.t 22]),.V 1 (.asg (.t 23))] [0,1,5] []) (.seq (.reg false [.V 24 (.mv (.t 1)),.V 25 (.bin .lss (.t 24) (.c (.int .i64 0)))] [0,1,5,25] []) (.cond (.t 25) (.seq (.reg false [.V 4 (.asg (.c (.int .i64 (-1))))] [4] []) .ret) .skip)))) (.reg false [.V 16 (.mv (.t 5)),.V 17 (.bin .add (.t 16) (.c (.int .i64 1))),.V 5 (.asg (.t 17))] [0,1,5] []))
def laws_szPaperS_k1 : C :=
 .norm [0,1,5] [] laws_szPaperS_k0
def laws_szPaperS_k2 : C :=
 .seq (.reg false [.V 26 (.mv (.t 1)),.V 4 (.asg (.t 26))] [4] []) .ret
def laws_szPaperS_ir : Fn := { np := 2,io := [],res := [.t 4],own := [false],body :=
 (.seq (.reg false [.V 4 (.asg (.c (.int .i64 0)))] [0,1] []) (.seq (.reg false [.V 6 (.mv (.t 1)),.V 7 (.mv (.t 0)),.V 8 (.len (.t 7)),.V 9 (.bin .sub (.t 6) (.t 8)),.V 1 (.asg (.t 9))] [0,1] []) (.seq (.seq (.reg false [.V 10 (.mv (.t 1)),.V 11 (.bin .lss (.t 10) (.c (.int .i64 0)))] [0,1,11] []) (.cond (.t 11) (.seq (.reg false [.V 4 (.asg (.c (.int .i64 (-1))))] [4] []) .ret) .skip)) (.seq (.seq (.reg false [.V 5 (.asg (.c (.int .i64 0)))] [0,1,5] []) (.block 0 (.loop laws_szPaperS_k1))) laws_szPaperS_k2)))) }
noncomputable def laws_szPaperS_D : List (Nat × Callee) := [(725,laws_szPaper_c)]
def laws_szPaperS_H : List (Nat × ET) := [(7,T_Paper),(13,T_Paper),(18,T_Paper)]
noncomputable def laws_szPaperS_c : Callee := mkCallee laws_szPaperS_D laws_szPaperS_H laws_szPaperS_ir [.d (.one (.sl T_Paper)),.d (.one (.int .i64))] [.d (.one (.int .i64))] []
noncomputable def laws_szPaperS (a0 : List T_Paper.ty) (a1 : Int) : Option (Int) := laws_szPaperS_c.f (a0,a1,())
noncomputable def laws_szPaperS_p0  (v0 : List T_Paper.ty) (v1 : Int) (v5 : Int) : Option (Int) :=
 goL laws_szPaperS_D laws_szPaperS_H (vleave laws_szPaperS_ir [.d (.one (.sl T_Paper)),.d (.one (.int .i64))] [.d (.one (.int .i64))] [] []) [.c laws_szPaperS_k0,.l laws_szPaperS_k1,.e 0,.c laws_szPaperS_k2]
  ⟨[(0,.sl T_Paper v0),(1,.int .i64 v1),(5,.int .i64 v5)],[]⟩
theorem laws_szPaperS_eq (a0 : List T_Paper.ty) (a1 : Int) : laws_szPaperS a0 a1 =
 if decide (IntKind.i64.wrap (a1 - (a0.length : Int)) < 0) then
  some (-1)
 else
  laws_szPaperS_p0 a0 (IntKind.i64.wrap (a1 - (a0.length : Int))) 0 :=
 (mk_f _ _ _ _ _ _ _ 4000).trans (by kernel_rfl)
theorem laws_szPaperS_p0_eq  (v0 : List T_Paper.ty) (v1 : Int) (v5 : Int) : laws_szPaperS_p0 v0 v1 v5 =
 if decide (v5 < (v0.length : Int)) then
  if decide (0 ≤ v5) then
   (v0[v5.toNat]?).bind fun x1 =>
    (laws_szPaper x1 v1).bind fun x2 =>
     if decide (x2 < 0) then
      some (-1)
     else
      laws_szPaperS_p0 v0 x2 (IntKind.i64.wrap (v5 + 1))
  else
   none
 else
  some v1 :=
 (goL_dn _ _ _ 4000 _ _).trans (by kernel_rfl)
def laws_szDesk_ir : Fn := { np := 2,io := [],res := [.t 4],own := [false],body :=
 (.seq (.reg false [.W 2 (.box 12 (.t 0)),.V 4 (.asg (.c (.int .i64 0)))] [1,2] [2,3000,3001,3002,3007,3008,3009,3010,3011]) (.seq (.reg false [.V 5 (.fa 0 (.t 2)),.V 6 (.ld none (.t 5)),.V 7 (.mv (.t 1)),.V 8 (.call (.c (.fn 650 [])) [.t 6,.t 7]),.V 1 (.asg (.t 8))] [1,2] [2,3000,3001,3002,3007,3008,3009,3010,3011]) (.seq (.seq (.reg false [.V 9 (.mv (.t 1)),.V 10 (.bin .lss (.t 9) (.c (.int .i64 0)))] [1,2,10] [2,3000,3001,3002,3007,3008,3009,3010,3011]) (.cond (.t 10) (.seq (.reg false [.V 4 (.asg (.c (.int .i64 (-1))))] [4] []) .ret) .skip)) (.seq (.reg false [.V 11 (.fa 1 (.t 2)),.V 12 (.ld none (.t 11)),.V 13 (.mv (.t 1)),.V 14 (.call (.c (.fn 649 [])) [.t 12,.t 13]),.V 1 (.asg (.t 14))] [1,2] [2,3000,3001,3002,3007,3008,3009,3010,3011]) (.seq (.seq (.reg false [.V 15 (.mv (.t 1)),.V 16 (.bin .lss (.t 15) (.c (.int .i64 0)))] [1,2,16] [2,3000,3001,3002,3007,3008,3009,3010,3011]) (.cond (.t 16) (.seq (.reg false [.V 4 (.asg (.c (.int .i64 (-1))))] [4] []) .ret) .skip)) (.seq (.reg false [.V 17 (.fa 2 (.t 2)),.V 18 (.ld none (.t 17)),.V 19 (.mv (.t 1)),.V 20 (.call (.c (.fn 648 [])) [.t 18,.t 19]),.V 1 (.asg (.t 20))] [1,2] [2,3000,3001,3002,3007,3008,3009,3010,3011]) (.seq (.seq (.reg false [.V 21 (.mv (.t 1)),.V 22 (.bin .lss (.t 21) (.c (.int .i64 0)))] [1,2,22] [2,3000,3001,3002,3007,3008,3009,3010,3011]) (.cond (.t 22) (.seq (.reg false [.V 4 (.asg (.c (.int .i64 (-1))))] [4] []) .ret) .skip)) (.seq (.reg false [.V 23 (.fa 7 (.t 2)),.V 24 (.ld none (.t 23)),.V 25 (.mv (.t 1)),.V 26 (.call (.c (.fn 126 [])) [.t 24,.t 25]),.V 1 (.asg (.t 26))] [1,2] [2,3000,3001,3002,3007,3008,3009,3010,3011]) (.seq (.seq (.reg false [.V 27 (.mv (.t 1)),.V 28 (.bin .lss (.t 27) (.c (.int .i64 0)))] [1,2,28] [2,3000,3001,3002,3007,3008,3009,3010,3011]) (.cond (.t 28) (.seq (.reg false [.V 4 (.asg (.c (.int .i64 (-1))))] [4] []) .ret) .skip)) (.seq (.reg false [.V 29 (.fa 8 (.t 2)),.V 30 (.ld none (.t 29)),.V 31 (.mv (.t 1)),.V 32 (.call (.c (.fn 63 [])) [.t 30,.t 31]),.V 1 (.asg (.t 32))] [1,2] [2,3000,3001,3002,3007,3008,3009,3010,3011]) (.seq (.seq (.reg false [.V 33 (.mv (.t 1)),.V 34 (.bin .lss (.t 33) (.c (.int .i64 0)))] [1,2,34] [2,3000,3001,3002,3007,3008,3009,3010,3011]) (.cond (.t 34) (.seq (.reg false [.V 4 (.asg (.c (.int .i64 (-1))))] [4] []) .ret) .skip)) (.seq (.reg false [.V 35 (.fa 9 (.t 2)),.V 36 (.ld none (.t 35)),.V 37 (.mv (.t 1)),.V 38 (.call (.c (.fn 647 [])) [.t 36,.t 37]),.V 1 (.asg (.t 38))] [1,2] [2,3000,3001,3002,3007,3008,3009,3010,3011]) (.seq (.seq (.reg false [.V 39 (.mv (.t 1)),.V 40 (.bin .lss (.t 39) (.c (.int .i64 0)))] [1,2,40] [2,3000,3001,3002,3007,3008,3009,3010,3011]) (.cond (.t 40) (.seq (.reg false [.V 4 (.asg (.c (.int .i64 (-1))))] [4] []) .ret) .skip)) (.seq (.reg false [.V 41 (.fa 10 (.t 2)),.V 42 (.ld none (.t 41)),.V 43 (.mv (.t 1)),.V 44 (.call (.c (.fn 646 [])) [.t 42,.t 43]),.V 1 (.asg (.t 44))] [1,2] [2,3000,3001,3002,3007,3008,3009,3010,3011]) (.seq (.seq (.reg false [.V 45 (.mv (.t 1)),.V 46 (.bin .lss (.t 45) (.c (.int .i64 0)))] [1,2,46] [2,3000,3001,3002,3007,3008,3009,3010,3011]) (.cond (.t 46) (.seq (.reg false [.V 4 (.asg (.c (.int .i64 (-1))))] [4] []) .ret) .skip)) (.seq (.reg false [.V 47 (.fa 11 (.t 2)),.V 48 (.ld none (.t 47)),.V 49 (.mv (.t 1)),.V 50 (.call (.c (.fn 300 [])) [.t 48,.t 49]),.V 1 (.asg (.t 50))] [1] []) (.seq (.seq (.reg false [.V 51 (.mv (.t 1)),.V 52 (.bin .lss (.t 51) (.c (.int .i64 0)))] [1,52] []) (.cond (.t 52) (.seq (.reg false [.V 4 (.asg (.c (.int .i64 (-1))))] [4] []) .ret) .skip)) (.seq (.reg false [.V 53 (.mv (.t 1)),.V 4 (.asg (.t 53))] [4] []) .ret)))))))))))))))))) }
noncomputable def laws_szDesk_D : List (Nat × Callee) := [(63,laws_szPotS_c),(126,laws_szPegS_c),(300,laws_szPaperS_c),(646,laws_szWorkS_c),(647,laws_szModeS_c),(648,laws_szInt64SS_c),(649,laws_szRibS_c),(650,laws_szStackS_c)]
def laws_szDesk_H : List (Nat × ET) := [(6,T_Peg),(12,T_Mode),(18,(.one (.sl (.one (.int .i64))))),(24,T_Peg),(30,T_Pot),(36,T_Mode),(42,T_Peg),(48,T_Paper)]
noncomputable def laws_szDesk_c : Callee := mkCallee laws_szDesk_D laws_szDesk_H laws_szDesk_ir [.d T_Desk,.d (.one (.int .i64))] [.d (.one (.int .i64))] []
noncomputable def laws_szDesk (a0 : T_Desk.ty) (a1 : Int) : Option (Int) := laws_szDesk_c.f (a0,a1,())
theorem laws_szDesk_eq (a0 : T_Desk.ty) (a1 : Int) : laws_szDesk a0 a1 =
 (laws_szStackS a0.1 a1).bind fun x1 =>
  if decide (x1 < 0) then
   some (-1)
  else
   (laws_szRibS a0.2.1 x1).bind fun x2 =>
    if decide (x2 < 0) then
     some (-1)
    else
     (laws_szInt64SS a0.2.2.1 x2).bind fun x3 =>
      if decide (x3 < 0) then
       some (-1)
      else
       (laws_szPegS a0.2.2.2.2.2.2.2.1 x3).bind fun x4 =>
        if decide (x4 < 0) then
         some (-1)
        else
         (laws_szPotS a0.2.2.2.2.2.2.2.2.1 x4).bind fun x5 =>
          if decide (x5 < 0) then
           some (-1)
          else
           (laws_szModeS a0.2.2.2.2.2.2.2.2.2.1 x5).bind fun x6 =>
            if decide (x6 < 0) then
             some (-1)
            else
             (laws_szWorkS a0.2.2.2.2.2.2.2.2.2.2.1 x6).bind fun x7 =>
              if decide (x7 < 0) then
               some (-1)
              else
               (laws_szPaperS a0.2.2.2.2.2.2.2.2.2.2.2.1 x7).bind fun x8 =>
                if decide (x8 < 0) then
                 some (-1)
                else
                 some x8 :=
 (mk_f _ _ _ _ _ _ _ 4000).trans (by kernel_rfl)
def spec_l01Small_ir : Fn := { np := 1,io := [],res := [.t 2],own := [false],body :=
 (.seq (.reg false [.V 2 (.asg (.c (.bool false)))] [0] []) (.seq (.reg false [.V 3 (.mv (.t 0)),.V 4 (.bin .geq (.t 3) (.c (.int .u8 97))),.V 5 (.mv (.t 4)),.G 6 (.mv (.t 0)) 2 true,.G 7 (.bin .leq (.t 6) (.c (.int .u8 122))) 2 true,.V 8 (.pick (.t 5) (.t 7) (.c (.bool false))),.V 2 (.asg (.t 8))] [2] []) .ret)) }
noncomputable def spec_l01Small_D : List (Nat × Callee) := []
def spec_l01Small_H : List (Nat × ET) := []
noncomputable def spec_l01Small_c : Callee := mkCallee spec_l01Small_D spec_l01Small_H spec_l01Small_ir [.d (.one (.int .u8))] [.d (.one .bool)] []
noncomputable def spec_l01Small (a0 : Int) : Option (Bool) := spec_l01Small_c.f (a0,())
theorem spec_l01Small_eq (a0 : Int) : spec_l01Small a0 =
 if decide (a0 ≥ 97) then
  some (decide (a0 ≤ 122))
 else
  some false :=
 (mk_f _ _ _ _ _ _ _ 4000).trans (by kernel_rfl)
def spec_l01Digit_ir : Fn := { np := 1,io := [],res := [.t 2],own := [false],body :=
 (.seq (.reg false [.V 2 (.asg (.c (.bool false)))] [0] []) (.seq (.reg false [.V 3 (.mv (.t 0)),.V 4 (.bin .geq (.t 3) (.c (.int .u8 48))),.V 5 (.mv (.t 4)),.G 6 (.mv (.t 0)) 2 true,.G 7 (.bin .leq (.t 6) (.c (.int .u8 57))) 2 true,.V 8 (.pick (.t 5) (.t 7) (.c (.bool false))),.V 2 (.asg (.t 8))] [2] []) .ret)) }
noncomputable def spec_l01Digit_D : List (Nat × Callee) := []
def spec_l01Digit_H : List (Nat × ET) := []
noncomputable def spec_l01Digit_c : Callee := mkCallee spec_l01Digit_D spec_l01Digit_H spec_l01Digit_ir [.d (.one (.int .u8))] [.d (.one .bool)] []
noncomputable def spec_l01Digit (a0 : Int) : Option (Bool) := spec_l01Digit_c.f (a0,())
theorem spec_l01Digit_eq (a0 : Int) : spec_l01Digit a0 =
 if decide (a0 ≥ 48) then
  some (decide (a0 ≤ 57))
 else
  some false :=
 (mk_f _ _ _ _ _ _ _ 4000).trans (by kernel_rfl)
def spec_l01Name_k0 : C :=
 .seq (.seq (.reg false [.V 17 (.mv (.t 3)),.V 18 (.mv (.t 0)),.V 19 (.lens (.t 18)),.V 20 (.bin .lss (.t 17) (.t 19))] [0,3,20] []) (.cond (.t 20) .skip (.exit 0))) (.seq (.block 1 (.seq (.reg false [.V 23 (.mv (.t 0)),.V 24 (.mv (.t 3)),.V 25 (.ix (.t 23) (.t 24)),.V 26 (.call (.c (.fn 11 [])) [.t 25]),.V 27 (.un .not (.t 26)),.V 28 (.mv (.t 27)),.G 29 (.mv (.t 0)) 5 true,.G 30 (.mv (.t 3)) 5 true,.G 31 (.ix (.t 29) (.t 30)) 5 true,.G 32 (.call (.c (.fn 12 [])) [.t 31]) 5 true,.G 33 (.un .not (.t 32)) 5 true,.V 34 (.pick (.t 28) (.t 33) (.c (.bool false)))] [0,3,34] []) (.cond (.t 34) (.seq (.reg false [.V 2 (.asg (.c (.bool false)))] [2] []) .ret) .skip))) (.reg false [.V 21 (.mv (.t 3)),.V 22 (.bin .add (.t 21) (.c (.int .i64 1))),.V 3 (.asg (.t 22))] [0,3] []))
def spec_l01Name_k1 : C :=
 .norm [0,3] [] spec_l01Name_k0
def spec_l01Name_k2 : C :=
 .seq (.reg false [.V 2 (.asg (.c (.bool true)))] [2] []) .ret
def spec_l01Name_k3 : C :=
 .seq (.seq (.reg false [.V 3 (.asg (.c (.int .i64 0)))] [0,3] []) (.block 0 (.loop spec_l01Name_k1))) spec_l01Name_k2
def spec_l01Name_ir : Fn := { np := 1,io := [],res := [.t 2],own := [false],body :=
 (.seq (.reg false [.V 2 (.asg (.c (.bool false)))] [0] []) (.seq (.seq (.reg false [.V 4 (.mv (.t 0)),.V 5 (.bin .eql (.t 4) (.c (.str []))),.V 6 (.mv (.t 5)),.G 7 (.mv (.t 0)) 2 false,.G 8 (.lens (.t 7)) 2 false,.G 9 (.bin .gtr (.t 8) (.c (.int .i64 10))) 2 false,.V 10 (.pick (.t 6) (.c (.bool true)) (.t 9)),.V 11 (.mv (.t 10)),.G 12 (.mv (.t 0)) 7 false,.G 13 (.ix (.t 12) (.c (.int .i64 0))) 7 false,.G 14 (.call (.c (.fn 11 [])) [.t 13]) 7 false,.G 15 (.un .not (.t 14)) 7 false,.V 16 (.pick (.t 11) (.c (.bool true)) (.t 15))] [0,16] []) (.cond (.t 16) (.seq (.reg false [.V 2 (.asg (.c (.bool false)))] [2] []) .ret) .skip)) (.norm [0] [] spec_l01Name_k3))) }
noncomputable def spec_l01Name_D : List (Nat × Callee) := [(11,spec_l01Small_c),(12,spec_l01Digit_c)]
def spec_l01Name_H : List (Nat × ET) := []
noncomputable def spec_l01Name_c : Callee := mkCallee spec_l01Name_D spec_l01Name_H spec_l01Name_ir [.d (.one .str)] [.d (.one .bool)] []
noncomputable def spec_l01Name (a0 : List UInt8) : Option (Bool) := spec_l01Name_c.f (a0,())
noncomputable def spec_l01Name_p0  (v0 : List UInt8) : Option (Bool) :=
 goL spec_l01Name_D spec_l01Name_H (vleave spec_l01Name_ir [.d (.one .str)] [.d (.one .bool)] [] []) [.c spec_l01Name_k3]
  ⟨[(0,.str v0)],[]⟩
noncomputable def spec_l01Name_p1  (v0 : List UInt8) (v3 : Int) : Option (Bool) :=
 goL spec_l01Name_D spec_l01Name_H (vleave spec_l01Name_ir [.d (.one .str)] [.d (.one .bool)] [] []) [.c spec_l01Name_k0,.l spec_l01Name_k1,.e 0,.c spec_l01Name_k2]
  ⟨[(0,.str v0),(3,.int .i64 v3)],[]⟩
theorem spec_l01Name_eq (a0 : List UInt8) : spec_l01Name a0 =
 if (a0 == []) then
  some false
 else
  if decide ((a0.length : Int) > 10) then
   some false
  else
   (a0[0]?).bind fun x1 =>
    (spec_l01Small (x1.toNat : Int)).bind fun x2 =>
     if (!x2) then
      some false
     else
      spec_l01Name_p0 a0 :=
 (mk_f _ _ _ _ _ _ _ 4000).trans (by kernel_rfl)
theorem spec_l01Name_p0_eq  (v0 : List UInt8) : spec_l01Name_p0 v0 =
 spec_l01Name_p1 v0 0 :=
 (goL_dn _ _ _ 4000 _ _).trans (by kernel_rfl)
theorem spec_l01Name_p1_eq  (v0 : List UInt8) (v3 : Int) : spec_l01Name_p1 v0 v3 =
 if decide (v3 < (v0.length : Int)) then
  if decide (0 ≤ v3) then
   (v0[v3.toNat]?).bind fun x1 =>
    (spec_l01Small (x1.toNat : Int)).bind fun x2 =>
     if (!x2) then
      if decide (0 ≤ v3) then
       (v0[v3.toNat]?).bind fun x3 =>
        (spec_l01Digit (x3.toNat : Int)).bind fun x4 =>
         if (!x4) then
          some false
         else
          spec_l01Name_p1 v0 (IntKind.i64.wrap (v3 + 1))
      else
       none
     else
      spec_l01Name_p1 v0 (IntKind.i64.wrap (v3 + 1))
  else
   none
 else
  some true :=
 (goL_dn _ _ _ 4000 _ _).trans (by kernel_rfl)
def spec_l00In_ir : Fn := { np := 3,io := [],res := [.t 6],own := [false],body :=
 (.seq (.reg false [.V 6 (.asg (.c (.bool false)))] [0,1,2] []) (.seq (.reg false [.V 7 (.mv (.t 0)),.V 8 (.mv (.t 1)),.V 9 (.bin .geq (.t 7) (.t 8)),.V 10 (.mv (.t 9)),.G 11 (.mv (.t 0)) 3 true,.G 12 (.mv (.t 2)) 3 true,.G 13 (.bin .leq (.t 11) (.t 12)) 3 true,.V 14 (.pick (.t 10) (.t 13) (.c (.bool false))),.V 6 (.asg (.t 14))] [6] []) .ret)) }
noncomputable def spec_l00In_D : List (Nat × Callee) := []
def spec_l00In_H : List (Nat × ET) := []
noncomputable def spec_l00In_c : Callee := mkCallee spec_l00In_D spec_l00In_H spec_l00In_ir [.d (.one (.int .i64)),.d (.one (.int .i64)),.d (.one (.int .i64))] [.d (.one .bool)] []
noncomputable def spec_l00In (a0 : Int) (a1 : Int) (a2 : Int) : Option (Bool) := spec_l00In_c.f (a0,a1,a2,())
theorem spec_l00In_eq (a0 : Int) (a1 : Int) (a2 : Int) : spec_l00In a0 a1 a2 =
 if decide (a0 ≥ a1) then
  some (decide (a0 ≤ a2))
 else
  some false :=
 (mk_f _ _ _ _ _ _ _ 4000).trans (by kernel_rfl)
def spec_l04Share_ir : Fn := { np := 1,io := [],res := [.t 2],own := [false],body :=
 (.seq (.reg false [.V 2 (.asg (.c (.bool false)))] [0] []) (.seq (.reg false [.V 3 (.mv (.t 0)),.V 4 (.call (.c (.fn 1 [])) [.t 3,.c (.int .i64 0),.c (.int .i64 1000)]),.V 2 (.asg (.t 4))] [2] []) .ret)) }
noncomputable def spec_l04Share_D : List (Nat × Callee) := [(1,spec_l00In_c)]
def spec_l04Share_H : List (Nat × ET) := []
noncomputable def spec_l04Share_c : Callee := mkCallee spec_l04Share_D spec_l04Share_H spec_l04Share_ir [.d (.one (.int .i64))] [.d (.one .bool)] []
noncomputable def spec_l04Share (a0 : Int) : Option (Bool) := spec_l04Share_c.f (a0,())
theorem spec_l04Share_eq (a0 : Int) : spec_l04Share a0 =
 (spec_l00In a0 0 1000).bind fun x1 =>
  some x1 :=
 (mk_f _ _ _ _ _ _ _ 4000).trans (by kernel_rfl)
def spec_l04Thick_ir : Fn := { np := 1,io := [],res := [.t 2],own := [false],body :=
 (.seq (.reg false [.V 2 (.asg (.c (.bool false)))] [0] []) (.seq (.reg false [.V 3 (.mv (.t 0)),.V 4 (.call (.c (.fn 1 [])) [.t 3,.c (.int .i64 10),.c (.int .i64 1000)]),.V 2 (.asg (.t 4))] [2] []) .ret)) }
noncomputable def spec_l04Thick_D : List (Nat × Callee) := [(1,spec_l00In_c)]
def spec_l04Thick_H : List (Nat × ET) := []
noncomputable def spec_l04Thick_c : Callee := mkCallee spec_l04Thick_D spec_l04Thick_H spec_l04Thick_ir [.d (.one (.int .i64))] [.d (.one .bool)] []
noncomputable def spec_l04Thick (a0 : Int) : Option (Bool) := spec_l04Thick_c.f (a0,())
theorem spec_l04Thick_eq (a0 : Int) : spec_l04Thick a0 =
 (spec_l00In a0 10 1000).bind fun x1 =>
  some x1 :=
 (mk_f _ _ _ _ _ _ _ 4000).trans (by kernel_rfl)
def spec_l02Day_ir : Fn := { np := 1,io := [],res := [.t 2],own := [false],body :=
 (.seq (.reg false [.V 2 (.asg (.c (.bool false)))] [0] []) (.seq (.reg false [.V 3 (.mv (.t 0)),.V 4 (.call (.c (.fn 1 [])) [.t 3,.c (.int .i64 0),.c (.int .i64 36524)]),.V 2 (.asg (.t 4))] [2] []) .ret)) }
noncomputable def spec_l02Day_D : List (Nat × Callee) := [(1,spec_l00In_c)]
def spec_l02Day_H : List (Nat × ET) := []
noncomputable def spec_l02Day_c : Callee := mkCallee spec_l02Day_D spec_l02Day_H spec_l02Day_ir [.d (.one (.int .i64))] [.d (.one .bool)] []
noncomputable def spec_l02Day (a0 : Int) : Option (Bool) := spec_l02Day_c.f (a0,())
theorem spec_l02Day_eq (a0 : Int) : spec_l02Day a0 =
 (spec_l00In a0 0 36524).bind fun x1 =>
  some x1 :=
 (mk_f _ _ _ _ _ _ _ 4000).trans (by kernel_rfl)
def spec_l04One_ir : Fn := { np := 1,io := [],res := [.t 2],own := [false],body :=
 (.seq (.reg false [.V 2 (.asg (.c (.bool false)))] [0] []) (.seq (.reg false [.V 3 (.mv (.t 0)),.V 4 (.nilck (.t 3)),.V 5 (.fa 0 (.t 4)),.V 6 (.ld none (.t 5)),.V 7 (.call (.c (.fn 13 [])) [.t 6]),.V 8 (.mv (.t 7)),.G 9 (.mv (.t 0)) 5 true,.G 10 (.nilck (.t 9)) 5 true,.G 11 (.fa 1 (.t 10)) 5 true,.G 12 (.ld none (.t 11)) 5 true,.G 13 (.call (.c (.fn 490 [])) [.t 12]) 5 true,.V 14 (.pick (.t 8) (.t 13) (.c (.bool false))),.V 15 (.mv (.t 14)),.G 16 (.mv (.t 0)) 12 true,.G 17 (.nilck (.t 16)) 12 true,.G 18 (.fa 2 (.t 17)) 12 true,.G 19 (.ld none (.t 18)) 12 true,.G 20 (.call (.c (.fn 850 [])) [.t 19]) 12 true,.V 21 (.pick (.t 15) (.t 20) (.c (.bool false))),.V 22 (.mv (.t 21)),.G 23 (.mv (.t 0)) 19 true,.G 24 (.nilck (.t 23)) 19 true,.G 25 (.fa 3 (.t 24)) 19 true,.G 26 (.ld none (.t 25)) 19 true,.G 27 (.call (.c (.fn 851 [])) [.t 26]) 19 true,.V 28 (.pick (.t 22) (.t 27) (.c (.bool false))),.V 2 (.asg (.t 28))] [2] []) .ret)) }
noncomputable def spec_l04One_D : List (Nat × Callee) := [(13,spec_l01Name_c),(490,spec_l04Share_c),(850,spec_l04Thick_c),(851,spec_l02Day_c)]
def spec_l04One_H : List (Nat × ET) := []
noncomputable def spec_l04One_c : Callee := mkCallee spec_l04One_D spec_l04One_H spec_l04One_ir [.p T_Peg] [.d (.one .bool)] []
noncomputable def spec_l04One (a0 : T_Peg.ty) : Option (Bool) := spec_l04One_c.f (a0,())
theorem spec_l04One_eq (a0 : T_Peg.ty) : spec_l04One a0 =
 (spec_l01Name a0.1).bind fun x1 =>
  if x1 then
   (spec_l04Share a0.2.1).bind fun x2 =>
    if x2 then
     (spec_l04Thick a0.2.2.1).bind fun x3 =>
      if x3 then
       (spec_l02Day a0.2.2.2.1).bind fun x4 =>
        some x4
      else
       some false
    else
     some false
  else
   some false :=
 (mk_f _ _ _ _ _ _ _ 4000).trans (by kernel_rfl)
def spec_l04Ok_k0 : C :=
 .seq (.seq (.reg false [.V 4 (.mv (.t 3)),.V 5 (.mv (.t 0)),.V 6 (.len (.t 5)),.V 7 (.bin .lss (.t 4) (.t 6))] [0,3,7] []) (.cond (.t 7) .skip (.exit 0))) (.seq (.block 1 (.seq (.reg true [.V 10 (.mv (.t 0)),.V 11 (.mv (.t 3)),.V 12 (.ia 4 (.t 10) (.t 11)),.V 13 (.call (.c (.fn 492 [])) [.t 12]),.V 14 (.un .not (.t 13)),.V 15 (.mv (.t 14)),.G 16 (.mv (.t 3)) 5 false,.G 17 (.bin .gtr (.t 16) (.c (.int .i64 0))) 5 false,.G 18 (.mv (.t 17)) 5 false,.G 19 (.mv (.t 0)) 8 true,.G 20 (.mv (.t 3)) 8 true,.G 21 (.bin .sub (.t 20) (.c (.int .i64 1))) 8 true,.G 22 (.ia 4 (.t 19) (.t 21)) 8 true,.G 23 (.fa 0 (.t 22)) 8 true,.G 24 (.ld none (.t 23)) 8 true,.G 25 (.mv (.t 0)) 8 true,.G 26 (.mv (.t 3)) 8 true,.G 27 (.ia 4 (.t 25) (.t 26)) 8 true,.G 28 (.fa 0 (.t 27)) 8 true,.G 29 (.ld none (.t 28)) 8 true,.G 30 (.bin .geq (.t 24) (.t 29)) 8 true,.G 31 (.pick (.t 18) (.t 30) (.c (.bool false))) 5 false,.V 32 (.pick (.t 15) (.c (.bool true)) (.t 31))] [0,3,32] []) (.cond (.t 32) (.seq (.reg false [.V 2 (.asg (.c (.bool false)))] [2] []) .ret) .skip))) (.reg false [.V 8 (.mv (.t 3)),.V 9 (.bin .add (.t 8) (.c (.int .i64 1))),.V 3 (.asg (.t 9))] [0,3] []))
def spec_l04Ok_k1 : C :=
 .norm [0,3] [] spec_l04Ok_k0
def spec_l04Ok_k2 : C :=
 .seq (.reg false [.V 33 (.mv (.t 0)),.V 34 (.len (.t 33)),.V 35 (.bin .leq (.t 34) (.c (.int .i64 12))),.V 2 (.asg (.t 35))] [2] []) .ret
def spec_l04Ok_ir : Fn := { np := 1,io := [],res := [.t 2],own := [false],body :=
 (.seq (.reg false [.V 2 (.asg (.c (.bool false)))] [0] []) (.seq (.seq (.reg false [.V 3 (.asg (.c (.int .i64 0)))] [0,3] []) (.block 0 (.loop spec_l04Ok_k1))) spec_l04Ok_k2)) }
noncomputable def spec_l04Ok_D : List (Nat × Callee) := [(492,spec_l04One_c)]
def spec_l04Ok_H : List (Nat × ET) := [(5,T_Peg),(10,T_Peg),(19,T_Peg),(25,T_Peg),(33,T_Peg)]
noncomputable def spec_l04Ok_c : Callee := mkCallee spec_l04Ok_D spec_l04Ok_H spec_l04Ok_ir [.d (.one (.sl T_Peg))] [.d (.one .bool)] []
noncomputable def spec_l04Ok (a0 : List T_Peg.ty) : Option (Bool) := spec_l04Ok_c.f (a0,())
noncomputable def spec_l04Ok_p0  (v0 : List T_Peg.ty) (v3 : Int) : Option (Bool) :=
 goL spec_l04Ok_D spec_l04Ok_H (vleave spec_l04Ok_ir [.d (.one (.sl T_Peg))] [.d (.one .bool)] [] []) [.c spec_l04Ok_k0,.l spec_l04Ok_k1,.e 0,.c spec_l04Ok_k2]
  ⟨[(0,.sl T_Peg v0),(3,.int .i64 v3)],[]⟩
theorem spec_l04Ok_eq (a0 : List T_Peg.ty) : spec_l04Ok a0 =
 spec_l04Ok_p0 a0 0 :=
 (mk_f _ _ _ _ _ _ _ 4000).trans (by kernel_rfl)
theorem spec_l04Ok_p0_eq  (v0 : List T_Peg.ty) (v3 : Int) : spec_l04Ok_p0 v0 v3 =
 if decide (v3 < (v0.length : Int)) then
  if decide (0 ≤ v3) then
   (v0[v3.toNat]?).bind fun x1 =>
    (spec_l04One x1).bind fun x2 =>
     if (!x2) then
      some false
     else
      if decide (v3 > 0) then
       if decide (0 ≤ IntKind.i64.wrap (v3 - 1)) then
        (v0[(IntKind.i64.wrap (v3 - 1)).toNat]?).bind fun x3 =>
         if decide (0 ≤ v3) then
          (v0[v3.toNat]?).bind fun x4 =>
           if (!Op.bytesLess x3.1 x4.1) then
            some false
           else
            spec_l04Ok_p0 v0 (IntKind.i64.wrap (v3 + 1))
         else
          none
       else
        none
      else
       spec_l04Ok_p0 v0 (IntKind.i64.wrap (v3 + 1))
  else
   none
 else
  some (decide ((v0.length : Int) ≤ 12)) :=
 (goL_dn _ _ _ 4000 _ _).trans (by kernel_rfl)
def spec_l06Size_ir : Fn := { np := 1,io := [],res := [.t 2],own := [false],body :=
 (.seq (.reg false [.V 2 (.asg (.c (.bool false)))] [0] []) (.seq (.reg false [.V 3 (.mv (.t 0)),.V 4 (.call (.c (.fn 1 [])) [.t 3,.c (.int .i64 1),.c (.int .i64 10000)]),.V 2 (.asg (.t 4))] [2] []) .ret)) }
noncomputable def spec_l06Size_D : List (Nat × Callee) := [(1,spec_l00In_c)]
def spec_l06Size_H : List (Nat × ET) := []
noncomputable def spec_l06Size_c : Callee := mkCallee spec_l06Size_D spec_l06Size_H spec_l06Size_ir [.d (.one (.int .i64))] [.d (.one .bool)] []
noncomputable def spec_l06Size (a0 : Int) : Option (Bool) := spec_l06Size_c.f (a0,())
theorem spec_l06Size_eq (a0 : Int) : spec_l06Size a0 =
 (spec_l00In a0 1 10000).bind fun x1 =>
  some x1 :=
 (mk_f _ _ _ _ _ _ _ 4000).trans (by kernel_rfl)
def spec_l06One_ir : Fn := { np := 1,io := [],res := [.t 2],own := [false],body :=
 (.seq (.reg false [.V 2 (.asg (.c (.bool false)))] [0] []) (.seq (.reg false [.V 3 (.mv (.t 0)),.V 4 (.nilck (.t 3)),.V 5 (.fa 0 (.t 4)),.V 6 (.ld none (.t 5)),.V 7 (.call (.c (.fn 13 [])) [.t 6]),.V 8 (.mv (.t 7)),.G 9 (.mv (.t 0)) 5 true,.G 10 (.nilck (.t 9)) 5 true,.G 11 (.fa 1 (.t 10)) 5 true,.G 12 (.ld none (.t 11)) 5 true,.G 13 (.call (.c (.fn 962 [])) [.t 12]) 5 true,.V 14 (.pick (.t 8) (.t 13) (.c (.bool false))),.V 15 (.mv (.t 14)),.G 16 (.mv (.t 0)) 12 true,.G 17 (.nilck (.t 16)) 12 true,.G 18 (.fa 2 (.t 17)) 12 true,.G 19 (.ld none (.t 18)) 12 true,.G 20 (.call (.c (.fn 962 [])) [.t 19]) 12 true,.V 21 (.pick (.t 15) (.t 20) (.c (.bool false))),.V 2 (.asg (.t 21))] [2] []) .ret)) }
noncomputable def spec_l06One_D : List (Nat × Callee) := [(13,spec_l01Name_c),(962,spec_l06Size_c)]
def spec_l06One_H : List (Nat × ET) := []
noncomputable def spec_l06One_c : Callee := mkCallee spec_l06One_D spec_l06One_H spec_l06One_ir [.p T_Mode] [.d (.one .bool)] []
noncomputable def spec_l06One (a0 : T_Mode.ty) : Option (Bool) := spec_l06One_c.f (a0,())
theorem spec_l06One_eq (a0 : T_Mode.ty) : spec_l06One a0 =
 (spec_l01Name a0.1).bind fun x1 =>
  if x1 then
   (spec_l06Size a0.2.1).bind fun x2 =>
    if x2 then
     (spec_l06Size a0.2.2.1).bind fun x3 =>
      some x3
    else
     some false
  else
   some false :=
 (mk_f _ _ _ _ _ _ _ 4000).trans (by kernel_rfl)
def spec_l06Ok_k0 : C :=
 .seq (.seq (.reg false [.V 4 (.mv (.t 3)),.V 5 (.mv (.t 0)),.V 6 (.len (.t 5)),.V 7 (.bin .lss (.t 4) (.t 6))] [0,3,7] []) (.cond (.t 7) .skip (.exit 0))) (.seq (.block 1 (.seq (.reg true [.V 10 (.mv (.t 0)),.V 11 (.mv (.t 3)),.V 12 (.ia 3 (.t 10) (.t 11)),.V 13 (.call (.c (.fn 764 [])) [.t 12]),.V 14 (.un .not (.t 13)),.V 15 (.mv (.t 14)),.G 16 (.mv (.t 3)) 5 false,.G 17 (.bin .gtr (.t 16) (.c (.int .i64 0))) 5 false,.G 18 (.mv (.t 17)) 5 false,.G 19 (.mv (.t 0)) 8 true,.G 20 (.mv (.t 3)) 8 true,.G 21 (.bin .sub (.t 20) (.c (.int .i64 1))) 8 true,.G 22 (.ia 3 (.t 19) (.t 21)) 8 true,.G 23 (.fa 0 (.t 22)) 8 true,.G 24 (.ld none (.t 23)) 8 true,.G 25 (.mv (.t 0)) 8 true,.G 26 (.mv (.t 3)) 8 true,.G 27 (.ia 3 (.t 25) (.t 26)) 8 true,.G 28 (.fa 0 (.t 27)) 8 true,.G 29 (.ld none (.t 28)) 8 true,.G 30 (.bin .geq (.t 24) (.t 29)) 8 true,.G 31 (.pick (.t 18) (.t 30) (.c (.bool false))) 5 false,.V 32 (.pick (.t 15) (.c (.bool true)) (.t 31))] [0,3,32] []) (.cond (.t 32) (.seq (.reg false [.V 2 (.asg (.c (.bool false)))] [2] []) .ret) .skip))) (.reg false [.V 8 (.mv (.t 3)),.V 9 (.bin .add (.t 8) (.c (.int .i64 1))),.V 3 (.asg (.t 9))] [0,3] []))
def spec_l06Ok_k1 : C :=
 .norm [0,3] [] spec_l06Ok_k0
def spec_l06Ok_k2 : C :=
 .seq (.reg false [.V 33 (.mv (.t 0)),.V 34 (.len (.t 33)),.V 35 (.bin .leq (.t 34) (.c (.int .i64 8))),.V 2 (.asg (.t 35))] [2] []) .ret
def spec_l06Ok_ir : Fn := { np := 1,io := [],res := [.t 2],own := [false],body :=
 (.seq (.reg false [.V 2 (.asg (.c (.bool false)))] [0] []) (.seq (.seq (.reg false [.V 3 (.asg (.c (.int .i64 0)))] [0,3] []) (.block 0 (.loop spec_l06Ok_k1))) spec_l06Ok_k2)) }
noncomputable def spec_l06Ok_D : List (Nat × Callee) := [(764,spec_l06One_c)]
def spec_l06Ok_H : List (Nat × ET) := [(5,T_Mode),(10,T_Mode),(19,T_Mode),(25,T_Mode),(33,T_Mode)]
noncomputable def spec_l06Ok_c : Callee := mkCallee spec_l06Ok_D spec_l06Ok_H spec_l06Ok_ir [.d (.one (.sl T_Mode))] [.d (.one .bool)] []
noncomputable def spec_l06Ok (a0 : List T_Mode.ty) : Option (Bool) := spec_l06Ok_c.f (a0,())
noncomputable def spec_l06Ok_p0  (v0 : List T_Mode.ty) (v3 : Int) : Option (Bool) :=
 goL spec_l06Ok_D spec_l06Ok_H (vleave spec_l06Ok_ir [.d (.one (.sl T_Mode))] [.d (.one .bool)] [] []) [.c spec_l06Ok_k0,.l spec_l06Ok_k1,.e 0,.c spec_l06Ok_k2]
  ⟨[(0,.sl T_Mode v0),(3,.int .i64 v3)],[]⟩
theorem spec_l06Ok_eq (a0 : List T_Mode.ty) : spec_l06Ok a0 =
 spec_l06Ok_p0 a0 0 :=
 (mk_f _ _ _ _ _ _ _ 4000).trans (by kernel_rfl)
theorem spec_l06Ok_p0_eq  (v0 : List T_Mode.ty) (v3 : Int) : spec_l06Ok_p0 v0 v3 =
 if decide (v3 < (v0.length : Int)) then
  if decide (0 ≤ v3) then
   (v0[v3.toNat]?).bind fun x1 =>
    (spec_l06One x1).bind fun x2 =>
     if (!x2) then
      some false
     else
      if decide (v3 > 0) then
       if decide (0 ≤ IntKind.i64.wrap (v3 - 1)) then
        (v0[(IntKind.i64.wrap (v3 - 1)).toNat]?).bind fun x3 =>
         if decide (0 ≤ v3) then
          (v0[v3.toNat]?).bind fun x4 =>
           if (!Op.bytesLess x3.1 x4.1) then
            some false
           else
            spec_l06Ok_p0 v0 (IntKind.i64.wrap (v3 + 1))
         else
          none
       else
        none
      else
       spec_l06Ok_p0 v0 (IntKind.i64.wrap (v3 + 1))
  else
   none
 else
  some (decide ((v0.length : Int) ≤ 8)) :=
 (goL_dn _ _ _ 4000 _ _).trans (by kernel_rfl)
def spec_l08Thick_ir : Fn := { np := 1,io := [],res := [.t 2],own := [false],body :=
 (.seq (.reg false [.V 2 (.asg (.c (.bool false)))] [0] []) (.seq (.reg false [.V 3 (.mv (.t 0)),.V 4 (.call (.c (.fn 1 [])) [.t 3,.c (.int .i64 1),.c (.int .i64 200)]),.V 2 (.asg (.t 4))] [2] []) .ret)) }
noncomputable def spec_l08Thick_D : List (Nat × Callee) := [(1,spec_l00In_c)]
def spec_l08Thick_H : List (Nat × ET) := []
noncomputable def spec_l08Thick_c : Callee := mkCallee spec_l08Thick_D spec_l08Thick_H spec_l08Thick_ir [.d (.one (.int .i64))] [.d (.one .bool)] []
noncomputable def spec_l08Thick (a0 : Int) : Option (Bool) := spec_l08Thick_c.f (a0,())
theorem spec_l08Thick_eq (a0 : Int) : spec_l08Thick a0 =
 (spec_l00In a0 1 200).bind fun x1 =>
  some x1 :=
 (mk_f _ _ _ _ _ _ _ 4000).trans (by kernel_rfl)
def spec_l08Ok_k0 : C :=
 .seq (.seq (.reg false [.V 37 (.mv (.t 4)),.V 38 (.mv (.t 0)),.V 39 (.mv (.t 3)),.V 40 (.ia 1 (.t 38) (.t 39)),.V 41 (.ld none (.t 40)),.V 42 (.len (.t 41)),.V 43 (.bin .lss (.t 37) (.t 42))] [0,3,4,43] []) (.cond (.t 43) .skip (.exit 2))) (.seq (.block 3 (.seq (.reg false [.V 46 (.mv (.t 0)),.V 47 (.mv (.t 3)),.V 48 (.ia 1 (.t 46) (.t 47)),.V 49 (.ld none (.t 48)),.V 50 (.mv (.t 4)),.V 51 (.ia 1 (.t 49) (.t 50)),.V 52 (.ld none (.t 51)),.V 53 (.call (.c (.fn 968 [])) [.t 52]),.V 54 (.un .not (.t 53))] [0,3,4,54] []) (.cond (.t 54) (.seq (.reg false [.V 2 (.asg (.c (.bool false)))] [2] []) .ret) .skip))) (.reg false [.V 44 (.mv (.t 4)),.V 45 (.bin .add (.t 44) (.c (.int .i64 1))),.V 4 (.asg (.t 45))] [0,3,4] []))
def spec_l08Ok_k1 : C :=
 .norm [0,3,4] [] spec_l08Ok_k0
def spec_l08Ok_k2 : C :=
 .seq (.reg false [.V 4 (.asg (.c (.int .i64 0)))] [0,3,4] []) (.block 2 (.loop spec_l08Ok_k1))
def spec_l08Ok_k3 : C :=
 .reg false [.V 9 (.mv (.t 3)),.V 10 (.bin .add (.t 9) (.c (.int .i64 1))),.V 3 (.asg (.t 10))] [0,3] []
def spec_l08Ok_k4 : C :=
 .seq (.seq (.reg false [.V 5 (.mv (.t 3)),.V 6 (.mv (.t 0)),.V 7 (.len (.t 6)),.V 8 (.bin .lss (.t 5) (.t 7))] [0,3,8] []) (.cond (.t 8) .skip (.exit 0))) (.seq (.block 1 (.seq (.seq (.reg true [.V 11 (.mv (.t 0)),.V 12 (.mv (.t 3)),.V 13 (.ia 1 (.t 11) (.t 12)),.V 14 (.ld none (.t 13)),.V 15 (.len (.t 14)),.V 16 (.bin .lss (.t 15) (.c (.int .i64 1))),.V 17 (.mv (.t 16)),.G 18 (.mv (.t 0)) 6 false,.G 19 (.mv (.t 3)) 6 false,.G 20 (.ia 1 (.t 18) (.t 19)) 6 false,.G 21 (.ld none (.t 20)) 6 false,.G 22 (.len (.t 21)) 6 false,.G 23 (.bin .gtr (.t 22) (.c (.int .i64 10))) 6 false,.V 24 (.pick (.t 17) (.c (.bool true)) (.t 23)),.V 25 (.mv (.t 24)),.G 26 (.mv (.t 0)) 14 false,.G 27 (.mv (.t 3)) 14 false,.G 28 (.ia 1 (.t 26) (.t 27)) 14 false,.G 29 (.ld none (.t 28)) 14 false,.G 30 (.len (.t 29)) 14 false,.G 31 (.mv (.t 0)) 14 false,.G 32 (.ia 1 (.t 31) (.c (.int .i64 0))) 14 false,.G 33 (.ld none (.t 32)) 14 false,.G 34 (.len (.t 33)) 14 false,.G 35 (.bin .neq (.t 30) (.t 34)) 14 false,.V 36 (.pick (.t 25) (.c (.bool true)) (.t 35))] [0,3,36] []) (.cond (.t 36) (.seq (.reg false [.V 2 (.asg (.c (.bool false)))] [2] []) .ret) .skip)) (.norm [0,3] [] spec_l08Ok_k2))) spec_l08Ok_k3)
def spec_l08Ok_k5 : C :=
 .norm [0,3] [] spec_l08Ok_k4
def spec_l08Ok_k6 : C :=
 .seq (.reg false [.V 55 (.mv (.t 0)),.V 56 (.len (.t 55)),.V 57 (.bin .geq (.t 56) (.c (.int .i64 1))),.V 58 (.mv (.t 57)),.G 59 (.mv (.t 0)) 3 true,.G 60 (.len (.t 59)) 3 true,.G 61 (.bin .leq (.t 60) (.c (.int .i64 10))) 3 true,.V 62 (.pick (.t 58) (.t 61) (.c (.bool false))),.V 2 (.asg (.t 62))] [2] []) .ret
def spec_l08Ok_ir : Fn := { np := 1,io := [],res := [.t 2],own := [false],body :=
 (.seq (.reg false [.V 2 (.asg (.c (.bool false)))] [0] []) (.seq (.seq (.reg false [.V 3 (.asg (.c (.int .i64 0)))] [0,3] []) (.block 0 (.loop spec_l08Ok_k5))) spec_l08Ok_k6)) }
noncomputable def spec_l08Ok_D : List (Nat × Callee) := [(968,spec_l08Thick_c)]
def spec_l08Ok_H : List (Nat × ET) := [(6,(.one (.sl (.one (.int .i64))))),(11,(.one (.sl (.one (.int .i64))))),(14,(.one (.int .i64))),(18,(.one (.sl (.one (.int .i64))))),(21,(.one (.int .i64))),(26,(.one (.sl (.one (.int .i64))))),(29,(.one (.int .i64))),(31,(.one (.sl (.one (.int .i64))))),(33,(.one (.int .i64))),(38,(.one (.sl (.one (.int .i64))))),(41,(.one (.int .i64))),(46,(.one (.sl (.one (.int .i64))))),(49,(.one (.int .i64))),(55,(.one (.sl (.one (.int .i64))))),(59,(.one (.sl (.one (.int .i64)))))]
noncomputable def spec_l08Ok_c : Callee := mkCallee spec_l08Ok_D spec_l08Ok_H spec_l08Ok_ir [.d (.one (.sl (.one (.sl (.one (.int .i64))))))] [.d (.one .bool)] []
noncomputable def spec_l08Ok (a0 : List (List Int)) : Option (Bool) := spec_l08Ok_c.f (a0,())
noncomputable def spec_l08Ok_p0  (v0 : List (List Int)) (v3 : Int) : Option (Bool) :=
 goL spec_l08Ok_D spec_l08Ok_H (vleave spec_l08Ok_ir [.d (.one (.sl (.one (.sl (.one (.int .i64))))))] [.d (.one .bool)] [] []) [.c spec_l08Ok_k4,.l spec_l08Ok_k5,.e 0,.c spec_l08Ok_k6]
  ⟨[(0,.sl (.one (.sl (.one (.int .i64)))) v0),(3,.int .i64 v3)],[]⟩
noncomputable def spec_l08Ok_p1  (v0 : List (List Int)) (v3 : Int) : Option (Bool) :=
 goL spec_l08Ok_D spec_l08Ok_H (vleave spec_l08Ok_ir [.d (.one (.sl (.one (.sl (.one (.int .i64))))))] [.d (.one .bool)] [] []) [.c spec_l08Ok_k2,.e 1,.c spec_l08Ok_k3,.l spec_l08Ok_k5,.e 0,.c spec_l08Ok_k6]
  ⟨[(0,.sl (.one (.sl (.one (.int .i64)))) v0),(3,.int .i64 v3)],[]⟩
noncomputable def spec_l08Ok_p2  (v0 : List (List Int)) (v3 : Int) (v4 : Int) : Option (Bool) :=
 goL spec_l08Ok_D spec_l08Ok_H (vleave spec_l08Ok_ir [.d (.one (.sl (.one (.sl (.one (.int .i64))))))] [.d (.one .bool)] [] []) [.c spec_l08Ok_k0,.l spec_l08Ok_k1,.e 2,.e 1,.c spec_l08Ok_k3,.l spec_l08Ok_k5,.e 0,.c spec_l08Ok_k6]
  ⟨[(0,.sl (.one (.sl (.one (.int .i64)))) v0),(3,.int .i64 v3),(4,.int .i64 v4)],[]⟩
theorem spec_l08Ok_eq (a0 : List (List Int)) : spec_l08Ok a0 =
 spec_l08Ok_p0 a0 0 :=
 (mk_f _ _ _ _ _ _ _ 4000).trans (by kernel_rfl)
theorem spec_l08Ok_p0_eq  (v0 : List (List Int)) (v3 : Int) : spec_l08Ok_p0 v0 v3 =
 if decide (v3 < (v0.length : Int)) then
  if decide (0 ≤ v3) then
   (v0[v3.toNat]?).bind fun x1 =>
    if decide ((x1.length : Int) < 1) then
     some false
    else
     if decide (0 ≤ v3) then
      (v0[v3.toNat]?).bind fun x2 =>
       if decide ((x2.length : Int) > 10) then
        some false
       else
        if decide (0 ≤ v3) then
         (v0[v3.toNat]?).bind fun x3 =>
          (v0[0]?).bind fun x4 =>
           if ((x3.length : Int) != (x4.length : Int)) then
            some false
           else
            spec_l08Ok_p1 v0 v3
        else
         none
     else
      none
  else
   none
 else
  if decide ((v0.length : Int) ≥ 1) then
   some (decide ((v0.length : Int) ≤ 10))
  else
   some false :=
 (goL_dn _ _ _ 4000 _ _).trans (by kernel_rfl)
theorem spec_l08Ok_p1_eq  (v0 : List (List Int)) (v3 : Int) : spec_l08Ok_p1 v0 v3 =
 spec_l08Ok_p2 v0 v3 0 :=
 (goL_dn _ _ _ 4000 _ _).trans (by kernel_rfl)
theorem spec_l08Ok_p2_eq  (v0 : List (List Int)) (v3 : Int) (v4 : Int) : spec_l08Ok_p2 v0 v3 v4 =
 if decide (0 ≤ v3) then
  (v0[v3.toNat]?).bind fun x1 =>
   if decide (v4 < (x1.length : Int)) then
    if decide (0 ≤ v3) then
     (v0[v3.toNat]?).bind fun x2 =>
      if decide (0 ≤ v4) then
       (x2[v4.toNat]?).bind fun x3 =>
        (spec_l08Thick x3).bind fun x4 =>
         if (!x4) then
          some false
         else
          spec_l08Ok_p2 v0 v3 (IntKind.i64.wrap (v4 + 1))
      else
       none
    else
     none
   else
    spec_l08Ok_p0 v0 (IntKind.i64.wrap (v3 + 1))
 else
  none :=
 (goL_dn _ _ _ 4000 _ _).trans (by kernel_rfl)
def spec_l10Size_ir : Fn := { np := 1,io := [],res := [.t 2],own := [false],body :=
 (.seq (.reg false [.V 2 (.asg (.c (.bool false)))] [0] []) (.seq (.reg false [.V 3 (.mv (.t 0)),.V 4 (.call (.c (.fn 1 [])) [.t 3,.c (.int .i64 100),.c (.int .i64 10000)]),.V 2 (.asg (.t 4))] [2] []) .ret)) }
noncomputable def spec_l10Size_D : List (Nat × Callee) := [(1,spec_l00In_c)]
def spec_l10Size_H : List (Nat × ET) := []
noncomputable def spec_l10Size_c : Callee := mkCallee spec_l10Size_D spec_l10Size_H spec_l10Size_ir [.d (.one (.int .i64))] [.d (.one .bool)] []
noncomputable def spec_l10Size (a0 : Int) : Option (Bool) := spec_l10Size_c.f (a0,())
theorem spec_l10Size_eq (a0 : Int) : spec_l10Size a0 =
 (spec_l00In a0 100 10000).bind fun x1 =>
  some x1 :=
 (mk_f _ _ _ _ _ _ _ 4000).trans (by kernel_rfl)
def spec_l10Ok_ir : Fn := { np := 1,io := [],res := [.t 2],own := [false],body :=
 (.seq (.reg false [.V 2 (.asg (.c (.bool false)))] [0] []) (.seq (.reg false [.V 3 (.mv (.t 0)),.V 4 (.nilck (.t 3)),.V 5 (.fa 0 (.t 4)),.V 6 (.ld none (.t 5)),.V 7 (.call (.c (.fn 844 [])) [.t 6]),.V 8 (.mv (.t 7)),.G 9 (.mv (.t 0)) 5 true,.G 10 (.nilck (.t 9)) 5 true,.G 11 (.fa 1 (.t 10)) 5 true,.G 12 (.ld none (.t 11)) 5 true,.G 13 (.call (.c (.fn 844 [])) [.t 12]) 5 true,.V 14 (.pick (.t 8) (.t 13) (.c (.bool false))),.V 15 (.mv (.t 14)),.G 16 (.mv (.t 0)) 12 true,.G 17 (.nilck (.t 16)) 12 true,.G 18 (.fa 2 (.t 17)) 12 true,.G 19 (.ld none (.t 18)) 12 true,.G 20 (.call (.c (.fn 1 [])) [.t 19,.c (.int .i64 0),.c (.int .i64 500)]) 12 true,.V 21 (.pick (.t 15) (.t 20) (.c (.bool false))),.V 22 (.mv (.t 21)),.G 23 (.mv (.t 0)) 19 true,.G 24 (.nilck (.t 23)) 19 true,.G 25 (.fa 3 (.t 24)) 19 true,.G 26 (.ld none (.t 25)) 19 true,.G 27 (.call (.c (.fn 1 [])) [.t 26,.c (.int .i64 0),.c (.int .i64 300)]) 19 true,.V 28 (.pick (.t 22) (.t 27) (.c (.bool false))),.V 2 (.asg (.t 28))] [2] []) .ret)) }
noncomputable def spec_l10Ok_D : List (Nat × Callee) := [(1,spec_l00In_c),(844,spec_l10Size_c)]
def spec_l10Ok_H : List (Nat × ET) := []
noncomputable def spec_l10Ok_c : Callee := mkCallee spec_l10Ok_D spec_l10Ok_H spec_l10Ok_ir [.p T_Neck] [.d (.one .bool)] []
noncomputable def spec_l10Ok (a0 : T_Neck.ty) : Option (Bool) := spec_l10Ok_c.f (a0,())
theorem spec_l10Ok_eq (a0 : T_Neck.ty) : spec_l10Ok a0 =
 (spec_l10Size a0.1).bind fun x1 =>
  if x1 then
   (spec_l10Size a0.2.1).bind fun x2 =>
    if x2 then
     (spec_l00In a0.2.2.1 0 500).bind fun x3 =>
      if x3 then
       (spec_l00In a0.2.2.2.1 0 300).bind fun x4 =>
        some x4
      else
       some false
    else
     some false
  else
   some false :=
 (mk_f _ _ _ _ _ _ _ 4000).trans (by kernel_rfl)
def spec_l12Hole_ir : Fn := { np := 1,io := [],res := [.t 2],own := [false],body :=
 (.seq (.reg false [.V 2 (.asg (.c (.bool false)))] [0] []) (.seq (.reg false [.V 3 (.mv (.t 0)),.V 4 (.call (.c (.fn 1 [])) [.t 3,.c (.int .i64 20),.c (.int .i64 200)]),.V 2 (.asg (.t 4))] [2] []) .ret)) }
noncomputable def spec_l12Hole_D : List (Nat × Callee) := [(1,spec_l00In_c)]
def spec_l12Hole_H : List (Nat × ET) := []
noncomputable def spec_l12Hole_c : Callee := mkCallee spec_l12Hole_D spec_l12Hole_H spec_l12Hole_ir [.d (.one (.int .i64))] [.d (.one .bool)] []
noncomputable def spec_l12Hole (a0 : Int) : Option (Bool) := spec_l12Hole_c.f (a0,())
theorem spec_l12Hole_eq (a0 : Int) : spec_l12Hole a0 =
 (spec_l00In a0 20 200).bind fun x1 =>
  some x1 :=
 (mk_f _ _ _ _ _ _ _ 4000).trans (by kernel_rfl)
def spec_l12One_ir : Fn := { np := 1,io := [],res := [.t 2],own := [false],body :=
 (.seq (.reg false [.V 2 (.asg (.c (.bool false)))] [0] []) (.seq (.reg false [.V 3 (.mv (.t 0)),.V 4 (.nilck (.t 3)),.V 5 (.fa 0 (.t 4)),.V 6 (.ld none (.t 5)),.V 7 (.call (.c (.fn 13 [])) [.t 6]),.V 8 (.mv (.t 7)),.G 9 (.mv (.t 0)) 5 true,.G 10 (.nilck (.t 9)) 5 true,.G 11 (.fa 1 (.t 10)) 5 true,.G 12 (.ld none (.t 11)) 5 true,.G 13 (.call (.c (.fn 495 [])) [.t 12]) 5 true,.V 14 (.pick (.t 8) (.t 13) (.c (.bool false))),.V 15 (.mv (.t 14)),.G 16 (.mv (.t 0)) 12 true,.G 17 (.nilck (.t 16)) 12 true,.G 18 (.fa 2 (.t 17)) 12 true,.G 19 (.ld none (.t 18)) 12 true,.G 20 (.call (.c (.fn 1 [])) [.t 19,.c (.int .i64 100),.c (.int .i64 1000)]) 12 true,.V 21 (.pick (.t 15) (.t 20) (.c (.bool false))),.V 22 (.mv (.t 21)),.G 23 (.mv (.t 0)) 19 true,.G 24 (.nilck (.t 23)) 19 true,.G 25 (.fa 3 (.t 24)) 19 true,.G 26 (.ld none (.t 25)) 19 true,.G 27 (.call (.c (.fn 1 [])) [.t 26,.c (.int .i64 10),.c (.int .i64 100)]) 19 true,.V 28 (.pick (.t 22) (.t 27) (.c (.bool false))),.V 2 (.asg (.t 28))] [2] []) .ret)) }
noncomputable def spec_l12One_D : List (Nat × Callee) := [(1,spec_l00In_c),(13,spec_l01Name_c),(495,spec_l12Hole_c)]
def spec_l12One_H : List (Nat × ET) := []
noncomputable def spec_l12One_c : Callee := mkCallee spec_l12One_D spec_l12One_H spec_l12One_ir [.p T_Peg] [.d (.one .bool)] []
noncomputable def spec_l12One (a0 : T_Peg.ty) : Option (Bool) := spec_l12One_c.f (a0,())
theorem spec_l12One_eq (a0 : T_Peg.ty) : spec_l12One a0 =
 (spec_l01Name a0.1).bind fun x1 =>
  if x1 then
   (spec_l12Hole a0.2.1).bind fun x2 =>
    if x2 then
     (spec_l00In a0.2.2.1 100 1000).bind fun x3 =>
      if x3 then
       (spec_l00In a0.2.2.2.1 10 100).bind fun x4 =>
        some x4
      else
       some false
    else
     some false
  else
   some false :=
 (mk_f _ _ _ _ _ _ _ 4000).trans (by kernel_rfl)
def spec_l12Ok_k0 : C :=
 .seq (.seq (.reg false [.V 4 (.mv (.t 3)),.V 5 (.mv (.t 0)),.V 6 (.len (.t 5)),.V 7 (.bin .lss (.t 4) (.t 6))] [0,3,7] []) (.cond (.t 7) .skip (.exit 0))) (.seq (.block 1 (.seq (.reg true [.V 10 (.mv (.t 0)),.V 11 (.mv (.t 3)),.V 12 (.ia 4 (.t 10) (.t 11)),.V 13 (.call (.c (.fn 800 [])) [.t 12]),.V 14 (.un .not (.t 13)),.V 15 (.mv (.t 14)),.G 16 (.mv (.t 3)) 5 false,.G 17 (.bin .gtr (.t 16) (.c (.int .i64 0))) 5 false,.G 18 (.mv (.t 17)) 5 false,.G 19 (.mv (.t 0)) 8 true,.G 20 (.mv (.t 3)) 8 true,.G 21 (.bin .sub (.t 20) (.c (.int .i64 1))) 8 true,.G 22 (.ia 4 (.t 19) (.t 21)) 8 true,.G 23 (.fa 0 (.t 22)) 8 true,.G 24 (.ld none (.t 23)) 8 true,.G 25 (.mv (.t 0)) 8 true,.G 26 (.mv (.t 3)) 8 true,.G 27 (.ia 4 (.t 25) (.t 26)) 8 true,.G 28 (.fa 0 (.t 27)) 8 true,.G 29 (.ld none (.t 28)) 8 true,.G 30 (.bin .geq (.t 24) (.t 29)) 8 true,.G 31 (.pick (.t 18) (.t 30) (.c (.bool false))) 5 false,.V 32 (.pick (.t 15) (.c (.bool true)) (.t 31))] [0,3,32] []) (.cond (.t 32) (.seq (.reg false [.V 2 (.asg (.c (.bool false)))] [2] []) .ret) .skip))) (.reg false [.V 8 (.mv (.t 3)),.V 9 (.bin .add (.t 8) (.c (.int .i64 1))),.V 3 (.asg (.t 9))] [0,3] []))
def spec_l12Ok_k1 : C :=
 .norm [0,3] [] spec_l12Ok_k0
def spec_l12Ok_k2 : C :=
 .seq (.reg false [.V 33 (.mv (.t 0)),.V 34 (.len (.t 33)),.V 35 (.bin .leq (.t 34) (.c (.int .i64 8))),.V 2 (.asg (.t 35))] [2] []) .ret
def spec_l12Ok_ir : Fn := { np := 1,io := [],res := [.t 2],own := [false],body :=
 (.seq (.reg false [.V 2 (.asg (.c (.bool false)))] [0] []) (.seq (.seq (.reg false [.V 3 (.asg (.c (.int .i64 0)))] [0,3] []) (.block 0 (.loop spec_l12Ok_k1))) spec_l12Ok_k2)) }
noncomputable def spec_l12Ok_D : List (Nat × Callee) := [(800,spec_l12One_c)]
def spec_l12Ok_H : List (Nat × ET) := [(5,T_Peg),(10,T_Peg),(19,T_Peg),(25,T_Peg),(33,T_Peg)]
noncomputable def spec_l12Ok_c : Callee := mkCallee spec_l12Ok_D spec_l12Ok_H spec_l12Ok_ir [.d (.one (.sl T_Peg))] [.d (.one .bool)] []
noncomputable def spec_l12Ok (a0 : List T_Peg.ty) : Option (Bool) := spec_l12Ok_c.f (a0,())
noncomputable def spec_l12Ok_p0  (v0 : List T_Peg.ty) (v3 : Int) : Option (Bool) :=
 goL spec_l12Ok_D spec_l12Ok_H (vleave spec_l12Ok_ir [.d (.one (.sl T_Peg))] [.d (.one .bool)] [] []) [.c spec_l12Ok_k0,.l spec_l12Ok_k1,.e 0,.c spec_l12Ok_k2]
  ⟨[(0,.sl T_Peg v0),(3,.int .i64 v3)],[]⟩
theorem spec_l12Ok_eq (a0 : List T_Peg.ty) : spec_l12Ok a0 =
 spec_l12Ok_p0 a0 0 :=
 (mk_f _ _ _ _ _ _ _ 4000).trans (by kernel_rfl)
theorem spec_l12Ok_p0_eq  (v0 : List T_Peg.ty) (v3 : Int) : spec_l12Ok_p0 v0 v3 =
 if decide (v3 < (v0.length : Int)) then
  if decide (0 ≤ v3) then
   (v0[v3.toNat]?).bind fun x1 =>
    (spec_l12One x1).bind fun x2 =>
     if (!x2) then
      some false
     else
      if decide (v3 > 0) then
       if decide (0 ≤ IntKind.i64.wrap (v3 - 1)) then
        (v0[(IntKind.i64.wrap (v3 - 1)).toNat]?).bind fun x3 =>
         if decide (0 ≤ v3) then
          (v0[v3.toNat]?).bind fun x4 =>
           if (!Op.bytesLess x3.1 x4.1) then
            some false
           else
            spec_l12Ok_p0 v0 (IntKind.i64.wrap (v3 + 1))
         else
          none
       else
        none
      else
       spec_l12Ok_p0 v0 (IntKind.i64.wrap (v3 + 1))
  else
   none
 else
  some (decide ((v0.length : Int) ≤ 8)) :=
 (goL_dn _ _ _ 4000 _ _).trans (by kernel_rfl)
def spec_l14Grams_ir : Fn := { np := 1,io := [],res := [.t 2],own := [false],body :=
 (.seq (.reg false [.V 2 (.asg (.c (.bool false)))] [0] []) (.seq (.reg false [.V 3 (.mv (.t 0)),.V 4 (.call (.c (.fn 1 [])) [.t 3,.c (.int .i64 1),.c (.int .i64 10000)]),.V 2 (.asg (.t 4))] [2] []) .ret)) }
noncomputable def spec_l14Grams_D : List (Nat × Callee) := [(1,spec_l00In_c)]
def spec_l14Grams_H : List (Nat × ET) := []
noncomputable def spec_l14Grams_c : Callee := mkCallee spec_l14Grams_D spec_l14Grams_H spec_l14Grams_ir [.d (.one (.int .i64))] [.d (.one .bool)] []
noncomputable def spec_l14Grams (a0 : Int) : Option (Bool) := spec_l14Grams_c.f (a0,())
theorem spec_l14Grams_eq (a0 : Int) : spec_l14Grams a0 =
 (spec_l00In a0 1 10000).bind fun x1 =>
  some x1 :=
 (mk_f _ _ _ _ _ _ _ 4000).trans (by kernel_rfl)
def spec_l14Heat_ir : Fn := { np := 1,io := [],res := [.t 2],own := [false],body :=
 (.seq (.reg false [.V 2 (.asg (.c (.bool false)))] [0] []) (.seq (.reg false [.V 3 (.mv (.t 0)),.V 4 (.call (.c (.fn 1 [])) [.t 3,.c (.int .i64 20),.c (.int .i64 95)]),.V 2 (.asg (.t 4))] [2] []) .ret)) }
noncomputable def spec_l14Heat_D : List (Nat × Callee) := [(1,spec_l00In_c)]
def spec_l14Heat_H : List (Nat × ET) := []
noncomputable def spec_l14Heat_c : Callee := mkCallee spec_l14Heat_D spec_l14Heat_H spec_l14Heat_ir [.d (.one (.int .i64))] [.d (.one .bool)] []
noncomputable def spec_l14Heat (a0 : Int) : Option (Bool) := spec_l14Heat_c.f (a0,())
theorem spec_l14Heat_eq (a0 : Int) : spec_l14Heat a0 =
 (spec_l00In a0 20 95).bind fun x1 =>
  some x1 :=
 (mk_f _ _ _ _ _ _ _ 4000).trans (by kernel_rfl)
def spec_l14One_ir : Fn := { np := 1,io := [],res := [.t 2],own := [false],body :=
 (.seq (.reg false [.V 2 (.asg (.c (.bool false)))] [0] []) (.seq (.reg false [.V 3 (.mv (.t 0)),.V 4 (.nilck (.t 3)),.V 5 (.fa 0 (.t 4)),.V 6 (.ld none (.t 5)),.V 7 (.call (.c (.fn 13 [])) [.t 6]),.V 8 (.mv (.t 7)),.G 9 (.mv (.t 0)) 5 true,.G 10 (.nilck (.t 9)) 5 true,.G 11 (.fa 1 (.t 10)) 5 true,.G 12 (.ld none (.t 11)) 5 true,.G 13 (.call (.c (.fn 14 [])) [.t 12]) 5 true,.V 14 (.pick (.t 8) (.t 13) (.c (.bool false))),.V 15 (.mv (.t 14)),.G 16 (.mv (.t 0)) 12 true,.G 17 (.nilck (.t 16)) 12 true,.G 18 (.fa 2 (.t 17)) 12 true,.G 19 (.ld none (.t 18)) 12 true,.G 20 (.call (.c (.fn 14 [])) [.t 19]) 12 true,.V 21 (.pick (.t 15) (.t 20) (.c (.bool false))),.V 22 (.mv (.t 21)),.G 23 (.mv (.t 0)) 19 true,.G 24 (.nilck (.t 23)) 19 true,.G 25 (.fa 3 (.t 24)) 19 true,.G 26 (.ld none (.t 25)) 19 true,.G 27 (.call (.c (.fn 15 [])) [.t 26]) 19 true,.V 28 (.pick (.t 22) (.t 27) (.c (.bool false))),.V 29 (.mv (.t 28)),.G 30 (.mv (.t 0)) 26 true,.G 31 (.nilck (.t 30)) 26 true,.G 32 (.fa 4 (.t 31)) 26 true,.G 33 (.ld none (.t 32)) 26 true,.G 34 (.call (.c (.fn 1 [])) [.t 33,.c (.int .i64 0),.c (.int .i64 1000)]) 26 true,.V 35 (.pick (.t 29) (.t 34) (.c (.bool false))),.V 2 (.asg (.t 35))] [2] []) .ret)) }
noncomputable def spec_l14One_D : List (Nat × Callee) := [(1,spec_l00In_c),(13,spec_l01Name_c),(14,spec_l14Grams_c),(15,spec_l14Heat_c)]
def spec_l14One_H : List (Nat × ET) := []
noncomputable def spec_l14One_c : Callee := mkCallee spec_l14One_D spec_l14One_H spec_l14One_ir [.p T_Pot] [.d (.one .bool)] []
noncomputable def spec_l14One (a0 : T_Pot.ty) : Option (Bool) := spec_l14One_c.f (a0,())
theorem spec_l14One_eq (a0 : T_Pot.ty) : spec_l14One a0 =
 (spec_l01Name a0.1).bind fun x1 =>
  if x1 then
   (spec_l14Grams a0.2.1).bind fun x2 =>
    if x2 then
     (spec_l14Grams a0.2.2.1).bind fun x3 =>
      if x3 then
       (spec_l14Heat a0.2.2.2.1).bind fun x4 =>
        if x4 then
         (spec_l00In a0.2.2.2.2.1 0 1000).bind fun x5 =>
          some x5
        else
         some false
      else
       some false
    else
     some false
  else
   some false :=
 (mk_f _ _ _ _ _ _ _ 4000).trans (by kernel_rfl)
def spec_l14Ok_k0 : C :=
 .seq (.seq (.reg false [.V 4 (.mv (.t 3)),.V 5 (.mv (.t 0)),.V 6 (.len (.t 5)),.V 7 (.bin .lss (.t 4) (.t 6))] [0,3,7] []) (.cond (.t 7) .skip (.exit 0))) (.seq (.block 1 (.seq (.reg true [.V 10 (.mv (.t 0)),.V 11 (.mv (.t 3)),.V 12 (.ia 5 (.t 10) (.t 11)),.V 13 (.call (.c (.fn 20 [])) [.t 12]),.V 14 (.un .not (.t 13)),.V 15 (.mv (.t 14)),.G 16 (.mv (.t 3)) 5 false,.G 17 (.bin .gtr (.t 16) (.c (.int .i64 0))) 5 false,.G 18 (.mv (.t 17)) 5 false,.G 19 (.mv (.t 0)) 8 true,.G 20 (.mv (.t 3)) 8 true,.G 21 (.bin .sub (.t 20) (.c (.int .i64 1))) 8 true,.G 22 (.ia 5 (.t 19) (.t 21)) 8 true,.G 23 (.fa 0 (.t 22)) 8 true,.G 24 (.ld none (.t 23)) 8 true,.G 25 (.mv (.t 0)) 8 true,.G 26 (.mv (.t 3)) 8 true,.G 27 (.ia 5 (.t 25) (.t 26)) 8 true,.G 28 (.fa 0 (.t 27)) 8 true,.G 29 (.ld none (.t 28)) 8 true,.G 30 (.bin .geq (.t 24) (.t 29)) 8 true,.G 31 (.pick (.t 18) (.t 30) (.c (.bool false))) 5 false,.V 32 (.pick (.t 15) (.c (.bool true)) (.t 31))] [0,3,32] []) (.cond (.t 32) (.seq (.reg false [.V 2 (.asg (.c (.bool false)))] [2] []) .ret) .skip))) (.reg false [.V 8 (.mv (.t 3)),.V 9 (.bin .add (.t 8) (.c (.int .i64 1))),.V 3 (.asg (.t 9))] [0,3] []))
def spec_l14Ok_k1 : C :=
 .norm [0,3] [] spec_l14Ok_k0
def spec_l14Ok_k2 : C :=
 .seq (.reg false [.V 33 (.mv (.t 0)),.V 34 (.len (.t 33)),.V 35 (.bin .leq (.t 34) (.c (.int .i64 8))),.V 2 (.asg (.t 35))] [2] []) .ret
def spec_l14Ok_ir : Fn := { np := 1,io := [],res := [.t 2],own := [false],body :=
 (.seq (.reg false [.V 2 (.asg (.c (.bool false)))] [0] []) (.seq (.seq (.reg false [.V 3 (.asg (.c (.int .i64 0)))] [0,3] []) (.block 0 (.loop spec_l14Ok_k1))) spec_l14Ok_k2)) }
noncomputable def spec_l14Ok_D : List (Nat × Callee) := [(20,spec_l14One_c)]
def spec_l14Ok_H : List (Nat × ET) := [(5,T_Pot),(10,T_Pot),(19,T_Pot),(25,T_Pot),(33,T_Pot)]
noncomputable def spec_l14Ok_c : Callee := mkCallee spec_l14Ok_D spec_l14Ok_H spec_l14Ok_ir [.d (.one (.sl T_Pot))] [.d (.one .bool)] []
noncomputable def spec_l14Ok (a0 : List T_Pot.ty) : Option (Bool) := spec_l14Ok_c.f (a0,())
noncomputable def spec_l14Ok_p0  (v0 : List T_Pot.ty) (v3 : Int) : Option (Bool) :=
 goL spec_l14Ok_D spec_l14Ok_H (vleave spec_l14Ok_ir [.d (.one (.sl T_Pot))] [.d (.one .bool)] [] []) [.c spec_l14Ok_k0,.l spec_l14Ok_k1,.e 0,.c spec_l14Ok_k2]
  ⟨[(0,.sl T_Pot v0),(3,.int .i64 v3)],[]⟩
theorem spec_l14Ok_eq (a0 : List T_Pot.ty) : spec_l14Ok a0 =
 spec_l14Ok_p0 a0 0 :=
 (mk_f _ _ _ _ _ _ _ 4000).trans (by kernel_rfl)
theorem spec_l14Ok_p0_eq  (v0 : List T_Pot.ty) (v3 : Int) : spec_l14Ok_p0 v0 v3 =
 if decide (v3 < (v0.length : Int)) then
  if decide (0 ≤ v3) then
   (v0[v3.toNat]?).bind fun x1 =>
    (spec_l14One x1).bind fun x2 =>
     if (!x2) then
      some false
     else
      if decide (v3 > 0) then
       if decide (0 ≤ IntKind.i64.wrap (v3 - 1)) then
        (v0[(IntKind.i64.wrap (v3 - 1)).toNat]?).bind fun x3 =>
         if decide (0 ≤ v3) then
          (v0[v3.toNat]?).bind fun x4 =>
           if (!Op.bytesLess x3.1 x4.1) then
            some false
           else
            spec_l14Ok_p0 v0 (IntKind.i64.wrap (v3 + 1))
         else
          none
       else
        none
      else
       spec_l14Ok_p0 v0 (IntKind.i64.wrap (v3 + 1))
  else
   none
 else
  some (decide ((v0.length : Int) ≤ 8)) :=
 (goL_dn _ _ _ 4000 _ _).trans (by kernel_rfl)
def spec_l16Tone_ir : Fn := { np := 1,io := [],res := [.t 2],own := [false],body :=
 (.seq (.reg false [.V 2 (.asg (.c (.bool false)))] [0] []) (.seq (.reg false [.V 3 (.mv (.t 0)),.V 4 (.call (.c (.fn 1 [])) [.t 3,.c (.int .i64 1000),.c (.int .i64 100000)]),.V 2 (.asg (.t 4))] [2] []) .ret)) }
noncomputable def spec_l16Tone_D : List (Nat × Callee) := [(1,spec_l00In_c)]
def spec_l16Tone_H : List (Nat × ET) := []
noncomputable def spec_l16Tone_c : Callee := mkCallee spec_l16Tone_D spec_l16Tone_H spec_l16Tone_ir [.d (.one (.int .i64))] [.d (.one .bool)] []
noncomputable def spec_l16Tone (a0 : Int) : Option (Bool) := spec_l16Tone_c.f (a0,())
theorem spec_l16Tone_eq (a0 : Int) : spec_l16Tone a0 =
 (spec_l00In a0 1000 100000).bind fun x1 =>
  some x1 :=
 (mk_f _ _ _ _ _ _ _ 4000).trans (by kernel_rfl)
def spec_l16One_ir : Fn := { np := 1,io := [],res := [.t 2],own := [false],body :=
 (.seq (.reg false [.V 2 (.asg (.c (.bool false)))] [0] []) (.seq (.reg false [.V 3 (.mv (.t 0)),.V 4 (.nilck (.t 3)),.V 5 (.fa 0 (.t 4)),.V 6 (.ld none (.t 5)),.V 7 (.call (.c (.fn 13 [])) [.t 6]),.V 8 (.mv (.t 7)),.G 9 (.mv (.t 0)) 5 true,.G 10 (.nilck (.t 9)) 5 true,.G 11 (.fa 1 (.t 10)) 5 true,.G 12 (.ld none (.t 11)) 5 true,.G 13 (.call (.c (.fn 1012 [])) [.t 12]) 5 true,.V 14 (.pick (.t 8) (.t 13) (.c (.bool false))),.V 15 (.mv (.t 14)),.G 16 (.mv (.t 0)) 12 true,.G 17 (.nilck (.t 16)) 12 true,.G 18 (.fa 2 (.t 17)) 12 true,.G 19 (.ld none (.t 18)) 12 true,.G 20 (.call (.c (.fn 1 [])) [.t 19,.c (.int .i64 1),.c (.int .i64 500)]) 12 true,.V 21 (.pick (.t 15) (.t 20) (.c (.bool false))),.V 2 (.asg (.t 21))] [2] []) .ret)) }
noncomputable def spec_l16One_D : List (Nat × Callee) := [(1,spec_l00In_c),(13,spec_l01Name_c),(1012,spec_l16Tone_c)]
def spec_l16One_H : List (Nat × ET) := []
noncomputable def spec_l16One_c : Callee := mkCallee spec_l16One_D spec_l16One_H spec_l16One_ir [.p T_Mode] [.d (.one .bool)] []
noncomputable def spec_l16One (a0 : T_Mode.ty) : Option (Bool) := spec_l16One_c.f (a0,())
theorem spec_l16One_eq (a0 : T_Mode.ty) : spec_l16One a0 =
 (spec_l01Name a0.1).bind fun x1 =>
  if x1 then
   (spec_l16Tone a0.2.1).bind fun x2 =>
    if x2 then
     (spec_l00In a0.2.2.1 1 500).bind fun x3 =>
      some x3
    else
     some false
  else
   some false :=
 (mk_f _ _ _ _ _ _ _ 4000).trans (by kernel_rfl)
def spec_l16Ok_k0 : C :=
 .seq (.seq (.reg false [.V 4 (.mv (.t 3)),.V 5 (.mv (.t 0)),.V 6 (.len (.t 5)),.V 7 (.bin .lss (.t 4) (.t 6))] [0,3,7] []) (.cond (.t 7) .skip (.exit 0))) (.seq (.block 1 (.seq (.reg true [.V 10 (.mv (.t 0)),.V 11 (.mv (.t 3)),.V 12 (.ia 3 (.t 10) (.t 11)),.V 13 (.call (.c (.fn 848 [])) [.t 12]),.V 14 (.un .not (.t 13)),.V 15 (.mv (.t 14)),.G 16 (.mv (.t 3)) 5 false,.G 17 (.bin .gtr (.t 16) (.c (.int .i64 0))) 5 false,.G 18 (.mv (.t 17)) 5 false,.G 19 (.mv (.t 0)) 8 true,.G 20 (.mv (.t 3)) 8 true,.G 21 (.bin .sub (.t 20) (.c (.int .i64 1))) 8 true,.G 22 (.ia 3 (.t 19) (.t 21)) 8 true,.G 23 (.fa 0 (.t 22)) 8 true,.G 24 (.ld none (.t 23)) 8 true,.G 25 (.mv (.t 0)) 8 true,.G 26 (.mv (.t 3)) 8 true,.G 27 (.ia 3 (.t 25) (.t 26)) 8 true,.G 28 (.fa 0 (.t 27)) 8 true,.G 29 (.ld none (.t 28)) 8 true,.G 30 (.bin .geq (.t 24) (.t 29)) 8 true,.G 31 (.pick (.t 18) (.t 30) (.c (.bool false))) 5 false,.V 32 (.pick (.t 15) (.c (.bool true)) (.t 31))] [0,3,32] []) (.cond (.t 32) (.seq (.reg false [.V 2 (.asg (.c (.bool false)))] [2] []) .ret) .skip))) (.reg false [.V 8 (.mv (.t 3)),.V 9 (.bin .add (.t 8) (.c (.int .i64 1))),.V 3 (.asg (.t 9))] [0,3] []))
def spec_l16Ok_k1 : C :=
 .norm [0,3] [] spec_l16Ok_k0
def spec_l16Ok_k2 : C :=
 .seq (.reg false [.V 33 (.mv (.t 0)),.V 34 (.len (.t 33)),.V 35 (.bin .leq (.t 34) (.c (.int .i64 10))),.V 2 (.asg (.t 35))] [2] []) .ret
def spec_l16Ok_ir : Fn := { np := 1,io := [],res := [.t 2],own := [false],body :=
 (.seq (.reg false [.V 2 (.asg (.c (.bool false)))] [0] []) (.seq (.seq (.reg false [.V 3 (.asg (.c (.int .i64 0)))] [0,3] []) (.block 0 (.loop spec_l16Ok_k1))) spec_l16Ok_k2)) }
noncomputable def spec_l16Ok_D : List (Nat × Callee) := [(848,spec_l16One_c)]
def spec_l16Ok_H : List (Nat × ET) := [(5,T_Mode),(10,T_Mode),(19,T_Mode),(25,T_Mode),(33,T_Mode)]
noncomputable def spec_l16Ok_c : Callee := mkCallee spec_l16Ok_D spec_l16Ok_H spec_l16Ok_ir [.d (.one (.sl T_Mode))] [.d (.one .bool)] []
noncomputable def spec_l16Ok (a0 : List T_Mode.ty) : Option (Bool) := spec_l16Ok_c.f (a0,())
noncomputable def spec_l16Ok_p0  (v0 : List T_Mode.ty) (v3 : Int) : Option (Bool) :=
 goL spec_l16Ok_D spec_l16Ok_H (vleave spec_l16Ok_ir [.d (.one (.sl T_Mode))] [.d (.one .bool)] [] []) [.c spec_l16Ok_k0,.l spec_l16Ok_k1,.e 0,.c spec_l16Ok_k2]
  ⟨[(0,.sl T_Mode v0),(3,.int .i64 v3)],[]⟩
theorem spec_l16Ok_eq (a0 : List T_Mode.ty) : spec_l16Ok a0 =
 spec_l16Ok_p0 a0 0 :=
 (mk_f _ _ _ _ _ _ _ 4000).trans (by kernel_rfl)
theorem spec_l16Ok_p0_eq  (v0 : List T_Mode.ty) (v3 : Int) : spec_l16Ok_p0 v0 v3 =
 if decide (v3 < (v0.length : Int)) then
  if decide (0 ≤ v3) then
   (v0[v3.toNat]?).bind fun x1 =>
    (spec_l16One x1).bind fun x2 =>
     if (!x2) then
      some false
     else
      if decide (v3 > 0) then
       if decide (0 ≤ IntKind.i64.wrap (v3 - 1)) then
        (v0[(IntKind.i64.wrap (v3 - 1)).toNat]?).bind fun x3 =>
         if decide (0 ≤ v3) then
          (v0[v3.toNat]?).bind fun x4 =>
           if (!Op.bytesLess x3.1 x4.1) then
            some false
           else
            spec_l16Ok_p0 v0 (IntKind.i64.wrap (v3 + 1))
         else
          none
       else
        none
      else
       spec_l16Ok_p0 v0 (IntKind.i64.wrap (v3 + 1))
  else
   none
 else
  some (decide ((v0.length : Int) ≤ 10)) :=
 (goL_dn _ _ _ 4000 _ _).trans (by kernel_rfl)
def spec_l18Days_ir : Fn := { np := 1,io := [],res := [.t 2],own := [false],body :=
 (.seq (.reg false [.V 2 (.asg (.c (.bool false)))] [0] []) (.seq (.reg false [.V 3 (.mv (.t 0)),.V 4 (.call (.c (.fn 1 [])) [.t 3,.c (.int .i64 1),.c (.int .i64 40)]),.V 2 (.asg (.t 4))] [2] []) .ret)) }
noncomputable def spec_l18Days_D : List (Nat × Callee) := [(1,spec_l00In_c)]
def spec_l18Days_H : List (Nat × ET) := []
noncomputable def spec_l18Days_c : Callee := mkCallee spec_l18Days_D spec_l18Days_H spec_l18Days_ir [.d (.one (.int .i64))] [.d (.one .bool)] []
noncomputable def spec_l18Days (a0 : Int) : Option (Bool) := spec_l18Days_c.f (a0,())
theorem spec_l18Days_eq (a0 : Int) : spec_l18Days a0 =
 (spec_l00In a0 1 40).bind fun x1 =>
  some x1 :=
 (mk_f _ _ _ _ _ _ _ 4000).trans (by kernel_rfl)
def spec_l18Day_ir : Fn := { np := 1,io := [],res := [.t 2],own := [false],body :=
 (.seq (.reg false [.V 2 (.asg (.c (.bool false)))] [0] []) (.seq (.reg false [.V 3 (.mv (.t 0)),.V 4 (.call (.c (.fn 1 [])) [.t 3,.c (.int .i64 0),.c (.int .i64 39)]),.V 2 (.asg (.t 4))] [2] []) .ret)) }
noncomputable def spec_l18Day_D : List (Nat × Callee) := [(1,spec_l00In_c)]
def spec_l18Day_H : List (Nat × ET) := []
noncomputable def spec_l18Day_c : Callee := mkCallee spec_l18Day_D spec_l18Day_H spec_l18Day_ir [.d (.one (.int .i64))] [.d (.one .bool)] []
noncomputable def spec_l18Day (a0 : Int) : Option (Bool) := spec_l18Day_c.f (a0,())
theorem spec_l18Day_eq (a0 : Int) : spec_l18Day a0 =
 (spec_l00In a0 0 39).bind fun x1 =>
  some x1 :=
 (mk_f _ _ _ _ _ _ _ 4000).trans (by kernel_rfl)
def spec_l18One_ir : Fn := { np := 1,io := [],res := [.t 2],own := [false],body :=
 (.seq (.reg false [.V 2 (.asg (.c (.bool false)))] [0] []) (.seq (.reg true [.V 3 (.mv (.t 0)),.V 4 (.nilck (.t 3)),.V 5 (.fa 0 (.t 4)),.V 6 (.ld none (.t 5)),.V 7 (.call (.c (.fn 13 [])) [.t 6]),.V 8 (.mv (.t 7)),.G 9 (.mv (.t 0)) 5 true,.G 10 (.nilck (.t 9)) 5 true,.G 11 (.fa 1 (.t 10)) 5 true,.G 12 (.ld none (.t 11)) 5 true,.G 13 (.call (.c (.fn 1054 [])) [.t 12]) 5 true,.V 14 (.pick (.t 8) (.t 13) (.c (.bool false))),.V 15 (.mv (.t 14)),.G 16 (.mv (.t 0)) 12 true,.G 17 (.nilck (.t 16)) 12 true,.G 18 (.fa 2 (.t 17)) 12 true,.G 19 (.ld none (.t 18)) 12 true,.G 20 (.call (.c (.fn 1055 [])) [.t 19]) 12 true,.V 21 (.pick (.t 15) (.t 20) (.c (.bool false))),.V 22 (.mv (.t 21)),.G 23 (.mv (.t 0)) 19 true,.G 24 (.nilck (.t 23)) 19 true,.G 25 (.fa 3 (.t 24)) 19 true,.G 26 (.ld none (.t 25)) 19 true,.G 27 (.call (.c (.fn 1055 [])) [.t 26]) 19 true,.V 28 (.pick (.t 22) (.t 27) (.c (.bool false))),.V 29 (.mv (.t 28)),.G 30 (.mv (.t 0)) 26 true,.G 31 (.nilck (.t 30)) 26 true,.G 32 (.fa 2 (.t 31)) 26 true,.G 33 (.ld none (.t 32)) 26 true,.G 34 (.mv (.t 0)) 26 true,.G 35 (.nilck (.t 34)) 26 true,.G 36 (.fa 1 (.t 35)) 26 true,.G 37 (.ld none (.t 36)) 26 true,.G 38 (.bin .add (.t 33) (.t 37)) 26 true,.G 39 (.bin .sub (.t 38) (.c (.int .i64 1))) 26 true,.G 40 (.mv (.t 0)) 26 true,.G 41 (.nilck (.t 40)) 26 true,.G 42 (.fa 3 (.t 41)) 26 true,.G 43 (.ld none (.t 42)) 26 true,.G 44 (.bin .leq (.t 39) (.t 43)) 26 true,.V 45 (.pick (.t 29) (.t 44) (.c (.bool false))),.V 2 (.asg (.t 45))] [2] []) .ret)) }
noncomputable def spec_l18One_D : List (Nat × Callee) := [(13,spec_l01Name_c),(1054,spec_l18Days_c),(1055,spec_l18Day_c)]
def spec_l18One_H : List (Nat × ET) := []
noncomputable def spec_l18One_c : Callee := mkCallee spec_l18One_D spec_l18One_H spec_l18One_ir [.p T_Peg] [.d (.one .bool)] []
noncomputable def spec_l18One (a0 : T_Peg.ty) : Option (Bool) := spec_l18One_c.f (a0,())
theorem spec_l18One_eq (a0 : T_Peg.ty) : spec_l18One a0 =
 (spec_l01Name a0.1).bind fun x1 =>
  if x1 then
   (spec_l18Days a0.2.1).bind fun x2 =>
    if x2 then
     (spec_l18Day a0.2.2.1).bind fun x3 =>
      if x3 then
       (spec_l18Day a0.2.2.2.1).bind fun x4 =>
        if x4 then
         some (decide (IntKind.i64.wrap ((IntKind.i64.wrap (a0.2.2.1 + a0.2.1)) - 1) ≤ a0.2.2.2.1))
        else
         some false
      else
       some false
    else
     some false
  else
   some false :=
 (mk_f _ _ _ _ _ _ _ 4000).trans (by kernel_rfl)
def spec_l18Ok_k0 : C :=
 .seq (.seq (.reg false [.V 4 (.mv (.t 3)),.V 5 (.mv (.t 0)),.V 6 (.len (.t 5)),.V 7 (.bin .lss (.t 4) (.t 6))] [0,3,7] []) (.cond (.t 7) .skip (.exit 0))) (.seq (.block 1 (.seq (.reg true [.V 10 (.mv (.t 0)),.V 11 (.mv (.t 3)),.V 12 (.ia 4 (.t 10) (.t 11)),.V 13 (.call (.c (.fn 976 [])) [.t 12]),.V 14 (.un .not (.t 13)),.V 15 (.mv (.t 14)),.G 16 (.mv (.t 3)) 5 false,.G 17 (.bin .gtr (.t 16) (.c (.int .i64 0))) 5 false,.G 18 (.mv (.t 17)) 5 false,.G 19 (.mv (.t 0)) 8 true,.G 20 (.mv (.t 3)) 8 true,.G 21 (.bin .sub (.t 20) (.c (.int .i64 1))) 8 true,.G 22 (.ia 4 (.t 19) (.t 21)) 8 true,.G 23 (.fa 0 (.t 22)) 8 true,.G 24 (.ld none (.t 23)) 8 true,.G 25 (.mv (.t 0)) 8 true,.G 26 (.mv (.t 3)) 8 true,.G 27 (.ia 4 (.t 25) (.t 26)) 8 true,.G 28 (.fa 0 (.t 27)) 8 true,.G 29 (.ld none (.t 28)) 8 true,.G 30 (.bin .geq (.t 24) (.t 29)) 8 true,.G 31 (.pick (.t 18) (.t 30) (.c (.bool false))) 5 false,.V 32 (.pick (.t 15) (.c (.bool true)) (.t 31))] [0,3,32] []) (.cond (.t 32) (.seq (.reg false [.V 2 (.asg (.c (.bool false)))] [2] []) .ret) .skip))) (.reg false [.V 8 (.mv (.t 3)),.V 9 (.bin .add (.t 8) (.c (.int .i64 1))),.V 3 (.asg (.t 9))] [0,3] []))
def spec_l18Ok_k1 : C :=
 .norm [0,3] [] spec_l18Ok_k0
def spec_l18Ok_k2 : C :=
 .seq (.reg false [.V 33 (.mv (.t 0)),.V 34 (.len (.t 33)),.V 35 (.bin .leq (.t 34) (.c (.int .i64 8))),.V 2 (.asg (.t 35))] [2] []) .ret
def spec_l18Ok_ir : Fn := { np := 1,io := [],res := [.t 2],own := [false],body :=
 (.seq (.reg false [.V 2 (.asg (.c (.bool false)))] [0] []) (.seq (.seq (.reg false [.V 3 (.asg (.c (.int .i64 0)))] [0,3] []) (.block 0 (.loop spec_l18Ok_k1))) spec_l18Ok_k2)) }
noncomputable def spec_l18Ok_D : List (Nat × Callee) := [(976,spec_l18One_c)]
def spec_l18Ok_H : List (Nat × ET) := [(5,T_Peg),(10,T_Peg),(19,T_Peg),(25,T_Peg),(33,T_Peg)]
noncomputable def spec_l18Ok_c : Callee := mkCallee spec_l18Ok_D spec_l18Ok_H spec_l18Ok_ir [.d (.one (.sl T_Peg))] [.d (.one .bool)] []
noncomputable def spec_l18Ok (a0 : List T_Peg.ty) : Option (Bool) := spec_l18Ok_c.f (a0,())
noncomputable def spec_l18Ok_p0  (v0 : List T_Peg.ty) (v3 : Int) : Option (Bool) :=
 goL spec_l18Ok_D spec_l18Ok_H (vleave spec_l18Ok_ir [.d (.one (.sl T_Peg))] [.d (.one .bool)] [] []) [.c spec_l18Ok_k0,.l spec_l18Ok_k1,.e 0,.c spec_l18Ok_k2]
  ⟨[(0,.sl T_Peg v0),(3,.int .i64 v3)],[]⟩
theorem spec_l18Ok_eq (a0 : List T_Peg.ty) : spec_l18Ok a0 =
 spec_l18Ok_p0 a0 0 :=
 (mk_f _ _ _ _ _ _ _ 4000).trans (by kernel_rfl)
theorem spec_l18Ok_p0_eq  (v0 : List T_Peg.ty) (v3 : Int) : spec_l18Ok_p0 v0 v3 =
 if decide (v3 < (v0.length : Int)) then
  if decide (0 ≤ v3) then
   (v0[v3.toNat]?).bind fun x1 =>
    (spec_l18One x1).bind fun x2 =>
     if (!x2) then
      some false
     else
      if decide (v3 > 0) then
       if decide (0 ≤ IntKind.i64.wrap (v3 - 1)) then
        (v0[(IntKind.i64.wrap (v3 - 1)).toNat]?).bind fun x3 =>
         if decide (0 ≤ v3) then
          (v0[v3.toNat]?).bind fun x4 =>
           if (!Op.bytesLess x3.1 x4.1) then
            some false
           else
            spec_l18Ok_p0 v0 (IntKind.i64.wrap (v3 + 1))
         else
          none
       else
        none
      else
       spec_l18Ok_p0 v0 (IntKind.i64.wrap (v3 + 1))
  else
   none
 else
  some (decide ((v0.length : Int) ≤ 8)) :=
 (goL_dn _ _ _ 4000 _ _).trans (by kernel_rfl)
def spec_l20Year_ir : Fn := { np := 1,io := [],res := [.t 2],own := [false],body :=
 (.seq (.reg false [.V 2 (.asg (.c (.bool false)))] [0] []) (.seq (.reg false [.V 3 (.mv (.t 0)),.V 4 (.call (.c (.fn 1 [])) [.t 3,.c (.int .i64 1500),.c (.int .i64 2100)]),.V 2 (.asg (.t 4))] [2] []) .ret)) }
noncomputable def spec_l20Year_D : List (Nat × Callee) := [(1,spec_l00In_c)]
def spec_l20Year_H : List (Nat × ET) := []
noncomputable def spec_l20Year_c : Callee := mkCallee spec_l20Year_D spec_l20Year_H spec_l20Year_ir [.d (.one (.int .i64))] [.d (.one .bool)] []
noncomputable def spec_l20Year (a0 : Int) : Option (Bool) := spec_l20Year_c.f (a0,())
theorem spec_l20Year_eq (a0 : Int) : spec_l20Year a0 =
 (spec_l00In a0 1500 2100).bind fun x1 =>
  some x1 :=
 (mk_f _ _ _ _ _ _ _ 4000).trans (by kernel_rfl)
def spec_l20One_ir : Fn := { np := 1,io := [],res := [.t 2],own := [false],body :=
 (.seq (.reg false [.V 2 (.asg (.c (.bool false)))] [0] []) (.seq (.reg true [.V 3 (.mv (.t 0)),.V 4 (.nilck (.t 3)),.V 5 (.fa 0 (.t 4)),.V 6 (.ld none (.t 5)),.V 7 (.call (.c (.fn 13 [])) [.t 6]),.V 8 (.mv (.t 7)),.G 9 (.mv (.t 0)) 5 true,.G 10 (.nilck (.t 9)) 5 true,.G 11 (.fa 1 (.t 10)) 5 true,.G 12 (.ld none (.t 11)) 5 true,.G 13 (.call (.c (.fn 13 [])) [.t 12]) 5 true,.V 14 (.pick (.t 8) (.t 13) (.c (.bool false))),.V 15 (.mv (.t 14)),.G 16 (.mv (.t 0)) 12 true,.G 17 (.nilck (.t 16)) 12 true,.G 18 (.fa 2 (.t 17)) 12 true,.G 19 (.ld none (.t 18)) 12 true,.G 20 (.call (.c (.fn 645 [])) [.t 19]) 12 true,.V 21 (.pick (.t 15) (.t 20) (.c (.bool false))),.V 22 (.mv (.t 21)),.G 23 (.mv (.t 0)) 19 true,.G 24 (.nilck (.t 23)) 19 true,.G 25 (.fa 3 (.t 24)) 19 true,.G 26 (.ld none (.t 25)) 19 true,.G 27 (.call (.c (.fn 645 [])) [.t 26]) 19 true,.V 28 (.pick (.t 22) (.t 27) (.c (.bool false))),.V 29 (.mv (.t 28)),.G 30 (.mv (.t 0)) 26 true,.G 31 (.nilck (.t 30)) 26 true,.G 32 (.fa 2 (.t 31)) 26 true,.G 33 (.ld none (.t 32)) 26 true,.G 34 (.mv (.t 0)) 26 true,.G 35 (.nilck (.t 34)) 26 true,.G 36 (.fa 3 (.t 35)) 26 true,.G 37 (.ld none (.t 36)) 26 true,.G 38 (.bin .leq (.t 33) (.t 37)) 26 true,.V 39 (.pick (.t 29) (.t 38) (.c (.bool false))),.V 40 (.mv (.t 39)),.G 41 (.mv (.t 0)) 37 true,.G 42 (.nilck (.t 41)) 37 true,.G 43 (.fa 4 (.t 42)) 37 true,.G 44 (.ld none (.t 43)) 37 true,.G 45 (.call (.c (.fn 1 [])) [.t 44,.c (.int .i64 1),.c (.int .i64 1000)]) 37 true,.V 46 (.pick (.t 40) (.t 45) (.c (.bool false))),.V 2 (.asg (.t 46))] [2] []) .ret)) }
noncomputable def spec_l20One_D : List (Nat × Callee) := [(1,spec_l00In_c),(13,spec_l01Name_c),(645,spec_l20Year_c)]
def spec_l20One_H : List (Nat × ET) := []
noncomputable def spec_l20One_c : Callee := mkCallee spec_l20One_D spec_l20One_H spec_l20One_ir [.p T_Paper] [.d (.one .bool)] []
noncomputable def spec_l20One (a0 : T_Paper.ty) : Option (Bool) := spec_l20One_c.f (a0,())
theorem spec_l20One_eq (a0 : T_Paper.ty) : spec_l20One a0 =
 (spec_l01Name a0.1).bind fun x1 =>
  if x1 then
   (spec_l01Name a0.2.1).bind fun x2 =>
    if x2 then
     (spec_l20Year a0.2.2.1).bind fun x3 =>
      if x3 then
       (spec_l20Year a0.2.2.2.1).bind fun x4 =>
        if x4 then
         if decide (a0.2.2.1 ≤ a0.2.2.2.1) then
          (spec_l00In a0.2.2.2.2.1 1 1000).bind fun x5 =>
           some x5
         else
          some false
        else
         some false
      else
       some false
    else
     some false
  else
   some false :=
 (mk_f _ _ _ _ _ _ _ 4000).trans (by kernel_rfl)
def spec_l20Ok_k0 : C :=
 .seq (.seq (.reg false [.V 4 (.mv (.t 3)),.V 5 (.mv (.t 0)),.V 6 (.len (.t 5)),.V 7 (.bin .lss (.t 4) (.t 6))] [0,3,7] []) (.cond (.t 7) .skip (.exit 0))) (.seq (.block 1 (.seq (.reg true [.V 10 (.mv (.t 0)),.V 11 (.mv (.t 3)),.V 12 (.ia 5 (.t 10) (.t 11)),.V 13 (.call (.c (.fn 912 [])) [.t 12]),.V 14 (.un .not (.t 13)),.V 15 (.mv (.t 14)),.G 16 (.mv (.t 3)) 5 false,.G 17 (.bin .gtr (.t 16) (.c (.int .i64 0))) 5 false,.G 18 (.mv (.t 17)) 5 false,.G 19 (.mv (.t 0)) 8 true,.G 20 (.mv (.t 3)) 8 true,.G 21 (.bin .sub (.t 20) (.c (.int .i64 1))) 8 true,.G 22 (.ia 5 (.t 19) (.t 21)) 8 true,.G 23 (.fa 0 (.t 22)) 8 true,.G 24 (.ld none (.t 23)) 8 true,.G 25 (.mv (.t 0)) 8 true,.G 26 (.mv (.t 3)) 8 true,.G 27 (.ia 5 (.t 25) (.t 26)) 8 true,.G 28 (.fa 0 (.t 27)) 8 true,.G 29 (.ld none (.t 28)) 8 true,.G 30 (.bin .geq (.t 24) (.t 29)) 8 true,.G 31 (.pick (.t 18) (.t 30) (.c (.bool false))) 5 false,.V 32 (.pick (.t 15) (.c (.bool true)) (.t 31))] [0,3,32] []) (.cond (.t 32) (.seq (.reg false [.V 2 (.asg (.c (.bool false)))] [2] []) .ret) .skip))) (.reg false [.V 8 (.mv (.t 3)),.V 9 (.bin .add (.t 8) (.c (.int .i64 1))),.V 3 (.asg (.t 9))] [0,3] []))
def spec_l20Ok_k1 : C :=
 .norm [0,3] [] spec_l20Ok_k0
def spec_l20Ok_k2 : C :=
 .seq (.reg false [.V 33 (.mv (.t 0)),.V 34 (.len (.t 33)),.V 35 (.bin .leq (.t 34) (.c (.int .i64 12))),.V 2 (.asg (.t 35))] [2] []) .ret
def spec_l20Ok_ir : Fn := { np := 1,io := [],res := [.t 2],own := [false],body :=
 (.seq (.reg false [.V 2 (.asg (.c (.bool false)))] [0] []) (.seq (.seq (.reg false [.V 3 (.asg (.c (.int .i64 0)))] [0,3] []) (.block 0 (.loop spec_l20Ok_k1))) spec_l20Ok_k2)) }
noncomputable def spec_l20Ok_D : List (Nat × Callee) := [(912,spec_l20One_c)]
def spec_l20Ok_H : List (Nat × ET) := [(5,T_Paper),(10,T_Paper),(19,T_Paper),(25,T_Paper),(33,T_Paper)]
noncomputable def spec_l20Ok_c : Callee := mkCallee spec_l20Ok_D spec_l20Ok_H spec_l20Ok_ir [.d (.one (.sl T_Paper))] [.d (.one .bool)] []
noncomputable def spec_l20Ok (a0 : List T_Paper.ty) : Option (Bool) := spec_l20Ok_c.f (a0,())
noncomputable def spec_l20Ok_p0  (v0 : List T_Paper.ty) (v3 : Int) : Option (Bool) :=
 goL spec_l20Ok_D spec_l20Ok_H (vleave spec_l20Ok_ir [.d (.one (.sl T_Paper))] [.d (.one .bool)] [] []) [.c spec_l20Ok_k0,.l spec_l20Ok_k1,.e 0,.c spec_l20Ok_k2]
  ⟨[(0,.sl T_Paper v0),(3,.int .i64 v3)],[]⟩
theorem spec_l20Ok_eq (a0 : List T_Paper.ty) : spec_l20Ok a0 =
 spec_l20Ok_p0 a0 0 :=
 (mk_f _ _ _ _ _ _ _ 4000).trans (by kernel_rfl)
theorem spec_l20Ok_p0_eq  (v0 : List T_Paper.ty) (v3 : Int) : spec_l20Ok_p0 v0 v3 =
 if decide (v3 < (v0.length : Int)) then
  if decide (0 ≤ v3) then
   (v0[v3.toNat]?).bind fun x1 =>
    (spec_l20One x1).bind fun x2 =>
     if (!x2) then
      some false
     else
      if decide (v3 > 0) then
       if decide (0 ≤ IntKind.i64.wrap (v3 - 1)) then
        (v0[(IntKind.i64.wrap (v3 - 1)).toNat]?).bind fun x3 =>
         if decide (0 ≤ v3) then
          (v0[v3.toNat]?).bind fun x4 =>
           if (!Op.bytesLess x3.1 x4.1) then
            some false
           else
            spec_l20Ok_p0 v0 (IntKind.i64.wrap (v3 + 1))
         else
          none
       else
        none
      else
       spec_l20Ok_p0 v0 (IntKind.i64.wrap (v3 + 1))
  else
   none
 else
  some (decide ((v0.length : Int) ≤ 12)) :=
 (goL_dn _ _ _ 4000 _ _).trans (by kernel_rfl)
def spec_l32Ok_ir : Fn := { np := 1,io := [],res := [.t 2],own := [false],body :=
 (.seq (.reg false [.V 2 (.asg (.c (.bool false)))] [0] []) (.seq (.reg false [.V 3 (.mv (.t 0)),.V 4 (.nilck (.t 3)),.V 5 (.fa 0 (.t 4)),.V 6 (.ld none (.t 5)),.V 7 (.call (.c (.fn 942 [])) [.t 6]),.V 8 (.mv (.t 7)),.G 9 (.mv (.t 0)) 5 true,.G 10 (.nilck (.t 9)) 5 true,.G 11 (.fa 1 (.t 10)) 5 true,.G 12 (.ld none (.t 11)) 5 true,.G 13 (.call (.c (.fn 943 [])) [.t 12]) 5 true,.V 14 (.pick (.t 8) (.t 13) (.c (.bool false))),.V 15 (.mv (.t 14)),.G 16 (.mv (.t 0)) 12 true,.G 17 (.nilck (.t 16)) 12 true,.G 18 (.fa 2 (.t 17)) 12 true,.G 19 (.ld none (.t 18)) 12 true,.G 20 (.call (.c (.fn 777 [])) [.t 19]) 12 true,.V 21 (.pick (.t 15) (.t 20) (.c (.bool false))),.V 22 (.mv (.t 21)),.G 23 (.mv (.t 0)) 19 true,.G 24 (.nilck (.t 23)) 19 true,.G 25 (.fa 3 (.t 24)) 19 true,.G 26 (.call (.c (.fn 451 [])) [.t 25]) 19 true,.V 27 (.pick (.t 22) (.t 26) (.c (.bool false))),.V 28 (.mv (.t 27)),.G 29 (.mv (.t 0)) 25 true,.G 30 (.nilck (.t 29)) 25 true,.G 31 (.fa 7 (.t 30)) 25 true,.G 32 (.ld none (.t 31)) 25 true,.G 33 (.call (.c (.fn 497 [])) [.t 32]) 25 true,.V 34 (.pick (.t 28) (.t 33) (.c (.bool false))),.V 35 (.mv (.t 34)),.G 36 (.mv (.t 0)) 32 true,.G 37 (.nilck (.t 36)) 32 true,.G 38 (.fa 8 (.t 37)) 32 true,.G 39 (.ld none (.t 38)) 32 true,.G 40 (.call (.c (.fn 53 [])) [.t 39]) 32 true,.V 41 (.pick (.t 35) (.t 40) (.c (.bool false))),.V 42 (.mv (.t 41)),.G 43 (.mv (.t 0)) 39 true,.G 44 (.nilck (.t 43)) 39 true,.G 45 (.fa 9 (.t 44)) 39 true,.G 46 (.ld none (.t 45)) 39 true,.G 47 (.call (.c (.fn 474 [])) [.t 46]) 39 true,.V 48 (.pick (.t 42) (.t 47) (.c (.bool false))),.V 49 (.mv (.t 48)),.G 50 (.mv (.t 0)) 46 true,.G 51 (.nilck (.t 50)) 46 true,.G 52 (.fa 10 (.t 51)) 46 true,.G 53 (.ld none (.t 52)) 46 true,.G 54 (.call (.c (.fn 790 [])) [.t 53]) 46 true,.V 55 (.pick (.t 49) (.t 54) (.c (.bool false))),.V 56 (.mv (.t 55)),.G 57 (.mv (.t 0)) 53 true,.G 58 (.nilck (.t 57)) 53 true,.G 59 (.fa 11 (.t 58)) 53 true,.G 60 (.ld none (.t 59)) 53 true,.G 61 (.call (.c (.fn 640 [])) [.t 60]) 53 true,.V 62 (.pick (.t 56) (.t 61) (.c (.bool false))),.V 2 (.asg (.t 62))] [2] []) .ret)) }
noncomputable def spec_l32Ok_D : List (Nat × Callee) := [(53,spec_l14Ok_c),(451,spec_l10Ok_c),(474,spec_l16Ok_c),(497,spec_l12Ok_c),(640,spec_l20Ok_c),(777,spec_l08Ok_c),(790,spec_l18Ok_c),(942,spec_l04Ok_c),(943,spec_l06Ok_c)]
def spec_l32Ok_H : List (Nat × ET) := [(6,T_Peg),(12,T_Mode),(19,(.one (.sl (.one (.int .i64))))),(32,T_Peg),(39,T_Pot),(46,T_Mode),(53,T_Peg),(60,T_Paper)]
noncomputable def spec_l32Ok_c : Callee := mkCallee spec_l32Ok_D spec_l32Ok_H spec_l32Ok_ir [.p T_Desk] [.d (.one .bool)] []
noncomputable def spec_l32Ok (a0 : T_Desk.ty) : Option (Bool) := spec_l32Ok_c.f (a0,())
theorem spec_l32Ok_eq (a0 : T_Desk.ty) : spec_l32Ok a0 =
 (spec_l04Ok a0.1).bind fun x1 =>
  if x1 then
   (spec_l06Ok a0.2.1).bind fun x2 =>
    if x2 then
     (spec_l08Ok a0.2.2.1).bind fun x3 =>
      if x3 then
       (spec_l10Ok (a0.2.2.2.1,a0.2.2.2.2.1,a0.2.2.2.2.2.1,a0.2.2.2.2.2.2.1,())).bind fun x4 =>
        if x4 then
         (spec_l12Ok a0.2.2.2.2.2.2.2.1).bind fun x5 =>
          if x5 then
           (spec_l14Ok a0.2.2.2.2.2.2.2.2.1).bind fun x6 =>
            if x6 then
             (spec_l16Ok a0.2.2.2.2.2.2.2.2.2.1).bind fun x7 =>
              if x7 then
               (spec_l18Ok a0.2.2.2.2.2.2.2.2.2.2.1).bind fun x8 =>
                if x8 then
                 (spec_l20Ok a0.2.2.2.2.2.2.2.2.2.2.2.1).bind fun x9 =>
                  some x9
                else
                 some false
              else
               some false
            else
             some false
          else
           some false
        else
         some false
      else
       some false
    else
     some false
  else
   some false :=
 (mk_f _ _ _ _ _ _ _ 4000).trans (by kernel_rfl)
def spec_l01Dec_k0 : C :=
 .reg false [.V 22 (.mv (.t 3)),.V 23 (.mv (.t 5)),.V 24 (.bin .add (.c (.int .i64 48)) (.t 23)),.V 25 (.conv (.int .u8) (.t 24)),.V 26 (.bsl 1 (.int .u8 0) 1 [(0,.t 25)]),.W 27 (.app 1 1 (.t 22) (.t 26)),.W 3 (.asg (.t 27))] [0,3,4] [3]
def spec_l01Dec_k1 : C :=
 .reg false [.V 14 (.mv (.t 4)),.V 15 (.bin .quo (.t 14) (.c (.int .i64 10))),.V 4 (.asg (.t 15))] [0,3,4] [3]
def spec_l01Dec_k2 : C :=
 .seq (.seq (.reg false [.V 12 (.mv (.t 4)),.V 13 (.bin .neq (.t 12) (.c (.int .i64 0)))] [0,3,4,13] [3]) (.cond (.t 13) .skip (.exit 0))) (.seq (.block 1 (.seq (.reg false [.V 16 (.mv (.t 4)),.V 17 (.bin .rem (.t 16) (.c (.int .i64 10))),.V 5 (.asg (.t 17))] [0,3,4,5] [3]) (.seq (.seq (.reg false [.V 18 (.mv (.t 5)),.V 19 (.bin .lss (.t 18) (.c (.int .i64 0)))] [0,3,4,5,19] [3]) (.cond (.t 19) (.reg false [.V 20 (.mv (.t 5)),.V 21 (.un .neg (.t 20)),.V 5 (.asg (.t 21))] [0,3,4,5] [3]) .skip)) (.norm [0,3,4,5] [3] spec_l01Dec_k0)))) spec_l01Dec_k1)
def spec_l01Dec_k3 : C :=
 .norm [0,3,4] [3] spec_l01Dec_k2
def spec_l01Dec_k4 : C :=
 .seq (.seq (.reg false [.V 37 (.mv (.t 7)),.V 38 (.bin .geq (.t 37) (.c (.int .i64 0)))] [3,6,7,38] [3,6]) (.cond (.t 38) .skip (.exit 2))) (.seq (.block 3 (.reg false [.V 41 (.mv (.t 6)),.V 42 (.mv (.t 3)),.V 43 (.mv (.t 7)),.V 44 (.ia 1 (.t 42) (.t 43)),.V 45 (.ld none (.t 44)),.V 46 (.bsl 1 (.int .u8 0) 1 [(0,.t 45)]),.W 47 (.app 1 1 (.t 41) (.t 46)),.W 6 (.asg (.t 47))] [3,6,7] [3,6])) (.reg false [.V 39 (.mv (.t 7)),.V 40 (.bin .sub (.t 39) (.c (.int .i64 1))),.V 7 (.asg (.t 40))] [3,6,7] [3,6]))
def spec_l01Dec_k5 : C :=
 .norm [3,6,7] [3,6] spec_l01Dec_k4
def spec_l01Dec_k6 : C :=
 .seq (.reg false [.V 48 (.mv (.t 6)),.V 49 (.conv .bytesStr (.t 48)),.V 2 (.asg (.t 49))] [2] []) .ret
def spec_l01Dec_k7 : C :=
 .seq (.reg false [.V 33 (.bsl 1 (.int .u8 0) 0 []),.W 6 (.asg (.t 33))] [3,6] [3,6]) (.seq (.seq (.reg false [.V 34 (.mv (.t 3)),.V 35 (.len (.t 34)),.V 36 (.bin .sub (.t 35) (.c (.int .i64 1))),.V 7 (.asg (.t 36))] [3,6,7] [3,6]) (.block 2 (.loop spec_l01Dec_k5))) spec_l01Dec_k6)
def spec_l01Dec_k8 : C :=
 .seq (.seq (.reg false [.V 28 (.mv (.t 0)),.V 29 (.bin .lss (.t 28) (.c (.int .i64 0)))] [3,29] [3]) (.cond (.t 29) (.reg false [.V 30 (.mv (.t 3)),.V 31 (.bsl 1 (.int .u8 0) 1 [(0,.c (.int .u8 45))]),.W 32 (.app 1 1 (.t 30) (.t 31)),.W 3 (.asg (.t 32))] [3] [3]) .skip)) (.norm [3] [3] spec_l01Dec_k7)
def spec_l01Dec_ir : Fn := { np := 1,io := [],res := [.t 2],own := [false],body :=
 (.seq (.reg false [.V 2 (.asg (.c (.str [])))] [0] []) (.seq (.seq (.reg false [.V 8 (.mv (.t 0)),.V 9 (.bin .eql (.t 8) (.c (.int .i64 0)))] [0,9] []) (.cond (.t 9) (.seq (.reg false [.V 2 (.asg (.c (.str [48])))] [2] []) .ret) .skip)) (.seq (.reg false [.V 10 (.bsl 1 (.int .u8 0) 0 []),.W 3 (.asg (.t 10))] [0,3] [3]) (.seq (.seq (.reg false [.V 11 (.mv (.t 0)),.V 4 (.asg (.t 11))] [0,3,4] [3]) (.block 0 (.loop spec_l01Dec_k3))) spec_l01Dec_k8)))) }
noncomputable def spec_l01Dec_D : List (Nat × Callee) := []
def spec_l01Dec_H : List (Nat × ET) := [(3,(.one (.int .u8))),(6,(.one (.int .u8))),(10,(.one (.int .u8))),(22,(.one (.int .u8))),(26,(.one (.int .u8))),(27,(.one (.int .u8))),(30,(.one (.int .u8))),(31,(.one (.int .u8))),(32,(.one (.int .u8))),(33,(.one (.int .u8))),(34,(.one (.int .u8))),(41,(.one (.int .u8))),(42,(.one (.int .u8))),(46,(.one (.int .u8))),(47,(.one (.int .u8))),(48,(.one (.int .u8)))]
noncomputable def spec_l01Dec_c : Callee := mkCallee spec_l01Dec_D spec_l01Dec_H spec_l01Dec_ir [.d (.one (.int .i64))] [.d (.one .str)] []
noncomputable def spec_l01Dec (a0 : Int) : Option (List UInt8) := spec_l01Dec_c.f (a0,())
noncomputable def spec_l01Dec_p0  (v0 : Int) (v4 : Int) (r3 : List Int) : Option (List UInt8) :=
 goL spec_l01Dec_D spec_l01Dec_H (vleave spec_l01Dec_ir [.d (.one (.int .i64))] [.d (.one .str)] [] []) [.c spec_l01Dec_k2,.l spec_l01Dec_k3,.e 0,.c spec_l01Dec_k8]
  ⟨[(0,.int .i64 v0),(3,.view 3 0 r3.length),(4,.int .i64 v4)],[(3,some (.sl (.one (.int .u8)) r3))]⟩
noncomputable def spec_l01Dec_p1  (v0 : Int) (v4 : Int) (v5 : Int) (r3 : List Int) : Option (List UInt8) :=
 goL spec_l01Dec_D spec_l01Dec_H (vleave spec_l01Dec_ir [.d (.one (.int .i64))] [.d (.one .str)] [] []) [.c spec_l01Dec_k0,.e 1,.c spec_l01Dec_k1,.l spec_l01Dec_k3,.e 0,.c spec_l01Dec_k8]
  ⟨[(0,.int .i64 v0),(3,.view 3 0 r3.length),(4,.int .i64 v4),(5,.int .i64 v5)],[(3,some (.sl (.one (.int .u8)) r3))]⟩
noncomputable def spec_l01Dec_p2  (r3 : List Int) : Option (List UInt8) :=
 goL spec_l01Dec_D spec_l01Dec_H (vleave spec_l01Dec_ir [.d (.one (.int .i64))] [.d (.one .str)] [] []) [.c spec_l01Dec_k7]
  ⟨[(3,.view 3 0 r3.length)],[(3,some (.sl (.one (.int .u8)) r3))]⟩
noncomputable def spec_l01Dec_p3  (v7 : Int) (r3 : List Int) (r6 : List Int) : Option (List UInt8) :=
 goL spec_l01Dec_D spec_l01Dec_H (vleave spec_l01Dec_ir [.d (.one (.int .i64))] [.d (.one .str)] [] []) [.c spec_l01Dec_k4,.l spec_l01Dec_k5,.e 2,.c spec_l01Dec_k6]
  ⟨[(3,.view 3 0 r3.length),(6,.view 6 0 r6.length),(7,.int .i64 v7)],[(3,some (.sl (.one (.int .u8)) r3)),(6,some (.sl (.one (.int .u8)) r6))]⟩
theorem spec_l01Dec_eq (a0 : Int) : spec_l01Dec a0 =
 if (a0 == 0) then
  some [48]
 else
  spec_l01Dec_p0 a0 a0 [] :=
 (mk_f _ _ _ _ _ _ _ 4000).trans (by kernel_rfl)
theorem spec_l01Dec_p0_eq  (v0 : Int) (v4 : Int) (r3 : List Int) : spec_l01Dec_p0 v0 v4 r3 =
 if (v4 != 0) then
  if decide (v4.tmod 10 < 0) then
   spec_l01Dec_p1 v0 v4 (IntKind.i64.wrap (0 - (v4.tmod 10))) r3
  else
   spec_l01Dec_p1 v0 v4 (v4.tmod 10) r3
 else
  if decide (v0 < 0) then
   if decide (r3.length + 1 < lim) then
    spec_l01Dec_p2 ((r3.take r3.length) ++ [45])
   else
    none
  else
   spec_l01Dec_p2 r3 :=
 (goL_dn _ _ _ 4000 _ _).trans (by kernel_rfl)
theorem spec_l01Dec_p1_eq  (v0 : Int) (v4 : Int) (v5 : Int) (r3 : List Int) : spec_l01Dec_p1 v0 v4 v5 r3 =
 if decide (r3.length + 1 < lim) then
  spec_l01Dec_p0 v0 (IntKind.i64.wrap (v4.tdiv 10)) ((r3.take r3.length) ++ [IntKind.u8.wrap (IntKind.i64.wrap (48 + v5))])
 else
  none :=
 (goL_dn _ _ _ 4000 _ _).trans (by kernel_rfl)
theorem spec_l01Dec_p2_eq  (r3 : List Int) : spec_l01Dec_p2 r3 =
 spec_l01Dec_p3 (IntKind.i64.wrap ((r3.length : Int) - 1)) r3 [] :=
 (goL_dn _ _ _ 4000 _ _).trans (by kernel_rfl)
theorem spec_l01Dec_p3_eq  (v7 : Int) (r3 : List Int) (r6 : List Int) : spec_l01Dec_p3 v7 r3 r6 =
 if decide (v7 ≥ 0) then
  if decide (0 ≤ v7) && decide (v7 < (r3.length : Int)) then
   (r3[v7.toNat]?).bind fun x1 =>
    if decide (r6.length + 1 < lim) then
     spec_l01Dec_p3 (IntKind.i64.wrap (v7 - 1)) r3 ((r6.take r6.length) ++ [x1])
    else
     none
  else
   none
 else
  some ((r6.take r6.length).map vu8) :=
 (goL_dn _ _ _ 4000 _ _).trans (by kernel_rfl)
def spec_DeskReport_k0 : C :=
 .seq (.seq (.reg false [.V 40 (.mv (.t 7)),.V 41 (.mv (.t 4)),.V 42 (.len (.t 41)),.V 43 (.bin .lss (.t 40) (.t 42))] [4,5,6,7,43] [4,5,6]) (.cond (.t 43) .skip (.exit 0))) (.seq (.block 1 (.reg true [.V 46 (.mv (.t 6)),.V 47 (.mv (.t 4)),.V 48 (.mv (.t 7)),.V 49 (.ia 1 (.t 47) (.t 48)),.V 50 (.ld none (.t 49)),.V 51 (.bin .add (.t 50) (.c (.str [32]))),.V 52 (.mv (.t 5)),.V 53 (.mv (.t 7)),.V 54 (.ia 1 (.t 52) (.t 53)),.V 55 (.ld none (.t 54)),.V 56 (.call (.c (.fn 726 [])) [.t 55]),.V 57 (.bin .add (.t 51) (.t 56)),.V 58 (.bsl 1 (.str []) 1 [(0,.t 57)]),.W 59 (.app 1 16 (.t 46) (.t 58)),.W 6 (.asg (.t 59))] [4,5,6,7] [4,5,6])) (.reg false [.V 44 (.mv (.t 7)),.V 45 (.bin .add (.t 44) (.c (.int .i64 1))),.V 7 (.asg (.t 45))] [4,5,6,7] [4,5,6]))
def spec_DeskReport_k1 : C :=
 .norm [4,5,6,7] [4,5,6] spec_DeskReport_k0
def spec_DeskReport_k2 : C :=
 .seq (.reg false [.V 60 (.mv (.t 6)),.W 2 (.asg (.t 60)),.V 3 (.asg (.c (.int .i64 0)))] [2,3] [2,6]) .ret
def spec_DeskReport_ir : Fn := { np := 1,io := [],res := [.t 2,.t 3],own := [true,false],body :=
 (.seq (.reg false [.W 1 (.box 12 (.t 0)),.W 2 (.asg (.c (.nils 1))),.V 3 (.asg (.c (.int .i64 0)))] [1] [1,2000,2001,2002,2007,2008,2009,2010,2011]) (.seq (.seq (.reg false [.V 8 (.call (.c (.fn 712 [])) [.t 1]),.V 9 (.un .not (.t 8))] [1,9] [1,2000,2001,2002,2007,2008,2009,2010,2011]) (.cond (.t 9) (.seq (.reg false [.W 2 (.asg (.c (.nils 1))),.V 3 (.asg (.c (.int .i64 1)))] [2,3] [2,6]) .ret) .skip)) (.seq (.reg false [.V 10 (.bsl 1 (.str []) 9 [(0,.c (.str [115,116,97,99,107,115])),(1,.c (.str [114,105,98,115])),(2,.c (.str [114,111,119,115])),(3,.c (.str [115,116,111,112])),(4,.c (.str [112,101,103,115])),(5,.c (.str [112,111,116,115])),(6,.c (.str [109,111,100,101,115])),(7,.c (.str [119,111,114,107,115])),(8,.c (.str [112,97,112,101,114,115]))]),.W 4 (.asg (.t 10))] [1,4] [1,4,2000,2001,2002,2007,2008,2009,2010,2011]) (.seq (.reg false [.V 11 (.fa 0 (.t 1)),.V 12 (.ld none (.t 11)),.V 13 (.len (.t 12)),.V 14 (.fa 1 (.t 1)),.V 15 (.ld none (.t 14)),.V 16 (.len (.t 15)),.V 17 (.fa 2 (.t 1)),.V 18 (.ld none (.t 17)),.V 19 (.len (.t 18)),.V 20 (.fa 3 (.t 1)),.V 21 (.fa 0 (.t 20)),.V 22 (.ld none (.t 21)),.V 23 (.fa 7 (.t 1)),.V 24 (.ld none (.t 23)),.V 25 (.len (.t 24)),.V 26 (.fa 8 (.t 1)),.V 27 (.ld none (.t 26)),.V 28 (.len (.t 27)),.V 29 (.fa 9 (.t 1)),.V 30 (.ld none (.t 29)),.V 31 (.len (.t 30)),.V 32 (.fa 10 (.t 1)),.V 33 (.ld none (.t 32)),.V 34 (.len (.t 33)),.V 35 (.fa 11 (.t 1)),.V 36 (.ld none (.t 35)),.V 37 (.len (.t 36)),.V 38 (.bsl 1 (.int .i64 0) 9 [(0,.t 13),(1,.t 16),(2,.t 19),(3,.t 22),(4,.t 25),(5,.t 28),(6,.t 31),(7,.t 34),(8,.t 37)]),.W 5 (.asg (.t 38))] [4,5] [4,5]) (.seq (.reg false [.V 39 (.bsl 1 (.str []) 0 []),.W 6 (.asg (.t 39))] [4,5,6] [4,5,6]) (.seq (.seq (.reg false [.V 7 (.asg (.c (.int .i64 0)))] [4,5,6,7] [4,5,6]) (.block 0 (.loop spec_DeskReport_k1))) spec_DeskReport_k2)))))) }
noncomputable def spec_DeskReport_D : List (Nat × Callee) := [(712,spec_l32Ok_c),(726,spec_l01Dec_c)]
def spec_DeskReport_H : List (Nat × ET) := [(2,(.one .str)),(4,(.one .str)),(5,(.one (.int .i64))),(6,(.one .str)),(10,(.one .str)),(12,T_Peg),(15,T_Mode),(18,(.one (.sl (.one (.int .i64))))),(24,T_Peg),(27,T_Pot),(30,T_Mode),(33,T_Peg),(36,T_Paper),(38,(.one (.int .i64))),(39,(.one .str)),(41,(.one .str)),(46,(.one .str)),(47,(.one .str)),(52,(.one (.int .i64))),(58,(.one .str)),(59,(.one .str)),(60,(.one .str))]
noncomputable def spec_DeskReport_c : Callee := mkCallee spec_DeskReport_D spec_DeskReport_H spec_DeskReport_ir [.d T_Desk] [.tok (.one .str),.d (.one (.int .i64))] []
noncomputable def spec_DeskReport (a0 : T_Desk.ty) : Option (List (List UInt8) × Int) := spec_DeskReport_c.f (a0,())
noncomputable def spec_DeskReport_p0  (v7 : Int) (r4 : List (List UInt8)) (r5 : List Int) (r6 : List (List UInt8)) : Option (List (List UInt8) × Int) :=
 goL spec_DeskReport_D spec_DeskReport_H (vleave spec_DeskReport_ir [.d T_Desk] [.tok (.one .str),.d (.one (.int .i64))] [] []) [.c spec_DeskReport_k0,.l spec_DeskReport_k1,.e 0,.c spec_DeskReport_k2]
  ⟨[(4,.view 4 0 r4.length),(5,.view 5 0 r5.length),(6,.view 6 0 r6.length),(7,.int .i64 v7)],[(4,some (.sl (.one .str) r4)),(5,some (.sl (.one (.int .i64)) r5)),(6,some (.sl (.one .str) r6))]⟩
theorem spec_DeskReport_eq (a0 : T_Desk.ty) : spec_DeskReport a0 =
 (spec_l32Ok a0).bind fun x1 =>
  if (!x1) then
   some ([],1)
  else
   spec_DeskReport_p0 0 [[115,116,97,99,107,115],[114,105,98,115],[114,111,119,115],[115,116,111,112],[112,101,103,115],[112,111,116,115],[109,111,100,101,115],[119,111,114,107,115],[112,97,112,101,114,115]] [(a0.1.length : Int),(a0.2.1.length : Int),(a0.2.2.1.length : Int),a0.2.2.2.1,(a0.2.2.2.2.2.2.2.1.length : Int),(a0.2.2.2.2.2.2.2.2.1.length : Int),(a0.2.2.2.2.2.2.2.2.2.1.length : Int),(a0.2.2.2.2.2.2.2.2.2.2.1.length : Int),(a0.2.2.2.2.2.2.2.2.2.2.2.1.length : Int)] [] :=
 (mk_f _ _ _ _ _ _ _ 4000).trans (by kernel_rfl)
theorem spec_DeskReport_p0_eq  (v7 : Int) (r4 : List (List UInt8)) (r5 : List Int) (r6 : List (List UInt8)) : spec_DeskReport_p0 v7 r4 r5 r6 =
 if decide (v7 < (r4.length : Int)) then
  if decide (0 ≤ v7) && decide (v7 < (r4.length : Int)) then
   (r4[v7.toNat]?).bind fun x1 =>
    if decide (x1.length + [32].length ≤ strMax) then
     if decide (0 ≤ v7) && decide (v7 < (r5.length : Int)) then
      (r5[v7.toNat]?).bind fun x2 =>
       (spec_l01Dec x2).bind fun x3 =>
        if decide ((x1 ++ [32]).length + x3.length ≤ strMax) then
         if decide (r6.length + 1 < lim) then
          spec_DeskReport_p0 (IntKind.i64.wrap (v7 + 1)) r4 r5 ((r6.take r6.length) ++ [(x1 ++ [32]) ++ x3])
         else
          none
        else
         none
     else
      none
    else
     none
  else
   none
 else
  some ((r6.take r6.length),0) :=
 (goL_dn _ _ _ 4000 _ _).trans (by kernel_rfl)
def impl_isDigit_ir : Fn := { np := 1,io := [],res := [.t 2],own := [false],body :=
 (.seq (.reg false [.V 2 (.asg (.c (.bool false)))] [0] []) (.seq (.reg false [.V 3 (.mv (.t 0)),.V 4 (.bin .geq (.t 3) (.c (.int .u8 48))),.V 5 (.mv (.t 4)),.G 6 (.mv (.t 0)) 2 true,.G 7 (.bin .leq (.t 6) (.c (.int .u8 57))) 2 true,.V 8 (.pick (.t 5) (.t 7) (.c (.bool false))),.V 2 (.asg (.t 8))] [2] []) .ret)) }
noncomputable def impl_isDigit_D : List (Nat × Callee) := []
def impl_isDigit_H : List (Nat × ET) := []
noncomputable def impl_isDigit_c : Callee := mkCallee impl_isDigit_D impl_isDigit_H impl_isDigit_ir [.d (.one (.int .u8))] [.d (.one .bool)] []
noncomputable def impl_isDigit (a0 : Int) : Option (Bool) := impl_isDigit_c.f (a0,())
theorem impl_isDigit_eq (a0 : Int) : impl_isDigit a0 =
 if decide (a0 ≥ 48) then
  some (decide (a0 ≤ 57))
 else
  some false :=
 (mk_f _ _ _ _ _ _ _ 4000).trans (by kernel_rfl)
def impl_few_ir : Fn := { np := 2,io := [],res := [.t 4],own := [false],body :=
 (.seq (.reg false [.V 4 (.asg (.c (.bool false)))] [0,1] []) (.seq (.reg false [.V 5 (.mv (.t 0)),.V 6 (.mv (.t 1)),.V 7 (.bin .leq (.t 5) (.t 6)),.V 4 (.asg (.t 7))] [4] []) .ret)) }
noncomputable def impl_few_D : List (Nat × Callee) := []
def impl_few_H : List (Nat × ET) := []
noncomputable def impl_few_c : Callee := mkCallee impl_few_D impl_few_H impl_few_ir [.d (.one (.int .i64)),.d (.one (.int .i64))] [.d (.one .bool)] []
noncomputable def impl_few (a0 : Int) (a1 : Int) : Option (Bool) := impl_few_c.f (a0,a1,())
theorem impl_few_eq (a0 : Int) (a1 : Int) : impl_few a0 a1 =
 some (decide (a0 ≤ a1)) :=
 (mk_f _ _ _ _ _ _ _ 4000).trans (by kernel_rfl)
def impl_IsName_k0 : C :=
 .seq (.reg false [.V 21 (.mv (.t 4)),.V 22 (.un .not (.t 21)),.V 23 (.mv (.t 22)),.G 24 (.mv (.t 3)) 2 true,.G 25 (.bin .eql (.t 24) (.c (.int .i64 0))) 2 true,.G 26 (.mv (.t 25)) 2 true,.G 27 (.mv (.t 0)) 5 false,.G 28 (.mv (.t 3)) 5 false,.G 29 (.ix (.t 27) (.t 28)) 5 false,.G 30 (.call (.c (.fn 22 [])) [.t 29]) 5 false,.G 31 (.un .not (.t 30)) 5 false,.G 32 (.pick (.t 26) (.c (.bool true)) (.t 31)) 2 true,.V 33 (.pick (.t 23) (.t 32) (.c (.bool false)))] [0,3,33] []) (.cond (.t 33) (.seq (.reg false [.V 2 (.asg (.c (.bool false)))] [2] []) .ret) .skip)
def impl_IsName_k1 : C :=
 .reg false [.V 9 (.mv (.t 3)),.V 10 (.bin .add (.t 9) (.c (.int .i64 1))),.V 3 (.asg (.t 10))] [0,3] []
def impl_IsName_k2 : C :=
 .seq (.seq (.reg false [.V 5 (.mv (.t 3)),.V 6 (.mv (.t 0)),.V 7 (.lens (.t 6)),.V 8 (.bin .lss (.t 5) (.t 7))] [0,3,8] []) (.cond (.t 8) .skip (.exit 0))) (.seq (.block 1 (.seq (.reg false [.V 11 (.mv (.t 0)),.V 12 (.mv (.t 3)),.V 13 (.ix (.t 11) (.t 12)),.V 14 (.bin .geq (.t 13) (.c (.int .u8 97))),.V 15 (.mv (.t 14)),.G 16 (.mv (.t 0)) 4 true,.G 17 (.mv (.t 3)) 4 true,.G 18 (.ix (.t 16) (.t 17)) 4 true,.G 19 (.bin .leq (.t 18) (.c (.int .u8 122))) 4 true,.V 20 (.pick (.t 15) (.t 19) (.c (.bool false))),.V 4 (.asg (.t 20))] [0,3,4] []) (.norm [0,3,4] [] impl_IsName_k0))) impl_IsName_k1)
def impl_IsName_k3 : C :=
 .norm [0,3] [] impl_IsName_k2
def impl_IsName_k4 : C :=
 .seq (.reg false [.V 34 (.mv (.t 0)),.V 35 (.bin .neq (.t 34) (.c (.str []))),.V 36 (.mv (.t 35)),.G 37 (.mv (.t 0)) 2 true,.G 38 (.lens (.t 37)) 2 true,.G 39 (.call (.c (.fn 21 [])) [.t 38,.c (.int .i64 10)]) 2 true,.V 40 (.pick (.t 36) (.t 39) (.c (.bool false))),.V 2 (.asg (.t 40))] [2] []) .ret
def impl_IsName_ir : Fn := { np := 1,io := [],res := [.t 2],own := [false],body :=
 (.seq (.reg false [.V 2 (.asg (.c (.bool false)))] [0] []) (.seq (.seq (.reg false [.V 3 (.asg (.c (.int .i64 0)))] [0,3] []) (.block 0 (.loop impl_IsName_k3))) impl_IsName_k4)) }
noncomputable def impl_IsName_D : List (Nat × Callee) := [(21,impl_few_c),(22,impl_isDigit_c)]
def impl_IsName_H : List (Nat × ET) := []
noncomputable def impl_IsName_c : Callee := mkCallee impl_IsName_D impl_IsName_H impl_IsName_ir [.d (.one .str)] [.d (.one .bool)] []
noncomputable def impl_IsName (a0 : List UInt8) : Option (Bool) := impl_IsName_c.f (a0,())
noncomputable def impl_IsName_p0  (v0 : List UInt8) (v3 : Int) : Option (Bool) :=
 goL impl_IsName_D impl_IsName_H (vleave impl_IsName_ir [.d (.one .str)] [.d (.one .bool)] [] []) [.c impl_IsName_k2,.l impl_IsName_k3,.e 0,.c impl_IsName_k4]
  ⟨[(0,.str v0),(3,.int .i64 v3)],[]⟩
noncomputable def impl_IsName_p1  (v0 : List UInt8) (v3 : Int) (v4 : Bool) : Option (Bool) :=
 goL impl_IsName_D impl_IsName_H (vleave impl_IsName_ir [.d (.one .str)] [.d (.one .bool)] [] []) [.c impl_IsName_k0,.e 1,.c impl_IsName_k1,.l impl_IsName_k3,.e 0,.c impl_IsName_k4]
  ⟨[(0,.str v0),(3,.int .i64 v3),(4,.bool v4)],[]⟩
theorem impl_IsName_eq (a0 : List UInt8) : impl_IsName a0 =
 impl_IsName_p0 a0 0 :=
 (mk_f _ _ _ _ _ _ _ 4000).trans (by kernel_rfl)
theorem impl_IsName_p0_eq  (v0 : List UInt8) (v3 : Int) : impl_IsName_p0 v0 v3 =
 if decide (v3 < (v0.length : Int)) then
  if decide (0 ≤ v3) then
   (v0[v3.toNat]?).bind fun x1 =>
    if decide ((x1.toNat : Int) ≥ 97) then
     if decide (0 ≤ v3) then
      (v0[v3.toNat]?).bind fun x2 =>
       impl_IsName_p1 v0 v3 (decide ((x2.toNat : Int) ≤ 122))
     else
      none
    else
     impl_IsName_p1 v0 v3 false
  else
   none
 else
  if (!(v0 == [])) then
   (impl_few (v0.length : Int) 10).bind fun x3 =>
    some x3
  else
   some false :=
 (goL_dn _ _ _ 4000 _ _).trans (by kernel_rfl)
theorem impl_IsName_p1_eq  (v0 : List UInt8) (v3 : Int) (v4 : Bool) : impl_IsName_p1 v0 v3 v4 =
 if (!v4) then
  if (v3 == 0) then
   some false
  else
   if decide (0 ≤ v3) then
    (v0[v3.toNat]?).bind fun x1 =>
     (impl_isDigit (x1.toNat : Int)).bind fun x2 =>
      if (!x2) then
       some false
      else
       impl_IsName_p0 v0 (IntKind.i64.wrap (v3 + 1))
   else
    none
 else
  impl_IsName_p0 v0 (IntKind.i64.wrap (v3 + 1)) :=
 (goL_dn _ _ _ 4000 _ _).trans (by kernel_rfl)
def impl_within_ir : Fn := { np := 3,io := [],res := [.t 6],own := [false],body :=
 (.seq (.reg false [.V 6 (.asg (.c (.bool false)))] [0,1,2] []) (.seq (.reg false [.V 7 (.mv (.t 1)),.V 8 (.mv (.t 0)),.V 9 (.bin .leq (.t 7) (.t 8)),.V 10 (.mv (.t 9)),.G 11 (.mv (.t 0)) 3 true,.G 12 (.mv (.t 2)) 3 true,.G 13 (.bin .leq (.t 11) (.t 12)) 3 true,.V 14 (.pick (.t 10) (.t 13) (.c (.bool false))),.V 6 (.asg (.t 14))] [6] []) .ret)) }
noncomputable def impl_within_D : List (Nat × Callee) := []
def impl_within_H : List (Nat × ET) := []
noncomputable def impl_within_c : Callee := mkCallee impl_within_D impl_within_H impl_within_ir [.d (.one (.int .i64)),.d (.one (.int .i64)),.d (.one (.int .i64))] [.d (.one .bool)] []
noncomputable def impl_within (a0 : Int) (a1 : Int) (a2 : Int) : Option (Bool) := impl_within_c.f (a0,a1,a2,())
theorem impl_within_eq (a0 : Int) (a1 : Int) (a2 : Int) : impl_within a0 a1 a2 =
 if decide (a1 ≤ a0) then
  some (decide (a0 ≤ a2))
 else
  some false :=
 (mk_f _ _ _ _ _ _ _ 4000).trans (by kernel_rfl)
def impl_isPart_ir : Fn := { np := 1,io := [],res := [.t 2],own := [false],body :=
 (.seq (.reg false [.V 2 (.asg (.c (.bool false)))] [0] []) (.seq (.reg false [.V 3 (.mv (.t 0)),.V 4 (.call (.c (.fn 23 [])) [.t 3,.c (.int .i64 0),.c (.int .i64 1000)]),.V 2 (.asg (.t 4))] [2] []) .ret)) }
noncomputable def impl_isPart_D : List (Nat × Callee) := [(23,impl_within_c)]
def impl_isPart_H : List (Nat × ET) := []
noncomputable def impl_isPart_c : Callee := mkCallee impl_isPart_D impl_isPart_H impl_isPart_ir [.d (.one (.int .i64))] [.d (.one .bool)] []
noncomputable def impl_isPart (a0 : Int) : Option (Bool) := impl_isPart_c.f (a0,())
theorem impl_isPart_eq (a0 : Int) : impl_isPart a0 =
 (impl_within a0 0 1000).bind fun x1 =>
  some x1 :=
 (mk_f _ _ _ _ _ _ _ 4000).trans (by kernel_rfl)
def impl_isDay_ir : Fn := { np := 1,io := [],res := [.t 2],own := [false],body :=
 (.seq (.reg false [.V 2 (.asg (.c (.bool false)))] [0] []) (.seq (.reg false [.V 3 (.mv (.t 0)),.V 4 (.call (.c (.fn 23 [])) [.t 3,.c (.int .i64 0),.c (.int .i64 36524)]),.V 2 (.asg (.t 4))] [2] []) .ret)) }
noncomputable def impl_isDay_D : List (Nat × Callee) := [(23,impl_within_c)]
def impl_isDay_H : List (Nat × ET) := []
noncomputable def impl_isDay_c : Callee := mkCallee impl_isDay_D impl_isDay_H impl_isDay_ir [.d (.one (.int .i64))] [.d (.one .bool)] []
noncomputable def impl_isDay (a0 : Int) : Option (Bool) := impl_isDay_c.f (a0,())
theorem impl_isDay_eq (a0 : Int) : impl_isDay a0 =
 (impl_within a0 0 36524).bind fun x1 =>
  some x1 :=
 (mk_f _ _ _ _ _ _ _ 4000).trans (by kernel_rfl)
def impl_Stack_valid_ir : Fn := { np := 1,io := [],res := [.t 2],own := [false],body :=
 (.seq (.reg false [.W 1 (.box 4 (.t 0)),.V 2 (.asg (.c (.bool false)))] [1] [1]) (.seq (.reg false [.V 3 (.fa 0 (.t 1)),.V 4 (.ld none (.t 3)),.V 5 (.call (.c (.fn 24 [])) [.t 4]),.V 6 (.mv (.t 5)),.G 7 (.fa 1 (.t 1)) 3 true,.G 8 (.ld none (.t 7)) 3 true,.G 9 (.call (.c (.fn 483 [])) [.t 8]) 3 true,.V 10 (.pick (.t 6) (.t 9) (.c (.bool false))),.V 11 (.mv (.t 10)),.G 12 (.fa 2 (.t 1)) 8 true,.G 13 (.ld none (.t 12)) 8 true,.G 14 (.call (.c (.fn 23 [])) [.t 13,.c (.int .i64 10),.c (.int .i64 1000)]) 8 true,.V 15 (.pick (.t 11) (.t 14) (.c (.bool false))),.V 16 (.mv (.t 15)),.G 17 (.fa 3 (.t 1)) 13 true,.G 18 (.ld none (.t 17)) 13 true,.G 19 (.call (.c (.fn 682 [])) [.t 18]) 13 true,.V 20 (.pick (.t 16) (.t 19) (.c (.bool false))),.V 2 (.asg (.t 20))] [2] []) .ret)) }
noncomputable def impl_Stack_valid_D : List (Nat × Callee) := [(23,impl_within_c),(24,impl_IsName_c),(483,impl_isPart_c),(682,impl_isDay_c)]
def impl_Stack_valid_H : List (Nat × ET) := []
noncomputable def impl_Stack_valid_c : Callee := mkCallee impl_Stack_valid_D impl_Stack_valid_H impl_Stack_valid_ir [.d T_Peg] [.d (.one .bool)] []
noncomputable def impl_Stack_valid (a0 : T_Peg.ty) : Option (Bool) := impl_Stack_valid_c.f (a0,())
theorem impl_Stack_valid_eq (a0 : T_Peg.ty) : impl_Stack_valid a0 =
 (impl_IsName a0.1).bind fun x1 =>
  if x1 then
   (impl_isPart a0.2.1).bind fun x2 =>
    if x2 then
     (impl_within a0.2.2.1 10 1000).bind fun x3 =>
      if x3 then
       (impl_isDay a0.2.2.2.1).bind fun x4 =>
        some x4
      else
       some false
    else
     some false
  else
   some false :=
 (mk_f _ _ _ _ _ _ _ 4000).trans (by kernel_rfl)
def impl_ValidStacks_k0 : C :=
 .seq (.reg false [.V 8 (.bin .lss (.t 7) (.t 6))] [0,5,6,7,8] []) (.seq (.cond (.t 8) .skip (.exit 0)) (.seq (.block 1 (.seq (.reg false [.V 9 (.mv (.t 7)),.V 10 (.ia 4 (.t 5) (.t 7)),.V 11 (.ld (some 4) (.t 10)),.W 4 (.alloc 4 (.agg [.str [],.int .i64 0,.int .i64 0,.int .i64 0])),.V 3 (.asg (.t 9)),⟨none,true,.sto 4 (.t 4) (.t 11),none,false,[]⟩] [0,3,4,5,6,7] [4]) (.seq (.reg true [.V 12 (.ld (some 4) (.t 4)),.V 13 (.call (.c (.fn 485 [])) [.t 12]),.V 14 (.un .not (.t 13)),.V 15 (.mv (.t 14)),.G 16 (.mv (.t 3)) 3 false,.G 17 (.bin .gtr (.t 16) (.c (.int .i64 0))) 3 false,.G 18 (.mv (.t 17)) 3 false,.G 19 (.mv (.t 0)) 6 true,.G 20 (.mv (.t 3)) 6 true,.G 21 (.bin .sub (.t 20) (.c (.int .i64 1))) 6 true,.G 22 (.ia 4 (.t 19) (.t 21)) 6 true,.G 23 (.fa 0 (.t 22)) 6 true,.G 24 (.ld none (.t 23)) 6 true,.G 25 (.fa 0 (.t 4)) 6 true,.G 26 (.ld none (.t 25)) 6 true,.G 27 (.bin .geq (.t 24) (.t 26)) 6 true,.G 28 (.pick (.t 18) (.t 27) (.c (.bool false))) 3 false,.V 29 (.pick (.t 15) (.c (.bool true)) (.t 28))] [0,5,6,7,29] []) (.cond (.t 29) (.seq (.reg false [.V 2 (.asg (.c (.bool false)))] [2] []) .ret) .skip)))) (.reg false [.V 30 (.bin .add (.t 7) (.c (.int .i64 1))),.V 7 (.mv (.t 30))] [0,5,6,7] [])))
def impl_ValidStacks_k1 : C :=
 .norm [0,5,6,7] [] impl_ValidStacks_k0
def impl_ValidStacks_k2 : C :=
 .seq (.reg false [.V 31 (.mv (.t 0)),.V 32 (.len (.t 31)),.V 33 (.call (.c (.fn 21 [])) [.t 32,.c (.int .i64 12)]),.V 2 (.asg (.t 33))] [2] []) .ret
def impl_ValidStacks_ir : Fn := { np := 1,io := [],res := [.t 2],own := [false],body :=
 (.seq (.reg false [.V 2 (.asg (.c (.bool false)))] [0] []) (.seq (.seq (.reg false [.V 5 (.mv (.t 0)),.V 6 (.len (.t 5)),.V 7 (.mv (.c (.int .i64 0)))] [0,5,6,7] []) (.block 0 (.loop impl_ValidStacks_k1))) impl_ValidStacks_k2)) }
noncomputable def impl_ValidStacks_D : List (Nat × Callee) := [(21,impl_few_c),(485,impl_Stack_valid_c)]
def impl_ValidStacks_H : List (Nat × ET) := [(5,T_Peg),(19,T_Peg),(31,T_Peg)]
noncomputable def impl_ValidStacks_c : Callee := mkCallee impl_ValidStacks_D impl_ValidStacks_H impl_ValidStacks_ir [.d (.one (.sl T_Peg))] [.d (.one .bool)] []
noncomputable def impl_ValidStacks (a0 : List T_Peg.ty) : Option (Bool) := impl_ValidStacks_c.f (a0,())
noncomputable def impl_ValidStacks_p0  (v0 : List T_Peg.ty) (v5 : List T_Peg.ty) (v6 : Int) (v7 : Int) : Option (Bool) :=
 goL impl_ValidStacks_D impl_ValidStacks_H (vleave impl_ValidStacks_ir [.d (.one (.sl T_Peg))] [.d (.one .bool)] [] []) [.c impl_ValidStacks_k0,.l impl_ValidStacks_k1,.e 0,.c impl_ValidStacks_k2]
  ⟨[(0,.sl T_Peg v0),(5,.sl T_Peg v5),(6,.int .i64 v6),(7,.int .i64 v7)],[]⟩
theorem impl_ValidStacks_eq (a0 : List T_Peg.ty) : impl_ValidStacks a0 =
 impl_ValidStacks_p0 a0 a0 (a0.length : Int) 0 :=
 (mk_f _ _ _ _ _ _ _ 4000).trans (by kernel_rfl)
theorem impl_ValidStacks_p0_eq  (v0 : List T_Peg.ty) (v5 : List T_Peg.ty) (v6 : Int) (v7 : Int) : impl_ValidStacks_p0 v0 v5 v6 v7 =
 if decide (v7 < v6) then
  if decide (0 ≤ v7) then
   (v5[v7.toNat]?).bind fun x1 =>
    (impl_Stack_valid x1).bind fun x2 =>
     if (!x2) then
      some false
     else
      if decide (v7 > 0) then
       if decide (0 ≤ IntKind.i64.wrap (v7 - 1)) then
        (v0[(IntKind.i64.wrap (v7 - 1)).toNat]?).bind fun x3 =>
         if (!Op.bytesLess x3.1 x1.1) then
          some false
         else
          impl_ValidStacks_p0 v0 v5 v6 (IntKind.i64.wrap (v7 + 1))
       else
        none
      else
       impl_ValidStacks_p0 v0 v5 v6 (IntKind.i64.wrap (v7 + 1))
  else
   none
 else
  (impl_few (v0.length : Int) 12).bind fun x4 =>
   some x4 :=
 (goL_dn _ _ _ 4000 _ _).trans (by kernel_rfl)
def impl_Rib_valid_ir : Fn := { np := 1,io := [],res := [.t 2],own := [false],body :=
 (.seq (.reg false [.W 1 (.box 3 (.t 0)),.V 2 (.asg (.c (.bool false)))] [1] [1]) (.seq (.reg false [.V 3 (.fa 0 (.t 1)),.V 4 (.ld none (.t 3)),.V 5 (.call (.c (.fn 24 [])) [.t 4]),.V 6 (.mv (.t 5)),.G 7 (.fa 1 (.t 1)) 3 true,.G 8 (.ld none (.t 7)) 3 true,.G 9 (.call (.c (.fn 23 [])) [.t 8,.c (.int .i64 1),.c (.int .i64 10000)]) 3 true,.V 10 (.pick (.t 6) (.t 9) (.c (.bool false))),.V 11 (.mv (.t 10)),.G 12 (.fa 2 (.t 1)) 8 true,.G 13 (.ld none (.t 12)) 8 true,.G 14 (.call (.c (.fn 23 [])) [.t 13,.c (.int .i64 1),.c (.int .i64 10000)]) 8 true,.V 15 (.pick (.t 11) (.t 14) (.c (.bool false))),.V 2 (.asg (.t 15))] [2] []) .ret)) }
noncomputable def impl_Rib_valid_D : List (Nat × Callee) := [(23,impl_within_c),(24,impl_IsName_c)]
def impl_Rib_valid_H : List (Nat × ET) := []
noncomputable def impl_Rib_valid_c : Callee := mkCallee impl_Rib_valid_D impl_Rib_valid_H impl_Rib_valid_ir [.d T_Mode] [.d (.one .bool)] []
noncomputable def impl_Rib_valid (a0 : T_Mode.ty) : Option (Bool) := impl_Rib_valid_c.f (a0,())
theorem impl_Rib_valid_eq (a0 : T_Mode.ty) : impl_Rib_valid a0 =
 (impl_IsName a0.1).bind fun x1 =>
  if x1 then
   (impl_within a0.2.1 1 10000).bind fun x2 =>
    if x2 then
     (impl_within a0.2.2.1 1 10000).bind fun x3 =>
      some x3
    else
     some false
  else
   some false :=
 (mk_f _ _ _ _ _ _ _ 4000).trans (by kernel_rfl)
def impl_ValidRibs_k0 : C :=
 .seq (.reg false [.V 8 (.bin .lss (.t 7) (.t 6))] [0,5,6,7,8] []) (.seq (.cond (.t 8) .skip (.exit 0)) (.seq (.block 1 (.seq (.reg false [.V 9 (.mv (.t 7)),.V 10 (.ia 3 (.t 5) (.t 7)),.V 11 (.ld (some 3) (.t 10)),.W 4 (.alloc 3 (.agg [.str [],.int .i64 0,.int .i64 0])),.V 3 (.asg (.t 9)),⟨none,true,.sto 3 (.t 4) (.t 11),none,false,[]⟩] [0,3,4,5,6,7] [4]) (.seq (.reg true [.V 12 (.ld (some 3) (.t 4)),.V 13 (.call (.c (.fn 762 [])) [.t 12]),.V 14 (.un .not (.t 13)),.V 15 (.mv (.t 14)),.G 16 (.mv (.t 3)) 3 false,.G 17 (.bin .gtr (.t 16) (.c (.int .i64 0))) 3 false,.G 18 (.mv (.t 17)) 3 false,.G 19 (.mv (.t 0)) 6 true,.G 20 (.mv (.t 3)) 6 true,.G 21 (.bin .sub (.t 20) (.c (.int .i64 1))) 6 true,.G 22 (.ia 3 (.t 19) (.t 21)) 6 true,.G 23 (.fa 0 (.t 22)) 6 true,.G 24 (.ld none (.t 23)) 6 true,.G 25 (.fa 0 (.t 4)) 6 true,.G 26 (.ld none (.t 25)) 6 true,.G 27 (.bin .geq (.t 24) (.t 26)) 6 true,.G 28 (.pick (.t 18) (.t 27) (.c (.bool false))) 3 false,.V 29 (.pick (.t 15) (.c (.bool true)) (.t 28))] [0,5,6,7,29] []) (.cond (.t 29) (.seq (.reg false [.V 2 (.asg (.c (.bool false)))] [2] []) .ret) .skip)))) (.reg false [.V 30 (.bin .add (.t 7) (.c (.int .i64 1))),.V 7 (.mv (.t 30))] [0,5,6,7] [])))
def impl_ValidRibs_k1 : C :=
 .norm [0,5,6,7] [] impl_ValidRibs_k0
def impl_ValidRibs_k2 : C :=
 .seq (.reg false [.V 31 (.mv (.t 0)),.V 32 (.len (.t 31)),.V 33 (.call (.c (.fn 21 [])) [.t 32,.c (.int .i64 8)]),.V 2 (.asg (.t 33))] [2] []) .ret
def impl_ValidRibs_ir : Fn := { np := 1,io := [],res := [.t 2],own := [false],body :=
 (.seq (.reg false [.V 2 (.asg (.c (.bool false)))] [0] []) (.seq (.seq (.reg false [.V 5 (.mv (.t 0)),.V 6 (.len (.t 5)),.V 7 (.mv (.c (.int .i64 0)))] [0,5,6,7] []) (.block 0 (.loop impl_ValidRibs_k1))) impl_ValidRibs_k2)) }
noncomputable def impl_ValidRibs_D : List (Nat × Callee) := [(21,impl_few_c),(762,impl_Rib_valid_c)]
def impl_ValidRibs_H : List (Nat × ET) := [(5,T_Mode),(19,T_Mode),(31,T_Mode)]
noncomputable def impl_ValidRibs_c : Callee := mkCallee impl_ValidRibs_D impl_ValidRibs_H impl_ValidRibs_ir [.d (.one (.sl T_Mode))] [.d (.one .bool)] []
noncomputable def impl_ValidRibs (a0 : List T_Mode.ty) : Option (Bool) := impl_ValidRibs_c.f (a0,())
noncomputable def impl_ValidRibs_p0  (v0 : List T_Mode.ty) (v5 : List T_Mode.ty) (v6 : Int) (v7 : Int) : Option (Bool) :=
 goL impl_ValidRibs_D impl_ValidRibs_H (vleave impl_ValidRibs_ir [.d (.one (.sl T_Mode))] [.d (.one .bool)] [] []) [.c impl_ValidRibs_k0,.l impl_ValidRibs_k1,.e 0,.c impl_ValidRibs_k2]
  ⟨[(0,.sl T_Mode v0),(5,.sl T_Mode v5),(6,.int .i64 v6),(7,.int .i64 v7)],[]⟩
theorem impl_ValidRibs_eq (a0 : List T_Mode.ty) : impl_ValidRibs a0 =
 impl_ValidRibs_p0 a0 a0 (a0.length : Int) 0 :=
 (mk_f _ _ _ _ _ _ _ 4000).trans (by kernel_rfl)
theorem impl_ValidRibs_p0_eq  (v0 : List T_Mode.ty) (v5 : List T_Mode.ty) (v6 : Int) (v7 : Int) : impl_ValidRibs_p0 v0 v5 v6 v7 =
 if decide (v7 < v6) then
  if decide (0 ≤ v7) then
   (v5[v7.toNat]?).bind fun x1 =>
    (impl_Rib_valid x1).bind fun x2 =>
     if (!x2) then
      some false
     else
      if decide (v7 > 0) then
       if decide (0 ≤ IntKind.i64.wrap (v7 - 1)) then
        (v0[(IntKind.i64.wrap (v7 - 1)).toNat]?).bind fun x3 =>
         if (!Op.bytesLess x3.1 x1.1) then
          some false
         else
          impl_ValidRibs_p0 v0 v5 v6 (IntKind.i64.wrap (v7 + 1))
       else
        none
      else
       impl_ValidRibs_p0 v0 v5 v6 (IntKind.i64.wrap (v7 + 1))
  else
   none
 else
  (impl_few (v0.length : Int) 8).bind fun x4 =>
   some x4 :=
 (goL_dn _ _ _ 4000 _ _).trans (by kernel_rfl)
def impl_isGrid_k0 : C :=
 .seq (.reg false [.V 43 (.bin .lss (.t 42) (.t 41))] [0,2,3,27,28,29,40,41,42,43] [10]) (.seq (.cond (.t 43) .skip (.exit 2)) (.seq (.block 3 (.seq (.reg false [.V 44 (.ia 1 (.t 40) (.t 42)),.V 45 (.ld none (.t 44)),.V 12 (.asg (.t 45))] [0,2,3,12,27,28,29,40,41,42] [10]) (.seq (.reg false [.V 46 (.mv (.t 12)),.V 47 (.mv (.t 2)),.V 48 (.mv (.t 3)),.V 49 (.call (.c (.fn 23 [])) [.t 46,.t 47,.t 48]),.V 50 (.un .not (.t 49))] [0,2,3,27,28,29,40,41,42,50] [10]) (.cond (.t 50) (.seq (.reg false [.V 8 (.asg (.c (.bool false)))] [8] []) .ret) .skip)))) (.reg false [.V 51 (.bin .add (.t 42) (.c (.int .i64 1))),.V 42 (.mv (.t 51))] [0,2,3,27,28,29,40,41,42] [10])))
def impl_isGrid_k1 : C :=
 .norm [0,2,3,27,28,29,40,41,42] [10] impl_isGrid_k0
def impl_isGrid_k2 : C :=
 .reg false [.V 52 (.bin .add (.t 29) (.c (.int .i64 1))),.V 29 (.mv (.t 52))] [0,2,3,27,28,29] []
def impl_isGrid_k3 : C :=
 .seq (.reg false [.V 30 (.bin .lss (.t 29) (.t 28))] [0,2,3,27,28,29,30] []) (.seq (.cond (.t 30) .skip (.exit 0)) (.seq (.block 1 (.seq (.reg false [.V 31 (.ia 1 (.t 27) (.t 29)),.V 32 (.ld none (.t 31)),.W 10 (.asg (.t 32))] [0,2,3,10,27,28,29] [10]) (.seq (.seq (.reg false [.V 33 (.mv (.t 10)),.V 34 (.len (.t 33)),.V 35 (.mv (.t 0)),.V 36 (.ia 1 (.t 35) (.c (.int .i64 0))),.V 37 (.ld none (.t 36)),.V 38 (.len (.t 37)),.V 39 (.bin .neq (.t 34) (.t 38))] [0,2,3,10,27,28,29,39] [10]) (.cond (.t 39) (.seq (.reg false [.V 8 (.asg (.c (.bool false)))] [8] []) .ret) .skip)) (.seq (.reg false [.V 40 (.mv (.t 10)),.V 41 (.len (.t 40)),.V 42 (.mv (.c (.int .i64 0)))] [0,2,3,27,28,29,40,41,42] [10]) (.block 2 (.loop impl_isGrid_k1)))))) impl_isGrid_k2))
def impl_isGrid_k4 : C :=
 .norm [0,2,3,27,28,29] [] impl_isGrid_k3
def impl_isGrid_k5 : C :=
 .seq (.reg false [.V 8 (.asg (.c (.bool true)))] [8] []) .ret
def impl_isGrid_k6 : C :=
 .seq (.seq (.reg false [.V 27 (.mv (.t 0)),.V 28 (.len (.t 27)),.V 29 (.mv (.c (.int .i64 0)))] [0,2,3,27,28,29] []) (.block 0 (.loop impl_isGrid_k4))) impl_isGrid_k5
def impl_isGrid_ir : Fn := { np := 4,io := [],res := [.t 8],own := [false],body :=
 (.seq (.reg false [.V 8 (.asg (.c (.bool false)))] [0,1,2,3] []) (.seq (.seq (.reg false [.V 13 (.mv (.t 0)),.V 14 (.len (.t 13)),.V 15 (.mv (.t 1)),.V 16 (.call (.c (.fn 23 [])) [.t 14,.c (.int .i64 1),.t 15]),.V 17 (.un .not (.t 16)),.V 18 (.mv (.t 17)),.G 19 (.mv (.t 0)) 5 false,.G 20 (.ia 1 (.t 19) (.c (.int .i64 0))) 5 false,.G 21 (.ld none (.t 20)) 5 false,.G 22 (.len (.t 21)) 5 false,.G 23 (.mv (.t 1)) 5 false,.G 24 (.call (.c (.fn 23 [])) [.t 22,.c (.int .i64 1),.t 23]) 5 false,.G 25 (.un .not (.t 24)) 5 false,.V 26 (.pick (.t 18) (.c (.bool true)) (.t 25))] [0,2,3,26] []) (.cond (.t 26) (.seq (.reg false [.V 8 (.asg (.c (.bool false)))] [8] []) .ret) .skip)) (.norm [0,2,3] [] impl_isGrid_k6))) }
noncomputable def impl_isGrid_D : List (Nat × Callee) := [(23,impl_within_c)]
def impl_isGrid_H : List (Nat × ET) := [(10,(.one (.int .i64))),(13,(.one (.sl (.one (.int .i64))))),(19,(.one (.sl (.one (.int .i64))))),(21,(.one (.int .i64))),(27,(.one (.sl (.one (.int .i64))))),(32,(.one (.int .i64))),(33,(.one (.int .i64))),(35,(.one (.sl (.one (.int .i64))))),(37,(.one (.int .i64))),(40,(.one (.int .i64)))]
noncomputable def impl_isGrid_c : Callee := mkCallee impl_isGrid_D impl_isGrid_H impl_isGrid_ir [.d (.one (.sl (.one (.sl (.one (.int .i64)))))),.d (.one (.int .i64)),.d (.one (.int .i64)),.d (.one (.int .i64))] [.d (.one .bool)] []
noncomputable def impl_isGrid (a0 : List (List Int)) (a1 : Int) (a2 : Int) (a3 : Int) : Option (Bool) := impl_isGrid_c.f (a0,a1,a2,a3,())
noncomputable def impl_isGrid_p0  (v0 : List (List Int)) (v2 : Int) (v3 : Int) : Option (Bool) :=
 goL impl_isGrid_D impl_isGrid_H (vleave impl_isGrid_ir [.d (.one (.sl (.one (.sl (.one (.int .i64)))))),.d (.one (.int .i64)),.d (.one (.int .i64)),.d (.one (.int .i64))] [.d (.one .bool)] [] []) [.c impl_isGrid_k6]
  ⟨[(0,.sl (.one (.sl (.one (.int .i64)))) v0),(2,.int .i64 v2),(3,.int .i64 v3)],[]⟩
noncomputable def impl_isGrid_p1  (v0 : List (List Int)) (v2 : Int) (v3 : Int) (v27 : List (List Int)) (v28 : Int) (v29 : Int) : Option (Bool) :=
 goL impl_isGrid_D impl_isGrid_H (vleave impl_isGrid_ir [.d (.one (.sl (.one (.sl (.one (.int .i64)))))),.d (.one (.int .i64)),.d (.one (.int .i64)),.d (.one (.int .i64))] [.d (.one .bool)] [] []) [.c impl_isGrid_k3,.l impl_isGrid_k4,.e 0,.c impl_isGrid_k5]
  ⟨[(0,.sl (.one (.sl (.one (.int .i64)))) v0),(2,.int .i64 v2),(3,.int .i64 v3),(27,.sl (.one (.sl (.one (.int .i64)))) v27),(28,.int .i64 v28),(29,.int .i64 v29)],[]⟩
noncomputable def impl_isGrid_p2  (v0 : List (List Int)) (v2 : Int) (v3 : Int) (v27 : List (List Int)) (v28 : Int) (v29 : Int) (v40 : List Int) (v41 : Int) (v42 : Int) : Option (Bool) :=
 goL impl_isGrid_D impl_isGrid_H (vleave impl_isGrid_ir [.d (.one (.sl (.one (.sl (.one (.int .i64)))))),.d (.one (.int .i64)),.d (.one (.int .i64)),.d (.one (.int .i64))] [.d (.one .bool)] [] []) [.c impl_isGrid_k0,.l impl_isGrid_k1,.e 2,.e 1,.c impl_isGrid_k2,.l impl_isGrid_k4,.e 0,.c impl_isGrid_k5]
  ⟨[(0,.sl (.one (.sl (.one (.int .i64)))) v0),(2,.int .i64 v2),(3,.int .i64 v3),(27,.sl (.one (.sl (.one (.int .i64)))) v27),(28,.int .i64 v28),(29,.int .i64 v29),(40,.sl (.one (.int .i64)) v40),(41,.int .i64 v41),(42,.int .i64 v42)],[(10,none)]⟩
theorem impl_isGrid_eq (a0 : List (List Int)) (a1 : Int) (a2 : Int) (a3 : Int) : impl_isGrid a0 a1 a2 a3 =
 (impl_within (a0.length : Int) 1 a1).bind fun x1 =>
  if (!x1) then
   some false
  else
   (a0[0]?).bind fun x2 =>
    (impl_within (x2.length : Int) 1 a1).bind fun x3 =>
     if (!x3) then
      some false
     else
      impl_isGrid_p0 a0 a2 a3 :=
 (mk_f _ _ _ _ _ _ _ 4000).trans (by kernel_rfl)
theorem impl_isGrid_p0_eq  (v0 : List (List Int)) (v2 : Int) (v3 : Int) : impl_isGrid_p0 v0 v2 v3 =
 impl_isGrid_p1 v0 v2 v3 v0 (v0.length : Int) 0 :=
 (goL_dn _ _ _ 4000 _ _).trans (by kernel_rfl)
theorem impl_isGrid_p1_eq  (v0 : List (List Int)) (v2 : Int) (v3 : Int) (v27 : List (List Int)) (v28 : Int) (v29 : Int) : impl_isGrid_p1 v0 v2 v3 v27 v28 v29 =
 if decide (v29 < v28) then
  if decide (0 ≤ v29) then
   (v27[v29.toNat]?).bind fun x1 =>
    (v0[0]?).bind fun x2 =>
     if ((x1.length : Int) != (x2.length : Int)) then
      some false
     else
      impl_isGrid_p2 v0 v2 v3 v27 v28 v29 x1 (x1.length : Int) 0
  else
   none
 else
  some true :=
 (goL_dn _ _ _ 4000 _ _).trans (by kernel_rfl)
theorem impl_isGrid_p2_eq  (v0 : List (List Int)) (v2 : Int) (v3 : Int) (v27 : List (List Int)) (v28 : Int) (v29 : Int) (v40 : List Int) (v41 : Int) (v42 : Int) : impl_isGrid_p2 v0 v2 v3 v27 v28 v29 v40 v41 v42 =
 if decide (v42 < v41) then
  if decide (0 ≤ v42) then
   (v40[v42.toNat]?).bind fun x1 =>
    (impl_within x1 v2 v3).bind fun x2 =>
     if (!x2) then
      some false
     else
      impl_isGrid_p2 v0 v2 v3 v27 v28 v29 v40 v41 (IntKind.i64.wrap (v42 + 1))
  else
   none
 else
  impl_isGrid_p1 v0 v2 v3 v27 v28 (IntKind.i64.wrap (v29 + 1)) :=
 (goL_dn _ _ _ 4000 _ _).trans (by kernel_rfl)
def impl_ValidPlate_ir : Fn := { np := 1,io := [],res := [.t 2],own := [false],body :=
 (.seq (.reg false [.V 2 (.asg (.c (.bool false)))] [0] []) (.seq (.reg false [.V 3 (.mv (.t 0)),.V 4 (.call (.c (.fn 944 [])) [.t 3,.c (.int .i64 10),.c (.int .i64 1),.c (.int .i64 200)]),.V 2 (.asg (.t 4))] [2] []) .ret)) }
noncomputable def impl_ValidPlate_D : List (Nat × Callee) := [(944,impl_isGrid_c)]
def impl_ValidPlate_H : List (Nat × ET) := [(3,(.one (.sl (.one (.int .i64)))))]
noncomputable def impl_ValidPlate_c : Callee := mkCallee impl_ValidPlate_D impl_ValidPlate_H impl_ValidPlate_ir [.d (.one (.sl (.one (.sl (.one (.int .i64))))))] [.d (.one .bool)] []
noncomputable def impl_ValidPlate (a0 : List (List Int)) : Option (Bool) := impl_ValidPlate_c.f (a0,())
theorem impl_ValidPlate_eq (a0 : List (List Int)) : impl_ValidPlate a0 =
 (impl_isGrid a0 10 1 200).bind fun x1 =>
  some x1 :=
 (mk_f _ _ _ _ _ _ _ 4000).trans (by kernel_rfl)
def impl_ValidNeck_ir : Fn := { np := 1,io := [],res := [.t 2],own := [false],body :=
 (.seq (.reg false [.W 1 (.box 4 (.t 0)),.V 2 (.asg (.c (.bool false)))] [1] [1]) (.seq (.reg false [.V 3 (.fa 0 (.t 1)),.V 4 (.ld none (.t 3)),.V 5 (.call (.c (.fn 23 [])) [.t 4,.c (.int .i64 100),.c (.int .i64 10000)]),.V 6 (.mv (.t 5)),.G 7 (.fa 1 (.t 1)) 3 true,.G 8 (.ld none (.t 7)) 3 true,.G 9 (.call (.c (.fn 23 [])) [.t 8,.c (.int .i64 100),.c (.int .i64 10000)]) 3 true,.V 10 (.pick (.t 6) (.t 9) (.c (.bool false))),.V 11 (.mv (.t 10)),.G 12 (.fa 2 (.t 1)) 8 true,.G 13 (.ld none (.t 12)) 8 true,.G 14 (.call (.c (.fn 23 [])) [.t 13,.c (.int .i64 0),.c (.int .i64 500)]) 8 true,.V 15 (.pick (.t 11) (.t 14) (.c (.bool false))),.V 16 (.mv (.t 15)),.G 17 (.fa 3 (.t 1)) 13 true,.G 18 (.ld none (.t 17)) 13 true,.G 19 (.call (.c (.fn 23 [])) [.t 18,.c (.int .i64 0),.c (.int .i64 300)]) 13 true,.V 20 (.pick (.t 16) (.t 19) (.c (.bool false))),.V 2 (.asg (.t 20))] [2] []) .ret)) }
noncomputable def impl_ValidNeck_D : List (Nat × Callee) := [(23,impl_within_c)]
def impl_ValidNeck_H : List (Nat × ET) := []
noncomputable def impl_ValidNeck_c : Callee := mkCallee impl_ValidNeck_D impl_ValidNeck_H impl_ValidNeck_ir [.d T_Neck] [.d (.one .bool)] []
noncomputable def impl_ValidNeck (a0 : T_Neck.ty) : Option (Bool) := impl_ValidNeck_c.f (a0,())
theorem impl_ValidNeck_eq (a0 : T_Neck.ty) : impl_ValidNeck a0 =
 (impl_within a0.1 100 10000).bind fun x1 =>
  if x1 then
   (impl_within a0.2.1 100 10000).bind fun x2 =>
    if x2 then
     (impl_within a0.2.2.1 0 500).bind fun x3 =>
      if x3 then
       (impl_within a0.2.2.2.1 0 300).bind fun x4 =>
        some x4
      else
       some false
    else
     some false
  else
   some false :=
 (mk_f _ _ _ _ _ _ _ 4000).trans (by kernel_rfl)
def impl_isHole_ir : Fn := { np := 1,io := [],res := [.t 2],own := [false],body :=
 (.seq (.reg false [.V 2 (.asg (.c (.bool false)))] [0] []) (.seq (.reg false [.V 3 (.mv (.t 0)),.V 4 (.call (.c (.fn 23 [])) [.t 3,.c (.int .i64 20),.c (.int .i64 200)]),.V 2 (.asg (.t 4))] [2] []) .ret)) }
noncomputable def impl_isHole_D : List (Nat × Callee) := [(23,impl_within_c)]
def impl_isHole_H : List (Nat × ET) := []
noncomputable def impl_isHole_c : Callee := mkCallee impl_isHole_D impl_isHole_H impl_isHole_ir [.d (.one (.int .i64))] [.d (.one .bool)] []
noncomputable def impl_isHole (a0 : Int) : Option (Bool) := impl_isHole_c.f (a0,())
theorem impl_isHole_eq (a0 : Int) : impl_isHole a0 =
 (impl_within a0 20 200).bind fun x1 =>
  some x1 :=
 (mk_f _ _ _ _ _ _ _ 4000).trans (by kernel_rfl)
def impl_Peg_valid_ir : Fn := { np := 1,io := [],res := [.t 2],own := [false],body :=
 (.seq (.reg false [.W 1 (.box 4 (.t 0)),.V 2 (.asg (.c (.bool false)))] [1] [1]) (.seq (.reg false [.V 3 (.fa 0 (.t 1)),.V 4 (.ld none (.t 3)),.V 5 (.call (.c (.fn 24 [])) [.t 4]),.V 6 (.mv (.t 5)),.G 7 (.fa 1 (.t 1)) 3 true,.G 8 (.ld none (.t 7)) 3 true,.G 9 (.call (.c (.fn 500 [])) [.t 8]) 3 true,.V 10 (.pick (.t 6) (.t 9) (.c (.bool false))),.V 11 (.mv (.t 10)),.G 12 (.fa 2 (.t 1)) 8 true,.G 13 (.ld none (.t 12)) 8 true,.G 14 (.call (.c (.fn 23 [])) [.t 13,.c (.int .i64 100),.c (.int .i64 1000)]) 8 true,.V 15 (.pick (.t 11) (.t 14) (.c (.bool false))),.V 16 (.mv (.t 15)),.G 17 (.fa 3 (.t 1)) 13 true,.G 18 (.ld none (.t 17)) 13 true,.G 19 (.call (.c (.fn 23 [])) [.t 18,.c (.int .i64 10),.c (.int .i64 100)]) 13 true,.V 20 (.pick (.t 16) (.t 19) (.c (.bool false))),.V 2 (.asg (.t 20))] [2] []) .ret)) }
noncomputable def impl_Peg_valid_D : List (Nat × Callee) := [(23,impl_within_c),(24,impl_IsName_c),(500,impl_isHole_c)]
def impl_Peg_valid_H : List (Nat × ET) := []
noncomputable def impl_Peg_valid_c : Callee := mkCallee impl_Peg_valid_D impl_Peg_valid_H impl_Peg_valid_ir [.d T_Peg] [.d (.one .bool)] []
noncomputable def impl_Peg_valid (a0 : T_Peg.ty) : Option (Bool) := impl_Peg_valid_c.f (a0,())
theorem impl_Peg_valid_eq (a0 : T_Peg.ty) : impl_Peg_valid a0 =
 (impl_IsName a0.1).bind fun x1 =>
  if x1 then
   (impl_isHole a0.2.1).bind fun x2 =>
    if x2 then
     (impl_within a0.2.2.1 100 1000).bind fun x3 =>
      if x3 then
       (impl_within a0.2.2.2.1 10 100).bind fun x4 =>
        some x4
      else
       some false
    else
     some false
  else
   some false :=
 (mk_f _ _ _ _ _ _ _ 4000).trans (by kernel_rfl)
def impl_ValidPegs_k0 : C :=
 .seq (.reg false [.V 8 (.bin .lss (.t 7) (.t 6))] [0,5,6,7,8] []) (.seq (.cond (.t 8) .skip (.exit 0)) (.seq (.block 1 (.seq (.reg false [.V 9 (.mv (.t 7)),.V 10 (.ia 4 (.t 5) (.t 7)),.V 11 (.ld (some 4) (.t 10)),.W 4 (.alloc 4 (.agg [.str [],.int .i64 0,.int .i64 0,.int .i64 0])),.V 3 (.asg (.t 9)),⟨none,true,.sto 4 (.t 4) (.t 11),none,false,[]⟩] [0,3,4,5,6,7] [4]) (.seq (.reg true [.V 12 (.ld (some 4) (.t 4)),.V 13 (.call (.c (.fn 796 [])) [.t 12]),.V 14 (.un .not (.t 13)),.V 15 (.mv (.t 14)),.G 16 (.mv (.t 3)) 3 false,.G 17 (.bin .gtr (.t 16) (.c (.int .i64 0))) 3 false,.G 18 (.mv (.t 17)) 3 false,.G 19 (.mv (.t 0)) 6 true,.G 20 (.mv (.t 3)) 6 true,.G 21 (.bin .sub (.t 20) (.c (.int .i64 1))) 6 true,.G 22 (.ia 4 (.t 19) (.t 21)) 6 true,.G 23 (.fa 0 (.t 22)) 6 true,.G 24 (.ld none (.t 23)) 6 true,.G 25 (.fa 0 (.t 4)) 6 true,.G 26 (.ld none (.t 25)) 6 true,.G 27 (.bin .geq (.t 24) (.t 26)) 6 true,.G 28 (.pick (.t 18) (.t 27) (.c (.bool false))) 3 false,.V 29 (.pick (.t 15) (.c (.bool true)) (.t 28))] [0,5,6,7,29] []) (.cond (.t 29) (.seq (.reg false [.V 2 (.asg (.c (.bool false)))] [2] []) .ret) .skip)))) (.reg false [.V 30 (.bin .add (.t 7) (.c (.int .i64 1))),.V 7 (.mv (.t 30))] [0,5,6,7] [])))
def impl_ValidPegs_k1 : C :=
 .norm [0,5,6,7] [] impl_ValidPegs_k0
def impl_ValidPegs_k2 : C :=
 .seq (.reg false [.V 31 (.mv (.t 0)),.V 32 (.len (.t 31)),.V 33 (.call (.c (.fn 21 [])) [.t 32,.c (.int .i64 8)]),.V 2 (.asg (.t 33))] [2] []) .ret
def impl_ValidPegs_ir : Fn := { np := 1,io := [],res := [.t 2],own := [false],body :=
 (.seq (.reg false [.V 2 (.asg (.c (.bool false)))] [0] []) (.seq (.seq (.reg false [.V 5 (.mv (.t 0)),.V 6 (.len (.t 5)),.V 7 (.mv (.c (.int .i64 0)))] [0,5,6,7] []) (.block 0 (.loop impl_ValidPegs_k1))) impl_ValidPegs_k2)) }
noncomputable def impl_ValidPegs_D : List (Nat × Callee) := [(21,impl_few_c),(796,impl_Peg_valid_c)]
def impl_ValidPegs_H : List (Nat × ET) := [(5,T_Peg),(19,T_Peg),(31,T_Peg)]
noncomputable def impl_ValidPegs_c : Callee := mkCallee impl_ValidPegs_D impl_ValidPegs_H impl_ValidPegs_ir [.d (.one (.sl T_Peg))] [.d (.one .bool)] []
noncomputable def impl_ValidPegs (a0 : List T_Peg.ty) : Option (Bool) := impl_ValidPegs_c.f (a0,())
noncomputable def impl_ValidPegs_p0  (v0 : List T_Peg.ty) (v5 : List T_Peg.ty) (v6 : Int) (v7 : Int) : Option (Bool) :=
 goL impl_ValidPegs_D impl_ValidPegs_H (vleave impl_ValidPegs_ir [.d (.one (.sl T_Peg))] [.d (.one .bool)] [] []) [.c impl_ValidPegs_k0,.l impl_ValidPegs_k1,.e 0,.c impl_ValidPegs_k2]
  ⟨[(0,.sl T_Peg v0),(5,.sl T_Peg v5),(6,.int .i64 v6),(7,.int .i64 v7)],[]⟩
theorem impl_ValidPegs_eq (a0 : List T_Peg.ty) : impl_ValidPegs a0 =
 impl_ValidPegs_p0 a0 a0 (a0.length : Int) 0 :=
 (mk_f _ _ _ _ _ _ _ 4000).trans (by kernel_rfl)
theorem impl_ValidPegs_p0_eq  (v0 : List T_Peg.ty) (v5 : List T_Peg.ty) (v6 : Int) (v7 : Int) : impl_ValidPegs_p0 v0 v5 v6 v7 =
 if decide (v7 < v6) then
  if decide (0 ≤ v7) then
   (v5[v7.toNat]?).bind fun x1 =>
    (impl_Peg_valid x1).bind fun x2 =>
     if (!x2) then
      some false
     else
      if decide (v7 > 0) then
       if decide (0 ≤ IntKind.i64.wrap (v7 - 1)) then
        (v0[(IntKind.i64.wrap (v7 - 1)).toNat]?).bind fun x3 =>
         if (!Op.bytesLess x3.1 x1.1) then
          some false
         else
          impl_ValidPegs_p0 v0 v5 v6 (IntKind.i64.wrap (v7 + 1))
       else
        none
      else
       impl_ValidPegs_p0 v0 v5 v6 (IntKind.i64.wrap (v7 + 1))
  else
   none
 else
  (impl_few (v0.length : Int) 8).bind fun x4 =>
   some x4 :=
 (goL_dn _ _ _ 4000 _ _).trans (by kernel_rfl)
def impl_isGrams_ir : Fn := { np := 1,io := [],res := [.t 2],own := [false],body :=
 (.seq (.reg false [.V 2 (.asg (.c (.bool false)))] [0] []) (.seq (.reg false [.V 3 (.mv (.t 0)),.V 4 (.call (.c (.fn 23 [])) [.t 3,.c (.int .i64 1),.c (.int .i64 10000)]),.V 2 (.asg (.t 4))] [2] []) .ret)) }
noncomputable def impl_isGrams_D : List (Nat × Callee) := [(23,impl_within_c)]
def impl_isGrams_H : List (Nat × ET) := []
noncomputable def impl_isGrams_c : Callee := mkCallee impl_isGrams_D impl_isGrams_H impl_isGrams_ir [.d (.one (.int .i64))] [.d (.one .bool)] []
noncomputable def impl_isGrams (a0 : Int) : Option (Bool) := impl_isGrams_c.f (a0,())
theorem impl_isGrams_eq (a0 : Int) : impl_isGrams a0 =
 (impl_within a0 1 10000).bind fun x1 =>
  some x1 :=
 (mk_f _ _ _ _ _ _ _ 4000).trans (by kernel_rfl)
def impl_isHeat_ir : Fn := { np := 1,io := [],res := [.t 2],own := [false],body :=
 (.seq (.reg false [.V 2 (.asg (.c (.bool false)))] [0] []) (.seq (.reg false [.V 3 (.mv (.t 0)),.V 4 (.call (.c (.fn 23 [])) [.t 3,.c (.int .i64 20),.c (.int .i64 95)]),.V 2 (.asg (.t 4))] [2] []) .ret)) }
noncomputable def impl_isHeat_D : List (Nat × Callee) := [(23,impl_within_c)]
def impl_isHeat_H : List (Nat × ET) := []
noncomputable def impl_isHeat_c : Callee := mkCallee impl_isHeat_D impl_isHeat_H impl_isHeat_ir [.d (.one (.int .i64))] [.d (.one .bool)] []
noncomputable def impl_isHeat (a0 : Int) : Option (Bool) := impl_isHeat_c.f (a0,())
theorem impl_isHeat_eq (a0 : Int) : impl_isHeat a0 =
 (impl_within a0 20 95).bind fun x1 =>
  some x1 :=
 (mk_f _ _ _ _ _ _ _ 4000).trans (by kernel_rfl)
def impl_Pot_valid_ir : Fn := { np := 1,io := [],res := [.t 2],own := [false],body :=
 (.seq (.reg false [.W 1 (.box 5 (.t 0)),.V 2 (.asg (.c (.bool false)))] [1] [1]) (.seq (.reg false [.V 3 (.fa 0 (.t 1)),.V 4 (.ld none (.t 3)),.V 5 (.call (.c (.fn 24 [])) [.t 4]),.V 6 (.mv (.t 5)),.G 7 (.fa 1 (.t 1)) 3 true,.G 8 (.ld none (.t 7)) 3 true,.G 9 (.call (.c (.fn 25 [])) [.t 8]) 3 true,.V 10 (.pick (.t 6) (.t 9) (.c (.bool false))),.V 11 (.mv (.t 10)),.G 12 (.fa 2 (.t 1)) 8 true,.G 13 (.ld none (.t 12)) 8 true,.G 14 (.call (.c (.fn 25 [])) [.t 13]) 8 true,.V 15 (.pick (.t 11) (.t 14) (.c (.bool false))),.V 16 (.mv (.t 15)),.G 17 (.fa 3 (.t 1)) 13 true,.G 18 (.ld none (.t 17)) 13 true,.G 19 (.call (.c (.fn 26 [])) [.t 18]) 13 true,.V 20 (.pick (.t 16) (.t 19) (.c (.bool false))),.V 21 (.mv (.t 20)),.G 22 (.fa 4 (.t 1)) 18 true,.G 23 (.ld none (.t 22)) 18 true,.G 24 (.call (.c (.fn 23 [])) [.t 23,.c (.int .i64 0),.c (.int .i64 1000)]) 18 true,.V 25 (.pick (.t 21) (.t 24) (.c (.bool false))),.V 2 (.asg (.t 25))] [2] []) .ret)) }
noncomputable def impl_Pot_valid_D : List (Nat × Callee) := [(23,impl_within_c),(24,impl_IsName_c),(25,impl_isGrams_c),(26,impl_isHeat_c)]
def impl_Pot_valid_H : List (Nat × ET) := []
noncomputable def impl_Pot_valid_c : Callee := mkCallee impl_Pot_valid_D impl_Pot_valid_H impl_Pot_valid_ir [.d T_Pot] [.d (.one .bool)] []
noncomputable def impl_Pot_valid (a0 : T_Pot.ty) : Option (Bool) := impl_Pot_valid_c.f (a0,())
theorem impl_Pot_valid_eq (a0 : T_Pot.ty) : impl_Pot_valid a0 =
 (impl_IsName a0.1).bind fun x1 =>
  if x1 then
   (impl_isGrams a0.2.1).bind fun x2 =>
    if x2 then
     (impl_isGrams a0.2.2.1).bind fun x3 =>
      if x3 then
       (impl_isHeat a0.2.2.2.1).bind fun x4 =>
        if x4 then
         (impl_within a0.2.2.2.2.1 0 1000).bind fun x5 =>
          some x5
        else
         some false
      else
       some false
    else
     some false
  else
   some false :=
 (mk_f _ _ _ _ _ _ _ 4000).trans (by kernel_rfl)
def impl_ValidPots_k0 : C :=
 .seq (.reg false [.V 8 (.bin .lss (.t 7) (.t 6))] [0,5,6,7,8] []) (.seq (.cond (.t 8) .skip (.exit 0)) (.seq (.block 1 (.seq (.reg false [.V 9 (.mv (.t 7)),.V 10 (.ia 5 (.t 5) (.t 7)),.V 11 (.ld (some 5) (.t 10)),.W 4 (.alloc 5 (.agg [.str [],.int .i64 0,.int .i64 0,.int .i64 0,.int .i64 0])),.V 3 (.asg (.t 9)),⟨none,true,.sto 5 (.t 4) (.t 11),none,false,[]⟩] [0,3,4,5,6,7] [4]) (.seq (.reg true [.V 12 (.ld (some 5) (.t 4)),.V 13 (.call (.c (.fn 30 [])) [.t 12]),.V 14 (.un .not (.t 13)),.V 15 (.mv (.t 14)),.G 16 (.mv (.t 3)) 3 false,.G 17 (.bin .gtr (.t 16) (.c (.int .i64 0))) 3 false,.G 18 (.mv (.t 17)) 3 false,.G 19 (.mv (.t 0)) 6 true,.G 20 (.mv (.t 3)) 6 true,.G 21 (.bin .sub (.t 20) (.c (.int .i64 1))) 6 true,.G 22 (.ia 5 (.t 19) (.t 21)) 6 true,.G 23 (.fa 0 (.t 22)) 6 true,.G 24 (.ld none (.t 23)) 6 true,.G 25 (.fa 0 (.t 4)) 6 true,.G 26 (.ld none (.t 25)) 6 true,.G 27 (.bin .geq (.t 24) (.t 26)) 6 true,.G 28 (.pick (.t 18) (.t 27) (.c (.bool false))) 3 false,.V 29 (.pick (.t 15) (.c (.bool true)) (.t 28))] [0,5,6,7,29] []) (.cond (.t 29) (.seq (.reg false [.V 2 (.asg (.c (.bool false)))] [2] []) .ret) .skip)))) (.reg false [.V 30 (.bin .add (.t 7) (.c (.int .i64 1))),.V 7 (.mv (.t 30))] [0,5,6,7] [])))
def impl_ValidPots_k1 : C :=
 .norm [0,5,6,7] [] impl_ValidPots_k0
def impl_ValidPots_k2 : C :=
 .seq (.reg false [.V 31 (.mv (.t 0)),.V 32 (.len (.t 31)),.V 33 (.call (.c (.fn 21 [])) [.t 32,.c (.int .i64 8)]),.V 2 (.asg (.t 33))] [2] []) .ret
def impl_ValidPots_ir : Fn := { np := 1,io := [],res := [.t 2],own := [false],body :=
 (.seq (.reg false [.V 2 (.asg (.c (.bool false)))] [0] []) (.seq (.seq (.reg false [.V 5 (.mv (.t 0)),.V 6 (.len (.t 5)),.V 7 (.mv (.c (.int .i64 0)))] [0,5,6,7] []) (.block 0 (.loop impl_ValidPots_k1))) impl_ValidPots_k2)) }
noncomputable def impl_ValidPots_D : List (Nat × Callee) := [(21,impl_few_c),(30,impl_Pot_valid_c)]
def impl_ValidPots_H : List (Nat × ET) := [(5,T_Pot),(19,T_Pot),(31,T_Pot)]
noncomputable def impl_ValidPots_c : Callee := mkCallee impl_ValidPots_D impl_ValidPots_H impl_ValidPots_ir [.d (.one (.sl T_Pot))] [.d (.one .bool)] []
noncomputable def impl_ValidPots (a0 : List T_Pot.ty) : Option (Bool) := impl_ValidPots_c.f (a0,())
noncomputable def impl_ValidPots_p0  (v0 : List T_Pot.ty) (v5 : List T_Pot.ty) (v6 : Int) (v7 : Int) : Option (Bool) :=
 goL impl_ValidPots_D impl_ValidPots_H (vleave impl_ValidPots_ir [.d (.one (.sl T_Pot))] [.d (.one .bool)] [] []) [.c impl_ValidPots_k0,.l impl_ValidPots_k1,.e 0,.c impl_ValidPots_k2]
  ⟨[(0,.sl T_Pot v0),(5,.sl T_Pot v5),(6,.int .i64 v6),(7,.int .i64 v7)],[]⟩
theorem impl_ValidPots_eq (a0 : List T_Pot.ty) : impl_ValidPots a0 =
 impl_ValidPots_p0 a0 a0 (a0.length : Int) 0 :=
 (mk_f _ _ _ _ _ _ _ 4000).trans (by kernel_rfl)
theorem impl_ValidPots_p0_eq  (v0 : List T_Pot.ty) (v5 : List T_Pot.ty) (v6 : Int) (v7 : Int) : impl_ValidPots_p0 v0 v5 v6 v7 =
 if decide (v7 < v6) then
  if decide (0 ≤ v7) then
   (v5[v7.toNat]?).bind fun x1 =>
    (impl_Pot_valid x1).bind fun x2 =>
     if (!x2) then
      some false
     else
      if decide (v7 > 0) then
       if decide (0 ≤ IntKind.i64.wrap (v7 - 1)) then
        (v0[(IntKind.i64.wrap (v7 - 1)).toNat]?).bind fun x3 =>
         if (!Op.bytesLess x3.1 x1.1) then
          some false
         else
          impl_ValidPots_p0 v0 v5 v6 (IntKind.i64.wrap (v7 + 1))
       else
        none
      else
       impl_ValidPots_p0 v0 v5 v6 (IntKind.i64.wrap (v7 + 1))
  else
   none
 else
  (impl_few (v0.length : Int) 8).bind fun x4 =>
   some x4 :=
 (goL_dn _ _ _ 4000 _ _).trans (by kernel_rfl)
def impl_isTone_ir : Fn := { np := 1,io := [],res := [.t 2],own := [false],body :=
 (.seq (.reg false [.V 2 (.asg (.c (.bool false)))] [0] []) (.seq (.reg false [.V 3 (.mv (.t 0)),.V 4 (.call (.c (.fn 23 [])) [.t 3,.c (.int .i64 1000),.c (.int .i64 100000)]),.V 2 (.asg (.t 4))] [2] []) .ret)) }
noncomputable def impl_isTone_D : List (Nat × Callee) := [(23,impl_within_c)]
def impl_isTone_H : List (Nat × ET) := []
noncomputable def impl_isTone_c : Callee := mkCallee impl_isTone_D impl_isTone_H impl_isTone_ir [.d (.one (.int .i64))] [.d (.one .bool)] []
noncomputable def impl_isTone (a0 : Int) : Option (Bool) := impl_isTone_c.f (a0,())
theorem impl_isTone_eq (a0 : Int) : impl_isTone a0 =
 (impl_within a0 1000 100000).bind fun x1 =>
  some x1 :=
 (mk_f _ _ _ _ _ _ _ 4000).trans (by kernel_rfl)
def impl_Mode_valid_ir : Fn := { np := 1,io := [],res := [.t 2],own := [false],body :=
 (.seq (.reg false [.W 1 (.box 3 (.t 0)),.V 2 (.asg (.c (.bool false)))] [1] [1]) (.seq (.reg false [.V 3 (.fa 0 (.t 1)),.V 4 (.ld none (.t 3)),.V 5 (.call (.c (.fn 24 [])) [.t 4]),.V 6 (.mv (.t 5)),.G 7 (.fa 1 (.t 1)) 3 true,.G 8 (.ld none (.t 7)) 3 true,.G 9 (.call (.c (.fn 545 [])) [.t 8]) 3 true,.V 10 (.pick (.t 6) (.t 9) (.c (.bool false))),.V 11 (.mv (.t 10)),.G 12 (.fa 2 (.t 1)) 8 true,.G 13 (.ld none (.t 12)) 8 true,.G 14 (.call (.c (.fn 23 [])) [.t 13,.c (.int .i64 1),.c (.int .i64 500)]) 8 true,.V 15 (.pick (.t 11) (.t 14) (.c (.bool false))),.V 2 (.asg (.t 15))] [2] []) .ret)) }
noncomputable def impl_Mode_valid_D : List (Nat × Callee) := [(23,impl_within_c),(24,impl_IsName_c),(545,impl_isTone_c)]
def impl_Mode_valid_H : List (Nat × ET) := []
noncomputable def impl_Mode_valid_c : Callee := mkCallee impl_Mode_valid_D impl_Mode_valid_H impl_Mode_valid_ir [.d T_Mode] [.d (.one .bool)] []
noncomputable def impl_Mode_valid (a0 : T_Mode.ty) : Option (Bool) := impl_Mode_valid_c.f (a0,())
theorem impl_Mode_valid_eq (a0 : T_Mode.ty) : impl_Mode_valid a0 =
 (impl_IsName a0.1).bind fun x1 =>
  if x1 then
   (impl_isTone a0.2.1).bind fun x2 =>
    if x2 then
     (impl_within a0.2.2.1 1 500).bind fun x3 =>
      some x3
    else
     some false
  else
   some false :=
 (mk_f _ _ _ _ _ _ _ 4000).trans (by kernel_rfl)
def impl_ValidModes_k0 : C :=
 .seq (.reg false [.V 8 (.bin .lss (.t 7) (.t 6))] [0,5,6,7,8] []) (.seq (.cond (.t 8) .skip (.exit 0)) (.seq (.block 1 (.seq (.reg false [.V 9 (.mv (.t 7)),.V 10 (.ia 3 (.t 5) (.t 7)),.V 11 (.ld (some 3) (.t 10)),.W 4 (.alloc 3 (.agg [.str [],.int .i64 0,.int .i64 0])),.V 3 (.asg (.t 9)),⟨none,true,.sto 3 (.t 4) (.t 11),none,false,[]⟩] [0,3,4,5,6,7] [4]) (.seq (.reg true [.V 12 (.ld (some 3) (.t 4)),.V 13 (.call (.c (.fn 551 [])) [.t 12]),.V 14 (.un .not (.t 13)),.V 15 (.mv (.t 14)),.G 16 (.mv (.t 3)) 3 false,.G 17 (.bin .gtr (.t 16) (.c (.int .i64 0))) 3 false,.G 18 (.mv (.t 17)) 3 false,.G 19 (.mv (.t 0)) 6 true,.G 20 (.mv (.t 3)) 6 true,.G 21 (.bin .sub (.t 20) (.c (.int .i64 1))) 6 true,.G 22 (.ia 3 (.t 19) (.t 21)) 6 true,.G 23 (.fa 0 (.t 22)) 6 true,.G 24 (.ld none (.t 23)) 6 true,.G 25 (.fa 0 (.t 4)) 6 true,.G 26 (.ld none (.t 25)) 6 true,.G 27 (.bin .geq (.t 24) (.t 26)) 6 true,.G 28 (.pick (.t 18) (.t 27) (.c (.bool false))) 3 false,.V 29 (.pick (.t 15) (.c (.bool true)) (.t 28))] [0,5,6,7,29] []) (.cond (.t 29) (.seq (.reg false [.V 2 (.asg (.c (.bool false)))] [2] []) .ret) .skip)))) (.reg false [.V 30 (.bin .add (.t 7) (.c (.int .i64 1))),.V 7 (.mv (.t 30))] [0,5,6,7] [])))
def impl_ValidModes_k1 : C :=
 .norm [0,5,6,7] [] impl_ValidModes_k0
def impl_ValidModes_k2 : C :=
 .seq (.reg false [.V 31 (.mv (.t 0)),.V 32 (.len (.t 31)),.V 33 (.call (.c (.fn 21 [])) [.t 32,.c (.int .i64 10)]),.V 2 (.asg (.t 33))] [2] []) .ret
def impl_ValidModes_ir : Fn := { np := 1,io := [],res := [.t 2],own := [false],body :=
 (.seq (.reg false [.V 2 (.asg (.c (.bool false)))] [0] []) (.seq (.seq (.reg false [.V 5 (.mv (.t 0)),.V 6 (.len (.t 5)),.V 7 (.mv (.c (.int .i64 0)))] [0,5,6,7] []) (.block 0 (.loop impl_ValidModes_k1))) impl_ValidModes_k2)) }
noncomputable def impl_ValidModes_D : List (Nat × Callee) := [(21,impl_few_c),(551,impl_Mode_valid_c)]
def impl_ValidModes_H : List (Nat × ET) := [(5,T_Mode),(19,T_Mode),(31,T_Mode)]
noncomputable def impl_ValidModes_c : Callee := mkCallee impl_ValidModes_D impl_ValidModes_H impl_ValidModes_ir [.d (.one (.sl T_Mode))] [.d (.one .bool)] []
noncomputable def impl_ValidModes (a0 : List T_Mode.ty) : Option (Bool) := impl_ValidModes_c.f (a0,())
noncomputable def impl_ValidModes_p0  (v0 : List T_Mode.ty) (v5 : List T_Mode.ty) (v6 : Int) (v7 : Int) : Option (Bool) :=
 goL impl_ValidModes_D impl_ValidModes_H (vleave impl_ValidModes_ir [.d (.one (.sl T_Mode))] [.d (.one .bool)] [] []) [.c impl_ValidModes_k0,.l impl_ValidModes_k1,.e 0,.c impl_ValidModes_k2]
  ⟨[(0,.sl T_Mode v0),(5,.sl T_Mode v5),(6,.int .i64 v6),(7,.int .i64 v7)],[]⟩
theorem impl_ValidModes_eq (a0 : List T_Mode.ty) : impl_ValidModes a0 =
 impl_ValidModes_p0 a0 a0 (a0.length : Int) 0 :=
 (mk_f _ _ _ _ _ _ _ 4000).trans (by kernel_rfl)
theorem impl_ValidModes_p0_eq  (v0 : List T_Mode.ty) (v5 : List T_Mode.ty) (v6 : Int) (v7 : Int) : impl_ValidModes_p0 v0 v5 v6 v7 =
 if decide (v7 < v6) then
  if decide (0 ≤ v7) then
   (v5[v7.toNat]?).bind fun x1 =>
    (impl_Mode_valid x1).bind fun x2 =>
     if (!x2) then
      some false
     else
      if decide (v7 > 0) then
       if decide (0 ≤ IntKind.i64.wrap (v7 - 1)) then
        (v0[(IntKind.i64.wrap (v7 - 1)).toNat]?).bind fun x3 =>
         if (!Op.bytesLess x3.1 x1.1) then
          some false
         else
          impl_ValidModes_p0 v0 v5 v6 (IntKind.i64.wrap (v7 + 1))
       else
        none
      else
       impl_ValidModes_p0 v0 v5 v6 (IntKind.i64.wrap (v7 + 1))
  else
   none
 else
  (impl_few (v0.length : Int) 10).bind fun x4 =>
   some x4 :=
 (goL_dn _ _ _ 4000 _ _).trans (by kernel_rfl)
def impl_isSpan_ir : Fn := { np := 1,io := [],res := [.t 2],own := [false],body :=
 (.seq (.reg false [.V 2 (.asg (.c (.bool false)))] [0] []) (.seq (.reg false [.V 3 (.mv (.t 0)),.V 4 (.call (.c (.fn 23 [])) [.t 3,.c (.int .i64 1),.c (.int .i64 40)]),.V 2 (.asg (.t 4))] [2] []) .ret)) }
noncomputable def impl_isSpan_D : List (Nat × Callee) := [(23,impl_within_c)]
def impl_isSpan_H : List (Nat × ET) := []
noncomputable def impl_isSpan_c : Callee := mkCallee impl_isSpan_D impl_isSpan_H impl_isSpan_ir [.d (.one (.int .i64))] [.d (.one .bool)] []
noncomputable def impl_isSpan (a0 : Int) : Option (Bool) := impl_isSpan_c.f (a0,())
theorem impl_isSpan_eq (a0 : Int) : impl_isSpan a0 =
 (impl_within a0 1 40).bind fun x1 =>
  some x1 :=
 (mk_f _ _ _ _ _ _ _ 4000).trans (by kernel_rfl)
def impl_isDate_ir : Fn := { np := 1,io := [],res := [.t 2],own := [false],body :=
 (.seq (.reg false [.V 2 (.asg (.c (.bool false)))] [0] []) (.seq (.reg false [.V 3 (.mv (.t 0)),.V 4 (.call (.c (.fn 23 [])) [.t 3,.c (.int .i64 0),.c (.int .i64 39)]),.V 2 (.asg (.t 4))] [2] []) .ret)) }
noncomputable def impl_isDate_D : List (Nat × Callee) := [(23,impl_within_c)]
def impl_isDate_H : List (Nat × ET) := []
noncomputable def impl_isDate_c : Callee := mkCallee impl_isDate_D impl_isDate_H impl_isDate_ir [.d (.one (.int .i64))] [.d (.one .bool)] []
noncomputable def impl_isDate (a0 : Int) : Option (Bool) := impl_isDate_c.f (a0,())
theorem impl_isDate_eq (a0 : Int) : impl_isDate a0 =
 (impl_within a0 0 39).bind fun x1 =>
  some x1 :=
 (mk_f _ _ _ _ _ _ _ 4000).trans (by kernel_rfl)
def impl_Work_valid_ir : Fn := { np := 1,io := [],res := [.t 2],own := [false],body :=
 (.seq (.reg false [.W 1 (.box 4 (.t 0)),.V 2 (.asg (.c (.bool false)))] [1] [1]) (.seq (.reg false [.V 3 (.fa 0 (.t 1)),.V 4 (.ld none (.t 3)),.V 5 (.call (.c (.fn 24 [])) [.t 4]),.V 6 (.mv (.t 5)),.G 7 (.fa 1 (.t 1)) 3 true,.G 8 (.ld none (.t 7)) 3 true,.G 9 (.call (.c (.fn 977 [])) [.t 8]) 3 true,.V 10 (.pick (.t 6) (.t 9) (.c (.bool false))),.V 11 (.mv (.t 10)),.G 12 (.fa 2 (.t 1)) 8 true,.G 13 (.ld none (.t 12)) 8 true,.G 14 (.call (.c (.fn 978 [])) [.t 13]) 8 true,.V 15 (.pick (.t 11) (.t 14) (.c (.bool false))),.V 16 (.mv (.t 15)),.G 17 (.fa 3 (.t 1)) 13 true,.G 18 (.ld none (.t 17)) 13 true,.G 19 (.call (.c (.fn 978 [])) [.t 18]) 13 true,.V 20 (.pick (.t 16) (.t 19) (.c (.bool false))),.V 21 (.mv (.t 20)),.G 22 (.fa 2 (.t 1)) 18 true,.G 23 (.ld none (.t 22)) 18 true,.G 24 (.fa 1 (.t 1)) 18 true,.G 25 (.ld none (.t 24)) 18 true,.G 26 (.bin .add (.t 23) (.t 25)) 18 true,.G 27 (.bin .sub (.t 26) (.c (.int .i64 1))) 18 true,.G 28 (.fa 3 (.t 1)) 18 true,.G 29 (.ld none (.t 28)) 18 true,.G 30 (.bin .leq (.t 27) (.t 29)) 18 true,.V 31 (.pick (.t 21) (.t 30) (.c (.bool false))),.V 2 (.asg (.t 31))] [2] []) .ret)) }
noncomputable def impl_Work_valid_D : List (Nat × Callee) := [(24,impl_IsName_c),(977,impl_isSpan_c),(978,impl_isDate_c)]
def impl_Work_valid_H : List (Nat × ET) := []
noncomputable def impl_Work_valid_c : Callee := mkCallee impl_Work_valid_D impl_Work_valid_H impl_Work_valid_ir [.d T_Peg] [.d (.one .bool)] []
noncomputable def impl_Work_valid (a0 : T_Peg.ty) : Option (Bool) := impl_Work_valid_c.f (a0,())
theorem impl_Work_valid_eq (a0 : T_Peg.ty) : impl_Work_valid a0 =
 (impl_IsName a0.1).bind fun x1 =>
  if x1 then
   (impl_isSpan a0.2.1).bind fun x2 =>
    if x2 then
     (impl_isDate a0.2.2.1).bind fun x3 =>
      if x3 then
       (impl_isDate a0.2.2.2.1).bind fun x4 =>
        if x4 then
         some (decide (IntKind.i64.wrap ((IntKind.i64.wrap (a0.2.2.1 + a0.2.1)) - 1) ≤ a0.2.2.2.1))
        else
         some false
      else
       some false
    else
     some false
  else
   some false :=
 (mk_f _ _ _ _ _ _ _ 4000).trans (by kernel_rfl)
def impl_ValidWorks_k0 : C :=
 .seq (.reg false [.V 8 (.bin .lss (.t 7) (.t 6))] [0,5,6,7,8] []) (.seq (.cond (.t 8) .skip (.exit 0)) (.seq (.block 1 (.seq (.reg false [.V 9 (.mv (.t 7)),.V 10 (.ia 4 (.t 5) (.t 7)),.V 11 (.ld (some 4) (.t 10)),.W 4 (.alloc 4 (.agg [.str [],.int .i64 0,.int .i64 0,.int .i64 0])),.V 3 (.asg (.t 9)),⟨none,true,.sto 4 (.t 4) (.t 11),none,false,[]⟩] [0,3,4,5,6,7] [4]) (.seq (.reg true [.V 12 (.ld (some 4) (.t 4)),.V 13 (.call (.c (.fn 791 [])) [.t 12]),.V 14 (.un .not (.t 13)),.V 15 (.mv (.t 14)),.G 16 (.mv (.t 3)) 3 false,.G 17 (.bin .gtr (.t 16) (.c (.int .i64 0))) 3 false,.G 18 (.mv (.t 17)) 3 false,.G 19 (.mv (.t 0)) 6 true,.G 20 (.mv (.t 3)) 6 true,.G 21 (.bin .sub (.t 20) (.c (.int .i64 1))) 6 true,.G 22 (.ia 4 (.t 19) (.t 21)) 6 true,.G 23 (.fa 0 (.t 22)) 6 true,.G 24 (.ld none (.t 23)) 6 true,.G 25 (.fa 0 (.t 4)) 6 true,.G 26 (.ld none (.t 25)) 6 true,.G 27 (.bin .geq (.t 24) (.t 26)) 6 true,.G 28 (.pick (.t 18) (.t 27) (.c (.bool false))) 3 false,.V 29 (.pick (.t 15) (.c (.bool true)) (.t 28))] [0,5,6,7,29] []) (.cond (.t 29) (.seq (.reg false [.V 2 (.asg (.c (.bool false)))] [2] []) .ret) .skip)))) (.reg false [.V 30 (.bin .add (.t 7) (.c (.int .i64 1))),.V 7 (.mv (.t 30))] [0,5,6,7] [])))
def impl_ValidWorks_k1 : C :=
 .norm [0,5,6,7] [] impl_ValidWorks_k0
def impl_ValidWorks_k2 : C :=
 .seq (.reg false [.V 31 (.mv (.t 0)),.V 32 (.len (.t 31)),.V 33 (.call (.c (.fn 21 [])) [.t 32,.c (.int .i64 8)]),.V 2 (.asg (.t 33))] [2] []) .ret
def impl_ValidWorks_ir : Fn := { np := 1,io := [],res := [.t 2],own := [false],body :=
 (.seq (.reg false [.V 2 (.asg (.c (.bool false)))] [0] []) (.seq (.seq (.reg false [.V 5 (.mv (.t 0)),.V 6 (.len (.t 5)),.V 7 (.mv (.c (.int .i64 0)))] [0,5,6,7] []) (.block 0 (.loop impl_ValidWorks_k1))) impl_ValidWorks_k2)) }
noncomputable def impl_ValidWorks_D : List (Nat × Callee) := [(21,impl_few_c),(791,impl_Work_valid_c)]
def impl_ValidWorks_H : List (Nat × ET) := [(5,T_Peg),(19,T_Peg),(31,T_Peg)]
noncomputable def impl_ValidWorks_c : Callee := mkCallee impl_ValidWorks_D impl_ValidWorks_H impl_ValidWorks_ir [.d (.one (.sl T_Peg))] [.d (.one .bool)] []
noncomputable def impl_ValidWorks (a0 : List T_Peg.ty) : Option (Bool) := impl_ValidWorks_c.f (a0,())
noncomputable def impl_ValidWorks_p0  (v0 : List T_Peg.ty) (v5 : List T_Peg.ty) (v6 : Int) (v7 : Int) : Option (Bool) :=
 goL impl_ValidWorks_D impl_ValidWorks_H (vleave impl_ValidWorks_ir [.d (.one (.sl T_Peg))] [.d (.one .bool)] [] []) [.c impl_ValidWorks_k0,.l impl_ValidWorks_k1,.e 0,.c impl_ValidWorks_k2]
  ⟨[(0,.sl T_Peg v0),(5,.sl T_Peg v5),(6,.int .i64 v6),(7,.int .i64 v7)],[]⟩
theorem impl_ValidWorks_eq (a0 : List T_Peg.ty) : impl_ValidWorks a0 =
 impl_ValidWorks_p0 a0 a0 (a0.length : Int) 0 :=
 (mk_f _ _ _ _ _ _ _ 4000).trans (by kernel_rfl)
theorem impl_ValidWorks_p0_eq  (v0 : List T_Peg.ty) (v5 : List T_Peg.ty) (v6 : Int) (v7 : Int) : impl_ValidWorks_p0 v0 v5 v6 v7 =
 if decide (v7 < v6) then
  if decide (0 ≤ v7) then
   (v5[v7.toNat]?).bind fun x1 =>
    (impl_Work_valid x1).bind fun x2 =>
     if (!x2) then
      some false
     else
      if decide (v7 > 0) then
       if decide (0 ≤ IntKind.i64.wrap (v7 - 1)) then
        (v0[(IntKind.i64.wrap (v7 - 1)).toNat]?).bind fun x3 =>
         if (!Op.bytesLess x3.1 x1.1) then
          some false
         else
          impl_ValidWorks_p0 v0 v5 v6 (IntKind.i64.wrap (v7 + 1))
       else
        none
      else
       impl_ValidWorks_p0 v0 v5 v6 (IntKind.i64.wrap (v7 + 1))
  else
   none
 else
  (impl_few (v0.length : Int) 8).bind fun x4 =>
   some x4 :=
 (goL_dn _ _ _ 4000 _ _).trans (by kernel_rfl)
def impl_Paper_valid_ir : Fn := { np := 1,io := [],res := [.t 2],own := [false],body :=
 (.seq (.reg false [.W 1 (.box 5 (.t 0)),.V 2 (.asg (.c (.bool false)))] [1] [1]) (.seq (.reg false [.V 3 (.fa 0 (.t 1)),.V 4 (.ld none (.t 3)),.V 5 (.call (.c (.fn 24 [])) [.t 4]),.V 6 (.mv (.t 5)),.G 7 (.fa 1 (.t 1)) 3 true,.G 8 (.ld none (.t 7)) 3 true,.G 9 (.call (.c (.fn 24 [])) [.t 8]) 3 true,.V 10 (.pick (.t 6) (.t 9) (.c (.bool false))),.V 11 (.mv (.t 10)),.G 12 (.fa 2 (.t 1)) 8 true,.G 13 (.ld none (.t 12)) 8 true,.G 14 (.bin .leq (.c (.int .i64 1500)) (.t 13)) 8 true,.V 15 (.pick (.t 11) (.t 14) (.c (.bool false))),.V 16 (.mv (.t 15)),.G 17 (.fa 2 (.t 1)) 13 true,.G 18 (.ld none (.t 17)) 13 true,.G 19 (.fa 3 (.t 1)) 13 true,.G 20 (.ld none (.t 19)) 13 true,.G 21 (.bin .leq (.t 18) (.t 20)) 13 true,.V 22 (.pick (.t 16) (.t 21) (.c (.bool false))),.V 23 (.mv (.t 22)),.G 24 (.fa 3 (.t 1)) 20 true,.G 25 (.ld none (.t 24)) 20 true,.G 26 (.bin .leq (.t 25) (.c (.int .i64 2100))) 20 true,.V 27 (.pick (.t 23) (.t 26) (.c (.bool false))),.V 28 (.mv (.t 27)),.G 29 (.fa 4 (.t 1)) 25 true,.G 30 (.ld none (.t 29)) 25 true,.G 31 (.call (.c (.fn 23 [])) [.t 30,.c (.int .i64 1),.c (.int .i64 1000)]) 25 true,.V 32 (.pick (.t 28) (.t 31) (.c (.bool false))),.V 2 (.asg (.t 32))] [2] []) .ret)) }
noncomputable def impl_Paper_valid_D : List (Nat × Callee) := [(23,impl_within_c),(24,impl_IsName_c)]
def impl_Paper_valid_H : List (Nat × ET) := []
noncomputable def impl_Paper_valid_c : Callee := mkCallee impl_Paper_valid_D impl_Paper_valid_H impl_Paper_valid_ir [.d T_Paper] [.d (.one .bool)] []
noncomputable def impl_Paper_valid (a0 : T_Paper.ty) : Option (Bool) := impl_Paper_valid_c.f (a0,())
theorem impl_Paper_valid_eq (a0 : T_Paper.ty) : impl_Paper_valid a0 =
 (impl_IsName a0.1).bind fun x1 =>
  if x1 then
   (impl_IsName a0.2.1).bind fun x2 =>
    if x2 then
     if decide (1500 ≤ a0.2.2.1) then
      if decide (a0.2.2.1 ≤ a0.2.2.2.1) then
       if decide (a0.2.2.2.1 ≤ 2100) then
        (impl_within a0.2.2.2.2.1 1 1000).bind fun x3 =>
         some x3
       else
        some false
      else
       some false
     else
      some false
    else
     some false
  else
   some false :=
 (mk_f _ _ _ _ _ _ _ 4000).trans (by kernel_rfl)
def impl_ValidPapers_k0 : C :=
 .seq (.reg false [.V 8 (.bin .lss (.t 7) (.t 6))] [0,5,6,7,8] []) (.seq (.cond (.t 8) .skip (.exit 0)) (.seq (.block 1 (.seq (.reg false [.V 9 (.mv (.t 7)),.V 10 (.ia 5 (.t 5) (.t 7)),.V 11 (.ld (some 5) (.t 10)),.W 4 (.alloc 5 (.agg [.str [],.str [],.int .i64 0,.int .i64 0,.int .i64 0])),.V 3 (.asg (.t 9)),⟨none,true,.sto 5 (.t 4) (.t 11),none,false,[]⟩] [0,3,4,5,6,7] [4]) (.seq (.reg true [.V 12 (.ld (some 5) (.t 4)),.V 13 (.call (.c (.fn 809 [])) [.t 12]),.V 14 (.un .not (.t 13)),.V 15 (.mv (.t 14)),.G 16 (.mv (.t 3)) 3 false,.G 17 (.bin .gtr (.t 16) (.c (.int .i64 0))) 3 false,.G 18 (.mv (.t 17)) 3 false,.G 19 (.mv (.t 0)) 6 true,.G 20 (.mv (.t 3)) 6 true,.G 21 (.bin .sub (.t 20) (.c (.int .i64 1))) 6 true,.G 22 (.ia 5 (.t 19) (.t 21)) 6 true,.G 23 (.fa 0 (.t 22)) 6 true,.G 24 (.ld none (.t 23)) 6 true,.G 25 (.fa 0 (.t 4)) 6 true,.G 26 (.ld none (.t 25)) 6 true,.G 27 (.bin .geq (.t 24) (.t 26)) 6 true,.G 28 (.pick (.t 18) (.t 27) (.c (.bool false))) 3 false,.V 29 (.pick (.t 15) (.c (.bool true)) (.t 28))] [0,5,6,7,29] []) (.cond (.t 29) (.seq (.reg false [.V 2 (.asg (.c (.bool false)))] [2] []) .ret) .skip)))) (.reg false [.V 30 (.bin .add (.t 7) (.c (.int .i64 1))),.V 7 (.mv (.t 30))] [0,5,6,7] [])))
def impl_ValidPapers_k1 : C :=
 .norm [0,5,6,7] [] impl_ValidPapers_k0
def impl_ValidPapers_k2 : C :=
 .seq (.reg false [.V 31 (.mv (.t 0)),.V 32 (.len (.t 31)),.V 33 (.call (.c (.fn 21 [])) [.t 32,.c (.int .i64 12)]),.V 2 (.asg (.t 33))] [2] []) .ret
def impl_ValidPapers_ir : Fn := { np := 1,io := [],res := [.t 2],own := [false],body :=
 (.seq (.reg false [.V 2 (.asg (.c (.bool false)))] [0] []) (.seq (.seq (.reg false [.V 5 (.mv (.t 0)),.V 6 (.len (.t 5)),.V 7 (.mv (.c (.int .i64 0)))] [0,5,6,7] []) (.block 0 (.loop impl_ValidPapers_k1))) impl_ValidPapers_k2)) }
noncomputable def impl_ValidPapers_D : List (Nat × Callee) := [(21,impl_few_c),(809,impl_Paper_valid_c)]
def impl_ValidPapers_H : List (Nat × ET) := [(5,T_Paper),(19,T_Paper),(31,T_Paper)]
noncomputable def impl_ValidPapers_c : Callee := mkCallee impl_ValidPapers_D impl_ValidPapers_H impl_ValidPapers_ir [.d (.one (.sl T_Paper))] [.d (.one .bool)] []
noncomputable def impl_ValidPapers (a0 : List T_Paper.ty) : Option (Bool) := impl_ValidPapers_c.f (a0,())
noncomputable def impl_ValidPapers_p0  (v0 : List T_Paper.ty) (v5 : List T_Paper.ty) (v6 : Int) (v7 : Int) : Option (Bool) :=
 goL impl_ValidPapers_D impl_ValidPapers_H (vleave impl_ValidPapers_ir [.d (.one (.sl T_Paper))] [.d (.one .bool)] [] []) [.c impl_ValidPapers_k0,.l impl_ValidPapers_k1,.e 0,.c impl_ValidPapers_k2]
  ⟨[(0,.sl T_Paper v0),(5,.sl T_Paper v5),(6,.int .i64 v6),(7,.int .i64 v7)],[]⟩
theorem impl_ValidPapers_eq (a0 : List T_Paper.ty) : impl_ValidPapers a0 =
 impl_ValidPapers_p0 a0 a0 (a0.length : Int) 0 :=
 (mk_f _ _ _ _ _ _ _ 4000).trans (by kernel_rfl)
theorem impl_ValidPapers_p0_eq  (v0 : List T_Paper.ty) (v5 : List T_Paper.ty) (v6 : Int) (v7 : Int) : impl_ValidPapers_p0 v0 v5 v6 v7 =
 if decide (v7 < v6) then
  if decide (0 ≤ v7) then
   (v5[v7.toNat]?).bind fun x1 =>
    (impl_Paper_valid x1).bind fun x2 =>
     if (!x2) then
      some false
     else
      if decide (v7 > 0) then
       if decide (0 ≤ IntKind.i64.wrap (v7 - 1)) then
        (v0[(IntKind.i64.wrap (v7 - 1)).toNat]?).bind fun x3 =>
         if (!Op.bytesLess x3.1 x1.1) then
          some false
         else
          impl_ValidPapers_p0 v0 v5 v6 (IntKind.i64.wrap (v7 + 1))
       else
        none
      else
       impl_ValidPapers_p0 v0 v5 v6 (IntKind.i64.wrap (v7 + 1))
  else
   none
 else
  (impl_few (v0.length : Int) 12).bind fun x4 =>
   some x4 :=
 (goL_dn _ _ _ 4000 _ _).trans (by kernel_rfl)
def impl_ValidDesk_ir : Fn := { np := 1,io := [],res := [.t 2],own := [false],body :=
 (.seq (.reg false [.W 1 (.box 12 (.t 0)),.V 2 (.asg (.c (.bool false)))] [1] [1,2000,2001,2002,2007,2008,2009,2010,2011]) (.seq (.reg false [.V 3 (.fa 0 (.t 1)),.V 4 (.ld none (.t 3)),.V 5 (.call (.c (.fn 713 [])) [.t 4]),.V 6 (.mv (.t 5)),.G 7 (.fa 1 (.t 1)) 3 true,.G 8 (.ld none (.t 7)) 3 true,.G 9 (.call (.c (.fn 509 [])) [.t 8]) 3 true,.V 10 (.pick (.t 6) (.t 9) (.c (.bool false))),.V 11 (.mv (.t 10)),.G 12 (.fa 2 (.t 1)) 8 true,.G 13 (.ld none (.t 12)) 8 true,.G 14 (.call (.c (.fn 714 [])) [.t 13]) 8 true,.V 15 (.pick (.t 11) (.t 14) (.c (.bool false))),.V 16 (.mv (.t 15)),.G 17 (.fa 3 (.t 1)) 13 true,.G 18 (.ld (some 4) (.t 17)) 13 true,.G 19 (.call (.c (.fn 444 [])) [.t 18]) 13 true,.V 20 (.pick (.t 16) (.t 19) (.c (.bool false))),.V 21 (.mv (.t 20)),.G 22 (.fa 7 (.t 1)) 18 true,.G 23 (.ld none (.t 22)) 18 true,.G 24 (.call (.c (.fn 468 [])) [.t 23]) 18 true,.V 25 (.pick (.t 21) (.t 24) (.c (.bool false))),.V 26 (.mv (.t 25)),.G 27 (.fa 8 (.t 1)) 23 true,.G 28 (.ld none (.t 27)) 23 true,.G 29 (.call (.c (.fn 57 [])) [.t 28]) 23 true,.V 30 (.pick (.t 26) (.t 29) (.c (.bool false))),.V 31 (.mv (.t 30)),.G 32 (.fa 9 (.t 1)) 28 true,.G 33 (.ld none (.t 32)) 28 true,.G 34 (.call (.c (.fn 472 [])) [.t 33]) 28 true,.V 35 (.pick (.t 31) (.t 34) (.c (.bool false))),.V 36 (.mv (.t 35)),.G 37 (.fa 10 (.t 1)) 33 true,.G 38 (.ld none (.t 37)) 33 true,.G 39 (.call (.c (.fn 715 [])) [.t 38]) 33 true,.V 40 (.pick (.t 36) (.t 39) (.c (.bool false))),.V 41 (.mv (.t 40)),.G 42 (.fa 11 (.t 1)) 38 true,.G 43 (.ld none (.t 42)) 38 true,.G 44 (.call (.c (.fn 635 [])) [.t 43]) 38 true,.V 45 (.pick (.t 41) (.t 44) (.c (.bool false))),.V 2 (.asg (.t 45))] [2] []) .ret)) }
noncomputable def impl_ValidDesk_D : List (Nat × Callee) := [(57,impl_ValidPots_c),(444,impl_ValidNeck_c),(468,impl_ValidPegs_c),(472,impl_ValidModes_c),(509,impl_ValidRibs_c),(635,impl_ValidPapers_c),(713,impl_ValidStacks_c),(714,impl_ValidPlate_c),(715,impl_ValidWorks_c)]
def impl_ValidDesk_H : List (Nat × ET) := [(4,T_Peg),(8,T_Mode),(13,(.one (.sl (.one (.int .i64))))),(23,T_Peg),(28,T_Pot),(33,T_Mode),(38,T_Peg),(43,T_Paper)]
noncomputable def impl_ValidDesk_c : Callee := mkCallee impl_ValidDesk_D impl_ValidDesk_H impl_ValidDesk_ir [.d T_Desk] [.d (.one .bool)] []
noncomputable def impl_ValidDesk (a0 : T_Desk.ty) : Option (Bool) := impl_ValidDesk_c.f (a0,())
theorem impl_ValidDesk_eq (a0 : T_Desk.ty) : impl_ValidDesk a0 =
 (impl_ValidStacks a0.1).bind fun x1 =>
  if x1 then
   (impl_ValidRibs a0.2.1).bind fun x2 =>
    if x2 then
     (impl_ValidPlate a0.2.2.1).bind fun x3 =>
      if x3 then
       (impl_ValidNeck (a0.2.2.2.1,a0.2.2.2.2.1,a0.2.2.2.2.2.1,a0.2.2.2.2.2.2.1,())).bind fun x4 =>
        if x4 then
         (impl_ValidPegs a0.2.2.2.2.2.2.2.1).bind fun x5 =>
          if x5 then
           (impl_ValidPots a0.2.2.2.2.2.2.2.2.1).bind fun x6 =>
            if x6 then
             (impl_ValidModes a0.2.2.2.2.2.2.2.2.2.1).bind fun x7 =>
              if x7 then
               (impl_ValidWorks a0.2.2.2.2.2.2.2.2.2.2.1).bind fun x8 =>
                if x8 then
                 (impl_ValidPapers a0.2.2.2.2.2.2.2.2.2.2.2.1).bind fun x9 =>
                  some x9
                else
                 some false
              else
               some false
            else
             some false
          else
           some false
        else
         some false
      else
       some false
    else
     some false
  else
   some false :=
 (mk_f _ _ _ _ _ _ _ 4000).trans (by kernel_rfl)
noncomputable def strconv_FormatInt_c : Callee := formatIntC
noncomputable def strconv_FormatInt (a0 : Int) (a1 : Int) : Option (List UInt8) := strconv_FormatInt_c.f (a0,a1,())
theorem strconv_FormatInt_eq (a0 : Int) (a1 : Int) : strconv_FormatInt a0 a1 = if decide (a1 = 10) && (decide (-9223372036854775808 ≤ a0) && decide (a0 ≤ 9223372036854775807)) then some (Lib.itoa a0) else none := rfl
def impl_Decimal_ir : Fn := { np := 1,io := [],res := [.t 2],own := [false],body :=
 (.seq (.reg false [.V 2 (.asg (.c (.str [])))] [0] []) (.seq (.reg false [.V 3 (.mv (.t 0)),.V 4 (.call (.c (.fn 864 [])) [.t 3,.c (.int .i64 10)]),.V 2 (.asg (.t 4))] [2] []) .ret)) }
noncomputable def impl_Decimal_D : List (Nat × Callee) := [(864,strconv_FormatInt_c)]
def impl_Decimal_H : List (Nat × ET) := []
noncomputable def impl_Decimal_c : Callee := mkCallee impl_Decimal_D impl_Decimal_H impl_Decimal_ir [.d (.one (.int .i64))] [.d (.one .str)] []
noncomputable def impl_Decimal (a0 : Int) : Option (List UInt8) := impl_Decimal_c.f (a0,())
theorem impl_Decimal_eq (a0 : Int) : impl_Decimal a0 =
 (strconv_FormatInt a0 10).bind fun x1 =>
  some x1 :=
 (mk_f _ _ _ _ _ _ _ 4000).trans (by kernel_rfl)
def impl_DeskReport_1_ir : Fn := { np := 2,io := [],res := [.t 4],own := [false],body :=
 (.seq (.reg false [.V 4 (.asg (.c (.str [])))] [0,1] []) (.seq (.reg false [.V 5 (.mv (.t 0)),.V 6 (.bin .add (.t 5) (.c (.str [32]))),.V 7 (.mv (.t 1)),.V 8 (.call (.c (.fn 524 [])) [.t 7]),.V 9 (.bin .add (.t 6) (.t 8)),.V 4 (.asg (.t 9))] [4] []) .ret)) }
noncomputable def impl_DeskReport_1_D : List (Nat × Callee) := [(524,impl_Decimal_c)]
def impl_DeskReport_1_H : List (Nat × ET) := []
noncomputable def impl_DeskReport_1_c : Callee := mkCallee impl_DeskReport_1_D impl_DeskReport_1_H impl_DeskReport_1_ir [.d (.one .str),.d (.one (.int .i64))] [.d (.one .str)] []
noncomputable def impl_DeskReport_1 (a0 : List UInt8) (a1 : Int) : Option (List UInt8) := impl_DeskReport_1_c.f (a0,a1,())
theorem impl_DeskReport_1_eq (a0 : List UInt8) (a1 : Int) : impl_DeskReport_1 a0 a1 =
 if decide (a0.length + [32].length ≤ strMax) then
  (impl_Decimal a1).bind fun x1 =>
   if decide ((a0 ++ [32]).length + x1.length ≤ strMax) then
    some ((a0 ++ [32]) ++ x1)
   else
    none
 else
  none :=
 (mk_f _ _ _ _ _ _ _ 4000).trans (by kernel_rfl)
def impl_DeskReport_ir : Fn := { np := 1,io := [],res := [.t 2,.t 3],own := [true,false],body :=
 (.seq (.reg false [.W 1 (.box 12 (.t 0)),.W 2 (.asg (.c (.nils 1))),.V 3 (.asg (.c (.int .i64 0)))] [1] [1,2000,2001,2002,2007,2008,2009,2010,2011]) (.seq (.seq (.reg false [.V 5 (.ld (some 12) (.t 1)),.V 6 (.call (.c (.fn 288 [])) [.t 5]),.V 7 (.un .not (.t 6))] [1,7] [1,2000,2001,2002,2007,2008,2009,2010,2011]) (.cond (.t 7) (.seq (.reg false [.W 2 (.asg (.c (.nils 1))),.V 3 (.asg (.c (.int .i64 1)))] [2,3] [2]) .ret) .skip)) (.seq (.reg false [.V 4 (.asg (.c (.fn 810 [])))] [1,4] [1,2000,2001,2002,2007,2008,2009,2010,2011]) (.seq (.reg true [.V 8 (.mv (.t 4)),.V 9 (.fa 0 (.t 1)),.V 10 (.ld none (.t 9)),.V 11 (.len (.t 10)),.V 12 (.call (.t 8) [.c (.str [115,116,97,99,107,115]),.t 11]),.V 13 (.mv (.t 4)),.V 14 (.fa 1 (.t 1)),.V 15 (.ld none (.t 14)),.V 16 (.len (.t 15)),.V 17 (.call (.t 13) [.c (.str [114,105,98,115]),.t 16]),.V 18 (.mv (.t 4)),.V 19 (.fa 2 (.t 1)),.V 20 (.ld none (.t 19)),.V 21 (.len (.t 20)),.V 22 (.call (.t 18) [.c (.str [114,111,119,115]),.t 21]),.V 23 (.fa 3 (.t 1)),.V 24 (.fa 0 (.t 23)),.V 25 (.ld none (.t 24)),.V 26 (.call (.c (.fn 524 [])) [.t 25]),.V 27 (.bin .add (.c (.str [115,116,111,112,32])) (.t 26)),.V 28 (.mv (.t 4)),.V 29 (.fa 7 (.t 1)),.V 30 (.ld none (.t 29)),.V 31 (.len (.t 30)),.V 32 (.call (.t 28) [.c (.str [112,101,103,115]),.t 31]),.V 33 (.mv (.t 4)),.V 34 (.fa 8 (.t 1)),.V 35 (.ld none (.t 34)),.V 36 (.len (.t 35)),.V 37 (.call (.t 33) [.c (.str [112,111,116,115]),.t 36]),.V 38 (.mv (.t 4)),.V 39 (.fa 9 (.t 1)),.V 40 (.ld none (.t 39)),.V 41 (.len (.t 40)),.V 42 (.call (.t 38) [.c (.str [109,111,100,101,115]),.t 41]),.V 43 (.mv (.t 4)),.V 44 (.fa 10 (.t 1)),.V 45 (.ld none (.t 44)),.V 46 (.len (.t 45)),.V 47 (.call (.t 43) [.c (.str [119,111,114,107,115]),.t 46]),.V 48 (.mv (.t 4)),.V 49 (.fa 11 (.t 1)),.V 50 (.ld none (.t 49)),.V 51 (.len (.t 50)),.V 52 (.call (.t 48) [.c (.str [112,97,112,101,114,115]),.t 51]),.V 53 (.bsl 1 (.str []) 9 [(0,.t 12),(1,.t 17),(2,.t 22),(3,.t 27),(4,.t 32),(5,.t 37),(6,.t 42),(7,.t 47),(8,.t 52)]),.W 2 (.asg (.t 53)),.V 3 (.asg (.c (.int .i64 0)))] [2,3] [2]) .ret)))) }
noncomputable def impl_DeskReport_D : List (Nat × Callee) := [(288,impl_ValidDesk_c),(524,impl_Decimal_c),(810,impl_DeskReport_1_c)]
def impl_DeskReport_H : List (Nat × ET) := [(2,(.one .str)),(10,T_Peg),(15,T_Mode),(20,(.one (.sl (.one (.int .i64))))),(30,T_Peg),(35,T_Pot),(40,T_Mode),(45,T_Peg),(50,T_Paper),(53,(.one .str))]
noncomputable def impl_DeskReport_c : Callee := mkCallee impl_DeskReport_D impl_DeskReport_H impl_DeskReport_ir [.d T_Desk] [.tok (.one .str),.d (.one (.int .i64))] []
noncomputable def impl_DeskReport (a0 : T_Desk.ty) : Option (List (List UInt8) × Int) := impl_DeskReport_c.f (a0,())
theorem impl_DeskReport_eq (a0 : T_Desk.ty) : impl_DeskReport a0 =
 (impl_ValidDesk a0).bind fun x1 =>
  if (!x1) then
   some ([],1)
  else
   (impl_DeskReport_1 [115,116,97,99,107,115] (a0.1.length : Int)).bind fun x2 =>
    (impl_DeskReport_1 [114,105,98,115] (a0.2.1.length : Int)).bind fun x3 =>
     (impl_DeskReport_1 [114,111,119,115] (a0.2.2.1.length : Int)).bind fun x4 =>
      (impl_Decimal a0.2.2.2.1).bind fun x5 =>
       if decide ([115,116,111,112,32].length + x5.length ≤ strMax) then
        (impl_DeskReport_1 [112,101,103,115] (a0.2.2.2.2.2.2.2.1.length : Int)).bind fun x6 =>
         (impl_DeskReport_1 [112,111,116,115] (a0.2.2.2.2.2.2.2.2.1.length : Int)).bind fun x7 =>
          (impl_DeskReport_1 [109,111,100,101,115] (a0.2.2.2.2.2.2.2.2.2.1.length : Int)).bind fun x8 =>
           (impl_DeskReport_1 [119,111,114,107,115] (a0.2.2.2.2.2.2.2.2.2.2.1.length : Int)).bind fun x9 =>
            (impl_DeskReport_1 [112,97,112,101,114,115] (a0.2.2.2.2.2.2.2.2.2.2.2.1.length : Int)).bind fun x10 =>
             some ([x2,x3,x4,[115,116,111,112,32] ++ x5,x6,x7,x8,x9,x10],0)
       else
        none :=
 (mk_f _ _ _ _ _ _ _ 4000).trans (by kernel_rfl)
def laws_eqStringS_k0 : C :=
 .seq (.seq (.reg false [.V 11 (.mv (.t 5)),.V 12 (.mv (.t 0)),.V 13 (.len (.t 12)),.V 14 (.bin .lss (.t 11) (.t 13))] [0,1,5,14] []) (.cond (.t 14) .skip (.exit 0))) (.seq (.block 1 (.seq (.reg true [.V 17 (.mv (.t 0)),.V 18 (.mv (.t 5)),.V 19 (.ia 1 (.t 17) (.t 18)),.V 20 (.ld none (.t 19)),.V 21 (.mv (.t 1)),.V 22 (.mv (.t 5)),.V 23 (.ia 1 (.t 21) (.t 22)),.V 24 (.ld none (.t 23)),.V 25 (.bin .neq (.t 20) (.t 24))] [0,1,5,25] []) (.cond (.t 25) (.seq (.reg false [.V 4 (.asg (.c (.bool false)))] [4] []) .ret) .skip))) (.reg false [.V 15 (.mv (.t 5)),.V 16 (.bin .add (.t 15) (.c (.int .i64 1))),.V 5 (.asg (.t 16))] [0,1,5] []))
def laws_eqStringS_k1 : C :=
 .norm [0,1,5] [] laws_eqStringS_k0
def laws_eqStringS_k2 : C :=
 .seq (.reg false [.V 4 (.asg (.c (.bool true)))] [4] []) .ret
def laws_eqStringS_ir : Fn := { np := 2,io := [],res := [.t 4],own := [false],body :=
 (.seq (.reg false [.V 4 (.asg (.c (.bool false)))] [0,1] []) (.seq (.seq (.reg false [.V 6 (.mv (.t 0)),.V 7 (.len (.t 6)),.V 8 (.mv (.t 1)),.V 9 (.len (.t 8)),.V 10 (.bin .neq (.t 7) (.t 9))] [0,1,10] []) (.cond (.t 10) (.seq (.reg false [.V 4 (.asg (.c (.bool false)))] [4] []) .ret) .skip)) (.seq (.seq (.reg false [.V 5 (.asg (.c (.int .i64 0)))] [0,1,5] []) (.block 0 (.loop laws_eqStringS_k1))) laws_eqStringS_k2))) }
noncomputable def laws_eqStringS_D : List (Nat × Callee) := []
def laws_eqStringS_H : List (Nat × ET) := [(6,(.one .str)),(8,(.one .str)),(12,(.one .str)),(17,(.one .str)),(21,(.one .str))]
noncomputable def laws_eqStringS_c : Callee := mkCallee laws_eqStringS_D laws_eqStringS_H laws_eqStringS_ir [.d (.one (.sl (.one .str))),.d (.one (.sl (.one .str)))] [.d (.one .bool)] []
noncomputable def laws_eqStringS (a0 : List (List UInt8)) (a1 : List (List UInt8)) : Option (Bool) := laws_eqStringS_c.f (a0,a1,())
noncomputable def laws_eqStringS_p0  (v0 : List (List UInt8)) (v1 : List (List UInt8)) (v5 : Int) : Option (Bool) :=
 goL laws_eqStringS_D laws_eqStringS_H (vleave laws_eqStringS_ir [.d (.one (.sl (.one .str))),.d (.one (.sl (.one .str)))] [.d (.one .bool)] [] []) [.c laws_eqStringS_k0,.l laws_eqStringS_k1,.e 0,.c laws_eqStringS_k2]
  ⟨[(0,.sl (.one .str) v0),(1,.sl (.one .str) v1),(5,.int .i64 v5)],[]⟩
theorem laws_eqStringS_eq (a0 : List (List UInt8)) (a1 : List (List UInt8)) : laws_eqStringS a0 a1 =
 if ((a0.length : Int) != (a1.length : Int)) then
  some false
 else
  laws_eqStringS_p0 a0 a1 0 :=
 (mk_f _ _ _ _ _ _ _ 4000).trans (by kernel_rfl)
theorem laws_eqStringS_p0_eq  (v0 : List (List UInt8)) (v1 : List (List UInt8)) (v5 : Int) : laws_eqStringS_p0 v0 v1 v5 =
 if decide (v5 < (v0.length : Int)) then
  if decide (0 ≤ v5) then
   (v0[v5.toNat]?).bind fun x1 =>
    if decide (0 ≤ v5) then
     (v1[v5.toNat]?).bind fun x2 =>
      if (!(x1 == x2)) then
       some false
      else
       laws_eqStringS_p0 v0 v1 (IntKind.i64.wrap (v5 + 1))
    else
     none
  else
   none
 else
  some true :=
 (goL_dn _ _ _ 4000 _ _).trans (by kernel_rfl)
def laws_eqStack_ir : Fn := { np := 2,io := [],res := [.t 4],own := [false],body :=
 (.seq (.reg false [.W 2 (.box 4 (.t 0)),.W 3 (.box 4 (.t 1)),.V 4 (.asg (.c (.bool false)))] [2,3] [2,3]) (.seq (.seq (.reg false [.V 5 (.fa 0 (.t 2)),.V 6 (.ld none (.t 5)),.V 7 (.fa 0 (.t 3)),.V 8 (.ld none (.t 7)),.V 9 (.bin .neq (.t 6) (.t 8))] [2,3,9] [2,3]) (.cond (.t 9) (.seq (.reg false [.V 4 (.asg (.c (.bool false)))] [4] []) .ret) .skip)) (.seq (.seq (.reg false [.V 10 (.fa 1 (.t 2)),.V 11 (.ld none (.t 10)),.V 12 (.fa 1 (.t 3)),.V 13 (.ld none (.t 12)),.V 14 (.bin .neq (.t 11) (.t 13))] [2,3,14] [2,3]) (.cond (.t 14) (.seq (.reg false [.V 4 (.asg (.c (.bool false)))] [4] []) .ret) .skip)) (.seq (.seq (.reg false [.V 15 (.fa 2 (.t 2)),.V 16 (.ld none (.t 15)),.V 17 (.fa 2 (.t 3)),.V 18 (.ld none (.t 17)),.V 19 (.bin .neq (.t 16) (.t 18))] [2,3,19] [2,3]) (.cond (.t 19) (.seq (.reg false [.V 4 (.asg (.c (.bool false)))] [4] []) .ret) .skip)) (.seq (.seq (.reg false [.V 20 (.fa 3 (.t 2)),.V 21 (.ld none (.t 20)),.V 22 (.fa 3 (.t 3)),.V 23 (.ld none (.t 22)),.V 24 (.bin .neq (.t 21) (.t 23))] [24] []) (.cond (.t 24) (.seq (.reg false [.V 4 (.asg (.c (.bool false)))] [4] []) .ret) .skip)) (.seq (.reg false [.V 4 (.asg (.c (.bool true)))] [4] []) .ret)))))) }
noncomputable def laws_eqStack_D : List (Nat × Callee) := []
def laws_eqStack_H : List (Nat × ET) := []
noncomputable def laws_eqStack_c : Callee := mkCallee laws_eqStack_D laws_eqStack_H laws_eqStack_ir [.d T_Peg,.d T_Peg] [.d (.one .bool)] []
noncomputable def laws_eqStack (a0 : T_Peg.ty) (a1 : T_Peg.ty) : Option (Bool) := laws_eqStack_c.f (a0,a1,())
theorem laws_eqStack_eq (a0 : T_Peg.ty) (a1 : T_Peg.ty) : laws_eqStack a0 a1 =
 if (!(a0.1 == a1.1)) then
  some false
 else
  if (a0.2.1 != a1.2.1) then
   some false
  else
   if (a0.2.2.1 != a1.2.2.1) then
    some false
   else
    if (a0.2.2.2.1 != a1.2.2.2.1) then
     some false
    else
     some true :=
 (mk_f _ _ _ _ _ _ _ 4000).trans (by kernel_rfl)
def laws_eqStackS_k0 : C :=
 .seq (.seq (.reg false [.V 11 (.mv (.t 5)),.V 12 (.mv (.t 0)),.V 13 (.len (.t 12)),.V 14 (.bin .lss (.t 11) (.t 13))] [0,1,5,14] []) (.cond (.t 14) .skip (.exit 0))) (.seq (.block 1 (.seq (.reg true [.V 17 (.mv (.t 0)),.V 18 (.mv (.t 5)),.V 19 (.ia 4 (.t 17) (.t 18)),.V 20 (.ld (some 4) (.t 19)),.V 21 (.mv (.t 1)),.V 22 (.mv (.t 5)),.V 23 (.ia 4 (.t 21) (.t 22)),.V 24 (.ld (some 4) (.t 23)),.V 25 (.call (.c (.fn 881 [])) [.t 20,.t 24]),.V 26 (.un .not (.t 25))] [0,1,5,26] []) (.cond (.t 26) (.seq (.reg false [.V 4 (.asg (.c (.bool false)))] [4] []) .ret) .skip))) (.reg false [.V 15 (.mv (.t 5)),.V 16 (.bin .add (.t 15) (.c (.int .i64 1))),.V 5 (.asg (.t 16))] [0,1,5] []))
def laws_eqStackS_k1 : C :=
 .norm [0,1,5] [] laws_eqStackS_k0
def laws_eqStackS_k2 : C :=
 .seq (.reg false [.V 4 (.asg (.c (.bool true)))] [4] []) .ret
def laws_eqStackS_ir : Fn := { np := 2,io := [],res := [.t 4],own := [false],body :=
 (.seq (.reg false [.V 4 (.asg (.c (.bool false)))] [0,1] []) (.seq (.seq (.reg false [.V 6 (.mv (.t 0)),.V 7 (.len (.t 6)),.V 8 (.mv (.t 1)),.V 9 (.len (.t 8)),.V 10 (.bin .neq (.t 7) (.t 9))] [0,1,10] []) (.cond (.t 10) (.seq (.reg false [.V 4 (.asg (.c (.bool false)))] [4] []) .ret) .skip)) (.seq (.seq (.reg false [.V 5 (.asg (.c (.int .i64 0)))] [0,1,5] []) (.block 0 (.loop laws_eqStackS_k1))) laws_eqStackS_k2))) }
noncomputable def laws_eqStackS_D : List (Nat × Callee) := [(881,laws_eqStack_c)]
def laws_eqStackS_H : List (Nat × ET) := [(6,T_Peg),(8,T_Peg),(12,T_Peg),(17,T_Peg),(21,T_Peg)]
noncomputable def laws_eqStackS_c : Callee := mkCallee laws_eqStackS_D laws_eqStackS_H laws_eqStackS_ir [.d (.one (.sl T_Peg)),.d (.one (.sl T_Peg))] [.d (.one .bool)] []
noncomputable def laws_eqStackS (a0 : List T_Peg.ty) (a1 : List T_Peg.ty) : Option (Bool) := laws_eqStackS_c.f (a0,a1,())
noncomputable def laws_eqStackS_p0  (v0 : List T_Peg.ty) (v1 : List T_Peg.ty) (v5 : Int) : Option (Bool) :=
 goL laws_eqStackS_D laws_eqStackS_H (vleave laws_eqStackS_ir [.d (.one (.sl T_Peg)),.d (.one (.sl T_Peg))] [.d (.one .bool)] [] []) [.c laws_eqStackS_k0,.l laws_eqStackS_k1,.e 0,.c laws_eqStackS_k2]
  ⟨[(0,.sl T_Peg v0),(1,.sl T_Peg v1),(5,.int .i64 v5)],[]⟩
theorem laws_eqStackS_eq (a0 : List T_Peg.ty) (a1 : List T_Peg.ty) : laws_eqStackS a0 a1 =
 if ((a0.length : Int) != (a1.length : Int)) then
  some false
 else
  laws_eqStackS_p0 a0 a1 0 :=
 (mk_f _ _ _ _ _ _ _ 4000).trans (by kernel_rfl)
theorem laws_eqStackS_p0_eq  (v0 : List T_Peg.ty) (v1 : List T_Peg.ty) (v5 : Int) : laws_eqStackS_p0 v0 v1 v5 =
 if decide (v5 < (v0.length : Int)) then
  if decide (0 ≤ v5) then
   (v0[v5.toNat]?).bind fun x1 =>
    if decide (0 ≤ v5) then
     (v1[v5.toNat]?).bind fun x2 =>
      (laws_eqStack x1 x2).bind fun x3 =>
       if (!x3) then
        some false
       else
        laws_eqStackS_p0 v0 v1 (IntKind.i64.wrap (v5 + 1))
    else
     none
  else
   none
 else
  some true :=
 (goL_dn _ _ _ 4000 _ _).trans (by kernel_rfl)
def laws_eqRib_ir : Fn := { np := 2,io := [],res := [.t 4],own := [false],body :=
 (.seq (.reg false [.W 2 (.box 3 (.t 0)),.W 3 (.box 3 (.t 1)),.V 4 (.asg (.c (.bool false)))] [2,3] [2,3]) (.seq (.seq (.reg false [.V 5 (.fa 0 (.t 2)),.V 6 (.ld none (.t 5)),.V 7 (.fa 0 (.t 3)),.V 8 (.ld none (.t 7)),.V 9 (.bin .neq (.t 6) (.t 8))] [2,3,9] [2,3]) (.cond (.t 9) (.seq (.reg false [.V 4 (.asg (.c (.bool false)))] [4] []) .ret) .skip)) (.seq (.seq (.reg false [.V 10 (.fa 1 (.t 2)),.V 11 (.ld none (.t 10)),.V 12 (.fa 1 (.t 3)),.V 13 (.ld none (.t 12)),.V 14 (.bin .neq (.t 11) (.t 13))] [2,3,14] [2,3]) (.cond (.t 14) (.seq (.reg false [.V 4 (.asg (.c (.bool false)))] [4] []) .ret) .skip)) (.seq (.seq (.reg false [.V 15 (.fa 2 (.t 2)),.V 16 (.ld none (.t 15)),.V 17 (.fa 2 (.t 3)),.V 18 (.ld none (.t 17)),.V 19 (.bin .neq (.t 16) (.t 18))] [19] []) (.cond (.t 19) (.seq (.reg false [.V 4 (.asg (.c (.bool false)))] [4] []) .ret) .skip)) (.seq (.reg false [.V 4 (.asg (.c (.bool true)))] [4] []) .ret))))) }
noncomputable def laws_eqRib_D : List (Nat × Callee) := []
def laws_eqRib_H : List (Nat × ET) := []
noncomputable def laws_eqRib_c : Callee := mkCallee laws_eqRib_D laws_eqRib_H laws_eqRib_ir [.d T_Mode,.d T_Mode] [.d (.one .bool)] []
noncomputable def laws_eqRib (a0 : T_Mode.ty) (a1 : T_Mode.ty) : Option (Bool) := laws_eqRib_c.f (a0,a1,())
theorem laws_eqRib_eq (a0 : T_Mode.ty) (a1 : T_Mode.ty) : laws_eqRib a0 a1 =
 if (!(a0.1 == a1.1)) then
  some false
 else
  if (a0.2.1 != a1.2.1) then
   some false
  else
   if (a0.2.2.1 != a1.2.2.1) then
    some false
   else
    some true :=
 (mk_f _ _ _ _ _ _ _ 4000).trans (by kernel_rfl)
def laws_eqRibS_k0 : C :=
 .seq (.seq (.reg false [.V 11 (.mv (.t 5)),.V 12 (.mv (.t 0)),.V 13 (.len (.t 12)),.V 14 (.bin .lss (.t 11) (.t 13))] [0,1,5,14] []) (.cond (.t 14) .skip (.exit 0))) (.seq (.block 1 (.seq (.reg true [.V 17 (.mv (.t 0)),.V 18 (.mv (.t 5)),.V 19 (.ia 3 (.t 17) (.t 18)),.V 20 (.ld (some 3) (.t 19)),.V 21 (.mv (.t 1)),.V 22 (.mv (.t 5)),.V 23 (.ia 3 (.t 21) (.t 22)),.V 24 (.ld (some 3) (.t 23)),.V 25 (.call (.c (.fn 882 [])) [.t 20,.t 24]),.V 26 (.un .not (.t 25))] [0,1,5,26] []) (.cond (.t 26) (.seq (.reg false [.V 4 (.asg (.c (.bool false)))] [4] []) .ret) .skip))) (.reg false [.V 15 (.mv (.t 5)),.V 16 (.bin .add (.t 15) (.c (.int .i64 1))),.V 5 (.asg (.t 16))] [0,1,5] []))
def laws_eqRibS_k1 : C :=
 .norm [0,1,5] [] laws_eqRibS_k0
def laws_eqRibS_k2 : C :=
 .seq (.reg false [.V 4 (.asg (.c (.bool true)))] [4] []) .ret
def laws_eqRibS_ir : Fn := { np := 2,io := [],res := [.t 4],own := [false],body :=
 (.seq (.reg false [.V 4 (.asg (.c (.bool false)))] [0,1] []) (.seq (.seq (.reg false [.V 6 (.mv (.t 0)),.V 7 (.len (.t 6)),.V 8 (.mv (.t 1)),.V 9 (.len (.t 8)),.V 10 (.bin .neq (.t 7) (.t 9))] [0,1,10] []) (.cond (.t 10) (.seq (.reg false [.V 4 (.asg (.c (.bool false)))] [4] []) .ret) .skip)) (.seq (.seq (.reg false [.V 5 (.asg (.c (.int .i64 0)))] [0,1,5] []) (.block 0 (.loop laws_eqRibS_k1))) laws_eqRibS_k2))) }
noncomputable def laws_eqRibS_D : List (Nat × Callee) := [(882,laws_eqRib_c)]
def laws_eqRibS_H : List (Nat × ET) := [(6,T_Mode),(8,T_Mode),(12,T_Mode),(17,T_Mode),(21,T_Mode)]
noncomputable def laws_eqRibS_c : Callee := mkCallee laws_eqRibS_D laws_eqRibS_H laws_eqRibS_ir [.d (.one (.sl T_Mode)),.d (.one (.sl T_Mode))] [.d (.one .bool)] []
noncomputable def laws_eqRibS (a0 : List T_Mode.ty) (a1 : List T_Mode.ty) : Option (Bool) := laws_eqRibS_c.f (a0,a1,())
noncomputable def laws_eqRibS_p0  (v0 : List T_Mode.ty) (v1 : List T_Mode.ty) (v5 : Int) : Option (Bool) :=
 goL laws_eqRibS_D laws_eqRibS_H (vleave laws_eqRibS_ir [.d (.one (.sl T_Mode)),.d (.one (.sl T_Mode))] [.d (.one .bool)] [] []) [.c laws_eqRibS_k0,.l laws_eqRibS_k1,.e 0,.c laws_eqRibS_k2]
  ⟨[(0,.sl T_Mode v0),(1,.sl T_Mode v1),(5,.int .i64 v5)],[]⟩
theorem laws_eqRibS_eq (a0 : List T_Mode.ty) (a1 : List T_Mode.ty) : laws_eqRibS a0 a1 =
 if ((a0.length : Int) != (a1.length : Int)) then
  some false
 else
  laws_eqRibS_p0 a0 a1 0 :=
 (mk_f _ _ _ _ _ _ _ 4000).trans (by kernel_rfl)
theorem laws_eqRibS_p0_eq  (v0 : List T_Mode.ty) (v1 : List T_Mode.ty) (v5 : Int) : laws_eqRibS_p0 v0 v1 v5 =
 if decide (v5 < (v0.length : Int)) then
  if decide (0 ≤ v5) then
   (v0[v5.toNat]?).bind fun x1 =>
    if decide (0 ≤ v5) then
     (v1[v5.toNat]?).bind fun x2 =>
      (laws_eqRib x1 x2).bind fun x3 =>
       if (!x3) then
        some false
       else
        laws_eqRibS_p0 v0 v1 (IntKind.i64.wrap (v5 + 1))
    else
     none
  else
   none
 else
  some true :=
 (goL_dn _ _ _ 4000 _ _).trans (by kernel_rfl)
def laws_eqInt64S_k0 : C :=
 .seq (.seq (.reg false [.V 11 (.mv (.t 5)),.V 12 (.mv (.t 0)),.V 13 (.len (.t 12)),.V 14 (.bin .lss (.t 11) (.t 13))] [0,1,5,14] []) (.cond (.t 14) .skip (.exit 0))) (.seq (.block 1 (.seq (.reg true [.V 17 (.mv (.t 0)),.V 18 (.mv (.t 5)),.V 19 (.ia 1 (.t 17) (.t 18)),.V 20 (.ld none (.t 19)),.V 21 (.mv (.t 1)),.V 22 (.mv (.t 5)),.V 23 (.ia 1 (.t 21) (.t 22)),.V 24 (.ld none (.t 23)),.V 25 (.bin .neq (.t 20) (.t 24))] [0,1,5,25] []) (.cond (.t 25) (.seq (.reg false [.V 4 (.asg (.c (.bool false)))] [4] []) .ret) .skip))) (.reg false [.V 15 (.mv (.t 5)),.V 16 (.bin .add (.t 15) (.c (.int .i64 1))),.V 5 (.asg (.t 16))] [0,1,5] []))
def laws_eqInt64S_k1 : C :=
 .norm [0,1,5] [] laws_eqInt64S_k0
def laws_eqInt64S_k2 : C :=
 .seq (.reg false [.V 4 (.asg (.c (.bool true)))] [4] []) .ret
def laws_eqInt64S_ir : Fn := { np := 2,io := [],res := [.t 4],own := [false],body :=
 (.seq (.reg false [.V 4 (.asg (.c (.bool false)))] [0,1] []) (.seq (.seq (.reg false [.V 6 (.mv (.t 0)),.V 7 (.len (.t 6)),.V 8 (.mv (.t 1)),.V 9 (.len (.t 8)),.V 10 (.bin .neq (.t 7) (.t 9))] [0,1,10] []) (.cond (.t 10) (.seq (.reg false [.V 4 (.asg (.c (.bool false)))] [4] []) .ret) .skip)) (.seq (.seq (.reg false [.V 5 (.asg (.c (.int .i64 0)))] [0,1,5] []) (.block 0 (.loop laws_eqInt64S_k1))) laws_eqInt64S_k2))) }
noncomputable def laws_eqInt64S_D : List (Nat × Callee) := []
def laws_eqInt64S_H : List (Nat × ET) := [(6,(.one (.int .i64))),(8,(.one (.int .i64))),(12,(.one (.int .i64))),(17,(.one (.int .i64))),(21,(.one (.int .i64)))]
noncomputable def laws_eqInt64S_c : Callee := mkCallee laws_eqInt64S_D laws_eqInt64S_H laws_eqInt64S_ir [.d (.one (.sl (.one (.int .i64)))),.d (.one (.sl (.one (.int .i64))))] [.d (.one .bool)] []
noncomputable def laws_eqInt64S (a0 : List Int) (a1 : List Int) : Option (Bool) := laws_eqInt64S_c.f (a0,a1,())
noncomputable def laws_eqInt64S_p0  (v0 : List Int) (v1 : List Int) (v5 : Int) : Option (Bool) :=
 goL laws_eqInt64S_D laws_eqInt64S_H (vleave laws_eqInt64S_ir [.d (.one (.sl (.one (.int .i64)))),.d (.one (.sl (.one (.int .i64))))] [.d (.one .bool)] [] []) [.c laws_eqInt64S_k0,.l laws_eqInt64S_k1,.e 0,.c laws_eqInt64S_k2]
  ⟨[(0,.sl (.one (.int .i64)) v0),(1,.sl (.one (.int .i64)) v1),(5,.int .i64 v5)],[]⟩
theorem laws_eqInt64S_eq (a0 : List Int) (a1 : List Int) : laws_eqInt64S a0 a1 =
 if ((a0.length : Int) != (a1.length : Int)) then
  some false
 else
  laws_eqInt64S_p0 a0 a1 0 :=
 (mk_f _ _ _ _ _ _ _ 4000).trans (by kernel_rfl)
theorem laws_eqInt64S_p0_eq  (v0 : List Int) (v1 : List Int) (v5 : Int) : laws_eqInt64S_p0 v0 v1 v5 =
 if decide (v5 < (v0.length : Int)) then
  if decide (0 ≤ v5) then
   (v0[v5.toNat]?).bind fun x1 =>
    if decide (0 ≤ v5) then
     (v1[v5.toNat]?).bind fun x2 =>
      if (x1 != x2) then
       some false
      else
       laws_eqInt64S_p0 v0 v1 (IntKind.i64.wrap (v5 + 1))
    else
     none
  else
   none
 else
  some true :=
 (goL_dn _ _ _ 4000 _ _).trans (by kernel_rfl)
def laws_eqInt64SS_k0 : C :=
 .seq (.seq (.reg false [.V 11 (.mv (.t 5)),.V 12 (.mv (.t 0)),.V 13 (.len (.t 12)),.V 14 (.bin .lss (.t 11) (.t 13))] [0,1,5,14] []) (.cond (.t 14) .skip (.exit 0))) (.seq (.block 1 (.seq (.reg true [.V 17 (.mv (.t 0)),.V 18 (.mv (.t 5)),.V 19 (.ia 1 (.t 17) (.t 18)),.V 20 (.ld none (.t 19)),.V 21 (.mv (.t 1)),.V 22 (.mv (.t 5)),.V 23 (.ia 1 (.t 21) (.t 22)),.V 24 (.ld none (.t 23)),.V 25 (.call (.c (.fn 42 [])) [.t 20,.t 24]),.V 26 (.un .not (.t 25))] [0,1,5,26] []) (.cond (.t 26) (.seq (.reg false [.V 4 (.asg (.c (.bool false)))] [4] []) .ret) .skip))) (.reg false [.V 15 (.mv (.t 5)),.V 16 (.bin .add (.t 15) (.c (.int .i64 1))),.V 5 (.asg (.t 16))] [0,1,5] []))
def laws_eqInt64SS_k1 : C :=
 .norm [0,1,5] [] laws_eqInt64SS_k0
def laws_eqInt64SS_k2 : C :=
 .seq (.reg false [.V 4 (.asg (.c (.bool true)))] [4] []) .ret
def laws_eqInt64SS_ir : Fn := { np := 2,io := [],res := [.t 4],own := [false],body :=
 (.seq (.reg false [.V 4 (.asg (.c (.bool false)))] [0,1] []) (.seq (.seq (.reg false [.V 6 (.mv (.t 0)),.V 7 (.len (.t 6)),.V 8 (.mv (.t 1)),.V 9 (.len (.t 8)),.V 10 (.bin .neq (.t 7) (.t 9))] [0,1,10] []) (.cond (.t 10) (.seq (.reg false [.V 4 (.asg (.c (.bool false)))] [4] []) .ret) .skip)) (.seq (.seq (.reg false [.V 5 (.asg (.c (.int .i64 0)))] [0,1,5] []) (.block 0 (.loop laws_eqInt64SS_k1))) laws_eqInt64SS_k2))) }
noncomputable def laws_eqInt64SS_D : List (Nat × Callee) := [(42,laws_eqInt64S_c)]
def laws_eqInt64SS_H : List (Nat × ET) := [(6,(.one (.sl (.one (.int .i64))))),(8,(.one (.sl (.one (.int .i64))))),(12,(.one (.sl (.one (.int .i64))))),(17,(.one (.sl (.one (.int .i64))))),(20,(.one (.int .i64))),(21,(.one (.sl (.one (.int .i64))))),(24,(.one (.int .i64)))]
noncomputable def laws_eqInt64SS_c : Callee := mkCallee laws_eqInt64SS_D laws_eqInt64SS_H laws_eqInt64SS_ir [.d (.one (.sl (.one (.sl (.one (.int .i64)))))),.d (.one (.sl (.one (.sl (.one (.int .i64))))))] [.d (.one .bool)] []
noncomputable def laws_eqInt64SS (a0 : List (List Int)) (a1 : List (List Int)) : Option (Bool) := laws_eqInt64SS_c.f (a0,a1,())
noncomputable def laws_eqInt64SS_p0  (v0 : List (List Int)) (v1 : List (List Int)) (v5 : Int) : Option (Bool) :=
 goL laws_eqInt64SS_D laws_eqInt64SS_H (vleave laws_eqInt64SS_ir [.d (.one (.sl (.one (.sl (.one (.int .i64)))))),.d (.one (.sl (.one (.sl (.one (.int .i64))))))] [.d (.one .bool)] [] []) [.c laws_eqInt64SS_k0,.l laws_eqInt64SS_k1,.e 0,.c laws_eqInt64SS_k2]
  ⟨[(0,.sl (.one (.sl (.one (.int .i64)))) v0),(1,.sl (.one (.sl (.one (.int .i64)))) v1),(5,.int .i64 v5)],[]⟩
theorem laws_eqInt64SS_eq (a0 : List (List Int)) (a1 : List (List Int)) : laws_eqInt64SS a0 a1 =
 if ((a0.length : Int) != (a1.length : Int)) then
  some false
 else
  laws_eqInt64SS_p0 a0 a1 0 :=
 (mk_f _ _ _ _ _ _ _ 4000).trans (by kernel_rfl)
theorem laws_eqInt64SS_p0_eq  (v0 : List (List Int)) (v1 : List (List Int)) (v5 : Int) : laws_eqInt64SS_p0 v0 v1 v5 =
 if decide (v5 < (v0.length : Int)) then
  if decide (0 ≤ v5) then
   (v0[v5.toNat]?).bind fun x1 =>
    if decide (0 ≤ v5) then
     (v1[v5.toNat]?).bind fun x2 =>
      (laws_eqInt64S x1 x2).bind fun x3 =>
       if (!x3) then
        some false
       else
        laws_eqInt64SS_p0 v0 v1 (IntKind.i64.wrap (v5 + 1))
    else
     none
  else
   none
 else
  some true :=
 (goL_dn _ _ _ 4000 _ _).trans (by kernel_rfl)
def laws_eqNeck_ir : Fn := { np := 2,io := [],res := [.t 4],own := [false],body :=
 (.seq (.reg false [.W 2 (.box 4 (.t 0)),.W 3 (.box 4 (.t 1)),.V 4 (.asg (.c (.bool false)))] [2,3] [2,3]) (.seq (.seq (.reg false [.V 5 (.fa 0 (.t 2)),.V 6 (.ld none (.t 5)),.V 7 (.fa 0 (.t 3)),.V 8 (.ld none (.t 7)),.V 9 (.bin .neq (.t 6) (.t 8))] [2,3,9] [2,3]) (.cond (.t 9) (.seq (.reg false [.V 4 (.asg (.c (.bool false)))] [4] []) .ret) .skip)) (.seq (.seq (.reg false [.V 10 (.fa 1 (.t 2)),.V 11 (.ld none (.t 10)),.V 12 (.fa 1 (.t 3)),.V 13 (.ld none (.t 12)),.V 14 (.bin .neq (.t 11) (.t 13))] [2,3,14] [2,3]) (.cond (.t 14) (.seq (.reg false [.V 4 (.asg (.c (.bool false)))] [4] []) .ret) .skip)) (.seq (.seq (.reg false [.V 15 (.fa 2 (.t 2)),.V 16 (.ld none (.t 15)),.V 17 (.fa 2 (.t 3)),.V 18 (.ld none (.t 17)),.V 19 (.bin .neq (.t 16) (.t 18))] [2,3,19] [2,3]) (.cond (.t 19) (.seq (.reg false [.V 4 (.asg (.c (.bool false)))] [4] []) .ret) .skip)) (.seq (.seq (.reg false [.V 20 (.fa 3 (.t 2)),.V 21 (.ld none (.t 20)),.V 22 (.fa 3 (.t 3)),.V 23 (.ld none (.t 22)),.V 24 (.bin .neq (.t 21) (.t 23))] [24] []) (.cond (.t 24) (.seq (.reg false [.V 4 (.asg (.c (.bool false)))] [4] []) .ret) .skip)) (.seq (.reg false [.V 4 (.asg (.c (.bool true)))] [4] []) .ret)))))) }
noncomputable def laws_eqNeck_D : List (Nat × Callee) := []
def laws_eqNeck_H : List (Nat × ET) := []
noncomputable def laws_eqNeck_c : Callee := mkCallee laws_eqNeck_D laws_eqNeck_H laws_eqNeck_ir [.d T_Neck,.d T_Neck] [.d (.one .bool)] []
noncomputable def laws_eqNeck (a0 : T_Neck.ty) (a1 : T_Neck.ty) : Option (Bool) := laws_eqNeck_c.f (a0,a1,())
theorem laws_eqNeck_eq (a0 : T_Neck.ty) (a1 : T_Neck.ty) : laws_eqNeck a0 a1 =
 if (a0.1 != a1.1) then
  some false
 else
  if (a0.2.1 != a1.2.1) then
   some false
  else
   if (a0.2.2.1 != a1.2.2.1) then
    some false
   else
    if (a0.2.2.2.1 != a1.2.2.2.1) then
     some false
    else
     some true :=
 (mk_f _ _ _ _ _ _ _ 4000).trans (by kernel_rfl)
def laws_eqPeg_ir : Fn := { np := 2,io := [],res := [.t 4],own := [false],body :=
 (.seq (.reg false [.W 2 (.box 4 (.t 0)),.W 3 (.box 4 (.t 1)),.V 4 (.asg (.c (.bool false)))] [2,3] [2,3]) (.seq (.seq (.reg false [.V 5 (.fa 0 (.t 2)),.V 6 (.ld none (.t 5)),.V 7 (.fa 0 (.t 3)),.V 8 (.ld none (.t 7)),.V 9 (.bin .neq (.t 6) (.t 8))] [2,3,9] [2,3]) (.cond (.t 9) (.seq (.reg false [.V 4 (.asg (.c (.bool false)))] [4] []) .ret) .skip)) (.seq (.seq (.reg false [.V 10 (.fa 1 (.t 2)),.V 11 (.ld none (.t 10)),.V 12 (.fa 1 (.t 3)),.V 13 (.ld none (.t 12)),.V 14 (.bin .neq (.t 11) (.t 13))] [2,3,14] [2,3]) (.cond (.t 14) (.seq (.reg false [.V 4 (.asg (.c (.bool false)))] [4] []) .ret) .skip)) (.seq (.seq (.reg false [.V 15 (.fa 2 (.t 2)),.V 16 (.ld none (.t 15)),.V 17 (.fa 2 (.t 3)),.V 18 (.ld none (.t 17)),.V 19 (.bin .neq (.t 16) (.t 18))] [2,3,19] [2,3]) (.cond (.t 19) (.seq (.reg false [.V 4 (.asg (.c (.bool false)))] [4] []) .ret) .skip)) (.seq (.seq (.reg false [.V 20 (.fa 3 (.t 2)),.V 21 (.ld none (.t 20)),.V 22 (.fa 3 (.t 3)),.V 23 (.ld none (.t 22)),.V 24 (.bin .neq (.t 21) (.t 23))] [24] []) (.cond (.t 24) (.seq (.reg false [.V 4 (.asg (.c (.bool false)))] [4] []) .ret) .skip)) (.seq (.reg false [.V 4 (.asg (.c (.bool true)))] [4] []) .ret)))))) }
noncomputable def laws_eqPeg_D : List (Nat × Callee) := []
def laws_eqPeg_H : List (Nat × ET) := []
noncomputable def laws_eqPeg_c : Callee := mkCallee laws_eqPeg_D laws_eqPeg_H laws_eqPeg_ir [.d T_Peg,.d T_Peg] [.d (.one .bool)] []
noncomputable def laws_eqPeg (a0 : T_Peg.ty) (a1 : T_Peg.ty) : Option (Bool) := laws_eqPeg_c.f (a0,a1,())
theorem laws_eqPeg_eq (a0 : T_Peg.ty) (a1 : T_Peg.ty) : laws_eqPeg a0 a1 =
 if (!(a0.1 == a1.1)) then
  some false
 else
  if (a0.2.1 != a1.2.1) then
   some false
  else
   if (a0.2.2.1 != a1.2.2.1) then
    some false
   else
    if (a0.2.2.2.1 != a1.2.2.2.1) then
     some false
    else
     some true :=
 (mk_f _ _ _ _ _ _ _ 4000).trans (by kernel_rfl)
def laws_eqPegS_k0 : C :=
 .seq (.seq (.reg false [.V 11 (.mv (.t 5)),.V 12 (.mv (.t 0)),.V 13 (.len (.t 12)),.V 14 (.bin .lss (.t 11) (.t 13))] [0,1,5,14] []) (.cond (.t 14) .skip (.exit 0))) (.seq (.block 1 (.seq (.reg true [.V 17 (.mv (.t 0)),.V 18 (.mv (.t 5)),.V 19 (.ia 4 (.t 17) (.t 18)),.V 20 (.ld (some 4) (.t 19)),.V 21 (.mv (.t 1)),.V 22 (.mv (.t 5)),.V 23 (.ia 4 (.t 21) (.t 22)),.V 24 (.ld (some 4) (.t 23)),.V 25 (.call (.c (.fn 502 [])) [.t 20,.t 24]),.V 26 (.un .not (.t 25))] [0,1,5,26] []) (.cond (.t 26) (.seq (.reg false [.V 4 (.asg (.c (.bool false)))] [4] []) .ret) .skip))) (.reg false [.V 15 (.mv (.t 5)),.V 16 (.bin .add (.t 15) (.c (.int .i64 1))),.V 5 (.asg (.t 16))] [0,1,5] []))
def laws_eqPegS_k1 : C :=
 .norm [0,1,5] [] laws_eqPegS_k0
def laws_eqPegS_k2 : C :=
 .seq (.reg false [.V 4 (.asg (.c (.bool true)))] [4] []) .ret
def laws_eqPegS_ir : Fn := { np := 2,io := [],res := [.t 4],own := [false],body :=
 (.seq (.reg false [.V 4 (.asg (.c (.bool false)))] [0,1] []) (.seq (.seq (.reg false [.V 6 (.mv (.t 0)),.V 7 (.len (.t 6)),.V 8 (.mv (.t 1)),.V 9 (.len (.t 8)),.V 10 (.bin .neq (.t 7) (.t 9))] [0,1,10] []) (.cond (.t 10) (.seq (.reg false [.V 4 (.asg (.c (.bool false)))] [4] []) .ret) .skip)) (.seq (.seq (.reg false [.V 5 (.asg (.c (.int .i64 0)))] [0,1,5] []) (.block 0 (.loop laws_eqPegS_k1))) laws_eqPegS_k2))) }
noncomputable def laws_eqPegS_D : List (Nat × Callee) := [(502,laws_eqPeg_c)]
def laws_eqPegS_H : List (Nat × ET) := [(6,T_Peg),(8,T_Peg),(12,T_Peg),(17,T_Peg),(21,T_Peg)]
noncomputable def laws_eqPegS_c : Callee := mkCallee laws_eqPegS_D laws_eqPegS_H laws_eqPegS_ir [.d (.one (.sl T_Peg)),.d (.one (.sl T_Peg))] [.d (.one .bool)] []
noncomputable def laws_eqPegS (a0 : List T_Peg.ty) (a1 : List T_Peg.ty) : Option (Bool) := laws_eqPegS_c.f (a0,a1,())
noncomputable def laws_eqPegS_p0  (v0 : List T_Peg.ty) (v1 : List T_Peg.ty) (v5 : Int) : Option (Bool) :=
 goL laws_eqPegS_D laws_eqPegS_H (vleave laws_eqPegS_ir [.d (.one (.sl T_Peg)),.d (.one (.sl T_Peg))] [.d (.one .bool)] [] []) [.c laws_eqPegS_k0,.l laws_eqPegS_k1,.e 0,.c laws_eqPegS_k2]
  ⟨[(0,.sl T_Peg v0),(1,.sl T_Peg v1),(5,.int .i64 v5)],[]⟩
theorem laws_eqPegS_eq (a0 : List T_Peg.ty) (a1 : List T_Peg.ty) : laws_eqPegS a0 a1 =
 if ((a0.length : Int) != (a1.length : Int)) then
  some false
 else
  laws_eqPegS_p0 a0 a1 0 :=
 (mk_f _ _ _ _ _ _ _ 4000).trans (by kernel_rfl)
theorem laws_eqPegS_p0_eq  (v0 : List T_Peg.ty) (v1 : List T_Peg.ty) (v5 : Int) : laws_eqPegS_p0 v0 v1 v5 =
 if decide (v5 < (v0.length : Int)) then
  if decide (0 ≤ v5) then
   (v0[v5.toNat]?).bind fun x1 =>
    if decide (0 ≤ v5) then
     (v1[v5.toNat]?).bind fun x2 =>
      (laws_eqPeg x1 x2).bind fun x3 =>
       if (!x3) then
        some false
       else
        laws_eqPegS_p0 v0 v1 (IntKind.i64.wrap (v5 + 1))
    else
     none
  else
   none
 else
  some true :=
 (goL_dn _ _ _ 4000 _ _).trans (by kernel_rfl)
def laws_eqPot_ir : Fn := { np := 2,io := [],res := [.t 4],own := [false],body :=
 (.seq (.reg false [.W 2 (.box 5 (.t 0)),.W 3 (.box 5 (.t 1)),.V 4 (.asg (.c (.bool false)))] [2,3] [2,3]) (.seq (.seq (.reg false [.V 5 (.fa 0 (.t 2)),.V 6 (.ld none (.t 5)),.V 7 (.fa 0 (.t 3)),.V 8 (.ld none (.t 7)),.V 9 (.bin .neq (.t 6) (.t 8))] [2,3,9] [2,3]) (.cond (.t 9) (.seq (.reg false [.V 4 (.asg (.c (.bool false)))] [4] []) .ret) .skip)) (.seq (.seq (.reg false [.V 10 (.fa 1 (.t 2)),.V 11 (.ld none (.t 10)),.V 12 (.fa 1 (.t 3)),.V 13 (.ld none (.t 12)),.V 14 (.bin .neq (.t 11) (.t 13))] [2,3,14] [2,3]) (.cond (.t 14) (.seq (.reg false [.V 4 (.asg (.c (.bool false)))] [4] []) .ret) .skip)) (.seq (.seq (.reg false [.V 15 (.fa 2 (.t 2)),.V 16 (.ld none (.t 15)),.V 17 (.fa 2 (.t 3)),.V 18 (.ld none (.t 17)),.V 19 (.bin .neq (.t 16) (.t 18))] [2,3,19] [2,3]) (.cond (.t 19) (.seq (.reg false [.V 4 (.asg (.c (.bool false)))] [4] []) .ret) .skip)) (.seq (.seq (.reg false [.V 20 (.fa 3 (.t 2)),.V 21 (.ld none (.t 20)),.V 22 (.fa 3 (.t 3)),.V 23 (.ld none (.t 22)),.V 24 (.bin .neq (.t 21) (.t 23))] [2,3,24] [2,3]) (.cond (.t 24) (.seq (.reg false [.V 4 (.asg (.c (.bool false)))] [4] []) .ret) .skip)) (.seq (.seq (.reg false [.V 25 (.fa 4 (.t 2)),.V 26 (.ld none (.t 25)),.V 27 (.fa 4 (.t 3)),.V 28 (.ld none (.t 27)),.V 29 (.bin .neq (.t 26) (.t 28))] [29] []) (.cond (.t 29) (.seq (.reg false [.V 4 (.asg (.c (.bool false)))] [4] []) .ret) .skip)) (.seq (.reg false [.V 4 (.asg (.c (.bool true)))] [4] []) .ret))))))) }
noncomputable def laws_eqPot_D : List (Nat × Callee) := []
def laws_eqPot_H : List (Nat × ET) := []
noncomputable def laws_eqPot_c : Callee := mkCallee laws_eqPot_D laws_eqPot_H laws_eqPot_ir [.d T_Pot,.d T_Pot] [.d (.one .bool)] []
noncomputable def laws_eqPot (a0 : T_Pot.ty) (a1 : T_Pot.ty) : Option (Bool) := laws_eqPot_c.f (a0,a1,())
theorem laws_eqPot_eq (a0 : T_Pot.ty) (a1 : T_Pot.ty) : laws_eqPot a0 a1 =
 if (!(a0.1 == a1.1)) then
  some false
 else
  if (a0.2.1 != a1.2.1) then
   some false
  else
   if (a0.2.2.1 != a1.2.2.1) then
    some false
   else
    if (a0.2.2.2.1 != a1.2.2.2.1) then
     some false
    else
     if (a0.2.2.2.2.1 != a1.2.2.2.2.1) then
      some false
     else
      some true :=
 (mk_f _ _ _ _ _ _ _ 4000).trans (by kernel_rfl)
def laws_eqPotS_k0 : C :=
 .seq (.seq (.reg false [.V 11 (.mv (.t 5)),.V 12 (.mv (.t 0)),.V 13 (.len (.t 12)),.V 14 (.bin .lss (.t 11) (.t 13))] [0,1,5,14] []) (.cond (.t 14) .skip (.exit 0))) (.seq (.block 1 (.seq (.reg true [.V 17 (.mv (.t 0)),.V 18 (.mv (.t 5)),.V 19 (.ia 5 (.t 17) (.t 18)),.V 20 (.ld (some 5) (.t 19)),.V 21 (.mv (.t 1)),.V 22 (.mv (.t 5)),.V 23 (.ia 5 (.t 21) (.t 22)),.V 24 (.ld (some 5) (.t 23)),.V 25 (.call (.c (.fn 58 [])) [.t 20,.t 24]),.V 26 (.un .not (.t 25))] [0,1,5,26] []) (.cond (.t 26) (.seq (.reg false [.V 4 (.asg (.c (.bool false)))] [4] []) .ret) .skip))) (.reg false [.V 15 (.mv (.t 5)),.V 16 (.bin .add (.t 15) (.c (.int .i64 1))),.V 5 (.asg (.t 16))] [0,1,5] []))
def laws_eqPotS_k1 : C :=
 .norm [0,1,5] [] laws_eqPotS_k0
def laws_eqPotS_k2 : C :=
 .seq (.reg false [.V 4 (.asg (.c (.bool true)))] [4] []) .ret
def laws_eqPotS_ir : Fn := { np := 2,io := [],res := [.t 4],own := [false],body :=
 (.seq (.reg false [.V 4 (.asg (.c (.bool false)))] [0,1] []) (.seq (.seq (.reg false [.V 6 (.mv (.t 0)),.V 7 (.len (.t 6)),.V 8 (.mv (.t 1)),.V 9 (.len (.t 8)),.V 10 (.bin .neq (.t 7) (.t 9))] [0,1,10] []) (.cond (.t 10) (.seq (.reg false [.V 4 (.asg (.c (.bool false)))] [4] []) .ret) .skip)) (.seq (.seq (.reg false [.V 5 (.asg (.c (.int .i64 0)))] [0,1,5] []) (.block 0 (.loop laws_eqPotS_k1))) laws_eqPotS_k2))) }
noncomputable def laws_eqPotS_D : List (Nat × Callee) := [(58,laws_eqPot_c)]
def laws_eqPotS_H : List (Nat × ET) := [(6,T_Pot),(8,T_Pot),(12,T_Pot),(17,T_Pot),(21,T_Pot)]
noncomputable def laws_eqPotS_c : Callee := mkCallee laws_eqPotS_D laws_eqPotS_H laws_eqPotS_ir [.d (.one (.sl T_Pot)),.d (.one (.sl T_Pot))] [.d (.one .bool)] []
noncomputable def laws_eqPotS (a0 : List T_Pot.ty) (a1 : List T_Pot.ty) : Option (Bool) := laws_eqPotS_c.f (a0,a1,())
noncomputable def laws_eqPotS_p0  (v0 : List T_Pot.ty) (v1 : List T_Pot.ty) (v5 : Int) : Option (Bool) :=
 goL laws_eqPotS_D laws_eqPotS_H (vleave laws_eqPotS_ir [.d (.one (.sl T_Pot)),.d (.one (.sl T_Pot))] [.d (.one .bool)] [] []) [.c laws_eqPotS_k0,.l laws_eqPotS_k1,.e 0,.c laws_eqPotS_k2]
  ⟨[(0,.sl T_Pot v0),(1,.sl T_Pot v1),(5,.int .i64 v5)],[]⟩
theorem laws_eqPotS_eq (a0 : List T_Pot.ty) (a1 : List T_Pot.ty) : laws_eqPotS a0 a1 =
 if ((a0.length : Int) != (a1.length : Int)) then
  some false
 else
  laws_eqPotS_p0 a0 a1 0 :=
 (mk_f _ _ _ _ _ _ _ 4000).trans (by kernel_rfl)
theorem laws_eqPotS_p0_eq  (v0 : List T_Pot.ty) (v1 : List T_Pot.ty) (v5 : Int) : laws_eqPotS_p0 v0 v1 v5 =
 if decide (v5 < (v0.length : Int)) then
  if decide (0 ≤ v5) then
   (v0[v5.toNat]?).bind fun x1 =>
    if decide (0 ≤ v5) then
     (v1[v5.toNat]?).bind fun x2 =>
      (laws_eqPot x1 x2).bind fun x3 =>
       if (!x3) then
        some false
       else
        laws_eqPotS_p0 v0 v1 (IntKind.i64.wrap (v5 + 1))
    else
     none
  else
   none
 else
  some true :=
 (goL_dn _ _ _ 4000 _ _).trans (by kernel_rfl)
def laws_eqMode_ir : Fn := { np := 2,io := [],res := [.t 4],own := [false],body :=
 (.seq (.reg false [.W 2 (.box 3 (.t 0)),.W 3 (.box 3 (.t 1)),.V 4 (.asg (.c (.bool false)))] [2,3] [2,3]) (.seq (.seq (.reg false [.V 5 (.fa 0 (.t 2)),.V 6 (.ld none (.t 5)),.V 7 (.fa 0 (.t 3)),.V 8 (.ld none (.t 7)),.V 9 (.bin .neq (.t 6) (.t 8))] [2,3,9] [2,3]) (.cond (.t 9) (.seq (.reg false [.V 4 (.asg (.c (.bool false)))] [4] []) .ret) .skip)) (.seq (.seq (.reg false [.V 10 (.fa 1 (.t 2)),.V 11 (.ld none (.t 10)),.V 12 (.fa 1 (.t 3)),.V 13 (.ld none (.t 12)),.V 14 (.bin .neq (.t 11) (.t 13))] [2,3,14] [2,3]) (.cond (.t 14) (.seq (.reg false [.V 4 (.asg (.c (.bool false)))] [4] []) .ret) .skip)) (.seq (.seq (.reg false [.V 15 (.fa 2 (.t 2)),.V 16 (.ld none (.t 15)),.V 17 (.fa 2 (.t 3)),.V 18 (.ld none (.t 17)),.V 19 (.bin .neq (.t 16) (.t 18))] [19] []) (.cond (.t 19) (.seq (.reg false [.V 4 (.asg (.c (.bool false)))] [4] []) .ret) .skip)) (.seq (.reg false [.V 4 (.asg (.c (.bool true)))] [4] []) .ret))))) }
noncomputable def laws_eqMode_D : List (Nat × Callee) := []
def laws_eqMode_H : List (Nat × ET) := []
noncomputable def laws_eqMode_c : Callee := mkCallee laws_eqMode_D laws_eqMode_H laws_eqMode_ir [.d T_Mode,.d T_Mode] [.d (.one .bool)] []
noncomputable def laws_eqMode (a0 : T_Mode.ty) (a1 : T_Mode.ty) : Option (Bool) := laws_eqMode_c.f (a0,a1,())
theorem laws_eqMode_eq (a0 : T_Mode.ty) (a1 : T_Mode.ty) : laws_eqMode a0 a1 =
 if (!(a0.1 == a1.1)) then
  some false
 else
  if (a0.2.1 != a1.2.1) then
   some false
  else
   if (a0.2.2.1 != a1.2.2.1) then
    some false
   else
    some true :=
 (mk_f _ _ _ _ _ _ _ 4000).trans (by kernel_rfl)
def laws_eqModeS_k0 : C :=
 .seq (.seq (.reg false [.V 11 (.mv (.t 5)),.V 12 (.mv (.t 0)),.V 13 (.len (.t 12)),.V 14 (.bin .lss (.t 11) (.t 13))] [0,1,5,14] []) (.cond (.t 14) .skip (.exit 0))) (.seq (.block 1 (.seq (.reg true [.V 17 (.mv (.t 0)),.V 18 (.mv (.t 5)),.V 19 (.ia 3 (.t 17) (.t 18)),.V 20 (.ld (some 3) (.t 19)),.V 21 (.mv (.t 1)),.V 22 (.mv (.t 5)),.V 23 (.ia 3 (.t 21) (.t 22)),.V 24 (.ld (some 3) (.t 23)),.V 25 (.call (.c (.fn 883 [])) [.t 20,.t 24]),.V 26 (.un .not (.t 25))] [0,1,5,26] []) (.cond (.t 26) (.seq (.reg false [.V 4 (.asg (.c (.bool false)))] [4] []) .ret) .skip))) (.reg false [.V 15 (.mv (.t 5)),.V 16 (.bin .add (.t 15) (.c (.int .i64 1))),.V 5 (.asg (.t 16))] [0,1,5] []))
def laws_eqModeS_k1 : C :=
 .norm [0,1,5] [] laws_eqModeS_k0
def laws_eqModeS_k2 : C :=
 .seq (.reg false [.V 4 (.asg (.c (.bool true)))] [4] []) .ret
def laws_eqModeS_ir : Fn := { np := 2,io := [],res := [.t 4],own := [false],body :=
 (.seq (.reg false [.V 4 (.asg (.c (.bool false)))] [0,1] []) (.seq (.seq (.reg false [.V 6 (.mv (.t 0)),.V 7 (.len (.t 6)),.V 8 (.mv (.t 1)),.V 9 (.len (.t 8)),.V 10 (.bin .neq (.t 7) (.t 9))] [0,1,10] []) (.cond (.t 10) (.seq (.reg false [.V 4 (.asg (.c (.bool false)))] [4] []) .ret) .skip)) (.seq (.seq (.reg false [.V 5 (.asg (.c (.int .i64 0)))] [0,1,5] []) (.block 0 (.loop laws_eqModeS_k1))) laws_eqModeS_k2))) }
noncomputable def laws_eqModeS_D : List (Nat × Callee) := [(883,laws_eqMode_c)]
def laws_eqModeS_H : List (Nat × ET) := [(6,T_Mode),(8,T_Mode),(12,T_Mode),(17,T_Mode),(21,T_Mode)]
noncomputable def laws_eqModeS_c : Callee := mkCallee laws_eqModeS_D laws_eqModeS_H laws_eqModeS_ir [.d (.one (.sl T_Mode)),.d (.one (.sl T_Mode))] [.d (.one .bool)] []
noncomputable def laws_eqModeS (a0 : List T_Mode.ty) (a1 : List T_Mode.ty) : Option (Bool) := laws_eqModeS_c.f (a0,a1,())
noncomputable def laws_eqModeS_p0  (v0 : List T_Mode.ty) (v1 : List T_Mode.ty) (v5 : Int) : Option (Bool) :=
 goL laws_eqModeS_D laws_eqModeS_H (vleave laws_eqModeS_ir [.d (.one (.sl T_Mode)),.d (.one (.sl T_Mode))] [.d (.one .bool)] [] []) [.c laws_eqModeS_k0,.l laws_eqModeS_k1,.e 0,.c laws_eqModeS_k2]
  ⟨[(0,.sl T_Mode v0),(1,.sl T_Mode v1),(5,.int .i64 v5)],[]⟩
theorem laws_eqModeS_eq (a0 : List T_Mode.ty) (a1 : List T_Mode.ty) : laws_eqModeS a0 a1 =
 if ((a0.length : Int) != (a1.length : Int)) then
  some false
 else
  laws_eqModeS_p0 a0 a1 0 :=
 (mk_f _ _ _ _ _ _ _ 4000).trans (by kernel_rfl)
theorem laws_eqModeS_p0_eq  (v0 : List T_Mode.ty) (v1 : List T_Mode.ty) (v5 : Int) : laws_eqModeS_p0 v0 v1 v5 =
 if decide (v5 < (v0.length : Int)) then
  if decide (0 ≤ v5) then
   (v0[v5.toNat]?).bind fun x1 =>
    if decide (0 ≤ v5) then
     (v1[v5.toNat]?).bind fun x2 =>
      (laws_eqMode x1 x2).bind fun x3 =>
       if (!x3) then
        some false
       else
        laws_eqModeS_p0 v0 v1 (IntKind.i64.wrap (v5 + 1))
    else
     none
  else
   none
 else
  some true :=
 (goL_dn _ _ _ 4000 _ _).trans (by kernel_rfl)
def laws_eqWork_ir : Fn := { np := 2,io := [],res := [.t 4],own := [false],body :=
 (.seq (.reg false [.W 2 (.box 4 (.t 0)),.W 3 (.box 4 (.t 1)),.V 4 (.asg (.c (.bool false)))] [2,3] [2,3]) (.seq (.seq (.reg false [.V 5 (.fa 0 (.t 2)),.V 6 (.ld none (.t 5)),.V 7 (.fa 0 (.t 3)),.V 8 (.ld none (.t 7)),.V 9 (.bin .neq (.t 6) (.t 8))] [2,3,9] [2,3]) (.cond (.t 9) (.seq (.reg false [.V 4 (.asg (.c (.bool false)))] [4] []) .ret) .skip)) (.seq (.seq (.reg false [.V 10 (.fa 1 (.t 2)),.V 11 (.ld none (.t 10)),.V 12 (.fa 1 (.t 3)),.V 13 (.ld none (.t 12)),.V 14 (.bin .neq (.t 11) (.t 13))] [2,3,14] [2,3]) (.cond (.t 14) (.seq (.reg false [.V 4 (.asg (.c (.bool false)))] [4] []) .ret) .skip)) (.seq (.seq (.reg false [.V 15 (.fa 2 (.t 2)),.V 16 (.ld none (.t 15)),.V 17 (.fa 2 (.t 3)),.V 18 (.ld none (.t 17)),.V 19 (.bin .neq (.t 16) (.t 18))] [2,3,19] [2,3]) (.cond (.t 19) (.seq (.reg false [.V 4 (.asg (.c (.bool false)))] [4] []) .ret) .skip)) (.seq (.seq (.reg false [.V 20 (.fa 3 (.t 2)),.V 21 (.ld none (.t 20)),.V 22 (.fa 3 (.t 3)),.V 23 (.ld none (.t 22)),.V 24 (.bin .neq (.t 21) (.t 23))] [24] []) (.cond (.t 24) (.seq (.reg false [.V 4 (.asg (.c (.bool false)))] [4] []) .ret) .skip)) (.seq (.reg false [.V 4 (.asg (.c (.bool true)))] [4] []) .ret)))))) }
noncomputable def laws_eqWork_D : List (Nat × Callee) := []
def laws_eqWork_H : List (Nat × ET) := []
noncomputable def laws_eqWork_c : Callee := mkCallee laws_eqWork_D laws_eqWork_H laws_eqWork_ir [.d T_Peg,.d T_Peg] [.d (.one .bool)] []
noncomputable def laws_eqWork (a0 : T_Peg.ty) (a1 : T_Peg.ty) : Option (Bool) := laws_eqWork_c.f (a0,a1,())
theorem laws_eqWork_eq (a0 : T_Peg.ty) (a1 : T_Peg.ty) : laws_eqWork a0 a1 =
 if (!(a0.1 == a1.1)) then
  some false
 else
  if (a0.2.1 != a1.2.1) then
   some false
  else
   if (a0.2.2.1 != a1.2.2.1) then
    some false
   else
    if (a0.2.2.2.1 != a1.2.2.2.1) then
     some false
    else
     some true :=
 (mk_f _ _ _ _ _ _ _ 4000).trans (by kernel_rfl)
def laws_eqWorkS_k0 : C :=
 .seq (.seq (.reg false [.V 11 (.mv (.t 5)),.V 12 (.mv (.t 0)),.V 13 (.len (.t 12)),.V 14 (.bin .lss (.t 11) (.t 13))] [0,1,5,14] []) (.cond (.t 14) .skip (.exit 0))) (.seq (.block 1 (.seq (.reg true [.V 17 (.mv (.t 0)),.V 18 (.mv (.t 5)),.V 19 (.ia 4 (.t 17) (.t 18)),.V 20 (.ld (some 4) (.t 19)),.V 21 (.mv (.t 1)),.V 22 (.mv (.t 5)),.V 23 (.ia 4 (.t 21) (.t 22)),.V 24 (.ld (some 4) (.t 23)),.V 25 (.call (.c (.fn 884 [])) [.t 20,.t 24]),.V 26 (.un .not (.t 25))] [0,1,5,26] []) (.cond (.t 26) (.seq (.reg false [.V 4 (.asg (.c (.bool false)))] [4] []) .ret) .skip))) (.reg false [.V 15 (.mv (.t 5)),.V 16 (.bin .add (.t 15) (.c (.int .i64 1))),.V 5 (.asg (.t 16))] [0,1,5] []))
def laws_eqWorkS_k1 : C :=
 .norm [0,1,5] [] laws_eqWorkS_k0
def laws_eqWorkS_k2 : C :=
 .seq (.reg false [.V 4 (.asg (.c (.bool true)))] [4] []) .ret
def laws_eqWorkS_ir : Fn := { np := 2,io := [],res := [.t 4],own := [false],body :=
 (.seq (.reg false [.V 4 (.asg (.c (.bool false)))] [0,1] []) (.seq (.seq (.reg false [.V 6 (.mv (.t 0)),.V 7 (.len (.t 6)),.V 8 (.mv (.t 1)),.V 9 (.len (.t 8)),.V 10 (.bin .neq (.t 7) (.t 9))] [0,1,10] []) (.cond (.t 10) (.seq (.reg false [.V 4 (.asg (.c (.bool false)))] [4] []) .ret) .skip)) (.seq (.seq (.reg false [.V 5 (.asg (.c (.int .i64 0)))] [0,1,5] []) (.block 0 (.loop laws_eqWorkS_k1))) laws_eqWorkS_k2))) }
noncomputable def laws_eqWorkS_D : List (Nat × Callee) := [(884,laws_eqWork_c)]
def laws_eqWorkS_H : List (Nat × ET) := [(6,T_Peg),(8,T_Peg),(12,T_Peg),(17,T_Peg),(21,T_Peg)]
noncomputable def laws_eqWorkS_c : Callee := mkCallee laws_eqWorkS_D laws_eqWorkS_H laws_eqWorkS_ir [.d (.one (.sl T_Peg)),.d (.one (.sl T_Peg))] [.d (.one .bool)] []
noncomputable def laws_eqWorkS (a0 : List T_Peg.ty) (a1 : List T_Peg.ty) : Option (Bool) := laws_eqWorkS_c.f (a0,a1,())
noncomputable def laws_eqWorkS_p0  (v0 : List T_Peg.ty) (v1 : List T_Peg.ty) (v5 : Int) : Option (Bool) :=
 goL laws_eqWorkS_D laws_eqWorkS_H (vleave laws_eqWorkS_ir [.d (.one (.sl T_Peg)),.d (.one (.sl T_Peg))] [.d (.one .bool)] [] []) [.c laws_eqWorkS_k0,.l laws_eqWorkS_k1,.e 0,.c laws_eqWorkS_k2]
  ⟨[(0,.sl T_Peg v0),(1,.sl T_Peg v1),(5,.int .i64 v5)],[]⟩
theorem laws_eqWorkS_eq (a0 : List T_Peg.ty) (a1 : List T_Peg.ty) : laws_eqWorkS a0 a1 =
 if ((a0.length : Int) != (a1.length : Int)) then
  some false
 else
  laws_eqWorkS_p0 a0 a1 0 :=
 (mk_f _ _ _ _ _ _ _ 4000).trans (by kernel_rfl)
theorem laws_eqWorkS_p0_eq  (v0 : List T_Peg.ty) (v1 : List T_Peg.ty) (v5 : Int) : laws_eqWorkS_p0 v0 v1 v5 =
 if decide (v5 < (v0.length : Int)) then
  if decide (0 ≤ v5) then
   (v0[v5.toNat]?).bind fun x1 =>
    if decide (0 ≤ v5) then
     (v1[v5.toNat]?).bind fun x2 =>
      (laws_eqWork x1 x2).bind fun x3 =>
       if (!x3) then
        some false
       else
        laws_eqWorkS_p0 v0 v1 (IntKind.i64.wrap (v5 + 1))
    else
     none
  else
   none
 else
  some true :=
 (goL_dn _ _ _ 4000 _ _).trans (by kernel_rfl)
def laws_eqPaper_ir : Fn := { np := 2,io := [],res := [.t 4],own := [false],body :=
 (.seq (.reg false [.W 2 (.box 5 (.t 0)),.W 3 (.box 5 (.t 1)),.V 4 (.asg (.c (.bool false)))] [2,3] [2,3]) (.seq (.seq (.reg false [.V 5 (.fa 0 (.t 2)),.V 6 (.ld none (.t 5)),.V 7 (.fa 0 (.t 3)),.V 8 (.ld none (.t 7)),.V 9 (.bin .neq (.t 6) (.t 8))] [2,3,9] [2,3]) (.cond (.t 9) (.seq (.reg false [.V 4 (.asg (.c (.bool false)))] [4] []) .ret) .skip)) (.seq (.seq (.reg false [.V 10 (.fa 1 (.t 2)),.V 11 (.ld none (.t 10)),.V 12 (.fa 1 (.t 3)),.V 13 (.ld none (.t 12)),.V 14 (.bin .neq (.t 11) (.t 13))] [2,3,14] [2,3]) (.cond (.t 14) (.seq (.reg false [.V 4 (.asg (.c (.bool false)))] [4] []) .ret) .skip)) (.seq (.seq (.reg false [.V 15 (.fa 2 (.t 2)),.V 16 (.ld none (.t 15)),.V 17 (.fa 2 (.t 3)),.V 18 (.ld none (.t 17)),.V 19 (.bin .neq (.t 16) (.t 18))] [2,3,19] [2,3]) (.cond (.t 19) (.seq (.reg false [.V 4 (.asg (.c (.bool false)))] [4] []) .ret) .skip)) (.seq (.seq (.reg false [.V 20 (.fa 3 (.t 2)),.V 21 (.ld none (.t 20)),.V 22 (.fa 3 (.t 3)),.V 23 (.ld none (.t 22)),.V 24 (.bin .neq (.t 21) (.t 23))] [2,3,24] [2,3]) (.cond (.t 24) (.seq (.reg false [.V 4 (.asg (.c (.bool false)))] [4] []) .ret) .skip)) (.seq (.seq (.reg false [.V 25 (.fa 4 (.t 2)),.V 26 (.ld none (.t 25)),.V 27 (.fa 4 (.t 3)),.V 28 (.ld none (.t 27)),.V 29 (.bin .neq (.t 26) (.t 28))] [29] []) (.cond (.t 29) (.seq (.reg false [.V 4 (.asg (.c (.bool false)))] [4] []) .ret) .skip)) (.seq (.reg false [.V 4 (.asg (.c (.bool true)))] [4] []) .ret))))))) }
noncomputable def laws_eqPaper_D : List (Nat × Callee) := []
def laws_eqPaper_H : List (Nat × ET) := []
noncomputable def laws_eqPaper_c : Callee := mkCallee laws_eqPaper_D laws_eqPaper_H laws_eqPaper_ir [.d T_Paper,.d T_Paper] [.d (.one .bool)] []
noncomputable def laws_eqPaper (a0 : T_Paper.ty) (a1 : T_Paper.ty) : Option (Bool) := laws_eqPaper_c.f (a0,a1,())
theorem laws_eqPaper_eq (a0 : T_Paper.ty) (a1 : T_Paper.ty) : laws_eqPaper a0 a1 =
 if (!(a0.1 == a1.1)) then
  some false
 else
  if (!(a0.2.1 == a1.2.1)) then
   some false
  else
   if (a0.2.2.1 != a1.2.2.1) then
    some false
   else
    if (a0.2.2.2.1 != a1.2.2.2.1) then
     some false
    else
     if (a0.2.2.2.2.1 != a1.2.2.2.2.1) then
      some false
     else
      some true :=
 (mk_f _ _ _ _ _ _ _ 4000).trans (by kernel_rfl)
def laws_eqPaperS_k0 : C :=
 .seq (.seq (.reg false [.V 11 (.mv (.t 5)),.V 12 (.mv (.t 0)),.V 13 (.len (.t 12)),.V 14 (.bin .lss (.t 11) (.t 13))] [0,1,5,14] []) (.cond (.t 14) .skip (.exit 0))) (.seq (.block 1 (.seq (.reg true [.V 17 (.mv (.t 0)),.V 18 (.mv (.t 5)),.V 19 (.ia 5 (.t 17) (.t 18)),.V 20 (.ld (some 5) (.t 19)),.V 21 (.mv (.t 1)),.V 22 (.mv (.t 5)),.V 23 (.ia 5 (.t 21) (.t 22)),.V 24 (.ld (some 5) (.t 23)),.V 25 (.call (.c (.fn 728 [])) [.t 20,.t 24]),.V 26 (.un .not (.t 25))] [0,1,5,26] []) (.cond (.t 26) (.seq (.reg false [.V 4 (.asg (.c (.bool false)))] [4] []) .ret) .skip))) (.reg false [.V 15 (.mv (.t 5)),.V 16 (.bin .add (.t 15) (.c (.int .i64 1))),.V 5 (.asg (.t 16))] [0,1,5] []))
def laws_eqPaperS_k1 : C :=
 .norm [0,1,5] [] laws_eqPaperS_k0
def laws_eqPaperS_k2 : C :=
 .seq (.reg false [.V 4 (.asg (.c (.bool true)))] [4] []) .ret
def laws_eqPaperS_ir : Fn := { np := 2,io := [],res := [.t 4],own := [false],body :=
 (.seq (.reg false [.V 4 (.asg (.c (.bool false)))] [0,1] []) (.seq (.seq (.reg false [.V 6 (.mv (.t 0)),.V 7 (.len (.t 6)),.V 8 (.mv (.t 1)),.V 9 (.len (.t 8)),.V 10 (.bin .neq (.t 7) (.t 9))] [0,1,10] []) (.cond (.t 10) (.seq (.reg false [.V 4 (.asg (.c (.bool false)))] [4] []) .ret) .skip)) (.seq (.seq (.reg false [.V 5 (.asg (.c (.int .i64 0)))] [0,1,5] []) (.block 0 (.loop laws_eqPaperS_k1))) laws_eqPaperS_k2))) }
noncomputable def laws_eqPaperS_D : List (Nat × Callee) := [(728,laws_eqPaper_c)]
def laws_eqPaperS_H : List (Nat × ET) := [(6,T_Paper),(8,T_Paper),(12,T_Paper),(17,T_Paper),(21,T_Paper)]
noncomputable def laws_eqPaperS_c : Callee := mkCallee laws_eqPaperS_D laws_eqPaperS_H laws_eqPaperS_ir [.d (.one (.sl T_Paper)),.d (.one (.sl T_Paper))] [.d (.one .bool)] []
noncomputable def laws_eqPaperS (a0 : List T_Paper.ty) (a1 : List T_Paper.ty) : Option (Bool) := laws_eqPaperS_c.f (a0,a1,())
noncomputable def laws_eqPaperS_p0  (v0 : List T_Paper.ty) (v1 : List T_Paper.ty) (v5 : Int) : Option (Bool) :=
 goL laws_eqPaperS_D laws_eqPaperS_H (vleave laws_eqPaperS_ir [.d (.one (.sl T_Paper)),.d (.one (.sl T_Paper))] [.d (.one .bool)] [] []) [.c laws_eqPaperS_k0,.l laws_eqPaperS_k1,.e 0,.c laws_eqPaperS_k2]
  ⟨[(0,.sl T_Paper v0),(1,.sl T_Paper v1),(5,.int .i64 v5)],[]⟩
theorem laws_eqPaperS_eq (a0 : List T_Paper.ty) (a1 : List T_Paper.ty) : laws_eqPaperS a0 a1 =
 if ((a0.length : Int) != (a1.length : Int)) then
  some false
 else
  laws_eqPaperS_p0 a0 a1 0 :=
 (mk_f _ _ _ _ _ _ _ 4000).trans (by kernel_rfl)
theorem laws_eqPaperS_p0_eq  (v0 : List T_Paper.ty) (v1 : List T_Paper.ty) (v5 : Int) : laws_eqPaperS_p0 v0 v1 v5 =
 if decide (v5 < (v0.length : Int)) then
  if decide (0 ≤ v5) then
   (v0[v5.toNat]?).bind fun x1 =>
    if decide (0 ≤ v5) then
     (v1[v5.toNat]?).bind fun x2 =>
      (laws_eqPaper x1 x2).bind fun x3 =>
       if (!x3) then
        some false
       else
        laws_eqPaperS_p0 v0 v1 (IntKind.i64.wrap (v5 + 1))
    else
     none
  else
   none
 else
  some true :=
 (goL_dn _ _ _ 4000 _ _).trans (by kernel_rfl)
def laws_eqDesk_ir : Fn := { np := 2,io := [],res := [.t 4],own := [false],body :=
 (.seq (.reg false [.W 2 (.box 12 (.t 0)),.W 3 (.box 12 (.t 1)),.V 4 (.asg (.c (.bool false)))] [2,3] [2,3,3000,3001,3002,3007,3008,3009,3010,3011,4000,4001,4002,4007,4008,4009,4010,4011]) (.seq (.seq (.reg false [.V 5 (.fa 0 (.t 2)),.V 6 (.ld none (.t 5)),.V 7 (.fa 0 (.t 3)),.V 8 (.ld none (.t 7)),.V 9 (.call (.c (.fn 582 [])) [.t 6,.t 8]),.V 10 (.un .not (.t 9))] [2,3,10] [2,3,3000,3001,3002,3007,3008,3009,3010,3011,4000,4001,4002,4007,4008,4009,4010,4011]) (.cond (.t 10) (.seq (.reg false [.V 4 (.asg (.c (.bool false)))] [4] []) .ret) .skip)) (.seq (.seq (.reg false [.V 11 (.fa 1 (.t 2)),.V 12 (.ld none (.t 11)),.V 13 (.fa 1 (.t 3)),.V 14 (.ld none (.t 13)),.V 15 (.call (.c (.fn 581 [])) [.t 12,.t 14]),.V 16 (.un .not (.t 15))] [2,3,16] [2,3,3000,3001,3002,3007,3008,3009,3010,3011,4000,4001,4002,4007,4008,4009,4010,4011]) (.cond (.t 16) (.seq (.reg false [.V 4 (.asg (.c (.bool false)))] [4] []) .ret) .skip)) (.seq (.seq (.reg false [.V 17 (.fa 2 (.t 2)),.V 18 (.ld none (.t 17)),.V 19 (.fa 2 (.t 3)),.V 20 (.ld none (.t 19)),.V 21 (.call (.c (.fn 580 [])) [.t 18,.t 20]),.V 22 (.un .not (.t 21))] [2,3,22] [2,3,3000,3001,3002,3007,3008,3009,3010,3011,4000,4001,4002,4007,4008,4009,4010,4011]) (.cond (.t 22) (.seq (.reg false [.V 4 (.asg (.c (.bool false)))] [4] []) .ret) .skip)) (.seq (.seq (.reg false [.V 23 (.fa 3 (.t 2)),.V 24 (.ld (some 4) (.t 23)),.V 25 (.fa 3 (.t 3)),.V 26 (.ld (some 4) (.t 25)),.V 27 (.call (.c (.fn 579 [])) [.t 24,.t 26]),.V 28 (.un .not (.t 27))] [2,3,28] [2,3,3000,3001,3002,3007,3008,3009,3010,3011,4000,4001,4002,4007,4008,4009,4010,4011]) (.cond (.t 28) (.seq (.reg false [.V 4 (.asg (.c (.bool false)))] [4] []) .ret) .skip)) (.seq (.seq (.reg false [.V 29 (.fa 7 (.t 2)),.V 30 (.ld none (.t 29)),.V 31 (.fa 7 (.t 3)),.V 32 (.ld none (.t 31)),.V 33 (.call (.c (.fn 124 [])) [.t 30,.t 32]),.V 34 (.un .not (.t 33))] [2,3,34] [2,3,3000,3001,3002,3007,3008,3009,3010,3011,4000,4001,4002,4007,4008,4009,4010,4011]) (.cond (.t 34) (.seq (.reg false [.V 4 (.asg (.c (.bool false)))] [4] []) .ret) .skip)) (.seq (.seq (.reg false [.V 35 (.fa 8 (.t 2)),.V 36 (.ld none (.t 35)),.V 37 (.fa 8 (.t 3)),.V 38 (.ld none (.t 37)),.V 39 (.call (.c (.fn 60 [])) [.t 36,.t 38]),.V 40 (.un .not (.t 39))] [2,3,40] [2,3,3000,3001,3002,3007,3008,3009,3010,3011,4000,4001,4002,4007,4008,4009,4010,4011]) (.cond (.t 40) (.seq (.reg false [.V 4 (.asg (.c (.bool false)))] [4] []) .ret) .skip)) (.seq (.seq (.reg false [.V 41 (.fa 9 (.t 2)),.V 42 (.ld none (.t 41)),.V 43 (.fa 9 (.t 3)),.V 44 (.ld none (.t 43)),.V 45 (.call (.c (.fn 578 [])) [.t 42,.t 44]),.V 46 (.un .not (.t 45))] [2,3,46] [2,3,3000,3001,3002,3007,3008,3009,3010,3011,4000,4001,4002,4007,4008,4009,4010,4011]) (.cond (.t 46) (.seq (.reg false [.V 4 (.asg (.c (.bool false)))] [4] []) .ret) .skip)) (.seq (.seq (.reg false [.V 47 (.fa 10 (.t 2)),.V 48 (.ld none (.t 47)),.V 49 (.fa 10 (.t 3)),.V 50 (.ld none (.t 49)),.V 51 (.call (.c (.fn 577 [])) [.t 48,.t 50]),.V 52 (.un .not (.t 51))] [2,3,52] [2,3,3000,3001,3002,3007,3008,3009,3010,3011,4000,4001,4002,4007,4008,4009,4010,4011]) (.cond (.t 52) (.seq (.reg false [.V 4 (.asg (.c (.bool false)))] [4] []) .ret) .skip)) (.seq (.seq (.reg false [.V 53 (.fa 11 (.t 2)),.V 54 (.ld none (.t 53)),.V 55 (.fa 11 (.t 3)),.V 56 (.ld none (.t 55)),.V 57 (.call (.c (.fn 298 [])) [.t 54,.t 56]),.V 58 (.un .not (.t 57))] [58] []) (.cond (.t 58) (.seq (.reg false [.V 4 (.asg (.c (.bool false)))] [4] []) .ret) .skip)) (.seq (.reg false [.V 4 (.asg (.c (.bool true)))] [4] []) .ret))))))))))) }
noncomputable def laws_eqDesk_D : List (Nat × Callee) := [(60,laws_eqPotS_c),(124,laws_eqPegS_c),(298,laws_eqPaperS_c),(577,laws_eqWorkS_c),(578,laws_eqModeS_c),(579,laws_eqNeck_c),(580,laws_eqInt64SS_c),(581,laws_eqRibS_c),(582,laws_eqStackS_c)]
def laws_eqDesk_H : List (Nat × ET) := [(6,T_Peg),(8,T_Peg),(12,T_Mode),(14,T_Mode),(18,(.one (.sl (.one (.int .i64))))),(20,(.one (.sl (.one (.int .i64))))),(30,T_Peg),(32,T_Peg),(36,T_Pot),(38,T_Pot),(42,T_Mode),(44,T_Mode),(48,T_Peg),(50,T_Peg),(54,T_Paper),(56,T_Paper)]
noncomputable def laws_eqDesk_c : Callee := mkCallee laws_eqDesk_D laws_eqDesk_H laws_eqDesk_ir [.d T_Desk,.d T_Desk] [.d (.one .bool)] []
noncomputable def laws_eqDesk (a0 : T_Desk.ty) (a1 : T_Desk.ty) : Option (Bool) := laws_eqDesk_c.f (a0,a1,())
theorem laws_eqDesk_eq (a0 : T_Desk.ty) (a1 : T_Desk.ty) : laws_eqDesk a0 a1 =
 (laws_eqStackS a0.1 a1.1).bind fun x1 =>
  if (!x1) then
   some false
  else
   (laws_eqRibS a0.2.1 a1.2.1).bind fun x2 =>
    if (!x2) then
     some false
    else
     (laws_eqInt64SS a0.2.2.1 a1.2.2.1).bind fun x3 =>
      if (!x3) then
       some false
      else
       (laws_eqNeck (a0.2.2.2.1,a0.2.2.2.2.1,a0.2.2.2.2.2.1,a0.2.2.2.2.2.2.1,()) (a1.2.2.2.1,a1.2.2.2.2.1,a1.2.2.2.2.2.1,a1.2.2.2.2.2.2.1,())).bind fun x4 =>
        if (!x4) then
         some false
        else
         (laws_eqPegS a0.2.2.2.2.2.2.2.1 a1.2.2.2.2.2.2.2.1).bind fun x5 =>
          if (!x5) then
           some false
          else
           (laws_eqPotS a0.2.2.2.2.2.2.2.2.1 a1.2.2.2.2.2.2.2.2.1).bind fun x6 =>
            if (!x6) then
             some false
            else
             (laws_eqModeS a0.2.2.2.2.2.2.2.2.2.1 a1.2.2.2.2.2.2.2.2.2.1).bind fun x7 =>
              if (!x7) then
               some false
              else
               (laws_eqWorkS a0.2.2.2.2.2.2.2.2.2.2.1 a1.2.2.2.2.2.2.2.2.2.2.1).bind fun x8 =>
                if (!x8) then
                 some false
                else
                 (laws_eqPaperS a0.2.2.2.2.2.2.2.2.2.2.2.1 a1.2.2.2.2.2.2.2.2.2.2.2.1).bind fun x9 =>
                  if (!x9) then
                   some false
                  else
                   some true :=
 (mk_f _ _ _ _ _ _ _ 4000).trans (by kernel_rfl)
def laws_toNeck_ir : Fn := { np := 1,io := [],res := [.cell 2 (some 4)],own := [false],body :=
 (.seq (.reg false [.W 1 (.box 4 (.t 0)),.W 2 (.alloc 4 (.agg [.int .i64 0,.int .i64 0,.int .i64 0,.int .i64 0]))] [1,2] [1,2]) (.seq (.reg false [.W 3 (.alloc 4 (.agg [.int .i64 0,.int .i64 0,.int .i64 0,.int .i64 0]))] [1,2,3] [1,2,3]) (.seq (.reg false [.V 4 (.fa 0 (.t 1)),.V 5 (.ld none (.t 4)),.V 6 (.fa 0 (.t 3)),⟨none,true,.sto 1 (.t 6) (.t 5),none,false,[]⟩] [1,2,3] [1,2,3]) (.seq (.reg false [.V 7 (.fa 1 (.t 1)),.V 8 (.ld none (.t 7)),.V 9 (.fa 1 (.t 3)),⟨none,true,.sto 1 (.t 9) (.t 8),none,false,[]⟩] [1,2,3] [1,2,3]) (.seq (.reg false [.V 10 (.fa 2 (.t 1)),.V 11 (.ld none (.t 10)),.V 12 (.fa 2 (.t 3)),⟨none,true,.sto 1 (.t 12) (.t 11),none,false,[]⟩] [1,2,3] [1,2,3]) (.seq (.reg false [.V 13 (.fa 3 (.t 1)),.V 14 (.ld none (.t 13)),.V 15 (.fa 3 (.t 3)),⟨none,true,.sto 1 (.t 15) (.t 14),none,false,[]⟩] [2,3] [2,3]) (.seq (.reg false [.V 16 (.ld (some 4) (.t 3)),⟨none,true,.sto 4 (.t 2) (.t 16),none,false,[]⟩] [2] [2]) .ret))))))) }
noncomputable def laws_toNeck_D : List (Nat × Callee) := []
def laws_toNeck_H : List (Nat × ET) := []
noncomputable def laws_toNeck_c : Callee := mkCallee laws_toNeck_D laws_toNeck_H laws_toNeck_ir [.d T_Neck] [.d T_Neck] []
noncomputable def laws_toNeck (a0 : T_Neck.ty) : Option (T_Neck.ty) := laws_toNeck_c.f (a0,())
theorem laws_toNeck_eq (a0 : T_Neck.ty) : laws_toNeck a0 =
 some a0 :=
 (mk_f _ _ _ _ _ _ _ 4000).trans (by kernel_rfl)
def laws_toStack_ir : Fn := { np := 1,io := [],res := [.cell 2 (some 4)],own := [false],body :=
 (.seq (.reg false [.W 1 (.box 4 (.t 0)),.W 2 (.alloc 4 (.agg [.str [],.int .i64 0,.int .i64 0,.int .i64 0]))] [1,2] [1,2]) (.seq (.reg false [.W 3 (.alloc 4 (.agg [.str [],.int .i64 0,.int .i64 0,.int .i64 0]))] [1,2,3] [1,2,3]) (.seq (.reg false [.V 4 (.fa 0 (.t 1)),.V 5 (.ld none (.t 4)),.V 6 (.fa 0 (.t 3)),⟨none,true,.sto 1 (.t 6) (.t 5),none,false,[]⟩] [1,2,3] [1,2,3]) (.seq (.reg false [.V 7 (.fa 1 (.t 1)),.V 8 (.ld none (.t 7)),.V 9 (.fa 1 (.t 3)),⟨none,true,.sto 1 (.t 9) (.t 8),none,false,[]⟩] [1,2,3] [1,2,3]) (.seq (.reg false [.V 10 (.fa 2 (.t 1)),.V 11 (.ld none (.t 10)),.V 12 (.fa 2 (.t 3)),⟨none,true,.sto 1 (.t 12) (.t 11),none,false,[]⟩] [1,2,3] [1,2,3]) (.seq (.reg false [.V 13 (.fa 3 (.t 1)),.V 14 (.ld none (.t 13)),.V 15 (.fa 3 (.t 3)),⟨none,true,.sto 1 (.t 15) (.t 14),none,false,[]⟩] [2,3] [2,3]) (.seq (.reg false [.V 16 (.ld (some 4) (.t 3)),⟨none,true,.sto 4 (.t 2) (.t 16),none,false,[]⟩] [2] [2]) .ret))))))) }
noncomputable def laws_toStack_D : List (Nat × Callee) := []
def laws_toStack_H : List (Nat × ET) := []
noncomputable def laws_toStack_c : Callee := mkCallee laws_toStack_D laws_toStack_H laws_toStack_ir [.d T_Peg] [.d T_Peg] []
noncomputable def laws_toStack (a0 : T_Peg.ty) : Option (T_Peg.ty) := laws_toStack_c.f (a0,())
theorem laws_toStack_eq (a0 : T_Peg.ty) : laws_toStack a0 =
 some a0 :=
 (mk_f _ _ _ _ _ _ _ 4000).trans (by kernel_rfl)
def laws_toStackS_k0 : C :=
 .seq (.seq (.reg false [.V 8 (.mv (.t 4)),.V 9 (.mv (.t 0)),.V 10 (.len (.t 9)),.V 11 (.bin .lss (.t 8) (.t 10))] [0,3,4,11] [3]) (.cond (.t 11) .skip (.exit 0))) (.seq (.block 1 (.reg false [.V 14 (.mv (.t 3)),.V 15 (.mv (.t 4)),.V 16 (.mv (.t 0)),.V 17 (.mv (.t 4)),.V 18 (.ia 4 (.t 16) (.t 17)),.V 19 (.ld (some 4) (.t 18)),.V 20 (.call (.c (.fn 917 [])) [.t 19]),.V 21 (.ia 4 (.t 14) (.t 15)),⟨none,true,.sto 4 (.t 21) (.t 20),none,false,[]⟩] [0,3,4] [3])) (.reg false [.V 12 (.mv (.t 4)),.V 13 (.bin .add (.t 12) (.c (.int .i64 1))),.V 4 (.asg (.t 13))] [0,3,4] [3]))
def laws_toStackS_k1 : C :=
 .norm [0,3,4] [3] laws_toStackS_k0
def laws_toStackS_k2 : C :=
 .seq (.reg false [.V 22 (.mv (.t 3)),.W 2 (.asg (.t 22))] [2] [2,3]) .ret
def laws_toStackS_ir : Fn := { np := 1,io := [],res := [.t 2],own := [true],body :=
 (.seq (.reg false [.W 2 (.asg (.c (.nils 4)))] [0] []) (.seq (.reg false [.V 5 (.mv (.t 0)),.V 6 (.len (.t 5)),.V 7 (.mks 4 40 (.agg [.str [],.int .i64 0,.int .i64 0,.int .i64 0]) (.t 6) (.t 6)),.W 3 (.asg (.t 7))] [0,3] [3]) (.seq (.seq (.reg false [.V 4 (.asg (.c (.int .i64 0)))] [0,3,4] [3]) (.block 0 (.loop laws_toStackS_k1))) laws_toStackS_k2))) }
noncomputable def laws_toStackS_D : List (Nat × Callee) := [(917,laws_toStack_c)]
def laws_toStackS_H : List (Nat × ET) := [(2,T_Peg),(3,T_Peg),(5,T_Peg),(7,T_Peg),(9,T_Peg),(14,T_Peg),(16,T_Peg),(22,T_Peg)]
noncomputable def laws_toStackS_c : Callee := mkCallee laws_toStackS_D laws_toStackS_H laws_toStackS_ir [.d (.one (.sl T_Peg))] [.tok T_Peg] []
noncomputable def laws_toStackS (a0 : List T_Peg.ty) : Option (List T_Peg.ty) := laws_toStackS_c.f (a0,())
noncomputable def laws_toStackS_p0  (v0 : List T_Peg.ty) (v3n : Nat) (v4 : Int) (r3 : List T_Peg.ty) : Option (List T_Peg.ty) :=
 goL laws_toStackS_D laws_toStackS_H (vleave laws_toStackS_ir [.d (.one (.sl T_Peg))] [.tok T_Peg] [] []) [.c laws_toStackS_k0,.l laws_toStackS_k1,.e 0,.c laws_toStackS_k2]
  ⟨[(0,.sl T_Peg v0),(3,.view 3 0 v3n),(4,.int .i64 v4)],[(3,some (.sl T_Peg r3))]⟩
theorem laws_toStackS_eq (a0 : List T_Peg.ty) : laws_toStackS a0 =
 if decide (0 ≤ (a0.length : Int)) && decide ((a0.length : Int) ≤ (a0.length : Int)) && decide ((a0.length : Int).toNat < lim) then
  laws_toStackS_p0 a0 ((List.replicate ((a0.length : Int).toNat) (([],0,0,0,()) : T_Peg.ty)).length) 0 (List.replicate ((a0.length : Int).toNat) (([],0,0,0,()) : T_Peg.ty))
 else
  none :=
 (mk_f _ _ _ _ _ _ _ 4000).trans (by kernel_rfl)
theorem laws_toStackS_p0_eq  (v0 : List T_Peg.ty) (v3n : Nat) (v4 : Int) (r3 : List T_Peg.ty) : laws_toStackS_p0 v0 v3n v4 r3 =
 if decide (v4 < (v0.length : Int)) then
  if decide (0 ≤ v4) then
   (v0[v4.toNat]?).bind fun x1 =>
    (laws_toStack x1).bind fun x2 =>
     if decide (0 ≤ v4) && decide (v4 < (v3n : Int)) then
      (r3[v4.toNat]?).bind fun x3 =>
       laws_toStackS_p0 v0 v3n (IntKind.i64.wrap (v4 + 1)) (r3.set v4.toNat x2)
     else
      none
  else
   none
 else
  some (r3.take v3n) :=
 (goL_dn _ _ _ 4000 _ _).trans (by kernel_rfl)
def laws_toRib_ir : Fn := { np := 1,io := [],res := [.cell 2 (some 3)],own := [false],body :=
 (.seq (.reg false [.W 1 (.box 3 (.t 0)),.W 2 (.alloc 3 (.agg [.str [],.int .i64 0,.int .i64 0]))] [1,2] [1,2]) (.seq (.reg false [.W 3 (.alloc 3 (.agg [.str [],.int .i64 0,.int .i64 0]))] [1,2,3] [1,2,3]) (.seq (.reg false [.V 4 (.fa 0 (.t 1)),.V 5 (.ld none (.t 4)),.V 6 (.fa 0 (.t 3)),⟨none,true,.sto 1 (.t 6) (.t 5),none,false,[]⟩] [1,2,3] [1,2,3]) (.seq (.reg false [.V 7 (.fa 1 (.t 1)),.V 8 (.ld none (.t 7)),.V 9 (.fa 1 (.t 3)),⟨none,true,.sto 1 (.t 9) (.t 8),none,false,[]⟩] [1,2,3] [1,2,3]) (.seq (.reg false [.V 10 (.fa 2 (.t 1)),.V 11 (.ld none (.t 10)),.V 12 (.fa 2 (.t 3)),⟨none,true,.sto 1 (.t 12) (.t 11),none,false,[]⟩] [2,3] [2,3]) (.seq (.reg false [.V 13 (.ld (some 3) (.t 3)),⟨none,true,.sto 3 (.t 2) (.t 13),none,false,[]⟩] [2] [2]) .ret)))))) }
noncomputable def laws_toRib_D : List (Nat × Callee) := []
def laws_toRib_H : List (Nat × ET) := []
noncomputable def laws_toRib_c : Callee := mkCallee laws_toRib_D laws_toRib_H laws_toRib_ir [.d T_Mode] [.d T_Mode] []
noncomputable def laws_toRib (a0 : T_Mode.ty) : Option (T_Mode.ty) := laws_toRib_c.f (a0,())
theorem laws_toRib_eq (a0 : T_Mode.ty) : laws_toRib a0 =
 some a0 :=
 (mk_f _ _ _ _ _ _ _ 4000).trans (by kernel_rfl)
end Go.Ab.P
