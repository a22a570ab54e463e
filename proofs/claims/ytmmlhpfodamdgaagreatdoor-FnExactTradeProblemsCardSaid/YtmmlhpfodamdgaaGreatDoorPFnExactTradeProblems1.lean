/- Functions of the program: abstract forms, and what their runs give. Conditions: none. -/
import Derived.Test.YtmmlhpfodamdgaaGreatDoorL7
set_option maxRecDepth 100000
set_option linter.unusedVariables false
namespace Go.Ab.P
open Go.Ab
@[reducible] def T_Problem : ET := .agg (.cons (.int .i64) (.cons .str (.cons .str .nil)))
@[reducible] def T_Neck : ET := .agg (.cons (.int .i64) (.cons (.int .i64) (.cons (.int .i64) (.cons (.int .i64) .nil))))
@[reducible] def T_Step : ET := .agg (.cons .str (.cons (.int .i64) (.cons (.int .i64) (.cons (.sl (.one (.int .i64))) .nil))))
@[reducible] def T_Paper : ET := .agg (.cons .str (.cons .str (.cons (.int .i64) (.cons (.int .i64) (.cons (.int .i64) .nil)))))
@[reducible] def T_Arc : ET := .agg (.cons (.int .i64) (.cons (.int .i64) (.cons (.int .i64) (.cons (.int .i64) (.cons (.int .i64) (.cons (.int .i64) .nil))))))
@[reducible] def T_Entry : ET := .agg (.cons (.int .i64) (.cons .str (.cons .str (.cons (.int .i64) .nil))))
@[reducible] def T_Shop : ET := .agg (.cons (.sl T_Arc) (.cons (.sl T_Neck) (.cons (.int .i64) (.cons (.sl T_Step) (.cons (.sl (.one (.int .i64))) (.cons (.int .i64) (.cons (.sl T_Paper) (.cons (.sl T_Entry) .nil))))))))
@[reducible] def T_Point : ET := .agg (.cons (.int .i64) (.cons (.int .i64) .nil))
def laws_szArcS_ir : Fn := { np := 2,io := [],res := [.t 4],own := [false],body :=
 (.seq (.reg false [.V 4 (.asg (.c (.int .i64 0)))] [0,1] []) (.seq (.reg false [.V 5 (.mv (.t 1)),.V 6 (.mv (.t 0)),.V 7 (.len (.t 6)),.V 8 (.bin .sub (.t 5) (.t 7)),.V 1 (.asg (.t 8))] [1] []) (.seq (.seq (.reg false [.V 9 (.mv (.t 1)),.V 10 (.bin .lss (.t 9) (.c (.int .i64 0)))] [1,10] []) (.cond (.t 10) (.seq (.reg false [.V 4 (.asg (.c (.int .i64 (-1))))] [4] []) .ret) .skip)) (.seq (.reg false [.V 11 (.mv (.t 1)),.V 4 (.asg (.t 11))] [4] []) .ret)))) }
noncomputable def laws_szArcS_D : List (Nat × Callee) := []
def laws_szArcS_H : List (Nat × ET) := [(6,T_Arc)]
noncomputable def laws_szArcS_c : Callee := mkCallee laws_szArcS_D laws_szArcS_H laws_szArcS_ir [.d (.one (.sl T_Arc)),.d (.one (.int .i64))] [.d (.one (.int .i64))] []
noncomputable def laws_szArcS (a0 : List T_Arc.ty) (a1 : Int) : Option (Int) := laws_szArcS_c.f (a0,a1,())
theorem laws_szArcS_eq (a0 : List T_Arc.ty) (a1 : Int) : laws_szArcS a0 a1 =
 if decide (IntKind.i64.wrap (a1 - (a0.length : Int)) < 0) then
  some (-1)
 else
  some (IntKind.i64.wrap (a1 - (a0.length : Int))) :=
 (mk_f _ _ _ _ _ _ _ 4000).trans (by kernel_rfl)
def laws_szCordS_ir : Fn := { np := 2,io := [],res := [.t 4],own := [false],body :=
 (.seq (.reg false [.V 4 (.asg (.c (.int .i64 0)))] [0,1] []) (.seq (.reg false [.V 5 (.mv (.t 1)),.V 6 (.mv (.t 0)),.V 7 (.len (.t 6)),.V 8 (.bin .sub (.t 5) (.t 7)),.V 1 (.asg (.t 8))] [1] []) (.seq (.seq (.reg false [.V 9 (.mv (.t 1)),.V 10 (.bin .lss (.t 9) (.c (.int .i64 0)))] [1,10] []) (.cond (.t 10) (.seq (.reg false [.V 4 (.asg (.c (.int .i64 (-1))))] [4] []) .ret) .skip)) (.seq (.reg false [.V 11 (.mv (.t 1)),.V 4 (.asg (.t 11))] [4] []) .ret)))) }
noncomputable def laws_szCordS_D : List (Nat × Callee) := []
def laws_szCordS_H : List (Nat × ET) := [(6,T_Neck)]
noncomputable def laws_szCordS_c : Callee := mkCallee laws_szCordS_D laws_szCordS_H laws_szCordS_ir [.d (.one (.sl T_Neck)),.d (.one (.int .i64))] [.d (.one (.int .i64))] []
noncomputable def laws_szCordS (a0 : List T_Neck.ty) (a1 : Int) : Option (Int) := laws_szCordS_c.f (a0,a1,())
theorem laws_szCordS_eq (a0 : List T_Neck.ty) (a1 : Int) : laws_szCordS a0 a1 =
 if decide (IntKind.i64.wrap (a1 - (a0.length : Int)) < 0) then
  some (-1)
 else
  some (IntKind.i64.wrap (a1 - (a0.length : Int))) :=
 (mk_f _ _ _ _ _ _ _ 4000).trans (by kernel_rfl)
def laws_szInt64S_ir : Fn := { np := 2,io := [],res := [.t 4],own := [false],body :=
 (.seq (.reg false [.V 4 (.asg (.c (.int .i64 0)))] [0,1] []) (.seq (.reg false [.V 5 (.mv (.t 1)),.V 6 (.mv (.t 0)),.V 7 (.len (.t 6)),.V 8 (.bin .sub (.t 5) (.t 7)),.V 1 (.asg (.t 8))] [1] []) (.seq (.seq (.reg false [.V 9 (.mv (.t 1)),.V 10 (.bin .lss (.t 9) (.c (.int .i64 0)))] [1,10] []) (.cond (.t 10) (.seq (.reg false [.V 4 (.asg (.c (.int .i64 (-1))))] [4] []) .ret) .skip)) (.seq (.reg false [.V 11 (.mv (.t 1)),.V 4 (.asg (.t 11))] [4] []) .ret)))) }
noncomputable def laws_szInt64S_D : List (Nat × Callee) := []
def laws_szInt64S_H : List (Nat × ET) := [(6,(.one (.int .i64)))]
noncomputable def laws_szInt64S_c : Callee := mkCallee laws_szInt64S_D laws_szInt64S_H laws_szInt64S_ir [.d (.one (.sl (.one (.int .i64)))),.d (.one (.int .i64))] [.d (.one (.int .i64))] []
noncomputable def laws_szInt64S (a0 : List Int) (a1 : Int) : Option (Int) := laws_szInt64S_c.f (a0,a1,())
theorem laws_szInt64S_eq (a0 : List Int) (a1 : Int) : laws_szInt64S a0 a1 =
 if decide (IntKind.i64.wrap (a1 - (a0.length : Int)) < 0) then
  some (-1)
 else
  some (IntKind.i64.wrap (a1 - (a0.length : Int))) :=
 (mk_f _ _ _ _ _ _ _ 4000).trans (by kernel_rfl)
def laws_szStep_ir : Fn := { np := 2,io := [],res := [.t 4],own := [false],body :=
 (.seq (.reg false [.W 2 (.box 4 (.t 0)),.V 4 (.asg (.c (.int .i64 0)))] [1,2] [2,3003]) (.seq (.reg false [.V 5 (.mv (.t 1)),.V 6 (.fa 0 (.t 2)),.V 7 (.ld none (.t 6)),.V 8 (.lens (.t 7)),.V 9 (.bin .sub (.t 5) (.t 8)),.V 1 (.asg (.t 9))] [1,2] [2,3003]) (.seq (.seq (.reg false [.V 10 (.mv (.t 1)),.V 11 (.bin .lss (.t 10) (.c (.int .i64 0)))] [1,2,11] [2,3003]) (.cond (.t 11) (.seq (.reg false [.V 4 (.asg (.c (.int .i64 (-1))))] [4] []) .ret) .skip)) (.seq (.reg false [.V 12 (.fa 3 (.t 2)),.V 13 (.ld none (.t 12)),.V 14 (.mv (.t 1)),.V 15 (.call (.c (.fn 598 [])) [.t 13,.t 14]),.V 1 (.asg (.t 15))] [1] []) (.seq (.seq (.reg false [.V 16 (.mv (.t 1)),.V 17 (.bin .lss (.t 16) (.c (.int .i64 0)))] [1,17] []) (.cond (.t 17) (.seq (.reg false [.V 4 (.asg (.c (.int .i64 (-1))))] [4] []) .ret) .skip)) (.seq (.reg false [.V 18 (.mv (.t 1)),.V 4 (.asg (.t 18))] [4] []) .ret)))))) }
noncomputable def laws_szStep_D : List (Nat × Callee) := [(598,laws_szInt64S_c)]
def laws_szStep_H : List (Nat × ET) := [(13,(.one (.int .i64)))]
noncomputable def laws_szStep_c : Callee := mkCallee laws_szStep_D laws_szStep_H laws_szStep_ir [.d T_Step,.d (.one (.int .i64))] [.d (.one (.int .i64))] []
noncomputable def laws_szStep (a0 : T_Step.ty) (a1 : Int) : Option (Int) := laws_szStep_c.f (a0,a1,())
theorem laws_szStep_eq (a0 : T_Step.ty) (a1 : Int) : laws_szStep a0 a1 =
 if decide (IntKind.i64.wrap (a1 - (a0.1.length : Int)) < 0) then
  some (-1)
 else
  (laws_szInt64S a0.2.2.2.1 (IntKind.i64.wrap (a1 - (a0.1.length : Int)))).bind fun x1 =>
   if decide (x1 < 0) then
    some (-1)
   else
    some x1 :=
 (mk_f _ _ _ _ _ _ _ 4000).trans (by kernel_rfl)
def laws_szStepS_k0 : C :=
 .seq (.seq (.reg false [.V 12 (.mv (.t 5)),.V 13 (.mv (.t 0)),.V 14 (.len (.t 13)),.V 15 (.bin .lss (.t 12) (.t 14))] [0,1,5,15] []) (.cond (.t 15) .skip (.exit 0))) (.seq (.block 1 (.seq (.reg false [.V 18 (.mv (.t 0)),.V 19 (.mv (.t 5)),.V 20 (.ia 4 (.t 18) (.t 19)),.V 21 (.ld (some 4) (.t 20)),.V 22 (.mv (.t 1)),.V 23 (.call (.c (.fn 885 [])) [.t 21,.t 22]),.V 1 (.asg (.t 23))] [0,1,5] []) (.seq (.reg false [.V 24 (.mv (.t 1)),.V 25 (.bin .lss (.t 24) (.c (.int .i64 0)))] [0,1,5,25] []) (.cond (.t 25) (.seq (.reg false [.V 4 (.asg (.c (.int .i64 (-1))))] [4] []) .ret) .skip)))) (.reg false [.V 16 (.mv (.t 5)),.V 17 (.bin .add (.t 16) (.c (.int .i64 1))),.V 5 (.asg (.t 17))] [0,1,5] []))
def laws_szStepS_k1 : C :=
 .norm [0,1,5] [] laws_szStepS_k0
def laws_szStepS_k2 : C :=
 .seq (.reg false [.V 26 (.mv (.t 1)),.V 4 (.asg (.t 26))] [4] []) .ret
def laws_szStepS_ir : Fn := { np := 2,io := [],res := [.t 4],own := [false],body :=
 (.seq (.reg false [.V 4 (.asg (.c (.int .i64 0)))] [0,1] []) (.seq (.reg false [.V 6 (.mv (.t 1)),.V 7 (.mv (.t 0)),.V 8 (.len (.t 7)),.V 9 (.bin .sub (.t 6) (.t 8)),.V 1 (.asg (.t 9))] [0,1] []) (.seq (.seq (.reg false [.V 10 (.mv (.t 1)),.V 11 (.bin .lss (.t 10) (.c (.int .i64 0)))] [0,1,11] []) (.cond (.t 11) (.seq (.reg false [.V 4 (.asg (.c (.int .i64 (-1))))] [4] []) .ret) .skip)) (.seq (.seq (.reg false [.V 5 (.asg (.c (.int .i64 0)))] [0,1,5] []) (.block 0 (.loop laws_szStepS_k1))) laws_szStepS_k2)))) }
noncomputable def laws_szStepS_D : List (Nat × Callee) := [(885,laws_szStep_c)]
def laws_szStepS_H : List (Nat × ET) := [(7,T_Step),(13,T_Step),(18,T_Step)]
noncomputable def laws_szStepS_c : Callee := mkCallee laws_szStepS_D laws_szStepS_H laws_szStepS_ir [.d (.one (.sl T_Step)),.d (.one (.int .i64))] [.d (.one (.int .i64))] []
noncomputable def laws_szStepS (a0 : List T_Step.ty) (a1 : Int) : Option (Int) := laws_szStepS_c.f (a0,a1,())
noncomputable def laws_szStepS_p0  (v0 : List T_Step.ty) (v1 : Int) (v5 : Int) : Option (Int) :=
 goL laws_szStepS_D laws_szStepS_H (vleave laws_szStepS_ir [.d (.one (.sl T_Step)),.d (.one (.int .i64))] [.d (.one (.int .i64))] [] []) [.c laws_szStepS_k0,.l laws_szStepS_k1,.e 0,.c laws_szStepS_k2]
  ⟨[(0,.sl T_Step v0),(1,.int .i64 v1),(5,.int .i64 v5)],[]⟩
theorem laws_szStepS_eq (a0 : List T_Step.ty) (a1 : Int) : laws_szStepS a0 a1 =
 if decide (IntKind.i64.wrap (a1 - (a0.length : Int)) < 0) then
  some (-1)
 else
  laws_szStepS_p0 a0 (IntKind.i64.wrap (a1 - (a0.length : Int))) 0 :=
 (mk_f _ _ _ _ _ _ _ 4000).trans (by kernel_rfl)
theorem laws_szStepS_p0_eq  (v0 : List T_Step.ty) (v1 : Int) (v5 : Int) : laws_szStepS_p0 v0 v1 v5 =
 if decide (v5 < (v0.length : Int)) then
  if decide (0 ≤ v5) then
   (v0[v5.toNat]?).bind fun x1 =>
    (laws_szStep x1 v1).bind fun x2 =>
     if decide (x2 < 0) then
      some (-1)
     else
      laws_szStepS_p0 v0 x2 (IntKind.i64.wrap (v5 + 1))
  else
   none
 else
  some v1 :=
 (goL_dn _ _ _ 4000 _ _).trans (by kernel_rfl)
def laws_szRental_ir : Fn := { np := 2,io := [],res := [.t 4],own := [false],body :=
 (.seq (.reg false [.W 2 (.box 5 (.t 0)),.V 4 (.asg (.c (.int .i64 0)))] [1,2] [2]) (.seq (.reg false [.V 5 (.mv (.t 1)),.V 6 (.fa 0 (.t 2)),.V 7 (.ld none (.t 6)),.V 8 (.lens (.t 7)),.V 9 (.bin .sub (.t 5) (.t 8)),.V 1 (.asg (.t 9))] [1,2] [2]) (.seq (.seq (.reg false [.V 10 (.mv (.t 1)),.V 11 (.bin .lss (.t 10) (.c (.int .i64 0)))] [1,2,11] [2]) (.cond (.t 11) (.seq (.reg false [.V 4 (.asg (.c (.int .i64 (-1))))] [4] []) .ret) .skip)) (.seq (.reg false [.V 12 (.mv (.t 1)),.V 13 (.fa 1 (.t 2)),.V 14 (.ld none (.t 13)),.V 15 (.lens (.t 14)),.V 16 (.bin .sub (.t 12) (.t 15)),.V 1 (.asg (.t 16))] [1] []) (.seq (.seq (.reg false [.V 17 (.mv (.t 1)),.V 18 (.bin .lss (.t 17) (.c (.int .i64 0)))] [1,18] []) (.cond (.t 18) (.seq (.reg false [.V 4 (.asg (.c (.int .i64 (-1))))] [4] []) .ret) .skip)) (.seq (.reg false [.V 19 (.mv (.t 1)),.V 4 (.asg (.t 19))] [4] []) .ret)))))) }
noncomputable def laws_szRental_D : List (Nat × Callee) := []
def laws_szRental_H : List (Nat × ET) := []
noncomputable def laws_szRental_c : Callee := mkCallee laws_szRental_D laws_szRental_H laws_szRental_ir [.d T_Paper,.d (.one (.int .i64))] [.d (.one (.int .i64))] []
noncomputable def laws_szRental (a0 : T_Paper.ty) (a1 : Int) : Option (Int) := laws_szRental_c.f (a0,a1,())
theorem laws_szRental_eq (a0 : T_Paper.ty) (a1 : Int) : laws_szRental a0 a1 =
 if decide (IntKind.i64.wrap (a1 - (a0.1.length : Int)) < 0) then
  some (-1)
 else
  if decide (IntKind.i64.wrap ((IntKind.i64.wrap (a1 - (a0.1.length : Int))) - (a0.2.1.length : Int)) < 0) then
   some (-1)
  else
   some (IntKind.i64.wrap ((IntKind.i64.wrap (a1 - (a0.1.length : Int))) - (a0.2.1.length : Int))) :=
 (mk_f _ _ _ _ _ _ _ 4000).trans (by kernel_rfl)
def laws_szRentalS_k0 : C :=
 .seq (.seq (.reg false [.V 12 (.mv (.t 5)),.V 13 (.mv (.t 0)),.V 14 (.len (.t 13)),.V 15 (.bin .lss (.t 12) (.t 14))] [0,1,5,15] []) (.cond (.t 15) .skip (.exit 0))) (.seq (.block 1 (.seq (.reg false [.V 18 (.mv (.t 0)),.V 19 (.mv (.t 5)),.V 20 (.ia 5 (.t 18) (.t 19)),.V 21 (.ld (some 5) (.t 20)),.V 22 (.mv (.t 1)),.V 23 (.call (.c (.fn 886 [])) [.t 21,.t 22]),.V 1 (.asg (.t 23))] [0,1,5] []) (.seq (.reg false [.V 24 (.mv (.t 1)),.V 25 (.bin .lss (.t 24) (.c (.int .i64 0)))] [0,1,5,25] []) (.cond (.t 25) (.seq (.reg false [.V 4 (.asg (.c (.int .i64 (-1))))] [4] []) .ret) .skip)))) (.reg false [.V 16 (.mv (.t 5)),.V 17 (.bin .add (.t 16) (.c (.int .i64 1))),.V 5 (.asg (.t 17))] [0,1,5] []))
def laws_szRentalS_k1 : C :=
 .norm [0,1,5] [] laws_szRentalS_k0
def laws_szRentalS_k2 : C :=
 .seq (.reg false [.V 26 (.mv (.t 1)),.V 4 (.asg (.t 26))] [4] []) .ret
def laws_szRentalS_ir : Fn := { np := 2,io := [],res := [.t 4],own := [false],body :=
 (.seq (.reg false [.V 4 (.asg (.c (.int .i64 0)))] [0,1] []) (.seq (.reg false [.V 6 (.mv (.t 1)),.V 7 (.mv (.t 0)),.V 8 (.len (.t 7)),.V 9 (.bin .sub (.t 6) (.t 8)),.V 1 (.asg (.t 9))] [0,1] []) (.seq (.seq (.reg false [.V 10 (.mv (.t 1)),.V 11 (.bin .lss (.t 10) (.c (.int .i64 0)))] [0,1,11] []) (.cond (.t 11) (.seq (.reg false [.V 4 (.asg (.c (.int .i64 (-1))))] [4] []) .ret) .skip)) (.seq (.seq (.reg false [.V 5 (.asg (.c (.int .i64 0)))] [0,1,5] []) (.block 0 (.loop laws_szRentalS_k1))) laws_szRentalS_k2)))) }
noncomputable def laws_szRentalS_D : List (Nat × Callee) := [(886,laws_szRental_c)]
def laws_szRentalS_H : List (Nat × ET) := [(7,T_Paper),(13,T_Paper),(18,T_Paper)]
noncomputable def laws_szRentalS_c : Callee := mkCallee laws_szRentalS_D laws_szRentalS_H laws_szRentalS_ir [.d (.one (.sl T_Paper)),.d (.one (.int .i64))] [.d (.one (.int .i64))] []
noncomputable def laws_szRentalS (a0 : List T_Paper.ty) (a1 : Int) : Option (Int) := laws_szRentalS_c.f (a0,a1,())
noncomputable def laws_szRentalS_p0  (v0 : List T_Paper.ty) (v1 : Int) (v5 : Int) : Option (Int) :=
 goL laws_szRentalS_D laws_szRentalS_H (vleave laws_szRentalS_ir [.d (.one (.sl T_Paper)),.d (.one (.int .i64))] [.d (.one (.int .i64))] [] []) [.c laws_szRentalS_k0,.l laws_szRentalS_k1,.e 0,.c laws_szRentalS_k2]
  ⟨[(0,.sl T_Paper v0),(1,.int .i64 v1),(5,.int .i64 v5)],[]⟩
theorem laws_szRentalS_eq (a0 : List T_Paper.ty) (a1 : Int) : laws_szRentalS a0 a1 =
 if decide (IntKind.i64.wrap (a1 - (a0.length : Int)) < 0) then
  some (-1)
 else
  laws_szRentalS_p0 a0 (IntKind.i64.wrap (a1 - (a0.length : Int))) 0 :=
 (mk_f _ _ _ _ _ _ _ 4000).trans (by kernel_rfl)
theorem laws_szRentalS_p0_eq  (v0 : List T_Paper.ty) (v1 : Int) (v5 : Int) : laws_szRentalS_p0 v0 v1 v5 =
 if decide (v5 < (v0.length : Int)) then
  if decide (0 ≤ v5) then
   (v0[v5.toNat]?).bind fun x1 =>
    (laws_szRental x1 v1).bind fun x2 =>
     if decide (x2 < 0) then
      some (-1)
     else
      laws_szRentalS_p0 v0 x2 (IntKind.i64.wrap (v5 + 1))
  else
   none
 else
  some v1 :=
 (goL_dn _ _ _ 4000 _ _).trans (by kernel_rfl)
def laws_szEntry_ir : Fn := { np := 2,io := [],res := [.t 4],own := [false],body :=
 (.seq (.reg false [.W 2 (.box 4 (.t 0)),.V 4 (.asg (.c (.int .i64 0)))] [1,2] [2]) (.seq (.reg false [.V 5 (.mv (.t 1)),.V 6 (.fa 1 (.t 2)),.V 7 (.ld none (.t 6)),.V 8 (.lens (.t 7)),.V 9 (.bin .sub (.t 5) (.t 8)),.V 1 (.asg (.t 9))] [1,2] [2]) (.seq (.seq (.reg false [.V 10 (.mv (.t 1)),.V 11 (.bin .lss (.t 10) (.c (.int .i64 0)))] [1,2,11] [2]) (.cond (.t 11) (.seq (.reg false [.V 4 (.asg (.c (.int .i64 (-1))))] [4] []) .ret) .skip)) (.seq (.reg false [.V 12 (.mv (.t 1)),.V 13 (.fa 2 (.t 2)),.V 14 (.ld none (.t 13)),.V 15 (.lens (.t 14)),.V 16 (.bin .sub (.t 12) (.t 15)),.V 1 (.asg (.t 16))] [1] []) (.seq (.seq (.reg false [.V 17 (.mv (.t 1)),.V 18 (.bin .lss (.t 17) (.c (.int .i64 0)))] [1,18] []) (.cond (.t 18) (.seq (.reg false [.V 4 (.asg (.c (.int .i64 (-1))))] [4] []) .ret) .skip)) (.seq (.reg false [.V 19 (.mv (.t 1)),.V 4 (.asg (.t 19))] [4] []) .ret)))))) }
noncomputable def laws_szEntry_D : List (Nat × Callee) := []
def laws_szEntry_H : List (Nat × ET) := []
noncomputable def laws_szEntry_c : Callee := mkCallee laws_szEntry_D laws_szEntry_H laws_szEntry_ir [.d T_Entry,.d (.one (.int .i64))] [.d (.one (.int .i64))] []
noncomputable def laws_szEntry (a0 : T_Entry.ty) (a1 : Int) : Option (Int) := laws_szEntry_c.f (a0,a1,())
theorem laws_szEntry_eq (a0 : T_Entry.ty) (a1 : Int) : laws_szEntry a0 a1 =
 if decide (IntKind.i64.wrap (a1 - (a0.2.1.length : Int)) < 0) then
  some (-1)
 else
  if decide (IntKind.i64.wrap ((IntKind.i64.wrap (a1 - (a0.2.1.length : Int))) - (a0.2.2.1.length : Int)) < 0) then
   some (-1)
  else
   some (IntKind.i64.wrap ((IntKind.i64.wrap (a1 - (a0.2.1.length : Int))) - (a0.2.2.1.length : Int))) :=
 (mk_f _ _ _ _ _ _ _ 4000).trans (by kernel_rfl)
def laws_szEntryS_k0 : C :=
 .seq (.seq (.reg false [.V 12 (.mv (.t 5)),.V 13 (.mv (.t 0)),.V 14 (.len (.t 13)),.V 15 (.bin .lss (.t 12) (.t 14))] [0,1,5,15] []) (.cond (.t 15) .skip (.exit 0))) (.seq (.block 1 (.seq (.reg false [.V 18 (.mv (.t 0)),.V 19 (.mv (.t 5)),.V 20 (.ia 4 (.t 18) (.t 19)),.V 21 (.ld (some 4) (.t 20)),.V 22 (.mv (.t 1)),.V 23 (.call (.c (.fn 887 [])) [.t 21,.t 22]),.V 1 (.asg (.t 23))] [0,1,5] []) (.seq (.reg false [.V 24 (.mv (.t 1)),.V 25 (.bin .lss (.t 24) (.c (.int .i64 0)))] [0,1,5,25] []) (.cond (.t 25) (.seq (.reg false [.V 4 (.asg (.c (.int .i64 (-1))))] [4] []) .ret) .skip)))) (.reg false [.V 16 (.mv (.t 5)),.V 17 (.bin .add (.t 16) (.c (.int .i64 1))),.V 5 (.asg (.t 17))] [0,1,5] []))
def laws_szEntryS_k1 : C :=
 .norm [0,1,5] [] laws_szEntryS_k0
def laws_szEntryS_k2 : C :=
 .seq (.reg false [.V 26 (.mv (.t 1)),.V 4 (.asg (.t 26))] [4] []) .ret
def laws_szEntryS_ir : Fn := { np := 2,io := [],res := [.t 4],own := [false],body :=
 (.seq (.reg false [.V 4 (.asg (.c (.int .i64 0)))] [0,1] []) (.seq (.reg false [.V 6 (.mv (.t 1)),.V 7 (.mv (.t 0)),.V 8 (.len (.t 7)),.V 9 (.bin .sub (.t 6) (.t 8)),.V 1 (.asg (.t 9))] [0,1] []) (.seq (.seq (.reg false [.V 10 (.mv (.t 1)),.V 11 (.bin .lss (.t 10) (.c (.int .i64 0)))] [0,1,11] []) (.cond (.t 11) (.seq (.reg false [.V 4 (.asg (.c (.int .i64 (-1))))] [4] []) .ret) .skip)) (.seq (.seq (.reg false [.V 5 (.asg (.c (.int .i64 0)))] [0,1,5] []) (.block 0 (.loop laws_szEntryS_k1))) laws_szEntryS_k2)))) }
noncomputable def laws_szEntryS_D : List (Nat × Callee) := [(887,laws_szEntry_c)]
def laws_szEntryS_H : List (Nat × ET) := [(7,T_Entry),(13,T_Entry),(18,T_Entry)]
noncomputable def laws_szEntryS_c : Callee := mkCallee laws_szEntryS_D laws_szEntryS_H laws_szEntryS_ir [.d (.one (.sl T_Entry)),.d (.one (.int .i64))] [.d (.one (.int .i64))] []
noncomputable def laws_szEntryS (a0 : List T_Entry.ty) (a1 : Int) : Option (Int) := laws_szEntryS_c.f (a0,a1,())
noncomputable def laws_szEntryS_p0  (v0 : List T_Entry.ty) (v1 : Int) (v5 : Int) : Option (Int) :=
 goL laws_szEntryS_D laws_szEntryS_H (vleave laws_szEntryS_ir [.d (.one (.sl T_Entry)),.d (.one (.int .i64))] [.d (.one (.int .i64))] [] []) [.c laws_szEntryS_k0,.l laws_szEntryS_k1,.e 0,.c laws_szEntryS_k2]
  ⟨[(0,.sl T_Entry v0),(1,.int .i64 v1),(5,.int .i64 v5)],[]⟩
theorem laws_szEntryS_eq (a0 : List T_Entry.ty) (a1 : Int) : laws_szEntryS a0 a1 =
 if decide (IntKind.i64.wrap (a1 - (a0.length : Int)) < 0) then
  some (-1)
 else
  laws_szEntryS_p0 a0 (IntKind.i64.wrap (a1 - (a0.length : Int))) 0 :=
 (mk_f _ _ _ _ _ _ _ 4000).trans (by kernel_rfl)
theorem laws_szEntryS_p0_eq  (v0 : List T_Entry.ty) (v1 : Int) (v5 : Int) : laws_szEntryS_p0 v0 v1 v5 =
 if decide (v5 < (v0.length : Int)) then
  if decide (0 ≤ v5) then
   (v0[v5.toNat]?).bind fun x1 =>
    (laws_szEntry x1 v1).bind fun x2 =>
     if decide (x2 < 0) then
      some (-1)
     else
      laws_szEntryS_p0 v0 x2 (IntKind.i64.wrap (v5 + 1))
  else
   none
 else
  some v1 :=
 (goL_dn _ _ _ 4000 _ _).trans (by kernel_rfl)
def laws_szShop_ir : Fn := { np := 2,io := [],res := [.t 4],own := [false],body :=
 (.seq (.reg false [.W 2 (.box 8 (.t 0)),.V 4 (.asg (.c (.int .i64 0)))] [1,2] [2,3000,3001,3003,3004,3006,3007]) (.seq (.reg false [.V 5 (.fa 0 (.t 2)),.V 6 (.ld none (.t 5)),.V 7 (.mv (.t 1)),.V 8 (.call (.c (.fn 601 [])) [.t 6,.t 7]),.V 1 (.asg (.t 8))] [1,2] [2,3000,3001,3003,3004,3006,3007]) (.seq (.seq (.reg false [.V 9 (.mv (.t 1)),.V 10 (.bin .lss (.t 9) (.c (.int .i64 0)))] [1,2,10] [2,3000,3001,3003,3004,3006,3007]) (.cond (.t 10) (.seq (.reg false [.V 4 (.asg (.c (.int .i64 (-1))))] [4] []) .ret) .skip)) (.seq (.reg false [.V 11 (.fa 1 (.t 2)),.V 12 (.ld none (.t 11)),.V 13 (.mv (.t 1)),.V 14 (.call (.c (.fn 600 [])) [.t 12,.t 13]),.V 1 (.asg (.t 14))] [1,2] [2,3000,3001,3003,3004,3006,3007]) (.seq (.seq (.reg false [.V 15 (.mv (.t 1)),.V 16 (.bin .lss (.t 15) (.c (.int .i64 0)))] [1,2,16] [2,3000,3001,3003,3004,3006,3007]) (.cond (.t 16) (.seq (.reg false [.V 4 (.asg (.c (.int .i64 (-1))))] [4] []) .ret) .skip)) (.seq (.reg false [.V 17 (.fa 3 (.t 2)),.V 18 (.ld none (.t 17)),.V 19 (.mv (.t 1)),.V 20 (.call (.c (.fn 599 [])) [.t 18,.t 19]),.V 1 (.asg (.t 20))] [1,2] [2,3000,3001,3003,3004,3006,3007]) (.seq (.seq (.reg false [.V 21 (.mv (.t 1)),.V 22 (.bin .lss (.t 21) (.c (.int .i64 0)))] [1,2,22] [2,3000,3001,3003,3004,3006,3007]) (.cond (.t 22) (.seq (.reg false [.V 4 (.asg (.c (.int .i64 (-1))))] [4] []) .ret) .skip)) (.seq (.reg false [.V 23 (.fa 4 (.t 2)),.V 24 (.ld none (.t 23)),.V 25 (.mv (.t 1)),.V 26 (.call (.c (.fn 598 [])) [.t 24,.t 25]),.V 1 (.asg (.t 26))] [1,2] [2,3000,3001,3003,3004,3006,3007]) (.seq (.seq (.reg false [.V 27 (.mv (.t 1)),.V 28 (.bin .lss (.t 27) (.c (.int .i64 0)))] [1,2,28] [2,3000,3001,3003,3004,3006,3007]) (.cond (.t 28) (.seq (.reg false [.V 4 (.asg (.c (.int .i64 (-1))))] [4] []) .ret) .skip)) (.seq (.reg false [.V 29 (.fa 6 (.t 2)),.V 30 (.ld none (.t 29)),.V 31 (.mv (.t 1)),.V 32 (.call (.c (.fn 597 [])) [.t 30,.t 31]),.V 1 (.asg (.t 32))] [1,2] [2,3000,3001,3003,3004,3006,3007]) (.seq (.seq (.reg false [.V 33 (.mv (.t 1)),.V 34 (.bin .lss (.t 33) (.c (.int .i64 0)))] [1,2,34] [2,3000,3001,3003,3004,3006,3007]) (.cond (.t 34) (.seq (.reg false [.V 4 (.asg (.c (.int .i64 (-1))))] [4] []) .ret) .skip)) (.seq (.reg false [.V 35 (.fa 7 (.t 2)),.V 36 (.ld none (.t 35)),.V 37 (.mv (.t 1)),.V 38 (.call (.c (.fn 596 [])) [.t 36,.t 37]),.V 1 (.asg (.t 38))] [1] []) (.seq (.seq (.reg false [.V 39 (.mv (.t 1)),.V 40 (.bin .lss (.t 39) (.c (.int .i64 0)))] [1,40] []) (.cond (.t 40) (.seq (.reg false [.V 4 (.asg (.c (.int .i64 (-1))))] [4] []) .ret) .skip)) (.seq (.reg false [.V 41 (.mv (.t 1)),.V 4 (.asg (.t 41))] [4] []) .ret)))))))))))))) }
noncomputable def laws_szShop_D : List (Nat × Callee) := [(596,laws_szEntryS_c),(597,laws_szRentalS_c),(598,laws_szInt64S_c),(599,laws_szStepS_c),(600,laws_szCordS_c),(601,laws_szArcS_c)]
def laws_szShop_H : List (Nat × ET) := [(6,T_Arc),(12,T_Neck),(18,T_Step),(24,(.one (.int .i64))),(30,T_Paper),(36,T_Entry)]
noncomputable def laws_szShop_c : Callee := mkCallee laws_szShop_D laws_szShop_H laws_szShop_ir [.d T_Shop,.d (.one (.int .i64))] [.d (.one (.int .i64))] []
noncomputable def laws_szShop (a0 : T_Shop.ty) (a1 : Int) : Option (Int) := laws_szShop_c.f (a0,a1,())
theorem laws_szShop_eq (a0 : T_Shop.ty) (a1 : Int) : laws_szShop a0 a1 =
 (laws_szArcS a0.1 a1).bind fun x1 =>
  if decide (x1 < 0) then
   some (-1)
  else
   (laws_szCordS a0.2.1 x1).bind fun x2 =>
    if decide (x2 < 0) then
     some (-1)
    else
     (laws_szStepS a0.2.2.2.1 x2).bind fun x3 =>
      if decide (x3 < 0) then
       some (-1)
      else
       (laws_szInt64S a0.2.2.2.2.1 x3).bind fun x4 =>
        if decide (x4 < 0) then
         some (-1)
        else
         (laws_szRentalS a0.2.2.2.2.2.2.1 x4).bind fun x5 =>
          if decide (x5 < 0) then
           some (-1)
          else
           (laws_szEntryS a0.2.2.2.2.2.2.2.1 x5).bind fun x6 =>
            if decide (x6 < 0) then
             some (-1)
            else
             some x6 :=
 (mk_f _ _ _ _ _ _ _ 4000).trans (by kernel_rfl)
def spec_l00In_ir : Fn := { np := 3,io := [],res := [.t 6],own := [false],body :=
 (.seq (.reg false [.V 6 (.asg (.c (.bool false)))] [0,1,2] []) (.seq (.reg false [.V 7 (.mv (.t 0)),.V 8 (.mv (.t 1)),.V 9 (.bin .geq (.t 7) (.t 8)),.V 10 (.mv (.t 9)),.G 11 (.mv (.t 0)) 3 true,.G 12 (.mv (.t 2)) 3 true,.G 13 (.bin .leq (.t 11) (.t 12)) 3 true,.V 14 (.pick (.t 10) (.t 13) (.c (.bool false))),.V 6 (.asg (.t 14))] [6] []) .ret)) }
noncomputable def spec_l00In_D : List (Nat × Callee) := []
def spec_l00In_H : List (Nat × ET) := []
noncomputable def spec_l00In_c : Callee := mkCallee spec_l00In_D spec_l00In_H spec_l00In_ir [.d (.one (.int .i64)),.d (.one (.int .i64)),.d (.one (.int .i64))] [.d (.one .bool)] []
noncomputable def spec_l00In (a0 : Int) (a1 : Int) (a2 : Int) : Option (Bool) := spec_l00In_c.f (a0,a1,a2,())
theorem spec_l00In_eq (a0 : Int) (a1 : Int) (a2 : Int) : spec_l00In a0 a1 a2 =
 if decide (a0 ≥ a1) then
  some (decide (a0 ≤ a2))
 else
  some false :=
 (mk_f _ _ _ _ _ _ _ 4000).trans (by kernel_rfl)
def spec_l05Point_ir : Fn := { np := 1,io := [],res := [.t 2],own := [false],body :=
 (.seq (.reg false [.W 1 (.box 2 (.t 0)),.V 2 (.asg (.c (.bool false)))] [1] [1]) (.seq (.reg false [.V 3 (.fa 0 (.t 1)),.V 4 (.ld none (.t 3)),.V 5 (.call (.c (.fn 1 [])) [.t 4,.c (.int .i64 (-100000)),.c (.int .i64 100000)]),.V 6 (.mv (.t 5)),.G 7 (.fa 1 (.t 1)) 3 true,.G 8 (.ld none (.t 7)) 3 true,.G 9 (.call (.c (.fn 1 [])) [.t 8,.c (.int .i64 (-100000)),.c (.int .i64 100000)]) 3 true,.V 10 (.pick (.t 6) (.t 9) (.c (.bool false))),.V 2 (.asg (.t 10))] [2] []) .ret)) }
noncomputable def spec_l05Point_D : List (Nat × Callee) := [(1,spec_l00In_c)]
def spec_l05Point_H : List (Nat × ET) := []
noncomputable def spec_l05Point_c : Callee := mkCallee spec_l05Point_D spec_l05Point_H spec_l05Point_ir [.d T_Point] [.d (.one .bool)] []
noncomputable def spec_l05Point (a0 : T_Point.ty) : Option (Bool) := spec_l05Point_c.f (a0,())
theorem spec_l05Point_eq (a0 : T_Point.ty) : spec_l05Point a0 =
 (spec_l00In a0.1 (-100000) 100000).bind fun x1 =>
  if x1 then
   (spec_l00In a0.2.1 (-100000) 100000).bind fun x2 =>
    some x2
  else
   some false :=
 (mk_f _ _ _ _ _ _ _ 4000).trans (by kernel_rfl)
def spec_l05Square_ir : Fn := { np := 2,io := [],res := [.t 4],own := [false],body :=
 (.seq (.reg false [.W 2 (.box 2 (.t 0)),.W 3 (.box 2 (.t 1)),.V 4 (.asg (.c (.int .i64 0)))] [2,3] [2,3]) (.seq (.reg false [.V 5 (.fa 0 (.t 2)),.V 6 (.ld none (.t 5)),.V 7 (.fa 0 (.t 3)),.V 8 (.ld none (.t 7)),.V 9 (.bin .sub (.t 6) (.t 8)),.V 10 (.fa 0 (.t 2)),.V 11 (.ld none (.t 10)),.V 12 (.fa 0 (.t 3)),.V 13 (.ld none (.t 12)),.V 14 (.bin .sub (.t 11) (.t 13)),.V 15 (.bin .mul (.t 9) (.t 14)),.V 16 (.fa 1 (.t 2)),.V 17 (.ld none (.t 16)),.V 18 (.fa 1 (.t 3)),.V 19 (.ld none (.t 18)),.V 20 (.bin .sub (.t 17) (.t 19)),.V 21 (.fa 1 (.t 2)),.V 22 (.ld none (.t 21)),.V 23 (.fa 1 (.t 3)),.V 24 (.ld none (.t 23)),.V 25 (.bin .sub (.t 22) (.t 24)),.V 26 (.bin .mul (.t 20) (.t 25)),.V 27 (.bin .add (.t 15) (.t 26)),.V 4 (.asg (.t 27))] [4] []) .ret)) }
noncomputable def spec_l05Square_D : List (Nat × Callee) := []
def spec_l05Square_H : List (Nat × ET) := []
noncomputable def spec_l05Square_c : Callee := mkCallee spec_l05Square_D spec_l05Square_H spec_l05Square_ir [.d T_Point,.d T_Point] [.d (.one (.int .i64))] []
noncomputable def spec_l05Square (a0 : T_Point.ty) (a1 : T_Point.ty) : Option (Int) := spec_l05Square_c.f (a0,a1,())
theorem spec_l05Square_eq (a0 : T_Point.ty) (a1 : T_Point.ty) : spec_l05Square a0 a1 =
 some (IntKind.i64.wrap ((IntKind.i64.wrap ((IntKind.i64.wrap (a0.1 - a1.1)) * (IntKind.i64.wrap (a0.1 - a1.1)))) + (IntKind.i64.wrap ((IntKind.i64.wrap (a0.2.1 - a1.2.1)) * (IntKind.i64.wrap (a0.2.1 - a1.2.1)))))) :=
 (mk_f _ _ _ _ _ _ _ 4000).trans (by kernel_rfl)
def spec_l05One_k0 : C :=
 .seq (.reg true [.V 36 (.mv (.t 0)),.V 37 (.nilck (.t 36)),.V 38 (.fa 0 (.t 37)),.V 39 (.ld (some 2) (.t 38)),.V 40 (.mv (.t 0)),.V 41 (.nilck (.t 40)),.V 42 (.fa 2 (.t 41)),.V 43 (.ld (some 2) (.t 42)),.V 44 (.call (.c (.fn 945 [])) [.t 39,.t 43]),.V 45 (.mv (.t 0)),.V 46 (.nilck (.t 45)),.V 47 (.fa 0 (.t 46)),.V 48 (.ld (some 2) (.t 47)),.V 49 (.mv (.t 0)),.V 50 (.nilck (.t 49)),.V 51 (.fa 4 (.t 50)),.V 52 (.ld (some 2) (.t 51)),.V 53 (.call (.c (.fn 945 [])) [.t 48,.t 52]),.V 54 (.bin .eql (.t 44) (.t 53)),.V 2 (.asg (.t 54))] [2] []) .ret
def spec_l05One_ir : Fn := { np := 1,io := [],res := [.t 2],own := [false],body :=
 (.seq (.reg false [.V 2 (.asg (.c (.bool false)))] [0] []) (.seq (.seq (.reg true [.V 3 (.mv (.t 0)),.V 4 (.nilck (.t 3)),.V 5 (.fa 0 (.t 4)),.V 6 (.ld (some 2) (.t 5)),.V 7 (.call (.c (.fn 946 [])) [.t 6]),.V 8 (.un .not (.t 7)),.V 9 (.mv (.t 8)),.G 10 (.mv (.t 0)) 6 false,.G 11 (.nilck (.t 10)) 6 false,.G 12 (.fa 2 (.t 11)) 6 false,.G 13 (.ld (some 2) (.t 12)) 6 false,.G 14 (.call (.c (.fn 946 [])) [.t 13]) 6 false,.G 15 (.un .not (.t 14)) 6 false,.V 16 (.pick (.t 9) (.c (.bool true)) (.t 15)),.V 17 (.mv (.t 16)),.G 18 (.mv (.t 0)) 14 false,.G 19 (.nilck (.t 18)) 14 false,.G 20 (.fa 4 (.t 19)) 14 false,.G 21 (.ld (some 2) (.t 20)) 14 false,.G 22 (.call (.c (.fn 946 [])) [.t 21]) 14 false,.G 23 (.un .not (.t 22)) 14 false,.V 24 (.pick (.t 17) (.c (.bool true)) (.t 23)),.V 25 (.mv (.t 24)),.G 26 (.mv (.t 0)) 22 false,.G 27 (.nilck (.t 26)) 22 false,.G 28 (.fa 2 (.t 27)) 22 false,.G 29 (.ld (some 2) (.t 28)) 22 false,.G 30 (.mv (.t 0)) 22 false,.G 31 (.nilck (.t 30)) 22 false,.G 32 (.fa 4 (.t 31)) 22 false,.G 33 (.ld (some 2) (.t 32)) 22 false,.G 34 (.eqs false [.i,.i] (.t 29) (.t 33)) 22 false,.V 35 (.pick (.t 25) (.c (.bool true)) (.t 34))] [0,35] []) (.cond (.t 35) (.seq (.reg false [.V 2 (.asg (.c (.bool false)))] [2] []) .ret) .skip)) (.norm [0] [] spec_l05One_k0))) }
noncomputable def spec_l05One_D : List (Nat × Callee) := [(945,spec_l05Square_c),(946,spec_l05Point_c)]
def spec_l05One_H : List (Nat × ET) := []
noncomputable def spec_l05One_c : Callee := mkCallee spec_l05One_D spec_l05One_H spec_l05One_ir [.p T_Arc] [.d (.one .bool)] []
noncomputable def spec_l05One (a0 : T_Arc.ty) : Option (Bool) := spec_l05One_c.f (a0,())
noncomputable def spec_l05One_p0  (v0_0 : Int) (v0_1 : Int) (v0_2 : Int) (v0_3 : Int) (v0_4 : Int) (v0_5 : Int) : Option (Bool) :=
 goL spec_l05One_D spec_l05One_H (vleave spec_l05One_ir [.p T_Arc] [.d (.one .bool)] [] []) [.c spec_l05One_k0]
  ⟨[(0,.ptr [.int .i64 v0_0,.int .i64 v0_1,.int .i64 v0_2,.int .i64 v0_3,.int .i64 v0_4,.int .i64 v0_5] 0)],[]⟩
theorem spec_l05One_eq (a0 : T_Arc.ty) : spec_l05One a0 =
 (spec_l05Point (a0.1,a0.2.1,())).bind fun x1 =>
  if (!x1) then
   some false
  else
   (spec_l05Point (a0.2.2.1,a0.2.2.2.1,())).bind fun x2 =>
    if (!x2) then
     some false
    else
     (spec_l05Point (a0.2.2.2.2.1,a0.2.2.2.2.2.1,())).bind fun x3 =>
      if (!x3) then
       some false
      else
       if ((a0.2.2.1 == a0.2.2.2.2.1) && (a0.2.2.2.1 == a0.2.2.2.2.2.1)) then
        some false
       else
        spec_l05One_p0 a0.1 a0.2.1 a0.2.2.1 a0.2.2.2.1 a0.2.2.2.2.1 a0.2.2.2.2.2.1 :=
 (mk_f _ _ _ _ _ _ _ 4000).trans (by kernel_rfl)
theorem spec_l05One_p0_eq  (v0_0 : Int) (v0_1 : Int) (v0_2 : Int) (v0_3 : Int) (v0_4 : Int) (v0_5 : Int) : spec_l05One_p0 v0_0 v0_1 v0_2 v0_3 v0_4 v0_5 =
 (spec_l05Square (v0_0,v0_1,()) (v0_2,v0_3,())).bind fun x1 =>
  (spec_l05Square (v0_0,v0_1,()) (v0_4,v0_5,())).bind fun x2 =>
   some (x1 == x2) :=
 (goL_dn _ _ _ 4000 _ _).trans (by kernel_rfl)
def spec_l05Ok_k0 : C :=
 .seq (.seq (.reg false [.V 7 (.mv (.t 4)),.V 8 (.mv (.t 3)),.V 9 (.bin .lss (.t 7) (.t 8))] [0,3,4,9] []) (.cond (.t 9) .skip (.exit 0))) (.seq (.block 1 (.seq (.reg true [.V 12 (.mv (.t 0)),.V 13 (.mv (.t 4)),.V 14 (.ia 6 (.t 12) (.t 13)),.V 15 (.call (.c (.fn 716 [])) [.t 14]),.V 16 (.un .not (.t 15)),.V 17 (.mv (.t 16)),.G 18 (.mv (.t 0)) 5 false,.G 19 (.mv (.t 4)) 5 false,.G 20 (.ia 6 (.t 18) (.t 19)) 5 false,.G 21 (.fa 4 (.t 20)) 5 false,.G 22 (.ld (some 2) (.t 21)) 5 false,.G 23 (.mv (.t 0)) 5 false,.G 24 (.mv (.t 4)) 5 false,.G 25 (.bin .add (.t 24) (.c (.int .i64 1))) 5 false,.G 26 (.mv (.t 3)) 5 false,.G 27 (.bin .rem (.t 25) (.t 26)) 5 false,.G 28 (.ia 6 (.t 23) (.t 27)) 5 false,.G 29 (.fa 2 (.t 28)) 5 false,.G 30 (.ld (some 2) (.t 29)) 5 false,.G 31 (.eqs true [.i,.i] (.t 22) (.t 30)) 5 false,.V 32 (.pick (.t 17) (.c (.bool true)) (.t 31))] [0,3,4,32] []) (.cond (.t 32) (.seq (.reg false [.V 2 (.asg (.c (.bool false)))] [2] []) .ret) .skip))) (.reg false [.V 10 (.mv (.t 4)),.V 11 (.bin .add (.t 10) (.c (.int .i64 1))),.V 4 (.asg (.t 11))] [0,3,4] []))
def spec_l05Ok_k1 : C :=
 .norm [0,3,4] [] spec_l05Ok_k0
def spec_l05Ok_k2 : C :=
 .seq (.reg false [.V 33 (.mv (.t 3)),.V 34 (.bin .geq (.t 33) (.c (.int .i64 2))),.V 35 (.mv (.t 34)),.G 36 (.mv (.t 3)) 2 true,.G 37 (.bin .leq (.t 36) (.c (.int .i64 16))) 2 true,.V 38 (.pick (.t 35) (.t 37) (.c (.bool false))),.V 2 (.asg (.t 38))] [2] []) .ret
def spec_l05Ok_ir : Fn := { np := 1,io := [],res := [.t 2],own := [false],body :=
 (.seq (.reg false [.V 2 (.asg (.c (.bool false)))] [0] []) (.seq (.reg false [.V 5 (.mv (.t 0)),.V 6 (.len (.t 5)),.V 3 (.asg (.t 6))] [0,3] []) (.seq (.seq (.reg false [.V 4 (.asg (.c (.int .i64 0)))] [0,3,4] []) (.block 0 (.loop spec_l05Ok_k1))) spec_l05Ok_k2))) }
noncomputable def spec_l05Ok_D : List (Nat × Callee) := [(716,spec_l05One_c)]
def spec_l05Ok_H : List (Nat × ET) := [(5,T_Arc),(12,T_Arc),(18,T_Arc),(23,T_Arc)]
noncomputable def spec_l05Ok_c : Callee := mkCallee spec_l05Ok_D spec_l05Ok_H spec_l05Ok_ir [.d (.one (.sl T_Arc))] [.d (.one .bool)] []
noncomputable def spec_l05Ok (a0 : List T_Arc.ty) : Option (Bool) := spec_l05Ok_c.f (a0,())
noncomputable def spec_l05Ok_p0  (v0 : List T_Arc.ty) (v3 : Int) (v4 : Int) : Option (Bool) :=
 goL spec_l05Ok_D spec_l05Ok_H (vleave spec_l05Ok_ir [.d (.one (.sl T_Arc))] [.d (.one .bool)] [] []) [.c spec_l05Ok_k0,.l spec_l05Ok_k1,.e 0,.c spec_l05Ok_k2]
  ⟨[(0,.sl T_Arc v0),(3,.int .i64 v3),(4,.int .i64 v4)],[]⟩
theorem spec_l05Ok_eq (a0 : List T_Arc.ty) : spec_l05Ok a0 =
 spec_l05Ok_p0 a0 (a0.length : Int) 0 :=
 (mk_f _ _ _ _ _ _ _ 4000).trans (by kernel_rfl)
theorem spec_l05Ok_p0_eq  (v0 : List T_Arc.ty) (v3 : Int) (v4 : Int) : spec_l05Ok_p0 v0 v3 v4 =
 if decide (v4 < v3) then
  if decide (0 ≤ v4) then
   (v0[v4.toNat]?).bind fun x1 =>
    (spec_l05One x1).bind fun x2 =>
     if (!x2) then
      some false
     else
      if decide (0 ≤ v4) then
       (v0[v4.toNat]?).bind fun x3 =>
        if decide (v3 = 0) then
         none
        else
         if decide (0 ≤ (IntKind.i64.wrap (v4 + 1)).tmod v3) then
          (v0[((IntKind.i64.wrap (v4 + 1)).tmod v3).toNat]?).bind fun x4 =>
           if (!((x3.2.2.2.2.1 == x4.2.2.1) && (x3.2.2.2.2.2.1 == x4.2.2.2.1))) then
            some false
           else
            spec_l05Ok_p0 v0 v3 (IntKind.i64.wrap (v4 + 1))
         else
          none
      else
       none
  else
   none
 else
  if decide (v3 ≥ 2) then
   some (decide (v3 ≤ 16))
  else
   some false :=
 (goL_dn _ _ _ 4000 _ _).trans (by kernel_rfl)
def spec_l09One_ir : Fn := { np := 1,io := [],res := [.t 2],own := [false],body :=
 (.seq (.reg false [.V 2 (.asg (.c (.bool false)))] [0] []) (.seq (.reg false [.V 3 (.mv (.t 0)),.V 4 (.nilck (.t 3)),.V 5 (.fa 0 (.t 4)),.V 6 (.ld none (.t 5)),.V 7 (.call (.c (.fn 1 [])) [.t 6,.c (.int .i64 1),.c (.int .i64 10000)]),.V 8 (.mv (.t 7)),.G 9 (.mv (.t 0)) 5 true,.G 10 (.nilck (.t 9)) 5 true,.G 11 (.fa 1 (.t 10)) 5 true,.G 12 (.ld none (.t 11)) 5 true,.G 13 (.call (.c (.fn 1 [])) [.t 12,.c (.int .i64 1),.c (.int .i64 500)]) 5 true,.V 14 (.pick (.t 8) (.t 13) (.c (.bool false))),.V 15 (.mv (.t 14)),.G 16 (.mv (.t 0)) 12 true,.G 17 (.nilck (.t 16)) 12 true,.G 18 (.fa 2 (.t 17)) 12 true,.G 19 (.ld none (.t 18)) 12 true,.G 20 (.call (.c (.fn 1 [])) [.t 19,.c (.int .i64 1),.c (.int .i64 10000)]) 12 true,.V 21 (.pick (.t 15) (.t 20) (.c (.bool false))),.V 22 (.mv (.t 21)),.G 23 (.mv (.t 0)) 19 true,.G 24 (.nilck (.t 23)) 19 true,.G 25 (.fa 3 (.t 24)) 19 true,.G 26 (.ld none (.t 25)) 19 true,.G 27 (.call (.c (.fn 1 [])) [.t 26,.c (.int .i64 1),.c (.int .i64 500000)]) 19 true,.V 28 (.pick (.t 22) (.t 27) (.c (.bool false))),.V 2 (.asg (.t 28))] [2] []) .ret)) }
noncomputable def spec_l09One_D : List (Nat × Callee) := [(1,spec_l00In_c)]
def spec_l09One_H : List (Nat × ET) := []
noncomputable def spec_l09One_c : Callee := mkCallee spec_l09One_D spec_l09One_H spec_l09One_ir [.p T_Neck] [.d (.one .bool)] []
noncomputable def spec_l09One (a0 : T_Neck.ty) : Option (Bool) := spec_l09One_c.f (a0,())
theorem spec_l09One_eq (a0 : T_Neck.ty) : spec_l09One a0 =
 (spec_l00In a0.1 1 10000).bind fun x1 =>
  if x1 then
   (spec_l00In a0.2.1 1 500).bind fun x2 =>
    if x2 then
     (spec_l00In a0.2.2.1 1 10000).bind fun x3 =>
      if x3 then
       (spec_l00In a0.2.2.2.1 1 500000).bind fun x4 =>
        some x4
      else
       some false
    else
     some false
  else
   some false :=
 (mk_f _ _ _ _ _ _ _ 4000).trans (by kernel_rfl)
def spec_l09List_k0 : C :=
 .seq (.seq (.reg false [.V 4 (.mv (.t 3)),.V 5 (.mv (.t 0)),.V 6 (.len (.t 5)),.V 7 (.bin .lss (.t 4) (.t 6))] [0,3,7] []) (.cond (.t 7) .skip (.exit 0))) (.seq (.block 1 (.seq (.reg false [.V 10 (.mv (.t 0)),.V 11 (.mv (.t 3)),.V 12 (.ia 4 (.t 10) (.t 11)),.V 13 (.call (.c (.fn 719 [])) [.t 12]),.V 14 (.un .not (.t 13))] [0,3,14] []) (.cond (.t 14) (.seq (.reg false [.V 2 (.asg (.c (.bool false)))] [2] []) .ret) .skip))) (.reg false [.V 8 (.mv (.t 3)),.V 9 (.bin .add (.t 8) (.c (.int .i64 1))),.V 3 (.asg (.t 9))] [0,3] []))
def spec_l09List_k1 : C :=
 .norm [0,3] [] spec_l09List_k0
def spec_l09List_k2 : C :=
 .seq (.reg false [.V 15 (.mv (.t 0)),.V 16 (.len (.t 15)),.V 17 (.bin .leq (.t 16) (.c (.int .i64 4))),.V 2 (.asg (.t 17))] [2] []) .ret
def spec_l09List_ir : Fn := { np := 1,io := [],res := [.t 2],own := [false],body :=
 (.seq (.reg false [.V 2 (.asg (.c (.bool false)))] [0] []) (.seq (.seq (.reg false [.V 3 (.asg (.c (.int .i64 0)))] [0,3] []) (.block 0 (.loop spec_l09List_k1))) spec_l09List_k2)) }
noncomputable def spec_l09List_D : List (Nat × Callee) := [(719,spec_l09One_c)]
def spec_l09List_H : List (Nat × ET) := [(5,T_Neck),(10,T_Neck),(15,T_Neck)]
noncomputable def spec_l09List_c : Callee := mkCallee spec_l09List_D spec_l09List_H spec_l09List_ir [.d (.one (.sl T_Neck))] [.d (.one .bool)] []
noncomputable def spec_l09List (a0 : List T_Neck.ty) : Option (Bool) := spec_l09List_c.f (a0,())
noncomputable def spec_l09List_p0  (v0 : List T_Neck.ty) (v3 : Int) : Option (Bool) :=
 goL spec_l09List_D spec_l09List_H (vleave spec_l09List_ir [.d (.one (.sl T_Neck))] [.d (.one .bool)] [] []) [.c spec_l09List_k0,.l spec_l09List_k1,.e 0,.c spec_l09List_k2]
  ⟨[(0,.sl T_Neck v0),(3,.int .i64 v3)],[]⟩
theorem spec_l09List_eq (a0 : List T_Neck.ty) : spec_l09List a0 =
 spec_l09List_p0 a0 0 :=
 (mk_f _ _ _ _ _ _ _ 4000).trans (by kernel_rfl)
theorem spec_l09List_p0_eq  (v0 : List T_Neck.ty) (v3 : Int) : spec_l09List_p0 v0 v3 =
 if decide (v3 < (v0.length : Int)) then
  if decide (0 ≤ v3) then
   (v0[v3.toNat]?).bind fun x1 =>
    (spec_l09One x1).bind fun x2 =>
     if (!x2) then
      some false
     else
      spec_l09List_p0 v0 (IntKind.i64.wrap (v3 + 1))
  else
   none
 else
  some (decide ((v0.length : Int) ≤ 4)) :=
 (goL_dn _ _ _ 4000 _ _).trans (by kernel_rfl)
def spec_l09Share_ir : Fn := { np := 1,io := [],res := [.t 2],own := [false],body :=
 (.seq (.reg false [.V 2 (.asg (.c (.bool false)))] [0] []) (.seq (.reg false [.V 3 (.mv (.t 0)),.V 4 (.call (.c (.fn 1 [])) [.t 3,.c (.int .i64 0),.c (.int .i64 1000)]),.V 2 (.asg (.t 4))] [2] []) .ret)) }
noncomputable def spec_l09Share_D : List (Nat × Callee) := [(1,spec_l00In_c)]
def spec_l09Share_H : List (Nat × ET) := []
noncomputable def spec_l09Share_c : Callee := mkCallee spec_l09Share_D spec_l09Share_H spec_l09Share_ir [.d (.one (.int .i64))] [.d (.one .bool)] []
noncomputable def spec_l09Share (a0 : Int) : Option (Bool) := spec_l09Share_c.f (a0,())
theorem spec_l09Share_eq (a0 : Int) : spec_l09Share a0 =
 (spec_l00In a0 0 1000).bind fun x1 =>
  some x1 :=
 (mk_f _ _ _ _ _ _ _ 4000).trans (by kernel_rfl)
def spec_l01Small_ir : Fn := { np := 1,io := [],res := [.t 2],own := [false],body :=
 (.seq (.reg false [.V 2 (.asg (.c (.bool false)))] [0] []) (.seq (.reg false [.V 3 (.mv (.t 0)),.V 4 (.bin .geq (.t 3) (.c (.int .u8 97))),.V 5 (.mv (.t 4)),.G 6 (.mv (.t 0)) 2 true,.G 7 (.bin .leq (.t 6) (.c (.int .u8 122))) 2 true,.V 8 (.pick (.t 5) (.t 7) (.c (.bool false))),.V 2 (.asg (.t 8))] [2] []) .ret)) }
noncomputable def spec_l01Small_D : List (Nat × Callee) := []
def spec_l01Small_H : List (Nat × ET) := []
noncomputable def spec_l01Small_c : Callee := mkCallee spec_l01Small_D spec_l01Small_H spec_l01Small_ir [.d (.one (.int .u8))] [.d (.one .bool)] []
noncomputable def spec_l01Small (a0 : Int) : Option (Bool) := spec_l01Small_c.f (a0,())
theorem spec_l01Small_eq (a0 : Int) : spec_l01Small a0 =
 if decide (a0 ≥ 97) then
  some (decide (a0 ≤ 122))
 else
  some false :=
 (mk_f _ _ _ _ _ _ _ 4000).trans (by kernel_rfl)
def spec_l01Digit_ir : Fn := { np := 1,io := [],res := [.t 2],own := [false],body :=
 (.seq (.reg false [.V 2 (.asg (.c (.bool false)))] [0] []) (.seq (.reg false [.V 3 (.mv (.t 0)),.V 4 (.bin .geq (.t 3) (.c (.int .u8 48))),.V 5 (.mv (.t 4)),.G 6 (.mv (.t 0)) 2 true,.G 7 (.bin .leq (.t 6) (.c (.int .u8 57))) 2 true,.V 8 (.pick (.t 5) (.t 7) (.c (.bool false))),.V 2 (.asg (.t 8))] [2] []) .ret)) }
noncomputable def spec_l01Digit_D : List (Nat × Callee) := []
def spec_l01Digit_H : List (Nat × ET) := []
noncomputable def spec_l01Digit_c : Callee := mkCallee spec_l01Digit_D spec_l01Digit_H spec_l01Digit_ir [.d (.one (.int .u8))] [.d (.one .bool)] []
noncomputable def spec_l01Digit (a0 : Int) : Option (Bool) := spec_l01Digit_c.f (a0,())
theorem spec_l01Digit_eq (a0 : Int) : spec_l01Digit a0 =
 if decide (a0 ≥ 48) then
  some (decide (a0 ≤ 57))
 else
  some false :=
 (mk_f _ _ _ _ _ _ _ 4000).trans (by kernel_rfl)
def spec_l01Name_k0 : C :=
 .seq (.seq (.reg false [.V 17 (.mv (.t 3)),.V 18 (.mv (.t 0)),.V 19 (.lens (.t 18)),.V 20 (.bin .lss (.t 17) (.t 19))] [0,3,20] []) (.cond (.t 20) .skip (.exit 0))) (.seq (.block 1 (.seq (.reg false [.V 23 (.mv (.t 0)),.V 24 (.mv (.t 3)),.V 25 (.ix (.t 23) (.t 24)),.V 26 (.call (.c (.fn 11 [])) [.t 25]),.V 27 (.un .not (.t 26)),.V 28 (.mv (.t 27)),.G 29 (.mv (.t 0)) 5 true,.G 30 (.mv (.t 3)) 5 true,.G 31 (.ix (.t 29) (.t 30)) 5 true,.G 32 (.call (.c (.fn 12 [])) [.t 31]) 5 true,.G 33 (.un .not (.t 32)) 5 true,.V 34 (.pick (.t 28) (.t 33) (.c (.bool false)))] [0,3,34] []) (.cond (.t 34) (.seq (.reg false [.V 2 (.asg (.c (.bool false)))] [2] []) .ret) .skip))) (.reg false [.V 21 (.mv (.t 3)),.V 22 (.bin .add (.t 21) (.c (.int .i64 1))),.V 3 (.asg (.t 22))] [0,3] []))
def spec_l01Name_k1 : C :=
 .norm [0,3] [] spec_l01Name_k0
def spec_l01Name_k2 : C :=
 .seq (.reg false [.V 2 (.asg (.c (.bool true)))] [2] []) .ret
def spec_l01Name_k3 : C :=
 .seq (.seq (.reg false [.V 3 (.asg (.c (.int .i64 0)))] [0,3] []) (.block 0 (.loop spec_l01Name_k1))) spec_l01Name_k2
def spec_l01Name_ir : Fn := { np := 1,io := [],res := [.t 2],own := [false],body :=
 (.seq (.reg false [.V 2 (.asg (.c (.bool false)))] [0] []) (.seq (.seq (.reg false [.V 4 (.mv (.t 0)),.V 5 (.bin .eql (.t 4) (.c (.str []))),.V 6 (.mv (.t 5)),.G 7 (.mv (.t 0)) 2 false,.G 8 (.lens (.t 7)) 2 false,.G 9 (.bin .gtr (.t 8) (.c (.int .i64 10))) 2 false,.V 10 (.pick (.t 6) (.c (.bool true)) (.t 9)),.V 11 (.mv (.t 10)),.G 12 (.mv (.t 0)) 7 false,.G 13 (.ix (.t 12) (.c (.int .i64 0))) 7 false,.G 14 (.call (.c (.fn 11 [])) [.t 13]) 7 false,.G 15 (.un .not (.t 14)) 7 false,.V 16 (.pick (.t 11) (.c (.bool true)) (.t 15))] [0,16] []) (.cond (.t 16) (.seq (.reg false [.V 2 (.asg (.c (.bool false)))] [2] []) .ret) .skip)) (.norm [0] [] spec_l01Name_k3))) }
noncomputable def spec_l01Name_D : List (Nat × Callee) := [(11,spec_l01Small_c),(12,spec_l01Digit_c)]
def spec_l01Name_H : List (Nat × ET) := []
noncomputable def spec_l01Name_c : Callee := mkCallee spec_l01Name_D spec_l01Name_H spec_l01Name_ir [.d (.one .str)] [.d (.one .bool)] []
noncomputable def spec_l01Name (a0 : List UInt8) : Option (Bool) := spec_l01Name_c.f (a0,())
noncomputable def spec_l01Name_p0  (v0 : List UInt8) : Option (Bool) :=
 goL spec_l01Name_D spec_l01Name_H (vleave spec_l01Name_ir [.d (.one .str)] [.d (.one .bool)] [] []) [.c spec_l01Name_k3]
  ⟨[(0,.str v0)],[]⟩
noncomputable def spec_l01Name_p1  (v0 : List UInt8) (v3 : Int) : Option (Bool) :=
 goL spec_l01Name_D spec_l01Name_H (vleave spec_l01Name_ir [.d (.one .str)] [.d (.one .bool)] [] []) [.c spec_l01Name_k0,.l spec_l01Name_k1,.e 0,.c spec_l01Name_k2]
  ⟨[(0,.str v0),(3,.int .i64 v3)],[]⟩
theorem spec_l01Name_eq (a0 : List UInt8) : spec_l01Name a0 =
 if (a0 == []) then
  some false
 else
  if decide ((a0.length : Int) > 10) then
   some false
  else
   (a0[0]?).bind fun x1 =>
    (spec_l01Small (x1.toNat : Int)).bind fun x2 =>
     if (!x2) then
      some false
     else
      spec_l01Name_p0 a0 :=
 (mk_f _ _ _ _ _ _ _ 4000).trans (by kernel_rfl)
theorem spec_l01Name_p0_eq  (v0 : List UInt8) : spec_l01Name_p0 v0 =
 spec_l01Name_p1 v0 0 :=
 (goL_dn _ _ _ 4000 _ _).trans (by kernel_rfl)
theorem spec_l01Name_p1_eq  (v0 : List UInt8) (v3 : Int) : spec_l01Name_p1 v0 v3 =
 if decide (v3 < (v0.length : Int)) then
  if decide (0 ≤ v3) then
   (v0[v3.toNat]?).bind fun x1 =>
    (spec_l01Small (x1.toNat : Int)).bind fun x2 =>
     if (!x2) then
      if decide (0 ≤ v3) then
       (v0[v3.toNat]?).bind fun x3 =>
        (spec_l01Digit (x3.toNat : Int)).bind fun x4 =>
         if (!x4) then
          some false
         else
          spec_l01Name_p1 v0 (IntKind.i64.wrap (v3 + 1))
      else
       none
     else
      spec_l01Name_p1 v0 (IntKind.i64.wrap (v3 + 1))
  else
   none
 else
  some true :=
 (goL_dn _ _ _ 4000 _ _).trans (by kernel_rfl)
def spec_l00Rises_k0 : C :=
 .seq (.seq (.reg false [.V 8 (.mv (.t 7)),.V 9 (.mv (.t 0)),.V 10 (.len (.t 9)),.V 11 (.bin .lss (.t 8) (.t 10))] [0,1,2,7,11] []) (.cond (.t 11) .skip (.exit 0))) (.seq (.block 1 (.seq (.reg true [.V 14 (.mv (.t 0)),.V 15 (.mv (.t 7)),.V 16 (.ia 1 (.t 14) (.t 15)),.V 17 (.ld none (.t 16)),.V 18 (.mv (.t 1)),.V 19 (.mv (.t 2)),.V 20 (.call (.c (.fn 1 [])) [.t 17,.t 18,.t 19]),.V 21 (.un .not (.t 20)),.V 22 (.mv (.t 21)),.G 23 (.mv (.t 7)) 8 false,.G 24 (.bin .gtr (.t 23) (.c (.int .i64 0))) 8 false,.G 25 (.mv (.t 24)) 8 false,.G 26 (.mv (.t 0)) 11 true,.G 27 (.mv (.t 7)) 11 true,.G 28 (.bin .sub (.t 27) (.c (.int .i64 1))) 11 true,.G 29 (.ia 1 (.t 26) (.t 28)) 11 true,.G 30 (.ld none (.t 29)) 11 true,.G 31 (.mv (.t 0)) 11 true,.G 32 (.mv (.t 7)) 11 true,.G 33 (.ia 1 (.t 31) (.t 32)) 11 true,.G 34 (.ld none (.t 33)) 11 true,.G 35 (.bin .geq (.t 30) (.t 34)) 11 true,.G 36 (.pick (.t 25) (.t 35) (.c (.bool false))) 8 false,.V 37 (.pick (.t 22) (.c (.bool true)) (.t 36))] [0,1,2,7,37] []) (.cond (.t 37) (.seq (.reg false [.V 6 (.asg (.c (.bool false)))] [6] []) .ret) .skip))) (.reg false [.V 12 (.mv (.t 7)),.V 13 (.bin .add (.t 12) (.c (.int .i64 1))),.V 7 (.asg (.t 13))] [0,1,2,7] []))
def spec_l00Rises_k1 : C :=
 .norm [0,1,2,7] [] spec_l00Rises_k0
def spec_l00Rises_k2 : C :=
 .seq (.reg false [.V 6 (.asg (.c (.bool true)))] [6] []) .ret
def spec_l00Rises_ir : Fn := { np := 3,io := [],res := [.t 6],own := [false],body :=
 (.seq (.reg false [.V 6 (.asg (.c (.bool false)))] [0,1,2] []) (.seq (.seq (.reg false [.V 7 (.asg (.c (.int .i64 0)))] [0,1,2,7] []) (.block 0 (.loop spec_l00Rises_k1))) spec_l00Rises_k2)) }
noncomputable def spec_l00Rises_D : List (Nat × Callee) := [(1,spec_l00In_c)]
def spec_l00Rises_H : List (Nat × ET) := [(9,(.one (.int .i64))),(14,(.one (.int .i64))),(26,(.one (.int .i64))),(31,(.one (.int .i64)))]
noncomputable def spec_l00Rises_c : Callee := mkCallee spec_l00Rises_D spec_l00Rises_H spec_l00Rises_ir [.d (.one (.sl (.one (.int .i64)))),.d (.one (.int .i64)),.d (.one (.int .i64))] [.d (.one .bool)] []
noncomputable def spec_l00Rises (a0 : List Int) (a1 : Int) (a2 : Int) : Option (Bool) := spec_l00Rises_c.f (a0,a1,a2,())
noncomputable def spec_l00Rises_p0  (v0 : List Int) (v1 : Int) (v2 : Int) (v7 : Int) : Option (Bool) :=
 goL spec_l00Rises_D spec_l00Rises_H (vleave spec_l00Rises_ir [.d (.one (.sl (.one (.int .i64)))),.d (.one (.int .i64)),.d (.one (.int .i64))] [.d (.one .bool)] [] []) [.c spec_l00Rises_k0,.l spec_l00Rises_k1,.e 0,.c spec_l00Rises_k2]
  ⟨[(0,.sl (.one (.int .i64)) v0),(1,.int .i64 v1),(2,.int .i64 v2),(7,.int .i64 v7)],[]⟩
theorem spec_l00Rises_eq (a0 : List Int) (a1 : Int) (a2 : Int) : spec_l00Rises a0 a1 a2 =
 spec_l00Rises_p0 a0 a1 a2 0 :=
 (mk_f _ _ _ _ _ _ _ 4000).trans (by kernel_rfl)
theorem spec_l00Rises_p0_eq  (v0 : List Int) (v1 : Int) (v2 : Int) (v7 : Int) : spec_l00Rises_p0 v0 v1 v2 v7 =
 if decide (v7 < (v0.length : Int)) then
  if decide (0 ≤ v7) then
   (v0[v7.toNat]?).bind fun x1 =>
    (spec_l00In x1 v1 v2).bind fun x2 =>
     if (!x2) then
      some false
     else
      if decide (v7 > 0) then
       if decide (0 ≤ IntKind.i64.wrap (v7 - 1)) then
        (v0[(IntKind.i64.wrap (v7 - 1)).toNat]?).bind fun x3 =>
         if decide (0 ≤ v7) then
          (v0[v7.toNat]?).bind fun x4 =>
           if decide (x3 ≥ x4) then
            some false
           else
            spec_l00Rises_p0 v0 v1 v2 (IntKind.i64.wrap (v7 + 1))
         else
          none
       else
        none
      else
       spec_l00Rises_p0 v0 v1 v2 (IntKind.i64.wrap (v7 + 1))
  else
   none
 else
  some true :=
 (goL_dn _ _ _ 4000 _ _).trans (by kernel_rfl)
def spec_l17One_ir : Fn := { np := 1,io := [],res := [.t 2],own := [false],body :=
 (.seq (.reg false [.V 2 (.asg (.c (.bool false)))] [0] []) (.seq (.reg false [.V 3 (.mv (.t 0)),.V 4 (.nilck (.t 3)),.V 5 (.fa 0 (.t 4)),.V 6 (.ld none (.t 5)),.V 7 (.call (.c (.fn 13 [])) [.t 6]),.V 8 (.mv (.t 7)),.G 9 (.mv (.t 0)) 5 true,.G 10 (.nilck (.t 9)) 5 true,.G 11 (.fa 1 (.t 10)) 5 true,.G 12 (.ld none (.t 11)) 5 true,.G 13 (.call (.c (.fn 1 [])) [.t 12,.c (.int .i64 1),.c (.int .i64 200)]) 5 true,.V 14 (.pick (.t 8) (.t 13) (.c (.bool false))),.V 15 (.mv (.t 14)),.G 16 (.mv (.t 0)) 12 true,.G 17 (.nilck (.t 16)) 12 true,.G 18 (.fa 2 (.t 17)) 12 true,.G 19 (.ld none (.t 18)) 12 true,.G 20 (.call (.c (.fn 1 [])) [.t 19,.c (.int .i64 0),.c (.int .i64 20)]) 12 true,.V 21 (.pick (.t 15) (.t 20) (.c (.bool false))),.V 22 (.mv (.t 21)),.G 23 (.mv (.t 0)) 19 true,.G 24 (.nilck (.t 23)) 19 true,.G 25 (.fa 3 (.t 24)) 19 true,.G 26 (.ld none (.t 25)) 19 true,.G 27 (.call (.c (.fn 804 [])) [.t 26,.c (.int .i64 0),.c (.int .i64 11)]) 19 true,.V 28 (.pick (.t 22) (.t 27) (.c (.bool false))),.V 2 (.asg (.t 28))] [2] []) .ret)) }
noncomputable def spec_l17One_D : List (Nat × Callee) := [(1,spec_l00In_c),(13,spec_l01Name_c),(804,spec_l00Rises_c)]
def spec_l17One_H : List (Nat × ET) := [(26,(.one (.int .i64)))]
noncomputable def spec_l17One_c : Callee := mkCallee spec_l17One_D spec_l17One_H spec_l17One_ir [.p T_Step] [.d (.one .bool)] []
noncomputable def spec_l17One (a0 : T_Step.ty) : Option (Bool) := spec_l17One_c.f (a0,())
theorem spec_l17One_eq (a0 : T_Step.ty) : spec_l17One a0 =
 (spec_l01Name a0.1).bind fun x1 =>
  if x1 then
   (spec_l00In a0.2.1 1 200).bind fun x2 =>
    if x2 then
     (spec_l00In a0.2.2.1 0 20).bind fun x3 =>
      if x3 then
       (spec_l00Rises a0.2.2.2.1 0 11).bind fun x4 =>
        some x4
      else
       some false
    else
     some false
  else
   some false :=
 (mk_f _ _ _ _ _ _ _ 4000).trans (by kernel_rfl)
def spec_l17Ok_k0 : C :=
 .seq (.seq (.reg false [.V 28 (.mv (.t 5)),.V 29 (.mv (.t 3)),.V 30 (.bin .lss (.t 28) (.t 29))] [0,3,4,5,30] []) (.cond (.t 30) .skip (.exit 2))) (.seq (.block 3 (.seq (.reg true [.V 33 (.mv (.t 0)),.V 34 (.mv (.t 5)),.V 35 (.ia 4 (.t 33) (.t 34)),.V 36 (.fa 0 (.t 35)),.V 37 (.ld none (.t 36)),.V 38 (.mv (.t 4)),.V 39 (.nilck (.t 38)),.V 40 (.fa 0 (.t 39)),.V 41 (.ld none (.t 40)),.V 42 (.bin .eql (.t 37) (.t 41))] [0,3,4,5,42] []) (.cond (.t 42) (.seq (.reg false [.V 2 (.asg (.c (.bool false)))] [2] []) .ret) .skip))) (.reg false [.V 31 (.mv (.t 5)),.V 32 (.bin .add (.t 31) (.c (.int .i64 1))),.V 5 (.asg (.t 32))] [0,3,4,5] []))
def spec_l17Ok_k1 : C :=
 .norm [0,3,4,5] [] spec_l17Ok_k0
def spec_l17Ok_k2 : C :=
 .seq (.reg false [.V 5 (.asg (.c (.int .i64 0)))] [0,3,4,5] []) (.block 2 (.loop spec_l17Ok_k1))
def spec_l17Ok_k3 : C :=
 .reg false [.V 10 (.mv (.t 3)),.V 11 (.bin .add (.t 10) (.c (.int .i64 1))),.V 3 (.asg (.t 11))] [0,3] []
def spec_l17Ok_k4 : C :=
 .seq (.seq (.reg false [.V 6 (.mv (.t 3)),.V 7 (.mv (.t 0)),.V 8 (.len (.t 7)),.V 9 (.bin .lss (.t 6) (.t 8))] [0,3,9] []) (.cond (.t 9) .skip (.exit 0))) (.seq (.block 1 (.seq (.reg false [.V 12 (.mv (.t 0)),.V 13 (.mv (.t 3)),.V 14 (.ia 4 (.t 12) (.t 13)),.V 4 (.asg (.t 14))] [0,3,4] []) (.seq (.seq (.reg false [.V 15 (.mv (.t 4)),.V 16 (.call (.c (.fn 846 [])) [.t 15]),.V 17 (.un .not (.t 16)),.V 18 (.mv (.t 17)),.G 19 (.mv (.t 4)) 3 false,.G 20 (.nilck (.t 19)) 3 false,.G 21 (.fa 3 (.t 20)) 3 false,.G 22 (.ld none (.t 21)) 3 false,.G 23 (.mv (.t 3)) 3 false,.G 24 (.bin .sub (.t 23) (.c (.int .i64 1))) 3 false,.G 25 (.call (.c (.fn 804 [])) [.t 22,.c (.int .i64 0),.t 24]) 3 false,.G 26 (.un .not (.t 25)) 3 false,.V 27 (.pick (.t 18) (.c (.bool true)) (.t 26))] [0,3,4,27] []) (.cond (.t 27) (.seq (.reg false [.V 2 (.asg (.c (.bool false)))] [2] []) .ret) .skip)) (.norm [0,3,4] [] spec_l17Ok_k2)))) spec_l17Ok_k3)
def spec_l17Ok_k5 : C :=
 .norm [0,3] [] spec_l17Ok_k4
def spec_l17Ok_k6 : C :=
 .seq (.reg false [.V 43 (.mv (.t 0)),.V 44 (.len (.t 43)),.V 45 (.bin .leq (.t 44) (.c (.int .i64 12))),.V 2 (.asg (.t 45))] [2] []) .ret
def spec_l17Ok_ir : Fn := { np := 1,io := [],res := [.t 2],own := [false],body :=
 (.seq (.reg false [.V 2 (.asg (.c (.bool false)))] [0] []) (.seq (.seq (.reg false [.V 3 (.asg (.c (.int .i64 0)))] [0,3] []) (.block 0 (.loop spec_l17Ok_k5))) spec_l17Ok_k6)) }
noncomputable def spec_l17Ok_D : List (Nat × Callee) := [(804,spec_l00Rises_c),(846,spec_l17One_c)]
def spec_l17Ok_H : List (Nat × ET) := [(7,T_Step),(12,T_Step),(22,(.one (.int .i64))),(33,T_Step),(43,T_Step)]
noncomputable def spec_l17Ok_c : Callee := mkCallee spec_l17Ok_D spec_l17Ok_H spec_l17Ok_ir [.d (.one (.sl T_Step))] [.d (.one .bool)] []
noncomputable def spec_l17Ok (a0 : List T_Step.ty) : Option (Bool) := spec_l17Ok_c.f (a0,())
noncomputable def spec_l17Ok_p0  (v0 : List T_Step.ty) (v3 : Int) : Option (Bool) :=
 goL spec_l17Ok_D spec_l17Ok_H (vleave spec_l17Ok_ir [.d (.one (.sl T_Step))] [.d (.one .bool)] [] []) [.c spec_l17Ok_k4,.l spec_l17Ok_k5,.e 0,.c spec_l17Ok_k6]
  ⟨[(0,.sl T_Step v0),(3,.int .i64 v3)],[]⟩
noncomputable def spec_l17Ok_p1  (v0 : List T_Step.ty) (v3 : Int) (v4_0 : List UInt8) (v4_1 : Int) (v4_2 : Int) (v4_3 : List Int) : Option (Bool) :=
 goL spec_l17Ok_D spec_l17Ok_H (vleave spec_l17Ok_ir [.d (.one (.sl T_Step))] [.d (.one .bool)] [] []) [.c spec_l17Ok_k2,.e 1,.c spec_l17Ok_k3,.l spec_l17Ok_k5,.e 0,.c spec_l17Ok_k6]
  ⟨[(0,.sl T_Step v0),(3,.int .i64 v3),(4,.ptr [.str v4_0,.int .i64 v4_1,.int .i64 v4_2,.sl (.one (.int .i64)) v4_3] 0)],[]⟩
noncomputable def spec_l17Ok_p2  (v0 : List T_Step.ty) (v3 : Int) (v4_0 : List UInt8) (v4_1 : Int) (v4_2 : Int) (v4_3 : List Int) (v5 : Int) : Option (Bool) :=
 goL spec_l17Ok_D spec_l17Ok_H (vleave spec_l17Ok_ir [.d (.one (.sl T_Step))] [.d (.one .bool)] [] []) [.c spec_l17Ok_k0,.l spec_l17Ok_k1,.e 2,.e 1,.c spec_l17Ok_k3,.l spec_l17Ok_k5,.e 0,.c spec_l17Ok_k6]
  ⟨[(0,.sl T_Step v0),(3,.int .i64 v3),(4,.ptr [.str v4_0,.int .i64 v4_1,.int .i64 v4_2,.sl (.one (.int .i64)) v4_3] 0),(5,.int .i64 v5)],[]⟩
theorem spec_l17Ok_eq (a0 : List T_Step.ty) : spec_l17Ok a0 =
 spec_l17Ok_p0 a0 0 :=
 (mk_f _ _ _ _ _ _ _ 4000).trans (by kernel_rfl)
theorem spec_l17Ok_p0_eq  (v0 : List T_Step.ty) (v3 : Int) : spec_l17Ok_p0 v0 v3 =
 if decide (v3 < (v0.length : Int)) then
  if decide (0 ≤ v3) then
   (v0[v3.toNat]?).bind fun x1 =>
    (spec_l17One x1).bind fun x2 =>
     if (!x2) then
      some false
     else
      (spec_l00Rises x1.2.2.2.1 0 (IntKind.i64.wrap (v3 - 1))).bind fun x3 =>
       if (!x3) then
        some false
       else
        spec_l17Ok_p1 v0 v3 x1.1 x1.2.1 x1.2.2.1 x1.2.2.2.1
  else
   none
 else
  some (decide ((v0.length : Int) ≤ 12)) :=
 (goL_dn _ _ _ 4000 _ _).trans (by kernel_rfl)
theorem spec_l17Ok_p1_eq  (v0 : List T_Step.ty) (v3 : Int) (v4_0 : List UInt8) (v4_1 : Int) (v4_2 : Int) (v4_3 : List Int) : spec_l17Ok_p1 v0 v3 v4_0 v4_1 v4_2 v4_3 =
 spec_l17Ok_p2 v0 v3 v4_0 v4_1 v4_2 v4_3 0 :=
 (goL_dn _ _ _ 4000 _ _).trans (by kernel_rfl)
theorem spec_l17Ok_p2_eq  (v0 : List T_Step.ty) (v3 : Int) (v4_0 : List UInt8) (v4_1 : Int) (v4_2 : Int) (v4_3 : List Int) (v5 : Int) : spec_l17Ok_p2 v0 v3 v4_0 v4_1 v4_2 v4_3 v5 =
 if decide (v5 < v3) then
  if decide (0 ≤ v5) then
   (v0[v5.toNat]?).bind fun x1 =>
    if (x1.1 == v4_0) then
     some false
    else
     spec_l17Ok_p2 v0 v3 v4_0 v4_1 v4_2 v4_3 (IntKind.i64.wrap (v5 + 1))
  else
   none
 else
  spec_l17Ok_p0 v0 (IntKind.i64.wrap (v3 + 1)) :=
 (goL_dn _ _ _ 4000 _ _).trans (by kernel_rfl)
def spec_l17Starts_k0 : C :=
 .seq (.seq (.reg false [.V 6 (.mv (.t 5)),.V 7 (.mv (.t 1)),.V 8 (.len (.t 7)),.V 9 (.bin .lss (.t 6) (.t 8))] [0,1,5,9] []) (.cond (.t 9) .skip (.exit 0))) (.seq (.block 1 (.seq (.reg false [.V 12 (.mv (.t 1)),.V 13 (.mv (.t 5)),.V 14 (.ia 1 (.t 12) (.t 13)),.V 15 (.ld none (.t 14)),.V 16 (.call (.c (.fn 1 [])) [.t 15,.c (.int .i64 0),.c (.int .i64 2400)]),.V 17 (.un .not (.t 16))] [0,1,5,17] []) (.cond (.t 17) (.seq (.reg false [.V 4 (.asg (.c (.bool false)))] [4] []) .ret) .skip))) (.reg false [.V 10 (.mv (.t 5)),.V 11 (.bin .add (.t 10) (.c (.int .i64 1))),.V 5 (.asg (.t 11))] [0,1,5] []))
def spec_l17Starts_k1 : C :=
 .norm [0,1,5] [] spec_l17Starts_k0
def spec_l17Starts_k2 : C :=
 .seq (.reg false [.V 18 (.mv (.t 1)),.V 19 (.len (.t 18)),.V 20 (.mv (.t 0)),.V 21 (.len (.t 20)),.V 22 (.bin .eql (.t 19) (.t 21)),.V 4 (.asg (.t 22))] [4] []) .ret
def spec_l17Starts_ir : Fn := { np := 2,io := [],res := [.t 4],own := [false],body :=
 (.seq (.reg false [.V 4 (.asg (.c (.bool false)))] [0,1] []) (.seq (.seq (.reg false [.V 5 (.asg (.c (.int .i64 0)))] [0,1,5] []) (.block 0 (.loop spec_l17Starts_k1))) spec_l17Starts_k2)) }
noncomputable def spec_l17Starts_D : List (Nat × Callee) := [(1,spec_l00In_c)]
def spec_l17Starts_H : List (Nat × ET) := [(7,(.one (.int .i64))),(12,(.one (.int .i64))),(18,(.one (.int .i64))),(20,T_Step)]
noncomputable def spec_l17Starts_c : Callee := mkCallee spec_l17Starts_D spec_l17Starts_H spec_l17Starts_ir [.d (.one (.sl T_Step)),.d (.one (.sl (.one (.int .i64))))] [.d (.one .bool)] []
noncomputable def spec_l17Starts (a0 : List T_Step.ty) (a1 : List Int) : Option (Bool) := spec_l17Starts_c.f (a0,a1,())
noncomputable def spec_l17Starts_p0  (v0 : List T_Step.ty) (v1 : List Int) (v5 : Int) : Option (Bool) :=
 goL spec_l17Starts_D spec_l17Starts_H (vleave spec_l17Starts_ir [.d (.one (.sl T_Step)),.d (.one (.sl (.one (.int .i64))))] [.d (.one .bool)] [] []) [.c spec_l17Starts_k0,.l spec_l17Starts_k1,.e 0,.c spec_l17Starts_k2]
  ⟨[(0,.sl T_Step v0),(1,.sl (.one (.int .i64)) v1),(5,.int .i64 v5)],[]⟩
theorem spec_l17Starts_eq (a0 : List T_Step.ty) (a1 : List Int) : spec_l17Starts a0 a1 =
 spec_l17Starts_p0 a0 a1 0 :=
 (mk_f _ _ _ _ _ _ _ 4000).trans (by kernel_rfl)
theorem spec_l17Starts_p0_eq  (v0 : List T_Step.ty) (v1 : List Int) (v5 : Int) : spec_l17Starts_p0 v0 v1 v5 =
 if decide (v5 < (v1.length : Int)) then
  if decide (0 ≤ v5) then
   (v1[v5.toNat]?).bind fun x1 =>
    (spec_l00In x1 0 2400).bind fun x2 =>
     if (!x2) then
      some false
     else
      spec_l17Starts_p0 v0 v1 (IntKind.i64.wrap (v5 + 1))
  else
   none
 else
  some ((v1.length : Int) == (v0.length : Int)) :=
 (goL_dn _ _ _ 4000 _ _).trans (by kernel_rfl)
def spec_l21Day_ir : Fn := { np := 1,io := [],res := [.t 2],own := [false],body :=
 (.seq (.reg false [.V 2 (.asg (.c (.bool false)))] [0] []) (.seq (.reg false [.V 3 (.mv (.t 0)),.V 4 (.call (.c (.fn 1 [])) [.t 3,.c (.int .i64 0),.c (.int .i64 100000)]),.V 2 (.asg (.t 4))] [2] []) .ret)) }
noncomputable def spec_l21Day_D : List (Nat × Callee) := [(1,spec_l00In_c)]
def spec_l21Day_H : List (Nat × ET) := []
noncomputable def spec_l21Day_c : Callee := mkCallee spec_l21Day_D spec_l21Day_H spec_l21Day_ir [.d (.one (.int .i64))] [.d (.one .bool)] []
noncomputable def spec_l21Day (a0 : Int) : Option (Bool) := spec_l21Day_c.f (a0,())
theorem spec_l21Day_eq (a0 : Int) : spec_l21Day a0 =
 (spec_l00In a0 0 100000).bind fun x1 =>
  some x1 :=
 (mk_f _ _ _ _ _ _ _ 4000).trans (by kernel_rfl)
def spec_l21Money_ir : Fn := { np := 1,io := [],res := [.t 2],own := [false],body :=
 (.seq (.reg false [.V 2 (.asg (.c (.bool false)))] [0] []) (.seq (.reg false [.V 3 (.mv (.t 0)),.V 4 (.call (.c (.fn 1 [])) [.t 3,.c (.int .i64 0),.c (.int .i64 10000000)]),.V 2 (.asg (.t 4))] [2] []) .ret)) }
noncomputable def spec_l21Money_D : List (Nat × Callee) := [(1,spec_l00In_c)]
def spec_l21Money_H : List (Nat × ET) := []
noncomputable def spec_l21Money_c : Callee := mkCallee spec_l21Money_D spec_l21Money_H spec_l21Money_ir [.d (.one (.int .i64))] [.d (.one .bool)] []
noncomputable def spec_l21Money (a0 : Int) : Option (Bool) := spec_l21Money_c.f (a0,())
theorem spec_l21Money_eq (a0 : Int) : spec_l21Money a0 =
 (spec_l00In a0 0 10000000).bind fun x1 =>
  some x1 :=
 (mk_f _ _ _ _ _ _ _ 4000).trans (by kernel_rfl)
def spec_l21One_ir : Fn := { np := 1,io := [],res := [.t 2],own := [false],body :=
 (.seq (.reg false [.V 2 (.asg (.c (.bool false)))] [0] []) (.seq (.reg false [.V 3 (.mv (.t 0)),.V 4 (.nilck (.t 3)),.V 5 (.fa 0 (.t 4)),.V 6 (.ld none (.t 5)),.V 7 (.call (.c (.fn 13 [])) [.t 6]),.V 8 (.mv (.t 7)),.G 9 (.mv (.t 0)) 5 true,.G 10 (.nilck (.t 9)) 5 true,.G 11 (.fa 1 (.t 10)) 5 true,.G 12 (.ld none (.t 11)) 5 true,.G 13 (.call (.c (.fn 13 [])) [.t 12]) 5 true,.V 14 (.pick (.t 8) (.t 13) (.c (.bool false))),.V 15 (.mv (.t 14)),.G 16 (.mv (.t 0)) 12 true,.G 17 (.nilck (.t 16)) 12 true,.G 18 (.fa 2 (.t 17)) 12 true,.G 19 (.ld none (.t 18)) 12 true,.G 20 (.call (.c (.fn 993 [])) [.t 19]) 12 true,.V 21 (.pick (.t 15) (.t 20) (.c (.bool false))),.V 22 (.mv (.t 21)),.G 23 (.mv (.t 0)) 19 true,.G 24 (.nilck (.t 23)) 19 true,.G 25 (.fa 3 (.t 24)) 19 true,.G 26 (.ld none (.t 25)) 19 true,.G 27 (.call (.c (.fn 1 [])) [.t 26,.c (.int .i64 1),.c (.int .i64 120)]) 19 true,.V 28 (.pick (.t 22) (.t 27) (.c (.bool false))),.V 29 (.mv (.t 28)),.G 30 (.mv (.t 0)) 26 true,.G 31 (.nilck (.t 30)) 26 true,.G 32 (.fa 4 (.t 31)) 26 true,.G 33 (.ld none (.t 32)) 26 true,.G 34 (.call (.c (.fn 994 [])) [.t 33]) 26 true,.V 35 (.pick (.t 29) (.t 34) (.c (.bool false))),.V 2 (.asg (.t 35))] [2] []) .ret)) }
noncomputable def spec_l21One_D : List (Nat × Callee) := [(1,spec_l00In_c),(13,spec_l01Name_c),(993,spec_l21Day_c),(994,spec_l21Money_c)]
def spec_l21One_H : List (Nat × ET) := []
noncomputable def spec_l21One_c : Callee := mkCallee spec_l21One_D spec_l21One_H spec_l21One_ir [.p T_Paper] [.d (.one .bool)] []
noncomputable def spec_l21One (a0 : T_Paper.ty) : Option (Bool) := spec_l21One_c.f (a0,())
theorem spec_l21One_eq (a0 : T_Paper.ty) : spec_l21One a0 =
 (spec_l01Name a0.1).bind fun x1 =>
  if x1 then
   (spec_l01Name a0.2.1).bind fun x2 =>
    if x2 then
     (spec_l21Day a0.2.2.1).bind fun x3 =>
      if x3 then
       (spec_l00In a0.2.2.2.1 1 120).bind fun x4 =>
        if x4 then
         (spec_l21Money a0.2.2.2.2.1).bind fun x5 =>
          some x5
        else
         some false
      else
       some false
    else
     some false
  else
   some false :=
 (mk_f _ _ _ _ _ _ _ 4000).trans (by kernel_rfl)
def spec_l21Ok_k0 : C :=
 .seq (.seq (.reg false [.V 4 (.mv (.t 3)),.V 5 (.mv (.t 0)),.V 6 (.len (.t 5)),.V 7 (.bin .lss (.t 4) (.t 6))] [0,3,7] []) (.cond (.t 7) .skip (.exit 0))) (.seq (.block 1 (.seq (.reg true [.V 10 (.mv (.t 0)),.V 11 (.mv (.t 3)),.V 12 (.ia 5 (.t 10) (.t 11)),.V 13 (.call (.c (.fn 834 [])) [.t 12]),.V 14 (.un .not (.t 13)),.V 15 (.mv (.t 14)),.G 16 (.mv (.t 3)) 5 false,.G 17 (.bin .gtr (.t 16) (.c (.int .i64 0))) 5 false,.G 18 (.mv (.t 17)) 5 false,.G 19 (.mv (.t 0)) 8 true,.G 20 (.mv (.t 3)) 8 true,.G 21 (.bin .sub (.t 20) (.c (.int .i64 1))) 8 true,.G 22 (.ia 5 (.t 19) (.t 21)) 8 true,.G 23 (.fa 0 (.t 22)) 8 true,.G 24 (.ld none (.t 23)) 8 true,.G 25 (.mv (.t 0)) 8 true,.G 26 (.mv (.t 3)) 8 true,.G 27 (.ia 5 (.t 25) (.t 26)) 8 true,.G 28 (.fa 0 (.t 27)) 8 true,.G 29 (.ld none (.t 28)) 8 true,.G 30 (.bin .geq (.t 24) (.t 29)) 8 true,.G 31 (.pick (.t 18) (.t 30) (.c (.bool false))) 5 false,.V 32 (.pick (.t 15) (.c (.bool true)) (.t 31))] [0,3,32] []) (.cond (.t 32) (.seq (.reg false [.V 2 (.asg (.c (.bool false)))] [2] []) .ret) .skip))) (.reg false [.V 8 (.mv (.t 3)),.V 9 (.bin .add (.t 8) (.c (.int .i64 1))),.V 3 (.asg (.t 9))] [0,3] []))
def spec_l21Ok_k1 : C :=
 .norm [0,3] [] spec_l21Ok_k0
def spec_l21Ok_k2 : C :=
 .seq (.reg false [.V 33 (.mv (.t 0)),.V 34 (.len (.t 33)),.V 35 (.bin .leq (.t 34) (.c (.int .i64 12))),.V 2 (.asg (.t 35))] [2] []) .ret
def spec_l21Ok_ir : Fn := { np := 1,io := [],res := [.t 2],own := [false],body :=
 (.seq (.reg false [.V 2 (.asg (.c (.bool false)))] [0] []) (.seq (.seq (.reg false [.V 3 (.asg (.c (.int .i64 0)))] [0,3] []) (.block 0 (.loop spec_l21Ok_k1))) spec_l21Ok_k2)) }
noncomputable def spec_l21Ok_D : List (Nat × Callee) := [(834,spec_l21One_c)]
def spec_l21Ok_H : List (Nat × ET) := [(5,T_Paper),(10,T_Paper),(19,T_Paper),(25,T_Paper),(33,T_Paper)]
noncomputable def spec_l21Ok_c : Callee := mkCallee spec_l21Ok_D spec_l21Ok_H spec_l21Ok_ir [.d (.one (.sl T_Paper))] [.d (.one .bool)] []
noncomputable def spec_l21Ok (a0 : List T_Paper.ty) : Option (Bool) := spec_l21Ok_c.f (a0,())
noncomputable def spec_l21Ok_p0  (v0 : List T_Paper.ty) (v3 : Int) : Option (Bool) :=
 goL spec_l21Ok_D spec_l21Ok_H (vleave spec_l21Ok_ir [.d (.one (.sl T_Paper))] [.d (.one .bool)] [] []) [.c spec_l21Ok_k0,.l spec_l21Ok_k1,.e 0,.c spec_l21Ok_k2]
  ⟨[(0,.sl T_Paper v0),(3,.int .i64 v3)],[]⟩
theorem spec_l21Ok_eq (a0 : List T_Paper.ty) : spec_l21Ok a0 =
 spec_l21Ok_p0 a0 0 :=
 (mk_f _ _ _ _ _ _ _ 4000).trans (by kernel_rfl)
theorem spec_l21Ok_p0_eq  (v0 : List T_Paper.ty) (v3 : Int) : spec_l21Ok_p0 v0 v3 =
 if decide (v3 < (v0.length : Int)) then
  if decide (0 ≤ v3) then
   (v0[v3.toNat]?).bind fun x1 =>
    (spec_l21One x1).bind fun x2 =>
     if (!x2) then
      some false
     else
      if decide (v3 > 0) then
       if decide (0 ≤ IntKind.i64.wrap (v3 - 1)) then
        (v0[(IntKind.i64.wrap (v3 - 1)).toNat]?).bind fun x3 =>
         if decide (0 ≤ v3) then
          (v0[v3.toNat]?).bind fun x4 =>
           if (!Op.bytesLess x3.1 x4.1) then
            some false
           else
            spec_l21Ok_p0 v0 (IntKind.i64.wrap (v3 + 1))
         else
          none
       else
        none
      else
       spec_l21Ok_p0 v0 (IntKind.i64.wrap (v3 + 1))
  else
   none
 else
  some (decide ((v0.length : Int) ≤ 12)) :=
 (goL_dn _ _ _ 4000 _ _).trans (by kernel_rfl)
def spec_l25One_ir : Fn := { np := 1,io := [],res := [.t 2],own := [false],body :=
 (.seq (.reg false [.V 2 (.asg (.c (.bool false)))] [0] []) (.seq (.reg true [.V 3 (.mv (.t 0)),.V 4 (.nilck (.t 3)),.V 5 (.fa 0 (.t 4)),.V 6 (.ld none (.t 5)),.V 7 (.call (.c (.fn 993 [])) [.t 6]),.V 8 (.mv (.t 7)),.G 9 (.mv (.t 0)) 5 true,.G 10 (.nilck (.t 9)) 5 true,.G 11 (.fa 1 (.t 10)) 5 true,.G 12 (.ld none (.t 11)) 5 true,.G 13 (.call (.c (.fn 13 [])) [.t 12]) 5 true,.V 14 (.pick (.t 8) (.t 13) (.c (.bool false))),.V 15 (.mv (.t 14)),.G 16 (.mv (.t 0)) 12 true,.G 17 (.nilck (.t 16)) 12 true,.G 18 (.fa 2 (.t 17)) 12 true,.G 19 (.ld none (.t 18)) 12 true,.G 20 (.call (.c (.fn 13 [])) [.t 19]) 12 true,.V 21 (.pick (.t 15) (.t 20) (.c (.bool false))),.V 22 (.mv (.t 21)),.G 23 (.mv (.t 0)) 19 true,.G 24 (.nilck (.t 23)) 19 true,.G 25 (.fa 1 (.t 24)) 19 true,.G 26 (.ld none (.t 25)) 19 true,.G 27 (.mv (.t 0)) 19 true,.G 28 (.nilck (.t 27)) 19 true,.G 29 (.fa 2 (.t 28)) 19 true,.G 30 (.ld none (.t 29)) 19 true,.G 31 (.bin .neq (.t 26) (.t 30)) 19 true,.V 32 (.pick (.t 22) (.t 31) (.c (.bool false))),.V 33 (.mv (.t 32)),.G 34 (.mv (.t 0)) 30 true,.G 35 (.nilck (.t 34)) 30 true,.G 36 (.fa 3 (.t 35)) 30 true,.G 37 (.ld none (.t 36)) 30 true,.G 38 (.call (.c (.fn 1 [])) [.t 37,.c (.int .i64 1),.c (.int .i64 10000000)]) 30 true,.V 39 (.pick (.t 33) (.t 38) (.c (.bool false))),.V 2 (.asg (.t 39))] [2] []) .ret)) }
noncomputable def spec_l25One_D : List (Nat × Callee) := [(1,spec_l00In_c),(13,spec_l01Name_c),(993,spec_l21Day_c)]
def spec_l25One_H : List (Nat × ET) := []
noncomputable def spec_l25One_c : Callee := mkCallee spec_l25One_D spec_l25One_H spec_l25One_ir [.p T_Entry] [.d (.one .bool)] []
noncomputable def spec_l25One (a0 : T_Entry.ty) : Option (Bool) := spec_l25One_c.f (a0,())
theorem spec_l25One_eq (a0 : T_Entry.ty) : spec_l25One a0 =
 (spec_l21Day a0.1).bind fun x1 =>
  if x1 then
   (spec_l01Name a0.2.1).bind fun x2 =>
    if x2 then
     (spec_l01Name a0.2.2.1).bind fun x3 =>
      if x3 then
       if (!(a0.2.1 == a0.2.2.1)) then
        (spec_l00In a0.2.2.2.1 1 10000000).bind fun x4 =>
         some x4
       else
        some false
      else
       some false
    else
     some false
  else
   some false :=
 (mk_f _ _ _ _ _ _ _ 4000).trans (by kernel_rfl)
def spec_l25Ok_k0 : C :=
 .seq (.seq (.reg false [.V 4 (.mv (.t 3)),.V 5 (.mv (.t 0)),.V 6 (.len (.t 5)),.V 7 (.bin .lss (.t 4) (.t 6))] [0,3,7] []) (.cond (.t 7) .skip (.exit 0))) (.seq (.block 1 (.seq (.reg true [.V 10 (.mv (.t 0)),.V 11 (.mv (.t 3)),.V 12 (.ia 4 (.t 10) (.t 11)),.V 13 (.call (.c (.fn 1028 [])) [.t 12]),.V 14 (.un .not (.t 13)),.V 15 (.mv (.t 14)),.G 16 (.mv (.t 3)) 5 false,.G 17 (.bin .gtr (.t 16) (.c (.int .i64 0))) 5 false,.G 18 (.mv (.t 17)) 5 false,.G 19 (.mv (.t 0)) 8 true,.G 20 (.mv (.t 3)) 8 true,.G 21 (.bin .sub (.t 20) (.c (.int .i64 1))) 8 true,.G 22 (.ia 4 (.t 19) (.t 21)) 8 true,.G 23 (.fa 0 (.t 22)) 8 true,.G 24 (.ld none (.t 23)) 8 true,.G 25 (.mv (.t 0)) 8 true,.G 26 (.mv (.t 3)) 8 true,.G 27 (.ia 4 (.t 25) (.t 26)) 8 true,.G 28 (.fa 0 (.t 27)) 8 true,.G 29 (.ld none (.t 28)) 8 true,.G 30 (.bin .gtr (.t 24) (.t 29)) 8 true,.G 31 (.pick (.t 18) (.t 30) (.c (.bool false))) 5 false,.V 32 (.pick (.t 15) (.c (.bool true)) (.t 31))] [0,3,32] []) (.cond (.t 32) (.seq (.reg false [.V 2 (.asg (.c (.bool false)))] [2] []) .ret) .skip))) (.reg false [.V 8 (.mv (.t 3)),.V 9 (.bin .add (.t 8) (.c (.int .i64 1))),.V 3 (.asg (.t 9))] [0,3] []))
def spec_l25Ok_k1 : C :=
 .norm [0,3] [] spec_l25Ok_k0
def spec_l25Ok_k2 : C :=
 .seq (.reg false [.V 33 (.mv (.t 0)),.V 34 (.len (.t 33)),.V 35 (.bin .leq (.t 34) (.c (.int .i64 32))),.V 2 (.asg (.t 35))] [2] []) .ret
def spec_l25Ok_ir : Fn := { np := 1,io := [],res := [.t 2],own := [false],body :=
 (.seq (.reg false [.V 2 (.asg (.c (.bool false)))] [0] []) (.seq (.seq (.reg false [.V 3 (.asg (.c (.int .i64 0)))] [0,3] []) (.block 0 (.loop spec_l25Ok_k1))) spec_l25Ok_k2)) }
noncomputable def spec_l25Ok_D : List (Nat × Callee) := [(1028,spec_l25One_c)]
def spec_l25Ok_H : List (Nat × ET) := [(5,T_Entry),(10,T_Entry),(19,T_Entry),(25,T_Entry),(33,T_Entry)]
noncomputable def spec_l25Ok_c : Callee := mkCallee spec_l25Ok_D spec_l25Ok_H spec_l25Ok_ir [.d (.one (.sl T_Entry))] [.d (.one .bool)] []
noncomputable def spec_l25Ok (a0 : List T_Entry.ty) : Option (Bool) := spec_l25Ok_c.f (a0,())
noncomputable def spec_l25Ok_p0  (v0 : List T_Entry.ty) (v3 : Int) : Option (Bool) :=
 goL spec_l25Ok_D spec_l25Ok_H (vleave spec_l25Ok_ir [.d (.one (.sl T_Entry))] [.d (.one .bool)] [] []) [.c spec_l25Ok_k0,.l spec_l25Ok_k1,.e 0,.c spec_l25Ok_k2]
  ⟨[(0,.sl T_Entry v0),(3,.int .i64 v3)],[]⟩
theorem spec_l25Ok_eq (a0 : List T_Entry.ty) : spec_l25Ok a0 =
 spec_l25Ok_p0 a0 0 :=
 (mk_f _ _ _ _ _ _ _ 4000).trans (by kernel_rfl)
theorem spec_l25Ok_p0_eq  (v0 : List T_Entry.ty) (v3 : Int) : spec_l25Ok_p0 v0 v3 =
 if decide (v3 < (v0.length : Int)) then
  if decide (0 ≤ v3) then
   (v0[v3.toNat]?).bind fun x1 =>
    (spec_l25One x1).bind fun x2 =>
     if (!x2) then
      some false
     else
      if decide (v3 > 0) then
       if decide (0 ≤ IntKind.i64.wrap (v3 - 1)) then
        (v0[(IntKind.i64.wrap (v3 - 1)).toNat]?).bind fun x3 =>
         if decide (0 ≤ v3) then
          (v0[v3.toNat]?).bind fun x4 =>
           if decide (x3.1 > x4.1) then
            some false
           else
            spec_l25Ok_p0 v0 (IntKind.i64.wrap (v3 + 1))
         else
          none
       else
        none
      else
       spec_l25Ok_p0 v0 (IntKind.i64.wrap (v3 + 1))
  else
   none
 else
  some (decide ((v0.length : Int) ≤ 32)) :=
 (goL_dn _ _ _ 4000 _ _).trans (by kernel_rfl)
def spec_l31Ok_k0 : C :=
 .seq (.reg false [.V 45 (.mv (.t 0)),.V 46 (.nilck (.t 45)),.V 47 (.fa 5 (.t 46)),.V 48 (.ld none (.t 47)),.V 49 (.call (.c (.fn 1 [])) [.t 48,.c (.int .i64 0),.c (.int .i64 240)]),.V 50 (.mv (.t 49)),.G 51 (.mv (.t 0)) 5 true,.G 52 (.nilck (.t 51)) 5 true,.G 53 (.fa 6 (.t 52)) 5 true,.G 54 (.ld none (.t 53)) 5 true,.G 55 (.call (.c (.fn 722 [])) [.t 54]) 5 true,.V 56 (.pick (.t 50) (.t 55) (.c (.bool false))),.V 57 (.mv (.t 56)),.G 58 (.mv (.t 0)) 12 true,.G 59 (.nilck (.t 58)) 12 true,.G 60 (.fa 7 (.t 59)) 12 true,.G 61 (.ld none (.t 60)) 12 true,.G 62 (.call (.c (.fn 888 [])) [.t 61]) 12 true,.V 63 (.pick (.t 57) (.t 62) (.c (.bool false))),.V 2 (.asg (.t 63))] [2] []) .ret
def spec_l31Ok_ir : Fn := { np := 1,io := [],res := [.t 2],own := [false],body :=
 (.seq (.reg false [.V 2 (.asg (.c (.bool false)))] [0] []) (.seq (.seq (.reg true [.V 3 (.mv (.t 0)),.V 4 (.nilck (.t 3)),.V 5 (.fa 0 (.t 4)),.V 6 (.ld none (.t 5)),.V 7 (.call (.c (.fn 889 [])) [.t 6]),.V 8 (.un .not (.t 7)),.V 9 (.mv (.t 8)),.G 10 (.mv (.t 0)) 6 false,.G 11 (.nilck (.t 10)) 6 false,.G 12 (.fa 1 (.t 11)) 6 false,.G 13 (.ld none (.t 12)) 6 false,.G 14 (.call (.c (.fn 890 [])) [.t 13]) 6 false,.G 15 (.un .not (.t 14)) 6 false,.V 16 (.pick (.t 9) (.c (.bool true)) (.t 15)),.V 17 (.mv (.t 16)),.G 18 (.mv (.t 0)) 14 false,.G 19 (.nilck (.t 18)) 14 false,.G 20 (.fa 2 (.t 19)) 14 false,.G 21 (.ld none (.t 20)) 14 false,.G 22 (.call (.c (.fn 891 [])) [.t 21]) 14 false,.G 23 (.un .not (.t 22)) 14 false,.V 24 (.pick (.t 17) (.c (.bool true)) (.t 23)),.V 25 (.mv (.t 24)),.G 26 (.mv (.t 0)) 22 false,.G 27 (.nilck (.t 26)) 22 false,.G 28 (.fa 3 (.t 27)) 22 false,.G 29 (.ld none (.t 28)) 22 false,.G 30 (.call (.c (.fn 462 [])) [.t 29]) 22 false,.G 31 (.un .not (.t 30)) 22 false,.V 32 (.pick (.t 25) (.c (.bool true)) (.t 31)),.V 33 (.mv (.t 32)),.G 34 (.mv (.t 0)) 30 false,.G 35 (.nilck (.t 34)) 30 false,.G 36 (.fa 3 (.t 35)) 30 false,.G 37 (.ld none (.t 36)) 30 false,.G 38 (.mv (.t 0)) 30 false,.G 39 (.nilck (.t 38)) 30 false,.G 40 (.fa 4 (.t 39)) 30 false,.G 41 (.ld none (.t 40)) 30 false,.G 42 (.call (.c (.fn 537 [])) [.t 37,.t 41]) 30 false,.G 43 (.un .not (.t 42)) 30 false,.V 44 (.pick (.t 33) (.c (.bool true)) (.t 43))] [0,44] []) (.cond (.t 44) (.seq (.reg false [.V 2 (.asg (.c (.bool false)))] [2] []) .ret) .skip)) (.norm [0] [] spec_l31Ok_k0))) }
noncomputable def spec_l31Ok_D : List (Nat × Callee) := [(1,spec_l00In_c),(462,spec_l17Ok_c),(537,spec_l17Starts_c),(722,spec_l21Ok_c),(888,spec_l25Ok_c),(889,spec_l05Ok_c),(890,spec_l09List_c),(891,spec_l09Share_c)]
def spec_l31Ok_H : List (Nat × ET) := [(6,T_Arc),(13,T_Neck),(29,T_Step),(37,T_Step),(41,(.one (.int .i64))),(54,T_Paper),(61,T_Entry)]
noncomputable def spec_l31Ok_c : Callee := mkCallee spec_l31Ok_D spec_l31Ok_H spec_l31Ok_ir [.p T_Shop] [.d (.one .bool)] []
noncomputable def spec_l31Ok (a0 : T_Shop.ty) : Option (Bool) := spec_l31Ok_c.f (a0,())
noncomputable def spec_l31Ok_p0  (v0_0 : List T_Arc.ty) (v0_1 : List T_Neck.ty) (v0_2 : Int) (v0_3 : List T_Step.ty) (v0_4 : List Int) (v0_5 : Int) (v0_6 : List T_Paper.ty) (v0_7 : List T_Entry.ty) : Option (Bool) :=
 goL spec_l31Ok_D spec_l31Ok_H (vleave spec_l31Ok_ir [.p T_Shop] [.d (.one .bool)] [] []) [.c spec_l31Ok_k0]
  ⟨[(0,.ptr [.sl T_Arc v0_0,.sl T_Neck v0_1,.int .i64 v0_2,.sl T_Step v0_3,.sl (.one (.int .i64)) v0_4,.int .i64 v0_5,.sl T_Paper v0_6,.sl T_Entry v0_7] 0)],[]⟩
theorem spec_l31Ok_eq (a0 : T_Shop.ty) : spec_l31Ok a0 =
 (spec_l05Ok a0.1).bind fun x1 =>
  if (!x1) then
   some false
  else
   (spec_l09List a0.2.1).bind fun x2 =>
    if (!x2) then
     some false
    else
     (spec_l09Share a0.2.2.1).bind fun x3 =>
      if (!x3) then
       some false
      else
       (spec_l17Ok a0.2.2.2.1).bind fun x4 =>
        if (!x4) then
         some false
        else
         (spec_l17Starts a0.2.2.2.1 a0.2.2.2.2.1).bind fun x5 =>
          if (!x5) then
           some false
          else
           spec_l31Ok_p0 a0.1 a0.2.1 a0.2.2.1 a0.2.2.2.1 a0.2.2.2.2.1 a0.2.2.2.2.2.1 a0.2.2.2.2.2.2.1 a0.2.2.2.2.2.2.2.1 :=
 (mk_f _ _ _ _ _ _ _ 4000).trans (by kernel_rfl)
theorem spec_l31Ok_p0_eq  (v0_0 : List T_Arc.ty) (v0_1 : List T_Neck.ty) (v0_2 : Int) (v0_3 : List T_Step.ty) (v0_4 : List Int) (v0_5 : Int) (v0_6 : List T_Paper.ty) (v0_7 : List T_Entry.ty) : spec_l31Ok_p0 v0_0 v0_1 v0_2 v0_3 v0_4 v0_5 v0_6 v0_7 =
 (spec_l00In v0_5 0 240).bind fun x1 =>
  if x1 then
   (spec_l21Ok v0_6).bind fun x2 =>
    if x2 then
     (spec_l25Ok v0_7).bind fun x3 =>
      some x3
    else
     some false
  else
   some false :=
 (goL_dn _ _ _ 4000 _ _).trans (by kernel_rfl)
def spec_l21End_ir : Fn := { np := 1,io := [],res := [.t 2],own := [false],body :=
 (.seq (.reg false [.V 2 (.asg (.c (.int .i64 0)))] [0] []) (.seq (.reg true [.V 3 (.mv (.t 0)),.V 4 (.nilck (.t 3)),.V 5 (.fa 2 (.t 4)),.V 6 (.ld none (.t 5)),.V 7 (.mv (.t 0)),.V 8 (.nilck (.t 7)),.V 9 (.fa 3 (.t 8)),.V 10 (.ld none (.t 9)),.V 11 (.bin .mul (.c (.int .i64 30)) (.t 10)),.V 12 (.bin .add (.t 6) (.t 11)),.V 2 (.asg (.t 12))] [2] []) .ret)) }
noncomputable def spec_l21End_D : List (Nat × Callee) := []
def spec_l21End_H : List (Nat × ET) := []
noncomputable def spec_l21End_c : Callee := mkCallee spec_l21End_D spec_l21End_H spec_l21End_ir [.p T_Paper] [.d (.one (.int .i64))] []
noncomputable def spec_l21End (a0 : T_Paper.ty) : Option (Int) := spec_l21End_c.f (a0,())
theorem spec_l21End_eq (a0 : T_Paper.ty) : spec_l21End a0 =
 some (IntKind.i64.wrap (a0.2.2.1 + (IntKind.i64.wrap (30 * a0.2.2.2.1)))) :=
 (mk_f _ _ _ _ _ _ _ 4000).trans (by kernel_rfl)
def spec_l21Clash_ir : Fn := { np := 2,io := [],res := [.t 4],own := [false],body :=
 (.seq (.reg false [.V 4 (.asg (.c (.bool false)))] [0,1] []) (.seq (.reg true [.V 5 (.mv (.t 0)),.V 6 (.nilck (.t 5)),.V 7 (.fa 1 (.t 6)),.V 8 (.ld none (.t 7)),.V 9 (.mv (.t 1)),.V 10 (.nilck (.t 9)),.V 11 (.fa 1 (.t 10)),.V 12 (.ld none (.t 11)),.V 13 (.bin .eql (.t 8) (.t 12)),.V 14 (.mv (.t 13)),.G 15 (.mv (.t 0)) 9 true,.G 16 (.nilck (.t 15)) 9 true,.G 17 (.fa 2 (.t 16)) 9 true,.G 18 (.ld none (.t 17)) 9 true,.G 19 (.mv (.t 1)) 9 true,.G 20 (.call (.c (.fn 1046 [])) [.t 19]) 9 true,.G 21 (.bin .lss (.t 18) (.t 20)) 9 true,.V 22 (.pick (.t 14) (.t 21) (.c (.bool false))),.V 23 (.mv (.t 22)),.G 24 (.mv (.t 1)) 18 true,.G 25 (.nilck (.t 24)) 18 true,.G 26 (.fa 2 (.t 25)) 18 true,.G 27 (.ld none (.t 26)) 18 true,.G 28 (.mv (.t 0)) 18 true,.G 29 (.call (.c (.fn 1046 [])) [.t 28]) 18 true,.G 30 (.bin .lss (.t 27) (.t 29)) 18 true,.V 31 (.pick (.t 23) (.t 30) (.c (.bool false))),.V 4 (.asg (.t 31))] [4] []) .ret)) }
noncomputable def spec_l21Clash_D : List (Nat × Callee) := [(1046,spec_l21End_c)]
def spec_l21Clash_H : List (Nat × ET) := []
noncomputable def spec_l21Clash_c : Callee := mkCallee spec_l21Clash_D spec_l21Clash_H spec_l21Clash_ir [.p T_Paper,.p T_Paper] [.d (.one .bool)] []
noncomputable def spec_l21Clash (a0 : T_Paper.ty) (a1 : T_Paper.ty) : Option (Bool) := spec_l21Clash_c.f (a0,a1,())
theorem spec_l21Clash_eq (a0 : T_Paper.ty) (a1 : T_Paper.ty) : spec_l21Clash a0 a1 =
 if (a0.2.1 == a1.2.1) then
  (spec_l21End a1).bind fun x1 =>
   if decide (a0.2.2.1 < x1) then
    (spec_l21End a0).bind fun x2 =>
     some (decide (a1.2.2.1 < x2))
   else
    some false
 else
  some false :=
 (mk_f _ _ _ _ _ _ _ 4000).trans (by kernel_rfl)
def spec_l21Clashes_k0 : C :=
 .seq (.seq (.reg false [.V 15 (.mv (.t 5)),.V 16 (.mv (.t 0)),.V 17 (.len (.t 16)),.V 18 (.bin .lss (.t 15) (.t 17))] [0,3,4,5,18] [3]) (.cond (.t 18) .skip (.exit 2))) (.seq (.block 3 (.seq (.reg true [.V 21 (.mv (.t 0)),.V 22 (.mv (.t 4)),.V 23 (.ia 5 (.t 21) (.t 22)),.V 24 (.mv (.t 0)),.V 25 (.mv (.t 5)),.V 26 (.ia 5 (.t 24) (.t 25)),.V 27 (.call (.c (.fn 947 [])) [.t 23,.t 26])] [0,3,4,5,27] [3]) (.cond (.t 27) (.reg false [.V 28 (.mv (.t 3)),.V 29 (.mv (.t 4)),.V 30 (.mv (.t 5)),.V 31 (.bsl 1 (.int .i64 0) 2 [(0,.t 29),(1,.t 30)]),.W 32 (.bsl 1 (.sl 1 []) 1 [(0,.t 31)]),.W 33 (.app 1 24 (.t 28) (.t 32)),.W 3 (.asg (.t 33))] [0,3,4,5] [3]) .skip))) (.reg false [.V 19 (.mv (.t 5)),.V 20 (.bin .add (.t 19) (.c (.int .i64 1))),.V 5 (.asg (.t 20))] [0,3,4,5] [3]))
def spec_l21Clashes_k1 : C :=
 .norm [0,3,4,5] [3] spec_l21Clashes_k0
def spec_l21Clashes_k2 : C :=
 .reg false [.V 11 (.mv (.t 4)),.V 12 (.bin .add (.t 11) (.c (.int .i64 1))),.V 4 (.asg (.t 12))] [0,3,4] [3]
def spec_l21Clashes_k3 : C :=
 .seq (.seq (.reg false [.V 7 (.mv (.t 4)),.V 8 (.mv (.t 0)),.V 9 (.len (.t 8)),.V 10 (.bin .lss (.t 7) (.t 9))] [0,3,4,10] [3]) (.cond (.t 10) .skip (.exit 0))) (.seq (.block 1 (.seq (.reg false [.V 13 (.mv (.t 4)),.V 14 (.bin .add (.t 13) (.c (.int .i64 1))),.V 5 (.asg (.t 14))] [0,3,4,5] [3]) (.block 2 (.loop spec_l21Clashes_k1)))) spec_l21Clashes_k2)
def spec_l21Clashes_k4 : C :=
 .norm [0,3,4] [3] spec_l21Clashes_k3
def spec_l21Clashes_k5 : C :=
 .seq (.reg false [.V 34 (.mv (.t 3)),.W 2 (.asg (.t 34))] [2] [2,3]) .ret
def spec_l21Clashes_ir : Fn := { np := 1,io := [],res := [.t 2],own := [false],body :=
 (.seq (.reg false [.W 2 (.asg (.c (.nils 1)))] [0] []) (.seq (.reg false [.V 6 (.bsl 1 (.sl 1 []) 0 []),.W 3 (.asg (.t 6))] [0,3] [3]) (.seq (.seq (.reg false [.V 4 (.asg (.c (.int .i64 0)))] [0,3,4] [3]) (.block 0 (.loop spec_l21Clashes_k4))) spec_l21Clashes_k5))) }
noncomputable def spec_l21Clashes_D : List (Nat × Callee) := [(947,spec_l21Clash_c)]
def spec_l21Clashes_H : List (Nat × ET) := [(2,(.one (.sl (.one (.int .i64))))),(3,(.one (.sl (.one (.int .i64))))),(6,(.one (.sl (.one (.int .i64))))),(8,T_Paper),(16,T_Paper),(21,T_Paper),(24,T_Paper),(28,(.one (.sl (.one (.int .i64))))),(31,(.one (.int .i64))),(32,(.one (.sl (.one (.int .i64))))),(33,(.one (.sl (.one (.int .i64))))),(34,(.one (.sl (.one (.int .i64)))))]
noncomputable def spec_l21Clashes_c : Callee := mkCallee spec_l21Clashes_D spec_l21Clashes_H spec_l21Clashes_ir [.d (.one (.sl T_Paper))] [.d (.one (.sl (.one (.sl (.one (.int .i64))))))] []
noncomputable def spec_l21Clashes (a0 : List T_Paper.ty) : Option (List (List Int)) := spec_l21Clashes_c.f (a0,())
noncomputable def spec_l21Clashes_p0  (v0 : List T_Paper.ty) (v4 : Int) (r3 : List (List Int)) : Option (List (List Int)) :=
 goL spec_l21Clashes_D spec_l21Clashes_H (vleave spec_l21Clashes_ir [.d (.one (.sl T_Paper))] [.d (.one (.sl (.one (.sl (.one (.int .i64))))))] [] []) [.c spec_l21Clashes_k3,.l spec_l21Clashes_k4,.e 0,.c spec_l21Clashes_k5]
  ⟨[(0,.sl T_Paper v0),(3,.view 3 0 r3.length),(4,.int .i64 v4)],[(3,some (.sl (.one (.sl (.one (.int .i64)))) r3))]⟩
noncomputable def spec_l21Clashes_p1  (v0 : List T_Paper.ty) (v4 : Int) (v5 : Int) (r3 : List (List Int)) : Option (List (List Int)) :=
 goL spec_l21Clashes_D spec_l21Clashes_H (vleave spec_l21Clashes_ir [.d (.one (.sl T_Paper))] [.d (.one (.sl (.one (.sl (.one (.int .i64))))))] [] []) [.c spec_l21Clashes_k0,.l spec_l21Clashes_k1,.e 2,.e 1,.c spec_l21Clashes_k2,.l spec_l21Clashes_k4,.e 0,.c spec_l21Clashes_k5]
  ⟨[(0,.sl T_Paper v0),(3,.view 3 0 r3.length),(4,.int .i64 v4),(5,.int .i64 v5)],[(3,some (.sl (.one (.sl (.one (.int .i64)))) r3))]⟩
theorem spec_l21Clashes_eq (a0 : List T_Paper.ty) : spec_l21Clashes a0 =
 spec_l21Clashes_p0 a0 0 [] :=
 (mk_f _ _ _ _ _ _ _ 4000).trans (by kernel_rfl)
theorem spec_l21Clashes_p0_eq  (v0 : List T_Paper.ty) (v4 : Int) (r3 : List (List Int)) : spec_l21Clashes_p0 v0 v4 r3 =
 if decide (v4 < (v0.length : Int)) then
  spec_l21Clashes_p1 v0 v4 (IntKind.i64.wrap (v4 + 1)) r3
 else
  some (r3.take r3.length) :=
 (goL_dn _ _ _ 4000 _ _).trans (by kernel_rfl)
theorem spec_l21Clashes_p1_eq  (v0 : List T_Paper.ty) (v4 : Int) (v5 : Int) (r3 : List (List Int)) : spec_l21Clashes_p1 v0 v4 v5 r3 =
 if decide (v5 < (v0.length : Int)) then
  if decide (0 ≤ v4) then
   (v0[v4.toNat]?).bind fun x1 =>
    if decide (0 ≤ v5) then
     (v0[v5.toNat]?).bind fun x2 =>
      (spec_l21Clash x1 x2).bind fun x3 =>
       if x3 then
        if decide (r3.length + 1 < lim) then
         spec_l21Clashes_p1 v0 v4 (IntKind.i64.wrap (v5 + 1)) ((r3.take r3.length) ++ [[v4,v5]])
        else
         none
       else
        spec_l21Clashes_p1 v0 v4 (IntKind.i64.wrap (v5 + 1)) r3
    else
     none
  else
   none
 else
  spec_l21Clashes_p0 v0 (IntKind.i64.wrap (v4 + 1)) r3 :=
 (goL_dn _ _ _ 4000 _ _).trans (by kernel_rfl)
def spec_l25Change_ir : Fn := { np := 2,io := [],res := [.t 4],own := [false],body :=
 (.seq (.reg false [.V 4 (.asg (.c (.int .i64 0)))] [0,1] []) (.seq (.seq (.reg false [.V 5 (.mv (.t 0)),.V 6 (.nilck (.t 5)),.V 7 (.fa 1 (.t 6)),.V 8 (.ld none (.t 7)),.V 9 (.mv (.t 1)),.V 10 (.bin .eql (.t 8) (.t 9))] [0,1,10] []) (.cond (.t 10) (.seq (.reg false [.V 11 (.mv (.t 0)),.V 12 (.nilck (.t 11)),.V 13 (.fa 3 (.t 12)),.V 14 (.ld none (.t 13)),.V 4 (.asg (.t 14))] [4] []) .ret) .skip)) (.seq (.seq (.reg false [.V 15 (.mv (.t 0)),.V 16 (.nilck (.t 15)),.V 17 (.fa 2 (.t 16)),.V 18 (.ld none (.t 17)),.V 19 (.mv (.t 1)),.V 20 (.bin .eql (.t 18) (.t 19))] [0,20] []) (.cond (.t 20) (.seq (.reg false [.V 21 (.mv (.t 0)),.V 22 (.nilck (.t 21)),.V 23 (.fa 3 (.t 22)),.V 24 (.ld none (.t 23)),.V 25 (.un .neg (.t 24)),.V 4 (.asg (.t 25))] [4] []) .ret) .skip)) (.seq (.reg false [.V 4 (.asg (.c (.int .i64 0)))] [4] []) .ret)))) }
noncomputable def spec_l25Change_D : List (Nat × Callee) := []
def spec_l25Change_H : List (Nat × ET) := []
noncomputable def spec_l25Change_c : Callee := mkCallee spec_l25Change_D spec_l25Change_H spec_l25Change_ir [.p T_Entry,.d (.one .str)] [.d (.one (.int .i64))] []
noncomputable def spec_l25Change (a0 : T_Entry.ty) (a1 : List UInt8) : Option (Int) := spec_l25Change_c.f (a0,a1,())
theorem spec_l25Change_eq (a0 : T_Entry.ty) (a1 : List UInt8) : spec_l25Change a0 a1 =
 if (a0.2.1 == a1) then
  some a0.2.2.2.1
 else
  if (a0.2.2.1 == a1) then
   some (IntKind.i64.wrap (0 - a0.2.2.2.1))
  else
   some 0 :=
 (mk_f _ _ _ _ _ _ _ 4000).trans (by kernel_rfl)
def spec_l01Dec_k0 : C :=
 .reg false [.V 22 (.mv (.t 3)),.V 23 (.mv (.t 5)),.V 24 (.bin .add (.c (.int .i64 48)) (.t 23)),.V 25 (.conv (.int .u8) (.t 24)),.V 26 (.bsl 1 (.int .u8 0) 1 [(0,.t 25)]),.W 27 (.app 1 1 (.t 22) (.t 26)),.W 3 (.asg (.t 27))] [0,3,4] [3]
def spec_l01Dec_k1 : C :=
 .reg false [.V 14 (.mv (.t 4)),.V 15 (.bin .quo (.t 14) (.c (.int .i64 10))),.V 4 (.asg (.t 15))] [0,3,4] [3]
def spec_l01Dec_k2 : C :=
 .seq (.seq (.reg false [.V 12 (.mv (.t 4)),.V 13 (.bin .neq (.t 12) (.c (.int .i64 0)))] [0,3,4,13] [3]) (.cond (.t 13) .skip (.exit 0))) (.seq (.block 1 (.seq (.reg false [.V 16 (.mv (.t 4)),.V 17 (.bin .rem (.t 16) (.c (.int .i64 10))),.V 5 (.asg (.t 17))] [0,3,4,5] [3]) (.seq (.seq (.reg false [.V 18 (.mv (.t 5)),.V 19 (.bin .lss (.t 18) (.c (.int .i64 0)))] [0,3,4,5,19] [3]) (.cond (.t 19) (.reg false [.V 20 (.mv (.t 5)),.V 21 (.un .neg (.t 20)),.V 5 (.asg (.t 21))] [0,3,4,5] [3]) .skip)) (.norm [0,3,4,5] [3] spec_l01Dec_k0)))) spec_l01Dec_k1)
def spec_l01Dec_k3 : C :=
 .norm [0,3,4] [3] spec_l01Dec_k2
def spec_l01Dec_k4 : C :=
 .seq (.seq (.reg false [.V 37 (.mv (.t 7)),.V 38 (.bin .geq (.t 37) (.c (.int .i64 0)))] [3,6,7,38] [3,6]) (.cond (.t 38) .skip (.exit 2))) (.seq (.block 3 (.reg false [.V 41 (.mv (.t 6)),.V 42 (.mv (.t 3)),.V 43 (.mv (.t 7)),.V 44 (.ia 1 (.t 42) (.t 43)),.V 45 (.ld none (.t 44)),.V 46 (.bsl 1 (.int .u8 0) 1 [(0,.t 45)]),.W 47 (.app 1 1 (.t 41) (.t 46)),.W 6 (.asg (.t 47))] [3,6,7] [3,6])) (.reg false [.V 39 (.mv (.t 7)),.V 40 (.bin .sub (.t 39) (.c (.int .i64 1))),.V 7 (.asg (.t 40))] [3,6,7] [3,6]))
def spec_l01Dec_k5 : C :=
 .norm [3,6,7] [3,6] spec_l01Dec_k4
def spec_l01Dec_k6 : C :=
 .seq (.reg false [.V 48 (.mv (.t 6)),.V 49 (.conv .bytesStr (.t 48)),.V 2 (.asg (.t 49))] [2] []) .ret
def spec_l01Dec_k7 : C :=
 .seq (.reg false [.V 33 (.bsl 1 (.int .u8 0) 0 []),.W 6 (.asg (.t 33))] [3,6] [3,6]) (.seq (.seq (.reg false [.V 34 (.mv (.t 3)),.V 35 (.len (.t 34)),.V 36 (.bin .sub (.t 35) (.c (.int .i64 1))),.V 7 (.asg (.t 36))] [3,6,7] [3,6]) (.block 2 (.loop spec_l01Dec_k5))) spec_l01Dec_k6)
def spec_l01Dec_k8 : C :=
 .seq (.seq (.reg false [.V 28 (.mv (.t 0)),.V 29 (.bin .lss (.t 28) (.c (.int .i64 0)))] [3,29] [3]) (.cond (.t 29) (.reg false [.V 30 (.mv (.t 3)),.V 31 (.bsl 1 (.int .u8 0) 1 [(0,.c (.int .u8 45))]),.W 32 (.app 1 1 (.t 30) (.t 31)),.W 3 (.asg (.t 32))] [3] [3]) .skip)) (.norm [3] [3] spec_l01Dec_k7)
def spec_l01Dec_ir : Fn := { np := 1,io := [],res := [.t 2],own := [false],body :=
 (.seq (.reg false [.V 2 (.asg (.c (.str [])))] [0] []) (.seq (.seq (.reg false [.V 8 (.mv (.t 0)),.V 9 (.bin .eql (.t 8) (.c (.int .i64 0)))] [0,9] []) (.cond (.t 9) (.seq (.reg false [.V 2 (.asg (.c (.str [48])))] [2] []) .ret) .skip)) (.seq (.reg false [.V 10 (.bsl 1 (.int .u8 0) 0 []),.W 3 (.asg (.t 10))] [0,3] [3]) (.seq (.seq (.reg false [.V 11 (.mv (.t 0)),.V 4 (.asg (.t 11))] [0,3,4] [3]) (.block 0 (.loop spec_l01Dec_k3))) spec_l01Dec_k8)))) }
noncomputable def spec_l01Dec_D : List (Nat × Callee) := []
def spec_l01Dec_H : List (Nat × ET) := [(3,(.one (.int .u8))),(6,(.one (.int .u8))),(10,(.one (.int .u8))),(22,(.one (.int .u8))),(26,(.one (.int .u8))),(27,(.one (.int .u8))),(30,(.one (.int .u8))),(31,(.one (.int .u8))),(32,(.one (.int .u8))),(33,(.one (.int .u8))),(34,(.one (.int .u8))),(41,(.one (.int .u8))),(42,(.one (.int .u8))),(46,(.one (.int .u8))),(47,(.one (.int .u8))),(48,(.one (.int .u8)))]
noncomputable def spec_l01Dec_c : Callee := mkCallee spec_l01Dec_D spec_l01Dec_H spec_l01Dec_ir [.d (.one (.int .i64))] [.d (.one .str)] []
noncomputable def spec_l01Dec (a0 : Int) : Option (List UInt8) := spec_l01Dec_c.f (a0,())
noncomputable def spec_l01Dec_p0  (v0 : Int) (v4 : Int) (r3 : List Int) : Option (List UInt8) :=
 goL spec_l01Dec_D spec_l01Dec_H (vleave spec_l01Dec_ir [.d (.one (.int .i64))] [.d (.one .str)] [] []) [.c spec_l01Dec_k2,.l spec_l01Dec_k3,.e 0,.c spec_l01Dec_k8]
  ⟨[(0,.int .i64 v0),(3,.view 3 0 r3.length),(4,.int .i64 v4)],[(3,some (.sl (.one (.int .u8)) r3))]⟩
noncomputable def spec_l01Dec_p1  (v0 : Int) (v4 : Int) (v5 : Int) (r3 : List Int) : Option (List UInt8) :=
 goL spec_l01Dec_D spec_l01Dec_H (vleave spec_l01Dec_ir [.d (.one (.int .i64))] [.d (.one .str)] [] []) [.c spec_l01Dec_k0,.e 1,.c spec_l01Dec_k1,.l spec_l01Dec_k3,.e 0,.c spec_l01Dec_k8]
  ⟨[(0,.int .i64 v0),(3,.view 3 0 r3.length),(4,.int .i64 v4),(5,.int .i64 v5)],[(3,some (.sl (.one (.int .u8)) r3))]⟩
noncomputable def spec_l01Dec_p2  (r3 : List Int) : Option (List UInt8) :=
 goL spec_l01Dec_D spec_l01Dec_H (vleave spec_l01Dec_ir [.d (.one (.int .i64))] [.d (.one .str)] [] []) [.c spec_l01Dec_k7]
  ⟨[(3,.view 3 0 r3.length)],[(3,some (.sl (.one (.int .u8)) r3))]⟩
noncomputable def spec_l01Dec_p3  (v7 : Int) (r3 : List Int) (r6 : List Int) : Option (List UInt8) :=
 goL spec_l01Dec_D spec_l01Dec_H (vleave spec_l01Dec_ir [.d (.one (.int .i64))] [.d (.one .str)] [] []) [.c spec_l01Dec_k4,.l spec_l01Dec_k5,.e 2,.c spec_l01Dec_k6]
  ⟨[(3,.view 3 0 r3.length),(6,.view 6 0 r6.length),(7,.int .i64 v7)],[(3,some (.sl (.one (.int .u8)) r3)),(6,some (.sl (.one (.int .u8)) r6))]⟩
theorem spec_l01Dec_eq (a0 : Int) : spec_l01Dec a0 =
 if (a0 == 0) then
  some [48]
 else
  spec_l01Dec_p0 a0 a0 [] :=
 (mk_f _ _ _ _ _ _ _ 4000).trans (by kernel_rfl)
theorem spec_l01Dec_p0_eq  (v0 : Int) (v4 : Int) (r3 : List Int) : spec_l01Dec_p0 v0 v4 r3 =
 if (v4 != 0) then
  if decide (v4.tmod 10 < 0) then
   spec_l01Dec_p1 v0 v4 (IntKind.i64.wrap (0 - (v4.tmod 10))) r3
  else
   spec_l01Dec_p1 v0 v4 (v4.tmod 10) r3
 else
  if decide (v0 < 0) then
   if decide (r3.length + 1 < lim) then
    spec_l01Dec_p2 ((r3.take r3.length) ++ [45])
   else
    none
  else
   spec_l01Dec_p2 r3 :=
 (goL_dn _ _ _ 4000 _ _).trans (by kernel_rfl)
theorem spec_l01Dec_p1_eq  (v0 : Int) (v4 : Int) (v5 : Int) (r3 : List Int) : spec_l01Dec_p1 v0 v4 v5 r3 =
 if decide (r3.length + 1 < lim) then
  spec_l01Dec_p0 v0 (IntKind.i64.wrap (v4.tdiv 10)) ((r3.take r3.length) ++ [IntKind.u8.wrap (IntKind.i64.wrap (48 + v5))])
 else
  none :=
 (goL_dn _ _ _ 4000 _ _).trans (by kernel_rfl)
theorem spec_l01Dec_p2_eq  (r3 : List Int) : spec_l01Dec_p2 r3 =
 spec_l01Dec_p3 (IntKind.i64.wrap ((r3.length : Int) - 1)) r3 [] :=
 (goL_dn _ _ _ 4000 _ _).trans (by kernel_rfl)
theorem spec_l01Dec_p3_eq  (v7 : Int) (r3 : List Int) (r6 : List Int) : spec_l01Dec_p3 v7 r3 r6 =
 if decide (v7 ≥ 0) then
  if decide (0 ≤ v7) && decide (v7 < (r3.length : Int)) then
   (r3[v7.toNat]?).bind fun x1 =>
    if decide (r6.length + 1 < lim) then
     spec_l01Dec_p3 (IntKind.i64.wrap (v7 - 1)) r3 ((r6.take r6.length) ++ [x1])
    else
     none
  else
   none
 else
  some ((r6.take r6.length).map vu8) :=
 (goL_dn _ _ _ 4000 _ _).trans (by kernel_rfl)
def spec_l31Trade_k0 : C :=
 .seq (.seq (.reg false [.V 14 (.mv (.t 5)),.V 15 (.mv (.t 4)),.V 16 (.len (.t 15)),.V 17 (.bin .lss (.t 14) (.t 16))] [0,3,4,5,17] [3,4]) (.cond (.t 17) .skip (.exit 0))) (.seq (.block 1 (.reg true [.V 20 (.mv (.t 3)),.V 21 (.mv (.t 0)),.V 22 (.nilck (.t 21)),.V 23 (.fa 6 (.t 22)),.V 24 (.ld none (.t 23)),.V 25 (.mv (.t 4)),.V 26 (.mv (.t 5)),.V 27 (.ia 1 (.t 25) (.t 26)),.V 28 (.ld none (.t 27)),.V 29 (.ia 1 (.t 28) (.c (.int .i64 0))),.V 30 (.ld none (.t 29)),.V 31 (.ia 5 (.t 24) (.t 30)),.V 32 (.fa 0 (.t 31)),.V 33 (.ld none (.t 32)),.V 34 (.mv (.t 0)),.V 35 (.nilck (.t 34)),.V 36 (.fa 6 (.t 35)),.V 37 (.ld none (.t 36)),.V 38 (.mv (.t 4)),.V 39 (.mv (.t 5)),.V 40 (.ia 1 (.t 38) (.t 39)),.V 41 (.ld none (.t 40)),.V 42 (.ia 1 (.t 41) (.c (.int .i64 1))),.V 43 (.ld none (.t 42)),.V 44 (.ia 5 (.t 37) (.t 43)),.V 45 (.fa 0 (.t 44)),.V 46 (.ld none (.t 45)),.V 47 (.build [.int .i64 0,.str [],.str []] [(0,1,.c (.int .i64 4)),(1,1,.t 33),(2,1,.t 46)]),.V 48 (.bsl 3 (.agg [.int .i64 0,.str [],.str []]) 1 [(0,.t 47)]),.W 49 (.app 3 40 (.t 20) (.t 48)),.W 3 (.asg (.t 49))] [0,3,4,5] [3,4])) (.reg false [.V 18 (.mv (.t 5)),.V 19 (.bin .add (.t 18) (.c (.int .i64 1))),.V 5 (.asg (.t 19))] [0,3,4,5] [3,4]))
def spec_l31Trade_k1 : C :=
 .norm [0,3,4,5] [3,4] spec_l31Trade_k0
def spec_l31Trade_k2 : C :=
 .seq (.seq (.reg false [.V 50 (.mv (.t 7)),.V 51 (.mv (.t 0)),.V 52 (.nilck (.t 51)),.V 53 (.fa 7 (.t 52)),.V 54 (.ld none (.t 53)),.V 55 (.len (.t 54)),.V 56 (.bin .lss (.t 50) (.t 55))] [0,3,6,7,56] [3]) (.cond (.t 56) .skip (.exit 2))) (.seq (.block 3 (.seq (.reg false [.V 59 (.mv (.t 6)),.V 60 (.mv (.t 0)),.V 61 (.nilck (.t 60)),.V 62 (.fa 7 (.t 61)),.V 63 (.ld none (.t 62)),.V 64 (.mv (.t 7)),.V 65 (.ia 4 (.t 63) (.t 64)),.V 66 (.call (.c (.fn 723 [])) [.t 65,.c (.str [99,97,115,104])]),.V 67 (.bin .add (.t 59) (.t 66)),.V 6 (.asg (.t 67))] [0,3,6,7] [3]) (.seq (.reg false [.V 68 (.mv (.t 6)),.V 69 (.bin .lss (.t 68) (.c (.int .i64 0)))] [0,3,6,7,69] [3]) (.cond (.t 69) (.seq (.reg false [.V 70 (.mv (.t 3)),.V 71 (.mv (.t 7)),.V 72 (.call (.c (.fn 726 [])) [.t 71]),.V 73 (.mv (.t 6)),.V 74 (.call (.c (.fn 726 [])) [.t 73]),.V 75 (.build [.int .i64 0,.str [],.str []] [(0,1,.c (.int .i64 5)),(1,1,.t 72),(2,1,.t 74)]),.V 76 (.bsl 3 (.agg [.int .i64 0,.str [],.str []]) 1 [(0,.t 75)]),.W 77 (.app 3 40 (.t 70) (.t 76)),.W 3 (.asg (.t 77))] [3] [3]) (.exit 2)) .skip)))) (.reg false [.V 57 (.mv (.t 7)),.V 58 (.bin .add (.t 57) (.c (.int .i64 1))),.V 7 (.asg (.t 58))] [0,3,6,7] [3]))
def spec_l31Trade_k3 : C :=
 .norm [0,3,6,7] [3] spec_l31Trade_k2
def spec_l31Trade_k4 : C :=
 .seq (.reg false [.V 78 (.mv (.t 3)),.W 2 (.asg (.t 78))] [2] [2,3]) .ret
def spec_l31Trade_k5 : C :=
 .seq (.reg false [.V 6 (.asg (.c (.int .i64 0)))] [0,3,6] [3]) (.seq (.seq (.reg false [.V 7 (.asg (.c (.int .i64 0)))] [0,3,6,7] [3]) (.block 2 (.loop spec_l31Trade_k3))) spec_l31Trade_k4)
def spec_l31Trade_ir : Fn := { np := 1,io := [],res := [.t 2],own := [true],body :=
 (.seq (.reg false [.W 2 (.asg (.c (.nils 3)))] [0] []) (.seq (.reg false [.V 8 (.bsl 3 (.agg [.int .i64 0,.str [],.str []]) 0 []),.W 3 (.asg (.t 8))] [0,3] [3]) (.seq (.reg false [.V 9 (.mv (.t 0)),.V 10 (.nilck (.t 9)),.V 11 (.fa 6 (.t 10)),.V 12 (.ld none (.t 11)),.V 13 (.call (.c (.fn 721 [])) [.t 12]),.W 4 (.asg (.t 13))] [0,3,4] [3,4]) (.seq (.seq (.reg false [.V 5 (.asg (.c (.int .i64 0)))] [0,3,4,5] [3,4]) (.block 0 (.loop spec_l31Trade_k1))) spec_l31Trade_k5)))) }
noncomputable def spec_l31Trade_D : List (Nat × Callee) := [(721,spec_l21Clashes_c),(723,spec_l25Change_c),(726,spec_l01Dec_c)]
def spec_l31Trade_H : List (Nat × ET) := [(2,T_Problem),(3,T_Problem),(4,(.one (.sl (.one (.int .i64))))),(8,T_Problem),(12,T_Paper),(13,(.one (.sl (.one (.int .i64))))),(15,(.one (.sl (.one (.int .i64))))),(20,T_Problem),(24,T_Paper),(25,(.one (.sl (.one (.int .i64))))),(28,(.one (.int .i64))),(37,T_Paper),(38,(.one (.sl (.one (.int .i64))))),(41,(.one (.int .i64))),(48,T_Problem),(49,T_Problem),(54,T_Entry),(63,T_Entry),(70,T_Problem),(76,T_Problem),(77,T_Problem),(78,T_Problem)]
noncomputable def spec_l31Trade_c : Callee := mkCallee spec_l31Trade_D spec_l31Trade_H spec_l31Trade_ir [.p T_Shop] [.tok T_Problem] []
noncomputable def spec_l31Trade (a0 : T_Shop.ty) : Option (List T_Problem.ty) := spec_l31Trade_c.f (a0,())
noncomputable def spec_l31Trade_p0  (v0_0 : List T_Arc.ty) (v0_1 : List T_Neck.ty) (v0_2 : Int) (v0_3 : List T_Step.ty) (v0_4 : List Int) (v0_5 : Int) (v0_6 : List T_Paper.ty) (v0_7 : List T_Entry.ty) (v4 : List (List Int)) (v5 : Int) (r3 : List T_Problem.ty) : Option (List T_Problem.ty) :=
 goL spec_l31Trade_D spec_l31Trade_H (vleave spec_l31Trade_ir [.p T_Shop] [.tok T_Problem] [] []) [.c spec_l31Trade_k0,.l spec_l31Trade_k1,.e 0,.c spec_l31Trade_k5]
  ⟨[(0,.ptr [.sl T_Arc v0_0,.sl T_Neck v0_1,.int .i64 v0_2,.sl T_Step v0_3,.sl (.one (.int .i64)) v0_4,.int .i64 v0_5,.sl T_Paper v0_6,.sl T_Entry v0_7] 0),(3,.view 3 0 r3.length),(4,.sl (.one (.sl (.one (.int .i64)))) v4),(5,.int .i64 v5)],[(3,some (.sl T_Problem r3)),(4,none)]⟩
noncomputable def spec_l31Trade_p1  (v0_0 : List T_Arc.ty) (v0_1 : List T_Neck.ty) (v0_2 : Int) (v0_3 : List T_Step.ty) (v0_4 : List Int) (v0_5 : Int) (v0_6 : List T_Paper.ty) (v0_7 : List T_Entry.ty) (v6 : Int) (v7 : Int) (r3 : List T_Problem.ty) : Option (List T_Problem.ty) :=
 goL spec_l31Trade_D spec_l31Trade_H (vleave spec_l31Trade_ir [.p T_Shop] [.tok T_Problem] [] []) [.c spec_l31Trade_k2,.l spec_l31Trade_k3,.e 2,.c spec_l31Trade_k4]
  ⟨[(0,.ptr [.sl T_Arc v0_0,.sl T_Neck v0_1,.int .i64 v0_2,.sl T_Step v0_3,.sl (.one (.int .i64)) v0_4,.int .i64 v0_5,.sl T_Paper v0_6,.sl T_Entry v0_7] 0),(3,.view 3 0 r3.length),(6,.int .i64 v6),(7,.int .i64 v7)],[(3,some (.sl T_Problem r3))]⟩
theorem spec_l31Trade_eq (a0 : T_Shop.ty) : spec_l31Trade a0 =
 (spec_l21Clashes a0.2.2.2.2.2.2.1).bind fun x1 =>
  spec_l31Trade_p0 a0.1 a0.2.1 a0.2.2.1 a0.2.2.2.1 a0.2.2.2.2.1 a0.2.2.2.2.2.1 a0.2.2.2.2.2.2.1 a0.2.2.2.2.2.2.2.1 x1 0 [] :=
 (mk_f _ _ _ _ _ _ _ 4000).trans (by kernel_rfl)
theorem spec_l31Trade_p0_eq  (v0_0 : List T_Arc.ty) (v0_1 : List T_Neck.ty) (v0_2 : Int) (v0_3 : List T_Step.ty) (v0_4 : List Int) (v0_5 : Int) (v0_6 : List T_Paper.ty) (v0_7 : List T_Entry.ty) (v4 : List (List Int)) (v5 : Int) (r3 : List T_Problem.ty) : spec_l31Trade_p0 v0_0 v0_1 v0_2 v0_3 v0_4 v0_5 v0_6 v0_7 v4 v5 r3 =
 if decide (v5 < (v4.length : Int)) then
  if decide (0 ≤ v5) then
   (v4[v5.toNat]?).bind fun x1 =>
    (x1[0]?).bind fun x2 =>
     if decide (0 ≤ x2) then
      (v0_6[x2.toNat]?).bind fun x3 =>
       if decide (0 ≤ v5) then
        (v4[v5.toNat]?).bind fun x4 =>
         (x4[1]?).bind fun x5 =>
          if decide (0 ≤ x5) then
           (v0_6[x5.toNat]?).bind fun x6 =>
            if decide (r3.length + 1 < lim) then
             spec_l31Trade_p0 v0_0 v0_1 v0_2 v0_3 v0_4 v0_5 v0_6 v0_7 v4 (IntKind.i64.wrap (v5 + 1)) ((r3.take r3.length) ++ [(4,x3.1,x6.1,())])
            else
             none
          else
           none
       else
        none
     else
      none
  else
   none
 else
  spec_l31Trade_p1 v0_0 v0_1 v0_2 v0_3 v0_4 v0_5 v0_6 v0_7 0 0 r3 :=
 (goL_dn _ _ _ 4000 _ _).trans (by kernel_rfl)
theorem spec_l31Trade_p1_eq  (v0_0 : List T_Arc.ty) (v0_1 : List T_Neck.ty) (v0_2 : Int) (v0_3 : List T_Step.ty) (v0_4 : List Int) (v0_5 : Int) (v0_6 : List T_Paper.ty) (v0_7 : List T_Entry.ty) (v6 : Int) (v7 : Int) (r3 : List T_Problem.ty) : spec_l31Trade_p1 v0_0 v0_1 v0_2 v0_3 v0_4 v0_5 v0_6 v0_7 v6 v7 r3 =
 if decide (v7 < (v0_7.length : Int)) then
  if decide (0 ≤ v7) then
   (v0_7[v7.toNat]?).bind fun x1 =>
    (spec_l25Change x1 [99,97,115,104]).bind fun x2 =>
     if decide (IntKind.i64.wrap (v6 + x2) < 0) then
      (spec_l01Dec v7).bind fun x3 =>
       (spec_l01Dec (IntKind.i64.wrap (v6 + x2))).bind fun x4 =>
        if decide (r3.length + 1 < lim) then
         some (((r3.take r3.length) ++ [(5,x3,x4,())]).take (((r3.take r3.length) ++ [(5,x3,x4,())]).length))
        else
         none
     else
      spec_l31Trade_p1 v0_0 v0_1 v0_2 v0_3 v0_4 v0_5 v0_6 v0_7 (IntKind.i64.wrap (v6 + x2)) (IntKind.i64.wrap (v7 + 1)) r3
  else
   none
 else
  some (r3.take r3.length) :=
 (goL_dn _ _ _ 4000 _ _).trans (by kernel_rfl)
def spec_TradeProblems_ir : Fn := { np := 1,io := [],res := [.t 2,.t 3],own := [true,false],body :=
 (.seq (.reg false [.W 1 (.box 8 (.t 0)),.W 2 (.asg (.c (.nils 3))),.V 3 (.asg (.c (.int .i64 0)))] [1] [1,2000,2001,2003,2004,2006,2007]) (.seq (.seq (.reg false [.V 4 (.call (.c (.fn 602 [])) [.t 1]),.V 5 (.un .not (.t 4))] [1,5] [1,2000,2001,2003,2004,2006,2007]) (.cond (.t 5) (.seq (.reg false [.W 2 (.asg (.c (.nils 3))),.V 3 (.asg (.c (.int .i64 1)))] [2,3] [2]) .ret) .skip)) (.seq (.reg false [.V 6 (.call (.c (.fn 765 [])) [.t 1]),.W 2 (.asg (.t 6)),.V 3 (.asg (.c (.int .i64 0)))] [2,3] [2]) .ret))) }
noncomputable def spec_TradeProblems_D : List (Nat × Callee) := [(602,spec_l31Ok_c),(765,spec_l31Trade_c)]
def spec_TradeProblems_H : List (Nat × ET) := [(2,T_Problem),(6,T_Problem)]
noncomputable def spec_TradeProblems_c : Callee := mkCallee spec_TradeProblems_D spec_TradeProblems_H spec_TradeProblems_ir [.d T_Shop] [.tok T_Problem,.d (.one (.int .i64))] []
noncomputable def spec_TradeProblems (a0 : T_Shop.ty) : Option (List T_Problem.ty × Int) := spec_TradeProblems_c.f (a0,())
theorem spec_TradeProblems_eq (a0 : T_Shop.ty) : spec_TradeProblems a0 =
 (spec_l31Ok a0).bind fun x1 =>
  if (!x1) then
   some ([],1)
  else
   (spec_l31Trade a0).bind fun x2 =>
    some ((x2.take x2.length),0) :=
 (mk_f _ _ _ _ _ _ _ 4000).trans (by kernel_rfl)
def impl_within_ir : Fn := { np := 3,io := [],res := [.t 6],own := [false],body :=
 (.seq (.reg false [.V 6 (.asg (.c (.bool false)))] [0,1,2] []) (.seq (.reg false [.V 7 (.mv (.t 1)),.V 8 (.mv (.t 0)),.V 9 (.bin .leq (.t 7) (.t 8)),.V 10 (.mv (.t 9)),.G 11 (.mv (.t 0)) 3 true,.G 12 (.mv (.t 2)) 3 true,.G 13 (.bin .leq (.t 11) (.t 12)) 3 true,.V 14 (.pick (.t 10) (.t 13) (.c (.bool false))),.V 6 (.asg (.t 14))] [6] []) .ret)) }
noncomputable def impl_within_D : List (Nat × Callee) := []
def impl_within_H : List (Nat × ET) := []
noncomputable def impl_within_c : Callee := mkCallee impl_within_D impl_within_H impl_within_ir [.d (.one (.int .i64)),.d (.one (.int .i64)),.d (.one (.int .i64))] [.d (.one .bool)] []
noncomputable def impl_within (a0 : Int) (a1 : Int) (a2 : Int) : Option (Bool) := impl_within_c.f (a0,a1,a2,())
theorem impl_within_eq (a0 : Int) (a1 : Int) (a2 : Int) : impl_within a0 a1 a2 =
 if decide (a1 ≤ a0) then
  some (decide (a0 ≤ a2))
 else
  some false :=
 (mk_f _ _ _ _ _ _ _ 4000).trans (by kernel_rfl)
def impl_isCoord_ir : Fn := { np := 1,io := [],res := [.t 2],own := [false],body :=
 (.seq (.reg false [.V 2 (.asg (.c (.bool false)))] [0] []) (.seq (.reg false [.V 3 (.mv (.t 0)),.V 4 (.call (.c (.fn 23 [])) [.t 3,.c (.int .i64 (-100000)),.c (.int .i64 100000)]),.V 2 (.asg (.t 4))] [2] []) .ret)) }
noncomputable def impl_isCoord_D : List (Nat × Callee) := [(23,impl_within_c)]
def impl_isCoord_H : List (Nat × ET) := []
noncomputable def impl_isCoord_c : Callee := mkCallee impl_isCoord_D impl_isCoord_H impl_isCoord_ir [.d (.one (.int .i64))] [.d (.one .bool)] []
noncomputable def impl_isCoord (a0 : Int) : Option (Bool) := impl_isCoord_c.f (a0,())
theorem impl_isCoord_eq (a0 : Int) : impl_isCoord a0 =
 (impl_within a0 (-100000) 100000).bind fun x1 =>
  some x1 :=
 (mk_f _ _ _ _ _ _ _ 4000).trans (by kernel_rfl)
def impl_Point_valid_ir : Fn := { np := 1,io := [],res := [.t 2],own := [false],body :=
 (.seq (.reg false [.W 1 (.box 2 (.t 0)),.V 2 (.asg (.c (.bool false)))] [1] [1]) (.seq (.reg false [.V 3 (.fa 0 (.t 1)),.V 4 (.ld none (.t 3)),.V 5 (.call (.c (.fn 1126 [])) [.t 4]),.V 6 (.mv (.t 5)),.G 7 (.fa 1 (.t 1)) 3 true,.G 8 (.ld none (.t 7)) 3 true,.G 9 (.call (.c (.fn 1126 [])) [.t 8]) 3 true,.V 10 (.pick (.t 6) (.t 9) (.c (.bool false))),.V 2 (.asg (.t 10))] [2] []) .ret)) }
noncomputable def impl_Point_valid_D : List (Nat × Callee) := [(1126,impl_isCoord_c)]
def impl_Point_valid_H : List (Nat × ET) := []
noncomputable def impl_Point_valid_c : Callee := mkCallee impl_Point_valid_D impl_Point_valid_H impl_Point_valid_ir [.d T_Point] [.d (.one .bool)] []
noncomputable def impl_Point_valid (a0 : T_Point.ty) : Option (Bool) := impl_Point_valid_c.f (a0,())
theorem impl_Point_valid_eq (a0 : T_Point.ty) : impl_Point_valid a0 =
 (impl_isCoord a0.1).bind fun x1 =>
  if x1 then
   (impl_isCoord a0.2.1).bind fun x2 =>
    some x2
  else
   some false :=
 (mk_f _ _ _ _ _ _ _ 4000).trans (by kernel_rfl)
def impl_squared_ir : Fn := { np := 2,io := [],res := [.t 4],own := [false],body :=
 (.seq (.reg false [.W 2 (.box 2 (.t 0)),.W 3 (.box 2 (.t 1)),.V 4 (.asg (.c (.int .i64 0)))] [2,3] [2,3]) (.seq (.reg false [.V 5 (.fa 0 (.t 2)),.V 6 (.ld none (.t 5)),.V 7 (.fa 0 (.t 3)),.V 8 (.ld none (.t 7)),.V 9 (.bin .sub (.t 6) (.t 8)),.V 10 (.fa 0 (.t 2)),.V 11 (.ld none (.t 10)),.V 12 (.fa 0 (.t 3)),.V 13 (.ld none (.t 12)),.V 14 (.bin .sub (.t 11) (.t 13)),.V 15 (.bin .mul (.t 9) (.t 14)),.V 16 (.fa 1 (.t 2)),.V 17 (.ld none (.t 16)),.V 18 (.fa 1 (.t 3)),.V 19 (.ld none (.t 18)),.V 20 (.bin .sub (.t 17) (.t 19)),.V 21 (.fa 1 (.t 2)),.V 22 (.ld none (.t 21)),.V 23 (.fa 1 (.t 3)),.V 24 (.ld none (.t 23)),.V 25 (.bin .sub (.t 22) (.t 24)),.V 26 (.bin .mul (.t 20) (.t 25)),.V 27 (.bin .add (.t 15) (.t 26)),.V 4 (.asg (.t 27))] [4] []) .ret)) }
noncomputable def impl_squared_D : List (Nat × Callee) := []
def impl_squared_H : List (Nat × ET) := []
noncomputable def impl_squared_c : Callee := mkCallee impl_squared_D impl_squared_H impl_squared_ir [.d T_Point,.d T_Point] [.d (.one (.int .i64))] []
noncomputable def impl_squared (a0 : T_Point.ty) (a1 : T_Point.ty) : Option (Int) := impl_squared_c.f (a0,a1,())
theorem impl_squared_eq (a0 : T_Point.ty) (a1 : T_Point.ty) : impl_squared a0 a1 =
 some (IntKind.i64.wrap ((IntKind.i64.wrap ((IntKind.i64.wrap (a0.1 - a1.1)) * (IntKind.i64.wrap (a0.1 - a1.1)))) + (IntKind.i64.wrap ((IntKind.i64.wrap (a0.2.1 - a1.2.1)) * (IntKind.i64.wrap (a0.2.1 - a1.2.1)))))) :=
 (mk_f _ _ _ _ _ _ _ 4000).trans (by kernel_rfl)
def impl_ValidArc_ir : Fn := { np := 1,io := [],res := [.t 2],own := [false],body :=
 (.seq (.reg false [.W 1 (.box 6 (.t 0)),.V 2 (.asg (.c (.bool false)))] [1] [1]) (.seq (.reg true [.V 3 (.fa 0 (.t 1)),.V 4 (.ld (some 2) (.t 3)),.V 5 (.call (.c (.fn 1030 [])) [.t 4]),.V 6 (.mv (.t 5)),.G 7 (.fa 2 (.t 1)) 3 true,.G 8 (.ld (some 2) (.t 7)) 3 true,.G 9 (.call (.c (.fn 1030 [])) [.t 8]) 3 true,.V 10 (.pick (.t 6) (.t 9) (.c (.bool false))),.V 11 (.mv (.t 10)),.G 12 (.fa 4 (.t 1)) 8 true,.G 13 (.ld (some 2) (.t 12)) 8 true,.G 14 (.call (.c (.fn 1030 [])) [.t 13]) 8 true,.V 15 (.pick (.t 11) (.t 14) (.c (.bool false))),.V 16 (.mv (.t 15)),.G 17 (.fa 2 (.t 1)) 13 true,.G 18 (.ld (some 2) (.t 17)) 13 true,.G 19 (.fa 4 (.t 1)) 13 true,.G 20 (.ld (some 2) (.t 19)) 13 true,.G 21 (.eqs true [.i,.i] (.t 18) (.t 20)) 13 true,.V 22 (.pick (.t 16) (.t 21) (.c (.bool false))),.V 23 (.mv (.t 22)),.G 24 (.fa 0 (.t 1)) 20 true,.G 25 (.ld (some 2) (.t 24)) 20 true,.G 26 (.fa 2 (.t 1)) 20 true,.G 27 (.ld (some 2) (.t 26)) 20 true,.G 28 (.call (.c (.fn 1031 [])) [.t 25,.t 27]) 20 true,.G 29 (.fa 0 (.t 1)) 20 true,.G 30 (.ld (some 2) (.t 29)) 20 true,.G 31 (.fa 4 (.t 1)) 20 true,.G 32 (.ld (some 2) (.t 31)) 20 true,.G 33 (.call (.c (.fn 1031 [])) [.t 30,.t 32]) 20 true,.G 34 (.bin .eql (.t 28) (.t 33)) 20 true,.V 35 (.pick (.t 23) (.t 34) (.c (.bool false))),.V 2 (.asg (.t 35))] [2] []) .ret)) }
noncomputable def impl_ValidArc_D : List (Nat × Callee) := [(1030,impl_Point_valid_c),(1031,impl_squared_c)]
def impl_ValidArc_H : List (Nat × ET) := []
noncomputable def impl_ValidArc_c : Callee := mkCallee impl_ValidArc_D impl_ValidArc_H impl_ValidArc_ir [.d T_Arc] [.d (.one .bool)] []
noncomputable def impl_ValidArc (a0 : T_Arc.ty) : Option (Bool) := impl_ValidArc_c.f (a0,())
theorem impl_ValidArc_eq (a0 : T_Arc.ty) : impl_ValidArc a0 =
 (impl_Point_valid (a0.1,a0.2.1,())).bind fun x1 =>
  if x1 then
   (impl_Point_valid (a0.2.2.1,a0.2.2.2.1,())).bind fun x2 =>
    if x2 then
     (impl_Point_valid (a0.2.2.2.2.1,a0.2.2.2.2.2.1,())).bind fun x3 =>
      if x3 then
       if (!((a0.2.2.1 == a0.2.2.2.2.1) && (a0.2.2.2.1 == a0.2.2.2.2.2.1))) then
        (impl_squared (a0.1,a0.2.1,()) (a0.2.2.1,a0.2.2.2.1,())).bind fun x4 =>
         (impl_squared (a0.1,a0.2.1,()) (a0.2.2.2.2.1,a0.2.2.2.2.2.1,())).bind fun x5 =>
          some (x4 == x5)
       else
        some false
      else
       some false
    else
     some false
  else
   some false :=
 (mk_f _ _ _ _ _ _ _ 4000).trans (by kernel_rfl)
def impl_next_ir : Fn := { np := 2,io := [],res := [.cell 4 (some 6)],own := [false],body :=
 (.seq (.reg false [.W 4 (.alloc 6 (.agg [.int .i64 0,.int .i64 0,.int .i64 0,.int .i64 0,.int .i64 0,.int .i64 0]))] [0,1,4] [4]) (.seq (.reg false [.V 5 (.mv (.t 0)),.V 6 (.mv (.t 1)),.V 7 (.bin .add (.t 6) (.c (.int .i64 1))),.V 8 (.mv (.t 0)),.V 9 (.len (.t 8)),.V 10 (.bin .rem (.t 7) (.t 9)),.V 11 (.ia 6 (.t 5) (.t 10)),.V 12 (.ld (some 6) (.t 11)),⟨none,true,.sto 6 (.t 4) (.t 12),none,false,[]⟩] [4] [4]) .ret)) }
noncomputable def impl_next_D : List (Nat × Callee) := []
def impl_next_H : List (Nat × ET) := [(5,T_Arc),(8,T_Arc)]
noncomputable def impl_next_c : Callee := mkCallee impl_next_D impl_next_H impl_next_ir [.d (.one (.sl T_Arc)),.d (.one (.int .i64))] [.d T_Arc] []
noncomputable def impl_next (a0 : List T_Arc.ty) (a1 : Int) : Option (T_Arc.ty) := impl_next_c.f (a0,a1,())
theorem impl_next_eq (a0 : List T_Arc.ty) (a1 : Int) : impl_next a0 a1 =
 if decide ((a0.length : Int) = 0) then
  none
 else
  if decide (0 ≤ (IntKind.i64.wrap (a1 + 1)).tmod (a0.length : Int)) then
   (a0[((IntKind.i64.wrap (a1 + 1)).tmod (a0.length : Int)).toNat]?).bind fun x1 =>
    some x1
  else
   none :=
 (mk_f _ _ _ _ _ _ _ 4000).trans (by kernel_rfl)
def impl_ValidOutline_k0 : C :=
 .seq (.reg false [.V 8 (.bin .lss (.t 7) (.t 6))] [0,5,6,7,8] []) (.seq (.cond (.t 8) .skip (.exit 0)) (.seq (.block 1 (.seq (.reg false [.V 9 (.mv (.t 7)),.V 10 (.ia 6 (.t 5) (.t 7)),.V 11 (.ld (some 6) (.t 10)),.W 4 (.alloc 6 (.agg [.int .i64 0,.int .i64 0,.int .i64 0,.int .i64 0,.int .i64 0,.int .i64 0])),.V 3 (.asg (.t 9)),⟨none,true,.sto 6 (.t 4) (.t 11),none,false,[]⟩] [0,3,4,5,6,7] [4]) (.seq (.reg true [.V 12 (.ld (some 6) (.t 4)),.V 13 (.call (.c (.fn 897 [])) [.t 12]),.V 14 (.un .not (.t 13)),.V 15 (.mv (.t 14)),.G 16 (.mv (.t 0)) 3 false,.G 17 (.mv (.t 3)) 3 false,.G 18 (.call (.c (.fn 898 [])) [.t 16,.t 17]) 3 false,.G 19 (.fld 2 (some 2) (.t 18)) 3 false,.G 20 (.fa 4 (.t 4)) 3 false,.G 21 (.ld (some 2) (.t 20)) 3 false,.G 22 (.eqs true [.i,.i] (.t 19) (.t 21)) 3 false,.V 23 (.pick (.t 15) (.c (.bool true)) (.t 22))] [0,5,6,7,23] []) (.cond (.t 23) (.seq (.reg false [.V 2 (.asg (.c (.bool false)))] [2] []) .ret) .skip)))) (.reg false [.V 24 (.bin .add (.t 7) (.c (.int .i64 1))),.V 7 (.mv (.t 24))] [0,5,6,7] [])))
def impl_ValidOutline_k1 : C :=
 .norm [0,5,6,7] [] impl_ValidOutline_k0
def impl_ValidOutline_k2 : C :=
 .seq (.reg false [.V 25 (.mv (.t 0)),.V 26 (.len (.t 25)),.V 27 (.call (.c (.fn 23 [])) [.t 26,.c (.int .i64 2),.c (.int .i64 16)]),.V 2 (.asg (.t 27))] [2] []) .ret
def impl_ValidOutline_ir : Fn := { np := 1,io := [],res := [.t 2],own := [false],body :=
 (.seq (.reg false [.V 2 (.asg (.c (.bool false)))] [0] []) (.seq (.seq (.reg false [.V 5 (.mv (.t 0)),.V 6 (.len (.t 5)),.V 7 (.mv (.c (.int .i64 0)))] [0,5,6,7] []) (.block 0 (.loop impl_ValidOutline_k1))) impl_ValidOutline_k2)) }
noncomputable def impl_ValidOutline_D : List (Nat × Callee) := [(23,impl_within_c),(897,impl_ValidArc_c),(898,impl_next_c)]
def impl_ValidOutline_H : List (Nat × ET) := [(5,T_Arc),(16,T_Arc),(25,T_Arc)]
noncomputable def impl_ValidOutline_c : Callee := mkCallee impl_ValidOutline_D impl_ValidOutline_H impl_ValidOutline_ir [.d (.one (.sl T_Arc))] [.d (.one .bool)] []
noncomputable def impl_ValidOutline (a0 : List T_Arc.ty) : Option (Bool) := impl_ValidOutline_c.f (a0,())
noncomputable def impl_ValidOutline_p0  (v0 : List T_Arc.ty) (v5 : List T_Arc.ty) (v6 : Int) (v7 : Int) : Option (Bool) :=
 goL impl_ValidOutline_D impl_ValidOutline_H (vleave impl_ValidOutline_ir [.d (.one (.sl T_Arc))] [.d (.one .bool)] [] []) [.c impl_ValidOutline_k0,.l impl_ValidOutline_k1,.e 0,.c impl_ValidOutline_k2]
  ⟨[(0,.sl T_Arc v0),(5,.sl T_Arc v5),(6,.int .i64 v6),(7,.int .i64 v7)],[]⟩
theorem impl_ValidOutline_eq (a0 : List T_Arc.ty) : impl_ValidOutline a0 =
 impl_ValidOutline_p0 a0 a0 (a0.length : Int) 0 :=
 (mk_f _ _ _ _ _ _ _ 4000).trans (by kernel_rfl)
theorem impl_ValidOutline_p0_eq  (v0 : List T_Arc.ty) (v5 : List T_Arc.ty) (v6 : Int) (v7 : Int) : impl_ValidOutline_p0 v0 v5 v6 v7 =
 if decide (v7 < v6) then
  if decide (0 ≤ v7) then
   (v5[v7.toNat]?).bind fun x1 =>
    (impl_ValidArc x1).bind fun x2 =>
     if (!x2) then
      some false
     else
      (impl_next v0 v7).bind fun x3 =>
       if (!((x3.2.2.1 == x1.2.2.2.2.1) && (x3.2.2.2.1 == x1.2.2.2.2.2.1))) then
        some false
       else
        impl_ValidOutline_p0 v0 v5 v6 (IntKind.i64.wrap (v7 + 1))
  else
   none
 else
  (impl_within (v0.length : Int) 2 16).bind fun x4 =>
   some x4 :=
 (goL_dn _ _ _ 4000 _ _).trans (by kernel_rfl)
def impl_ValidString_ir : Fn := { np := 1,io := [],res := [.t 2],own := [false],body :=
 (.seq (.reg false [.W 1 (.box 4 (.t 0)),.V 2 (.asg (.c (.bool false)))] [1] [1]) (.seq (.reg false [.V 3 (.fa 0 (.t 1)),.V 4 (.ld none (.t 3)),.V 5 (.call (.c (.fn 23 [])) [.t 4,.c (.int .i64 1),.c (.int .i64 10000)]),.V 6 (.mv (.t 5)),.G 7 (.fa 1 (.t 1)) 3 true,.G 8 (.ld none (.t 7)) 3 true,.G 9 (.call (.c (.fn 23 [])) [.t 8,.c (.int .i64 1),.c (.int .i64 500)]) 3 true,.V 10 (.pick (.t 6) (.t 9) (.c (.bool false))),.V 11 (.mv (.t 10)),.G 12 (.fa 2 (.t 1)) 8 true,.G 13 (.ld none (.t 12)) 8 true,.G 14 (.call (.c (.fn 23 [])) [.t 13,.c (.int .i64 1),.c (.int .i64 10000)]) 8 true,.V 15 (.pick (.t 11) (.t 14) (.c (.bool false))),.V 16 (.mv (.t 15)),.G 17 (.fa 3 (.t 1)) 13 true,.G 18 (.ld none (.t 17)) 13 true,.G 19 (.call (.c (.fn 23 [])) [.t 18,.c (.int .i64 1),.c (.int .i64 500000)]) 13 true,.V 20 (.pick (.t 16) (.t 19) (.c (.bool false))),.V 2 (.asg (.t 20))] [2] []) .ret)) }
noncomputable def impl_ValidString_D : List (Nat × Callee) := [(23,impl_within_c)]
def impl_ValidString_H : List (Nat × ET) := []
noncomputable def impl_ValidString_c : Callee := mkCallee impl_ValidString_D impl_ValidString_H impl_ValidString_ir [.d T_Neck] [.d (.one .bool)] []
noncomputable def impl_ValidString (a0 : T_Neck.ty) : Option (Bool) := impl_ValidString_c.f (a0,())
theorem impl_ValidString_eq (a0 : T_Neck.ty) : impl_ValidString a0 =
 (impl_within a0.1 1 10000).bind fun x1 =>
  if x1 then
   (impl_within a0.2.1 1 500).bind fun x2 =>
    if x2 then
     (impl_within a0.2.2.1 1 10000).bind fun x3 =>
      if x3 then
       (impl_within a0.2.2.2.1 1 500000).bind fun x4 =>
        some x4
      else
       some false
    else
     some false
  else
   some false :=
 (mk_f _ _ _ _ _ _ _ 4000).trans (by kernel_rfl)
def impl_few_ir : Fn := { np := 2,io := [],res := [.t 4],own := [false],body :=
 (.seq (.reg false [.V 4 (.asg (.c (.bool false)))] [0,1] []) (.seq (.reg false [.V 5 (.mv (.t 0)),.V 6 (.mv (.t 1)),.V 7 (.bin .leq (.t 5) (.t 6)),.V 4 (.asg (.t 7))] [4] []) .ret)) }
noncomputable def impl_few_D : List (Nat × Callee) := []
def impl_few_H : List (Nat × ET) := []
noncomputable def impl_few_c : Callee := mkCallee impl_few_D impl_few_H impl_few_ir [.d (.one (.int .i64)),.d (.one (.int .i64))] [.d (.one .bool)] []
noncomputable def impl_few (a0 : Int) (a1 : Int) : Option (Bool) := impl_few_c.f (a0,a1,())
theorem impl_few_eq (a0 : Int) (a1 : Int) : impl_few a0 a1 =
 some (decide (a0 ≤ a1)) :=
 (mk_f _ _ _ _ _ _ _ 4000).trans (by kernel_rfl)
def impl_validCords_k0 : C :=
 .seq (.reg false [.V 8 (.bin .lss (.t 7) (.t 6))] [0,5,6,7,8] []) (.seq (.cond (.t 8) .skip (.exit 0)) (.seq (.block 1 (.seq (.reg false [.V 9 (.ia 4 (.t 5) (.t 7)),.V 10 (.ld (some 4) (.t 9)),.W 4 (.alloc 4 (.agg [.int .i64 0,.int .i64 0,.int .i64 0,.int .i64 0])),⟨none,true,.sto 4 (.t 4) (.t 10),none,false,[]⟩] [0,4,5,6,7] [4]) (.seq (.reg false [.V 11 (.ld (some 4) (.t 4)),.V 12 (.call (.c (.fn 899 [])) [.t 11]),.V 13 (.un .not (.t 12))] [0,5,6,7,13] []) (.cond (.t 13) (.seq (.reg false [.V 2 (.asg (.c (.bool false)))] [2] []) .ret) .skip)))) (.reg false [.V 14 (.bin .add (.t 7) (.c (.int .i64 1))),.V 7 (.mv (.t 14))] [0,5,6,7] [])))
def impl_validCords_k1 : C :=
 .norm [0,5,6,7] [] impl_validCords_k0
def impl_validCords_k2 : C :=
 .seq (.reg false [.V 15 (.mv (.t 0)),.V 16 (.len (.t 15)),.V 17 (.call (.c (.fn 21 [])) [.t 16,.c (.int .i64 4)]),.V 2 (.asg (.t 17))] [2] []) .ret
def impl_validCords_ir : Fn := { np := 1,io := [],res := [.t 2],own := [false],body :=
 (.seq (.reg false [.V 2 (.asg (.c (.bool false)))] [0] []) (.seq (.seq (.reg false [.V 5 (.mv (.t 0)),.V 6 (.len (.t 5)),.V 7 (.mv (.c (.int .i64 0)))] [0,5,6,7] []) (.block 0 (.loop impl_validCords_k1))) impl_validCords_k2)) }
noncomputable def impl_validCords_D : List (Nat × Callee) := [(21,impl_few_c),(899,impl_ValidString_c)]
def impl_validCords_H : List (Nat × ET) := [(5,T_Neck),(15,T_Neck)]
noncomputable def impl_validCords_c : Callee := mkCallee impl_validCords_D impl_validCords_H impl_validCords_ir [.d (.one (.sl T_Neck))] [.d (.one .bool)] []
noncomputable def impl_validCords (a0 : List T_Neck.ty) : Option (Bool) := impl_validCords_c.f (a0,())
noncomputable def impl_validCords_p0  (v0 : List T_Neck.ty) (v5 : List T_Neck.ty) (v6 : Int) (v7 : Int) : Option (Bool) :=
 goL impl_validCords_D impl_validCords_H (vleave impl_validCords_ir [.d (.one (.sl T_Neck))] [.d (.one .bool)] [] []) [.c impl_validCords_k0,.l impl_validCords_k1,.e 0,.c impl_validCords_k2]
  ⟨[(0,.sl T_Neck v0),(5,.sl T_Neck v5),(6,.int .i64 v6),(7,.int .i64 v7)],[]⟩
theorem impl_validCords_eq (a0 : List T_Neck.ty) : impl_validCords a0 =
 impl_validCords_p0 a0 a0 (a0.length : Int) 0 :=
 (mk_f _ _ _ _ _ _ _ 4000).trans (by kernel_rfl)
theorem impl_validCords_p0_eq  (v0 : List T_Neck.ty) (v5 : List T_Neck.ty) (v6 : Int) (v7 : Int) : impl_validCords_p0 v0 v5 v6 v7 =
 if decide (v7 < v6) then
  if decide (0 ≤ v7) then
   (v5[v7.toNat]?).bind fun x1 =>
    (impl_ValidString x1).bind fun x2 =>
     if (!x2) then
      some false
     else
      impl_validCords_p0 v0 v5 v6 (IntKind.i64.wrap (v7 + 1))
  else
   none
 else
  (impl_few (v0.length : Int) 4).bind fun x3 =>
   some x3 :=
 (goL_dn _ _ _ 4000 _ _).trans (by kernel_rfl)
def impl_isShare_ir : Fn := { np := 1,io := [],res := [.t 2],own := [false],body :=
 (.seq (.reg false [.V 2 (.asg (.c (.bool false)))] [0] []) (.seq (.reg false [.V 3 (.mv (.t 0)),.V 4 (.call (.c (.fn 23 [])) [.t 3,.c (.int .i64 0),.c (.int .i64 1000)]),.V 2 (.asg (.t 4))] [2] []) .ret)) }
noncomputable def impl_isShare_D : List (Nat × Callee) := [(23,impl_within_c)]
def impl_isShare_H : List (Nat × ET) := []
noncomputable def impl_isShare_c : Callee := mkCallee impl_isShare_D impl_isShare_H impl_isShare_ir [.d (.one (.int .i64))] [.d (.one .bool)] []
noncomputable def impl_isShare (a0 : Int) : Option (Bool) := impl_isShare_c.f (a0,())
theorem impl_isShare_eq (a0 : Int) : impl_isShare a0 =
 (impl_within a0 0 1000).bind fun x1 =>
  some x1 :=
 (mk_f _ _ _ _ _ _ _ 4000).trans (by kernel_rfl)
def impl_isDigit_ir : Fn := { np := 1,io := [],res := [.t 2],own := [false],body :=
 (.seq (.reg false [.V 2 (.asg (.c (.bool false)))] [0] []) (.seq (.reg false [.V 3 (.mv (.t 0)),.V 4 (.bin .geq (.t 3) (.c (.int .u8 48))),.V 5 (.mv (.t 4)),.G 6 (.mv (.t 0)) 2 true,.G 7 (.bin .leq (.t 6) (.c (.int .u8 57))) 2 true,.V 8 (.pick (.t 5) (.t 7) (.c (.bool false))),.V 2 (.asg (.t 8))] [2] []) .ret)) }
noncomputable def impl_isDigit_D : List (Nat × Callee) := []
def impl_isDigit_H : List (Nat × ET) := []
noncomputable def impl_isDigit_c : Callee := mkCallee impl_isDigit_D impl_isDigit_H impl_isDigit_ir [.d (.one (.int .u8))] [.d (.one .bool)] []
noncomputable def impl_isDigit (a0 : Int) : Option (Bool) := impl_isDigit_c.f (a0,())
theorem impl_isDigit_eq (a0 : Int) : impl_isDigit a0 =
 if decide (a0 ≥ 48) then
  some (decide (a0 ≤ 57))
 else
  some false :=
 (mk_f _ _ _ _ _ _ _ 4000).trans (by kernel_rfl)
def impl_IsName_k0 : C :=
 .seq (.reg false [.V 21 (.mv (.t 4)),.V 22 (.un .not (.t 21)),.V 23 (.mv (.t 22)),.G 24 (.mv (.t 3)) 2 true,.G 25 (.bin .eql (.t 24) (.c (.int .i64 0))) 2 true,.G 26 (.mv (.t 25)) 2 true,.G 27 (.mv (.t 0)) 5 false,.G 28 (.mv (.t 3)) 5 false,.G 29 (.ix (.t 27) (.t 28)) 5 false,.G 30 (.call (.c (.fn 22 [])) [.t 29]) 5 false,.G 31 (.un .not (.t 30)) 5 false,.G 32 (.pick (.t 26) (.c (.bool true)) (.t 31)) 2 true,.V 33 (.pick (.t 23) (.t 32) (.c (.bool false)))] [0,3,33] []) (.cond (.t 33) (.seq (.reg false [.V 2 (.asg (.c (.bool false)))] [2] []) .ret) .skip)
def impl_IsName_k1 : C :=
 .reg false [.V 9 (.mv (.t 3)),.V 10 (.bin .add (.t 9) (.c (.int .i64 1))),.V 3 (.asg (.t 10))] [0,3] []
def impl_IsName_k2 : C :=
 .seq (.seq (.reg false [.V 5 (.mv (.t 3)),.V 6 (.mv (.t 0)),.V 7 (.lens (.t 6)),.V 8 (.bin .lss (.t 5) (.t 7))] [0,3,8] []) (.cond (.t 8) .skip (.exit 0))) (.seq (.block 1 (.seq (.reg false [.V 11 (.mv (.t 0)),.V 12 (.mv (.t 3)),.V 13 (.ix (.t 11) (.t 12)),.V 14 (.bin .geq (.t 13) (.c (.int .u8 97))),.V 15 (.mv (.t 14)),.G 16 (.mv (.t 0)) 4 true,.G 17 (.mv (.t 3)) 4 true,.G 18 (.ix (.t 16) (.t 17)) 4 true,.G 19 (.bin .leq (.t 18) (.c (.int .u8 122))) 4 true,.V 20 (.pick (.t 15) (.t 19) (.c (.bool false))),.V 4 (.asg (.t 20))] [0,3,4] []) (.norm [0,3,4] [] impl_IsName_k0))) impl_IsName_k1)
def impl_IsName_k3 : C :=
 .norm [0,3] [] impl_IsName_k2
def impl_IsName_k4 : C :=
 .seq (.reg false [.V 34 (.mv (.t 0)),.V 35 (.bin .neq (.t 34) (.c (.str []))),.V 36 (.mv (.t 35)),.G 37 (.mv (.t 0)) 2 true,.G 38 (.lens (.t 37)) 2 true,.G 39 (.call (.c (.fn 21 [])) [.t 38,.c (.int .i64 10)]) 2 true,.V 40 (.pick (.t 36) (.t 39) (.c (.bool false))),.V 2 (.asg (.t 40))] [2] []) .ret
def impl_IsName_ir : Fn := { np := 1,io := [],res := [.t 2],own := [false],body :=
 (.seq (.reg false [.V 2 (.asg (.c (.bool false)))] [0] []) (.seq (.seq (.reg false [.V 3 (.asg (.c (.int .i64 0)))] [0,3] []) (.block 0 (.loop impl_IsName_k3))) impl_IsName_k4)) }
noncomputable def impl_IsName_D : List (Nat × Callee) := [(21,impl_few_c),(22,impl_isDigit_c)]
def impl_IsName_H : List (Nat × ET) := []
noncomputable def impl_IsName_c : Callee := mkCallee impl_IsName_D impl_IsName_H impl_IsName_ir [.d (.one .str)] [.d (.one .bool)] []
noncomputable def impl_IsName (a0 : List UInt8) : Option (Bool) := impl_IsName_c.f (a0,())
noncomputable def impl_IsName_p0  (v0 : List UInt8) (v3 : Int) : Option (Bool) :=
 goL impl_IsName_D impl_IsName_H (vleave impl_IsName_ir [.d (.one .str)] [.d (.one .bool)] [] []) [.c impl_IsName_k2,.l impl_IsName_k3,.e 0,.c impl_IsName_k4]
  ⟨[(0,.str v0),(3,.int .i64 v3)],[]⟩
noncomputable def impl_IsName_p1  (v0 : List UInt8) (v3 : Int) (v4 : Bool) : Option (Bool) :=
 goL impl_IsName_D impl_IsName_H (vleave impl_IsName_ir [.d (.one .str)] [.d (.one .bool)] [] []) [.c impl_IsName_k0,.e 1,.c impl_IsName_k1,.l impl_IsName_k3,.e 0,.c impl_IsName_k4]
  ⟨[(0,.str v0),(3,.int .i64 v3),(4,.bool v4)],[]⟩
theorem impl_IsName_eq (a0 : List UInt8) : impl_IsName a0 =
 impl_IsName_p0 a0 0 :=
 (mk_f _ _ _ _ _ _ _ 4000).trans (by kernel_rfl)
theorem impl_IsName_p0_eq  (v0 : List UInt8) (v3 : Int) : impl_IsName_p0 v0 v3 =
 if decide (v3 < (v0.length : Int)) then
  if decide (0 ≤ v3) then
   (v0[v3.toNat]?).bind fun x1 =>
    if decide ((x1.toNat : Int) ≥ 97) then
     if decide (0 ≤ v3) then
      (v0[v3.toNat]?).bind fun x2 =>
       impl_IsName_p1 v0 v3 (decide ((x2.toNat : Int) ≤ 122))
     else
      none
    else
     impl_IsName_p1 v0 v3 false
  else
   none
 else
  if (!(v0 == [])) then
   (impl_few (v0.length : Int) 10).bind fun x3 =>
    some x3
  else
   some false :=
 (goL_dn _ _ _ 4000 _ _).trans (by kernel_rfl)
theorem impl_IsName_p1_eq  (v0 : List UInt8) (v3 : Int) (v4 : Bool) : impl_IsName_p1 v0 v3 v4 =
 if (!v4) then
  if (v3 == 0) then
   some false
  else
   if decide (0 ≤ v3) then
    (v0[v3.toNat]?).bind fun x1 =>
     (impl_isDigit (x1.toNat : Int)).bind fun x2 =>
      if (!x2) then
       some false
      else
       impl_IsName_p0 v0 (IntKind.i64.wrap (v3 + 1))
   else
    none
 else
  impl_IsName_p0 v0 (IntKind.i64.wrap (v3 + 1)) :=
 (goL_dn _ _ _ 4000 _ _).trans (by kernel_rfl)
def impl_Step_valid_k0 : C :=
 .seq (.reg false [.V 9 (.bin .lss (.t 8) (.t 7))] [1,6,7,8,9] [1,2003]) (.seq (.cond (.t 9) .skip (.exit 0)) (.seq (.block 1 (.seq (.reg false [.V 10 (.mv (.t 8)),.V 11 (.ia 1 (.t 6) (.t 8)),.V 12 (.ld none (.t 11)),.V 3 (.asg (.t 10)),.V 4 (.asg (.t 12))] [1,3,4,6,7,8] [1,2003]) (.seq (.reg false [.V 13 (.mv (.t 4)),.V 14 (.call (.c (.fn 23 [])) [.t 13,.c (.int .i64 0),.c (.int .i64 11)]),.V 15 (.un .not (.t 14)),.V 16 (.mv (.t 15)),.G 17 (.mv (.t 3)) 3 false,.G 18 (.bin .gtr (.t 17) (.c (.int .i64 0))) 3 false,.G 19 (.mv (.t 18)) 3 false,.G 20 (.fa 3 (.t 1)) 6 true,.G 21 (.ld none (.t 20)) 6 true,.G 22 (.mv (.t 3)) 6 true,.G 23 (.bin .sub (.t 22) (.c (.int .i64 1))) 6 true,.G 24 (.ia 1 (.t 21) (.t 23)) 6 true,.G 25 (.ld none (.t 24)) 6 true,.G 26 (.mv (.t 4)) 6 true,.G 27 (.bin .geq (.t 25) (.t 26)) 6 true,.G 28 (.pick (.t 19) (.t 27) (.c (.bool false))) 3 false,.V 29 (.pick (.t 16) (.c (.bool true)) (.t 28))] [1,6,7,8,29] [1,2003]) (.cond (.t 29) (.seq (.reg false [.V 2 (.asg (.c (.bool false)))] [2] []) .ret) .skip)))) (.reg false [.V 30 (.bin .add (.t 8) (.c (.int .i64 1))),.V 8 (.mv (.t 30))] [1,6,7,8] [1,2003])))
def impl_Step_valid_k1 : C :=
 .norm [1,6,7,8] [1,2003] impl_Step_valid_k0
def impl_Step_valid_k2 : C :=
 .seq (.reg false [.V 31 (.fa 0 (.t 1)),.V 32 (.ld none (.t 31)),.V 33 (.call (.c (.fn 24 [])) [.t 32]),.V 34 (.mv (.t 33)),.G 35 (.fa 1 (.t 1)) 3 true,.G 36 (.ld none (.t 35)) 3 true,.G 37 (.call (.c (.fn 23 [])) [.t 36,.c (.int .i64 1),.c (.int .i64 200)]) 3 true,.V 38 (.pick (.t 34) (.t 37) (.c (.bool false))),.V 39 (.mv (.t 38)),.G 40 (.fa 2 (.t 1)) 8 true,.G 41 (.ld none (.t 40)) 8 true,.G 42 (.call (.c (.fn 23 [])) [.t 41,.c (.int .i64 0),.c (.int .i64 20)]) 8 true,.V 43 (.pick (.t 39) (.t 42) (.c (.bool false))),.V 2 (.asg (.t 43))] [2] []) .ret
def impl_Step_valid_ir : Fn := { np := 1,io := [],res := [.t 2],own := [false],body :=
 (.seq (.reg false [.W 1 (.box 4 (.t 0)),.V 2 (.asg (.c (.bool false)))] [1] [1,2003]) (.seq (.seq (.reg false [.V 5 (.fa 3 (.t 1)),.V 6 (.ld none (.t 5)),.V 7 (.len (.t 6)),.V 8 (.mv (.c (.int .i64 0)))] [1,6,7,8] [1,2003]) (.block 0 (.loop impl_Step_valid_k1))) impl_Step_valid_k2)) }
noncomputable def impl_Step_valid_D : List (Nat × Callee) := [(23,impl_within_c),(24,impl_IsName_c)]
def impl_Step_valid_H : List (Nat × ET) := [(6,(.one (.int .i64))),(21,(.one (.int .i64)))]
noncomputable def impl_Step_valid_c : Callee := mkCallee impl_Step_valid_D impl_Step_valid_H impl_Step_valid_ir [.d T_Step] [.d (.one .bool)] []
noncomputable def impl_Step_valid (a0 : T_Step.ty) : Option (Bool) := impl_Step_valid_c.f (a0,())
noncomputable def impl_Step_valid_p0  (v6 : List Int) (v7 : Int) (v8 : Int) (r1_0 : List UInt8) (r1_1 : Int) (r1_2 : Int) (r1_3 : List Int) : Option (Bool) :=
 goL impl_Step_valid_D impl_Step_valid_H (vleave impl_Step_valid_ir [.d T_Step] [.d (.one .bool)] [] []) [.c impl_Step_valid_k0,.l impl_Step_valid_k1,.e 0,.c impl_Step_valid_k2]
  ⟨[(1,.loc 1 0 0),(6,.sl (.one (.int .i64)) v6),(7,.int .i64 v7),(8,.int .i64 v8)],[(1,some (.var 4 (.agg [.str r1_0,.int .i64 r1_1,.int .i64 r1_2,.sl (.one (.int .i64)) r1_3]))),(2003,none)]⟩
theorem impl_Step_valid_eq (a0 : T_Step.ty) : impl_Step_valid a0 =
 impl_Step_valid_p0 a0.2.2.2.1 (a0.2.2.2.1.length : Int) 0 a0.1 a0.2.1 a0.2.2.1 a0.2.2.2.1 :=
 (mk_f _ _ _ _ _ _ _ 4000).trans (by kernel_rfl)
theorem impl_Step_valid_p0_eq  (v6 : List Int) (v7 : Int) (v8 : Int) (r1_0 : List UInt8) (r1_1 : Int) (r1_2 : Int) (r1_3 : List Int) : impl_Step_valid_p0 v6 v7 v8 r1_0 r1_1 r1_2 r1_3 =
 if decide (v8 < v7) then
  if decide (0 ≤ v8) then
   (v6[v8.toNat]?).bind fun x1 =>
    (impl_within x1 0 11).bind fun x2 =>
     if (!x2) then
      some false
     else
      if decide (v8 > 0) then
       if decide (0 ≤ IntKind.i64.wrap (v8 - 1)) then
        (r1_3[(IntKind.i64.wrap (v8 - 1)).toNat]?).bind fun x3 =>
         if decide (x3 ≥ x1) then
          some false
         else
          impl_Step_valid_p0 v6 v7 (IntKind.i64.wrap (v8 + 1)) r1_0 r1_1 r1_2 r1_3
       else
        none
      else
       impl_Step_valid_p0 v6 v7 (IntKind.i64.wrap (v8 + 1)) r1_0 r1_1 r1_2 r1_3
  else
   none
 else
  (impl_IsName r1_0).bind fun x4 =>
   if x4 then
    (impl_within r1_1 1 200).bind fun x5 =>
     if x5 then
      (impl_within r1_2 0 20).bind fun x6 =>
       some x6
     else
      some false
   else
    some false :=
 (goL_dn _ _ _ 4000 _ _).trans (by kernel_rfl)
noncomputable def impl_ValidSteps_c : Callee := validStepsC impl_Step_valid impl_few
noncomputable def impl_ValidSteps (a0 : List T_Step.ty) : Option (Bool) := impl_ValidSteps_c.f (a0,())
theorem impl_ValidSteps_eq (a0 : List T_Step.ty) : impl_ValidSteps a0 = vsF impl_Step_valid impl_few a0 := rfl
def impl_areStarts_k0 : C :=
 .seq (.reg false [.V 10 (.bin .lss (.t 9) (.t 8))] [0,1,7,8,9,10] []) (.seq (.cond (.t 10) .skip (.exit 0)) (.seq (.block 1 (.seq (.reg false [.V 11 (.ia 1 (.t 7) (.t 9)),.V 12 (.ld none (.t 11)),.V 6 (.asg (.t 12))] [0,1,6,7,8,9] []) (.seq (.reg false [.V 13 (.mv (.t 6)),.V 14 (.call (.c (.fn 23 [])) [.t 13,.c (.int .i64 0),.c (.int .i64 2400)]),.V 15 (.un .not (.t 14))] [0,1,7,8,9,15] []) (.cond (.t 15) (.seq (.reg false [.V 4 (.asg (.c (.bool false)))] [4] []) .ret) .skip)))) (.reg false [.V 16 (.bin .add (.t 9) (.c (.int .i64 1))),.V 9 (.mv (.t 16))] [0,1,7,8,9] [])))
def impl_areStarts_k1 : C :=
 .norm [0,1,7,8,9] [] impl_areStarts_k0
def impl_areStarts_k2 : C :=
 .seq (.reg false [.V 17 (.mv (.t 1)),.V 18 (.len (.t 17)),.V 19 (.mv (.t 0)),.V 20 (.len (.t 19)),.V 21 (.bin .eql (.t 18) (.t 20)),.V 4 (.asg (.t 21))] [4] []) .ret
def impl_areStarts_ir : Fn := { np := 2,io := [],res := [.t 4],own := [false],body :=
 (.seq (.reg false [.V 4 (.asg (.c (.bool false)))] [0,1] []) (.seq (.seq (.reg false [.V 7 (.mv (.t 1)),.V 8 (.len (.t 7)),.V 9 (.mv (.c (.int .i64 0)))] [0,1,7,8,9] []) (.block 0 (.loop impl_areStarts_k1))) impl_areStarts_k2)) }
noncomputable def impl_areStarts_D : List (Nat × Callee) := [(23,impl_within_c)]
def impl_areStarts_H : List (Nat × ET) := [(7,(.one (.int .i64))),(17,(.one (.int .i64))),(19,T_Step)]
noncomputable def impl_areStarts_c : Callee := mkCallee impl_areStarts_D impl_areStarts_H impl_areStarts_ir [.d (.one (.sl T_Step)),.d (.one (.sl (.one (.int .i64))))] [.d (.one .bool)] []
noncomputable def impl_areStarts (a0 : List T_Step.ty) (a1 : List Int) : Option (Bool) := impl_areStarts_c.f (a0,a1,())
noncomputable def impl_areStarts_p0  (v0 : List T_Step.ty) (v1 : List Int) (v7 : List Int) (v8 : Int) (v9 : Int) : Option (Bool) :=
 goL impl_areStarts_D impl_areStarts_H (vleave impl_areStarts_ir [.d (.one (.sl T_Step)),.d (.one (.sl (.one (.int .i64))))] [.d (.one .bool)] [] []) [.c impl_areStarts_k0,.l impl_areStarts_k1,.e 0,.c impl_areStarts_k2]
  ⟨[(0,.sl T_Step v0),(1,.sl (.one (.int .i64)) v1),(7,.sl (.one (.int .i64)) v7),(8,.int .i64 v8),(9,.int .i64 v9)],[]⟩
theorem impl_areStarts_eq (a0 : List T_Step.ty) (a1 : List Int) : impl_areStarts a0 a1 =
 impl_areStarts_p0 a0 a1 a1 (a1.length : Int) 0 :=
 (mk_f _ _ _ _ _ _ _ 4000).trans (by kernel_rfl)
theorem impl_areStarts_p0_eq  (v0 : List T_Step.ty) (v1 : List Int) (v7 : List Int) (v8 : Int) (v9 : Int) : impl_areStarts_p0 v0 v1 v7 v8 v9 =
 if decide (v9 < v8) then
  if decide (0 ≤ v9) then
   (v7[v9.toNat]?).bind fun x1 =>
    (impl_within x1 0 2400).bind fun x2 =>
     if (!x2) then
      some false
     else
      impl_areStarts_p0 v0 v1 v7 v8 (IntKind.i64.wrap (v9 + 1))
  else
   none
 else
  some ((v1.length : Int) == (v0.length : Int)) :=
 (goL_dn _ _ _ 4000 _ _).trans (by kernel_rfl)
def impl_isClamps_ir : Fn := { np := 1,io := [],res := [.t 2],own := [false],body :=
 (.seq (.reg false [.V 2 (.asg (.c (.bool false)))] [0] []) (.seq (.reg false [.V 3 (.mv (.t 0)),.V 4 (.call (.c (.fn 23 [])) [.t 3,.c (.int .i64 0),.c (.int .i64 240)]),.V 2 (.asg (.t 4))] [2] []) .ret)) }
noncomputable def impl_isClamps_D : List (Nat × Callee) := [(23,impl_within_c)]
def impl_isClamps_H : List (Nat × ET) := []
noncomputable def impl_isClamps_c : Callee := mkCallee impl_isClamps_D impl_isClamps_H impl_isClamps_ir [.d (.one (.int .i64))] [.d (.one .bool)] []
noncomputable def impl_isClamps (a0 : Int) : Option (Bool) := impl_isClamps_c.f (a0,())
theorem impl_isClamps_eq (a0 : Int) : impl_isClamps a0 =
 (impl_within a0 0 240).bind fun x1 =>
  some x1 :=
 (mk_f _ _ _ _ _ _ _ 4000).trans (by kernel_rfl)
def impl_isRentDay_ir : Fn := { np := 1,io := [],res := [.t 2],own := [false],body :=
 (.seq (.reg false [.V 2 (.asg (.c (.bool false)))] [0] []) (.seq (.reg false [.V 3 (.mv (.t 0)),.V 4 (.call (.c (.fn 23 [])) [.t 3,.c (.int .i64 0),.c (.int .i64 100000)]),.V 2 (.asg (.t 4))] [2] []) .ret)) }
noncomputable def impl_isRentDay_D : List (Nat × Callee) := [(23,impl_within_c)]
def impl_isRentDay_H : List (Nat × ET) := []
noncomputable def impl_isRentDay_c : Callee := mkCallee impl_isRentDay_D impl_isRentDay_H impl_isRentDay_ir [.d (.one (.int .i64))] [.d (.one .bool)] []
noncomputable def impl_isRentDay (a0 : Int) : Option (Bool) := impl_isRentDay_c.f (a0,())
theorem impl_isRentDay_eq (a0 : Int) : impl_isRentDay a0 =
 (impl_within a0 0 100000).bind fun x1 =>
  some x1 :=
 (mk_f _ _ _ _ _ _ _ 4000).trans (by kernel_rfl)
def impl_isMonths_ir : Fn := { np := 1,io := [],res := [.t 2],own := [false],body :=
 (.seq (.reg false [.V 2 (.asg (.c (.bool false)))] [0] []) (.seq (.reg false [.V 3 (.mv (.t 0)),.V 4 (.call (.c (.fn 23 [])) [.t 3,.c (.int .i64 1),.c (.int .i64 120)]),.V 2 (.asg (.t 4))] [2] []) .ret)) }
noncomputable def impl_isMonths_D : List (Nat × Callee) := [(23,impl_within_c)]
def impl_isMonths_H : List (Nat × ET) := []
noncomputable def impl_isMonths_c : Callee := mkCallee impl_isMonths_D impl_isMonths_H impl_isMonths_ir [.d (.one (.int .i64))] [.d (.one .bool)] []
noncomputable def impl_isMonths (a0 : Int) : Option (Bool) := impl_isMonths_c.f (a0,())
theorem impl_isMonths_eq (a0 : Int) : impl_isMonths a0 =
 (impl_within a0 1 120).bind fun x1 =>
  some x1 :=
 (mk_f _ _ _ _ _ _ _ 4000).trans (by kernel_rfl)
def impl_isMoney_ir : Fn := { np := 1,io := [],res := [.t 2],own := [false],body :=
 (.seq (.reg false [.V 2 (.asg (.c (.bool false)))] [0] []) (.seq (.reg false [.V 3 (.mv (.t 0)),.V 4 (.call (.c (.fn 23 [])) [.t 3,.c (.int .i64 0),.c (.int .i64 10000000)]),.V 2 (.asg (.t 4))] [2] []) .ret)) }
noncomputable def impl_isMoney_D : List (Nat × Callee) := [(23,impl_within_c)]
def impl_isMoney_H : List (Nat × ET) := []
noncomputable def impl_isMoney_c : Callee := mkCallee impl_isMoney_D impl_isMoney_H impl_isMoney_ir [.d (.one (.int .i64))] [.d (.one .bool)] []
noncomputable def impl_isMoney (a0 : Int) : Option (Bool) := impl_isMoney_c.f (a0,())
theorem impl_isMoney_eq (a0 : Int) : impl_isMoney a0 =
 (impl_within a0 0 10000000).bind fun x1 =>
  some x1 :=
 (mk_f _ _ _ _ _ _ _ 4000).trans (by kernel_rfl)
def impl_Rental_valid_ir : Fn := { np := 1,io := [],res := [.t 2],own := [false],body :=
 (.seq (.reg false [.W 1 (.box 5 (.t 0)),.V 2 (.asg (.c (.bool false)))] [1] [1]) (.seq (.reg false [.V 3 (.fa 0 (.t 1)),.V 4 (.ld none (.t 3)),.V 5 (.call (.c (.fn 24 [])) [.t 4]),.V 6 (.mv (.t 5)),.G 7 (.fa 1 (.t 1)) 3 true,.G 8 (.ld none (.t 7)) 3 true,.G 9 (.call (.c (.fn 24 [])) [.t 8]) 3 true,.V 10 (.pick (.t 6) (.t 9) (.c (.bool false))),.V 11 (.mv (.t 10)),.G 12 (.fa 2 (.t 1)) 8 true,.G 13 (.ld none (.t 12)) 8 true,.G 14 (.call (.c (.fn 623 [])) [.t 13]) 8 true,.V 15 (.pick (.t 11) (.t 14) (.c (.bool false))),.V 16 (.mv (.t 15)),.G 17 (.fa 3 (.t 1)) 13 true,.G 18 (.ld none (.t 17)) 13 true,.G 19 (.call (.c (.fn 1032 [])) [.t 18]) 13 true,.V 20 (.pick (.t 16) (.t 19) (.c (.bool false))),.V 21 (.mv (.t 20)),.G 22 (.fa 4 (.t 1)) 18 true,.G 23 (.ld none (.t 22)) 18 true,.G 24 (.call (.c (.fn 1033 [])) [.t 23]) 18 true,.V 25 (.pick (.t 21) (.t 24) (.c (.bool false))),.V 2 (.asg (.t 25))] [2] []) .ret)) }
noncomputable def impl_Rental_valid_D : List (Nat × Callee) := [(24,impl_IsName_c),(623,impl_isRentDay_c),(1032,impl_isMonths_c),(1033,impl_isMoney_c)]
def impl_Rental_valid_H : List (Nat × ET) := []
noncomputable def impl_Rental_valid_c : Callee := mkCallee impl_Rental_valid_D impl_Rental_valid_H impl_Rental_valid_ir [.d T_Paper] [.d (.one .bool)] []
noncomputable def impl_Rental_valid (a0 : T_Paper.ty) : Option (Bool) := impl_Rental_valid_c.f (a0,())
theorem impl_Rental_valid_eq (a0 : T_Paper.ty) : impl_Rental_valid a0 =
 (impl_IsName a0.1).bind fun x1 =>
  if x1 then
   (impl_IsName a0.2.1).bind fun x2 =>
    if x2 then
     (impl_isRentDay a0.2.2.1).bind fun x3 =>
      if x3 then
       (impl_isMonths a0.2.2.2.1).bind fun x4 =>
        if x4 then
         (impl_isMoney a0.2.2.2.2.1).bind fun x5 =>
          some x5
        else
         some false
      else
       some false
    else
     some false
  else
   some false :=
 (mk_f _ _ _ _ _ _ _ 4000).trans (by kernel_rfl)
def impl_ValidRentals_k0 : C :=
 .seq (.reg false [.V 8 (.bin .lss (.t 7) (.t 6))] [0,5,6,7,8] []) (.seq (.cond (.t 8) .skip (.exit 0)) (.seq (.block 1 (.seq (.reg false [.V 9 (.mv (.t 7)),.V 10 (.ia 5 (.t 5) (.t 7)),.V 11 (.ld (some 5) (.t 10)),.W 4 (.alloc 5 (.agg [.str [],.str [],.int .i64 0,.int .i64 0,.int .i64 0])),.V 3 (.asg (.t 9)),⟨none,true,.sto 5 (.t 4) (.t 11),none,false,[]⟩] [0,3,4,5,6,7] [4]) (.seq (.reg true [.V 12 (.ld (some 5) (.t 4)),.V 13 (.call (.c (.fn 900 [])) [.t 12]),.V 14 (.un .not (.t 13)),.V 15 (.mv (.t 14)),.G 16 (.mv (.t 3)) 3 false,.G 17 (.bin .gtr (.t 16) (.c (.int .i64 0))) 3 false,.G 18 (.mv (.t 17)) 3 false,.G 19 (.mv (.t 0)) 6 true,.G 20 (.mv (.t 3)) 6 true,.G 21 (.bin .sub (.t 20) (.c (.int .i64 1))) 6 true,.G 22 (.ia 5 (.t 19) (.t 21)) 6 true,.G 23 (.fa 0 (.t 22)) 6 true,.G 24 (.ld none (.t 23)) 6 true,.G 25 (.fa 0 (.t 4)) 6 true,.G 26 (.ld none (.t 25)) 6 true,.G 27 (.bin .geq (.t 24) (.t 26)) 6 true,.G 28 (.pick (.t 18) (.t 27) (.c (.bool false))) 3 false,.V 29 (.pick (.t 15) (.c (.bool true)) (.t 28))] [0,5,6,7,29] []) (.cond (.t 29) (.seq (.reg false [.V 2 (.asg (.c (.bool false)))] [2] []) .ret) .skip)))) (.reg false [.V 30 (.bin .add (.t 7) (.c (.int .i64 1))),.V 7 (.mv (.t 30))] [0,5,6,7] [])))
def impl_ValidRentals_k1 : C :=
 .norm [0,5,6,7] [] impl_ValidRentals_k0
def impl_ValidRentals_k2 : C :=
 .seq (.reg false [.V 31 (.mv (.t 0)),.V 32 (.len (.t 31)),.V 33 (.call (.c (.fn 21 [])) [.t 32,.c (.int .i64 12)]),.V 2 (.asg (.t 33))] [2] []) .ret
def impl_ValidRentals_ir : Fn := { np := 1,io := [],res := [.t 2],own := [false],body :=
 (.seq (.reg false [.V 2 (.asg (.c (.bool false)))] [0] []) (.seq (.seq (.reg false [.V 5 (.mv (.t 0)),.V 6 (.len (.t 5)),.V 7 (.mv (.c (.int .i64 0)))] [0,5,6,7] []) (.block 0 (.loop impl_ValidRentals_k1))) impl_ValidRentals_k2)) }
noncomputable def impl_ValidRentals_D : List (Nat × Callee) := [(21,impl_few_c),(900,impl_Rental_valid_c)]
def impl_ValidRentals_H : List (Nat × ET) := [(5,T_Paper),(19,T_Paper),(31,T_Paper)]
noncomputable def impl_ValidRentals_c : Callee := mkCallee impl_ValidRentals_D impl_ValidRentals_H impl_ValidRentals_ir [.d (.one (.sl T_Paper))] [.d (.one .bool)] []
noncomputable def impl_ValidRentals (a0 : List T_Paper.ty) : Option (Bool) := impl_ValidRentals_c.f (a0,())
noncomputable def impl_ValidRentals_p0  (v0 : List T_Paper.ty) (v5 : List T_Paper.ty) (v6 : Int) (v7 : Int) : Option (Bool) :=
 goL impl_ValidRentals_D impl_ValidRentals_H (vleave impl_ValidRentals_ir [.d (.one (.sl T_Paper))] [.d (.one .bool)] [] []) [.c impl_ValidRentals_k0,.l impl_ValidRentals_k1,.e 0,.c impl_ValidRentals_k2]
  ⟨[(0,.sl T_Paper v0),(5,.sl T_Paper v5),(6,.int .i64 v6),(7,.int .i64 v7)],[]⟩
theorem impl_ValidRentals_eq (a0 : List T_Paper.ty) : impl_ValidRentals a0 =
 impl_ValidRentals_p0 a0 a0 (a0.length : Int) 0 :=
 (mk_f _ _ _ _ _ _ _ 4000).trans (by kernel_rfl)
theorem impl_ValidRentals_p0_eq  (v0 : List T_Paper.ty) (v5 : List T_Paper.ty) (v6 : Int) (v7 : Int) : impl_ValidRentals_p0 v0 v5 v6 v7 =
 if decide (v7 < v6) then
  if decide (0 ≤ v7) then
   (v5[v7.toNat]?).bind fun x1 =>
    (impl_Rental_valid x1).bind fun x2 =>
     if (!x2) then
      some false
     else
      if decide (v7 > 0) then
       if decide (0 ≤ IntKind.i64.wrap (v7 - 1)) then
        (v0[(IntKind.i64.wrap (v7 - 1)).toNat]?).bind fun x3 =>
         if (!Op.bytesLess x3.1 x1.1) then
          some false
         else
          impl_ValidRentals_p0 v0 v5 v6 (IntKind.i64.wrap (v7 + 1))
       else
        none
      else
       impl_ValidRentals_p0 v0 v5 v6 (IntKind.i64.wrap (v7 + 1))
  else
   none
 else
  (impl_few (v0.length : Int) 12).bind fun x4 =>
   some x4 :=
 (goL_dn _ _ _ 4000 _ _).trans (by kernel_rfl)
def impl_Entry_valid_ir : Fn := { np := 1,io := [],res := [.t 2],own := [false],body :=
 (.seq (.reg false [.W 1 (.box 4 (.t 0)),.V 2 (.asg (.c (.bool false)))] [1] [1]) (.seq (.reg false [.V 3 (.fa 0 (.t 1)),.V 4 (.ld none (.t 3)),.V 5 (.call (.c (.fn 623 [])) [.t 4]),.V 6 (.mv (.t 5)),.G 7 (.fa 1 (.t 1)) 3 true,.G 8 (.ld none (.t 7)) 3 true,.G 9 (.call (.c (.fn 24 [])) [.t 8]) 3 true,.V 10 (.pick (.t 6) (.t 9) (.c (.bool false))),.V 11 (.mv (.t 10)),.G 12 (.fa 2 (.t 1)) 8 true,.G 13 (.ld none (.t 12)) 8 true,.G 14 (.call (.c (.fn 24 [])) [.t 13]) 8 true,.V 15 (.pick (.t 11) (.t 14) (.c (.bool false))),.V 16 (.mv (.t 15)),.G 17 (.fa 1 (.t 1)) 13 true,.G 18 (.ld none (.t 17)) 13 true,.G 19 (.fa 2 (.t 1)) 13 true,.G 20 (.ld none (.t 19)) 13 true,.G 21 (.bin .neq (.t 18) (.t 20)) 13 true,.V 22 (.pick (.t 16) (.t 21) (.c (.bool false))),.V 23 (.mv (.t 22)),.G 24 (.fa 3 (.t 1)) 20 true,.G 25 (.ld none (.t 24)) 20 true,.G 26 (.call (.c (.fn 23 [])) [.t 25,.c (.int .i64 1),.c (.int .i64 10000000)]) 20 true,.V 27 (.pick (.t 23) (.t 26) (.c (.bool false))),.V 2 (.asg (.t 27))] [2] []) .ret)) }
noncomputable def impl_Entry_valid_D : List (Nat × Callee) := [(23,impl_within_c),(24,impl_IsName_c),(623,impl_isRentDay_c)]
def impl_Entry_valid_H : List (Nat × ET) := []
noncomputable def impl_Entry_valid_c : Callee := mkCallee impl_Entry_valid_D impl_Entry_valid_H impl_Entry_valid_ir [.d T_Entry] [.d (.one .bool)] []
noncomputable def impl_Entry_valid (a0 : T_Entry.ty) : Option (Bool) := impl_Entry_valid_c.f (a0,())
theorem impl_Entry_valid_eq (a0 : T_Entry.ty) : impl_Entry_valid a0 =
 (impl_isRentDay a0.1).bind fun x1 =>
  if x1 then
   (impl_IsName a0.2.1).bind fun x2 =>
    if x2 then
     (impl_IsName a0.2.2.1).bind fun x3 =>
      if x3 then
       if (!(a0.2.1 == a0.2.2.1)) then
        (impl_within a0.2.2.2.1 1 10000000).bind fun x4 =>
         some x4
       else
        some false
      else
       some false
    else
     some false
  else
   some false :=
 (mk_f _ _ _ _ _ _ _ 4000).trans (by kernel_rfl)
def impl_ValidBook_k0 : C :=
 .seq (.reg false [.V 8 (.bin .lss (.t 7) (.t 6))] [0,5,6,7,8] []) (.seq (.cond (.t 8) .skip (.exit 0)) (.seq (.block 1 (.seq (.reg false [.V 9 (.mv (.t 7)),.V 10 (.ia 4 (.t 5) (.t 7)),.V 11 (.ld (some 4) (.t 10)),.W 4 (.alloc 4 (.agg [.int .i64 0,.str [],.str [],.int .i64 0])),.V 3 (.asg (.t 9)),⟨none,true,.sto 4 (.t 4) (.t 11),none,false,[]⟩] [0,3,4,5,6,7] [4]) (.seq (.reg true [.V 12 (.ld (some 4) (.t 4)),.V 13 (.call (.c (.fn 621 [])) [.t 12]),.V 14 (.un .not (.t 13)),.V 15 (.mv (.t 14)),.G 16 (.mv (.t 3)) 3 false,.G 17 (.bin .gtr (.t 16) (.c (.int .i64 0))) 3 false,.G 18 (.mv (.t 17)) 3 false,.G 19 (.mv (.t 0)) 6 true,.G 20 (.mv (.t 3)) 6 true,.G 21 (.bin .sub (.t 20) (.c (.int .i64 1))) 6 true,.G 22 (.ia 4 (.t 19) (.t 21)) 6 true,.G 23 (.fa 0 (.t 22)) 6 true,.G 24 (.ld none (.t 23)) 6 true,.G 25 (.fa 0 (.t 4)) 6 true,.G 26 (.ld none (.t 25)) 6 true,.G 27 (.bin .gtr (.t 24) (.t 26)) 6 true,.G 28 (.pick (.t 18) (.t 27) (.c (.bool false))) 3 false,.V 29 (.pick (.t 15) (.c (.bool true)) (.t 28))] [0,5,6,7,29] []) (.cond (.t 29) (.seq (.reg false [.V 2 (.asg (.c (.bool false)))] [2] []) .ret) .skip)))) (.reg false [.V 30 (.bin .add (.t 7) (.c (.int .i64 1))),.V 7 (.mv (.t 30))] [0,5,6,7] [])))
def impl_ValidBook_k1 : C :=
 .norm [0,5,6,7] [] impl_ValidBook_k0
def impl_ValidBook_k2 : C :=
 .seq (.reg false [.V 31 (.mv (.t 0)),.V 32 (.len (.t 31)),.V 33 (.call (.c (.fn 21 [])) [.t 32,.c (.int .i64 32)]),.V 2 (.asg (.t 33))] [2] []) .ret
def impl_ValidBook_ir : Fn := { np := 1,io := [],res := [.t 2],own := [false],body :=
 (.seq (.reg false [.V 2 (.asg (.c (.bool false)))] [0] []) (.seq (.seq (.reg false [.V 5 (.mv (.t 0)),.V 6 (.len (.t 5)),.V 7 (.mv (.c (.int .i64 0)))] [0,5,6,7] []) (.block 0 (.loop impl_ValidBook_k1))) impl_ValidBook_k2)) }
noncomputable def impl_ValidBook_D : List (Nat × Callee) := [(21,impl_few_c),(621,impl_Entry_valid_c)]
def impl_ValidBook_H : List (Nat × ET) := [(5,T_Entry),(19,T_Entry),(31,T_Entry)]
noncomputable def impl_ValidBook_c : Callee := mkCallee impl_ValidBook_D impl_ValidBook_H impl_ValidBook_ir [.d (.one (.sl T_Entry))] [.d (.one .bool)] []
noncomputable def impl_ValidBook (a0 : List T_Entry.ty) : Option (Bool) := impl_ValidBook_c.f (a0,())
noncomputable def impl_ValidBook_p0  (v0 : List T_Entry.ty) (v5 : List T_Entry.ty) (v6 : Int) (v7 : Int) : Option (Bool) :=
 goL impl_ValidBook_D impl_ValidBook_H (vleave impl_ValidBook_ir [.d (.one (.sl T_Entry))] [.d (.one .bool)] [] []) [.c impl_ValidBook_k0,.l impl_ValidBook_k1,.e 0,.c impl_ValidBook_k2]
  ⟨[(0,.sl T_Entry v0),(5,.sl T_Entry v5),(6,.int .i64 v6),(7,.int .i64 v7)],[]⟩
theorem impl_ValidBook_eq (a0 : List T_Entry.ty) : impl_ValidBook a0 =
 impl_ValidBook_p0 a0 a0 (a0.length : Int) 0 :=
 (mk_f _ _ _ _ _ _ _ 4000).trans (by kernel_rfl)
theorem impl_ValidBook_p0_eq  (v0 : List T_Entry.ty) (v5 : List T_Entry.ty) (v6 : Int) (v7 : Int) : impl_ValidBook_p0 v0 v5 v6 v7 =
 if decide (v7 < v6) then
  if decide (0 ≤ v7) then
   (v5[v7.toNat]?).bind fun x1 =>
    (impl_Entry_valid x1).bind fun x2 =>
     if (!x2) then
      some false
     else
      if decide (v7 > 0) then
       if decide (0 ≤ IntKind.i64.wrap (v7 - 1)) then
        (v0[(IntKind.i64.wrap (v7 - 1)).toNat]?).bind fun x3 =>
         if decide (x3.1 > x1.1) then
          some false
         else
          impl_ValidBook_p0 v0 v5 v6 (IntKind.i64.wrap (v7 + 1))
       else
        none
      else
       impl_ValidBook_p0 v0 v5 v6 (IntKind.i64.wrap (v7 + 1))
  else
   none
 else
  (impl_few (v0.length : Int) 32).bind fun x4 =>
   some x4 :=
 (goL_dn _ _ _ 4000 _ _).trans (by kernel_rfl)
def impl_ValidShop_ir : Fn := { np := 1,io := [],res := [.t 2],own := [false],body :=
 (.seq (.reg false [.W 1 (.box 8 (.t 0)),.V 2 (.asg (.c (.bool false)))] [1] [1,2000,2001,2003,2004,2006,2007]) (.seq (.reg false [.V 3 (.fa 0 (.t 1)),.V 4 (.ld none (.t 3)),.V 5 (.call (.c (.fn 608 [])) [.t 4]),.V 6 (.mv (.t 5)),.G 7 (.fa 1 (.t 1)) 3 true,.G 8 (.ld none (.t 7)) 3 true,.G 9 (.call (.c (.fn 609 [])) [.t 8]) 3 true,.V 10 (.pick (.t 6) (.t 9) (.c (.bool false))),.V 11 (.mv (.t 10)),.G 12 (.fa 2 (.t 1)) 8 true,.G 13 (.ld none (.t 12)) 8 true,.G 14 (.call (.c (.fn 610 [])) [.t 13]) 8 true,.V 15 (.pick (.t 11) (.t 14) (.c (.bool false))),.V 16 (.mv (.t 15)),.G 17 (.fa 3 (.t 1)) 13 true,.G 18 (.ld none (.t 17)) 13 true,.G 19 (.call (.c (.fn 83 [])) [.t 18]) 13 true,.V 20 (.pick (.t 16) (.t 19) (.c (.bool false))),.V 21 (.mv (.t 20)),.G 22 (.fa 3 (.t 1)) 18 true,.G 23 (.ld none (.t 22)) 18 true,.G 24 (.fa 4 (.t 1)) 18 true,.G 25 (.ld none (.t 24)) 18 true,.G 26 (.call (.c (.fn 541 [])) [.t 23,.t 25]) 18 true,.V 27 (.pick (.t 21) (.t 26) (.c (.bool false))),.V 28 (.mv (.t 27)),.G 29 (.fa 5 (.t 1)) 25 true,.G 30 (.ld none (.t 29)) 25 true,.G 31 (.call (.c (.fn 534 [])) [.t 30]) 25 true,.V 32 (.pick (.t 28) (.t 31) (.c (.bool false))),.V 33 (.mv (.t 32)),.G 34 (.fa 6 (.t 1)) 30 true,.G 35 (.ld none (.t 34)) 30 true,.G 36 (.call (.c (.fn 611 [])) [.t 35]) 30 true,.V 37 (.pick (.t 33) (.t 36) (.c (.bool false))),.V 38 (.mv (.t 37)),.G 39 (.fa 7 (.t 1)) 35 true,.G 40 (.ld none (.t 39)) 35 true,.G 41 (.call (.c (.fn 213 [])) [.t 40]) 35 true,.V 42 (.pick (.t 38) (.t 41) (.c (.bool false))),.V 2 (.asg (.t 42))] [2] []) .ret)) }
noncomputable def impl_ValidShop_D : List (Nat × Callee) := [(83,impl_ValidSteps_c),(213,impl_ValidBook_c),(534,impl_isClamps_c),(541,impl_areStarts_c),(608,impl_ValidOutline_c),(609,impl_validCords_c),(610,impl_isShare_c),(611,impl_ValidRentals_c)]
def impl_ValidShop_H : List (Nat × ET) := [(4,T_Arc),(8,T_Neck),(18,T_Step),(23,T_Step),(25,(.one (.int .i64))),(35,T_Paper),(40,T_Entry)]
noncomputable def impl_ValidShop_c : Callee := mkCallee impl_ValidShop_D impl_ValidShop_H impl_ValidShop_ir [.d T_Shop] [.d (.one .bool)] []
noncomputable def impl_ValidShop (a0 : T_Shop.ty) : Option (Bool) := impl_ValidShop_c.f (a0,())
theorem impl_ValidShop_eq (a0 : T_Shop.ty) : impl_ValidShop a0 =
 (impl_ValidOutline a0.1).bind fun x1 =>
  if x1 then
   (impl_validCords a0.2.1).bind fun x2 =>
    if x2 then
     (impl_isShare a0.2.2.1).bind fun x3 =>
      if x3 then
       (impl_ValidSteps a0.2.2.2.1).bind fun x4 =>
        if x4 then
         (impl_areStarts a0.2.2.2.1 a0.2.2.2.2.1).bind fun x5 =>
          if x5 then
           (impl_isClamps a0.2.2.2.2.2.1).bind fun x6 =>
            if x6 then
             (impl_ValidRentals a0.2.2.2.2.2.2.1).bind fun x7 =>
              if x7 then
               (impl_ValidBook a0.2.2.2.2.2.2.2.1).bind fun x8 =>
                some x8
              else
               some false
            else
             some false
          else
           some false
        else
         some false
      else
       some false
    else
     some false
  else
   some false :=
 (mk_f _ _ _ _ _ _ _ 4000).trans (by kernel_rfl)
def impl_Rental_end_ir : Fn := { np := 1,io := [],res := [.t 2],own := [false],body :=
 (.seq (.reg false [.W 1 (.box 5 (.t 0)),.V 2 (.asg (.c (.int .i64 0)))] [1] [1]) (.seq (.reg false [.V 3 (.fa 2 (.t 1)),.V 4 (.ld none (.t 3)),.V 5 (.fa 3 (.t 1)),.V 6 (.ld none (.t 5)),.V 7 (.bin .mul (.c (.int .i64 30)) (.t 6)),.V 8 (.bin .add (.t 4) (.t 7)),.V 2 (.asg (.t 8))] [2] []) .ret)) }
noncomputable def impl_Rental_end_D : List (Nat × Callee) := []
def impl_Rental_end_H : List (Nat × ET) := []
noncomputable def impl_Rental_end_c : Callee := mkCallee impl_Rental_end_D impl_Rental_end_H impl_Rental_end_ir [.d T_Paper] [.d (.one (.int .i64))] []
noncomputable def impl_Rental_end (a0 : T_Paper.ty) : Option (Int) := impl_Rental_end_c.f (a0,())
theorem impl_Rental_end_eq (a0 : T_Paper.ty) : impl_Rental_end a0 =
 some (IntKind.i64.wrap (a0.2.2.1 + (IntKind.i64.wrap (30 * a0.2.2.2.1)))) :=
 (mk_f _ _ _ _ _ _ _ 4000).trans (by kernel_rfl)
def impl_Rental_clashes_ir : Fn := { np := 2,io := [],res := [.t 4],own := [false],body :=
 (.seq (.reg false [.W 2 (.box 5 (.t 0)),.W 3 (.box 5 (.t 1)),.V 4 (.asg (.c (.bool false)))] [2,3] [2,3]) (.seq (.reg true [.V 5 (.fa 1 (.t 2)),.V 6 (.ld none (.t 5)),.V 7 (.fa 1 (.t 3)),.V 8 (.ld none (.t 7)),.V 9 (.bin .eql (.t 6) (.t 8)),.V 10 (.mv (.t 9)),.G 11 (.fa 2 (.t 2)) 5 true,.G 12 (.ld none (.t 11)) 5 true,.G 13 (.fa 2 (.t 3)) 5 true,.G 14 (.ld none (.t 13)) 5 true,.G 15 (.max [.t 12,.t 14]) 5 true,.G 16 (.ld (some 5) (.t 2)) 5 true,.G 17 (.call (.c (.fn 1045 [])) [.t 16]) 5 true,.G 18 (.ld (some 5) (.t 3)) 5 true,.G 19 (.call (.c (.fn 1045 [])) [.t 18]) 5 true,.G 20 (.min [.t 17,.t 19]) 5 true,.G 21 (.bin .lss (.t 15) (.t 20)) 5 true,.V 22 (.pick (.t 10) (.t 21) (.c (.bool false))),.V 4 (.asg (.t 22))] [4] []) .ret)) }
noncomputable def impl_Rental_clashes_D : List (Nat × Callee) := [(1045,impl_Rental_end_c)]
def impl_Rental_clashes_H : List (Nat × ET) := []
noncomputable def impl_Rental_clashes_c : Callee := mkCallee impl_Rental_clashes_D impl_Rental_clashes_H impl_Rental_clashes_ir [.d T_Paper,.d T_Paper] [.d (.one .bool)] []
noncomputable def impl_Rental_clashes (a0 : T_Paper.ty) (a1 : T_Paper.ty) : Option (Bool) := impl_Rental_clashes_c.f (a0,a1,())
theorem impl_Rental_clashes_eq (a0 : T_Paper.ty) (a1 : T_Paper.ty) : impl_Rental_clashes a0 a1 =
 if (a0.2.1 == a1.2.1) then
  (impl_Rental_end a0).bind fun x1 =>
   (impl_Rental_end a1).bind fun x2 =>
    some (decide ((if a1.2.2.1 > a0.2.2.1 then a1.2.2.1 else a0.2.2.1) < (if x2 < x1 then x2 else x1)))
 else
  some false :=
 (mk_f _ _ _ _ _ _ _ 4000).trans (by kernel_rfl)
def impl_ClashesOf_k0 : C :=
 .seq (.seq (.reg false [.V 21 (.mv (.t 7)),.V 22 (.mv (.t 0)),.V 23 (.len (.t 22)),.V 24 (.bin .lss (.t 21) (.t 23))] [0,4,5,6,7,12,13,14,24] [4,6]) (.cond (.t 24) .skip (.exit 2))) (.seq (.block 3 (.seq (.reg true [.V 27 (.ld (some 5) (.t 6)),.V 28 (.mv (.t 0)),.V 29 (.mv (.t 7)),.V 30 (.ia 5 (.t 28) (.t 29)),.V 31 (.ld (some 5) (.t 30)),.V 32 (.call (.c (.fn 941 [])) [.t 27,.t 31])] [0,4,5,6,7,12,13,14,32] [4,6]) (.cond (.t 32) (.reg false [.V 33 (.mv (.t 4)),.V 34 (.mv (.t 5)),.V 35 (.mv (.t 7)),.V 36 (.bsl 1 (.int .i64 0) 2 [(0,.t 34),(1,.t 35)]),.W 37 (.bsl 1 (.sl 1 []) 1 [(0,.t 36)]),.W 38 (.app 1 24 (.t 33) (.t 37)),.W 4 (.asg (.t 38))] [0,4,5,6,7,12,13,14] [4,6]) .skip))) (.reg false [.V 25 (.mv (.t 7)),.V 26 (.bin .add (.t 25) (.c (.int .i64 1))),.V 7 (.asg (.t 26))] [0,4,5,6,7,12,13,14] [4,6]))
def impl_ClashesOf_k1 : C :=
 .norm [0,4,5,6,7,12,13,14] [4,6] impl_ClashesOf_k0
def impl_ClashesOf_k2 : C :=
 .reg false [.V 39 (.bin .add (.t 14) (.c (.int .i64 1))),.V 14 (.mv (.t 39))] [0,4,12,13,14] [4]
def impl_ClashesOf_k3 : C :=
 .seq (.reg false [.V 15 (.bin .lss (.t 14) (.t 13))] [0,4,12,13,14,15] [4]) (.seq (.cond (.t 15) .skip (.exit 0)) (.seq (.block 1 (.seq (.reg false [.V 16 (.mv (.t 14)),.V 17 (.ia 5 (.t 12) (.t 14)),.V 18 (.ld (some 5) (.t 17)),.W 6 (.alloc 5 (.agg [.str [],.str [],.int .i64 0,.int .i64 0,.int .i64 0])),.V 5 (.asg (.t 16)),⟨none,true,.sto 5 (.t 6) (.t 18),none,false,[]⟩] [0,4,5,6,12,13,14] [4,6]) (.seq (.reg false [.V 19 (.mv (.t 5)),.V 20 (.bin .add (.t 19) (.c (.int .i64 1))),.V 7 (.asg (.t 20))] [0,4,5,6,7,12,13,14] [4,6]) (.block 2 (.loop impl_ClashesOf_k1))))) impl_ClashesOf_k2))
def impl_ClashesOf_k4 : C :=
 .norm [0,4,12,13,14] [4] impl_ClashesOf_k3
def impl_ClashesOf_k5 : C :=
 .seq (.reg false [.V 40 (.mv (.t 4)),.W 2 (.asg (.t 40)),.V 3 (.asg (.c (.int .i64 0)))] [2,3] [2,4]) .ret
def impl_ClashesOf_ir : Fn := { np := 1,io := [],res := [.t 2,.t 3],own := [false,false],body :=
 (.seq (.reg false [.W 2 (.asg (.c (.nils 1))),.V 3 (.asg (.c (.int .i64 0)))] [0] []) (.seq (.seq (.reg false [.V 8 (.mv (.t 0)),.V 9 (.call (.c (.fn 611 [])) [.t 8]),.V 10 (.un .not (.t 9))] [0,10] []) (.cond (.t 10) (.seq (.reg false [.W 2 (.asg (.c (.nils 1))),.V 3 (.asg (.c (.int .i64 1)))] [2,3] [2,4]) .ret) .skip)) (.seq (.reg false [.V 11 (.bsl 1 (.sl 1 []) 0 []),.W 4 (.asg (.t 11))] [0,4] [4]) (.seq (.seq (.reg false [.V 12 (.mv (.t 0)),.V 13 (.len (.t 12)),.V 14 (.mv (.c (.int .i64 0)))] [0,4,12,13,14] [4]) (.block 0 (.loop impl_ClashesOf_k4))) impl_ClashesOf_k5)))) }
noncomputable def impl_ClashesOf_D : List (Nat × Callee) := [(611,impl_ValidRentals_c),(941,impl_Rental_clashes_c)]
def impl_ClashesOf_H : List (Nat × ET) := [(2,(.one (.sl (.one (.int .i64))))),(4,(.one (.sl (.one (.int .i64))))),(8,T_Paper),(11,(.one (.sl (.one (.int .i64))))),(12,T_Paper),(22,T_Paper),(28,T_Paper),(33,(.one (.sl (.one (.int .i64))))),(36,(.one (.int .i64))),(37,(.one (.sl (.one (.int .i64))))),(38,(.one (.sl (.one (.int .i64))))),(40,(.one (.sl (.one (.int .i64)))))]
noncomputable def impl_ClashesOf_c : Callee := mkCallee impl_ClashesOf_D impl_ClashesOf_H impl_ClashesOf_ir [.d (.one (.sl T_Paper))] [.d (.one (.sl (.one (.sl (.one (.int .i64)))))),.d (.one (.int .i64))] []
noncomputable def impl_ClashesOf (a0 : List T_Paper.ty) : Option (List (List Int) × Int) := impl_ClashesOf_c.f (a0,())
noncomputable def impl_ClashesOf_p0  (v0 : List T_Paper.ty) (v12 : List T_Paper.ty) (v13 : Int) (v14 : Int) (r4 : List (List Int)) : Option (List (List Int) × Int) :=
 goL impl_ClashesOf_D impl_ClashesOf_H (vleave impl_ClashesOf_ir [.d (.one (.sl T_Paper))] [.d (.one (.sl (.one (.sl (.one (.int .i64)))))),.d (.one (.int .i64))] [] []) [.c impl_ClashesOf_k3,.l impl_ClashesOf_k4,.e 0,.c impl_ClashesOf_k5]
  ⟨[(0,.sl T_Paper v0),(4,.view 4 0 r4.length),(12,.sl T_Paper v12),(13,.int .i64 v13),(14,.int .i64 v14)],[(4,some (.sl (.one (.sl (.one (.int .i64)))) r4))]⟩
noncomputable def impl_ClashesOf_p1  (v0 : List T_Paper.ty) (v5 : Int) (v7 : Int) (v12 : List T_Paper.ty) (v13 : Int) (v14 : Int) (r4 : List (List Int)) (r6_0 : List UInt8) (r6_1 : List UInt8) (r6_2 : Int) (r6_3 : Int) (r6_4 : Int) : Option (List (List Int) × Int) :=
 goL impl_ClashesOf_D impl_ClashesOf_H (vleave impl_ClashesOf_ir [.d (.one (.sl T_Paper))] [.d (.one (.sl (.one (.sl (.one (.int .i64)))))),.d (.one (.int .i64))] [] []) [.c impl_ClashesOf_k0,.l impl_ClashesOf_k1,.e 2,.e 1,.c impl_ClashesOf_k2,.l impl_ClashesOf_k4,.e 0,.c impl_ClashesOf_k5]
  ⟨[(0,.sl T_Paper v0),(4,.view 4 0 r4.length),(5,.int .i64 v5),(6,.loc 6 0 0),(7,.int .i64 v7),(12,.sl T_Paper v12),(13,.int .i64 v13),(14,.int .i64 v14)],[(4,some (.sl (.one (.sl (.one (.int .i64)))) r4)),(6,some (.var 5 (.agg [.str r6_0,.str r6_1,.int .i64 r6_2,.int .i64 r6_3,.int .i64 r6_4])))]⟩
theorem impl_ClashesOf_eq (a0 : List T_Paper.ty) : impl_ClashesOf a0 =
 (impl_ValidRentals a0).bind fun x1 =>
  if (!x1) then
   some ([],1)
  else
   impl_ClashesOf_p0 a0 a0 (a0.length : Int) 0 [] :=
 (mk_f _ _ _ _ _ _ _ 4000).trans (by kernel_rfl)
theorem impl_ClashesOf_p0_eq  (v0 : List T_Paper.ty) (v12 : List T_Paper.ty) (v13 : Int) (v14 : Int) (r4 : List (List Int)) : impl_ClashesOf_p0 v0 v12 v13 v14 r4 =
 if decide (v14 < v13) then
  if decide (0 ≤ v14) then
   (v12[v14.toNat]?).bind fun x1 =>
    impl_ClashesOf_p1 v0 v14 (IntKind.i64.wrap (v14 + 1)) v12 v13 v14 r4 x1.1 x1.2.1 x1.2.2.1 x1.2.2.2.1 x1.2.2.2.2.1
  else
   none
 else
  some ((r4.take r4.length),0) :=
 (goL_dn _ _ _ 4000 _ _).trans (by kernel_rfl)
theorem impl_ClashesOf_p1_eq  (v0 : List T_Paper.ty) (v5 : Int) (v7 : Int) (v12 : List T_Paper.ty) (v13 : Int) (v14 : Int) (r4 : List (List Int)) (r6_0 : List UInt8) (r6_1 : List UInt8) (r6_2 : Int) (r6_3 : Int) (r6_4 : Int) : impl_ClashesOf_p1 v0 v5 v7 v12 v13 v14 r4 r6_0 r6_1 r6_2 r6_3 r6_4 =
 if decide (v7 < (v0.length : Int)) then
  if decide (0 ≤ v7) then
   (v0[v7.toNat]?).bind fun x1 =>
    (impl_Rental_clashes (r6_0,r6_1,r6_2,r6_3,r6_4,()) x1).bind fun x2 =>
     if x2 then
      if decide (r4.length + 1 < lim) then
       impl_ClashesOf_p1 v0 v5 (IntKind.i64.wrap (v7 + 1)) v12 v13 v14 ((r4.take r4.length) ++ [[v5,v7]]) r6_0 r6_1 r6_2 r6_3 r6_4
      else
       none
     else
      impl_ClashesOf_p1 v0 v5 (IntKind.i64.wrap (v7 + 1)) v12 v13 v14 r4 r6_0 r6_1 r6_2 r6_3 r6_4
  else
   none
 else
  impl_ClashesOf_p0 v0 v12 v13 (IntKind.i64.wrap (v14 + 1)) r4 :=
 (goL_dn _ _ _ 4000 _ _).trans (by kernel_rfl)
def impl_Entry_change_ir : Fn := { np := 2,io := [],res := [.t 4],own := [false],body :=
 (.seq (.reg false [.W 2 (.box 4 (.t 0)),.V 4 (.asg (.c (.int .i64 0)))] [1,2] [2]) (.seq (.seq (.reg false [.V 5 (.mv (.t 1))] [2,5] [2]) (.block 0 (.seq (.reg false [.V 7 (.fa 1 (.t 2)),.V 8 (.ld none (.t 7)),.V 9 (.bin .eql (.t 5) (.t 8)),.V 6 (.asg (.t 9))] [2,5,6] [2]) (.cond (.t 6) (.seq (.reg false [.V 10 (.fa 3 (.t 2)),.V 11 (.ld none (.t 10)),.V 4 (.asg (.t 11))] [4] []) .ret) (.seq (.reg false [.V 13 (.fa 2 (.t 2)),.V 14 (.ld none (.t 13)),.V 15 (.bin .eql (.t 5) (.t 14)),.V 12 (.asg (.t 15))] [2,12] [2]) (.cond (.t 12) (.seq (.reg false [.V 16 (.fa 3 (.t 2)),.V 17 (.ld none (.t 16)),.V 18 (.un .neg (.t 17)),.V 4 (.asg (.t 18))] [4] []) .ret) .skip)))))) (.seq (.reg false [.V 4 (.asg (.c (.int .i64 0)))] [4] []) .ret))) }
noncomputable def impl_Entry_change_D : List (Nat × Callee) := []
def impl_Entry_change_H : List (Nat × ET) := []
noncomputable def impl_Entry_change_c : Callee := mkCallee impl_Entry_change_D impl_Entry_change_H impl_Entry_change_ir [.d T_Entry,.d (.one .str)] [.d (.one (.int .i64))] []
noncomputable def impl_Entry_change (a0 : T_Entry.ty) (a1 : List UInt8) : Option (Int) := impl_Entry_change_c.f (a0,a1,())
theorem impl_Entry_change_eq (a0 : T_Entry.ty) (a1 : List UInt8) : impl_Entry_change a0 a1 =
 if (a1 == a0.2.1) then
  some a0.2.2.2.1
 else
  if (a1 == a0.2.2.1) then
   some (IntKind.i64.wrap (0 - a0.2.2.2.1))
  else
   some 0 :=
 (mk_f _ _ _ _ _ _ _ 4000).trans (by kernel_rfl)
def impl_FirstBelow_k0 : C :=
 .seq (.reg false [.V 20 (.bin .lss (.t 19) (.t 18))] [1,6,17,18,19,20] []) (.seq (.cond (.t 20) .skip (.exit 0)) (.seq (.block 1 (.seq (.reg false [.V 21 (.mv (.t 19)),.V 22 (.ia 4 (.t 17) (.t 19)),.V 23 (.ld (some 4) (.t 22)),.W 8 (.alloc 4 (.agg [.int .i64 0,.str [],.str [],.int .i64 0])),.V 7 (.asg (.t 21)),⟨none,true,.sto 4 (.t 8) (.t 23),none,false,[]⟩] [1,6,7,8,17,18,19] [8]) (.seq (.reg false [.V 24 (.mv (.t 6)),.V 25 (.ld (some 4) (.t 8)),.V 26 (.mv (.t 1)),.V 27 (.call (.c (.fn 622 [])) [.t 25,.t 26]),.V 28 (.bin .add (.t 24) (.t 27)),.V 6 (.asg (.t 28))] [1,6,7,17,18,19] []) (.seq (.reg false [.V 29 (.mv (.t 6)),.V 30 (.bin .lss (.t 29) (.c (.int .i64 0)))] [1,6,7,17,18,19,30] []) (.cond (.t 30) (.seq (.reg false [.V 31 (.mv (.t 7)),.V 4 (.asg (.t 31)),.V 5 (.asg (.c (.int .i64 0)))] [4,5] []) .ret) .skip))))) (.reg false [.V 32 (.bin .add (.t 19) (.c (.int .i64 1))),.V 19 (.mv (.t 32))] [1,6,17,18,19] [])))
def impl_FirstBelow_k1 : C :=
 .norm [1,6,17,18,19] [] impl_FirstBelow_k0
def impl_FirstBelow_k2 : C :=
 .seq (.reg false [.V 4 (.asg (.c (.int .i64 0))),.V 5 (.asg (.c (.int .i64 3)))] [4,5] []) .ret
def impl_FirstBelow_k3 : C :=
 .seq (.reg false [.V 6 (.asg (.c (.int .i64 0)))] [0,1,6] []) (.seq (.seq (.reg false [.V 17 (.mv (.t 0)),.V 18 (.len (.t 17)),.V 19 (.mv (.c (.int .i64 0)))] [1,6,17,18,19] []) (.block 0 (.loop impl_FirstBelow_k1))) impl_FirstBelow_k2)
def impl_FirstBelow_ir : Fn := { np := 2,io := [],res := [.t 4,.t 5],own := [false,false],body :=
 (.seq (.reg false [.V 4 (.asg (.c (.int .i64 0))),.V 5 (.asg (.c (.int .i64 0)))] [0,1] []) (.seq (.seq (.reg false [.V 9 (.mv (.t 0)),.V 10 (.call (.c (.fn 213 [])) [.t 9]),.V 11 (.un .not (.t 10)),.V 12 (.mv (.t 11)),.G 13 (.mv (.t 1)) 3 false,.G 14 (.call (.c (.fn 24 [])) [.t 13]) 3 false,.G 15 (.un .not (.t 14)) 3 false,.V 16 (.pick (.t 12) (.c (.bool true)) (.t 15))] [0,1,16] []) (.cond (.t 16) (.seq (.reg false [.V 4 (.asg (.c (.int .i64 0))),.V 5 (.asg (.c (.int .i64 1)))] [4,5] []) .ret) .skip)) (.norm [0,1] [] impl_FirstBelow_k3))) }
noncomputable def impl_FirstBelow_D : List (Nat × Callee) := [(24,impl_IsName_c),(213,impl_ValidBook_c),(622,impl_Entry_change_c)]
def impl_FirstBelow_H : List (Nat × ET) := [(9,T_Entry),(17,T_Entry)]
noncomputable def impl_FirstBelow_c : Callee := mkCallee impl_FirstBelow_D impl_FirstBelow_H impl_FirstBelow_ir [.d (.one (.sl T_Entry)),.d (.one .str)] [.d (.one (.int .i64)),.d (.one (.int .i64))] []
noncomputable def impl_FirstBelow (a0 : List T_Entry.ty) (a1 : List UInt8) : Option (Int × Int) := impl_FirstBelow_c.f (a0,a1,())
noncomputable def impl_FirstBelow_p0  (v0 : List T_Entry.ty) (v1 : List UInt8) : Option (Int × Int) :=
 goL impl_FirstBelow_D impl_FirstBelow_H (vleave impl_FirstBelow_ir [.d (.one (.sl T_Entry)),.d (.one .str)] [.d (.one (.int .i64)),.d (.one (.int .i64))] [] []) [.c impl_FirstBelow_k3]
  ⟨[(0,.sl T_Entry v0),(1,.str v1)],[]⟩
noncomputable def impl_FirstBelow_p1  (v1 : List UInt8) (v6 : Int) (v17 : List T_Entry.ty) (v18 : Int) (v19 : Int) : Option (Int × Int) :=
 goL impl_FirstBelow_D impl_FirstBelow_H (vleave impl_FirstBelow_ir [.d (.one (.sl T_Entry)),.d (.one .str)] [.d (.one (.int .i64)),.d (.one (.int .i64))] [] []) [.c impl_FirstBelow_k0,.l impl_FirstBelow_k1,.e 0,.c impl_FirstBelow_k2]
  ⟨[(1,.str v1),(6,.int .i64 v6),(17,.sl T_Entry v17),(18,.int .i64 v18),(19,.int .i64 v19)],[]⟩
theorem impl_FirstBelow_eq (a0 : List T_Entry.ty) (a1 : List UInt8) : impl_FirstBelow a0 a1 =
 (impl_ValidBook a0).bind fun x1 =>
  if (!x1) then
   some (0,1)
  else
   (impl_IsName a1).bind fun x2 =>
    if (!x2) then
     some (0,1)
    else
     impl_FirstBelow_p0 a0 a1 :=
 (mk_f _ _ _ _ _ _ _ 4000).trans (by kernel_rfl)
theorem impl_FirstBelow_p0_eq  (v0 : List T_Entry.ty) (v1 : List UInt8) : impl_FirstBelow_p0 v0 v1 =
 impl_FirstBelow_p1 v1 0 v0 (v0.length : Int) 0 :=
 (goL_dn _ _ _ 4000 _ _).trans (by kernel_rfl)
theorem impl_FirstBelow_p1_eq  (v1 : List UInt8) (v6 : Int) (v17 : List T_Entry.ty) (v18 : Int) (v19 : Int) : impl_FirstBelow_p1 v1 v6 v17 v18 v19 =
 if decide (v19 < v18) then
  if decide (0 ≤ v19) then
   (v17[v19.toNat]?).bind fun x1 =>
    (impl_Entry_change x1 v1).bind fun x2 =>
     if decide (IntKind.i64.wrap (v6 + x2) < 0) then
      some (v19,0)
     else
      impl_FirstBelow_p1 v1 (IntKind.i64.wrap (v6 + x2)) v17 v18 (IntKind.i64.wrap (v19 + 1))
  else
   none
 else
  some (0,3) :=
 (goL_dn _ _ _ 4000 _ _).trans (by kernel_rfl)
noncomputable def strconv_FormatInt_c : Callee := formatIntC
noncomputable def strconv_FormatInt (a0 : Int) (a1 : Int) : Option (List UInt8) := strconv_FormatInt_c.f (a0,a1,())
theorem strconv_FormatInt_eq (a0 : Int) (a1 : Int) : strconv_FormatInt a0 a1 = if decide (a1 = 10) && (decide (-9223372036854775808 ≤ a0) && decide (a0 ≤ 9223372036854775807)) then some (Lib.itoa a0) else none := rfl
def impl_Decimal_ir : Fn := { np := 1,io := [],res := [.t 2],own := [false],body :=
 (.seq (.reg false [.V 2 (.asg (.c (.str [])))] [0] []) (.seq (.reg false [.V 3 (.mv (.t 0)),.V 4 (.call (.c (.fn 864 [])) [.t 3,.c (.int .i64 10)]),.V 2 (.asg (.t 4))] [2] []) .ret)) }
noncomputable def impl_Decimal_D : List (Nat × Callee) := [(864,strconv_FormatInt_c)]
def impl_Decimal_H : List (Nat × ET) := []
noncomputable def impl_Decimal_c : Callee := mkCallee impl_Decimal_D impl_Decimal_H impl_Decimal_ir [.d (.one (.int .i64))] [.d (.one .str)] []
noncomputable def impl_Decimal (a0 : Int) : Option (List UInt8) := impl_Decimal_c.f (a0,())
theorem impl_Decimal_eq (a0 : Int) : impl_Decimal a0 =
 (strconv_FormatInt a0 10).bind fun x1 =>
  some x1 :=
 (mk_f _ _ _ _ _ _ _ 4000).trans (by kernel_rfl)
def impl_TradeProblems_k0 : C :=
 .seq (.reg false [.V 27 (.bin .lss (.t 26) (.t 25))] [1,4,24,25,26,27] [1,4,5,2000,2001,2003,2004,2006,2007]) (.seq (.cond (.t 27) .skip (.exit 0)) (.seq (.block 1 (.seq (.reg false [.V 28 (.ia 1 (.t 24) (.t 26)),.V 29 (.ld none (.t 28)),.W 8 (.asg (.t 29))] [1,4,8,24,25,26] [1,4,5,8,2000,2001,2003,2004,2006,2007]) (.reg true [.V 30 (.mv (.t 4)),.V 31 (.fa 6 (.t 1)),.V 32 (.ld none (.t 31)),.V 33 (.mv (.t 8)),.V 34 (.ia 1 (.t 33) (.c (.int .i64 0))),.V 35 (.ld none (.t 34)),.V 36 (.ia 5 (.t 32) (.t 35)),.V 37 (.fa 0 (.t 36)),.V 38 (.ld none (.t 37)),.V 39 (.fa 6 (.t 1)),.V 40 (.ld none (.t 39)),.V 41 (.mv (.t 8)),.V 42 (.ia 1 (.t 41) (.c (.int .i64 1))),.V 43 (.ld none (.t 42)),.V 44 (.ia 5 (.t 40) (.t 43)),.V 45 (.fa 0 (.t 44)),.V 46 (.ld none (.t 45)),.V 47 (.build [.int .i64 0,.str [],.str []] [(0,1,.c (.int .i64 4)),(1,1,.t 38),(2,1,.t 46)]),.V 48 (.bsl 3 (.agg [.int .i64 0,.str [],.str []]) 1 [(0,.t 47)]),.W 49 (.app 3 40 (.t 30) (.t 48)),.W 4 (.asg (.t 49))] [1,4,24,25,26] [1,4,5,2000,2001,2003,2004,2006,2007]))) (.reg false [.V 50 (.bin .add (.t 26) (.c (.int .i64 1))),.V 26 (.mv (.t 50))] [1,4,24,25,26] [1,4,5,2000,2001,2003,2004,2006,2007])))
def impl_TradeProblems_k1 : C :=
 .norm [1,4,24,25,26] [1,4,5,2000,2001,2003,2004,2006,2007] impl_TradeProblems_k0
def impl_TradeProblems_k2 : C :=
 .seq (.reg false [.V 66 (.bin .lss (.t 65) (.t 64))] [4,9,11,63,64,65,66] [4]) (.seq (.cond (.t 66) .skip (.exit 2)) (.seq (.block 3 (.seq (.reg false [.V 67 (.ia 4 (.t 63) (.t 65)),.V 68 (.ld (some 4) (.t 67)),.W 13 (.alloc 4 (.agg [.int .i64 0,.str [],.str [],.int .i64 0])),⟨none,true,.sto 4 (.t 13) (.t 68),none,false,[]⟩] [4,9,11,13,63,64,65] [4,13]) (.reg false [.V 69 (.mv (.t 11)),.V 70 (.ld (some 4) (.t 13)),.V 71 (.call (.c (.fn 622 [])) [.t 70,.c (.str [99,97,115,104])]),.V 72 (.bin .add (.t 69) (.t 71)),.V 11 (.asg (.t 72))] [4,9,11,63,64,65] [4]))) (.reg false [.V 73 (.bin .add (.t 65) (.c (.int .i64 1))),.V 65 (.mv (.t 73))] [4,9,11,63,64,65] [4])))
def impl_TradeProblems_k3 : C :=
 .norm [4,9,11,63,64,65] [4] impl_TradeProblems_k2
def impl_TradeProblems_k4 : C :=
 .reg false [.V 74 (.mv (.t 4)),.V 75 (.mv (.t 9)),.V 76 (.call (.c (.fn 524 [])) [.t 75]),.V 77 (.mv (.t 11)),.V 78 (.call (.c (.fn 524 [])) [.t 77]),.V 79 (.build [.int .i64 0,.str [],.str []] [(0,1,.c (.int .i64 5)),(1,1,.t 76),(2,1,.t 78)]),.V 80 (.bsl 3 (.agg [.int .i64 0,.str [],.str []]) 1 [(0,.t 79)]),.W 81 (.app 3 40 (.t 74) (.t 80)),.W 4 (.asg (.t 81))] [4] [4]
def impl_TradeProblems_k5 : C :=
 .seq (.reg false [.V 82 (.mv (.t 4)),.W 2 (.asg (.t 82)),.V 3 (.asg (.c (.int .i64 0)))] [2,3] [2,4]) .ret
def impl_TradeProblems_k6 : C :=
 .seq (.seq (.reg false [.V 52 (.fa 7 (.t 1)),.V 53 (.ld none (.t 52)),.V 54 (.call (.c (.fn 210 [])) [.t 53,.c (.str [99,97,115,104])]),.V 51 (.mv (.t 54)),.V 55 (.ext (.t 51) 0),.V 56 (.ext (.t 51) 1),.V 9 (.asg (.t 55)),.V 10 (.asg (.t 56))] [1,4,9,10] [1,4,2000,2001,2003,2004,2006,2007]) (.seq (.reg false [.V 57 (.mv (.t 10)),.V 58 (.bin .eql (.t 57) (.c (.int .i64 0)))] [1,4,9,58] [1,4,2000,2001,2003,2004,2006,2007]) (.cond (.t 58) (.seq (.reg false [.V 11 (.asg (.c (.int .i64 0)))] [1,4,9,11] [1,4,2000,2001,2003,2004,2006,2007]) (.seq (.seq (.reg false [.V 59 (.fa 7 (.t 1)),.V 60 (.ld none (.t 59)),.V 61 (.mv (.t 9)),.V 62 (.bin .add (.t 61) (.c (.int .i64 1))),.V 63 (.slc 4 (.t 60) none (some (.t 62))),.V 64 (.len (.t 63)),.V 65 (.mv (.c (.int .i64 0)))] [4,9,11,63,64,65] [4]) (.block 2 (.loop impl_TradeProblems_k3))) impl_TradeProblems_k4)) .skip))) impl_TradeProblems_k5
def impl_TradeProblems_ir : Fn := { np := 1,io := [],res := [.t 2,.t 3],own := [true,false],body :=
 (.seq (.reg false [.W 1 (.box 8 (.t 0)),.W 2 (.asg (.c (.nils 3))),.V 3 (.asg (.c (.int .i64 0)))] [1] [1,2000,2001,2003,2004,2006,2007]) (.seq (.seq (.reg false [.V 14 (.ld (some 8) (.t 1)),.V 15 (.call (.c (.fn 201 [])) [.t 14]),.V 16 (.un .not (.t 15))] [1,16] [1,2000,2001,2003,2004,2006,2007]) (.cond (.t 16) (.seq (.reg false [.W 2 (.asg (.c (.nils 3))),.V 3 (.asg (.c (.int .i64 1)))] [2,3] [2,4]) .ret) .skip)) (.seq (.reg false [.V 17 (.bsl 3 (.agg [.int .i64 0,.str [],.str []]) 0 []),.W 4 (.asg (.t 17))] [1,4] [1,4,2000,2001,2003,2004,2006,2007]) (.seq (.reg false [.V 19 (.fa 6 (.t 1)),.V 20 (.ld none (.t 19)),.V 21 (.call (.c (.fn 711 [])) [.t 20]),.V 18 (.mv (.t 21)),.V 22 (.ext (.t 18) 0),.V 23 (.ext (.t 18) 1),.W 5 (.asg (.t 22)),.V 6 (.asg (.t 23))] [1,4,5] [1,4,5,2000,2001,2003,2004,2006,2007]) (.seq (.seq (.reg false [.V 24 (.mv (.t 5)),.V 25 (.len (.t 24)),.V 26 (.mv (.c (.int .i64 0)))] [1,4,24,25,26] [1,4,5,2000,2001,2003,2004,2006,2007]) (.block 0 (.loop impl_TradeProblems_k1))) impl_TradeProblems_k6))))) }
noncomputable def impl_TradeProblems_D : List (Nat × Callee) := [(201,impl_ValidShop_c),(210,impl_FirstBelow_c),(524,impl_Decimal_c),(622,impl_Entry_change_c),(711,impl_ClashesOf_c)]
def impl_TradeProblems_H : List (Nat × ET) := [(2,T_Problem),(4,T_Problem),(5,(.one (.sl (.one (.int .i64))))),(8,(.one (.int .i64))),(17,T_Problem),(20,T_Paper),(22,(.one (.sl (.one (.int .i64))))),(24,(.one (.sl (.one (.int .i64))))),(29,(.one (.int .i64))),(30,T_Problem),(32,T_Paper),(33,(.one (.int .i64))),(40,T_Paper),(41,(.one (.int .i64))),(48,T_Problem),(49,T_Problem),(53,T_Entry),(60,T_Entry),(63,T_Entry),(74,T_Problem),(80,T_Problem),(81,T_Problem),(82,T_Problem)]
noncomputable def impl_TradeProblems_c : Callee := mkCallee impl_TradeProblems_D impl_TradeProblems_H impl_TradeProblems_ir [.d T_Shop] [.tok T_Problem,.d (.one (.int .i64))] []
noncomputable def impl_TradeProblems (a0 : T_Shop.ty) : Option (List T_Problem.ty × Int) := impl_TradeProblems_c.f (a0,())
noncomputable def impl_TradeProblems_p0  (v24 : List (List Int)) (v25 : Int) (v26 : Int) (r1_0 : List T_Arc.ty) (r1_1 : List T_Neck.ty) (r1_2 : Int) (r1_3 : List T_Step.ty) (r1_4 : List Int) (r1_5 : Int) (r1_6 : List T_Paper.ty) (r1_7 : List T_Entry.ty) (r4 : List T_Problem.ty) : Option (List T_Problem.ty × Int) :=
 goL impl_TradeProblems_D impl_TradeProblems_H (vleave impl_TradeProblems_ir [.d T_Shop] [.tok T_Problem,.d (.one (.int .i64))] [] []) [.c impl_TradeProblems_k0,.l impl_TradeProblems_k1,.e 0,.c impl_TradeProblems_k6]
  ⟨[(1,.loc 1 0 0),(4,.view 4 0 r4.length),(24,.sl (.one (.sl (.one (.int .i64)))) v24),(25,.int .i64 v25),(26,.int .i64 v26)],[(1,some (.var 8 (.agg [.sl T_Arc r1_0,.sl T_Neck r1_1,.int .i64 r1_2,.sl T_Step r1_3,.sl (.one (.int .i64)) r1_4,.int .i64 r1_5,.sl T_Paper r1_6,.sl T_Entry r1_7]))),(4,some (.sl T_Problem r4)),(5,none),(2000,none),(2001,none),(2003,none),(2004,none),(2006,none),(2007,none)]⟩
noncomputable def impl_TradeProblems_p1  (v9 : Int) (v11 : Int) (v63 : List T_Entry.ty) (v64 : Int) (v65 : Int) (r4 : List T_Problem.ty) : Option (List T_Problem.ty × Int) :=
 goL impl_TradeProblems_D impl_TradeProblems_H (vleave impl_TradeProblems_ir [.d T_Shop] [.tok T_Problem,.d (.one (.int .i64))] [] []) [.c impl_TradeProblems_k2,.l impl_TradeProblems_k3,.e 2,.c impl_TradeProblems_k4,.c impl_TradeProblems_k5]
  ⟨[(4,.view 4 0 r4.length),(9,.int .i64 v9),(11,.int .i64 v11),(63,.sl T_Entry v63),(64,.int .i64 v64),(65,.int .i64 v65)],[(4,some (.sl T_Problem r4))]⟩
theorem impl_TradeProblems_eq (a0 : T_Shop.ty) : impl_TradeProblems a0 =
 (impl_ValidShop a0).bind fun x1 =>
  if (!x1) then
   some ([],1)
  else
   (impl_ClashesOf a0.2.2.2.2.2.2.1).bind fun x2 =>
    impl_TradeProblems_p0 x2.1 (x2.1.length : Int) 0 a0.1 a0.2.1 a0.2.2.1 a0.2.2.2.1 a0.2.2.2.2.1 a0.2.2.2.2.2.1 a0.2.2.2.2.2.2.1 a0.2.2.2.2.2.2.2.1 [] :=
 (mk_f _ _ _ _ _ _ _ 4000).trans (by kernel_rfl)
theorem impl_TradeProblems_p0_eq  (v24 : List (List Int)) (v25 : Int) (v26 : Int) (r1_0 : List T_Arc.ty) (r1_1 : List T_Neck.ty) (r1_2 : Int) (r1_3 : List T_Step.ty) (r1_4 : List Int) (r1_5 : Int) (r1_6 : List T_Paper.ty) (r1_7 : List T_Entry.ty) (r4 : List T_Problem.ty) : impl_TradeProblems_p0 v24 v25 v26 r1_0 r1_1 r1_2 r1_3 r1_4 r1_5 r1_6 r1_7 r4 =
 if decide (v26 < v25) then
  if decide (0 ≤ v26) then
   (v24[v26.toNat]?).bind fun x1 =>
    (x1[0]?).bind fun x2 =>
     if decide (0 ≤ x2) then
      (r1_6[x2.toNat]?).bind fun x3 =>
       (x1[1]?).bind fun x4 =>
        if decide (0 ≤ x4) then
         (r1_6[x4.toNat]?).bind fun x5 =>
          if decide (r4.length + 1 < lim) then
           impl_TradeProblems_p0 v24 v25 (IntKind.i64.wrap (v26 + 1)) r1_0 r1_1 r1_2 r1_3 r1_4 r1_5 r1_6 r1_7 ((r4.take r4.length) ++ [(4,x3.1,x5.1,())])
          else
           none
        else
         none
     else
      none
  else
   none
 else
  (impl_FirstBelow r1_7 [99,97,115,104]).bind fun x6 =>
   if (x6.2 == 0) then
    if decide (0 ≤ IntKind.i64.wrap (x6.1 + 1)) && decide (IntKind.i64.wrap (x6.1 + 1) ≤ (r1_7.length : Int)) then
     impl_TradeProblems_p1 x6.1 0 (r1_7.take ((IntKind.i64.wrap (x6.1 + 1)).toNat)) ((r1_7.take ((IntKind.i64.wrap (x6.1 + 1)).toNat)).length : Int) 0 r4
    else
     none
   else
    some ((r4.take r4.length),0) :=
 (goL_dn _ _ _ 4000 _ _).trans (by kernel_rfl)
theorem impl_TradeProblems_p1_eq  (v9 : Int) (v11 : Int) (v63 : List T_Entry.ty) (v64 : Int) (v65 : Int) (r4 : List T_Problem.ty) : impl_TradeProblems_p1 v9 v11 v63 v64 v65 r4 =
 if decide (v65 < v64) then
  if decide (0 ≤ v65) then
   (v63[v65.toNat]?).bind fun x1 =>
    (impl_Entry_change x1 [99,97,115,104]).bind fun x2 =>
     impl_TradeProblems_p1 v9 (IntKind.i64.wrap (v11 + x2)) v63 v64 (IntKind.i64.wrap (v65 + 1)) r4
  else
   none
 else
  (impl_Decimal v9).bind fun x3 =>
   (impl_Decimal v11).bind fun x4 =>
    if decide (r4.length + 1 < lim) then
     some ((((r4.take r4.length) ++ [(5,x3,x4,())]).take (((r4.take r4.length) ++ [(5,x3,x4,())]).length)),0)
    else
     none :=
 (goL_dn _ _ _ 4000 _ _).trans (by kernel_rfl)
def laws_eqProblem_ir : Fn := { np := 2,io := [],res := [.t 4],own := [false],body :=
 (.seq (.reg false [.W 2 (.box 3 (.t 0)),.W 3 (.box 3 (.t 1)),.V 4 (.asg (.c (.bool false)))] [2,3] [2,3]) (.seq (.seq (.reg false [.V 5 (.fa 0 (.t 2)),.V 6 (.ld none (.t 5)),.V 7 (.fa 0 (.t 3)),.V 8 (.ld none (.t 7)),.V 9 (.bin .neq (.t 6) (.t 8))] [2,3,9] [2,3]) (.cond (.t 9) (.seq (.reg false [.V 4 (.asg (.c (.bool false)))] [4] []) .ret) .skip)) (.seq (.seq (.reg false [.V 10 (.fa 1 (.t 2)),.V 11 (.ld none (.t 10)),.V 12 (.fa 1 (.t 3)),.V 13 (.ld none (.t 12)),.V 14 (.bin .neq (.t 11) (.t 13))] [2,3,14] [2,3]) (.cond (.t 14) (.seq (.reg false [.V 4 (.asg (.c (.bool false)))] [4] []) .ret) .skip)) (.seq (.seq (.reg false [.V 15 (.fa 2 (.t 2)),.V 16 (.ld none (.t 15)),.V 17 (.fa 2 (.t 3)),.V 18 (.ld none (.t 17)),.V 19 (.bin .neq (.t 16) (.t 18))] [19] []) (.cond (.t 19) (.seq (.reg false [.V 4 (.asg (.c (.bool false)))] [4] []) .ret) .skip)) (.seq (.reg false [.V 4 (.asg (.c (.bool true)))] [4] []) .ret))))) }
noncomputable def laws_eqProblem_D : List (Nat × Callee) := []
def laws_eqProblem_H : List (Nat × ET) := []
noncomputable def laws_eqProblem_c : Callee := mkCallee laws_eqProblem_D laws_eqProblem_H laws_eqProblem_ir [.d T_Problem,.d T_Problem] [.d (.one .bool)] []
noncomputable def laws_eqProblem (a0 : T_Problem.ty) (a1 : T_Problem.ty) : Option (Bool) := laws_eqProblem_c.f (a0,a1,())
theorem laws_eqProblem_eq (a0 : T_Problem.ty) (a1 : T_Problem.ty) : laws_eqProblem a0 a1 =
 if (a0.1 != a1.1) then
  some false
 else
  if (!(a0.2.1 == a1.2.1)) then
   some false
  else
   if (!(a0.2.2.1 == a1.2.2.1)) then
    some false
   else
    some true :=
 (mk_f _ _ _ _ _ _ _ 4000).trans (by kernel_rfl)
def laws_eqProblemS_k0 : C :=
 .seq (.seq (.reg false [.V 11 (.mv (.t 5)),.V 12 (.mv (.t 0)),.V 13 (.len (.t 12)),.V 14 (.bin .lss (.t 11) (.t 13))] [0,1,5,14] []) (.cond (.t 14) .skip (.exit 0))) (.seq (.block 1 (.seq (.reg true [.V 17 (.mv (.t 0)),.V 18 (.mv (.t 5)),.V 19 (.ia 3 (.t 17) (.t 18)),.V 20 (.ld (some 3) (.t 19)),.V 21 (.mv (.t 1)),.V 22 (.mv (.t 5)),.V 23 (.ia 3 (.t 21) (.t 22)),.V 24 (.ld (some 3) (.t 23)),.V 25 (.call (.c (.fn 39 [])) [.t 20,.t 24]),.V 26 (.un .not (.t 25))] [0,1,5,26] []) (.cond (.t 26) (.seq (.reg false [.V 4 (.asg (.c (.bool false)))] [4] []) .ret) .skip))) (.reg false [.V 15 (.mv (.t 5)),.V 16 (.bin .add (.t 15) (.c (.int .i64 1))),.V 5 (.asg (.t 16))] [0,1,5] []))
def laws_eqProblemS_k1 : C :=
 .norm [0,1,5] [] laws_eqProblemS_k0
def laws_eqProblemS_k2 : C :=
 .seq (.reg false [.V 4 (.asg (.c (.bool true)))] [4] []) .ret
def laws_eqProblemS_ir : Fn := { np := 2,io := [],res := [.t 4],own := [false],body :=
 (.seq (.reg false [.V 4 (.asg (.c (.bool false)))] [0,1] []) (.seq (.seq (.reg false [.V 6 (.mv (.t 0)),.V 7 (.len (.t 6)),.V 8 (.mv (.t 1)),.V 9 (.len (.t 8)),.V 10 (.bin .neq (.t 7) (.t 9))] [0,1,10] []) (.cond (.t 10) (.seq (.reg false [.V 4 (.asg (.c (.bool false)))] [4] []) .ret) .skip)) (.seq (.seq (.reg false [.V 5 (.asg (.c (.int .i64 0)))] [0,1,5] []) (.block 0 (.loop laws_eqProblemS_k1))) laws_eqProblemS_k2))) }
noncomputable def laws_eqProblemS_D : List (Nat × Callee) := [(39,laws_eqProblem_c)]
def laws_eqProblemS_H : List (Nat × ET) := [(6,T_Problem),(8,T_Problem),(12,T_Problem),(17,T_Problem),(21,T_Problem)]
noncomputable def laws_eqProblemS_c : Callee := mkCallee laws_eqProblemS_D laws_eqProblemS_H laws_eqProblemS_ir [.d (.one (.sl T_Problem)),.d (.one (.sl T_Problem))] [.d (.one .bool)] []
noncomputable def laws_eqProblemS (a0 : List T_Problem.ty) (a1 : List T_Problem.ty) : Option (Bool) := laws_eqProblemS_c.f (a0,a1,())
noncomputable def laws_eqProblemS_p0  (v0 : List T_Problem.ty) (v1 : List T_Problem.ty) (v5 : Int) : Option (Bool) :=
 goL laws_eqProblemS_D laws_eqProblemS_H (vleave laws_eqProblemS_ir [.d (.one (.sl T_Problem)),.d (.one (.sl T_Problem))] [.d (.one .bool)] [] []) [.c laws_eqProblemS_k0,.l laws_eqProblemS_k1,.e 0,.c laws_eqProblemS_k2]
  ⟨[(0,.sl T_Problem v0),(1,.sl T_Problem v1),(5,.int .i64 v5)],[]⟩
theorem laws_eqProblemS_eq (a0 : List T_Problem.ty) (a1 : List T_Problem.ty) : laws_eqProblemS a0 a1 =
 if ((a0.length : Int) != (a1.length : Int)) then
  some false
 else
  laws_eqProblemS_p0 a0 a1 0 :=
 (mk_f _ _ _ _ _ _ _ 4000).trans (by kernel_rfl)
theorem laws_eqProblemS_p0_eq  (v0 : List T_Problem.ty) (v1 : List T_Problem.ty) (v5 : Int) : laws_eqProblemS_p0 v0 v1 v5 =
 if decide (v5 < (v0.length : Int)) then
  if decide (0 ≤ v5) then
   (v0[v5.toNat]?).bind fun x1 =>
    if decide (0 ≤ v5) then
     (v1[v5.toNat]?).bind fun x2 =>
      (laws_eqProblem x1 x2).bind fun x3 =>
       if (!x3) then
        some false
       else
        laws_eqProblemS_p0 v0 v1 (IntKind.i64.wrap (v5 + 1))
    else
     none
  else
   none
 else
  some true :=
 (goL_dn _ _ _ 4000 _ _).trans (by kernel_rfl)
def laws_eqPoint_ir : Fn := { np := 2,io := [],res := [.t 4],own := [false],body :=
 (.seq (.reg false [.W 2 (.box 2 (.t 0)),.W 3 (.box 2 (.t 1)),.V 4 (.asg (.c (.bool false)))] [2,3] [2,3]) (.seq (.seq (.reg false [.V 5 (.fa 0 (.t 2)),.V 6 (.ld none (.t 5)),.V 7 (.fa 0 (.t 3)),.V 8 (.ld none (.t 7)),.V 9 (.bin .neq (.t 6) (.t 8))] [2,3,9] [2,3]) (.cond (.t 9) (.seq (.reg false [.V 4 (.asg (.c (.bool false)))] [4] []) .ret) .skip)) (.seq (.seq (.reg false [.V 10 (.fa 1 (.t 2)),.V 11 (.ld none (.t 10)),.V 12 (.fa 1 (.t 3)),.V 13 (.ld none (.t 12)),.V 14 (.bin .neq (.t 11) (.t 13))] [14] []) (.cond (.t 14) (.seq (.reg false [.V 4 (.asg (.c (.bool false)))] [4] []) .ret) .skip)) (.seq (.reg false [.V 4 (.asg (.c (.bool true)))] [4] []) .ret)))) }
noncomputable def laws_eqPoint_D : List (Nat × Callee) := []
def laws_eqPoint_H : List (Nat × ET) := []
noncomputable def laws_eqPoint_c : Callee := mkCallee laws_eqPoint_D laws_eqPoint_H laws_eqPoint_ir [.d T_Point,.d T_Point] [.d (.one .bool)] []
noncomputable def laws_eqPoint (a0 : T_Point.ty) (a1 : T_Point.ty) : Option (Bool) := laws_eqPoint_c.f (a0,a1,())
theorem laws_eqPoint_eq (a0 : T_Point.ty) (a1 : T_Point.ty) : laws_eqPoint a0 a1 =
 if (a0.1 != a1.1) then
  some false
 else
  if (a0.2.1 != a1.2.1) then
   some false
  else
   some true :=
 (mk_f _ _ _ _ _ _ _ 4000).trans (by kernel_rfl)
def laws_eqArc_ir : Fn := { np := 2,io := [],res := [.t 4],own := [false],body :=
 (.seq (.reg false [.W 2 (.box 6 (.t 0)),.W 3 (.box 6 (.t 1)),.V 4 (.asg (.c (.bool false)))] [2,3] [2,3]) (.seq (.seq (.reg false [.V 5 (.fa 0 (.t 2)),.V 6 (.ld (some 2) (.t 5)),.V 7 (.fa 0 (.t 3)),.V 8 (.ld (some 2) (.t 7)),.V 9 (.call (.c (.fn 1034 [])) [.t 6,.t 8]),.V 10 (.un .not (.t 9))] [2,3,10] [2,3]) (.cond (.t 10) (.seq (.reg false [.V 4 (.asg (.c (.bool false)))] [4] []) .ret) .skip)) (.seq (.seq (.reg false [.V 11 (.fa 2 (.t 2)),.V 12 (.ld (some 2) (.t 11)),.V 13 (.fa 2 (.t 3)),.V 14 (.ld (some 2) (.t 13)),.V 15 (.call (.c (.fn 1034 [])) [.t 12,.t 14]),.V 16 (.un .not (.t 15))] [2,3,16] [2,3]) (.cond (.t 16) (.seq (.reg false [.V 4 (.asg (.c (.bool false)))] [4] []) .ret) .skip)) (.seq (.seq (.reg false [.V 17 (.fa 4 (.t 2)),.V 18 (.ld (some 2) (.t 17)),.V 19 (.fa 4 (.t 3)),.V 20 (.ld (some 2) (.t 19)),.V 21 (.call (.c (.fn 1034 [])) [.t 18,.t 20]),.V 22 (.un .not (.t 21))] [22] []) (.cond (.t 22) (.seq (.reg false [.V 4 (.asg (.c (.bool false)))] [4] []) .ret) .skip)) (.seq (.reg false [.V 4 (.asg (.c (.bool true)))] [4] []) .ret))))) }
noncomputable def laws_eqArc_D : List (Nat × Callee) := [(1034,laws_eqPoint_c)]
def laws_eqArc_H : List (Nat × ET) := []
noncomputable def laws_eqArc_c : Callee := mkCallee laws_eqArc_D laws_eqArc_H laws_eqArc_ir [.d T_Arc,.d T_Arc] [.d (.one .bool)] []
noncomputable def laws_eqArc (a0 : T_Arc.ty) (a1 : T_Arc.ty) : Option (Bool) := laws_eqArc_c.f (a0,a1,())
theorem laws_eqArc_eq (a0 : T_Arc.ty) (a1 : T_Arc.ty) : laws_eqArc a0 a1 =
 (laws_eqPoint (a0.1,a0.2.1,()) (a1.1,a1.2.1,())).bind fun x1 =>
  if (!x1) then
   some false
  else
   (laws_eqPoint (a0.2.2.1,a0.2.2.2.1,()) (a1.2.2.1,a1.2.2.2.1,())).bind fun x2 =>
    if (!x2) then
     some false
    else
     (laws_eqPoint (a0.2.2.2.2.1,a0.2.2.2.2.2.1,()) (a1.2.2.2.2.1,a1.2.2.2.2.2.1,())).bind fun x3 =>
      if (!x3) then
       some false
      else
       some true :=
 (mk_f _ _ _ _ _ _ _ 4000).trans (by kernel_rfl)
def laws_eqArcS_k0 : C :=
 .seq (.seq (.reg false [.V 11 (.mv (.t 5)),.V 12 (.mv (.t 0)),.V 13 (.len (.t 12)),.V 14 (.bin .lss (.t 11) (.t 13))] [0,1,5,14] []) (.cond (.t 14) .skip (.exit 0))) (.seq (.block 1 (.seq (.reg true [.V 17 (.mv (.t 0)),.V 18 (.mv (.t 5)),.V 19 (.ia 6 (.t 17) (.t 18)),.V 20 (.ld (some 6) (.t 19)),.V 21 (.mv (.t 1)),.V 22 (.mv (.t 5)),.V 23 (.ia 6 (.t 21) (.t 22)),.V 24 (.ld (some 6) (.t 23)),.V 25 (.call (.c (.fn 901 [])) [.t 20,.t 24]),.V 26 (.un .not (.t 25))] [0,1,5,26] []) (.cond (.t 26) (.seq (.reg false [.V 4 (.asg (.c (.bool false)))] [4] []) .ret) .skip))) (.reg false [.V 15 (.mv (.t 5)),.V 16 (.bin .add (.t 15) (.c (.int .i64 1))),.V 5 (.asg (.t 16))] [0,1,5] []))
def laws_eqArcS_k1 : C :=
 .norm [0,1,5] [] laws_eqArcS_k0
def laws_eqArcS_k2 : C :=
 .seq (.reg false [.V 4 (.asg (.c (.bool true)))] [4] []) .ret
def laws_eqArcS_ir : Fn := { np := 2,io := [],res := [.t 4],own := [false],body :=
 (.seq (.reg false [.V 4 (.asg (.c (.bool false)))] [0,1] []) (.seq (.seq (.reg false [.V 6 (.mv (.t 0)),.V 7 (.len (.t 6)),.V 8 (.mv (.t 1)),.V 9 (.len (.t 8)),.V 10 (.bin .neq (.t 7) (.t 9))] [0,1,10] []) (.cond (.t 10) (.seq (.reg false [.V 4 (.asg (.c (.bool false)))] [4] []) .ret) .skip)) (.seq (.seq (.reg false [.V 5 (.asg (.c (.int .i64 0)))] [0,1,5] []) (.block 0 (.loop laws_eqArcS_k1))) laws_eqArcS_k2))) }
noncomputable def laws_eqArcS_D : List (Nat × Callee) := [(901,laws_eqArc_c)]
def laws_eqArcS_H : List (Nat × ET) := [(6,T_Arc),(8,T_Arc),(12,T_Arc),(17,T_Arc),(21,T_Arc)]
noncomputable def laws_eqArcS_c : Callee := mkCallee laws_eqArcS_D laws_eqArcS_H laws_eqArcS_ir [.d (.one (.sl T_Arc)),.d (.one (.sl T_Arc))] [.d (.one .bool)] []
noncomputable def laws_eqArcS (a0 : List T_Arc.ty) (a1 : List T_Arc.ty) : Option (Bool) := laws_eqArcS_c.f (a0,a1,())
noncomputable def laws_eqArcS_p0  (v0 : List T_Arc.ty) (v1 : List T_Arc.ty) (v5 : Int) : Option (Bool) :=
 goL laws_eqArcS_D laws_eqArcS_H (vleave laws_eqArcS_ir [.d (.one (.sl T_Arc)),.d (.one (.sl T_Arc))] [.d (.one .bool)] [] []) [.c laws_eqArcS_k0,.l laws_eqArcS_k1,.e 0,.c laws_eqArcS_k2]
  ⟨[(0,.sl T_Arc v0),(1,.sl T_Arc v1),(5,.int .i64 v5)],[]⟩
theorem laws_eqArcS_eq (a0 : List T_Arc.ty) (a1 : List T_Arc.ty) : laws_eqArcS a0 a1 =
 if ((a0.length : Int) != (a1.length : Int)) then
  some false
 else
  laws_eqArcS_p0 a0 a1 0 :=
 (mk_f _ _ _ _ _ _ _ 4000).trans (by kernel_rfl)
theorem laws_eqArcS_p0_eq  (v0 : List T_Arc.ty) (v1 : List T_Arc.ty) (v5 : Int) : laws_eqArcS_p0 v0 v1 v5 =
 if decide (v5 < (v0.length : Int)) then
  if decide (0 ≤ v5) then
   (v0[v5.toNat]?).bind fun x1 =>
    if decide (0 ≤ v5) then
     (v1[v5.toNat]?).bind fun x2 =>
      (laws_eqArc x1 x2).bind fun x3 =>
       if (!x3) then
        some false
       else
        laws_eqArcS_p0 v0 v1 (IntKind.i64.wrap (v5 + 1))
    else
     none
  else
   none
 else
  some true :=
 (goL_dn _ _ _ 4000 _ _).trans (by kernel_rfl)
def laws_eqCord_ir : Fn := { np := 2,io := [],res := [.t 4],own := [false],body :=
 (.seq (.reg false [.W 2 (.box 4 (.t 0)),.W 3 (.box 4 (.t 1)),.V 4 (.asg (.c (.bool false)))] [2,3] [2,3]) (.seq (.seq (.reg false [.V 5 (.fa 0 (.t 2)),.V 6 (.ld none (.t 5)),.V 7 (.fa 0 (.t 3)),.V 8 (.ld none (.t 7)),.V 9 (.bin .neq (.t 6) (.t 8))] [2,3,9] [2,3]) (.cond (.t 9) (.seq (.reg false [.V 4 (.asg (.c (.bool false)))] [4] []) .ret) .skip)) (.seq (.seq (.reg false [.V 10 (.fa 1 (.t 2)),.V 11 (.ld none (.t 10)),.V 12 (.fa 1 (.t 3)),.V 13 (.ld none (.t 12)),.V 14 (.bin .neq (.t 11) (.t 13))] [2,3,14] [2,3]) (.cond (.t 14) (.seq (.reg false [.V 4 (.asg (.c (.bool false)))] [4] []) .ret) .skip)) (.seq (.seq (.reg false [.V 15 (.fa 2 (.t 2)),.V 16 (.ld none (.t 15)),.V 17 (.fa 2 (.t 3)),.V 18 (.ld none (.t 17)),.V 19 (.bin .neq (.t 16) (.t 18))] [2,3,19] [2,3]) (.cond (.t 19) (.seq (.reg false [.V 4 (.asg (.c (.bool false)))] [4] []) .ret) .skip)) (.seq (.seq (.reg false [.V 20 (.fa 3 (.t 2)),.V 21 (.ld none (.t 20)),.V 22 (.fa 3 (.t 3)),.V 23 (.ld none (.t 22)),.V 24 (.bin .neq (.t 21) (.t 23))] [24] []) (.cond (.t 24) (.seq (.reg false [.V 4 (.asg (.c (.bool false)))] [4] []) .ret) .skip)) (.seq (.reg false [.V 4 (.asg (.c (.bool true)))] [4] []) .ret)))))) }
noncomputable def laws_eqCord_D : List (Nat × Callee) := []
def laws_eqCord_H : List (Nat × ET) := []
noncomputable def laws_eqCord_c : Callee := mkCallee laws_eqCord_D laws_eqCord_H laws_eqCord_ir [.d T_Neck,.d T_Neck] [.d (.one .bool)] []
noncomputable def laws_eqCord (a0 : T_Neck.ty) (a1 : T_Neck.ty) : Option (Bool) := laws_eqCord_c.f (a0,a1,())
theorem laws_eqCord_eq (a0 : T_Neck.ty) (a1 : T_Neck.ty) : laws_eqCord a0 a1 =
 if (a0.1 != a1.1) then
  some false
 else
  if (a0.2.1 != a1.2.1) then
   some false
  else
   if (a0.2.2.1 != a1.2.2.1) then
    some false
   else
    if (a0.2.2.2.1 != a1.2.2.2.1) then
     some false
    else
     some true :=
 (mk_f _ _ _ _ _ _ _ 4000).trans (by kernel_rfl)
def laws_eqCordS_k0 : C :=
 .seq (.seq (.reg false [.V 11 (.mv (.t 5)),.V 12 (.mv (.t 0)),.V 13 (.len (.t 12)),.V 14 (.bin .lss (.t 11) (.t 13))] [0,1,5,14] []) (.cond (.t 14) .skip (.exit 0))) (.seq (.block 1 (.seq (.reg true [.V 17 (.mv (.t 0)),.V 18 (.mv (.t 5)),.V 19 (.ia 4 (.t 17) (.t 18)),.V 20 (.ld (some 4) (.t 19)),.V 21 (.mv (.t 1)),.V 22 (.mv (.t 5)),.V 23 (.ia 4 (.t 21) (.t 22)),.V 24 (.ld (some 4) (.t 23)),.V 25 (.call (.c (.fn 902 [])) [.t 20,.t 24]),.V 26 (.un .not (.t 25))] [0,1,5,26] []) (.cond (.t 26) (.seq (.reg false [.V 4 (.asg (.c (.bool false)))] [4] []) .ret) .skip))) (.reg false [.V 15 (.mv (.t 5)),.V 16 (.bin .add (.t 15) (.c (.int .i64 1))),.V 5 (.asg (.t 16))] [0,1,5] []))
def laws_eqCordS_k1 : C :=
 .norm [0,1,5] [] laws_eqCordS_k0
def laws_eqCordS_k2 : C :=
 .seq (.reg false [.V 4 (.asg (.c (.bool true)))] [4] []) .ret
def laws_eqCordS_ir : Fn := { np := 2,io := [],res := [.t 4],own := [false],body :=
 (.seq (.reg false [.V 4 (.asg (.c (.bool false)))] [0,1] []) (.seq (.seq (.reg false [.V 6 (.mv (.t 0)),.V 7 (.len (.t 6)),.V 8 (.mv (.t 1)),.V 9 (.len (.t 8)),.V 10 (.bin .neq (.t 7) (.t 9))] [0,1,10] []) (.cond (.t 10) (.seq (.reg false [.V 4 (.asg (.c (.bool false)))] [4] []) .ret) .skip)) (.seq (.seq (.reg false [.V 5 (.asg (.c (.int .i64 0)))] [0,1,5] []) (.block 0 (.loop laws_eqCordS_k1))) laws_eqCordS_k2))) }
noncomputable def laws_eqCordS_D : List (Nat × Callee) := [(902,laws_eqCord_c)]
def laws_eqCordS_H : List (Nat × ET) := [(6,T_Neck),(8,T_Neck),(12,T_Neck),(17,T_Neck),(21,T_Neck)]
noncomputable def laws_eqCordS_c : Callee := mkCallee laws_eqCordS_D laws_eqCordS_H laws_eqCordS_ir [.d (.one (.sl T_Neck)),.d (.one (.sl T_Neck))] [.d (.one .bool)] []
noncomputable def laws_eqCordS (a0 : List T_Neck.ty) (a1 : List T_Neck.ty) : Option (Bool) := laws_eqCordS_c.f (a0,a1,())
noncomputable def laws_eqCordS_p0  (v0 : List T_Neck.ty) (v1 : List T_Neck.ty) (v5 : Int) : Option (Bool) :=
 goL laws_eqCordS_D laws_eqCordS_H (vleave laws_eqCordS_ir [.d (.one (.sl T_Neck)),.d (.one (.sl T_Neck))] [.d (.one .bool)] [] []) [.c laws_eqCordS_k0,.l laws_eqCordS_k1,.e 0,.c laws_eqCordS_k2]
  ⟨[(0,.sl T_Neck v0),(1,.sl T_Neck v1),(5,.int .i64 v5)],[]⟩
theorem laws_eqCordS_eq (a0 : List T_Neck.ty) (a1 : List T_Neck.ty) : laws_eqCordS a0 a1 =
 if ((a0.length : Int) != (a1.length : Int)) then
  some false
 else
  laws_eqCordS_p0 a0 a1 0 :=
 (mk_f _ _ _ _ _ _ _ 4000).trans (by kernel_rfl)
theorem laws_eqCordS_p0_eq  (v0 : List T_Neck.ty) (v1 : List T_Neck.ty) (v5 : Int) : laws_eqCordS_p0 v0 v1 v5 =
 if decide (v5 < (v0.length : Int)) then
  if decide (0 ≤ v5) then
   (v0[v5.toNat]?).bind fun x1 =>
    if decide (0 ≤ v5) then
     (v1[v5.toNat]?).bind fun x2 =>
      (laws_eqCord x1 x2).bind fun x3 =>
       if (!x3) then
        some false
       else
        laws_eqCordS_p0 v0 v1 (IntKind.i64.wrap (v5 + 1))
    else
     none
  else
   none
 else
  some true :=
 (goL_dn _ _ _ 4000 _ _).trans (by kernel_rfl)
def laws_eqInt64S_k0 : C :=
 .seq (.seq (.reg false [.V 11 (.mv (.t 5)),.V 12 (.mv (.t 0)),.V 13 (.len (.t 12)),.V 14 (.bin .lss (.t 11) (.t 13))] [0,1,5,14] []) (.cond (.t 14) .skip (.exit 0))) (.seq (.block 1 (.seq (.reg true [.V 17 (.mv (.t 0)),.V 18 (.mv (.t 5)),.V 19 (.ia 1 (.t 17) (.t 18)),.V 20 (.ld none (.t 19)),.V 21 (.mv (.t 1)),.V 22 (.mv (.t 5)),.V 23 (.ia 1 (.t 21) (.t 22)),.V 24 (.ld none (.t 23)),.V 25 (.bin .neq (.t 20) (.t 24))] [0,1,5,25] []) (.cond (.t 25) (.seq (.reg false [.V 4 (.asg (.c (.bool false)))] [4] []) .ret) .skip))) (.reg false [.V 15 (.mv (.t 5)),.V 16 (.bin .add (.t 15) (.c (.int .i64 1))),.V 5 (.asg (.t 16))] [0,1,5] []))
def laws_eqInt64S_k1 : C :=
 .norm [0,1,5] [] laws_eqInt64S_k0
def laws_eqInt64S_k2 : C :=
 .seq (.reg false [.V 4 (.asg (.c (.bool true)))] [4] []) .ret
def laws_eqInt64S_ir : Fn := { np := 2,io := [],res := [.t 4],own := [false],body :=
 (.seq (.reg false [.V 4 (.asg (.c (.bool false)))] [0,1] []) (.seq (.seq (.reg false [.V 6 (.mv (.t 0)),.V 7 (.len (.t 6)),.V 8 (.mv (.t 1)),.V 9 (.len (.t 8)),.V 10 (.bin .neq (.t 7) (.t 9))] [0,1,10] []) (.cond (.t 10) (.seq (.reg false [.V 4 (.asg (.c (.bool false)))] [4] []) .ret) .skip)) (.seq (.seq (.reg false [.V 5 (.asg (.c (.int .i64 0)))] [0,1,5] []) (.block 0 (.loop laws_eqInt64S_k1))) laws_eqInt64S_k2))) }
noncomputable def laws_eqInt64S_D : List (Nat × Callee) := []
def laws_eqInt64S_H : List (Nat × ET) := [(6,(.one (.int .i64))),(8,(.one (.int .i64))),(12,(.one (.int .i64))),(17,(.one (.int .i64))),(21,(.one (.int .i64)))]
noncomputable def laws_eqInt64S_c : Callee := mkCallee laws_eqInt64S_D laws_eqInt64S_H laws_eqInt64S_ir [.d (.one (.sl (.one (.int .i64)))),.d (.one (.sl (.one (.int .i64))))] [.d (.one .bool)] []
noncomputable def laws_eqInt64S (a0 : List Int) (a1 : List Int) : Option (Bool) := laws_eqInt64S_c.f (a0,a1,())
noncomputable def laws_eqInt64S_p0  (v0 : List Int) (v1 : List Int) (v5 : Int) : Option (Bool) :=
 goL laws_eqInt64S_D laws_eqInt64S_H (vleave laws_eqInt64S_ir [.d (.one (.sl (.one (.int .i64)))),.d (.one (.sl (.one (.int .i64))))] [.d (.one .bool)] [] []) [.c laws_eqInt64S_k0,.l laws_eqInt64S_k1,.e 0,.c laws_eqInt64S_k2]
  ⟨[(0,.sl (.one (.int .i64)) v0),(1,.sl (.one (.int .i64)) v1),(5,.int .i64 v5)],[]⟩
theorem laws_eqInt64S_eq (a0 : List Int) (a1 : List Int) : laws_eqInt64S a0 a1 =
 if ((a0.length : Int) != (a1.length : Int)) then
  some false
 else
  laws_eqInt64S_p0 a0 a1 0 :=
 (mk_f _ _ _ _ _ _ _ 4000).trans (by kernel_rfl)
theorem laws_eqInt64S_p0_eq  (v0 : List Int) (v1 : List Int) (v5 : Int) : laws_eqInt64S_p0 v0 v1 v5 =
 if decide (v5 < (v0.length : Int)) then
  if decide (0 ≤ v5) then
   (v0[v5.toNat]?).bind fun x1 =>
    if decide (0 ≤ v5) then
     (v1[v5.toNat]?).bind fun x2 =>
      if (x1 != x2) then
       some false
      else
       laws_eqInt64S_p0 v0 v1 (IntKind.i64.wrap (v5 + 1))
    else
     none
  else
   none
 else
  some true :=
 (goL_dn _ _ _ 4000 _ _).trans (by kernel_rfl)
def laws_eqStep_ir : Fn := { np := 2,io := [],res := [.t 4],own := [false],body :=
 (.seq (.reg false [.W 2 (.box 4 (.t 0)),.W 3 (.box 4 (.t 1)),.V 4 (.asg (.c (.bool false)))] [2,3] [2,3,3003,4003]) (.seq (.seq (.reg false [.V 5 (.fa 0 (.t 2)),.V 6 (.ld none (.t 5)),.V 7 (.fa 0 (.t 3)),.V 8 (.ld none (.t 7)),.V 9 (.bin .neq (.t 6) (.t 8))] [2,3,9] [2,3,3003,4003]) (.cond (.t 9) (.seq (.reg false [.V 4 (.asg (.c (.bool false)))] [4] []) .ret) .skip)) (.seq (.seq (.reg false [.V 10 (.fa 1 (.t 2)),.V 11 (.ld none (.t 10)),.V 12 (.fa 1 (.t 3)),.V 13 (.ld none (.t 12)),.V 14 (.bin .neq (.t 11) (.t 13))] [2,3,14] [2,3,3003,4003]) (.cond (.t 14) (.seq (.reg false [.V 4 (.asg (.c (.bool false)))] [4] []) .ret) .skip)) (.seq (.seq (.reg false [.V 15 (.fa 2 (.t 2)),.V 16 (.ld none (.t 15)),.V 17 (.fa 2 (.t 3)),.V 18 (.ld none (.t 17)),.V 19 (.bin .neq (.t 16) (.t 18))] [2,3,19] [2,3,3003,4003]) (.cond (.t 19) (.seq (.reg false [.V 4 (.asg (.c (.bool false)))] [4] []) .ret) .skip)) (.seq (.seq (.reg false [.V 20 (.fa 3 (.t 2)),.V 21 (.ld none (.t 20)),.V 22 (.fa 3 (.t 3)),.V 23 (.ld none (.t 22)),.V 24 (.call (.c (.fn 42 [])) [.t 21,.t 23]),.V 25 (.un .not (.t 24))] [25] []) (.cond (.t 25) (.seq (.reg false [.V 4 (.asg (.c (.bool false)))] [4] []) .ret) .skip)) (.seq (.reg false [.V 4 (.asg (.c (.bool true)))] [4] []) .ret)))))) }
noncomputable def laws_eqStep_D : List (Nat × Callee) := [(42,laws_eqInt64S_c)]
def laws_eqStep_H : List (Nat × ET) := [(21,(.one (.int .i64))),(23,(.one (.int .i64)))]
noncomputable def laws_eqStep_c : Callee := mkCallee laws_eqStep_D laws_eqStep_H laws_eqStep_ir [.d T_Step,.d T_Step] [.d (.one .bool)] []
noncomputable def laws_eqStep (a0 : T_Step.ty) (a1 : T_Step.ty) : Option (Bool) := laws_eqStep_c.f (a0,a1,())
theorem laws_eqStep_eq (a0 : T_Step.ty) (a1 : T_Step.ty) : laws_eqStep a0 a1 =
 if (!(a0.1 == a1.1)) then
  some false
 else
  if (a0.2.1 != a1.2.1) then
   some false
  else
   if (a0.2.2.1 != a1.2.2.1) then
    some false
   else
    (laws_eqInt64S a0.2.2.2.1 a1.2.2.2.1).bind fun x1 =>
     if (!x1) then
      some false
     else
      some true :=
 (mk_f _ _ _ _ _ _ _ 4000).trans (by kernel_rfl)
def laws_eqStepS_k0 : C :=
 .seq (.seq (.reg false [.V 11 (.mv (.t 5)),.V 12 (.mv (.t 0)),.V 13 (.len (.t 12)),.V 14 (.bin .lss (.t 11) (.t 13))] [0,1,5,14] []) (.cond (.t 14) .skip (.exit 0))) (.seq (.block 1 (.seq (.reg true [.V 17 (.mv (.t 0)),.V 18 (.mv (.t 5)),.V 19 (.ia 4 (.t 17) (.t 18)),.V 20 (.ld (some 4) (.t 19)),.V 21 (.mv (.t 1)),.V 22 (.mv (.t 5)),.V 23 (.ia 4 (.t 21) (.t 22)),.V 24 (.ld (some 4) (.t 23)),.V 25 (.call (.c (.fn 903 [])) [.t 20,.t 24]),.V 26 (.un .not (.t 25))] [0,1,5,26] []) (.cond (.t 26) (.seq (.reg false [.V 4 (.asg (.c (.bool false)))] [4] []) .ret) .skip))) (.reg false [.V 15 (.mv (.t 5)),.V 16 (.bin .add (.t 15) (.c (.int .i64 1))),.V 5 (.asg (.t 16))] [0,1,5] []))
def laws_eqStepS_k1 : C :=
 .norm [0,1,5] [] laws_eqStepS_k0
def laws_eqStepS_k2 : C :=
 .seq (.reg false [.V 4 (.asg (.c (.bool true)))] [4] []) .ret
def laws_eqStepS_ir : Fn := { np := 2,io := [],res := [.t 4],own := [false],body :=
 (.seq (.reg false [.V 4 (.asg (.c (.bool false)))] [0,1] []) (.seq (.seq (.reg false [.V 6 (.mv (.t 0)),.V 7 (.len (.t 6)),.V 8 (.mv (.t 1)),.V 9 (.len (.t 8)),.V 10 (.bin .neq (.t 7) (.t 9))] [0,1,10] []) (.cond (.t 10) (.seq (.reg false [.V 4 (.asg (.c (.bool false)))] [4] []) .ret) .skip)) (.seq (.seq (.reg false [.V 5 (.asg (.c (.int .i64 0)))] [0,1,5] []) (.block 0 (.loop laws_eqStepS_k1))) laws_eqStepS_k2))) }
noncomputable def laws_eqStepS_D : List (Nat × Callee) := [(903,laws_eqStep_c)]
def laws_eqStepS_H : List (Nat × ET) := [(6,T_Step),(8,T_Step),(12,T_Step),(17,T_Step),(21,T_Step)]
noncomputable def laws_eqStepS_c : Callee := mkCallee laws_eqStepS_D laws_eqStepS_H laws_eqStepS_ir [.d (.one (.sl T_Step)),.d (.one (.sl T_Step))] [.d (.one .bool)] []
noncomputable def laws_eqStepS (a0 : List T_Step.ty) (a1 : List T_Step.ty) : Option (Bool) := laws_eqStepS_c.f (a0,a1,())
noncomputable def laws_eqStepS_p0  (v0 : List T_Step.ty) (v1 : List T_Step.ty) (v5 : Int) : Option (Bool) :=
 goL laws_eqStepS_D laws_eqStepS_H (vleave laws_eqStepS_ir [.d (.one (.sl T_Step)),.d (.one (.sl T_Step))] [.d (.one .bool)] [] []) [.c laws_eqStepS_k0,.l laws_eqStepS_k1,.e 0,.c laws_eqStepS_k2]
  ⟨[(0,.sl T_Step v0),(1,.sl T_Step v1),(5,.int .i64 v5)],[]⟩
theorem laws_eqStepS_eq (a0 : List T_Step.ty) (a1 : List T_Step.ty) : laws_eqStepS a0 a1 =
 if ((a0.length : Int) != (a1.length : Int)) then
  some false
 else
  laws_eqStepS_p0 a0 a1 0 :=
 (mk_f _ _ _ _ _ _ _ 4000).trans (by kernel_rfl)
theorem laws_eqStepS_p0_eq  (v0 : List T_Step.ty) (v1 : List T_Step.ty) (v5 : Int) : laws_eqStepS_p0 v0 v1 v5 =
 if decide (v5 < (v0.length : Int)) then
  if decide (0 ≤ v5) then
   (v0[v5.toNat]?).bind fun x1 =>
    if decide (0 ≤ v5) then
     (v1[v5.toNat]?).bind fun x2 =>
      (laws_eqStep x1 x2).bind fun x3 =>
       if (!x3) then
        some false
       else
        laws_eqStepS_p0 v0 v1 (IntKind.i64.wrap (v5 + 1))
    else
     none
  else
   none
 else
  some true :=
 (goL_dn _ _ _ 4000 _ _).trans (by kernel_rfl)
def laws_eqRental_ir : Fn := { np := 2,io := [],res := [.t 4],own := [false],body :=
 (.seq (.reg false [.W 2 (.box 5 (.t 0)),.W 3 (.box 5 (.t 1)),.V 4 (.asg (.c (.bool false)))] [2,3] [2,3]) (.seq (.seq (.reg false [.V 5 (.fa 0 (.t 2)),.V 6 (.ld none (.t 5)),.V 7 (.fa 0 (.t 3)),.V 8 (.ld none (.t 7)),.V 9 (.bin .neq (.t 6) (.t 8))] [2,3,9] [2,3]) (.cond (.t 9) (.seq (.reg false [.V 4 (.asg (.c (.bool false)))] [4] []) .ret) .skip)) (.seq (.seq (.reg false [.V 10 (.fa 1 (.t 2)),.V 11 (.ld none (.t 10)),.V 12 (.fa 1 (.t 3)),.V 13 (.ld none (.t 12)),.V 14 (.bin .neq (.t 11) (.t 13))] [2,3,14] [2,3]) (.cond (.t 14) (.seq (.reg false [.V 4 (.asg (.c (.bool false)))] [4] []) .ret) .skip)) (.seq (.seq (.reg false [.V 15 (.fa 2 (.t 2)),.V 16 (.ld none (.t 15)),.V 17 (.fa 2 (.t 3)),.V 18 (.ld none (.t 17)),.V 19 (.bin .neq (.t 16) (.t 18))] [2,3,19] [2,3]) (.cond (.t 19) (.seq (.reg false [.V 4 (.asg (.c (.bool false)))] [4] []) .ret) .skip)) (.seq (.seq (.reg false [.V 20 (.fa 3 (.t 2)),.V 21 (.ld none (.t 20)),.V 22 (.fa 3 (.t 3)),.V 23 (.ld none (.t 22)),.V 24 (.bin .neq (.t 21) (.t 23))] [2,3,24] [2,3]) (.cond (.t 24) (.seq (.reg false [.V 4 (.asg (.c (.bool false)))] [4] []) .ret) .skip)) (.seq (.seq (.reg false [.V 25 (.fa 4 (.t 2)),.V 26 (.ld none (.t 25)),.V 27 (.fa 4 (.t 3)),.V 28 (.ld none (.t 27)),.V 29 (.bin .neq (.t 26) (.t 28))] [29] []) (.cond (.t 29) (.seq (.reg false [.V 4 (.asg (.c (.bool false)))] [4] []) .ret) .skip)) (.seq (.reg false [.V 4 (.asg (.c (.bool true)))] [4] []) .ret))))))) }
noncomputable def laws_eqRental_D : List (Nat × Callee) := []
def laws_eqRental_H : List (Nat × ET) := []
noncomputable def laws_eqRental_c : Callee := mkCallee laws_eqRental_D laws_eqRental_H laws_eqRental_ir [.d T_Paper,.d T_Paper] [.d (.one .bool)] []
noncomputable def laws_eqRental (a0 : T_Paper.ty) (a1 : T_Paper.ty) : Option (Bool) := laws_eqRental_c.f (a0,a1,())
theorem laws_eqRental_eq (a0 : T_Paper.ty) (a1 : T_Paper.ty) : laws_eqRental a0 a1 =
 if (!(a0.1 == a1.1)) then
  some false
 else
  if (!(a0.2.1 == a1.2.1)) then
   some false
  else
   if (a0.2.2.1 != a1.2.2.1) then
    some false
   else
    if (a0.2.2.2.1 != a1.2.2.2.1) then
     some false
    else
     if (a0.2.2.2.2.1 != a1.2.2.2.2.1) then
      some false
     else
      some true :=
 (mk_f _ _ _ _ _ _ _ 4000).trans (by kernel_rfl)
def laws_eqRentalS_k0 : C :=
 .seq (.seq (.reg false [.V 11 (.mv (.t 5)),.V 12 (.mv (.t 0)),.V 13 (.len (.t 12)),.V 14 (.bin .lss (.t 11) (.t 13))] [0,1,5,14] []) (.cond (.t 14) .skip (.exit 0))) (.seq (.block 1 (.seq (.reg true [.V 17 (.mv (.t 0)),.V 18 (.mv (.t 5)),.V 19 (.ia 5 (.t 17) (.t 18)),.V 20 (.ld (some 5) (.t 19)),.V 21 (.mv (.t 1)),.V 22 (.mv (.t 5)),.V 23 (.ia 5 (.t 21) (.t 22)),.V 24 (.ld (some 5) (.t 23)),.V 25 (.call (.c (.fn 904 [])) [.t 20,.t 24]),.V 26 (.un .not (.t 25))] [0,1,5,26] []) (.cond (.t 26) (.seq (.reg false [.V 4 (.asg (.c (.bool false)))] [4] []) .ret) .skip))) (.reg false [.V 15 (.mv (.t 5)),.V 16 (.bin .add (.t 15) (.c (.int .i64 1))),.V 5 (.asg (.t 16))] [0,1,5] []))
def laws_eqRentalS_k1 : C :=
 .norm [0,1,5] [] laws_eqRentalS_k0
def laws_eqRentalS_k2 : C :=
 .seq (.reg false [.V 4 (.asg (.c (.bool true)))] [4] []) .ret
def laws_eqRentalS_ir : Fn := { np := 2,io := [],res := [.t 4],own := [false],body :=
 (.seq (.reg false [.V 4 (.asg (.c (.bool false)))] [0,1] []) (.seq (.seq (.reg false [.V 6 (.mv (.t 0)),.V 7 (.len (.t 6)),.V 8 (.mv (.t 1)),.V 9 (.len (.t 8)),.V 10 (.bin .neq (.t 7) (.t 9))] [0,1,10] []) (.cond (.t 10) (.seq (.reg false [.V 4 (.asg (.c (.bool false)))] [4] []) .ret) .skip)) (.seq (.seq (.reg false [.V 5 (.asg (.c (.int .i64 0)))] [0,1,5] []) (.block 0 (.loop laws_eqRentalS_k1))) laws_eqRentalS_k2))) }
noncomputable def laws_eqRentalS_D : List (Nat × Callee) := [(904,laws_eqRental_c)]
def laws_eqRentalS_H : List (Nat × ET) := [(6,T_Paper),(8,T_Paper),(12,T_Paper),(17,T_Paper),(21,T_Paper)]
noncomputable def laws_eqRentalS_c : Callee := mkCallee laws_eqRentalS_D laws_eqRentalS_H laws_eqRentalS_ir [.d (.one (.sl T_Paper)),.d (.one (.sl T_Paper))] [.d (.one .bool)] []
noncomputable def laws_eqRentalS (a0 : List T_Paper.ty) (a1 : List T_Paper.ty) : Option (Bool) := laws_eqRentalS_c.f (a0,a1,())
noncomputable def laws_eqRentalS_p0  (v0 : List T_Paper.ty) (v1 : List T_Paper.ty) (v5 : Int) : Option (Bool) :=
 goL laws_eqRentalS_D laws_eqRentalS_H (vleave laws_eqRentalS_ir [.d (.one (.sl T_Paper)),.d (.one (.sl T_Paper))] [.d (.one .bool)] [] []) [.c laws_eqRentalS_k0,.l laws_eqRentalS_k1,.e 0,.c laws_eqRentalS_k2]
  ⟨[(0,.sl T_Paper v0),(1,.sl T_Paper v1),(5,.int .i64 v5)],[]⟩
theorem laws_eqRentalS_eq (a0 : List T_Paper.ty) (a1 : List T_Paper.ty) : laws_eqRentalS a0 a1 =
 if ((a0.length : Int) != (a1.length : Int)) then
  some false
 else
  laws_eqRentalS_p0 a0 a1 0 :=
 (mk_f _ _ _ _ _ _ _ 4000).trans (by kernel_rfl)
theorem laws_eqRentalS_p0_eq  (v0 : List T_Paper.ty) (v1 : List T_Paper.ty) (v5 : Int) : laws_eqRentalS_p0 v0 v1 v5 =
 if decide (v5 < (v0.length : Int)) then
  if decide (0 ≤ v5) then
   (v0[v5.toNat]?).bind fun x1 =>
    if decide (0 ≤ v5) then
     (v1[v5.toNat]?).bind fun x2 =>
      (laws_eqRental x1 x2).bind fun x3 =>
       if (!x3) then
        some false
       else
        laws_eqRentalS_p0 v0 v1 (IntKind.i64.wrap (v5 + 1))
    else
     none
  else
   none
 else
  some true :=
 (goL_dn _ _ _ 4000 _ _).trans (by kernel_rfl)
def laws_eqEntry_ir : Fn := { np := 2,io := [],res := [.t 4],own := [false],body :=
 (.seq (.reg false [.W 2 (.box 4 (.t 0)),.W 3 (.box 4 (.t 1)),.V 4 (.asg (.c (.bool false)))] [2,3] [2,3]) (.seq (.seq (.reg false [.V 5 (.fa 0 (.t 2)),.V 6 (.ld none (.t 5)),.V 7 (.fa 0 (.t 3)),.V 8 (.ld none (.t 7)),.V 9 (.bin .neq (.t 6) (.t 8))] [2,3,9] [2,3]) (.cond (.t 9) (.seq (.reg false [.V 4 (.asg (.c (.bool false)))] [4] []) .ret) .skip)) (.seq (.seq (.reg false [.V 10 (.fa 1 (.t 2)),.V 11 (.ld none (.t 10)),.V 12 (.fa 1 (.t 3)),.V 13 (.ld none (.t 12)),.V 14 (.bin .neq (.t 11) (.t 13))] [2,3,14] [2,3]) (.cond (.t 14) (.seq (.reg false [.V 4 (.asg (.c (.bool false)))] [4] []) .ret) .skip)) (.seq (.seq (.reg false [.V 15 (.fa 2 (.t 2)),.V 16 (.ld none (.t 15)),.V 17 (.fa 2 (.t 3)),.V 18 (.ld none (.t 17)),.V 19 (.bin .neq (.t 16) (.t 18))] [2,3,19] [2,3]) (.cond (.t 19) (.seq (.reg false [.V 4 (.asg (.c (.bool false)))] [4] []) .ret) .skip)) (.seq (.seq (.reg false [.V 20 (.fa 3 (.t 2)),.V 21 (.ld none (.t 20)),.V 22 (.fa 3 (.t 3)),.V 23 (.ld none (.t 22)),.V 24 (.bin .neq (.t 21) (.t 23))] [24] []) (.cond (.t 24) (.seq (.reg false [.V 4 (.asg (.c (.bool false)))] [4] []) .ret) .skip)) (.seq (.reg false [.V 4 (.asg (.c (.bool true)))] [4] []) .ret)))))) }
noncomputable def laws_eqEntry_D : List (Nat × Callee) := []
def laws_eqEntry_H : List (Nat × ET) := []
noncomputable def laws_eqEntry_c : Callee := mkCallee laws_eqEntry_D laws_eqEntry_H laws_eqEntry_ir [.d T_Entry,.d T_Entry] [.d (.one .bool)] []
noncomputable def laws_eqEntry (a0 : T_Entry.ty) (a1 : T_Entry.ty) : Option (Bool) := laws_eqEntry_c.f (a0,a1,())
theorem laws_eqEntry_eq (a0 : T_Entry.ty) (a1 : T_Entry.ty) : laws_eqEntry a0 a1 =
 if (a0.1 != a1.1) then
  some false
 else
  if (!(a0.2.1 == a1.2.1)) then
   some false
  else
   if (!(a0.2.2.1 == a1.2.2.1)) then
    some false
   else
    if (a0.2.2.2.1 != a1.2.2.2.1) then
     some false
    else
     some true :=
 (mk_f _ _ _ _ _ _ _ 4000).trans (by kernel_rfl)
def laws_eqEntryS_k0 : C :=
 .seq (.seq (.reg false [.V 11 (.mv (.t 5)),.V 12 (.mv (.t 0)),.V 13 (.len (.t 12)),.V 14 (.bin .lss (.t 11) (.t 13))] [0,1,5,14] []) (.cond (.t 14) .skip (.exit 0))) (.seq (.block 1 (.seq (.reg true [.V 17 (.mv (.t 0)),.V 18 (.mv (.t 5)),.V 19 (.ia 4 (.t 17) (.t 18)),.V 20 (.ld (some 4) (.t 19)),.V 21 (.mv (.t 1)),.V 22 (.mv (.t 5)),.V 23 (.ia 4 (.t 21) (.t 22)),.V 24 (.ld (some 4) (.t 23)),.V 25 (.call (.c (.fn 905 [])) [.t 20,.t 24]),.V 26 (.un .not (.t 25))] [0,1,5,26] []) (.cond (.t 26) (.seq (.reg false [.V 4 (.asg (.c (.bool false)))] [4] []) .ret) .skip))) (.reg false [.V 15 (.mv (.t 5)),.V 16 (.bin .add (.t 15) (.c (.int .i64 1))),.V 5 (.asg (.t 16))] [0,1,5] []))
def laws_eqEntryS_k1 : C :=
 .norm [0,1,5] [] laws_eqEntryS_k0
def laws_eqEntryS_k2 : C :=
 .seq (.reg false [.V 4 (.asg (.c (.bool true)))] [4] []) .ret
def laws_eqEntryS_ir : Fn := { np := 2,io := [],res := [.t 4],own := [false],body :=
 (.seq (.reg false [.V 4 (.asg (.c (.bool false)))] [0,1] []) (.seq (.seq (.reg false [.V 6 (.mv (.t 0)),.V 7 (.len (.t 6)),.V 8 (.mv (.t 1)),.V 9 (.len (.t 8)),.V 10 (.bin .neq (.t 7) (.t 9))] [0,1,10] []) (.cond (.t 10) (.seq (.reg false [.V 4 (.asg (.c (.bool false)))] [4] []) .ret) .skip)) (.seq (.seq (.reg false [.V 5 (.asg (.c (.int .i64 0)))] [0,1,5] []) (.block 0 (.loop laws_eqEntryS_k1))) laws_eqEntryS_k2))) }
noncomputable def laws_eqEntryS_D : List (Nat × Callee) := [(905,laws_eqEntry_c)]
def laws_eqEntryS_H : List (Nat × ET) := [(6,T_Entry),(8,T_Entry),(12,T_Entry),(17,T_Entry),(21,T_Entry)]
noncomputable def laws_eqEntryS_c : Callee := mkCallee laws_eqEntryS_D laws_eqEntryS_H laws_eqEntryS_ir [.d (.one (.sl T_Entry)),.d (.one (.sl T_Entry))] [.d (.one .bool)] []
noncomputable def laws_eqEntryS (a0 : List T_Entry.ty) (a1 : List T_Entry.ty) : Option (Bool) := laws_eqEntryS_c.f (a0,a1,())
noncomputable def laws_eqEntryS_p0  (v0 : List T_Entry.ty) (v1 : List T_Entry.ty) (v5 : Int) : Option (Bool) :=
 goL laws_eqEntryS_D laws_eqEntryS_H (vleave laws_eqEntryS_ir [.d (.one (.sl T_Entry)),.d (.one (.sl T_Entry))] [.d (.one .bool)] [] []) [.c laws_eqEntryS_k0,.l laws_eqEntryS_k1,.e 0,.c laws_eqEntryS_k2]
  ⟨[(0,.sl T_Entry v0),(1,.sl T_Entry v1),(5,.int .i64 v5)],[]⟩
theorem laws_eqEntryS_eq (a0 : List T_Entry.ty) (a1 : List T_Entry.ty) : laws_eqEntryS a0 a1 =
 if ((a0.length : Int) != (a1.length : Int)) then
  some false
 else
  laws_eqEntryS_p0 a0 a1 0 :=
 (mk_f _ _ _ _ _ _ _ 4000).trans (by kernel_rfl)
theorem laws_eqEntryS_p0_eq  (v0 : List T_Entry.ty) (v1 : List T_Entry.ty) (v5 : Int) : laws_eqEntryS_p0 v0 v1 v5 =
 if decide (v5 < (v0.length : Int)) then
  if decide (0 ≤ v5) then
   (v0[v5.toNat]?).bind fun x1 =>
    if decide (0 ≤ v5) then
     (v1[v5.toNat]?).bind fun x2 =>
      (laws_eqEntry x1 x2).bind fun x3 =>
       if (!x3) then
        some false
       else
        laws_eqEntryS_p0 v0 v1 (IntKind.i64.wrap (v5 + 1))
    else
     none
  else
   none
 else
  some true :=
 (goL_dn _ _ _ 4000 _ _).trans (by kernel_rfl)
def laws_eqShop_ir : Fn := { np := 2,io := [],res := [.t 4],own := [false],body :=
 (.seq (.reg false [.W 2 (.box 8 (.t 0)),.W 3 (.box 8 (.t 1)),.V 4 (.asg (.c (.bool false)))] [2,3] [2,3,3000,3001,3003,3004,3006,3007,4000,4001,4003,4004,4006,4007]) (.seq (.seq (.reg false [.V 5 (.fa 0 (.t 2)),.V 6 (.ld none (.t 5)),.V 7 (.fa 0 (.t 3)),.V 8 (.ld none (.t 7)),.V 9 (.call (.c (.fn 616 [])) [.t 6,.t 8]),.V 10 (.un .not (.t 9))] [2,3,10] [2,3,3000,3001,3003,3004,3006,3007,4000,4001,4003,4004,4006,4007]) (.cond (.t 10) (.seq (.reg false [.V 4 (.asg (.c (.bool false)))] [4] []) .ret) .skip)) (.seq (.seq (.reg false [.V 11 (.fa 1 (.t 2)),.V 12 (.ld none (.t 11)),.V 13 (.fa 1 (.t 3)),.V 14 (.ld none (.t 13)),.V 15 (.call (.c (.fn 615 [])) [.t 12,.t 14]),.V 16 (.un .not (.t 15))] [2,3,16] [2,3,3000,3001,3003,3004,3006,3007,4000,4001,4003,4004,4006,4007]) (.cond (.t 16) (.seq (.reg false [.V 4 (.asg (.c (.bool false)))] [4] []) .ret) .skip)) (.seq (.seq (.reg false [.V 17 (.fa 2 (.t 2)),.V 18 (.ld none (.t 17)),.V 19 (.fa 2 (.t 3)),.V 20 (.ld none (.t 19)),.V 21 (.bin .neq (.t 18) (.t 20))] [2,3,21] [2,3,3000,3001,3003,3004,3006,3007,4000,4001,4003,4004,4006,4007]) (.cond (.t 21) (.seq (.reg false [.V 4 (.asg (.c (.bool false)))] [4] []) .ret) .skip)) (.seq (.seq (.reg false [.V 22 (.fa 3 (.t 2)),.V 23 (.ld none (.t 22)),.V 24 (.fa 3 (.t 3)),.V 25 (.ld none (.t 24)),.V 26 (.call (.c (.fn 614 [])) [.t 23,.t 25]),.V 27 (.un .not (.t 26))] [2,3,27] [2,3,3000,3001,3003,3004,3006,3007,4000,4001,4003,4004,4006,4007]) (.cond (.t 27) (.seq (.reg false [.V 4 (.asg (.c (.bool false)))] [4] []) .ret) .skip)) (.seq (.seq (.reg false [.V 28 (.fa 4 (.t 2)),.V 29 (.ld none (.t 28)),.V 30 (.fa 4 (.t 3)),.V 31 (.ld none (.t 30)),.V 32 (.call (.c (.fn 42 [])) [.t 29,.t 31]),.V 33 (.un .not (.t 32))] [2,3,33] [2,3,3000,3001,3003,3004,3006,3007,4000,4001,4003,4004,4006,4007]) (.cond (.t 33) (.seq (.reg false [.V 4 (.asg (.c (.bool false)))] [4] []) .ret) .skip)) (.seq (.seq (.reg false [.V 34 (.fa 5 (.t 2)),.V 35 (.ld none (.t 34)),.V 36 (.fa 5 (.t 3)),.V 37 (.ld none (.t 36)),.V 38 (.bin .neq (.t 35) (.t 37))] [2,3,38] [2,3,3000,3001,3003,3004,3006,3007,4000,4001,4003,4004,4006,4007]) (.cond (.t 38) (.seq (.reg false [.V 4 (.asg (.c (.bool false)))] [4] []) .ret) .skip)) (.seq (.seq (.reg false [.V 39 (.fa 6 (.t 2)),.V 40 (.ld none (.t 39)),.V 41 (.fa 6 (.t 3)),.V 42 (.ld none (.t 41)),.V 43 (.call (.c (.fn 613 [])) [.t 40,.t 42]),.V 44 (.un .not (.t 43))] [2,3,44] [2,3,3000,3001,3003,3004,3006,3007,4000,4001,4003,4004,4006,4007]) (.cond (.t 44) (.seq (.reg false [.V 4 (.asg (.c (.bool false)))] [4] []) .ret) .skip)) (.seq (.seq (.reg false [.V 45 (.fa 7 (.t 2)),.V 46 (.ld none (.t 45)),.V 47 (.fa 7 (.t 3)),.V 48 (.ld none (.t 47)),.V 49 (.call (.c (.fn 612 [])) [.t 46,.t 48]),.V 50 (.un .not (.t 49))] [50] []) (.cond (.t 50) (.seq (.reg false [.V 4 (.asg (.c (.bool false)))] [4] []) .ret) .skip)) (.seq (.reg false [.V 4 (.asg (.c (.bool true)))] [4] []) .ret)))))))))) }
noncomputable def laws_eqShop_D : List (Nat × Callee) := [(42,laws_eqInt64S_c),(612,laws_eqEntryS_c),(613,laws_eqRentalS_c),(614,laws_eqStepS_c),(615,laws_eqCordS_c),(616,laws_eqArcS_c)]
def laws_eqShop_H : List (Nat × ET) := [(6,T_Arc),(8,T_Arc),(12,T_Neck),(14,T_Neck),(23,T_Step),(25,T_Step),(29,(.one (.int .i64))),(31,(.one (.int .i64))),(40,T_Paper),(42,T_Paper),(46,T_Entry),(48,T_Entry)]
noncomputable def laws_eqShop_c : Callee := mkCallee laws_eqShop_D laws_eqShop_H laws_eqShop_ir [.d T_Shop,.d T_Shop] [.d (.one .bool)] []
noncomputable def laws_eqShop (a0 : T_Shop.ty) (a1 : T_Shop.ty) : Option (Bool) := laws_eqShop_c.f (a0,a1,())
theorem laws_eqShop_eq (a0 : T_Shop.ty) (a1 : T_Shop.ty) : laws_eqShop a0 a1 =
 (laws_eqArcS a0.1 a1.1).bind fun x1 =>
  if (!x1) then
   some false
  else
   (laws_eqCordS a0.2.1 a1.2.1).bind fun x2 =>
    if (!x2) then
     some false
    else
     if (a0.2.2.1 != a1.2.2.1) then
      some false
     else
      (laws_eqStepS a0.2.2.2.1 a1.2.2.2.1).bind fun x3 =>
       if (!x3) then
        some false
       else
        (laws_eqInt64S a0.2.2.2.2.1 a1.2.2.2.2.1).bind fun x4 =>
         if (!x4) then
          some false
         else
          if (a0.2.2.2.2.2.1 != a1.2.2.2.2.2.1) then
           some false
          else
           (laws_eqRentalS a0.2.2.2.2.2.2.1 a1.2.2.2.2.2.2.1).bind fun x5 =>
            if (!x5) then
             some false
            else
             (laws_eqEntryS a0.2.2.2.2.2.2.2.1 a1.2.2.2.2.2.2.2.1).bind fun x6 =>
              if (!x6) then
               some false
              else
               some true :=
 (mk_f _ _ _ _ _ _ _ 4000).trans (by kernel_rfl)
def laws_toPoint_ir : Fn := { np := 1,io := [],res := [.cell 2 (some 2)],own := [false],body :=
 (.seq (.reg false [.W 1 (.box 2 (.t 0)),.W 2 (.alloc 2 (.agg [.int .i64 0,.int .i64 0]))] [1,2] [1,2]) (.seq (.reg false [.W 3 (.alloc 2 (.agg [.int .i64 0,.int .i64 0]))] [1,2,3] [1,2,3]) (.seq (.reg false [.V 4 (.fa 0 (.t 1)),.V 5 (.ld none (.t 4)),.V 6 (.fa 0 (.t 3)),⟨none,true,.sto 1 (.t 6) (.t 5),none,false,[]⟩] [1,2,3] [1,2,3]) (.seq (.reg false [.V 7 (.fa 1 (.t 1)),.V 8 (.ld none (.t 7)),.V 9 (.fa 1 (.t 3)),⟨none,true,.sto 1 (.t 9) (.t 8),none,false,[]⟩] [2,3] [2,3]) (.seq (.reg false [.V 10 (.ld (some 2) (.t 3)),⟨none,true,.sto 2 (.t 2) (.t 10),none,false,[]⟩] [2] [2]) .ret))))) }
noncomputable def laws_toPoint_D : List (Nat × Callee) := []
def laws_toPoint_H : List (Nat × ET) := []
noncomputable def laws_toPoint_c : Callee := mkCallee laws_toPoint_D laws_toPoint_H laws_toPoint_ir [.d T_Point] [.d T_Point] []
noncomputable def laws_toPoint (a0 : T_Point.ty) : Option (T_Point.ty) := laws_toPoint_c.f (a0,())
theorem laws_toPoint_eq (a0 : T_Point.ty) : laws_toPoint a0 =
 some a0 :=
 (mk_f _ _ _ _ _ _ _ 4000).trans (by kernel_rfl)
def laws_toArc_ir : Fn := { np := 1,io := [],res := [.cell 2 (some 6)],own := [false],body :=
 (.seq (.reg false [.W 1 (.box 6 (.t 0)),.W 2 (.alloc 6 (.agg [.int .i64 0,.int .i64 0,.int .i64 0,.int .i64 0,.int .i64 0,.int .i64 0]))] [1,2] [1,2]) (.seq (.reg false [.W 3 (.alloc 6 (.agg [.int .i64 0,.int .i64 0,.int .i64 0,.int .i64 0,.int .i64 0,.int .i64 0]))] [1,2,3] [1,2,3]) (.seq (.reg false [.V 4 (.fa 0 (.t 1)),.V 5 (.ld (some 2) (.t 4)),.V 6 (.call (.c (.fn 1029 [])) [.t 5]),.V 7 (.fa 0 (.t 3)),⟨none,true,.sto 2 (.t 7) (.t 6),none,false,[]⟩] [1,2,3] [1,2,3]) (.seq (.reg false [.V 8 (.fa 2 (.t 1)),.V 9 (.ld (some 2) (.t 8)),.V 10 (.call (.c (.fn 1029 [])) [.t 9]),.V 11 (.fa 2 (.t 3)),⟨none,true,.sto 2 (.t 11) (.t 10),none,false,[]⟩] [1,2,3] [1,2,3]) (.seq (.reg false [.V 12 (.fa 4 (.t 1)),.V 13 (.ld (some 2) (.t 12)),.V 14 (.call (.c (.fn 1029 [])) [.t 13]),.V 15 (.fa 4 (.t 3)),⟨none,true,.sto 2 (.t 15) (.t 14),none,false,[]⟩] [2,3] [2,3]) (.seq (.reg false [.V 16 (.ld (some 6) (.t 3)),⟨none,true,.sto 6 (.t 2) (.t 16),none,false,[]⟩] [2] [2]) .ret)))))) }
noncomputable def laws_toArc_D : List (Nat × Callee) := [(1029,laws_toPoint_c)]
def laws_toArc_H : List (Nat × ET) := []
noncomputable def laws_toArc_c : Callee := mkCallee laws_toArc_D laws_toArc_H laws_toArc_ir [.d T_Arc] [.d T_Arc] []
noncomputable def laws_toArc (a0 : T_Arc.ty) : Option (T_Arc.ty) := laws_toArc_c.f (a0,())
theorem laws_toArc_eq (a0 : T_Arc.ty) : laws_toArc a0 =
 (laws_toPoint (a0.1,a0.2.1,())).bind fun x1 =>
  (laws_toPoint (a0.2.2.1,a0.2.2.2.1,())).bind fun x2 =>
   (laws_toPoint (a0.2.2.2.2.1,a0.2.2.2.2.2.1,())).bind fun x3 =>
    some (x1.1,x1.2.1,x2.1,x2.2.1,x3.1,x3.2.1,()) :=
 (mk_f _ _ _ _ _ _ _ 4000).trans (by kernel_rfl)
def laws_toArcS_k0 : C :=
 .seq (.seq (.reg false [.V 8 (.mv (.t 4)),.V 9 (.mv (.t 0)),.V 10 (.len (.t 9)),.V 11 (.bin .lss (.t 8) (.t 10))] [0,3,4,11] [3]) (.cond (.t 11) .skip (.exit 0))) (.seq (.block 1 (.reg false [.V 14 (.mv (.t 3)),.V 15 (.mv (.t 4)),.V 16 (.mv (.t 0)),.V 17 (.mv (.t 4)),.V 18 (.ia 6 (.t 16) (.t 17)),.V 19 (.ld (some 6) (.t 18)),.V 20 (.call (.c (.fn 892 [])) [.t 19]),.V 21 (.ia 6 (.t 14) (.t 15)),⟨none,true,.sto 6 (.t 21) (.t 20),none,false,[]⟩] [0,3,4] [3])) (.reg false [.V 12 (.mv (.t 4)),.V 13 (.bin .add (.t 12) (.c (.int .i64 1))),.V 4 (.asg (.t 13))] [0,3,4] [3]))
def laws_toArcS_k1 : C :=
 .norm [0,3,4] [3] laws_toArcS_k0
def laws_toArcS_k2 : C :=
 .seq (.reg false [.V 22 (.mv (.t 3)),.W 2 (.asg (.t 22))] [2] [2,3]) .ret
def laws_toArcS_ir : Fn := { np := 1,io := [],res := [.t 2],own := [true],body :=
 (.seq (.reg false [.W 2 (.asg (.c (.nils 6)))] [0] []) (.seq (.reg false [.V 5 (.mv (.t 0)),.V 6 (.len (.t 5)),.V 7 (.mks 6 48 (.agg [.int .i64 0,.int .i64 0,.int .i64 0,.int .i64 0,.int .i64 0,.int .i64 0]) (.t 6) (.t 6)),.W 3 (.asg (.t 7))] [0,3] [3]) (.seq (.seq (.reg false [.V 4 (.asg (.c (.int .i64 0)))] [0,3,4] [3]) (.block 0 (.loop laws_toArcS_k1))) laws_toArcS_k2))) }
noncomputable def laws_toArcS_D : List (Nat × Callee) := [(892,laws_toArc_c)]
def laws_toArcS_H : List (Nat × ET) := [(2,T_Arc),(3,T_Arc),(5,T_Arc),(7,T_Arc),(9,T_Arc),(14,T_Arc),(16,T_Arc),(22,T_Arc)]
noncomputable def laws_toArcS_c : Callee := mkCallee laws_toArcS_D laws_toArcS_H laws_toArcS_ir [.d (.one (.sl T_Arc))] [.tok T_Arc] []
noncomputable def laws_toArcS (a0 : List T_Arc.ty) : Option (List T_Arc.ty) := laws_toArcS_c.f (a0,())
noncomputable def laws_toArcS_p0  (v0 : List T_Arc.ty) (v3n : Nat) (v4 : Int) (r3 : List T_Arc.ty) : Option (List T_Arc.ty) :=
 goL laws_toArcS_D laws_toArcS_H (vleave laws_toArcS_ir [.d (.one (.sl T_Arc))] [.tok T_Arc] [] []) [.c laws_toArcS_k0,.l laws_toArcS_k1,.e 0,.c laws_toArcS_k2]
  ⟨[(0,.sl T_Arc v0),(3,.view 3 0 v3n),(4,.int .i64 v4)],[(3,some (.sl T_Arc r3))]⟩
theorem laws_toArcS_eq (a0 : List T_Arc.ty) : laws_toArcS a0 =
 if decide (0 ≤ (a0.length : Int)) && decide ((a0.length : Int) ≤ (a0.length : Int)) && decide ((a0.length : Int).toNat < lim) then
  laws_toArcS_p0 a0 ((List.replicate ((a0.length : Int).toNat) ((0,0,0,0,0,0,()) : T_Arc.ty)).length) 0 (List.replicate ((a0.length : Int).toNat) ((0,0,0,0,0,0,()) : T_Arc.ty))
 else
  none :=
 (mk_f _ _ _ _ _ _ _ 4000).trans (by kernel_rfl)
theorem laws_toArcS_p0_eq  (v0 : List T_Arc.ty) (v3n : Nat) (v4 : Int) (r3 : List T_Arc.ty) : laws_toArcS_p0 v0 v3n v4 r3 =
 if decide (v4 < (v0.length : Int)) then
  if decide (0 ≤ v4) then
   (v0[v4.toNat]?).bind fun x1 =>
    (laws_toArc x1).bind fun x2 =>
     if decide (0 ≤ v4) && decide (v4 < (v3n : Int)) then
      (r3[v4.toNat]?).bind fun x3 =>
       laws_toArcS_p0 v0 v3n (IntKind.i64.wrap (v4 + 1)) (r3.set v4.toNat x2)
     else
      none
  else
   none
 else
  some (r3.take v3n) :=
 (goL_dn _ _ _ 4000 _ _).trans (by kernel_rfl)
def laws_toCord_ir : Fn := { np := 1,io := [],res := [.cell 2 (some 4)],own := [false],body :=
 (.seq (.reg false [.W 1 (.box 4 (.t 0)),.W 2 (.alloc 4 (.agg [.int .i64 0,.int .i64 0,.int .i64 0,.int .i64 0]))] [1,2] [1,2]) (.seq (.reg false [.W 3 (.alloc 4 (.agg [.int .i64 0,.int .i64 0,.int .i64 0,.int .i64 0]))] [1,2,3] [1,2,3]) (.seq (.reg false [.V 4 (.fa 0 (.t 1)),.V 5 (.ld none (.t 4)),.V 6 (.fa 0 (.t 3)),⟨none,true,.sto 1 (.t 6) (.t 5),none,false,[]⟩] [1,2,3] [1,2,3]) (.seq (.reg false [.V 7 (.fa 1 (.t 1)),.V 8 (.ld none (.t 7)),.V 9 (.fa 1 (.t 3)),⟨none,true,.sto 1 (.t 9) (.t 8),none,false,[]⟩] [1,2,3] [1,2,3]) (.seq (.reg false [.V 10 (.fa 2 (.t 1)),.V 11 (.ld none (.t 10)),.V 12 (.fa 2 (.t 3)),⟨none,true,.sto 1 (.t 12) (.t 11),none,false,[]⟩] [1,2,3] [1,2,3]) (.seq (.reg false [.V 13 (.fa 3 (.t 1)),.V 14 (.ld none (.t 13)),.V 15 (.fa 3 (.t 3)),⟨none,true,.sto 1 (.t 15) (.t 14),none,false,[]⟩] [2,3] [2,3]) (.seq (.reg false [.V 16 (.ld (some 4) (.t 3)),⟨none,true,.sto 4 (.t 2) (.t 16),none,false,[]⟩] [2] [2]) .ret))))))) }
noncomputable def laws_toCord_D : List (Nat × Callee) := []
def laws_toCord_H : List (Nat × ET) := []
noncomputable def laws_toCord_c : Callee := mkCallee laws_toCord_D laws_toCord_H laws_toCord_ir [.d T_Neck] [.d T_Neck] []
noncomputable def laws_toCord (a0 : T_Neck.ty) : Option (T_Neck.ty) := laws_toCord_c.f (a0,())
theorem laws_toCord_eq (a0 : T_Neck.ty) : laws_toCord a0 =
 some a0 :=
 (mk_f _ _ _ _ _ _ _ 4000).trans (by kernel_rfl)
def laws_toCordS_k0 : C :=
 .seq (.seq (.reg false [.V 8 (.mv (.t 4)),.V 9 (.mv (.t 0)),.V 10 (.len (.t 9)),.V 11 (.bin .lss (.t 8) (.t 10))] [0,3,4,11] [3]) (.cond (.t 11) .skip (.exit 0))) (.seq (.block 1 (.reg false [.V 14 (.mv (.t 3)),.V 15 (.mv (.t 4)),.V 16 (.mv (.t 0)),.V 17 (.mv (.t 4)),.V 18 (.ia 4 (.t 16) (.t 17)),.V 19 (.ld (some 4) (.t 18)),.V 20 (.call (.c (.fn 893 [])) [.t 19]),.V 21 (.ia 4 (.t 14) (.t 15)),⟨none,true,.sto 4 (.t 21) (.t 20),none,false,[]⟩] [0,3,4] [3])) (.reg false [.V 12 (.mv (.t 4)),.V 13 (.bin .add (.t 12) (.c (.int .i64 1))),.V 4 (.asg (.t 13))] [0,3,4] [3]))
def laws_toCordS_k1 : C :=
 .norm [0,3,4] [3] laws_toCordS_k0
def laws_toCordS_k2 : C :=
 .seq (.reg false [.V 22 (.mv (.t 3)),.W 2 (.asg (.t 22))] [2] [2,3]) .ret
def laws_toCordS_ir : Fn := { np := 1,io := [],res := [.t 2],own := [true],body :=
 (.seq (.reg false [.W 2 (.asg (.c (.nils 4)))] [0] []) (.seq (.reg false [.V 5 (.mv (.t 0)),.V 6 (.len (.t 5)),.V 7 (.mks 4 32 (.agg [.int .i64 0,.int .i64 0,.int .i64 0,.int .i64 0]) (.t 6) (.t 6)),.W 3 (.asg (.t 7))] [0,3] [3]) (.seq (.seq (.reg false [.V 4 (.asg (.c (.int .i64 0)))] [0,3,4] [3]) (.block 0 (.loop laws_toCordS_k1))) laws_toCordS_k2))) }
noncomputable def laws_toCordS_D : List (Nat × Callee) := [(893,laws_toCord_c)]
def laws_toCordS_H : List (Nat × ET) := [(2,T_Neck),(3,T_Neck),(5,T_Neck),(7,T_Neck),(9,T_Neck),(14,T_Neck),(16,T_Neck),(22,T_Neck)]
noncomputable def laws_toCordS_c : Callee := mkCallee laws_toCordS_D laws_toCordS_H laws_toCordS_ir [.d (.one (.sl T_Neck))] [.tok T_Neck] []
noncomputable def laws_toCordS (a0 : List T_Neck.ty) : Option (List T_Neck.ty) := laws_toCordS_c.f (a0,())
noncomputable def laws_toCordS_p0  (v0 : List T_Neck.ty) (v3n : Nat) (v4 : Int) (r3 : List T_Neck.ty) : Option (List T_Neck.ty) :=
 goL laws_toCordS_D laws_toCordS_H (vleave laws_toCordS_ir [.d (.one (.sl T_Neck))] [.tok T_Neck] [] []) [.c laws_toCordS_k0,.l laws_toCordS_k1,.e 0,.c laws_toCordS_k2]
  ⟨[(0,.sl T_Neck v0),(3,.view 3 0 v3n),(4,.int .i64 v4)],[(3,some (.sl T_Neck r3))]⟩
theorem laws_toCordS_eq (a0 : List T_Neck.ty) : laws_toCordS a0 =
 if decide (0 ≤ (a0.length : Int)) && decide ((a0.length : Int) ≤ (a0.length : Int)) && decide ((a0.length : Int).toNat < lim) then
  laws_toCordS_p0 a0 ((List.replicate ((a0.length : Int).toNat) ((0,0,0,0,()) : T_Neck.ty)).length) 0 (List.replicate ((a0.length : Int).toNat) ((0,0,0,0,()) : T_Neck.ty))
 else
  none :=
 (mk_f _ _ _ _ _ _ _ 4000).trans (by kernel_rfl)
theorem laws_toCordS_p0_eq  (v0 : List T_Neck.ty) (v3n : Nat) (v4 : Int) (r3 : List T_Neck.ty) : laws_toCordS_p0 v0 v3n v4 r3 =
 if decide (v4 < (v0.length : Int)) then
  if decide (0 ≤ v4) then
   (v0[v4.toNat]?).bind fun x1 =>
    (laws_toCord x1).bind fun x2 =>
     if decide (0 ≤ v4) && decide (v4 < (v3n : Int)) then
      (r3[v4.toNat]?).bind fun x3 =>
       laws_toCordS_p0 v0 v3n (IntKind.i64.wrap (v4 + 1)) (r3.set v4.toNat x2)
     else
      none
  else
   none
 else
  some (r3.take v3n) :=
 (goL_dn _ _ _ 4000 _ _).trans (by kernel_rfl)
def laws_toInt64S_k0 : C :=
 .seq (.seq (.reg false [.V 8 (.mv (.t 4)),.V 9 (.mv (.t 0)),.V 10 (.len (.t 9)),.V 11 (.bin .lss (.t 8) (.t 10))] [0,3,4,11] [3]) (.cond (.t 11) .skip (.exit 0))) (.seq (.block 1 (.reg false [.V 14 (.mv (.t 3)),.V 15 (.mv (.t 4)),.V 16 (.mv (.t 0)),.V 17 (.mv (.t 4)),.V 18 (.ia 1 (.t 16) (.t 17)),.V 19 (.ld none (.t 18)),.V 20 (.ia 1 (.t 14) (.t 15)),⟨none,true,.sto 1 (.t 20) (.t 19),none,false,[]⟩] [0,3,4] [3])) (.reg false [.V 12 (.mv (.t 4)),.V 13 (.bin .add (.t 12) (.c (.int .i64 1))),.V 4 (.asg (.t 13))] [0,3,4] [3]))
def laws_toInt64S_k1 : C :=
 .norm [0,3,4] [3] laws_toInt64S_k0
def laws_toInt64S_k2 : C :=
 .seq (.reg false [.V 21 (.mv (.t 3)),.W 2 (.asg (.t 21))] [2] [2,3]) .ret
def laws_toInt64S_ir : Fn := { np := 1,io := [],res := [.t 2],own := [true],body :=
 (.seq (.reg false [.W 2 (.asg (.c (.nils 1)))] [0] []) (.seq (.reg false [.V 5 (.mv (.t 0)),.V 6 (.len (.t 5)),.V 7 (.mks 1 8 (.int .i64 0) (.t 6) (.t 6)),.W 3 (.asg (.t 7))] [0,3] [3]) (.seq (.seq (.reg false [.V 4 (.asg (.c (.int .i64 0)))] [0,3,4] [3]) (.block 0 (.loop laws_toInt64S_k1))) laws_toInt64S_k2))) }
noncomputable def laws_toInt64S_D : List (Nat × Callee) := []
def laws_toInt64S_H : List (Nat × ET) := [(2,(.one (.int .i64))),(3,(.one (.int .i64))),(5,(.one (.int .i64))),(7,(.one (.int .i64))),(9,(.one (.int .i64))),(14,(.one (.int .i64))),(16,(.one (.int .i64))),(21,(.one (.int .i64)))]
noncomputable def laws_toInt64S_c : Callee := mkCallee laws_toInt64S_D laws_toInt64S_H laws_toInt64S_ir [.d (.one (.sl (.one (.int .i64))))] [.tok (.one (.int .i64))] []
noncomputable def laws_toInt64S (a0 : List Int) : Option (List Int) := laws_toInt64S_c.f (a0,())
noncomputable def laws_toInt64S_p0  (v0 : List Int) (v3n : Nat) (v4 : Int) (r3 : List Int) : Option (List Int) :=
 goL laws_toInt64S_D laws_toInt64S_H (vleave laws_toInt64S_ir [.d (.one (.sl (.one (.int .i64))))] [.tok (.one (.int .i64))] [] []) [.c laws_toInt64S_k0,.l laws_toInt64S_k1,.e 0,.c laws_toInt64S_k2]
  ⟨[(0,.sl (.one (.int .i64)) v0),(3,.view 3 0 v3n),(4,.int .i64 v4)],[(3,some (.sl (.one (.int .i64)) r3))]⟩
theorem laws_toInt64S_eq (a0 : List Int) : laws_toInt64S a0 =
 if decide (0 ≤ (a0.length : Int)) && decide ((a0.length : Int) ≤ (a0.length : Int)) && decide ((a0.length : Int).toNat < lim) then
  laws_toInt64S_p0 a0 ((List.replicate ((a0.length : Int).toNat) (0 : Int)).length) 0 (List.replicate ((a0.length : Int).toNat) (0 : Int))
 else
  none :=
 (mk_f _ _ _ _ _ _ _ 4000).trans (by kernel_rfl)
theorem laws_toInt64S_p0_eq  (v0 : List Int) (v3n : Nat) (v4 : Int) (r3 : List Int) : laws_toInt64S_p0 v0 v3n v4 r3 =
 if decide (v4 < (v0.length : Int)) then
  if decide (0 ≤ v4) then
   (v0[v4.toNat]?).bind fun x1 =>
    if decide (0 ≤ v4) && decide (v4 < (v3n : Int)) then
     (r3[v4.toNat]?).bind fun x2 =>
      laws_toInt64S_p0 v0 v3n (IntKind.i64.wrap (v4 + 1)) (r3.set v4.toNat x1)
    else
     none
  else
   none
 else
  some (r3.take v3n) :=
 (goL_dn _ _ _ 4000 _ _).trans (by kernel_rfl)
def laws_toRental_ir : Fn := { np := 1,io := [],res := [.cell 2 (some 5)],own := [false],body :=
 (.seq (.reg false [.W 1 (.box 5 (.t 0)),.W 2 (.alloc 5 (.agg [.str [],.str [],.int .i64 0,.int .i64 0,.int .i64 0]))] [1,2] [1,2]) (.seq (.reg false [.W 3 (.alloc 5 (.agg [.str [],.str [],.int .i64 0,.int .i64 0,.int .i64 0]))] [1,2,3] [1,2,3]) (.seq (.reg false [.V 4 (.fa 0 (.t 1)),.V 5 (.ld none (.t 4)),.V 6 (.fa 0 (.t 3)),⟨none,true,.sto 1 (.t 6) (.t 5),none,false,[]⟩] [1,2,3] [1,2,3]) (.seq (.reg false [.V 7 (.fa 1 (.t 1)),.V 8 (.ld none (.t 7)),.V 9 (.fa 1 (.t 3)),⟨none,true,.sto 1 (.t 9) (.t 8),none,false,[]⟩] [1,2,3] [1,2,3]) (.seq (.reg false [.V 10 (.fa 2 (.t 1)),.V 11 (.ld none (.t 10)),.V 12 (.fa 2 (.t 3)),⟨none,true,.sto 1 (.t 12) (.t 11),none,false,[]⟩] [1,2,3] [1,2,3]) (.seq (.reg false [.V 13 (.fa 3 (.t 1)),.V 14 (.ld none (.t 13)),.V 15 (.fa 3 (.t 3)),⟨none,true,.sto 1 (.t 15) (.t 14),none,false,[]⟩] [1,2,3] [1,2,3]) (.seq (.reg false [.V 16 (.fa 4 (.t 1)),.V 17 (.ld none (.t 16)),.V 18 (.fa 4 (.t 3)),⟨none,true,.sto 1 (.t 18) (.t 17),none,false,[]⟩] [2,3] [2,3]) (.seq (.reg false [.V 19 (.ld (some 5) (.t 3)),⟨none,true,.sto 5 (.t 2) (.t 19),none,false,[]⟩] [2] [2]) .ret)))))))) }
noncomputable def laws_toRental_D : List (Nat × Callee) := []
def laws_toRental_H : List (Nat × ET) := []
noncomputable def laws_toRental_c : Callee := mkCallee laws_toRental_D laws_toRental_H laws_toRental_ir [.d T_Paper] [.d T_Paper] []
noncomputable def laws_toRental (a0 : T_Paper.ty) : Option (T_Paper.ty) := laws_toRental_c.f (a0,())
theorem laws_toRental_eq (a0 : T_Paper.ty) : laws_toRental a0 =
 some a0 :=
 (mk_f _ _ _ _ _ _ _ 4000).trans (by kernel_rfl)
def laws_toRentalS_k0 : C :=
 .seq (.seq (.reg false [.V 8 (.mv (.t 4)),.V 9 (.mv (.t 0)),.V 10 (.len (.t 9)),.V 11 (.bin .lss (.t 8) (.t 10))] [0,3,4,11] [3]) (.cond (.t 11) .skip (.exit 0))) (.seq (.block 1 (.reg false [.V 14 (.mv (.t 3)),.V 15 (.mv (.t 4)),.V 16 (.mv (.t 0)),.V 17 (.mv (.t 4)),.V 18 (.ia 5 (.t 16) (.t 17)),.V 19 (.ld (some 5) (.t 18)),.V 20 (.call (.c (.fn 895 [])) [.t 19]),.V 21 (.ia 5 (.t 14) (.t 15)),⟨none,true,.sto 5 (.t 21) (.t 20),none,false,[]⟩] [0,3,4] [3])) (.reg false [.V 12 (.mv (.t 4)),.V 13 (.bin .add (.t 12) (.c (.int .i64 1))),.V 4 (.asg (.t 13))] [0,3,4] [3]))
def laws_toRentalS_k1 : C :=
 .norm [0,3,4] [3] laws_toRentalS_k0
def laws_toRentalS_k2 : C :=
 .seq (.reg false [.V 22 (.mv (.t 3)),.W 2 (.asg (.t 22))] [2] [2,3]) .ret
def laws_toRentalS_ir : Fn := { np := 1,io := [],res := [.t 2],own := [true],body :=
 (.seq (.reg false [.W 2 (.asg (.c (.nils 5)))] [0] []) (.seq (.reg false [.V 5 (.mv (.t 0)),.V 6 (.len (.t 5)),.V 7 (.mks 5 56 (.agg [.str [],.str [],.int .i64 0,.int .i64 0,.int .i64 0]) (.t 6) (.t 6)),.W 3 (.asg (.t 7))] [0,3] [3]) (.seq (.seq (.reg false [.V 4 (.asg (.c (.int .i64 0)))] [0,3,4] [3]) (.block 0 (.loop laws_toRentalS_k1))) laws_toRentalS_k2))) }
noncomputable def laws_toRentalS_D : List (Nat × Callee) := [(895,laws_toRental_c)]
def laws_toRentalS_H : List (Nat × ET) := [(2,T_Paper),(3,T_Paper),(5,T_Paper),(7,T_Paper),(9,T_Paper),(14,T_Paper),(16,T_Paper),(22,T_Paper)]
noncomputable def laws_toRentalS_c : Callee := mkCallee laws_toRentalS_D laws_toRentalS_H laws_toRentalS_ir [.d (.one (.sl T_Paper))] [.tok T_Paper] []
noncomputable def laws_toRentalS (a0 : List T_Paper.ty) : Option (List T_Paper.ty) := laws_toRentalS_c.f (a0,())
noncomputable def laws_toRentalS_p0  (v0 : List T_Paper.ty) (v3n : Nat) (v4 : Int) (r3 : List T_Paper.ty) : Option (List T_Paper.ty) :=
 goL laws_toRentalS_D laws_toRentalS_H (vleave laws_toRentalS_ir [.d (.one (.sl T_Paper))] [.tok T_Paper] [] []) [.c laws_toRentalS_k0,.l laws_toRentalS_k1,.e 0,.c laws_toRentalS_k2]
  ⟨[(0,.sl T_Paper v0),(3,.view 3 0 v3n),(4,.int .i64 v4)],[(3,some (.sl T_Paper r3))]⟩
theorem laws_toRentalS_eq (a0 : List T_Paper.ty) : laws_toRentalS a0 =
 if decide (0 ≤ (a0.length : Int)) && decide ((a0.length : Int) ≤ (a0.length : Int)) && decide ((a0.length : Int).toNat < lim) then
  laws_toRentalS_p0 a0 ((List.replicate ((a0.length : Int).toNat) (([],[],0,0,0,()) : T_Paper.ty)).length) 0 (List.replicate ((a0.length : Int).toNat) (([],[],0,0,0,()) : T_Paper.ty))
 else
  none :=
 (mk_f _ _ _ _ _ _ _ 4000).trans (by kernel_rfl)
theorem laws_toRentalS_p0_eq  (v0 : List T_Paper.ty) (v3n : Nat) (v4 : Int) (r3 : List T_Paper.ty) : laws_toRentalS_p0 v0 v3n v4 r3 =
 if decide (v4 < (v0.length : Int)) then
  if decide (0 ≤ v4) then
   (v0[v4.toNat]?).bind fun x1 =>
    (laws_toRental x1).bind fun x2 =>
     if decide (0 ≤ v4) && decide (v4 < (v3n : Int)) then
      (r3[v4.toNat]?).bind fun x3 =>
       laws_toRentalS_p0 v0 v3n (IntKind.i64.wrap (v4 + 1)) (r3.set v4.toNat x2)
     else
      none
  else
   none
 else
  some (r3.take v3n) :=
 (goL_dn _ _ _ 4000 _ _).trans (by kernel_rfl)
def laws_toEntry_ir : Fn := { np := 1,io := [],res := [.cell 2 (some 4)],own := [false],body :=
 (.seq (.reg false [.W 1 (.box 4 (.t 0)),.W 2 (.alloc 4 (.agg [.int .i64 0,.str [],.str [],.int .i64 0]))] [1,2] [1,2]) (.seq (.reg false [.W 3 (.alloc 4 (.agg [.int .i64 0,.str [],.str [],.int .i64 0]))] [1,2,3] [1,2,3]) (.seq (.reg false [.V 4 (.fa 0 (.t 1)),.V 5 (.ld none (.t 4)),.V 6 (.fa 0 (.t 3)),⟨none,true,.sto 1 (.t 6) (.t 5),none,false,[]⟩] [1,2,3] [1,2,3]) (.seq (.reg false [.V 7 (.fa 1 (.t 1)),.V 8 (.ld none (.t 7)),.V 9 (.fa 1 (.t 3)),⟨none,true,.sto 1 (.t 9) (.t 8),none,false,[]⟩] [1,2,3] [1,2,3]) (.seq (.reg false [.V 10 (.fa 2 (.t 1)),.V 11 (.ld none (.t 10)),.V 12 (.fa 2 (.t 3)),⟨none,true,.sto 1 (.t 12) (.t 11),none,false,[]⟩] [1,2,3] [1,2,3]) (.seq (.reg false [.V 13 (.fa 3 (.t 1)),.V 14 (.ld none (.t 13)),.V 15 (.fa 3 (.t 3)),⟨none,true,.sto 1 (.t 15) (.t 14),none,false,[]⟩] [2,3] [2,3]) (.seq (.reg false [.V 16 (.ld (some 4) (.t 3)),⟨none,true,.sto 4 (.t 2) (.t 16),none,false,[]⟩] [2] [2]) .ret))))))) }
noncomputable def laws_toEntry_D : List (Nat × Callee) := []
def laws_toEntry_H : List (Nat × ET) := []
noncomputable def laws_toEntry_c : Callee := mkCallee laws_toEntry_D laws_toEntry_H laws_toEntry_ir [.d T_Entry] [.d T_Entry] []
noncomputable def laws_toEntry (a0 : T_Entry.ty) : Option (T_Entry.ty) := laws_toEntry_c.f (a0,())
theorem laws_toEntry_eq (a0 : T_Entry.ty) : laws_toEntry a0 =
 some a0 :=
 (mk_f _ _ _ _ _ _ _ 4000).trans (by kernel_rfl)
def laws_toEntryS_k0 : C :=
 .seq (.seq (.reg false [.V 8 (.mv (.t 4)),.V 9 (.mv (.t 0)),.V 10 (.len (.t 9)),.V 11 (.bin .lss (.t 8) (.t 10))] [0,3,4,11] [3]) (.cond (.t 11) .skip (.exit 0))) (.seq (.block 1 (.reg false [.V 14 (.mv (.t 3)),.V 15 (.mv (.t 4)),.V 16 (.mv (.t 0)),.V 17 (.mv (.t 4)),.V 18 (.ia 4 (.t 16) (.t 17)),.V 19 (.ld (some 4) (.t 18)),.V 20 (.call (.c (.fn 896 [])) [.t 19]),.V 21 (.ia 4 (.t 14) (.t 15)),⟨none,true,.sto 4 (.t 21) (.t 20),none,false,[]⟩] [0,3,4] [3])) (.reg false [.V 12 (.mv (.t 4)),.V 13 (.bin .add (.t 12) (.c (.int .i64 1))),.V 4 (.asg (.t 13))] [0,3,4] [3]))
def laws_toEntryS_k1 : C :=
 .norm [0,3,4] [3] laws_toEntryS_k0
def laws_toEntryS_k2 : C :=
 .seq (.reg false [.V 22 (.mv (.t 3)),.W 2 (.asg (.t 22))] [2] [2,3]) .ret
def laws_toEntryS_ir : Fn := { np := 1,io := [],res := [.t 2],own := [true],body :=
 (.seq (.reg false [.W 2 (.asg (.c (.nils 4)))] [0] []) (.seq (.reg false [.V 5 (.mv (.t 0)),.V 6 (.len (.t 5)),.V 7 (.mks 4 48 (.agg [.int .i64 0,.str [],.str [],.int .i64 0]) (.t 6) (.t 6)),.W 3 (.asg (.t 7))] [0,3] [3]) (.seq (.seq (.reg false [.V 4 (.asg (.c (.int .i64 0)))] [0,3,4] [3]) (.block 0 (.loop laws_toEntryS_k1))) laws_toEntryS_k2))) }
noncomputable def laws_toEntryS_D : List (Nat × Callee) := [(896,laws_toEntry_c)]
def laws_toEntryS_H : List (Nat × ET) := [(2,T_Entry),(3,T_Entry),(5,T_Entry),(7,T_Entry),(9,T_Entry),(14,T_Entry),(16,T_Entry),(22,T_Entry)]
noncomputable def laws_toEntryS_c : Callee := mkCallee laws_toEntryS_D laws_toEntryS_H laws_toEntryS_ir [.d (.one (.sl T_Entry))] [.tok T_Entry] []
noncomputable def laws_toEntryS (a0 : List T_Entry.ty) : Option (List T_Entry.ty) := laws_toEntryS_c.f (a0,())
noncomputable def laws_toEntryS_p0  (v0 : List T_Entry.ty) (v3n : Nat) (v4 : Int) (r3 : List T_Entry.ty) : Option (List T_Entry.ty) :=
 goL laws_toEntryS_D laws_toEntryS_H (vleave laws_toEntryS_ir [.d (.one (.sl T_Entry))] [.tok T_Entry] [] []) [.c laws_toEntryS_k0,.l laws_toEntryS_k1,.e 0,.c laws_toEntryS_k2]
  ⟨[(0,.sl T_Entry v0),(3,.view 3 0 v3n),(4,.int .i64 v4)],[(3,some (.sl T_Entry r3))]⟩
theorem laws_toEntryS_eq (a0 : List T_Entry.ty) : laws_toEntryS a0 =
 if decide (0 ≤ (a0.length : Int)) && decide ((a0.length : Int) ≤ (a0.length : Int)) && decide ((a0.length : Int).toNat < lim) then
  laws_toEntryS_p0 a0 ((List.replicate ((a0.length : Int).toNat) ((0,[],[],0,()) : T_Entry.ty)).length) 0 (List.replicate ((a0.length : Int).toNat) ((0,[],[],0,()) : T_Entry.ty))
 else
  none :=
 (mk_f _ _ _ _ _ _ _ 4000).trans (by kernel_rfl)
theorem laws_toEntryS_p0_eq  (v0 : List T_Entry.ty) (v3n : Nat) (v4 : Int) (r3 : List T_Entry.ty) : laws_toEntryS_p0 v0 v3n v4 r3 =
 if decide (v4 < (v0.length : Int)) then
  if decide (0 ≤ v4) then
   (v0[v4.toNat]?).bind fun x1 =>
    (laws_toEntry x1).bind fun x2 =>
     if decide (0 ≤ v4) && decide (v4 < (v3n : Int)) then
      (r3[v4.toNat]?).bind fun x3 =>
       laws_toEntryS_p0 v0 v3n (IntKind.i64.wrap (v4 + 1)) (r3.set v4.toNat x2)
     else
      none
  else
   none
 else
  some (r3.take v3n) :=
 (goL_dn _ _ _ 4000 _ _).trans (by kernel_rfl)
def laws_markArcS_k0 : C :=
 .seq (.seq (.reg false [.V 6 (.mv (.t 5)),.V 7 (.mv (.t 0)),.V 8 (.len (.t 7)),.V 9 (.bin .lss (.t 6) (.t 8))] [0,1,5,9] [0]) (.cond (.t 9) .skip (.exit 0))) (.seq (.block 1 (.seq (.reg false [.V 12 (.mv (.t 0)),.V 13 (.mv (.t 5)),.V 14 (.mv (.t 1)),.V 15 (.ia 6 (.t 12) (.t 13)),.V 16 (.fa 0 (.t 15)),.V 17 (.fa 0 (.t 16)),⟨none,true,.sto 1 (.t 17) (.t 14),none,false,[]⟩] [0,1,5] [0]) (.seq (.reg false [.V 18 (.mv (.t 1)),.V 19 (.bin .add (.t 18) (.c (.int .i64 1))),.V 1 (.asg (.t 19))] [0,1,5] [0]) (.seq (.reg false [.V 20 (.mv (.t 0)),.V 21 (.mv (.t 5)),.V 22 (.mv (.t 1)),.V 23 (.ia 6 (.t 20) (.t 21)),.V 24 (.fa 0 (.t 23)),.V 25 (.fa 1 (.t 24)),⟨none,true,.sto 1 (.t 25) (.t 22),none,false,[]⟩] [0,1,5] [0]) (.seq (.reg false [.V 26 (.mv (.t 1)),.V 27 (.bin .add (.t 26) (.c (.int .i64 1))),.V 1 (.asg (.t 27))] [0,1,5] [0]) (.seq (.reg false [.V 28 (.mv (.t 0)),.V 29 (.mv (.t 5)),.V 30 (.mv (.t 1)),.V 31 (.ia 6 (.t 28) (.t 29)),.V 32 (.fa 2 (.t 31)),.V 33 (.fa 0 (.t 32)),⟨none,true,.sto 1 (.t 33) (.t 30),none,false,[]⟩] [0,1,5] [0]) (.seq (.reg false [.V 34 (.mv (.t 1)),.V 35 (.bin .add (.t 34) (.c (.int .i64 1))),.V 1 (.asg (.t 35))] [0,1,5] [0]) (.seq (.reg false [.V 36 (.mv (.t 0)),.V 37 (.mv (.t 5)),.V 38 (.mv (.t 1)),.V 39 (.ia 6 (.t 36) (.t 37)),.V 40 (.fa 2 (.t 39)),.V 41 (.fa 1 (.t 40)),⟨none,true,.sto 1 (.t 41) (.t 38),none,false,[]⟩] [0,1,5] [0]) (.seq (.reg false [.V 42 (.mv (.t 1)),.V 43 (.bin .add (.t 42) (.c (.int .i64 1))),.V 1 (.asg (.t 43))] [0,1,5] [0]) (.seq (.reg false [.V 44 (.mv (.t 0)),.V 45 (.mv (.t 5)),.V 46 (.mv (.t 1)),.V 47 (.ia 6 (.t 44) (.t 45)),.V 48 (.fa 4 (.t 47)),.V 49 (.fa 0 (.t 48)),⟨none,true,.sto 1 (.t 49) (.t 46),none,false,[]⟩] [0,1,5] [0]) (.seq (.reg false [.V 50 (.mv (.t 1)),.V 51 (.bin .add (.t 50) (.c (.int .i64 1))),.V 1 (.asg (.t 51))] [0,1,5] [0]) (.seq (.reg false [.V 52 (.mv (.t 0)),.V 53 (.mv (.t 5)),.V 54 (.mv (.t 1)),.V 55 (.ia 6 (.t 52) (.t 53)),.V 56 (.fa 4 (.t 55)),.V 57 (.fa 1 (.t 56)),⟨none,true,.sto 1 (.t 57) (.t 54),none,false,[]⟩] [0,1,5] [0]) (.reg false [.V 58 (.mv (.t 1)),.V 59 (.bin .add (.t 58) (.c (.int .i64 1))),.V 1 (.asg (.t 59))] [0,1,5] [0]))))))))))))) (.reg false [.V 10 (.mv (.t 5)),.V 11 (.bin .add (.t 10) (.c (.int .i64 1))),.V 5 (.asg (.t 11))] [0,1,5] [0]))
def laws_markArcS_k1 : C :=
 .norm [0,1,5] [0] laws_markArcS_k0
def laws_markArcS_k2 : C :=
 .seq (.reg false [.V 60 (.mv (.t 1)),.V 4 (.asg (.t 60))] [0,4] [0]) .ret
def laws_markArcS_ir : Fn := { np := 2,io := [true,false],res := [.t 4],own := [false],body :=
 (.seq (.reg false [.V 4 (.asg (.c (.int .i64 0)))] [0,1] [0]) (.seq (.seq (.reg false [.V 5 (.asg (.c (.int .i64 0)))] [0,1,5] [0]) (.block 0 (.loop laws_markArcS_k1))) laws_markArcS_k2)) }
noncomputable def laws_markArcS_D : List (Nat × Callee) := []
def laws_markArcS_H : List (Nat × ET) := [(7,T_Arc),(12,T_Arc),(20,T_Arc),(28,T_Arc),(36,T_Arc),(44,T_Arc),(52,T_Arc)]
noncomputable def laws_markArcS_c : Callee := mkCallee laws_markArcS_D laws_markArcS_H laws_markArcS_ir [.ios T_Arc,.d (.one (.int .i64))] [.d (.one (.int .i64))] [.ios T_Arc]
noncomputable def laws_markArcS (a0 : List T_Arc.ty) (a1 : Int) : Option (Int × List T_Arc.ty) := laws_markArcS_c.f (a0,a1,())
noncomputable def laws_markArcS_p0 (l0 : Nat) (v0n : Nat) (v1 : Int) (v5 : Int) (r0 : List T_Arc.ty) : Option (Int × List T_Arc.ty) :=
 goL laws_markArcS_D laws_markArcS_H (vleave laws_markArcS_ir [.ios T_Arc,.d (.one (.int .i64))] [.d (.one (.int .i64))] [.ios T_Arc] [l0]) [.c laws_markArcS_k0,.l laws_markArcS_k1,.e 0,.c laws_markArcS_k2]
  ⟨[(0,.view 0 0 v0n),(1,.int .i64 v1),(5,.int .i64 v5)],[(0,some (.sl T_Arc r0))]⟩
theorem laws_markArcS_eq (a0 : List T_Arc.ty) (a1 : Int) : laws_markArcS a0 a1 =
 laws_markArcS_p0 a0.length a0.length a1 0 a0 :=
 (mk_f _ _ _ _ _ _ _ 4000).trans (by kernel_rfl)
theorem laws_markArcS_p0_eq (l0 : Nat) (v0n : Nat) (v1 : Int) (v5 : Int) (r0 : List T_Arc.ty) : laws_markArcS_p0 l0 v0n v1 v5 r0 =
 if decide (v5 < (v0n : Int)) then
  if decide (0 ≤ v5) && decide (v5 < (v0n : Int)) then
   (r0[v5.toNat]?).bind fun x1 =>
    if decide (0 ≤ v5) && decide (v5 < (v0n : Int)) then
     ((r0.set v5.toNat (v1,x1.2.1,x1.2.2.1,x1.2.2.2.1,x1.2.2.2.2.1,x1.2.2.2.2.2.1,()))[v5.toNat]?).bind fun x2 =>
      if decide (0 ≤ v5) && decide (v5 < (v0n : Int)) then
       (((r0.set v5.toNat (v1,x1.2.1,x1.2.2.1,x1.2.2.2.1,x1.2.2.2.2.1,x1.2.2.2.2.2.1,())).set v5.toNat (x2.1,IntKind.i64.wrap (v1 + 1),x2.2.2.1,x2.2.2.2.1,x2.2.2.2.2.1,x2.2.2.2.2.2.1,()))[v5.toNat]?).bind fun x3 =>
        if decide (0 ≤ v5) && decide (v5 < (v0n : Int)) then
         ((((r0.set v5.toNat (v1,x1.2.1,x1.2.2.1,x1.2.2.2.1,x1.2.2.2.2.1,x1.2.2.2.2.2.1,())).set v5.toNat (x2.1,IntKind.i64.wrap (v1 + 1),x2.2.2.1,x2.2.2.2.1,x2.2.2.2.2.1,x2.2.2.2.2.2.1,())).set v5.toNat (x3.1,x3.2.1,IntKind.i64.wrap ((IntKind.i64.wrap (v1 + 1)) + 1),x3.2.2.2.1,x3.2.2.2.2.1,x3.2.2.2.2.2.1,()))[v5.toNat]?).bind fun x4 =>
          if decide (0 ≤ v5) && decide (v5 < (v0n : Int)) then
           (((((r0.set v5.toNat (v1,x1.2.1,x1.2.2.1,x1.2.2.2.1,x1.2.2.2.2.1,x1.2.2.2.2.2.1,())).set v5.toNat (x2.1,IntKind.i64.wrap (v1 + 1),x2.2.2.1,x2.2.2.2.1,x2.2.2.2.2.1,x2.2.2.2.2.2.1,())).set v5.toNat (x3.1,x3.2.1,IntKind.i64.wrap ((IntKind.i64.wrap (v1 + 1)) + 1),x3.2.2.2.1,x3.2.2.2.2.1,x3.2.2.2.2.2.1,())).set v5.toNat (x4.1,x4.2.1,x4.2.2.1,IntKind.i64.wrap ((IntKind.i64.wrap ((IntKind.i64.wrap (v1 + 1)) + 1)) + 1),x4.2.2.2.2.1,x4.2.2.2.2.2.1,()))[v5.toNat]?).bind fun x5 =>
            if decide (0 ≤ v5) && decide (v5 < (v0n : Int)) then
             ((((((r0.set v5.toNat (v1,x1.2.1,x1.2.2.1,x1.2.2.2.1,x1.2.2.2.2.1,x1.2.2.2.2.2.1,())).set v5.toNat (x2.1,IntKind.i64.wrap (v1 + 1),x2.2.2.1,x2.2.2.2.1,x2.2.2.2.2.1,x2.2.2.2.2.2.1,())).set v5.toNat (x3.1,x3.2.1,IntKind.i64.wrap ((IntKind.i64.wrap (v1 + 1)) + 1),x3.2.2.2.1,x3.2.2.2.2.1,x3.2.2.2.2.2.1,())).set v5.toNat (x4.1,x4.2.1,x4.2.2.1,IntKind.i64.wrap ((IntKind.i64.wrap ((IntKind.i64.wrap (v1 + 1)) + 1)) + 1),x4.2.2.2.2.1,x4.2.2.2.2.2.1,())).set v5.toNat (x5.1,x5.2.1,x5.2.2.1,x5.2.2.2.1,IntKind.i64.wrap ((IntKind.i64.wrap ((IntKind.i64.wrap ((IntKind.i64.wrap (v1 + 1)) + 1)) + 1)) + 1),x5.2.2.2.2.2.1,()))[v5.toNat]?).bind fun x6 =>
              laws_markArcS_p0 l0 v0n (IntKind.i64.wrap ((IntKind.i64.wrap ((IntKind.i64.wrap ((IntKind.i64.wrap ((IntKind.i64.wrap ((IntKind.i64.wrap (v1 + 1)) + 1)) + 1)) + 1)) + 1)) + 1)) (IntKind.i64.wrap (v5 + 1)) ((((((r0.set v5.toNat (v1,x1.2.1,x1.2.2.1,x1.2.2.2.1,x1.2.2.2.2.1,x1.2.2.2.2.2.1,())).set v5.toNat (x2.1,IntKind.i64.wrap (v1 + 1),x2.2.2.1,x2.2.2.2.1,x2.2.2.2.2.1,x2.2.2.2.2.2.1,())).set v5.toNat (x3.1,x3.2.1,IntKind.i64.wrap ((IntKind.i64.wrap (v1 + 1)) + 1),x3.2.2.2.1,x3.2.2.2.2.1,x3.2.2.2.2.2.1,())).set v5.toNat (x4.1,x4.2.1,x4.2.2.1,IntKind.i64.wrap ((IntKind.i64.wrap ((IntKind.i64.wrap (v1 + 1)) + 1)) + 1),x4.2.2.2.2.1,x4.2.2.2.2.2.1,())).set v5.toNat (x5.1,x5.2.1,x5.2.2.1,x5.2.2.2.1,IntKind.i64.wrap ((IntKind.i64.wrap ((IntKind.i64.wrap ((IntKind.i64.wrap (v1 + 1)) + 1)) + 1)) + 1),x5.2.2.2.2.2.1,())).set v5.toNat (x6.1,x6.2.1,x6.2.2.1,x6.2.2.2.1,x6.2.2.2.2.1,IntKind.i64.wrap ((IntKind.i64.wrap ((IntKind.i64.wrap ((IntKind.i64.wrap ((IntKind.i64.wrap (v1 + 1)) + 1)) + 1)) + 1)) + 1),()))
            else
             none
          else
           none
        else
         none
      else
       none
    else
     none
  else
   none
 else
  if decide (r0.length = l0) then
   some (v1,r0)
  else
   none :=
 (goL_dn _ _ _ 4000 _ _).trans (by kernel_rfl)
def laws_markCordS_k0 : C :=
 .seq (.seq (.reg false [.V 6 (.mv (.t 5)),.V 7 (.mv (.t 0)),.V 8 (.len (.t 7)),.V 9 (.bin .lss (.t 6) (.t 8))] [0,1,5,9] [0]) (.cond (.t 9) .skip (.exit 0))) (.seq (.block 1 (.seq (.reg false [.V 12 (.mv (.t 0)),.V 13 (.mv (.t 5)),.V 14 (.mv (.t 1)),.V 15 (.ia 4 (.t 12) (.t 13)),.V 16 (.fa 0 (.t 15)),⟨none,true,.sto 1 (.t 16) (.t 14),none,false,[]⟩] [0,1,5] [0]) (.seq (.reg false [.V 17 (.mv (.t 1)),.V 18 (.bin .add (.t 17) (.c (.int .i64 1))),.V 1 (.asg (.t 18))] [0,1,5] [0]) (.seq (.reg false [.V 19 (.mv (.t 0)),.V 20 (.mv (.t 5)),.V 21 (.mv (.t 1)),.V 22 (.ia 4 (.t 19) (.t 20)),.V 23 (.fa 1 (.t 22)),⟨none,true,.sto 1 (.t 23) (.t 21),none,false,[]⟩] [0,1,5] [0]) (.seq (.reg false [.V 24 (.mv (.t 1)),.V 25 (.bin .add (.t 24) (.c (.int .i64 1))),.V 1 (.asg (.t 25))] [0,1,5] [0]) (.seq (.reg false [.V 26 (.mv (.t 0)),.V 27 (.mv (.t 5)),.V 28 (.mv (.t 1)),.V 29 (.ia 4 (.t 26) (.t 27)),.V 30 (.fa 2 (.t 29)),⟨none,true,.sto 1 (.t 30) (.t 28),none,false,[]⟩] [0,1,5] [0]) (.seq (.reg false [.V 31 (.mv (.t 1)),.V 32 (.bin .add (.t 31) (.c (.int .i64 1))),.V 1 (.asg (.t 32))] [0,1,5] [0]) (.seq (.reg false [.V 33 (.mv (.t 0)),.V 34 (.mv (.t 5)),.V 35 (.mv (.t 1)),.V 36 (.ia 4 (.t 33) (.t 34)),.V 37 (.fa 3 (.t 36)),⟨none,true,.sto 1 (.t 37) (.t 35),none,false,[]⟩] [0,1,5] [0]) (.reg false [.V 38 (.mv (.t 1)),.V 39 (.bin .add (.t 38) (.c (.int .i64 1))),.V 1 (.asg (.t 39))] [0,1,5] [0]))))))))) (.reg false [.V 10 (.mv (.t 5)),.V 11 (.bin .add (.t 10) (.c (.int .i64 1))),.V 5 (.asg (.t 11))] [0,1,5] [0]))
def laws_markCordS_k1 : C :=
 .norm [0,1,5] [0] laws_markCordS_k0
def laws_markCordS_k2 : C :=
 .seq (.reg false [.V 40 (.mv (.t 1)),.V 4 (.asg (.t 40))] [0,4] [0]) .ret
def laws_markCordS_ir : Fn := { np := 2,io := [true,false],res := [.t 4],own := [false],body :=
 (.seq (.reg false [.V 4 (.asg (.c (.int .i64 0)))] [0,1] [0]) (.seq (.seq (.reg false [.V 5 (.asg (.c (.int .i64 0)))] [0,1,5] [0]) (.block 0 (.loop laws_markCordS_k1))) laws_markCordS_k2)) }
noncomputable def laws_markCordS_D : List (Nat × Callee) := []
def laws_markCordS_H : List (Nat × ET) := [(7,T_Neck),(12,T_Neck),(19,T_Neck),(26,T_Neck),(33,T_Neck)]
noncomputable def laws_markCordS_c : Callee := mkCallee laws_markCordS_D laws_markCordS_H laws_markCordS_ir [.ios T_Neck,.d (.one (.int .i64))] [.d (.one (.int .i64))] [.ios T_Neck]
noncomputable def laws_markCordS (a0 : List T_Neck.ty) (a1 : Int) : Option (Int × List T_Neck.ty) := laws_markCordS_c.f (a0,a1,())
noncomputable def laws_markCordS_p0 (l0 : Nat) (v0n : Nat) (v1 : Int) (v5 : Int) (r0 : List T_Neck.ty) : Option (Int × List T_Neck.ty) :=
 goL laws_markCordS_D laws_markCordS_H (vleave laws_markCordS_ir [.ios T_Neck,.d (.one (.int .i64))] [.d (.one (.int .i64))] [.ios T_Neck] [l0]) [.c laws_markCordS_k0,.l laws_markCordS_k1,.e 0,.c laws_markCordS_k2]
  ⟨[(0,.view 0 0 v0n),(1,.int .i64 v1),(5,.int .i64 v5)],[(0,some (.sl T_Neck r0))]⟩
theorem laws_markCordS_eq (a0 : List T_Neck.ty) (a1 : Int) : laws_markCordS a0 a1 =
 laws_markCordS_p0 a0.length a0.length a1 0 a0 :=
 (mk_f _ _ _ _ _ _ _ 4000).trans (by kernel_rfl)
theorem laws_markCordS_p0_eq (l0 : Nat) (v0n : Nat) (v1 : Int) (v5 : Int) (r0 : List T_Neck.ty) : laws_markCordS_p0 l0 v0n v1 v5 r0 =
 if decide (v5 < (v0n : Int)) then
  if decide (0 ≤ v5) && decide (v5 < (v0n : Int)) then
   (r0[v5.toNat]?).bind fun x1 =>
    if decide (0 ≤ v5) && decide (v5 < (v0n : Int)) then
     ((r0.set v5.toNat (v1,x1.2.1,x1.2.2.1,x1.2.2.2.1,()))[v5.toNat]?).bind fun x2 =>
      if decide (0 ≤ v5) && decide (v5 < (v0n : Int)) then
       (((r0.set v5.toNat (v1,x1.2.1,x1.2.2.1,x1.2.2.2.1,())).set v5.toNat (x2.1,IntKind.i64.wrap (v1 + 1),x2.2.2.1,x2.2.2.2.1,()))[v5.toNat]?).bind fun x3 =>
        if decide (0 ≤ v5) && decide (v5 < (v0n : Int)) then
         ((((r0.set v5.toNat (v1,x1.2.1,x1.2.2.1,x1.2.2.2.1,())).set v5.toNat (x2.1,IntKind.i64.wrap (v1 + 1),x2.2.2.1,x2.2.2.2.1,())).set v5.toNat (x3.1,x3.2.1,IntKind.i64.wrap ((IntKind.i64.wrap (v1 + 1)) + 1),x3.2.2.2.1,()))[v5.toNat]?).bind fun x4 =>
          laws_markCordS_p0 l0 v0n (IntKind.i64.wrap ((IntKind.i64.wrap ((IntKind.i64.wrap ((IntKind.i64.wrap (v1 + 1)) + 1)) + 1)) + 1)) (IntKind.i64.wrap (v5 + 1)) ((((r0.set v5.toNat (v1,x1.2.1,x1.2.2.1,x1.2.2.2.1,())).set v5.toNat (x2.1,IntKind.i64.wrap (v1 + 1),x2.2.2.1,x2.2.2.2.1,())).set v5.toNat (x3.1,x3.2.1,IntKind.i64.wrap ((IntKind.i64.wrap (v1 + 1)) + 1),x3.2.2.2.1,())).set v5.toNat (x4.1,x4.2.1,x4.2.2.1,IntKind.i64.wrap ((IntKind.i64.wrap ((IntKind.i64.wrap (v1 + 1)) + 1)) + 1),()))
        else
         none
      else
       none
    else
     none
  else
   none
 else
  if decide (r0.length = l0) then
   some (v1,r0)
  else
   none :=
 (goL_dn _ _ _ 4000 _ _).trans (by kernel_rfl)
end Go.Ab.P
