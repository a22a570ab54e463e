/- Functions of the program: abstract forms, and what their runs give. Conditions: none. -/
import Derived.Test.YtdejhkhdilcadaaL4
set_option maxRecDepth 100000
set_option linter.unusedVariables false
namespace Go.Ab.P
open Go.Ab
@[reducible] def T_Pot : ET := .agg (.cons .str (.cons (.int .i64) (.cons (.int .i64) (.cons (.int .i64) (.cons (.int .i64) .nil)))))
@[reducible] def T_Neck : ET := .agg (.cons (.int .i64) (.cons (.int .i64) (.cons (.int .i64) (.cons (.int .i64) .nil))))
@[reducible] def T_Peg : ET := .agg (.cons .str (.cons (.int .i64) (.cons (.int .i64) (.cons (.int .i64) .nil))))
@[reducible] def T_Mode : ET := .agg (.cons .str (.cons (.int .i64) (.cons (.int .i64) .nil)))
@[reducible] def T_Paper : ET := .agg (.cons .str (.cons .str (.cons (.int .i64) (.cons (.int .i64) (.cons (.int .i64) .nil)))))
@[reducible] def T_Desk : ET := .agg (.cons (.sl T_Peg) (.cons (.sl T_Mode) (.cons (.sl (.one (.sl (.one (.int .i64))))) (.cons (.int .i64) (.cons (.int .i64) (.cons (.int .i64) (.cons (.int .i64) (.cons (.sl T_Peg) (.cons (.sl T_Pot) (.cons (.sl T_Mode) (.cons (.sl T_Peg) (.cons (.sl T_Paper) .nil))))))))))))
/- laws.szStack -/
def laws_szStack_ir : Fn := { np := 2, io := [], res := [.t 4], own := [false], body :=
 (.seq (.reg false [.W 2 (.box 4 (.t 0)), .V 4 (.asg (.c (.int .i64 0)))] [1, 2] [2]) (.seq (.reg false [.V 5 (.mv (.t 1)), .V 6 (.fa 0 (.t 2)), .V 7 (.ld none (.t 6)), .V 8 (.lens (.t 7)), .V 9 (.bin .sub (.t 5) (.t 8)), .V 1 (.asg (.t 9))] [1] []) (.seq (.seq (.reg false [.V 10 (.mv (.t 1)), .V 11 (.bin .lss (.t 10) (.c (.int .i64 0)))] [1, 11] []) (.cond (.t 11) (.seq (.reg false [.V 4 (.asg (.c (.int .i64 (-1))))] [4] []) .ret) .skip)) (.seq (.reg false [.V 12 (.mv (.t 1)), .V 4 (.asg (.t 12))] [4] []) .ret)))) }
noncomputable def laws_szStack_D : List (Nat × Callee) := []
def laws_szStack_H : List (Nat × ET) := []
noncomputable def laws_szStack_c : Callee := mkCallee laws_szStack_D laws_szStack_H laws_szStack_ir [.d T_Peg, .d (.one (.int .i64))] [.d (.one (.int .i64))] []
noncomputable def laws_szStack (a0 : T_Peg.ty) (a1 : Int) : Option (Int) := laws_szStack_c.f (a0, a1, ())
theorem laws_szStack_eq (a0 : T_Peg.ty) (a1 : Int) : laws_szStack a0 a1 =
  if decide (IntKind.i64.wrap (a1 - (a0.1.length : Int)) < 0) then
   some (-1)
  else
   some (IntKind.i64.wrap (a1 - (a0.1.length : Int))) :=
 (mk_f _ _ _ _ _ _ _ 4000).trans (by kernel_rfl)

/- laws.szStackS -/
def laws_szStackS_k0 : C :=
 .seq (.seq (.reg false [.V 12 (.mv (.t 5)), .V 13 (.mv (.t 0)), .V 14 (.len (.t 13)), .V 15 (.bin .lss (.t 12) (.t 14))] [0, 1, 5, 15] []) (.cond (.t 15) .skip (.exit 0))) (.seq (.block 1 (.seq (.reg false [.V 18 (.mv (.t 0)), .V 19 (.mv (.t 5)), .V 20 (.ia 4 (.t 18) (.t 19)), .V 21 (.ld (some 4) (.t 20)), .V 22 (.mv (.t 1)), .V 23 (.call (.c (.fn 913 [])) [.t 21, .t 22]), .V 1 (.asg (.t 23))] [0, 1, 5] []) (.seq (.reg false [.V 24 (.mv (.t 1)), .V 25 (.bin .lss (.t 24) (.c (.int .i64 0)))] [0, 1, 5, 25] []) (.cond (.t 25) (.seq (.reg false [.V 4 (.asg (.c (.int .i64 (-1))))] [4] []) .ret) .skip)))) (.reg false [.V 16 (.mv (.t 5)), .V 17 (.bin .add (.t 16) (.c (.int .i64 1))), .V 5 (.asg (.t 17))] [0, 1, 5] []))
def laws_szStackS_k1 : C :=
 .norm [0, 1, 5] [] laws_szStackS_k0
def laws_szStackS_k2 : C :=
 .seq (.reg false [.V 26 (.mv (.t 1)), .V 4 (.asg (.t 26))] [4] []) .ret
def laws_szStackS_ir : Fn := { np := 2, io := [], res := [.t 4], own := [false], body :=
 (.seq (.reg false [.V 4 (.asg (.c (.int .i64 0)))] [0, 1] []) (.seq (.reg false [.V 6 (.mv (.t 1)), .V 7 (.mv (.t 0)), .V 8 (.len (.t 7)), .V 9 (.bin .sub (.t 6) (.t 8)), .V 1 (.asg (.t 9))] [0, 1] []) (.seq (.seq (.reg false [.V 10 (.mv (.t 1)), .V 11 (.bin .lss (.t 10) (.c (.int .i64 0)))] [0, 1, 11] []) (.cond (.t 11) (.seq (.reg false [.V 4 (.asg (.c (.int .i64 (-1))))] [4] []) .ret) .skip)) (.seq (.seq (.reg false [.V 5 (.asg (.c (.int .i64 0)))] [0, 1, 5] []) (.block 0 (.loop laws_szStackS_k1))) laws_szStackS_k2)))) }
noncomputable def laws_szStackS_D : List (Nat × Callee) := [(913, laws_szStack_c)]
def laws_szStackS_H : List (Nat × ET) := [(7, T_Peg), (13, T_Peg), (18, T_Peg)]
noncomputable def laws_szStackS_c : Callee := mkCallee laws_szStackS_D laws_szStackS_H laws_szStackS_ir [.d (.one (.sl T_Peg)), .d (.one (.int .i64))] [.d (.one (.int .i64))] []
noncomputable def laws_szStackS (a0 : List T_Peg.ty) (a1 : Int) : Option (Int) := laws_szStackS_c.f (a0, a1, ())
noncomputable def laws_szStackS_p0  (v0 : List T_Peg.ty) (v1 : Int) (v5 : Int) : Option (Int) :=
 goL laws_szStackS_D laws_szStackS_H (vleave laws_szStackS_ir [.d (.one (.sl T_Peg)), .d (.one (.int .i64))] [.d (.one (.int .i64))] [] []) [.c laws_szStackS_k0, .l laws_szStackS_k1, .e 0, .c laws_szStackS_k2]
  ⟨[(0, .sl T_Peg v0), (1, .int .i64 v1), (5, .int .i64 v5)], []⟩
theorem laws_szStackS_eq (a0 : List T_Peg.ty) (a1 : Int) : laws_szStackS a0 a1 =
  if decide (IntKind.i64.wrap (a1 - (a0.length : Int)) < 0) then
   some (-1)
  else
   laws_szStackS_p0 a0 (IntKind.i64.wrap (a1 - (a0.length : Int))) 0 :=
 (mk_f _ _ _ _ _ _ _ 4000).trans (by kernel_rfl)
theorem laws_szStackS_p0_eq  (v0 : List T_Peg.ty) (v1 : Int) (v5 : Int) : laws_szStackS_p0 v0 v1 v5 =
  if decide (v5 < (v0.length : Int)) then
   if decide (0 ≤ v5) then
    (v0[v5.toNat]?).bind fun x1 =>
     (laws_szStack x1 v1).bind fun x2 =>
      if decide (x2 < 0) then
       some (-1)
      else
       laws_szStackS_p0 v0 x2 (IntKind.i64.wrap (v5 + 1))
   else
    none
  else
   some v1 :=
 (goL_dn _ _ _ 4000 _ _).trans (by kernel_rfl)

/- laws.szRib -/
def laws_szRib_ir : Fn := { np := 2, io := [], res := [.t 4], own := [false], body :=
 (.seq (.reg false [.W 2 (.box 3 (.t 0)), .V 4 (.asg (.c (.int .i64 0)))] [1, 2] [2]) (.seq (.reg false [.V 5 (.mv (.t 1)), .V 6 (.fa 0 (.t 2)), .V 7 (.ld none (.t 6)), .V 8 (.lens (.t 7)), .V 9 (.bin .sub (.t 5) (.t 8)), .V 1 (.asg (.t 9))] [1] []) (.seq (.seq (.reg false [.V 10 (.mv (.t 1)), .V 11 (.bin .lss (.t 10) (.c (.int .i64 0)))] [1, 11] []) (.cond (.t 11) (.seq (.reg false [.V 4 (.asg (.c (.int .i64 (-1))))] [4] []) .ret) .skip)) (.seq (.reg false [.V 12 (.mv (.t 1)), .V 4 (.asg (.t 12))] [4] []) .ret)))) }
noncomputable def laws_szRib_D : List (Nat × Callee) := []
def laws_szRib_H : List (Nat × ET) := []
noncomputable def laws_szRib_c : Callee := mkCallee laws_szRib_D laws_szRib_H laws_szRib_ir [.d T_Mode, .d (.one (.int .i64))] [.d (.one (.int .i64))] []
noncomputable def laws_szRib (a0 : T_Mode.ty) (a1 : Int) : Option (Int) := laws_szRib_c.f (a0, a1, ())
theorem laws_szRib_eq (a0 : T_Mode.ty) (a1 : Int) : laws_szRib a0 a1 =
  if decide (IntKind.i64.wrap (a1 - (a0.1.length : Int)) < 0) then
   some (-1)
  else
   some (IntKind.i64.wrap (a1 - (a0.1.length : Int))) :=
 (mk_f _ _ _ _ _ _ _ 4000).trans (by kernel_rfl)

/- laws.szRibS -/
def laws_szRibS_k0 : C :=
 .seq (.seq (.reg false [.V 12 (.mv (.t 5)), .V 13 (.mv (.t 0)), .V 14 (.len (.t 13)), .V 15 (.bin .lss (.t 12) (.t 14))] [0, 1, 5, 15] []) (.cond (.t 15) .skip (.exit 0))) (.seq (.block 1 (.seq (.reg false [.V 18 (.mv (.t 0)), .V 19 (.mv (.t 5)), .V 20 (.ia 3 (.t 18) (.t 19)), .V 21 (.ld (some 3) (.t 20)), .V 22 (.mv (.t 1)), .V 23 (.call (.c (.fn 914 [])) [.t 21, .t 22]), .V 1 (.asg (.t 23))] [0, 1, 5] []) (.seq (.reg false [.V 24 (.mv (.t 1)), .V 25 (.bin .lss (.t 24) (.c (.int .i64 0)))] [0, 1, 5, 25] []) (.cond (.t 25) (.seq (.reg false [.V 4 (.asg (.c (.int .i64 (-1))))] [4] []) .ret) .skip)))) (.reg false [.V 16 (.mv (.t 5)), .V 17 (.bin .add (.t 16) (.c (.int .i64 1))), .V 5 (.asg (.t 17))] [0, 1, 5] []))
def laws_szRibS_k1 : C :=
 .norm [0, 1, 5] [] laws_szRibS_k0
def laws_szRibS_k2 : C :=
 .seq (.reg false [.V 26 (.mv (.t 1)), .V 4 (.asg (.t 26))] [4] []) .ret
def laws_szRibS_ir : Fn := { np := 2, io := [], res := [.t 4], own := [false], body :=
 (.seq (.reg false [.V 4 (.asg (.c (.int .i64 0)))] [0, 1] []) (.seq (.reg false [.V 6 (.mv (.t 1)), .V 7 (.mv (.t 0)), .V 8 (.len (.t 7)), .V 9 (.bin .sub (.t 6) (.t 8)), .V 1 (.asg (.t 9))] [0, 1] []) (.seq (.seq (.reg false [.V 10 (.mv (.t 1)), .V 11 (.bin .lss (.t 10) (.c (.int .i64 0)))] [0, 1, 11] []) (.cond (.t 11) (.seq (.reg false [.V 4 (.asg (.c (.int .i64 (-1))))] [4] []) .ret) .skip)) (.seq (.seq (.reg false [.V 5 (.asg (.c (.int .i64 0)))] [0, 1, 5] []) (.block 0 (.loop laws_szRibS_k1))) laws_szRibS_k2)))) }
noncomputable def laws_szRibS_D : List (Nat × Callee) := [(914, laws_szRib_c)]
def laws_szRibS_H : List (Nat × ET) := [(7, T_Mode), (13, T_Mode), (18, T_Mode)]
noncomputable def laws_szRibS_c : Callee := mkCallee laws_szRibS_D laws_szRibS_H laws_szRibS_ir [.d (.one (.sl T_Mode)), .d (.one (.int .i64))] [.d (.one (.int .i64))] []
noncomputable def laws_szRibS (a0 : List T_Mode.ty) (a1 : Int) : Option (Int) := laws_szRibS_c.f (a0, a1, ())
noncomputable def laws_szRibS_p0  (v0 : List T_Mode.ty) (v1 : Int) (v5 : Int) : Option (Int) :=
 goL laws_szRibS_D laws_szRibS_H (vleave laws_szRibS_ir [.d (.one (.sl T_Mode)), .d (.one (.int .i64))] [.d (.one (.int .i64))] [] []) [.c laws_szRibS_k0, .l laws_szRibS_k1, .e 0, .c laws_szRibS_k2]
  ⟨[(0, .sl T_Mode v0), (1, .int .i64 v1), (5, .int .i64 v5)], []⟩
theorem laws_szRibS_eq (a0 : List T_Mode.ty) (a1 : Int) : laws_szRibS a0 a1 =
  if decide (IntKind.i64.wrap (a1 - (a0.length : Int)) < 0) then
   some (-1)
  else
   laws_szRibS_p0 a0 (IntKind.i64.wrap (a1 - (a0.length : Int))) 0 :=
 (mk_f _ _ _ _ _ _ _ 4000).trans (by kernel_rfl)
theorem laws_szRibS_p0_eq  (v0 : List T_Mode.ty) (v1 : Int) (v5 : Int) : laws_szRibS_p0 v0 v1 v5 =
  if decide (v5 < (v0.length : Int)) then
   if decide (0 ≤ v5) then
    (v0[v5.toNat]?).bind fun x1 =>
     (laws_szRib x1 v1).bind fun x2 =>
      if decide (x2 < 0) then
       some (-1)
      else
       laws_szRibS_p0 v0 x2 (IntKind.i64.wrap (v5 + 1))
   else
    none
  else
   some v1 :=
 (goL_dn _ _ _ 4000 _ _).trans (by kernel_rfl)

/- laws.szInt64S -/
def laws_szInt64S_ir : Fn := { np := 2, io := [], res := [.t 4], own := [false], body :=
 (.seq (.reg false [.V 4 (.asg (.c (.int .i64 0)))] [0, 1] []) (.seq (.reg false [.V 5 (.mv (.t 1)), .V 6 (.mv (.t 0)), .V 7 (.len (.t 6)), .V 8 (.bin .sub (.t 5) (.t 7)), .V 1 (.asg (.t 8))] [1] []) (.seq (.seq (.reg false [.V 9 (.mv (.t 1)), .V 10 (.bin .lss (.t 9) (.c (.int .i64 0)))] [1, 10] []) (.cond (.t 10) (.seq (.reg false [.V 4 (.asg (.c (.int .i64 (-1))))] [4] []) .ret) .skip)) (.seq (.reg false [.V 11 (.mv (.t 1)), .V 4 (.asg (.t 11))] [4] []) .ret)))) }
noncomputable def laws_szInt64S_D : List (Nat × Callee) := []
def laws_szInt64S_H : List (Nat × ET) := [(6, (.one (.int .i64)))]
noncomputable def laws_szInt64S_c : Callee := mkCallee laws_szInt64S_D laws_szInt64S_H laws_szInt64S_ir [.d (.one (.sl (.one (.int .i64)))), .d (.one (.int .i64))] [.d (.one (.int .i64))] []
noncomputable def laws_szInt64S (a0 : List Int) (a1 : Int) : Option (Int) := laws_szInt64S_c.f (a0, a1, ())
theorem laws_szInt64S_eq (a0 : List Int) (a1 : Int) : laws_szInt64S a0 a1 =
  if decide (IntKind.i64.wrap (a1 - (a0.length : Int)) < 0) then
   some (-1)
  else
   some (IntKind.i64.wrap (a1 - (a0.length : Int))) :=
 (mk_f _ _ _ _ _ _ _ 4000).trans (by kernel_rfl)

/- laws.szInt64SS -/
def laws_szInt64SS_k0 : C :=
 .seq (.seq (.reg false [.V 12 (.mv (.t 5)), .V 13 (.mv (.t 0)), .V 14 (.len (.t 13)), .V 15 (.bin .lss (.t 12) (.t 14))] [0, 1, 5, 15] []) (.cond (.t 15) .skip (.exit 0))) (.seq (.block 1 (.seq (.reg false [.V 18 (.mv (.t 0)), .V 19 (.mv (.t 5)), .V 20 (.ia 1 (.t 18) (.t 19)), .V 21 (.ld none (.t 20)), .V 22 (.mv (.t 1)), .V 23 (.call (.c (.fn 598 [])) [.t 21, .t 22]), .V 1 (.asg (.t 23))] [0, 1, 5] []) (.seq (.reg false [.V 24 (.mv (.t 1)), .V 25 (.bin .lss (.t 24) (.c (.int .i64 0)))] [0, 1, 5, 25] []) (.cond (.t 25) (.seq (.reg false [.V 4 (.asg (.c (.int .i64 (-1))))] [4] []) .ret) .skip)))) (.reg false [.V 16 (.mv (.t 5)), .V 17 (.bin .add (.t 16) (.c (.int .i64 1))), .V 5 (.asg (.t 17))] [0, 1, 5] []))
def laws_szInt64SS_k1 : C :=
 .norm [0, 1, 5] [] laws_szInt64SS_k0
def laws_szInt64SS_k2 : C :=
 .seq (.reg false [.V 26 (.mv (.t 1)), .V 4 (.asg (.t 26))] [4] []) .ret
def laws_szInt64SS_ir : Fn := { np := 2, io := [], res := [.t 4], own := [false], body :=
 (.seq (.reg false [.V 4 (.asg (.c (.int .i64 0)))] [0, 1] []) (.seq (.reg false [.V 6 (.mv (.t 1)), .V 7 (.mv (.t 0)), .V 8 (.len (.t 7)), .V 9 (.bin .sub (.t 6) (.t 8)), .V 1 (.asg (.t 9))] [0, 1] []) (.seq (.seq (.reg false [.V 10 (.mv (.t 1)), .V 11 (.bin .lss (.t 10) (.c (.int .i64 0)))] [0, 1, 11] []) (.cond (.t 11) (.seq (.reg false [.V 4 (.asg (.c (.int .i64 (-1))))] [4] []) .ret) .skip)) (.seq (.seq (.reg false [.V 5 (.asg (.c (.int .i64 0)))] [0, 1, 5] []) (.block 0 (.loop laws_szInt64SS_k1))) laws_szInt64SS_k2)))) }
noncomputable def laws_szInt64SS_D : List (Nat × Callee) := [(598, laws_szInt64S_c)]
def laws_szInt64SS_H : List (Nat × ET) := [(7, (.one (.sl (.one (.int .i64))))), (13, (.one (.sl (.one (.int .i64))))), (18, (.one (.sl (.one (.int .i64))))), (21, (.one (.int .i64)))]
noncomputable def laws_szInt64SS_c : Callee := mkCallee laws_szInt64SS_D laws_szInt64SS_H laws_szInt64SS_ir [.d (.one (.sl (.one (.sl (.one (.int .i64)))))), .d (.one (.int .i64))] [.d (.one (.int .i64))] []
noncomputable def laws_szInt64SS (a0 : List (List Int)) (a1 : Int) : Option (Int) := laws_szInt64SS_c.f (a0, a1, ())
noncomputable def laws_szInt64SS_p0  (v0 : List (List Int)) (v1 : Int) (v5 : Int) : Option (Int) :=
 goL laws_szInt64SS_D laws_szInt64SS_H (vleave laws_szInt64SS_ir [.d (.one (.sl (.one (.sl (.one (.int .i64)))))), .d (.one (.int .i64))] [.d (.one (.int .i64))] [] []) [.c laws_szInt64SS_k0, .l laws_szInt64SS_k1, .e 0, .c laws_szInt64SS_k2]
  ⟨[(0, .sl (.one (.sl (.one (.int .i64)))) v0), (1, .int .i64 v1), (5, .int .i64 v5)], []⟩
theorem laws_szInt64SS_eq (a0 : List (List Int)) (a1 : Int) : laws_szInt64SS a0 a1 =
  if decide (IntKind.i64.wrap (a1 - (a0.length : Int)) < 0) then
   some (-1)
  else
   laws_szInt64SS_p0 a0 (IntKind.i64.wrap (a1 - (a0.length : Int))) 0 :=
 (mk_f _ _ _ _ _ _ _ 4000).trans (by kernel_rfl)
theorem laws_szInt64SS_p0_eq  (v0 : List (List Int)) (v1 : Int) (v5 : Int) : laws_szInt64SS_p0 v0 v1 v5 =
  if decide (v5 < (v0.length : Int)) then
   if decide (0 ≤ v5) then
    (v0[v5.toNat]?).bind fun x1 =>
     (laws_szInt64S x1 v1).bind fun x2 =>
      if decide (x2 < 0) then
       some (-1)
      else
       laws_szInt64SS_p0 v0 x2 (IntKind.i64.wrap (v5 + 1))
   else
    none
  else
   some v1 :=
 (goL_dn _ _ _ 4000 _ _).trans (by kernel_rfl)

/- laws.szPeg -/
def laws_szPeg_ir : Fn := { np := 2, io := [], res := [.t 4], own := [false], body :=
 (.seq (.reg false [.W 2 (.box 4 (.t 0)), .V 4 (.asg (.c (.int .i64 0)))] [1, 2] [2]) (.seq (.reg false [.V 5 (.mv (.t 1)), .V 6 (.fa 0 (.t 2)), .V 7 (.ld none (.t 6)), .V 8 (.lens (.t 7)), .V 9 (.bin .sub (.t 5) (.t 8)), .V 1 (.asg (.t 9))] [1] []) (.seq (.seq (.reg false [.V 10 (.mv (.t 1)), .V 11 (.bin .lss (.t 10) (.c (.int .i64 0)))] [1, 11] []) (.cond (.t 11) (.seq (.reg false [.V 4 (.asg (.c (.int .i64 (-1))))] [4] []) .ret) .skip)) (.seq (.reg false [.V 12 (.mv (.t 1)), .V 4 (.asg (.t 12))] [4] []) .ret)))) }
noncomputable def laws_szPeg_D : List (Nat × Callee) := []
def laws_szPeg_H : List (Nat × ET) := []
noncomputable def laws_szPeg_c : Callee := mkCallee laws_szPeg_D laws_szPeg_H laws_szPeg_ir [.d T_Peg, .d (.one (.int .i64))] [.d (.one (.int .i64))] []
noncomputable def laws_szPeg (a0 : T_Peg.ty) (a1 : Int) : Option (Int) := laws_szPeg_c.f (a0, a1, ())
theorem laws_szPeg_eq (a0 : T_Peg.ty) (a1 : Int) : laws_szPeg a0 a1 =
  if decide (IntKind.i64.wrap (a1 - (a0.1.length : Int)) < 0) then
   some (-1)
  else
   some (IntKind.i64.wrap (a1 - (a0.1.length : Int))) :=
 (mk_f _ _ _ _ _ _ _ 4000).trans (by kernel_rfl)

/- laws.szPegS -/
def laws_szPegS_k0 : C :=
 .seq (.seq (.reg false [.V 12 (.mv (.t 5)), .V 13 (.mv (.t 0)), .V 14 (.len (.t 13)), .V 15 (.bin .lss (.t 12) (.t 14))] [0, 1, 5, 15] []) (.cond (.t 15) .skip (.exit 0))) (.seq (.block 1 (.seq (.reg false [.V 18 (.mv (.t 0)), .V 19 (.mv (.t 5)), .V 20 (.ia 4 (.t 18) (.t 19)), .V 21 (.ld (some 4) (.t 20)), .V 22 (.mv (.t 1)), .V 23 (.call (.c (.fn 493 [])) [.t 21, .t 22]), .V 1 (.asg (.t 23))] [0, 1, 5] []) (.seq (.reg false [.V 24 (.mv (.t 1)), .V 25 (.bin .lss (.t 24) (.c (.int .i64 0)))] [0, 1, 5, 25] []) (.cond (.t 25) (.seq (.reg false [.V 4 (.asg (.c (.int .i64 (-1))))] [4] []) .ret) .skip)))) (.reg false [.V 16 (.mv (.t 5)), .V 17 (.bin .add (.t 16) (.c (.int .i64 1))), .V 5 (.asg (.t 17))] [0, 1, 5] []))
def laws_szPegS_k1 : C :=
 .norm [0, 1, 5] [] laws_szPegS_k0
def laws_szPegS_k2 : C :=
 .seq (.reg false [.V 26 (.mv (.t 1)), .V 4 (.asg (.t 26))] [4] []) .ret
def laws_szPegS_ir : Fn := { np := 2, io := [], res := [.t 4], own := [false], body :=
 (.seq (.reg false [.V 4 (.asg (.c (.int .i64 0)))] [0, 1] []) (.seq (.reg false [.V 6 (.mv (.t 1)), .V 7 (.mv (.t 0)), .V 8 (.len (.t 7)), .V 9 (.bin .sub (.t 6) (.t 8)), .V 1 (.asg (.t 9))] [0, 1] []) (.seq (.seq (.reg false [.V 10 (.mv (.t 1)), .V 11 (.bin .lss (.t 10) (.c (.int .i64 0)))] [0, 1, 11] []) (.cond (.t 11) (.seq (.reg false [.V 4 (.asg (.c (.int .i64 (-1))))] [4] []) .ret) .skip)) (.seq (.seq (.reg false [.V 5 (.asg (.c (.int .i64 0)))] [0, 1, 5] []) (.block 0 (.loop laws_szPegS_k1))) laws_szPegS_k2)))) }
noncomputable def laws_szPegS_D : List (Nat × Callee) := [(493, laws_szPeg_c)]
def laws_szPegS_H : List (Nat × ET) := [(7, T_Peg), (13, T_Peg), (18, T_Peg)]
noncomputable def laws_szPegS_c : Callee := mkCallee laws_szPegS_D laws_szPegS_H laws_szPegS_ir [.d (.one (.sl T_Peg)), .d (.one (.int .i64))] [.d (.one (.int .i64))] []
noncomputable def laws_szPegS (a0 : List T_Peg.ty) (a1 : Int) : Option (Int) := laws_szPegS_c.f (a0, a1, ())
noncomputable def laws_szPegS_p0  (v0 : List T_Peg.ty) (v1 : Int) (v5 : Int) : Option (Int) :=
 goL laws_szPegS_D laws_szPegS_H (vleave laws_szPegS_ir [.d (.one (.sl T_Peg)), .d (.one (.int .i64))] [.d (.one (.int .i64))] [] []) [.c laws_szPegS_k0, .l laws_szPegS_k1, .e 0, .c laws_szPegS_k2]
  ⟨[(0, .sl T_Peg v0), (1, .int .i64 v1), (5, .int .i64 v5)], []⟩
theorem laws_szPegS_eq (a0 : List T_Peg.ty) (a1 : Int) : laws_szPegS a0 a1 =
  if decide (IntKind.i64.wrap (a1 - (a0.length : Int)) < 0) then
   some (-1)
  else
   laws_szPegS_p0 a0 (IntKind.i64.wrap (a1 - (a0.length : Int))) 0 :=
 (mk_f _ _ _ _ _ _ _ 4000).trans (by kernel_rfl)
theorem laws_szPegS_p0_eq  (v0 : List T_Peg.ty) (v1 : Int) (v5 : Int) : laws_szPegS_p0 v0 v1 v5 =
  if decide (v5 < (v0.length : Int)) then
   if decide (0 ≤ v5) then
    (v0[v5.toNat]?).bind fun x1 =>
     (laws_szPeg x1 v1).bind fun x2 =>
      if decide (x2 < 0) then
       some (-1)
      else
       laws_szPegS_p0 v0 x2 (IntKind.i64.wrap (v5 + 1))
   else
    none
  else
   some v1 :=
 (goL_dn _ _ _ 4000 _ _).trans (by kernel_rfl)

/- laws.szPot -/
def laws_szPot_ir : Fn := { np := 2, io := [], res := [.t 4], own := [false], body :=
 (.seq (.reg false [.W 2 (.box 5 (.t 0)), .V 4 (.asg (.c (.int .i64 0)))] [1, 2] [2]) (.seq (.reg false [.V 5 (.mv (.t 1)), .V 6 (.fa 0 (.t 2)), .V 7 (.ld none (.t 6)), .V 8 (.lens (.t 7)), .V 9 (.bin .sub (.t 5) (.t 8)), .V 1 (.asg (.t 9))] [1] []) (.seq (.seq (.reg false [.V 10 (.mv (.t 1)), .V 11 (.bin .lss (.t 10) (.c (.int .i64 0)))] [1, 11] []) (.cond (.t 11) (.seq (.reg false [.V 4 (.asg (.c (.int .i64 (-1))))] [4] []) .ret) .skip)) (.seq (.reg false [.V 12 (.mv (.t 1)), .V 4 (.asg (.t 12))] [4] []) .ret)))) }
noncomputable def laws_szPot_D : List (Nat × Callee) := []
def laws_szPot_H : List (Nat × ET) := []
noncomputable def laws_szPot_c : Callee := mkCallee laws_szPot_D laws_szPot_H laws_szPot_ir [.d T_Pot, .d (.one (.int .i64))] [.d (.one (.int .i64))] []
noncomputable def laws_szPot (a0 : T_Pot.ty) (a1 : Int) : Option (Int) := laws_szPot_c.f (a0, a1, ())
theorem laws_szPot_eq (a0 : T_Pot.ty) (a1 : Int) : laws_szPot a0 a1 =
  if decide (IntKind.i64.wrap (a1 - (a0.1.length : Int)) < 0) then
   some (-1)
  else
   some (IntKind.i64.wrap (a1 - (a0.1.length : Int))) :=
 (mk_f _ _ _ _ _ _ _ 4000).trans (by kernel_rfl)

/- laws.szPotS -/
def laws_szPotS_k0 : C :=
 .seq (.seq (.reg false [.V 12 (.mv (.t 5)), .V 13 (.mv (.t 0)), .V 14 (.len (.t 13)), .V 15 (.bin .lss (.t 12) (.t 14))] [0, 1, 5, 15] []) (.cond (.t 15) .skip (.exit 0))) (.seq (.block 1 (.seq (.reg false [.V 18 (.mv (.t 0)), .V 19 (.mv (.t 5)), .V 20 (.ia 5 (.t 18) (.t 19)), .V 21 (.ld (some 5) (.t 20)), .V 22 (.mv (.t 1)), .V 23 (.call (.c (.fn 34 [])) [.t 21, .t 22]), .V 1 (.asg (.t 23))] [0, 1, 5] []) (.seq (.reg false [.V 24 (.mv (.t 1)), .V 25 (.bin .lss (.t 24) (.c (.int .i64 0)))] [0, 1, 5, 25] []) (.cond (.t 25) (.seq (.reg false [.V 4 (.asg (.c (.int .i64 (-1))))] [4] []) .ret) .skip)))) (.reg false [.V 16 (.mv (.t 5)), .V 17 (.bin .add (.t 16) (.c (.int .i64 1))), .V 5 (.asg (.t 17))] [0, 1, 5] []))
def laws_szPotS_k1 : C :=
 .norm [0, 1, 5] [] laws_szPotS_k0
def laws_szPotS_k2 : C :=
 .seq (.reg false [.V 26 (.mv (.t 1)), .V 4 (.asg (.t 26))] [4] []) .ret
def laws_szPotS_ir : Fn := { np := 2, io := [], res := [.t 4], own := [false], body :=
 (.seq (.reg false [.V 4 (.asg (.c (.int .i64 0)))] [0, 1] []) (.seq (.reg false [.V 6 (.mv (.t 1)), .V 7 (.mv (.t 0)), .V 8 (.len (.t 7)), .V 9 (.bin .sub (.t 6) (.t 8)), .V 1 (.asg (.t 9))] [0, 1] []) (.seq (.seq (.reg false [.V 10 (.mv (.t 1)), .V 11 (.bin .lss (.t 10) (.c (.int .i64 0)))] [0, 1, 11] []) (.cond (.t 11) (.seq (.reg false [.V 4 (.asg (.c (.int .i64 (-1))))] [4] []) .ret) .skip)) (.seq (.seq (.reg false [.V 5 (.asg (.c (.int .i64 0)))] [0, 1, 5] []) (.block 0 (.loop laws_szPotS_k1))) laws_szPotS_k2)))) }
noncomputable def laws_szPotS_D : List (Nat × Callee) := [(34, laws_szPot_c)]
def laws_szPotS_H : List (Nat × ET) := [(7, T_Pot), (13, T_Pot), (18, T_Pot)]
noncomputable def laws_szPotS_c : Callee := mkCallee laws_szPotS_D laws_szPotS_H laws_szPotS_ir [.d (.one (.sl T_Pot)), .d (.one (.int .i64))] [.d (.one (.int .i64))] []
noncomputable def laws_szPotS (a0 : List T_Pot.ty) (a1 : Int) : Option (Int) := laws_szPotS_c.f (a0, a1, ())
noncomputable def laws_szPotS_p0  (v0 : List T_Pot.ty) (v1 : Int) (v5 : Int) : Option (Int) :=
 goL laws_szPotS_D laws_szPotS_H (vleave laws_szPotS_ir [.d (.one (.sl T_Pot)), .d (.one (.int .i64))] [.d (.one (.int .i64))] [] []) [.c laws_szPotS_k0, .l laws_szPotS_k1, .e 0, .c laws_szPotS_k2]
  ⟨[(0, .sl T_Pot v0), (1, .int .i64 v1), (5, .int .i64 v5)], []⟩
theorem laws_szPotS_eq (a0 : List T_Pot.ty) (a1 : Int) : laws_szPotS a0 a1 =
  if decide (IntKind.i64.wrap (a1 - (a0.length : Int)) < 0) then
   some (-1)
  else
   laws_szPotS_p0 a0 (IntKind.i64.wrap (a1 - (a0.length : Int))) 0 :=
 (mk_f _ _ _ _ _ _ _ 4000).trans (by kernel_rfl)
theorem laws_szPotS_p0_eq  (v0 : List T_Pot.ty) (v1 : Int) (v5 : Int) : laws_szPotS_p0 v0 v1 v5 =
  if decide (v5 < (v0.length : Int)) then
   if decide (0 ≤ v5) then
    (v0[v5.toNat]?).bind fun x1 =>
     (laws_szPot x1 v1).bind fun x2 =>
      if decide (x2 < 0) then
       some (-1)
      else
       laws_szPotS_p0 v0 x2 (IntKind.i64.wrap (v5 + 1))
   else
    none
  else
   some v1 :=
 (goL_dn _ _ _ 4000 _ _).trans (by kernel_rfl)

/- laws.szMode -/
def laws_szMode_ir : Fn := { np := 2, io := [], res := [.t 4], own := [false], body :=
 (.seq (.reg false [.W 2 (.box 3 (.t 0)), .V 4 (.asg (.c (.int .i64 0)))] [1, 2] [2]) (.seq (.reg false [.V 5 (.mv (.t 1)), .V 6 (.fa 0 (.t 2)), .V 7 (.ld none (.t 6)), .V 8 (.lens (.t 7)), .V 9 (.bin .sub (.t 5) (.t 8)), .V 1 (.asg (.t 9))] [1] []) (.seq (.seq (.reg false [.V 10 (.mv (.t 1)), .V 11 (.bin .lss (.t 10) (.c (.int .i64 0)))] [1, 11] []) (.cond (.t 11) (.seq (.reg false [.V 4 (.asg (.c (.int .i64 (-1))))] [4] []) .ret) .skip)) (.seq (.reg false [.V 12 (.mv (.t 1)), .V 4 (.asg (.t 12))] [4] []) .ret)))) }
noncomputable def laws_szMode_D : List (Nat × Callee) := []
def laws_szMode_H : List (Nat × ET) := []
noncomputable def laws_szMode_c : Callee := mkCallee laws_szMode_D laws_szMode_H laws_szMode_ir [.d T_Mode, .d (.one (.int .i64))] [.d (.one (.int .i64))] []
noncomputable def laws_szMode (a0 : T_Mode.ty) (a1 : Int) : Option (Int) := laws_szMode_c.f (a0, a1, ())
theorem laws_szMode_eq (a0 : T_Mode.ty) (a1 : Int) : laws_szMode a0 a1 =
  if decide (IntKind.i64.wrap (a1 - (a0.1.length : Int)) < 0) then
   some (-1)
  else
   some (IntKind.i64.wrap (a1 - (a0.1.length : Int))) :=
 (mk_f _ _ _ _ _ _ _ 4000).trans (by kernel_rfl)

/- laws.szModeS -/
def laws_szModeS_k0 : C :=
 .seq (.seq (.reg false [.V 12 (.mv (.t 5)), .V 13 (.mv (.t 0)), .V 14 (.len (.t 13)), .V 15 (.bin .lss (.t 12) (.t 14))] [0, 1, 5, 15] []) (.cond (.t 15) .skip (.exit 0))) (.seq (.block 1 (.seq (.reg false [.V 18 (.mv (.t 0)), .V 19 (.mv (.t 5)), .V 20 (.ia 3 (.t 18) (.t 19)), .V 21 (.ld (some 3) (.t 20)), .V 22 (.mv (.t 1)), .V 23 (.call (.c (.fn 915 [])) [.t 21, .t 22]), .V 1 (.asg (.t 23))] [0, 1, 5] []) (.seq (.reg false [.V 24 (.mv (.t 1)), .V 25 (.bin .lss (.t 24) (.c (.int .i64 0)))] [0, 1, 5, 25] []) (.cond (.t 25) (.seq (.reg false [.V 4 (.asg (.c (.int .i64 (-1))))] [4] []) .ret) .skip)))) (.reg false [.V 16 (.mv (.t 5)), .V 17 (.bin .add (.t 16) (.c (.int .i64 1))), .V 5 (.asg (.t 17))] [0, 1, 5] []))
def laws_szModeS_k1 : C :=
 .norm [0, 1, 5] [] laws_szModeS_k0
def laws_szModeS_k2 : C :=
 .seq (.reg false [.V 26 (.mv (.t 1)), .V 4 (.asg (.t 26))] [4] []) .ret
def laws_szModeS_ir : Fn := { np := 2, io := [], res := [.t 4], own := [false], body :=
 (.seq (.reg false [.V 4 (.asg (.c (.int .i64 0)))] [0, 1] []) (.seq (.reg false [.V 6 (.mv (.t 1)), .V 7 (.mv (.t 0)), .V 8 (.len (.t 7)), .V 9 (.bin .sub (.t 6) (.t 8)), .V 1 (.asg (.t 9))] [0, 1] []) (.seq (.seq (.reg false [.V 10 (.mv (.t 1)), .V 11 (.bin .lss (.t 10) (.c (.int .i64 0)))] [0, 1, 11] []) (.cond (.t 11) (.seq (.reg false [.V 4 (.asg (.c (.int .i64 (-1))))] [4] []) .ret) .skip)) (.seq (.seq (.reg false [.V 5 (.asg (.c (.int .i64 0)))] [0, 1, 5] []) (.block 0 (.loop laws_szModeS_k1))) laws_szModeS_k2)))) }
noncomputable def laws_szModeS_D : List (Nat × Callee) := [(915, laws_szMode_c)]
def laws_szModeS_H : List (Nat × ET) := [(7, T_Mode), (13, T_Mode), (18, T_Mode)]
noncomputable def laws_szModeS_c : Callee := mkCallee laws_szModeS_D laws_szModeS_H laws_szModeS_ir [.d (.one (.sl T_Mode)), .d (.one (.int .i64))] [.d (.one (.int .i64))] []
noncomputable def laws_szModeS (a0 : List T_Mode.ty) (a1 : Int) : Option (Int) := laws_szModeS_c.f (a0, a1, ())
noncomputable def laws_szModeS_p0  (v0 : List T_Mode.ty) (v1 : Int) (v5 : Int) : Option (Int) :=
 goL laws_szModeS_D laws_szModeS_H (vleave laws_szModeS_ir [.d (.one (.sl T_Mode)), .d (.one (.int .i64))] [.d (.one (.int .i64))] [] []) [.c laws_szModeS_k0, .l laws_szModeS_k1, .e 0, .c laws_szModeS_k2]
  ⟨[(0, .sl T_Mode v0), (1, .int .i64 v1), (5, .int .i64 v5)], []⟩
theorem laws_szModeS_eq (a0 : List T_Mode.ty) (a1 : Int) : laws_szModeS a0 a1 =
  if decide (IntKind.i64.wrap (a1 - (a0.length : Int)) < 0) then
   some (-1)
  else
   laws_szModeS_p0 a0 (IntKind.i64.wrap (a1 - (a0.length : Int))) 0 :=
 (mk_f _ _ _ _ _ _ _ 4000).trans (by kernel_rfl)
theorem laws_szModeS_p0_eq  (v0 : List T_Mode.ty) (v1 : Int) (v5 : Int) : laws_szModeS_p0 v0 v1 v5 =
  if decide (v5 < (v0.length : Int)) then
   if decide (0 ≤ v5) then
    (v0[v5.toNat]?).bind fun x1 =>
     (laws_szMode x1 v1).bind fun x2 =>
      if decide (x2 < 0) then
       some (-1)
      else
       laws_szModeS_p0 v0 x2 (IntKind.i64.wrap (v5 + 1))
   else
    none
  else
   some v1 :=
 (goL_dn _ _ _ 4000 _ _).trans (by kernel_rfl)

/- laws.szWork -/
def laws_szWork_ir : Fn := { np := 2, io := [], res := [.t 4], own := [false], body :=
 (.seq (.reg false [.W 2 (.box 4 (.t 0)), .V 4 (.asg (.c (.int .i64 0)))] [1, 2] [2]) (.seq (.reg false [.V 5 (.mv (.t 1)), .V 6 (.fa 0 (.t 2)), .V 7 (.ld none (.t 6)), .V 8 (.lens (.t 7)), .V 9 (.bin .sub (.t 5) (.t 8)), .V 1 (.asg (.t 9))] [1] []) (.seq (.seq (.reg false [.V 10 (.mv (.t 1)), .V 11 (.bin .lss (.t 10) (.c (.int .i64 0)))] [1, 11] []) (.cond (.t 11) (.seq (.reg false [.V 4 (.asg (.c (.int .i64 (-1))))] [4] []) .ret) .skip)) (.seq (.reg false [.V 12 (.mv (.t 1)), .V 4 (.asg (.t 12))] [4] []) .ret)))) }
noncomputable def laws_szWork_D : List (Nat × Callee) := []
def laws_szWork_H : List (Nat × ET) := []
noncomputable def laws_szWork_c : Callee := mkCallee laws_szWork_D laws_szWork_H laws_szWork_ir [.d T_Peg, .d (.one (.int .i64))] [.d (.one (.int .i64))] []
noncomputable def laws_szWork (a0 : T_Peg.ty) (a1 : Int) : Option (Int) := laws_szWork_c.f (a0, a1, ())
theorem laws_szWork_eq (a0 : T_Peg.ty) (a1 : Int) : laws_szWork a0 a1 =
  if decide (IntKind.i64.wrap (a1 - (a0.1.length : Int)) < 0) then
   some (-1)
  else
   some (IntKind.i64.wrap (a1 - (a0.1.length : Int))) :=
 (mk_f _ _ _ _ _ _ _ 4000).trans (by kernel_rfl)

/- laws.szWorkS -/
def laws_szWorkS_k0 : C :=
 .seq (.seq (.reg false [.V 12 (.mv (.t 5)), .V 13 (.mv (.t 0)), .V 14 (.len (.t 13)), .V 15 (.bin .lss (.t 12) (.t 14))] [0, 1, 5, 15] []) (.cond (.t 15) .skip (.exit 0))) (.seq (.block 1 (.seq (.reg false [.V 18 (.mv (.t 0)), .V 19 (.mv (.t 5)), .V 20 (.ia 4 (.t 18) (.t 19)), .V 21 (.ld (some 4) (.t 20)), .V 22 (.mv (.t 1)), .V 23 (.call (.c (.fn 916 [])) [.t 21, .t 22]), .V 1 (.asg (.t 23))] [0, 1, 5] []) (.seq (.reg false [.V 24 (.mv (.t 1)), .V 25 (.bin .lss (.t 24) (.c (.int .i64 0)))] [0, 1, 5, 25] []) (.cond (.t 25) (.seq (.reg false [.V 4 (.asg (.c (.int .i64 (-1))))] [4] []) .ret) .skip)))) (.reg false [.V 16 (.mv (.t 5)), .V 17 (.bin .add (.t 16) (.c (.int .i64 1))), .V 5 (.asg (.t 17))] [0, 1, 5] []))
def laws_szWorkS_k1 : C :=
 .norm [0, 1, 5] [] laws_szWorkS_k0
def laws_szWorkS_k2 : C :=
 .seq (.reg false [.V 26 (.mv (.t 1)), .V 4 (.asg (.t 26))] [4] []) .ret
def laws_szWorkS_ir : Fn := { np := 2, io := [], res := [.t 4], own := [false], body :=
 (.seq (.reg false [.V 4 (.asg (.c (.int .i64 0)))] [0, 1] []) (.seq (.reg false [.V 6 (.mv (.t 1)), .V 7 (.mv (.t 0)), .V 8 (.len (.t 7)), .V 9 (.bin .sub (.t 6) (.t 8)), .V 1 (.asg (.t 9))] [0, 1] []) (.seq (.seq (.reg false [.V 10 (.mv (.t 1)), .V 11 (.bin .lss (.t 10) (.c (.int .i64 0)))] [0, 1, 11] []) (.cond (.t 11) (.seq (.reg false [.V 4 (.asg (.c (.int .i64 (-1))))] [4] []) .ret) .skip)) (.seq (.seq (.reg false [.V 5 (.asg (.c (.int .i64 0)))] [0, 1, 5] []) (.block 0 (.loop laws_szWorkS_k1))) laws_szWorkS_k2)))) }
noncomputable def laws_szWorkS_D : List (Nat × Callee) := [(916, laws_szWork_c)]
def laws_szWorkS_H : List (Nat × ET) := [(7, T_Peg), (13, T_Peg), (18, T_Peg)]
noncomputable def laws_szWorkS_c : Callee := mkCallee laws_szWorkS_D laws_szWorkS_H laws_szWorkS_ir [.d (.one (.sl T_Peg)), .d (.one (.int .i64))] [.d (.one (.int .i64))] []
noncomputable def laws_szWorkS (a0 : List T_Peg.ty) (a1 : Int) : Option (Int) := laws_szWorkS_c.f (a0, a1, ())
noncomputable def laws_szWorkS_p0  (v0 : List T_Peg.ty) (v1 : Int) (v5 : Int) : Option (Int) :=
 goL laws_szWorkS_D laws_szWorkS_H (vleave laws_szWorkS_ir [.d (.one (.sl T_Peg)), .d (.one (.int .i64))] [.d (.one (.int .i64))] [] []) [.c laws_szWorkS_k0, .l laws_szWorkS_k1, .e 0, .c laws_szWorkS_k2]
  ⟨[(0, .sl T_Peg v0), (1, .int .i64 v1), (5, .int .i64 v5)], []⟩
theorem laws_szWorkS_eq (a0 : List T_Peg.ty) (a1 : Int) : laws_szWorkS a0 a1 =
  if decide (IntKind.i64.wrap (a1 - (a0.length : Int)) < 0) then
   some (-1)
  else
   laws_szWorkS_p0 a0 (IntKind.i64.wrap (a1 - (a0.length : Int))) 0 :=
 (mk_f _ _ _ _ _ _ _ 4000).trans (by kernel_rfl)
theorem laws_szWorkS_p0_eq  (v0 : List T_Peg.ty) (v1 : Int) (v5 : Int) : laws_szWorkS_p0 v0 v1 v5 =
  if decide (v5 < (v0.length : Int)) then
   if decide (0 ≤ v5) then
    (v0[v5.toNat]?).bind fun x1 =>
     (laws_szWork x1 v1).bind fun x2 =>
      if decide (x2 < 0) then
       some (-1)
      else
       laws_szWorkS_p0 v0 x2 (IntKind.i64.wrap (v5 + 1))
   else
    none
  else
   some v1 :=
 (goL_dn _ _ _ 4000 _ _).trans (by kernel_rfl)

/- laws.szPaper -/
def laws_szPaper_ir : Fn := { np := 2, io := [], res := [.t 4], own := [false], body :=
 (.seq (.reg false [.W 2 (.box 5 (.t 0)), .V 4 (.asg (.c (.int .i64 0)))] [1, 2] [2]) (.seq (.reg false [.V 5 (.mv (.t 1)), .V 6 (.fa 0 (.t 2)), .V 7 (.ld none (.t 6)), .V 8 (.lens (.t 7)), .V 9 (.bin .sub (.t 5) (.t 8)), .V 1 (.asg (.t 9))] [1, 2] [2]) (.seq (.seq (.reg false [.V 10 (.mv (.t 1)), .V 11 (.bin .lss (.t 10) (.c (.int .i64 0)))] [1, 2, 11] [2]) (.cond (.t 11) (.seq (.reg false [.V 4 (.asg (.c (.int .i64 (-1))))] [4] []) .ret) .skip)) (.seq (.reg false [.V 12 (.mv (.t 1)), .V 13 (.fa 1 (.t 2)), .V 14 (.ld none (.t 13)), .V 15 (.lens (.t 14)), .V 16 (.bin .sub (.t 12) (.t 15)), .V 1 (.asg (.t 16))] [1] []) (.seq (.seq (.reg false [.V 17 (.mv (.t 1)), .V 18 (.bin .lss (.t 17) (.c (.int .i64 0)))] [1, 18] []) (.cond (.t 18) (.seq (.reg false [.V 4 (.asg (.c (.int .i64 (-1))))] [4] []) .ret) .skip)) (.seq (.reg false [.V 19 (.mv (.t 1)), .V 4 (.asg (.t 19))] [4] []) .ret)))))) }
noncomputable def laws_szPaper_D : List (Nat × Callee) := []
def laws_szPaper_H : List (Nat × ET) := []
noncomputable def laws_szPaper_c : Callee := mkCallee laws_szPaper_D laws_szPaper_H laws_szPaper_ir [.d T_Paper, .d (.one (.int .i64))] [.d (.one (.int .i64))] []
noncomputable def laws_szPaper (a0 : T_Paper.ty) (a1 : Int) : Option (Int) := laws_szPaper_c.f (a0, a1, ())
theorem laws_szPaper_eq (a0 : T_Paper.ty) (a1 : Int) : laws_szPaper a0 a1 =
  if decide (IntKind.i64.wrap (a1 - (a0.1.length : Int)) < 0) then
   some (-1)
  else
   if decide (IntKind.i64.wrap ((IntKind.i64.wrap (a1 - (a0.1.length : Int))) - (a0.2.1.length : Int)) < 0) then
    some (-1)
   else
    some (IntKind.i64.wrap ((IntKind.i64.wrap (a1 - (a0.1.length : Int))) - (a0.2.1.length : Int))) :=
 (mk_f _ _ _ _ _ _ _ 4000).trans (by kernel_rfl)

/- laws.szPaperS -/
def laws_szPaperS_k0 : C :=
 .seq (.seq (.reg false [.V 12 (.mv (.t 5)), .V 13 (.mv (.t 0)), .V 14 (.len (.t 13)), .V 15 (.bin .lss (.t 12) (.t 14))] [0, 1, 5, 15] []) (.cond (.t 15) .skip (.exit 0))) (.seq (.block 1 (.seq (.reg false [.V 18 (.mv (.t 0)), .V 19 (.mv (.t 5)), .V 20 (.ia 5 (.t 18) (.t 19)), .V 21 (.ld (some 5) (.t 20)), .V 22 (.mv (.t 1)), .V 23 (.call (.c (.fn 725 [])) [.t 21, .t 22]), .V 1 (.asg (.t 23))] [0, 1, 5] []) (.seq (.reg false [.V 24 (.mv (.t 1)), .V 25 (.bin .lss (.t 24) (.c (.int .i64 0)))] [0, 1, 5, 25] []) (.cond (.t 25) (.seq (.reg false [.V 4 (.asg (.c (.int .i64 (-1))))] [4] []) .ret) .skip)))) (.reg false [.V 16 (.mv (.t 5)), .V 17 (.bin .add (.t 16) (.c (.int .i64 1))), .V 5 (.asg (.t 17))] [0, 1, 5] []))
def laws_szPaperS_k1 : C :=
 .norm [0, 1, 5] [] laws_szPaperS_k0
def laws_szPaperS_k2 : C :=
 .seq (.reg false [.V 26 (.mv (.t 1)), .V 4 (.asg (.t 26))] [4] []) .ret
def laws_szPaperS_ir : Fn := { np := 2, io := [], res := [.t 4], own := [false], body :=
 (.seq (.reg false [.V 4 (.asg (.c (.int .i64 0)))] [0, 1] []) (.seq (.reg false [.V 6 (.mv (.t 1)), .V 7 (.mv (.t 0)), .V 8 (.len (.t 7)), .V 9 (.bin .sub (.t 6) (.t 8)), .V 1 (.asg (.t 9))] [0, 1] []) (.seq (.seq (.reg false [.V 10 (.mv (.t 1)), .V 11 (.bin .lss (.t 10) (.c (.int .i64 0)))] [0, 1, 11] []) (.cond (.t 11) (.seq (.reg false [.V 4 (.asg (.c (.int .i64 (-1))))] [4] []) .ret) .skip)) (.seq (.seq (.reg false [.V 5 (.asg (.c (.int .i64 0)))] [0, 1, 5] []) (.block 0 (.loop laws_szPaperS_k1))) laws_szPaperS_k2)))) }
noncomputable def laws_szPaperS_D : List (Nat × Callee) := [(725, laws_szPaper_c)]
def laws_szPaperS_H : List (Nat × ET) := [(7, T_Paper), (13, T_Paper), (18, T_Paper)]
noncomputable def laws_szPaperS_c : Callee := mkCallee laws_szPaperS_D laws_szPaperS_H laws_szPaperS_ir [.d (.one (.sl T_Paper)), .d (.one (.int .i64))] [.d (.one (.int .i64))] []
noncomputable def laws_szPaperS (a0 : List T_Paper.ty) (a1 : Int) : Option (Int) := laws_szPaperS_c.f (a0, a1, ())
noncomputable def laws_szPaperS_p0  (v0 : List T_Paper.ty) (v1 : Int) (v5 : Int) : Option (Int) :=
 goL laws_szPaperS_D laws_szPaperS_H (vleave laws_szPaperS_ir [.d (.one (.sl T_Paper)), .d (.one (.int .i64))] [.d (.one (.int .i64))] [] []) [.c laws_szPaperS_k0, .l laws_szPaperS_k1, .e 0, .c laws_szPaperS_k2]
  ⟨[(0, .sl T_Paper v0), (1, .int .i64 v1), (5, .int .i64 v5)], []⟩
theorem laws_szPaperS_eq (a0 : List T_Paper.ty) (a1 : Int) : laws_szPaperS a0 a1 =
  if decide (IntKind.i64.wrap (a1 - (a0.length : Int)) < 0) then
   some (-1)
  else
   laws_szPaperS_p0 a0 (IntKind.i64.wrap (a1 - (a0.length : Int))) 0 :=
 (mk_f _ _ _ _ _ _ _ 4000).trans (by kernel_rfl)
theorem laws_szPaperS_p0_eq  (v0 : List T_Paper.ty) (v1 : Int) (v5 : Int) : laws_szPaperS_p0 v0 v1 v5 =
  if decide (v5 < (v0.length : Int)) then
   if decide (0 ≤ v5) then
    (v0[v5.toNat]?).bind fun x1 =>
     (laws_szPaper x1 v1).bind fun x2 =>
      if decide (x2 < 0) then
       some (-1)
      else
       laws_szPaperS_p0 v0 x2 (IntKind.i64.wrap (v5 + 1))
   else
    none
  else
   some v1 :=
 (goL_dn _ _ _ 4000 _ _).trans (by kernel_rfl)

/- laws.szDesk -/
def laws_szDesk_ir : Fn := { np := 2, io := [], res := [.t 4], own := [false], body :=
 (.seq (.reg false [.W 2 (.box 12 (.t 0)), .V 4 (.asg (.c (.int .i64 0)))] [1, 2] [2, 3000, 3001, 3002, 3007, 3008, 3009, 3010, 3011]) (.seq (.reg false [.V 5 (.fa 0 (.t 2)), .V 6 (.ld none (.t 5)), .V 7 (.mv (.t 1)), .V 8 (.call (.c (.fn 650 [])) [.t 6, .t 7]), .V 1 (.asg (.t 8))] [1, 2] [2, 3000, 3001, 3002, 3007, 3008, 3009, 3010, 3011]) (.seq (.seq (.reg false [.V 9 (.mv (.t 1)), .V 10 (.bin .lss (.t 9) (.c (.int .i64 0)))] [1, 2, 10] [2, 3000, 3001, 3002, 3007, 3008, 3009, 3010, 3011]) (.cond (.t 10) (.seq (.reg false [.V 4 (.asg (.c (.int .i64 (-1))))] [4] []) .ret) .skip)) (.seq (.reg false [.V 11 (.fa 1 (.t 2)), .V 12 (.ld none (.t 11)), .V 13 (.mv (.t 1)), .V 14 (.call (.c (.fn 649 [])) [.t 12, .t 13]), .V 1 (.asg (.t 14))] [1, 2] [2, 3000, 3001, 3002, 3007, 3008, 3009, 3010, 3011]) (.seq (.seq (.reg false [.V 15 (.mv (.t 1)), .V 16 (.bin .lss (.t 15) (.c (.int .i64 0)))] [1, 2, 16] [2, 3000, 3001, 3002, 3007, 3008, 3009, 3010, 3011]) (.cond (.t 16) (.seq (.reg false [.V 4 (.asg (.c (.int .i64 (-1))))] [4] []) .ret) .skip)) (.seq (.reg false [.V 17 (.fa 2 (.t 2)), .V 18 (.ld none (.t 17)), .V 19 (.mv (.t 1)), .V 20 (.call (.c (.fn 648 [])) [.t 18, .t 19]), .V 1 (.asg (.t 20))] [1, 2] [2, 3000, 3001, 3002, 3007, 3008, 3009, 3010, 3011]) (.seq (.seq (.reg false [.V 21 (.mv (.t 1)), .V 22 (.bin .lss (.t 21) (.c (.int .i64 0)))] [1, 2, 22] [2, 3000, 3001, 3002, 3007, 3008, 3009, 3010, 3011]) (.cond (.t 22) (.seq (.reg false [.V 4 (.asg (.c (.int .i64 (-1))))] [4] []) .ret) .skip)) (.seq (.reg false [.V 23 (.fa 7 (.t 2)), .V 24 (.ld none (.t 23)), .V 25 (.mv (.t 1)), .V 26 (.call (.c (.fn 126 [])) [.t 24, .t 25]), .V 1 (.asg (.t 26))] [1, 2] [2, 3000, 3001, 3002, 3007, 3008, 3009, 3010, 3011]) (.seq (.seq (.reg false [.V 27 (.mv (.t 1)), .V 28 (.bin .lss (.t 27) (.c (.int .i64 0)))] [1, 2, 28] [2, 3000, 3001, 3002, 3007, 3008, 3009, 3010, 3011]) (.cond (.t 28) (.seq (.reg false [.V 4 (.asg (.c (.int .i64 (-1))))] [4] []) .ret) .skip)) (.seq (.reg false [.V 29 (.fa 8 (.t 2)), .V 30 (.ld none (.t 29)), .V 31 (.mv (.t 1)), .V 32 (.call (.c (.fn 63 [])) [.t 30, .t 31]), .V 1 (.asg (.t 32))] [1, 2] [2, 3000, 3001, 3002, 3007, 3008, 3009, 3010, 3011]) (.seq (.seq (.reg false [.V 33 (.mv (.t 1)), .V 34 (.bin .lss (.t 33) (.c (.int .i64 0)))] [1, 2, 34] [2, 3000, 3001, 3002, 3007, 3008, 3009, 3010, 3011]) (.cond (.t 34) (.seq (.reg false [.V 4 (.asg (.c (.int .i64 (-1))))] [4] []) .ret) .skip)) (.seq (.reg false [.V 35 (.fa 9 (.t 2)), .V 36 (.ld none (.t 35)), .V 37 (.mv (.t 1)), .V 38 (.call (.c (.fn 647 [])) [.t 36, .t 37]), .V 1 (.asg (.t 38))] [1, 2] [2, 3000, 3001, 3002, 3007, 3008, 3009, 3010, 3011]) (.seq (.seq (.reg false [.V 39 (.mv (.t 1)), .V 40 (.bin .lss (.t 39) (.c (.int .i64 0)))] [1, 2, 40] [2, 3000, 3001, 3002, 3007, 3008, 3009, 3010, 3011]) (.cond (.t 40) (.seq (.reg false [.V 4 (.asg (.c (.int .i64 (-1))))] [4] []) .ret) .skip)) (.seq (.reg false [.V 41 (.fa 10 (.t 2)), .V 42 (.ld none (.t 41)), .V 43 (.mv (.t 1)), .V 44 (.call (.c (.fn 646 [])) [.t 42, .t 43]), .V 1 (.asg (.t 44))] [1, 2] [2, 3000, 3001, 3002, 3007, 3008, 3009, 3010, 3011]) (.seq (.seq (.reg false [.V 45 (.mv (.t 1)), .V 46 (.bin .lss (.t 45) (.c (.int .i64 0)))] [1, 2, 46] [2, 3000, 3001, 3002, 3007, 3008, 3009, 3010, 3011]) (.cond (.t 46) (.seq (.reg false [.V 4 (.asg (.c (.int .i64 (-1))))] [4] []) .ret) .skip)) (.seq (.reg false [.V 47 (.fa 11 (.t 2)), .V 48 (.ld none (.t 47)), .V 49 (.mv (.t 1)), .V 50 (.call (.c (.fn 300 [])) [.t 48, .t 49]), .V 1 (.asg (.t 50))] [1] []) (.seq (.seq (.reg false [.V 51 (.mv (.t 1)), .V 52 (.bin .lss (.t 51) (.c (.int .i64 0)))] [1, 52] []) (.cond (.t 52) (.seq (.reg false [.V 4 (.asg (.c (.int .i64 (-1))))] [4] []) .ret) .skip)) (.seq (.reg false [.V 53 (.mv (.t 1)), .V 4 (.asg (.t 53))] [4] []) .ret)))))))))))))))))) }
noncomputable def laws_szDesk_D : List (Nat × Callee) := [(63, laws_szPotS_c), (126, laws_szPegS_c), (300, laws_szPaperS_c), (646, laws_szWorkS_c), (647, laws_szModeS_c), (648, laws_szInt64SS_c), (649, laws_szRibS_c), (650, laws_szStackS_c)]
def laws_szDesk_H : List (Nat × ET) := [(6, T_Peg), (12, T_Mode), (18, (.one (.sl (.one (.int .i64))))), (24, T_Peg), (30, T_Pot), (36, T_Mode), (42, T_Peg), (48, T_Paper)]
noncomputable def laws_szDesk_c : Callee := mkCallee laws_szDesk_D laws_szDesk_H laws_szDesk_ir [.d T_Desk, .d (.one (.int .i64))] [.d (.one (.int .i64))] []
noncomputable def laws_szDesk (a0 : T_Desk.ty) (a1 : Int) : Option (Int) := laws_szDesk_c.f (a0, a1, ())
theorem laws_szDesk_eq (a0 : T_Desk.ty) (a1 : Int) : laws_szDesk a0 a1 =
  (laws_szStackS a0.1 a1).bind fun x1 =>
   if decide (x1 < 0) then
    some (-1)
   else
    (laws_szRibS a0.2.1 x1).bind fun x2 =>
     if decide (x2 < 0) then
      some (-1)
     else
      (laws_szInt64SS a0.2.2.1 x2).bind fun x3 =>
       if decide (x3 < 0) then
        some (-1)
       else
        (laws_szPegS a0.2.2.2.2.2.2.2.1 x3).bind fun x4 =>
         if decide (x4 < 0) then
          some (-1)
         else
          (laws_szPotS a0.2.2.2.2.2.2.2.2.1 x4).bind fun x5 =>
           if decide (x5 < 0) then
            some (-1)
           else
            (laws_szModeS a0.2.2.2.2.2.2.2.2.2.1 x5).bind fun x6 =>
             if decide (x6 < 0) then
              some (-1)
             else
              (laws_szWorkS a0.2.2.2.2.2.2.2.2.2.2.1 x6).bind fun x7 =>
               if decide (x7 < 0) then
                some (-1)
               else
                (laws_szPaperS a0.2.2.2.2.2.2.2.2.2.2.2.1 x7).bind fun x8 =>
                 if decide (x8 < 0) then
                  some (-1)
                 else
                  some x8 :=
 (mk_f _ _ _ _ _ _ _ 4000).trans (by kernel_rfl)

/- laws.toStack -/
def laws_toStack_ir : Fn := { np := 1, io := [], res := [.cell 2 (some 4)], own := [false], body :=
 (.seq (.reg false [.W 1 (.box 4 (.t 0)), .W 2 (.alloc 4 (.agg [.str [], .int .i64 0, .int .i64 0, .int .i64 0]))] [1, 2] [1, 2]) (.seq (.reg false [.W 3 (.alloc 4 (.agg [.str [], .int .i64 0, .int .i64 0, .int .i64 0]))] [1, 2, 3] [1, 2, 3]) (.seq (.reg false [.V 4 (.fa 0 (.t 1)), .V 5 (.ld none (.t 4)), .V 6 (.fa 0 (.t 3)), ⟨none, true, .sto 1 (.t 6) (.t 5), none, false, []⟩] [1, 2, 3] [1, 2, 3]) (.seq (.reg false [.V 7 (.fa 1 (.t 1)), .V 8 (.ld none (.t 7)), .V 9 (.fa 1 (.t 3)), ⟨none, true, .sto 1 (.t 9) (.t 8), none, false, []⟩] [1, 2, 3] [1, 2, 3]) (.seq (.reg false [.V 10 (.fa 2 (.t 1)), .V 11 (.ld none (.t 10)), .V 12 (.fa 2 (.t 3)), ⟨none, true, .sto 1 (.t 12) (.t 11), none, false, []⟩] [1, 2, 3] [1, 2, 3]) (.seq (.reg false [.V 13 (.fa 3 (.t 1)), .V 14 (.ld none (.t 13)), .V 15 (.fa 3 (.t 3)), ⟨none, true, .sto 1 (.t 15) (.t 14), none, false, []⟩] [2, 3] [2, 3]) (.seq (.reg false [.V 16 (.ld (some 4) (.t 3)), ⟨none, true, .sto 4 (.t 2) (.t 16), none, false, []⟩] [2] [2]) .ret))))))) }
noncomputable def laws_toStack_D : List (Nat × Callee) := []
def laws_toStack_H : List (Nat × ET) := []
noncomputable def laws_toStack_c : Callee := mkCallee laws_toStack_D laws_toStack_H laws_toStack_ir [.d T_Peg] [.d T_Peg] []
noncomputable def laws_toStack (a0 : T_Peg.ty) : Option (T_Peg.ty) := laws_toStack_c.f (a0, ())
theorem laws_toStack_eq (a0 : T_Peg.ty) : laws_toStack a0 =
  some a0 :=
 (mk_f _ _ _ _ _ _ _ 4000).trans (by kernel_rfl)

/- laws.toStackS -/
def laws_toStackS_k0 : C :=
 .seq (.seq (.reg false [.V 8 (.mv (.t 4)), .V 9 (.mv (.t 0)), .V 10 (.len (.t 9)), .V 11 (.bin .lss (.t 8) (.t 10))] [0, 3, 4, 11] [3]) (.cond (.t 11) .skip (.exit 0))) (.seq (.block 1 (.reg false [.V 14 (.mv (.t 3)), .V 15 (.mv (.t 4)), .V 16 (.mv (.t 0)), .V 17 (.mv (.t 4)), .V 18 (.ia 4 (.t 16) (.t 17)), .V 19 (.ld (some 4) (.t 18)), .V 20 (.call (.c (.fn 917 [])) [.t 19]), .V 21 (.ia 4 (.t 14) (.t 15)), ⟨none, true, .sto 4 (.t 21) (.t 20), none, false, []⟩] [0, 3, 4] [3])) (.reg false [.V 12 (.mv (.t 4)), .V 13 (.bin .add (.t 12) (.c (.int .i64 1))), .V 4 (.asg (.t 13))] [0, 3, 4] [3]))
def laws_toStackS_k1 : C :=
 .norm [0, 3, 4] [3] laws_toStackS_k0
def laws_toStackS_k2 : C :=
 .seq (.reg false [.V 22 (.mv (.t 3)), .W 2 (.asg (.t 22))] [2] [2, 3]) .ret
def laws_toStackS_ir : Fn := { np := 1, io := [], res := [.t 2], own := [true], body :=
 (.seq (.reg false [.W 2 (.asg (.c (.nils 4)))] [0] []) (.seq (.reg false [.V 5 (.mv (.t 0)), .V 6 (.len (.t 5)), .V 7 (.mks 4 40 (.agg [.str [], .int .i64 0, .int .i64 0, .int .i64 0]) (.t 6) (.t 6)), .W 3 (.asg (.t 7))] [0, 3] [3]) (.seq (.seq (.reg false [.V 4 (.asg (.c (.int .i64 0)))] [0, 3, 4] [3]) (.block 0 (.loop laws_toStackS_k1))) laws_toStackS_k2))) }
noncomputable def laws_toStackS_D : List (Nat × Callee) := [(917, laws_toStack_c)]
def laws_toStackS_H : List (Nat × ET) := [(2, T_Peg), (3, T_Peg), (5, T_Peg), (7, T_Peg), (9, T_Peg), (14, T_Peg), (16, T_Peg), (22, T_Peg)]
noncomputable def laws_toStackS_c : Callee := mkCallee laws_toStackS_D laws_toStackS_H laws_toStackS_ir [.d (.one (.sl T_Peg))] [.tok T_Peg] []
noncomputable def laws_toStackS (a0 : List T_Peg.ty) : Option (List T_Peg.ty) := laws_toStackS_c.f (a0, ())
noncomputable def laws_toStackS_p0  (v0 : List T_Peg.ty) (v3n : Nat) (v4 : Int) (r3 : List T_Peg.ty) : Option (List T_Peg.ty) :=
 goL laws_toStackS_D laws_toStackS_H (vleave laws_toStackS_ir [.d (.one (.sl T_Peg))] [.tok T_Peg] [] []) [.c laws_toStackS_k0, .l laws_toStackS_k1, .e 0, .c laws_toStackS_k2]
  ⟨[(0, .sl T_Peg v0), (3, .view 3 0 v3n), (4, .int .i64 v4)], [(3, some (.sl T_Peg r3))]⟩
theorem laws_toStackS_eq (a0 : List T_Peg.ty) : laws_toStackS a0 =
  if decide (0 ≤ (a0.length : Int)) && decide ((a0.length : Int) ≤ (a0.length : Int)) && decide ((a0.length : Int).toNat < lim) then
   laws_toStackS_p0 a0 ((List.replicate ((a0.length : Int).toNat) (([], 0, 0, 0, ()) : T_Peg.ty)).length) 0 (List.replicate ((a0.length : Int).toNat) (([], 0, 0, 0, ()) : T_Peg.ty))
  else
   none :=
 (mk_f _ _ _ _ _ _ _ 4000).trans (by kernel_rfl)
theorem laws_toStackS_p0_eq  (v0 : List T_Peg.ty) (v3n : Nat) (v4 : Int) (r3 : List T_Peg.ty) : laws_toStackS_p0 v0 v3n v4 r3 =
  if decide (v4 < (v0.length : Int)) then
   if decide (0 ≤ v4) then
    (v0[v4.toNat]?).bind fun x1 =>
     (laws_toStack x1).bind fun x2 =>
      if decide (0 ≤ v4) && decide (v4 < (v3n : Int)) then
       (r3[v4.toNat]?).bind fun x3 =>
        laws_toStackS_p0 v0 v3n (IntKind.i64.wrap (v4 + 1)) (r3.set v4.toNat x2)
      else
       none
   else
    none
  else
   some (r3.take v3n) :=
 (goL_dn _ _ _ 4000 _ _).trans (by kernel_rfl)

/- laws.toRib -/
def laws_toRib_ir : Fn := { np := 1, io := [], res := [.cell 2 (some 3)], own := [false], body :=
 (.seq (.reg false [.W 1 (.box 3 (.t 0)), .W 2 (.alloc 3 (.agg [.str [], .int .i64 0, .int .i64 0]))] [1, 2] [1, 2]) (.seq (.reg false [.W 3 (.alloc 3 (.agg [.str [], .int .i64 0, .int .i64 0]))] [1, 2, 3] [1, 2, 3]) (.seq (.reg false [.V 4 (.fa 0 (.t 1)), .V 5 (.ld none (.t 4)), .V 6 (.fa 0 (.t 3)), ⟨none, true, .sto 1 (.t 6) (.t 5), none, false, []⟩] [1, 2, 3] [1, 2, 3]) (.seq (.reg false [.V 7 (.fa 1 (.t 1)), .V 8 (.ld none (.t 7)), .V 9 (.fa 1 (.t 3)), ⟨none, true, .sto 1 (.t 9) (.t 8), none, false, []⟩] [1, 2, 3] [1, 2, 3]) (.seq (.reg false [.V 10 (.fa 2 (.t 1)), .V 11 (.ld none (.t 10)), .V 12 (.fa 2 (.t 3)), ⟨none, true, .sto 1 (.t 12) (.t 11), none, false, []⟩] [2, 3] [2, 3]) (.seq (.reg false [.V 13 (.ld (some 3) (.t 3)), ⟨none, true, .sto 3 (.t 2) (.t 13), none, false, []⟩] [2] [2]) .ret)))))) }
noncomputable def laws_toRib_D : List (Nat × Callee) := []
def laws_toRib_H : List (Nat × ET) := []
noncomputable def laws_toRib_c : Callee := mkCallee laws_toRib_D laws_toRib_H laws_toRib_ir [.d T_Mode] [.d T_Mode] []
noncomputable def laws_toRib (a0 : T_Mode.ty) : Option (T_Mode.ty) := laws_toRib_c.f (a0, ())
theorem laws_toRib_eq (a0 : T_Mode.ty) : laws_toRib a0 =
  some a0 :=
 (mk_f _ _ _ _ _ _ _ 4000).trans (by kernel_rfl)

/- laws.toRibS -/
def laws_toRibS_k0 : C :=
 .seq (.seq (.reg false [.V 8 (.mv (.t 4)), .V 9 (.mv (.t 0)), .V 10 (.len (.t 9)), .V 11 (.bin .lss (.t 8) (.t 10))] [0, 3, 4, 11] [3]) (.cond (.t 11) .skip (.exit 0))) (.seq (.block 1 (.reg false [.V 14 (.mv (.t 3)), .V 15 (.mv (.t 4)), .V 16 (.mv (.t 0)), .V 17 (.mv (.t 4)), .V 18 (.ia 3 (.t 16) (.t 17)), .V 19 (.ld (some 3) (.t 18)), .V 20 (.call (.c (.fn 918 [])) [.t 19]), .V 21 (.ia 3 (.t 14) (.t 15)), ⟨none, true, .sto 3 (.t 21) (.t 20), none, false, []⟩] [0, 3, 4] [3])) (.reg false [.V 12 (.mv (.t 4)), .V 13 (.bin .add (.t 12) (.c (.int .i64 1))), .V 4 (.asg (.t 13))] [0, 3, 4] [3]))
def laws_toRibS_k1 : C :=
 .norm [0, 3, 4] [3] laws_toRibS_k0
def laws_toRibS_k2 : C :=
 .seq (.reg false [.V 22 (.mv (.t 3)), .W 2 (.asg (.t 22))] [2] [2, 3]) .ret
def laws_toRibS_ir : Fn := { np := 1, io := [], res := [.t 2], own := [true], body :=
 (.seq (.reg false [.W 2 (.asg (.c (.nils 3)))] [0] []) (.seq (.reg false [.V 5 (.mv (.t 0)), .V 6 (.len (.t 5)), .V 7 (.mks 3 32 (.agg [.str [], .int .i64 0, .int .i64 0]) (.t 6) (.t 6)), .W 3 (.asg (.t 7))] [0, 3] [3]) (.seq (.seq (.reg false [.V 4 (.asg (.c (.int .i64 0)))] [0, 3, 4] [3]) (.block 0 (.loop laws_toRibS_k1))) laws_toRibS_k2))) }
noncomputable def laws_toRibS_D : List (Nat × Callee) := [(918, laws_toRib_c)]
def laws_toRibS_H : List (Nat × ET) := [(2, T_Mode), (3, T_Mode), (5, T_Mode), (7, T_Mode), (9, T_Mode), (14, T_Mode), (16, T_Mode), (22, T_Mode)]
noncomputable def laws_toRibS_c : Callee := mkCallee laws_toRibS_D laws_toRibS_H laws_toRibS_ir [.d (.one (.sl T_Mode))] [.tok T_Mode] []
noncomputable def laws_toRibS (a0 : List T_Mode.ty) : Option (List T_Mode.ty) := laws_toRibS_c.f (a0, ())
noncomputable def laws_toRibS_p0  (v0 : List T_Mode.ty) (v3n : Nat) (v4 : Int) (r3 : List T_Mode.ty) : Option (List T_Mode.ty) :=
 goL laws_toRibS_D laws_toRibS_H (vleave laws_toRibS_ir [.d (.one (.sl T_Mode))] [.tok T_Mode] [] []) [.c laws_toRibS_k0, .l laws_toRibS_k1, .e 0, .c laws_toRibS_k2]
  ⟨[(0, .sl T_Mode v0), (3, .view 3 0 v3n), (4, .int .i64 v4)], [(3, some (.sl T_Mode r3))]⟩
theorem laws_toRibS_eq (a0 : List T_Mode.ty) : laws_toRibS a0 =
  if decide (0 ≤ (a0.length : Int)) && decide ((a0.length : Int) ≤ (a0.length : Int)) && decide ((a0.length : Int).toNat < lim) then
   laws_toRibS_p0 a0 ((List.replicate ((a0.length : Int).toNat) (([], 0, 0, ()) : T_Mode.ty)).length) 0 (List.replicate ((a0.length : Int).toNat) (([], 0, 0, ()) : T_Mode.ty))
  else
   none :=
 (mk_f _ _ _ _ _ _ _ 4000).trans (by kernel_rfl)
theorem laws_toRibS_p0_eq  (v0 : List T_Mode.ty) (v3n : Nat) (v4 : Int) (r3 : List T_Mode.ty) : laws_toRibS_p0 v0 v3n v4 r3 =
  if decide (v4 < (v0.length : Int)) then
   if decide (0 ≤ v4) then
    (v0[v4.toNat]?).bind fun x1 =>
     (laws_toRib x1).bind fun x2 =>
      if decide (0 ≤ v4) && decide (v4 < (v3n : Int)) then
       (r3[v4.toNat]?).bind fun x3 =>
        laws_toRibS_p0 v0 v3n (IntKind.i64.wrap (v4 + 1)) (r3.set v4.toNat x2)
      else
       none
   else
    none
  else
   some (r3.take v3n) :=
 (goL_dn _ _ _ 4000 _ _).trans (by kernel_rfl)

/- laws.toInt64S -/
def laws_toInt64S_k0 : C :=
 .seq (.seq (.reg false [.V 8 (.mv (.t 4)), .V 9 (.mv (.t 0)), .V 10 (.len (.t 9)), .V 11 (.bin .lss (.t 8) (.t 10))] [0, 3, 4, 11] [3]) (.cond (.t 11) .skip (.exit 0))) (.seq (.block 1 (.reg false [.V 14 (.mv (.t 3)), .V 15 (.mv (.t 4)), .V 16 (.mv (.t 0)), .V 17 (.mv (.t 4)), .V 18 (.ia 1 (.t 16) (.t 17)), .V 19 (.ld none (.t 18)), .V 20 (.ia 1 (.t 14) (.t 15)), ⟨none, true, .sto 1 (.t 20) (.t 19), none, false, []⟩] [0, 3, 4] [3])) (.reg false [.V 12 (.mv (.t 4)), .V 13 (.bin .add (.t 12) (.c (.int .i64 1))), .V 4 (.asg (.t 13))] [0, 3, 4] [3]))
def laws_toInt64S_k1 : C :=
 .norm [0, 3, 4] [3] laws_toInt64S_k0
def laws_toInt64S_k2 : C :=
 .seq (.reg false [.V 21 (.mv (.t 3)), .W 2 (.asg (.t 21))] [2] [2, 3]) .ret
def laws_toInt64S_ir : Fn := { np := 1, io := [], res := [.t 2], own := [true], body :=
 (.seq (.reg false [.W 2 (.asg (.c (.nils 1)))] [0] []) (.seq (.reg false [.V 5 (.mv (.t 0)), .V 6 (.len (.t 5)), .V 7 (.mks 1 8 (.int .i64 0) (.t 6) (.t 6)), .W 3 (.asg (.t 7))] [0, 3] [3]) (.seq (.seq (.reg false [.V 4 (.asg (.c (.int .i64 0)))] [0, 3, 4] [3]) (.block 0 (.loop laws_toInt64S_k1))) laws_toInt64S_k2))) }
noncomputable def laws_toInt64S_D : List (Nat × Callee) := []
def laws_toInt64S_H : List (Nat × ET) := [(2, (.one (.int .i64))), (3, (.one (.int .i64))), (5, (.one (.int .i64))), (7, (.one (.int .i64))), (9, (.one (.int .i64))), (14, (.one (.int .i64))), (16, (.one (.int .i64))), (21, (.one (.int .i64)))]
noncomputable def laws_toInt64S_c : Callee := mkCallee laws_toInt64S_D laws_toInt64S_H laws_toInt64S_ir [.d (.one (.sl (.one (.int .i64))))] [.tok (.one (.int .i64))] []
noncomputable def laws_toInt64S (a0 : List Int) : Option (List Int) := laws_toInt64S_c.f (a0, ())
noncomputable def laws_toInt64S_p0  (v0 : List Int) (v3n : Nat) (v4 : Int) (r3 : List Int) : Option (List Int) :=
 goL laws_toInt64S_D laws_toInt64S_H (vleave laws_toInt64S_ir [.d (.one (.sl (.one (.int .i64))))] [.tok (.one (.int .i64))] [] []) [.c laws_toInt64S_k0, .l laws_toInt64S_k1, .e 0, .c laws_toInt64S_k2]
  ⟨[(0, .sl (.one (.int .i64)) v0), (3, .view 3 0 v3n), (4, .int .i64 v4)], [(3, some (.sl (.one (.int .i64)) r3))]⟩
theorem laws_toInt64S_eq (a0 : List Int) : laws_toInt64S a0 =
  if decide (0 ≤ (a0.length : Int)) && decide ((a0.length : Int) ≤ (a0.length : Int)) && decide ((a0.length : Int).toNat < lim) then
   laws_toInt64S_p0 a0 ((List.replicate ((a0.length : Int).toNat) (0 : Int)).length) 0 (List.replicate ((a0.length : Int).toNat) (0 : Int))
  else
   none :=
 (mk_f _ _ _ _ _ _ _ 4000).trans (by kernel_rfl)
theorem laws_toInt64S_p0_eq  (v0 : List Int) (v3n : Nat) (v4 : Int) (r3 : List Int) : laws_toInt64S_p0 v0 v3n v4 r3 =
  if decide (v4 < (v0.length : Int)) then
   if decide (0 ≤ v4) then
    (v0[v4.toNat]?).bind fun x1 =>
     if decide (0 ≤ v4) && decide (v4 < (v3n : Int)) then
      (r3[v4.toNat]?).bind fun x2 =>
       laws_toInt64S_p0 v0 v3n (IntKind.i64.wrap (v4 + 1)) (r3.set v4.toNat x1)
     else
      none
   else
    none
  else
   some (r3.take v3n) :=
 (goL_dn _ _ _ 4000 _ _).trans (by kernel_rfl)

/- laws.toInt64SS -/
def laws_toInt64SS_k0 : C :=
 .seq (.seq (.reg false [.V 8 (.mv (.t 4)), .V 9 (.mv (.t 0)), .V 10 (.len (.t 9)), .V 11 (.bin .lss (.t 8) (.t 10))] [0, 3, 4, 11] [3]) (.cond (.t 11) .skip (.exit 0))) (.seq (.block 1 (.reg false [.V 14 (.mv (.t 3)), .V 15 (.mv (.t 4)), .V 16 (.mv (.t 0)), .V 17 (.mv (.t 4)), .V 18 (.ia 1 (.t 16) (.t 17)), .V 19 (.ld none (.t 18)), .V 20 (.call (.c (.fn 121 [])) [.t 19]), .V 21 (.ia 1 (.t 14) (.t 15)), ⟨none, true, .sto 1 (.t 21) (.t 20), none, false, []⟩] [0, 3, 4] [3])) (.reg false [.V 12 (.mv (.t 4)), .V 13 (.bin .add (.t 12) (.c (.int .i64 1))), .V 4 (.asg (.t 13))] [0, 3, 4] [3]))
def laws_toInt64SS_k1 : C :=
 .norm [0, 3, 4] [3] laws_toInt64SS_k0
def laws_toInt64SS_k2 : C :=
 .seq (.reg false [.V 22 (.mv (.t 3)), .W 2 (.asg (.t 22))] [2] [2, 3]) .ret
def laws_toInt64SS_ir : Fn := { np := 1, io := [], res := [.t 2], own := [false], body :=
 (.seq (.reg false [.W 2 (.asg (.c (.nils 1)))] [0] []) (.seq (.reg false [.V 5 (.mv (.t 0)), .V 6 (.len (.t 5)), .V 7 (.mks 1 24 (.sl 1 []) (.t 6) (.t 6)), .W 3 (.asg (.t 7))] [0, 3] [3]) (.seq (.seq (.reg false [.V 4 (.asg (.c (.int .i64 0)))] [0, 3, 4] [3]) (.block 0 (.loop laws_toInt64SS_k1))) laws_toInt64SS_k2))) }
noncomputable def laws_toInt64SS_D : List (Nat × Callee) := [(121, laws_toInt64S_c)]
def laws_toInt64SS_H : List (Nat × ET) := [(2, (.one (.sl (.one (.int .i64))))), (3, (.one (.sl (.one (.int .i64))))), (5, (.one (.sl (.one (.int .i64))))), (7, (.one (.sl (.one (.int .i64))))), (9, (.one (.sl (.one (.int .i64))))), (14, (.one (.sl (.one (.int .i64))))), (16, (.one (.sl (.one (.int .i64))))), (19, (.one (.int .i64))), (20, (.one (.int .i64))), (22, (.one (.sl (.one (.int .i64)))))]
noncomputable def laws_toInt64SS_c : Callee := mkCallee laws_toInt64SS_D laws_toInt64SS_H laws_toInt64SS_ir [.d (.one (.sl (.one (.sl (.one (.int .i64))))))] [.d (.one (.sl (.one (.sl (.one (.int .i64))))))] []
noncomputable def laws_toInt64SS (a0 : List (List Int)) : Option (List (List Int)) := laws_toInt64SS_c.f (a0, ())
noncomputable def laws_toInt64SS_p0  (v0 : List (List Int)) (v3n : Nat) (v4 : Int) (r3 : List (List Int)) : Option (List (List Int)) :=
 goL laws_toInt64SS_D laws_toInt64SS_H (vleave laws_toInt64SS_ir [.d (.one (.sl (.one (.sl (.one (.int .i64))))))] [.d (.one (.sl (.one (.sl (.one (.int .i64))))))] [] []) [.c laws_toInt64SS_k0, .l laws_toInt64SS_k1, .e 0, .c laws_toInt64SS_k2]
  ⟨[(0, .sl (.one (.sl (.one (.int .i64)))) v0), (3, .view 3 0 v3n), (4, .int .i64 v4)], [(3, some (.sl (.one (.sl (.one (.int .i64)))) r3))]⟩
theorem laws_toInt64SS_eq (a0 : List (List Int)) : laws_toInt64SS a0 =
  if decide (0 ≤ (a0.length : Int)) && decide ((a0.length : Int) ≤ (a0.length : Int)) && decide ((a0.length : Int).toNat < lim) then
   laws_toInt64SS_p0 a0 ((List.replicate ((a0.length : Int).toNat) ([] : List Int)).length) 0 (List.replicate ((a0.length : Int).toNat) ([] : List Int))
  else
   none :=
 (mk_f _ _ _ _ _ _ _ 4000).trans (by kernel_rfl)
theorem laws_toInt64SS_p0_eq  (v0 : List (List Int)) (v3n : Nat) (v4 : Int) (r3 : List (List Int)) : laws_toInt64SS_p0 v0 v3n v4 r3 =
  if decide (v4 < (v0.length : Int)) then
   if decide (0 ≤ v4) then
    (v0[v4.toNat]?).bind fun x1 =>
     (laws_toInt64S x1).bind fun x2 =>
      if decide (0 ≤ v4) && decide (v4 < (v3n : Int)) then
       (r3[v4.toNat]?).bind fun x3 =>
        laws_toInt64SS_p0 v0 v3n (IntKind.i64.wrap (v4 + 1)) (r3.set v4.toNat x2)
      else
       none
   else
    none
  else
   some (r3.take v3n) :=
 (goL_dn _ _ _ 4000 _ _).trans (by kernel_rfl)

/- laws.toNeck -/
def laws_toNeck_ir : Fn := { np := 1, io := [], res := [.cell 2 (some 4)], own := [false], body :=
 (.seq (.reg false [.W 1 (.box 4 (.t 0)), .W 2 (.alloc 4 (.agg [.int .i64 0, .int .i64 0, .int .i64 0, .int .i64 0]))] [1, 2] [1, 2]) (.seq (.reg false [.W 3 (.alloc 4 (.agg [.int .i64 0, .int .i64 0, .int .i64 0, .int .i64 0]))] [1, 2, 3] [1, 2, 3]) (.seq (.reg false [.V 4 (.fa 0 (.t 1)), .V 5 (.ld none (.t 4)), .V 6 (.fa 0 (.t 3)), ⟨none, true, .sto 1 (.t 6) (.t 5), none, false, []⟩] [1, 2, 3] [1, 2, 3]) (.seq (.reg false [.V 7 (.fa 1 (.t 1)), .V 8 (.ld none (.t 7)), .V 9 (.fa 1 (.t 3)), ⟨none, true, .sto 1 (.t 9) (.t 8), none, false, []⟩] [1, 2, 3] [1, 2, 3]) (.seq (.reg false [.V 10 (.fa 2 (.t 1)), .V 11 (.ld none (.t 10)), .V 12 (.fa 2 (.t 3)), ⟨none, true, .sto 1 (.t 12) (.t 11), none, false, []⟩] [1, 2, 3] [1, 2, 3]) (.seq (.reg false [.V 13 (.fa 3 (.t 1)), .V 14 (.ld none (.t 13)), .V 15 (.fa 3 (.t 3)), ⟨none, true, .sto 1 (.t 15) (.t 14), none, false, []⟩] [2, 3] [2, 3]) (.seq (.reg false [.V 16 (.ld (some 4) (.t 3)), ⟨none, true, .sto 4 (.t 2) (.t 16), none, false, []⟩] [2] [2]) .ret))))))) }
noncomputable def laws_toNeck_D : List (Nat × Callee) := []
def laws_toNeck_H : List (Nat × ET) := []
noncomputable def laws_toNeck_c : Callee := mkCallee laws_toNeck_D laws_toNeck_H laws_toNeck_ir [.d T_Neck] [.d T_Neck] []
noncomputable def laws_toNeck (a0 : T_Neck.ty) : Option (T_Neck.ty) := laws_toNeck_c.f (a0, ())
theorem laws_toNeck_eq (a0 : T_Neck.ty) : laws_toNeck a0 =
  some a0 :=
 (mk_f _ _ _ _ _ _ _ 4000).trans (by kernel_rfl)

/- laws.toPeg -/
def laws_toPeg_ir : Fn := { np := 1, io := [], res := [.cell 2 (some 4)], own := [false], body :=
 (.seq (.reg false [.W 1 (.box 4 (.t 0)), .W 2 (.alloc 4 (.agg [.str [], .int .i64 0, .int .i64 0, .int .i64 0]))] [1, 2] [1, 2]) (.seq (.reg false [.W 3 (.alloc 4 (.agg [.str [], .int .i64 0, .int .i64 0, .int .i64 0]))] [1, 2, 3] [1, 2, 3]) (.seq (.reg false [.V 4 (.fa 0 (.t 1)), .V 5 (.ld none (.t 4)), .V 6 (.fa 0 (.t 3)), ⟨none, true, .sto 1 (.t 6) (.t 5), none, false, []⟩] [1, 2, 3] [1, 2, 3]) (.seq (.reg false [.V 7 (.fa 1 (.t 1)), .V 8 (.ld none (.t 7)), .V 9 (.fa 1 (.t 3)), ⟨none, true, .sto 1 (.t 9) (.t 8), none, false, []⟩] [1, 2, 3] [1, 2, 3]) (.seq (.reg false [.V 10 (.fa 2 (.t 1)), .V 11 (.ld none (.t 10)), .V 12 (.fa 2 (.t 3)), ⟨none, true, .sto 1 (.t 12) (.t 11), none, false, []⟩] [1, 2, 3] [1, 2, 3]) (.seq (.reg false [.V 13 (.fa 3 (.t 1)), .V 14 (.ld none (.t 13)), .V 15 (.fa 3 (.t 3)), ⟨none, true, .sto 1 (.t 15) (.t 14), none, false, []⟩] [2, 3] [2, 3]) (.seq (.reg false [.V 16 (.ld (some 4) (.t 3)), ⟨none, true, .sto 4 (.t 2) (.t 16), none, false, []⟩] [2] [2]) .ret))))))) }
noncomputable def laws_toPeg_D : List (Nat × Callee) := []
def laws_toPeg_H : List (Nat × ET) := []
noncomputable def laws_toPeg_c : Callee := mkCallee laws_toPeg_D laws_toPeg_H laws_toPeg_ir [.d T_Peg] [.d T_Peg] []
noncomputable def laws_toPeg (a0 : T_Peg.ty) : Option (T_Peg.ty) := laws_toPeg_c.f (a0, ())
theorem laws_toPeg_eq (a0 : T_Peg.ty) : laws_toPeg a0 =
  some a0 :=
 (mk_f _ _ _ _ _ _ _ 4000).trans (by kernel_rfl)

/- laws.toPegS -/
def laws_toPegS_k0 : C :=
 .seq (.seq (.reg false [.V 8 (.mv (.t 4)), .V 9 (.mv (.t 0)), .V 10 (.len (.t 9)), .V 11 (.bin .lss (.t 8) (.t 10))] [0, 3, 4, 11] [3]) (.cond (.t 11) .skip (.exit 0))) (.seq (.block 1 (.reg false [.V 14 (.mv (.t 3)), .V 15 (.mv (.t 4)), .V 16 (.mv (.t 0)), .V 17 (.mv (.t 4)), .V 18 (.ia 4 (.t 16) (.t 17)), .V 19 (.ld (some 4) (.t 18)), .V 20 (.call (.c (.fn 498 [])) [.t 19]), .V 21 (.ia 4 (.t 14) (.t 15)), ⟨none, true, .sto 4 (.t 21) (.t 20), none, false, []⟩] [0, 3, 4] [3])) (.reg false [.V 12 (.mv (.t 4)), .V 13 (.bin .add (.t 12) (.c (.int .i64 1))), .V 4 (.asg (.t 13))] [0, 3, 4] [3]))
def laws_toPegS_k1 : C :=
 .norm [0, 3, 4] [3] laws_toPegS_k0
def laws_toPegS_k2 : C :=
 .seq (.reg false [.V 22 (.mv (.t 3)), .W 2 (.asg (.t 22))] [2] [2, 3]) .ret
def laws_toPegS_ir : Fn := { np := 1, io := [], res := [.t 2], own := [true], body :=
 (.seq (.reg false [.W 2 (.asg (.c (.nils 4)))] [0] []) (.seq (.reg false [.V 5 (.mv (.t 0)), .V 6 (.len (.t 5)), .V 7 (.mks 4 40 (.agg [.str [], .int .i64 0, .int .i64 0, .int .i64 0]) (.t 6) (.t 6)), .W 3 (.asg (.t 7))] [0, 3] [3]) (.seq (.seq (.reg false [.V 4 (.asg (.c (.int .i64 0)))] [0, 3, 4] [3]) (.block 0 (.loop laws_toPegS_k1))) laws_toPegS_k2))) }
noncomputable def laws_toPegS_D : List (Nat × Callee) := [(498, laws_toPeg_c)]
def laws_toPegS_H : List (Nat × ET) := [(2, T_Peg), (3, T_Peg), (5, T_Peg), (7, T_Peg), (9, T_Peg), (14, T_Peg), (16, T_Peg), (22, T_Peg)]
noncomputable def laws_toPegS_c : Callee := mkCallee laws_toPegS_D laws_toPegS_H laws_toPegS_ir [.d (.one (.sl T_Peg))] [.tok T_Peg] []
noncomputable def laws_toPegS (a0 : List T_Peg.ty) : Option (List T_Peg.ty) := laws_toPegS_c.f (a0, ())
noncomputable def laws_toPegS_p0  (v0 : List T_Peg.ty) (v3n : Nat) (v4 : Int) (r3 : List T_Peg.ty) : Option (List T_Peg.ty) :=
 goL laws_toPegS_D laws_toPegS_H (vleave laws_toPegS_ir [.d (.one (.sl T_Peg))] [.tok T_Peg] [] []) [.c laws_toPegS_k0, .l laws_toPegS_k1, .e 0, .c laws_toPegS_k2]
  ⟨[(0, .sl T_Peg v0), (3, .view 3 0 v3n), (4, .int .i64 v4)], [(3, some (.sl T_Peg r3))]⟩
theorem laws_toPegS_eq (a0 : List T_Peg.ty) : laws_toPegS a0 =
  if decide (0 ≤ (a0.length : Int)) && decide ((a0.length : Int) ≤ (a0.length : Int)) && decide ((a0.length : Int).toNat < lim) then
   laws_toPegS_p0 a0 ((List.replicate ((a0.length : Int).toNat) (([], 0, 0, 0, ()) : T_Peg.ty)).length) 0 (List.replicate ((a0.length : Int).toNat) (([], 0, 0, 0, ()) : T_Peg.ty))
  else
   none :=
 (mk_f _ _ _ _ _ _ _ 4000).trans (by kernel_rfl)
theorem laws_toPegS_p0_eq  (v0 : List T_Peg.ty) (v3n : Nat) (v4 : Int) (r3 : List T_Peg.ty) : laws_toPegS_p0 v0 v3n v4 r3 =
  if decide (v4 < (v0.length : Int)) then
   if decide (0 ≤ v4) then
    (v0[v4.toNat]?).bind fun x1 =>
     (laws_toPeg x1).bind fun x2 =>
      if decide (0 ≤ v4) && decide (v4 < (v3n : Int)) then
       (r3[v4.toNat]?).bind fun x3 =>
        laws_toPegS_p0 v0 v3n (IntKind.i64.wrap (v4 + 1)) (r3.set v4.toNat x2)
      else
       none
   else
    none
  else
   some (r3.take v3n) :=
 (goL_dn _ _ _ 4000 _ _).trans (by kernel_rfl)

/- laws.toPot -/
def laws_toPot_ir : Fn := { np := 1, io := [], res := [.cell 2 (some 5)], own := [false], body :=
 (.seq (.reg false [.W 1 (.box 5 (.t 0)), .W 2 (.alloc 5 (.agg [.str [], .int .i64 0, .int .i64 0, .int .i64 0, .int .i64 0]))] [1, 2] [1, 2]) (.seq (.reg false [.W 3 (.alloc 5 (.agg [.str [], .int .i64 0, .int .i64 0, .int .i64 0, .int .i64 0]))] [1, 2, 3] [1, 2, 3]) (.seq (.reg false [.V 4 (.fa 0 (.t 1)), .V 5 (.ld none (.t 4)), .V 6 (.fa 0 (.t 3)), ⟨none, true, .sto 1 (.t 6) (.t 5), none, false, []⟩] [1, 2, 3] [1, 2, 3]) (.seq (.reg false [.V 7 (.fa 1 (.t 1)), .V 8 (.ld none (.t 7)), .V 9 (.fa 1 (.t 3)), ⟨none, true, .sto 1 (.t 9) (.t 8), none, false, []⟩] [1, 2, 3] [1, 2, 3]) (.seq (.reg false [.V 10 (.fa 2 (.t 1)), .V 11 (.ld none (.t 10)), .V 12 (.fa 2 (.t 3)), ⟨none, true, .sto 1 (.t 12) (.t 11), none, false, []⟩] [1, 2, 3] [1, 2, 3]) (.seq (.reg false [.V 13 (.fa 3 (.t 1)), .V 14 (.ld none (.t 13)), .V 15 (.fa 3 (.t 3)), ⟨none, true, .sto 1 (.t 15) (.t 14), none, false, []⟩] [1, 2, 3] [1, 2, 3]) (.seq (.reg false [.V 16 (.fa 4 (.t 1)), .V 17 (.ld none (.t 16)), .V 18 (.fa 4 (.t 3)), ⟨none, true, .sto 1 (.t 18) (.t 17), none, false, []⟩] [2, 3] [2, 3]) (.seq (.reg false [.V 19 (.ld (some 5) (.t 3)), ⟨none, true, .sto 5 (.t 2) (.t 19), none, false, []⟩] [2] [2]) .ret)))))))) }
noncomputable def laws_toPot_D : List (Nat × Callee) := []
def laws_toPot_H : List (Nat × ET) := []
noncomputable def laws_toPot_c : Callee := mkCallee laws_toPot_D laws_toPot_H laws_toPot_ir [.d T_Pot] [.d T_Pot] []
noncomputable def laws_toPot (a0 : T_Pot.ty) : Option (T_Pot.ty) := laws_toPot_c.f (a0, ())
theorem laws_toPot_eq (a0 : T_Pot.ty) : laws_toPot a0 =
  some a0 :=
 (mk_f _ _ _ _ _ _ _ 4000).trans (by kernel_rfl)

/- laws.toPotS -/
def laws_toPotS_k0 : C :=
 .seq (.seq (.reg false [.V 8 (.mv (.t 4)), .V 9 (.mv (.t 0)), .V 10 (.len (.t 9)), .V 11 (.bin .lss (.t 8) (.t 10))] [0, 3, 4, 11] [3]) (.cond (.t 11) .skip (.exit 0))) (.seq (.block 1 (.reg false [.V 14 (.mv (.t 3)), .V 15 (.mv (.t 4)), .V 16 (.mv (.t 0)), .V 17 (.mv (.t 4)), .V 18 (.ia 5 (.t 16) (.t 17)), .V 19 (.ld (some 5) (.t 18)), .V 20 (.call (.c (.fn 31 [])) [.t 19]), .V 21 (.ia 5 (.t 14) (.t 15)), ⟨none, true, .sto 5 (.t 21) (.t 20), none, false, []⟩] [0, 3, 4] [3])) (.reg false [.V 12 (.mv (.t 4)), .V 13 (.bin .add (.t 12) (.c (.int .i64 1))), .V 4 (.asg (.t 13))] [0, 3, 4] [3]))
def laws_toPotS_k1 : C :=
 .norm [0, 3, 4] [3] laws_toPotS_k0
def laws_toPotS_k2 : C :=
 .seq (.reg false [.V 22 (.mv (.t 3)), .W 2 (.asg (.t 22))] [2] [2, 3]) .ret
def laws_toPotS_ir : Fn := { np := 1, io := [], res := [.t 2], own := [true], body :=
 (.seq (.reg false [.W 2 (.asg (.c (.nils 5)))] [0] []) (.seq (.reg false [.V 5 (.mv (.t 0)), .V 6 (.len (.t 5)), .V 7 (.mks 5 48 (.agg [.str [], .int .i64 0, .int .i64 0, .int .i64 0, .int .i64 0]) (.t 6) (.t 6)), .W 3 (.asg (.t 7))] [0, 3] [3]) (.seq (.seq (.reg false [.V 4 (.asg (.c (.int .i64 0)))] [0, 3, 4] [3]) (.block 0 (.loop laws_toPotS_k1))) laws_toPotS_k2))) }
noncomputable def laws_toPotS_D : List (Nat × Callee) := [(31, laws_toPot_c)]
def laws_toPotS_H : List (Nat × ET) := [(2, T_Pot), (3, T_Pot), (5, T_Pot), (7, T_Pot), (9, T_Pot), (14, T_Pot), (16, T_Pot), (22, T_Pot)]
noncomputable def laws_toPotS_c : Callee := mkCallee laws_toPotS_D laws_toPotS_H laws_toPotS_ir [.d (.one (.sl T_Pot))] [.tok T_Pot] []
noncomputable def laws_toPotS (a0 : List T_Pot.ty) : Option (List T_Pot.ty) := laws_toPotS_c.f (a0, ())
noncomputable def laws_toPotS_p0  (v0 : List T_Pot.ty) (v3n : Nat) (v4 : Int) (r3 : List T_Pot.ty) : Option (List T_Pot.ty) :=
 goL laws_toPotS_D laws_toPotS_H (vleave laws_toPotS_ir [.d (.one (.sl T_Pot))] [.tok T_Pot] [] []) [.c laws_toPotS_k0, .l laws_toPotS_k1, .e 0, .c laws_toPotS_k2]
  ⟨[(0, .sl T_Pot v0), (3, .view 3 0 v3n), (4, .int .i64 v4)], [(3, some (.sl T_Pot r3))]⟩
theorem laws_toPotS_eq (a0 : List T_Pot.ty) : laws_toPotS a0 =
  if decide (0 ≤ (a0.length : Int)) && decide ((a0.length : Int) ≤ (a0.length : Int)) && decide ((a0.length : Int).toNat < lim) then
   laws_toPotS_p0 a0 ((List.replicate ((a0.length : Int).toNat) (([], 0, 0, 0, 0, ()) : T_Pot.ty)).length) 0 (List.replicate ((a0.length : Int).toNat) (([], 0, 0, 0, 0, ()) : T_Pot.ty))
  else
   none :=
 (mk_f _ _ _ _ _ _ _ 4000).trans (by kernel_rfl)
theorem laws_toPotS_p0_eq  (v0 : List T_Pot.ty) (v3n : Nat) (v4 : Int) (r3 : List T_Pot.ty) : laws_toPotS_p0 v0 v3n v4 r3 =
  if decide (v4 < (v0.length : Int)) then
   if decide (0 ≤ v4) then
    (v0[v4.toNat]?).bind fun x1 =>
     (laws_toPot x1).bind fun x2 =>
      if decide (0 ≤ v4) && decide (v4 < (v3n : Int)) then
       (r3[v4.toNat]?).bind fun x3 =>
        laws_toPotS_p0 v0 v3n (IntKind.i64.wrap (v4 + 1)) (r3.set v4.toNat x2)
      else
       none
   else
    none
  else
   some (r3.take v3n) :=
 (goL_dn _ _ _ 4000 _ _).trans (by kernel_rfl)

/- laws.toMode -/
def laws_toMode_ir : Fn := { np := 1, io := [], res := [.cell 2 (some 3)], own := [false], body :=
 (.seq (.reg false [.W 1 (.box 3 (.t 0)), .W 2 (.alloc 3 (.agg [.str [], .int .i64 0, .int .i64 0]))] [1, 2] [1, 2]) (.seq (.reg false [.W 3 (.alloc 3 (.agg [.str [], .int .i64 0, .int .i64 0]))] [1, 2, 3] [1, 2, 3]) (.seq (.reg false [.V 4 (.fa 0 (.t 1)), .V 5 (.ld none (.t 4)), .V 6 (.fa 0 (.t 3)), ⟨none, true, .sto 1 (.t 6) (.t 5), none, false, []⟩] [1, 2, 3] [1, 2, 3]) (.seq (.reg false [.V 7 (.fa 1 (.t 1)), .V 8 (.ld none (.t 7)), .V 9 (.fa 1 (.t 3)), ⟨none, true, .sto 1 (.t 9) (.t 8), none, false, []⟩] [1, 2, 3] [1, 2, 3]) (.seq (.reg false [.V 10 (.fa 2 (.t 1)), .V 11 (.ld none (.t 10)), .V 12 (.fa 2 (.t 3)), ⟨none, true, .sto 1 (.t 12) (.t 11), none, false, []⟩] [2, 3] [2, 3]) (.seq (.reg false [.V 13 (.ld (some 3) (.t 3)), ⟨none, true, .sto 3 (.t 2) (.t 13), none, false, []⟩] [2] [2]) .ret)))))) }
noncomputable def laws_toMode_D : List (Nat × Callee) := []
def laws_toMode_H : List (Nat × ET) := []
noncomputable def laws_toMode_c : Callee := mkCallee laws_toMode_D laws_toMode_H laws_toMode_ir [.d T_Mode] [.d T_Mode] []
noncomputable def laws_toMode (a0 : T_Mode.ty) : Option (T_Mode.ty) := laws_toMode_c.f (a0, ())
theorem laws_toMode_eq (a0 : T_Mode.ty) : laws_toMode a0 =
  some a0 :=
 (mk_f _ _ _ _ _ _ _ 4000).trans (by kernel_rfl)

/- laws.toModeS -/
def laws_toModeS_k0 : C :=
 .seq (.seq (.reg false [.V 8 (.mv (.t 4)), .V 9 (.mv (.t 0)), .V 10 (.len (.t 9)), .V 11 (.bin .lss (.t 8) (.t 10))] [0, 3, 4, 11] [3]) (.cond (.t 11) .skip (.exit 0))) (.seq (.block 1 (.reg false [.V 14 (.mv (.t 3)), .V 15 (.mv (.t 4)), .V 16 (.mv (.t 0)), .V 17 (.mv (.t 4)), .V 18 (.ia 3 (.t 16) (.t 17)), .V 19 (.ld (some 3) (.t 18)), .V 20 (.call (.c (.fn 919 [])) [.t 19]), .V 21 (.ia 3 (.t 14) (.t 15)), ⟨none, true, .sto 3 (.t 21) (.t 20), none, false, []⟩] [0, 3, 4] [3])) (.reg false [.V 12 (.mv (.t 4)), .V 13 (.bin .add (.t 12) (.c (.int .i64 1))), .V 4 (.asg (.t 13))] [0, 3, 4] [3]))
def laws_toModeS_k1 : C :=
 .norm [0, 3, 4] [3] laws_toModeS_k0
def laws_toModeS_k2 : C :=
 .seq (.reg false [.V 22 (.mv (.t 3)), .W 2 (.asg (.t 22))] [2] [2, 3]) .ret
def laws_toModeS_ir : Fn := { np := 1, io := [], res := [.t 2], own := [true], body :=
 (.seq (.reg false [.W 2 (.asg (.c (.nils 3)))] [0] []) (.seq (.reg false [.V 5 (.mv (.t 0)), .V 6 (.len (.t 5)), .V 7 (.mks 3 32 (.agg [.str [], .int .i64 0, .int .i64 0]) (.t 6) (.t 6)), .W 3 (.asg (.t 7))] [0, 3] [3]) (.seq (.seq (.reg false [.V 4 (.asg (.c (.int .i64 0)))] [0, 3, 4] [3]) (.block 0 (.loop laws_toModeS_k1))) laws_toModeS_k2))) }
noncomputable def laws_toModeS_D : List (Nat × Callee) := [(919, laws_toMode_c)]
def laws_toModeS_H : List (Nat × ET) := [(2, T_Mode), (3, T_Mode), (5, T_Mode), (7, T_Mode), (9, T_Mode), (14, T_Mode), (16, T_Mode), (22, T_Mode)]
noncomputable def laws_toModeS_c : Callee := mkCallee laws_toModeS_D laws_toModeS_H laws_toModeS_ir [.d (.one (.sl T_Mode))] [.tok T_Mode] []
noncomputable def laws_toModeS (a0 : List T_Mode.ty) : Option (List T_Mode.ty) := laws_toModeS_c.f (a0, ())
noncomputable def laws_toModeS_p0  (v0 : List T_Mode.ty) (v3n : Nat) (v4 : Int) (r3 : List T_Mode.ty) : Option (List T_Mode.ty) :=
 goL laws_toModeS_D laws_toModeS_H (vleave laws_toModeS_ir [.d (.one (.sl T_Mode))] [.tok T_Mode] [] []) [.c laws_toModeS_k0, .l laws_toModeS_k1, .e 0, .c laws_toModeS_k2]
  ⟨[(0, .sl T_Mode v0), (3, .view 3 0 v3n), (4, .int .i64 v4)], [(3, some (.sl T_Mode r3))]⟩
theorem laws_toModeS_eq (a0 : List T_Mode.ty) : laws_toModeS a0 =
  if decide (0 ≤ (a0.length : Int)) && decide ((a0.length : Int) ≤ (a0.length : Int)) && decide ((a0.length : Int).toNat < lim) then
   laws_toModeS_p0 a0 ((List.replicate ((a0.length : Int).toNat) (([], 0, 0, ()) : T_Mode.ty)).length) 0 (List.replicate ((a0.length : Int).toNat) (([], 0, 0, ()) : T_Mode.ty))
  else
   none :=
 (mk_f _ _ _ _ _ _ _ 4000).trans (by kernel_rfl)
theorem laws_toModeS_p0_eq  (v0 : List T_Mode.ty) (v3n : Nat) (v4 : Int) (r3 : List T_Mode.ty) : laws_toModeS_p0 v0 v3n v4 r3 =
  if decide (v4 < (v0.length : Int)) then
   if decide (0 ≤ v4) then
    (v0[v4.toNat]?).bind fun x1 =>
     (laws_toMode x1).bind fun x2 =>
      if decide (0 ≤ v4) && decide (v4 < (v3n : Int)) then
       (r3[v4.toNat]?).bind fun x3 =>
        laws_toModeS_p0 v0 v3n (IntKind.i64.wrap (v4 + 1)) (r3.set v4.toNat x2)
      else
       none
   else
    none
  else
   some (r3.take v3n) :=
 (goL_dn _ _ _ 4000 _ _).trans (by kernel_rfl)

/- laws.toWork -/
def laws_toWork_ir : Fn := { np := 1, io := [], res := [.cell 2 (some 4)], own := [false], body :=
 (.seq (.reg false [.W 1 (.box 4 (.t 0)), .W 2 (.alloc 4 (.agg [.str [], .int .i64 0, .int .i64 0, .int .i64 0]))] [1, 2] [1, 2]) (.seq (.reg false [.W 3 (.alloc 4 (.agg [.str [], .int .i64 0, .int .i64 0, .int .i64 0]))] [1, 2, 3] [1, 2, 3]) (.seq (.reg false [.V 4 (.fa 0 (.t 1)), .V 5 (.ld none (.t 4)), .V 6 (.fa 0 (.t 3)), ⟨none, true, .sto 1 (.t 6) (.t 5), none, false, []⟩] [1, 2, 3] [1, 2, 3]) (.seq (.reg false [.V 7 (.fa 1 (.t 1)), .V 8 (.ld none (.t 7)), .V 9 (.fa 1 (.t 3)), ⟨none, true, .sto 1 (.t 9) (.t 8), none, false, []⟩] [1, 2, 3] [1, 2, 3]) (.seq (.reg false [.V 10 (.fa 2 (.t 1)), .V 11 (.ld none (.t 10)), .V 12 (.fa 2 (.t 3)), ⟨none, true, .sto 1 (.t 12) (.t 11), none, false, []⟩] [1, 2, 3] [1, 2, 3]) (.seq (.reg false [.V 13 (.fa 3 (.t 1)), .V 14 (.ld none (.t 13)), .V 15 (.fa 3 (.t 3)), ⟨none, true, .sto 1 (.t 15) (.t 14), none, false, []⟩] [2, 3] [2, 3]) (.seq (.reg false [.V 16 (.ld (some 4) (.t 3)), ⟨none, true, .sto 4 (.t 2) (.t 16), none, false, []⟩] [2] [2]) .ret))))))) }
noncomputable def laws_toWork_D : List (Nat × Callee) := []
def laws_toWork_H : List (Nat × ET) := []
noncomputable def laws_toWork_c : Callee := mkCallee laws_toWork_D laws_toWork_H laws_toWork_ir [.d T_Peg] [.d T_Peg] []
noncomputable def laws_toWork (a0 : T_Peg.ty) : Option (T_Peg.ty) := laws_toWork_c.f (a0, ())
theorem laws_toWork_eq (a0 : T_Peg.ty) : laws_toWork a0 =
  some a0 :=
 (mk_f _ _ _ _ _ _ _ 4000).trans (by kernel_rfl)

/- laws.toWorkS -/
def laws_toWorkS_k0 : C :=
 .seq (.seq (.reg false [.V 8 (.mv (.t 4)), .V 9 (.mv (.t 0)), .V 10 (.len (.t 9)), .V 11 (.bin .lss (.t 8) (.t 10))] [0, 3, 4, 11] [3]) (.cond (.t 11) .skip (.exit 0))) (.seq (.block 1 (.reg false [.V 14 (.mv (.t 3)), .V 15 (.mv (.t 4)), .V 16 (.mv (.t 0)), .V 17 (.mv (.t 4)), .V 18 (.ia 4 (.t 16) (.t 17)), .V 19 (.ld (some 4) (.t 18)), .V 20 (.call (.c (.fn 920 [])) [.t 19]), .V 21 (.ia 4 (.t 14) (.t 15)), ⟨none, true, .sto 4 (.t 21) (.t 20), none, false, []⟩] [0, 3, 4] [3])) (.reg false [.V 12 (.mv (.t 4)), .V 13 (.bin .add (.t 12) (.c (.int .i64 1))), .V 4 (.asg (.t 13))] [0, 3, 4] [3]))
def laws_toWorkS_k1 : C :=
 .norm [0, 3, 4] [3] laws_toWorkS_k0
def laws_toWorkS_k2 : C :=
 .seq (.reg false [.V 22 (.mv (.t 3)), .W 2 (.asg (.t 22))] [2] [2, 3]) .ret
def laws_toWorkS_ir : Fn := { np := 1, io := [], res := [.t 2], own := [true], body :=
 (.seq (.reg false [.W 2 (.asg (.c (.nils 4)))] [0] []) (.seq (.reg false [.V 5 (.mv (.t 0)), .V 6 (.len (.t 5)), .V 7 (.mks 4 40 (.agg [.str [], .int .i64 0, .int .i64 0, .int .i64 0]) (.t 6) (.t 6)), .W 3 (.asg (.t 7))] [0, 3] [3]) (.seq (.seq (.reg false [.V 4 (.asg (.c (.int .i64 0)))] [0, 3, 4] [3]) (.block 0 (.loop laws_toWorkS_k1))) laws_toWorkS_k2))) }
noncomputable def laws_toWorkS_D : List (Nat × Callee) := [(920, laws_toWork_c)]
def laws_toWorkS_H : List (Nat × ET) := [(2, T_Peg), (3, T_Peg), (5, T_Peg), (7, T_Peg), (9, T_Peg), (14, T_Peg), (16, T_Peg), (22, T_Peg)]
noncomputable def laws_toWorkS_c : Callee := mkCallee laws_toWorkS_D laws_toWorkS_H laws_toWorkS_ir [.d (.one (.sl T_Peg))] [.tok T_Peg] []
noncomputable def laws_toWorkS (a0 : List T_Peg.ty) : Option (List T_Peg.ty) := laws_toWorkS_c.f (a0, ())
noncomputable def laws_toWorkS_p0  (v0 : List T_Peg.ty) (v3n : Nat) (v4 : Int) (r3 : List T_Peg.ty) : Option (List T_Peg.ty) :=
 goL laws_toWorkS_D laws_toWorkS_H (vleave laws_toWorkS_ir [.d (.one (.sl T_Peg))] [.tok T_Peg] [] []) [.c laws_toWorkS_k0, .l laws_toWorkS_k1, .e 0, .c laws_toWorkS_k2]
  ⟨[(0, .sl T_Peg v0), (3, .view 3 0 v3n), (4, .int .i64 v4)], [(3, some (.sl T_Peg r3))]⟩
theorem laws_toWorkS_eq (a0 : List T_Peg.ty) : laws_toWorkS a0 =
  if decide (0 ≤ (a0.length : Int)) && decide ((a0.length : Int) ≤ (a0.length : Int)) && decide ((a0.length : Int).toNat < lim) then
   laws_toWorkS_p0 a0 ((List.replicate ((a0.length : Int).toNat) (([], 0, 0, 0, ()) : T_Peg.ty)).length) 0 (List.replicate ((a0.length : Int).toNat) (([], 0, 0, 0, ()) : T_Peg.ty))
  else
   none :=
 (mk_f _ _ _ _ _ _ _ 4000).trans (by kernel_rfl)
theorem laws_toWorkS_p0_eq  (v0 : List T_Peg.ty) (v3n : Nat) (v4 : Int) (r3 : List T_Peg.ty) : laws_toWorkS_p0 v0 v3n v4 r3 =
  if decide (v4 < (v0.length : Int)) then
   if decide (0 ≤ v4) then
    (v0[v4.toNat]?).bind fun x1 =>
     (laws_toWork x1).bind fun x2 =>
      if decide (0 ≤ v4) && decide (v4 < (v3n : Int)) then
       (r3[v4.toNat]?).bind fun x3 =>
        laws_toWorkS_p0 v0 v3n (IntKind.i64.wrap (v4 + 1)) (r3.set v4.toNat x2)
      else
       none
   else
    none
  else
   some (r3.take v3n) :=
 (goL_dn _ _ _ 4000 _ _).trans (by kernel_rfl)

/- laws.toPaper -/
def laws_toPaper_ir : Fn := { np := 1, io := [], res := [.cell 2 (some 5)], own := [false], body :=
 (.seq (.reg false [.W 1 (.box 5 (.t 0)), .W 2 (.alloc 5 (.agg [.str [], .str [], .int .i64 0, .int .i64 0, .int .i64 0]))] [1, 2] [1, 2]) (.seq (.reg false [.W 3 (.alloc 5 (.agg [.str [], .str [], .int .i64 0, .int .i64 0, .int .i64 0]))] [1, 2, 3] [1, 2, 3]) (.seq (.reg false [.V 4 (.fa 0 (.t 1)), .V 5 (.ld none (.t 4)), .V 6 (.fa 0 (.t 3)), ⟨none, true, .sto 1 (.t 6) (.t 5), none, false, []⟩] [1, 2, 3] [1, 2, 3]) (.seq (.reg false [.V 7 (.fa 1 (.t 1)), .V 8 (.ld none (.t 7)), .V 9 (.fa 1 (.t 3)), ⟨none, true, .sto 1 (.t 9) (.t 8), none, false, []⟩] [1, 2, 3] [1, 2, 3]) (.seq (.reg false [.V 10 (.fa 2 (.t 1)), .V 11 (.ld none (.t 10)), .V 12 (.fa 2 (.t 3)), ⟨none, true, .sto 1 (.t 12) (.t 11), none, false, []⟩] [1, 2, 3] [1, 2, 3]) (.seq (.reg false [.V 13 (.fa 3 (.t 1)), .V 14 (.ld none (.t 13)), .V 15 (.fa 3 (.t 3)), ⟨none, true, .sto 1 (.t 15) (.t 14), none, false, []⟩] [1, 2, 3] [1, 2, 3]) (.seq (.reg false [.V 16 (.fa 4 (.t 1)), .V 17 (.ld none (.t 16)), .V 18 (.fa 4 (.t 3)), ⟨none, true, .sto 1 (.t 18) (.t 17), none, false, []⟩] [2, 3] [2, 3]) (.seq (.reg false [.V 19 (.ld (some 5) (.t 3)), ⟨none, true, .sto 5 (.t 2) (.t 19), none, false, []⟩] [2] [2]) .ret)))))))) }
noncomputable def laws_toPaper_D : List (Nat × Callee) := []
def laws_toPaper_H : List (Nat × ET) := []
noncomputable def laws_toPaper_c : Callee := mkCallee laws_toPaper_D laws_toPaper_H laws_toPaper_ir [.d T_Paper] [.d T_Paper] []
noncomputable def laws_toPaper (a0 : T_Paper.ty) : Option (T_Paper.ty) := laws_toPaper_c.f (a0, ())
theorem laws_toPaper_eq (a0 : T_Paper.ty) : laws_toPaper a0 =
  some a0 :=
 (mk_f _ _ _ _ _ _ _ 4000).trans (by kernel_rfl)

/- laws.toPaperS -/
def laws_toPaperS_k0 : C :=
 .seq (.seq (.reg false [.V 8 (.mv (.t 4)), .V 9 (.mv (.t 0)), .V 10 (.len (.t 9)), .V 11 (.bin .lss (.t 8) (.t 10))] [0, 3, 4, 11] [3]) (.cond (.t 11) .skip (.exit 0))) (.seq (.block 1 (.reg false [.V 14 (.mv (.t 3)), .V 15 (.mv (.t 4)), .V 16 (.mv (.t 0)), .V 17 (.mv (.t 4)), .V 18 (.ia 5 (.t 16) (.t 17)), .V 19 (.ld (some 5) (.t 18)), .V 20 (.call (.c (.fn 727 [])) [.t 19]), .V 21 (.ia 5 (.t 14) (.t 15)), ⟨none, true, .sto 5 (.t 21) (.t 20), none, false, []⟩] [0, 3, 4] [3])) (.reg false [.V 12 (.mv (.t 4)), .V 13 (.bin .add (.t 12) (.c (.int .i64 1))), .V 4 (.asg (.t 13))] [0, 3, 4] [3]))
def laws_toPaperS_k1 : C :=
 .norm [0, 3, 4] [3] laws_toPaperS_k0
def laws_toPaperS_k2 : C :=
 .seq (.reg false [.V 22 (.mv (.t 3)), .W 2 (.asg (.t 22))] [2] [2, 3]) .ret
def laws_toPaperS_ir : Fn := { np := 1, io := [], res := [.t 2], own := [true], body :=
 (.seq (.reg false [.W 2 (.asg (.c (.nils 5)))] [0] []) (.seq (.reg false [.V 5 (.mv (.t 0)), .V 6 (.len (.t 5)), .V 7 (.mks 5 56 (.agg [.str [], .str [], .int .i64 0, .int .i64 0, .int .i64 0]) (.t 6) (.t 6)), .W 3 (.asg (.t 7))] [0, 3] [3]) (.seq (.seq (.reg false [.V 4 (.asg (.c (.int .i64 0)))] [0, 3, 4] [3]) (.block 0 (.loop laws_toPaperS_k1))) laws_toPaperS_k2))) }
noncomputable def laws_toPaperS_D : List (Nat × Callee) := [(727, laws_toPaper_c)]
def laws_toPaperS_H : List (Nat × ET) := [(2, T_Paper), (3, T_Paper), (5, T_Paper), (7, T_Paper), (9, T_Paper), (14, T_Paper), (16, T_Paper), (22, T_Paper)]
noncomputable def laws_toPaperS_c : Callee := mkCallee laws_toPaperS_D laws_toPaperS_H laws_toPaperS_ir [.d (.one (.sl T_Paper))] [.tok T_Paper] []
noncomputable def laws_toPaperS (a0 : List T_Paper.ty) : Option (List T_Paper.ty) := laws_toPaperS_c.f (a0, ())
noncomputable def laws_toPaperS_p0  (v0 : List T_Paper.ty) (v3n : Nat) (v4 : Int) (r3 : List T_Paper.ty) : Option (List T_Paper.ty) :=
 goL laws_toPaperS_D laws_toPaperS_H (vleave laws_toPaperS_ir [.d (.one (.sl T_Paper))] [.tok T_Paper] [] []) [.c laws_toPaperS_k0, .l laws_toPaperS_k1, .e 0, .c laws_toPaperS_k2]
  ⟨[(0, .sl T_Paper v0), (3, .view 3 0 v3n), (4, .int .i64 v4)], [(3, some (.sl T_Paper r3))]⟩
theorem laws_toPaperS_eq (a0 : List T_Paper.ty) : laws_toPaperS a0 =
  if decide (0 ≤ (a0.length : Int)) && decide ((a0.length : Int) ≤ (a0.length : Int)) && decide ((a0.length : Int).toNat < lim) then
   laws_toPaperS_p0 a0 ((List.replicate ((a0.length : Int).toNat) (([], [], 0, 0, 0, ()) : T_Paper.ty)).length) 0 (List.replicate ((a0.length : Int).toNat) (([], [], 0, 0, 0, ()) : T_Paper.ty))
  else
   none :=
 (mk_f _ _ _ _ _ _ _ 4000).trans (by kernel_rfl)
theorem laws_toPaperS_p0_eq  (v0 : List T_Paper.ty) (v3n : Nat) (v4 : Int) (r3 : List T_Paper.ty) : laws_toPaperS_p0 v0 v3n v4 r3 =
  if decide (v4 < (v0.length : Int)) then
   if decide (0 ≤ v4) then
    (v0[v4.toNat]?).bind fun x1 =>
     (laws_toPaper x1).bind fun x2 =>
      if decide (0 ≤ v4) && decide (v4 < (v3n : Int)) then
       (r3[v4.toNat]?).bind fun x3 =>
        laws_toPaperS_p0 v0 v3n (IntKind.i64.wrap (v4 + 1)) (r3.set v4.toNat x2)
      else
       none
   else
    none
  else
   some (r3.take v3n) :=
 (goL_dn _ _ _ 4000 _ _).trans (by kernel_rfl)

/- laws.toDesk -/
def laws_toDesk_ir : Fn := { np := 1, io := [], res := [.cell 2 (some 12)], own := [false], body :=
 (.seq (.reg false [.W 1 (.box 12 (.t 0)), .W 2 (.alloc 12 (.agg [.nils 4, .nils 3, .nils 1, .int .i64 0, .int .i64 0, .int .i64 0, .int .i64 0, .nils 4, .nils 5, .nils 3, .nils 4, .nils 5]))] [1, 2] [1, 2, 2000, 2001, 2002, 2007, 2008, 2009, 2010, 2011, 3000, 3001, 3002, 3007, 3008, 3009, 3010, 3011]) (.seq (.reg false [.W 3 (.alloc 12 (.agg [.nils 4, .nils 3, .nils 1, .int .i64 0, .int .i64 0, .int .i64 0, .int .i64 0, .nils 4, .nils 5, .nils 3, .nils 4, .nils 5]))] [1, 2, 3] [1, 2, 3, 2000, 2001, 2002, 2007, 2008, 2009, 2010, 2011, 3000, 3001, 3002, 3007, 3008, 3009, 3010, 3011, 4000, 4001, 4002, 4007, 4008, 4009, 4010, 4011]) (.seq (.reg false [.V 4 (.fa 0 (.t 1)), .V 5 (.ld none (.t 4)), .V 6 (.call (.c (.fn 658 [])) [.t 5]), .V 7 (.fa 0 (.t 3)), ⟨none, true, .sto 1 (.t 7) (.t 6), none, false, []⟩] [1, 2, 3] [1, 2, 3, 2000, 2001, 2002, 2007, 2008, 2009, 2010, 2011, 3000, 3001, 3002, 3007, 3008, 3009, 3010, 3011, 4000, 4001, 4002, 4007, 4008, 4009, 4010, 4011]) (.seq (.reg false [.V 8 (.fa 1 (.t 1)), .V 9 (.ld none (.t 8)), .V 10 (.call (.c (.fn 657 [])) [.t 9]), .V 11 (.fa 1 (.t 3)), ⟨none, true, .sto 1 (.t 11) (.t 10), none, false, []⟩] [1, 2, 3] [1, 2, 3, 2000, 2001, 2002, 2007, 2008, 2009, 2010, 2011, 3000, 3001, 3002, 3007, 3008, 3009, 3010, 3011, 4000, 4001, 4002, 4007, 4008, 4009, 4010, 4011]) (.seq (.reg false [.V 12 (.fa 2 (.t 1)), .V 13 (.ld none (.t 12)), .V 14 (.call (.c (.fn 656 [])) [.t 13]), .V 15 (.fa 2 (.t 3)), ⟨none, true, .sto 1 (.t 15) (.t 14), none, false, []⟩] [1, 2, 3] [1, 2, 3, 2000, 2001, 2002, 2007, 2008, 2009, 2010, 2011, 3000, 3001, 3002, 3007, 3008, 3009, 3010, 3011, 4000, 4001, 4002, 4007, 4008, 4009, 4010, 4011]) (.seq (.reg false [.V 16 (.fa 3 (.t 1)), .V 17 (.ld (some 4) (.t 16)), .V 18 (.call (.c (.fn 655 [])) [.t 17]), .V 19 (.fa 3 (.t 3)), ⟨none, true, .sto 4 (.t 19) (.t 18), none, false, []⟩] [1, 2, 3] [1, 2, 3, 2000, 2001, 2002, 2007, 2008, 2009, 2010, 2011, 3000, 3001, 3002, 3007, 3008, 3009, 3010, 3011, 4000, 4001, 4002, 4007, 4008, 4009, 4010, 4011]) (.seq (.reg false [.V 20 (.fa 7 (.t 1)), .V 21 (.ld none (.t 20)), .V 22 (.call (.c (.fn 120 [])) [.t 21]), .V 23 (.fa 7 (.t 3)), ⟨none, true, .sto 1 (.t 23) (.t 22), none, false, []⟩] [1, 2, 3] [1, 2, 3, 2000, 2001, 2002, 2007, 2008, 2009, 2010, 2011, 3000, 3001, 3002, 3007, 3008, 3009, 3010, 3011, 4000, 4001, 4002, 4007, 4008, 4009, 4010, 4011]) (.seq (.reg false [.V 24 (.fa 8 (.t 1)), .V 25 (.ld none (.t 24)), .V 26 (.call (.c (.fn 59 [])) [.t 25]), .V 27 (.fa 8 (.t 3)), ⟨none, true, .sto 1 (.t 27) (.t 26), none, false, []⟩] [1, 2, 3] [1, 2, 3, 2000, 2001, 2002, 2007, 2008, 2009, 2010, 2011, 3000, 3001, 3002, 3007, 3008, 3009, 3010, 3011, 4000, 4001, 4002, 4007, 4008, 4009, 4010, 4011]) (.seq (.reg false [.V 28 (.fa 9 (.t 1)), .V 29 (.ld none (.t 28)), .V 30 (.call (.c (.fn 654 [])) [.t 29]), .V 31 (.fa 9 (.t 3)), ⟨none, true, .sto 1 (.t 31) (.t 30), none, false, []⟩] [1, 2, 3] [1, 2, 3, 2000, 2001, 2002, 2007, 2008, 2009, 2010, 2011, 3000, 3001, 3002, 3007, 3008, 3009, 3010, 3011, 4000, 4001, 4002, 4007, 4008, 4009, 4010, 4011]) (.seq (.reg false [.V 32 (.fa 10 (.t 1)), .V 33 (.ld none (.t 32)), .V 34 (.call (.c (.fn 653 [])) [.t 33]), .V 35 (.fa 10 (.t 3)), ⟨none, true, .sto 1 (.t 35) (.t 34), none, false, []⟩] [1, 2, 3] [1, 2, 3, 2000, 2001, 2002, 2007, 2008, 2009, 2010, 2011, 3000, 3001, 3002, 3007, 3008, 3009, 3010, 3011, 4000, 4001, 4002, 4007, 4008, 4009, 4010, 4011]) (.seq (.reg false [.V 36 (.fa 11 (.t 1)), .V 37 (.ld none (.t 36)), .V 38 (.call (.c (.fn 295 [])) [.t 37]), .V 39 (.fa 11 (.t 3)), ⟨none, true, .sto 1 (.t 39) (.t 38), none, false, []⟩] [2, 3] [2, 3, 3000, 3001, 3002, 3007, 3008, 3009, 3010, 3011, 4000, 4001, 4002, 4007, 4008, 4009, 4010, 4011]) (.seq (.reg false [.V 40 (.ld (some 12) (.t 3)), ⟨none, true, .sto 12 (.t 2) (.t 40), none, false, []⟩] [2] [2, 3000, 3001, 3002, 3007, 3008, 3009, 3010, 3011]) .ret)))))))))))) }
noncomputable def laws_toDesk_D : List (Nat × Callee) := [(59, laws_toPotS_c), (120, laws_toPegS_c), (295, laws_toPaperS_c), (653, laws_toWorkS_c), (654, laws_toModeS_c), (655, laws_toNeck_c), (656, laws_toInt64SS_c), (657, laws_toRibS_c), (658, laws_toStackS_c)]
def laws_toDesk_H : List (Nat × ET) := [(5, T_Peg), (6, T_Peg), (9, T_Mode), (10, T_Mode), (13, (.one (.sl (.one (.int .i64))))), (14, (.one (.sl (.one (.int .i64))))), (21, T_Peg), (22, T_Peg), (25, T_Pot), (26, T_Pot), (29, T_Mode), (30, T_Mode), (33, T_Peg), (34, T_Peg), (37, T_Paper), (38, T_Paper)]
noncomputable def laws_toDesk_c : Callee := mkCallee laws_toDesk_D laws_toDesk_H laws_toDesk_ir [.d T_Desk] [.d T_Desk] []
noncomputable def laws_toDesk (a0 : T_Desk.ty) : Option (T_Desk.ty) := laws_toDesk_c.f (a0, ())
theorem laws_toDesk_eq (a0 : T_Desk.ty) : laws_toDesk a0 =
  (laws_toStackS a0.1).bind fun x1 =>
   (laws_toRibS a0.2.1).bind fun x2 =>
    (laws_toInt64SS a0.2.2.1).bind fun x3 =>
     (laws_toNeck (a0.2.2.2.1, a0.2.2.2.2.1, a0.2.2.2.2.2.1, a0.2.2.2.2.2.2.1, ())).bind fun x4 =>
      (laws_toPegS a0.2.2.2.2.2.2.2.1).bind fun x5 =>
       (laws_toPotS a0.2.2.2.2.2.2.2.2.1).bind fun x6 =>
        (laws_toModeS a0.2.2.2.2.2.2.2.2.2.1).bind fun x7 =>
         (laws_toWorkS a0.2.2.2.2.2.2.2.2.2.2.1).bind fun x8 =>
          (laws_toPaperS a0.2.2.2.2.2.2.2.2.2.2.2.1).bind fun x9 =>
           some ((x1.take x1.length), (x2.take x2.length), x3, x4.1, x4.2.1, x4.2.2.1, x4.2.2.2.1, (x5.take x5.length), (x6.take x6.length), (x7.take x7.length), (x8.take x8.length), (x9.take x9.length), ()) :=
 (mk_f _ _ _ _ _ _ _ 4000).trans (by kernel_rfl)

/- spec.l32Lists -/
def spec_l32Lists_ir : Fn := { np := 2, io := [], res := [.t 4], own := [false], body :=
 (.seq (.reg false [.V 4 (.asg (.c (.bool false)))] [0, 1] []) (.seq (.reg true [.V 5 (.mv (.t 0)), .V 6 (.nilck (.t 5)), .V 7 (.fa 0 (.t 6)), .V 8 (.ld none (.t 7)), .V 9 (.len (.t 8)), .V 10 (.mv (.t 1)), .V 11 (.nilck (.t 10)), .V 12 (.fa 0 (.t 11)), .V 13 (.ld none (.t 12)), .V 14 (.len (.t 13)), .V 15 (.bin .eql (.t 9) (.t 14)), .V 16 (.mv (.t 15)), .G 17 (.mv (.t 0)) 11 true, .G 18 (.nilck (.t 17)) 11 true, .G 19 (.fa 1 (.t 18)) 11 true, .G 20 (.ld none (.t 19)) 11 true, .G 21 (.len (.t 20)) 11 true, .G 22 (.mv (.t 1)) 11 true, .G 23 (.nilck (.t 22)) 11 true, .G 24 (.fa 1 (.t 23)) 11 true, .G 25 (.ld none (.t 24)) 11 true, .G 26 (.len (.t 25)) 11 true, .G 27 (.bin .eql (.t 21) (.t 26)) 11 true, .V 28 (.pick (.t 16) (.t 27) (.c (.bool false))), .V 29 (.mv (.t 28)), .G 30 (.mv (.t 0)) 24 true, .G 31 (.nilck (.t 30)) 24 true, .G 32 (.fa 2 (.t 31)) 24 true, .G 33 (.ld none (.t 32)) 24 true, .G 34 (.len (.t 33)) 24 true, .G 35 (.mv (.t 1)) 24 true, .G 36 (.nilck (.t 35)) 24 true, .G 37 (.fa 2 (.t 36)) 24 true, .G 38 (.ld none (.t 37)) 24 true, .G 39 (.len (.t 38)) 24 true, .G 40 (.bin .eql (.t 34) (.t 39)) 24 true, .V 41 (.pick (.t 29) (.t 40) (.c (.bool false))), .V 42 (.mv (.t 41)), .G 43 (.mv (.t 0)) 37 true, .G 44 (.nilck (.t 43)) 37 true, .G 45 (.fa 7 (.t 44)) 37 true, .G 46 (.ld none (.t 45)) 37 true, .G 47 (.len (.t 46)) 37 true, .G 48 (.mv (.t 1)) 37 true, .G 49 (.nilck (.t 48)) 37 true, .G 50 (.fa 7 (.t 49)) 37 true, .G 51 (.ld none (.t 50)) 37 true, .G 52 (.len (.t 51)) 37 true, .G 53 (.bin .eql (.t 47) (.t 52)) 37 true, .V 54 (.pick (.t 42) (.t 53) (.c (.bool false))), .V 55 (.mv (.t 54)), .G 56 (.mv (.t 0)) 50 true, .G 57 (.nilck (.t 56)) 50 true, .G 58 (.fa 8 (.t 57)) 50 true, .G 59 (.ld none (.t 58)) 50 true, .G 60 (.len (.t 59)) 50 true, .G 61 (.mv (.t 1)) 50 true, .G 62 (.nilck (.t 61)) 50 true, .G 63 (.fa 8 (.t 62)) 50 true, .G 64 (.ld none (.t 63)) 50 true, .G 65 (.len (.t 64)) 50 true, .G 66 (.bin .eql (.t 60) (.t 65)) 50 true, .V 67 (.pick (.t 55) (.t 66) (.c (.bool false))), .V 68 (.mv (.t 67)), .G 69 (.mv (.t 0)) 63 true, .G 70 (.nilck (.t 69)) 63 true, .G 71 (.fa 9 (.t 70)) 63 true, .G 72 (.ld none (.t 71)) 63 true, .G 73 (.len (.t 72)) 63 true, .G 74 (.mv (.t 1)) 63 true, .G 75 (.nilck (.t 74)) 63 true, .G 76 (.fa 9 (.t 75)) 63 true, .G 77 (.ld none (.t 76)) 63 true, .G 78 (.len (.t 77)) 63 true, .G 79 (.bin .eql (.t 73) (.t 78)) 63 true, .V 80 (.pick (.t 68) (.t 79) (.c (.bool false))), .V 81 (.mv (.t 80)), .G 82 (.mv (.t 0)) 76 true, .G 83 (.nilck (.t 82)) 76 true, .G 84 (.fa 10 (.t 83)) 76 true, .G 85 (.ld none (.t 84)) 76 true, .G 86 (.len (.t 85)) 76 true, .G 87 (.mv (.t 1)) 76 true, .G 88 (.nilck (.t 87)) 76 true, .G 89 (.fa 10 (.t 88)) 76 true, .G 90 (.ld none (.t 89)) 76 true, .G 91 (.len (.t 90)) 76 true, .G 92 (.bin .eql (.t 86) (.t 91)) 76 true, .V 93 (.pick (.t 81) (.t 92) (.c (.bool false))), .V 94 (.mv (.t 93)), .G 95 (.mv (.t 0)) 89 true, .G 96 (.nilck (.t 95)) 89 true, .G 97 (.fa 11 (.t 96)) 89 true, .G 98 (.ld none (.t 97)) 89 true, .G 99 (.len (.t 98)) 89 true, .G 100 (.mv (.t 1)) 89 true, .G 101 (.nilck (.t 100)) 89 true, .G 102 (.fa 11 (.t 101)) 89 true, .G 103 (.ld none (.t 102)) 89 true, .G 104 (.len (.t 103)) 89 true, .G 105 (.bin .eql (.t 99) (.t 104)) 89 true, .V 106 (.pick (.t 94) (.t 105) (.c (.bool false))), .V 4 (.asg (.t 106))] [4] []) .ret)) }
noncomputable def spec_l32Lists_D : List (Nat × Callee) := []
def spec_l32Lists_H : List (Nat × ET) := [(8, T_Peg), (13, T_Peg), (20, T_Mode), (25, T_Mode), (33, (.one (.sl (.one (.int .i64))))), (38, (.one (.sl (.one (.int .i64))))), (46, T_Peg), (51, T_Peg), (59, T_Pot), (64, T_Pot), (72, T_Mode), (77, T_Mode), (85, T_Peg), (90, T_Peg), (98, T_Paper), (103, T_Paper)]
noncomputable def spec_l32Lists_c : Callee := mkCallee spec_l32Lists_D spec_l32Lists_H spec_l32Lists_ir [.p T_Desk, .p T_Desk] [.d (.one .bool)] []
noncomputable def spec_l32Lists (a0 : T_Desk.ty) (a1 : T_Desk.ty) : Option (Bool) := spec_l32Lists_c.f (a0, a1, ())
theorem spec_l32Lists_eq (a0 : T_Desk.ty) (a1 : T_Desk.ty) : spec_l32Lists a0 a1 =
  if ((a0.1.length : Int) == (a1.1.length : Int)) then
   if ((a0.2.1.length : Int) == (a1.2.1.length : Int)) then
    if ((a0.2.2.1.length : Int) == (a1.2.2.1.length : Int)) then
     if ((a0.2.2.2.2.2.2.2.1.length : Int) == (a1.2.2.2.2.2.2.2.1.length : Int)) then
      if ((a0.2.2.2.2.2.2.2.2.1.length : Int) == (a1.2.2.2.2.2.2.2.2.1.length : Int)) then
       if ((a0.2.2.2.2.2.2.2.2.2.1.length : Int) == (a1.2.2.2.2.2.2.2.2.2.1.length : Int)) then
        if ((a0.2.2.2.2.2.2.2.2.2.2.1.length : Int) == (a1.2.2.2.2.2.2.2.2.2.2.1.length : Int)) then
         some ((a0.2.2.2.2.2.2.2.2.2.2.2.1.length : Int) == (a1.2.2.2.2.2.2.2.2.2.2.2.1.length : Int))
        else
         some false
       else
        some false
      else
       some false
     else
      some false
    else
     some false
   else
    some false
  else
   some false :=
 (mk_f _ _ _ _ _ _ _ 4000).trans (by kernel_rfl)

/- spec.l00Same -/
def spec_l00Same_k0 : C :=
 .seq (.seq (.reg false [.V 11 (.mv (.t 5)), .V 12 (.mv (.t 0)), .V 13 (.len (.t 12)), .V 14 (.bin .lss (.t 11) (.t 13))] [0, 1, 5, 14] []) (.cond (.t 14) .skip (.exit 0))) (.seq (.block 1 (.seq (.reg true [.V 17 (.mv (.t 0)), .V 18 (.mv (.t 5)), .V 19 (.ia 1 (.t 17) (.t 18)), .V 20 (.ld none (.t 19)), .V 21 (.mv (.t 1)), .V 22 (.mv (.t 5)), .V 23 (.ia 1 (.t 21) (.t 22)), .V 24 (.ld none (.t 23)), .V 25 (.bin .neq (.t 20) (.t 24))] [0, 1, 5, 25] []) (.cond (.t 25) (.seq (.reg false [.V 4 (.asg (.c (.bool false)))] [4] []) .ret) .skip))) (.reg false [.V 15 (.mv (.t 5)), .V 16 (.bin .add (.t 15) (.c (.int .i64 1))), .V 5 (.asg (.t 16))] [0, 1, 5] []))
def spec_l00Same_k1 : C :=
 .norm [0, 1, 5] [] spec_l00Same_k0
def spec_l00Same_k2 : C :=
 .seq (.reg false [.V 4 (.asg (.c (.bool true)))] [4] []) .ret
def spec_l00Same_ir : Fn := { np := 2, io := [], res := [.t 4], own := [false], body :=
 (.seq (.reg false [.V 4 (.asg (.c (.bool false)))] [0, 1] []) (.seq (.seq (.reg false [.V 6 (.mv (.t 0)), .V 7 (.len (.t 6)), .V 8 (.mv (.t 1)), .V 9 (.len (.t 8)), .V 10 (.bin .neq (.t 7) (.t 9))] [0, 1, 10] []) (.cond (.t 10) (.seq (.reg false [.V 4 (.asg (.c (.bool false)))] [4] []) .ret) .skip)) (.seq (.seq (.reg false [.V 5 (.asg (.c (.int .i64 0)))] [0, 1, 5] []) (.block 0 (.loop spec_l00Same_k1))) spec_l00Same_k2))) }
noncomputable def spec_l00Same_D : List (Nat × Callee) := []
def spec_l00Same_H : List (Nat × ET) := [(6, (.one (.int .i64))), (8, (.one (.int .i64))), (12, (.one (.int .i64))), (17, (.one (.int .i64))), (21, (.one (.int .i64)))]
noncomputable def spec_l00Same_c : Callee := mkCallee spec_l00Same_D spec_l00Same_H spec_l00Same_ir [.d (.one (.sl (.one (.int .i64)))), .d (.one (.sl (.one (.int .i64))))] [.d (.one .bool)] []
noncomputable def spec_l00Same (a0 : List Int) (a1 : List Int) : Option (Bool) := spec_l00Same_c.f (a0, a1, ())
noncomputable def spec_l00Same_p0  (v0 : List Int) (v1 : List Int) (v5 : Int) : Option (Bool) :=
 goL spec_l00Same_D spec_l00Same_H (vleave spec_l00Same_ir [.d (.one (.sl (.one (.int .i64)))), .d (.one (.sl (.one (.int .i64))))] [.d (.one .bool)] [] []) [.c spec_l00Same_k0, .l spec_l00Same_k1, .e 0, .c spec_l00Same_k2]
  ⟨[(0, .sl (.one (.int .i64)) v0), (1, .sl (.one (.int .i64)) v1), (5, .int .i64 v5)], []⟩
theorem spec_l00Same_eq (a0 : List Int) (a1 : List Int) : spec_l00Same a0 a1 =
  if ((a0.length : Int) != (a1.length : Int)) then
   some false
  else
   spec_l00Same_p0 a0 a1 0 :=
 (mk_f _ _ _ _ _ _ _ 4000).trans (by kernel_rfl)
theorem spec_l00Same_p0_eq  (v0 : List Int) (v1 : List Int) (v5 : Int) : spec_l00Same_p0 v0 v1 v5 =
  if decide (v5 < (v0.length : Int)) then
   if decide (0 ≤ v5) then
    (v0[v5.toNat]?).bind fun x1 =>
     if decide (0 ≤ v5) then
      (v1[v5.toNat]?).bind fun x2 =>
       if (x1 != x2) then
        some false
       else
        spec_l00Same_p0 v0 v1 (IntKind.i64.wrap (v5 + 1))
     else
      none
   else
    none
  else
   some true :=
 (goL_dn _ _ _ 4000 _ _).trans (by kernel_rfl)

/- spec.SameDesk -/
def spec_SameDesk_k0 : C :=
 .seq (.seq (.reg false [.V 22 (.mv (.t 5)), .V 23 (.fa 2 (.t 2)), .V 24 (.ld none (.t 23)), .V 25 (.len (.t 24)), .V 26 (.bin .lss (.t 22) (.t 25))] [2, 3, 5, 26] [2, 3, 3000, 3001, 3002, 3007, 3008, 3009, 3010, 3011, 4000, 4001, 4002, 4007, 4008, 4009, 4010, 4011]) (.cond (.t 26) .skip (.exit 0))) (.seq (.block 1 (.seq (.reg true [.V 29 (.fa 2 (.t 2)), .V 30 (.ld none (.t 29)), .V 31 (.mv (.t 5)), .V 32 (.ia 1 (.t 30) (.t 31)), .V 33 (.ld none (.t 32)), .V 34 (.fa 2 (.t 3)), .V 35 (.ld none (.t 34)), .V 36 (.mv (.t 5)), .V 37 (.ia 1 (.t 35) (.t 36)), .V 38 (.ld none (.t 37)), .V 39 (.call (.c (.fn 651 [])) [.t 33, .t 38]), .V 40 (.un .not (.t 39))] [2, 3, 5, 40] [2, 3, 3000, 3001, 3002, 3007, 3008, 3009, 3010, 3011, 4000, 4001, 4002, 4007, 4008, 4009, 4010, 4011]) (.cond (.t 40) (.seq (.reg false [.V 4 (.asg (.c (.bool false)))] [4] []) .ret) .skip))) (.reg false [.V 27 (.mv (.t 5)), .V 28 (.bin .add (.t 27) (.c (.int .i64 1))), .V 5 (.asg (.t 28))] [2, 3, 5] [2, 3, 3000, 3001, 3002, 3007, 3008, 3009, 3010, 3011, 4000, 4001, 4002, 4007, 4008, 4009, 4010, 4011]))
def spec_SameDesk_k1 : C :=
 .norm [2, 3, 5] [2, 3, 3000, 3001, 3002, 3007, 3008, 3009, 3010, 3011, 4000, 4001, 4002, 4007, 4008, 4009, 4010, 4011] spec_SameDesk_k0
def spec_SameDesk_k2 : C :=
 .seq (.seq (.reg false [.V 41 (.mv (.t 6)), .V 42 (.fa 0 (.t 2)), .V 43 (.ld none (.t 42)), .V 44 (.len (.t 43)), .V 45 (.bin .lss (.t 41) (.t 44))] [2, 3, 6, 45] [2, 3, 3000, 3001, 3002, 3007, 3008, 3009, 3010, 3011, 4000, 4001, 4002, 4007, 4008, 4009, 4010, 4011]) (.cond (.t 45) .skip (.exit 2))) (.seq (.block 3 (.seq (.reg true [.V 48 (.fa 0 (.t 2)), .V 49 (.ld none (.t 48)), .V 50 (.mv (.t 6)), .V 51 (.ia 4 (.t 49) (.t 50)), .V 52 (.ld (some 4) (.t 51)), .V 53 (.fa 0 (.t 3)), .V 54 (.ld none (.t 53)), .V 55 (.mv (.t 6)), .V 56 (.ia 4 (.t 54) (.t 55)), .V 57 (.ld (some 4) (.t 56)), .V 58 (.eqs true [.s, .i, .i, .i] (.t 52) (.t 57))] [2, 3, 6, 58] [2, 3, 3000, 3001, 3002, 3007, 3008, 3009, 3010, 3011, 4000, 4001, 4002, 4007, 4008, 4009, 4010, 4011]) (.cond (.t 58) (.seq (.reg false [.V 4 (.asg (.c (.bool false)))] [4] []) .ret) .skip))) (.reg false [.V 46 (.mv (.t 6)), .V 47 (.bin .add (.t 46) (.c (.int .i64 1))), .V 6 (.asg (.t 47))] [2, 3, 6] [2, 3, 3000, 3001, 3002, 3007, 3008, 3009, 3010, 3011, 4000, 4001, 4002, 4007, 4008, 4009, 4010, 4011]))
def spec_SameDesk_k3 : C :=
 .norm [2, 3, 6] [2, 3, 3000, 3001, 3002, 3007, 3008, 3009, 3010, 3011, 4000, 4001, 4002, 4007, 4008, 4009, 4010, 4011] spec_SameDesk_k2
def spec_SameDesk_k4 : C :=
 .seq (.seq (.reg false [.V 59 (.mv (.t 7)), .V 60 (.fa 1 (.t 2)), .V 61 (.ld none (.t 60)), .V 62 (.len (.t 61)), .V 63 (.bin .lss (.t 59) (.t 62))] [2, 3, 7, 63] [2, 3, 3000, 3001, 3002, 3007, 3008, 3009, 3010, 3011, 4000, 4001, 4002, 4007, 4008, 4009, 4010, 4011]) (.cond (.t 63) .skip (.exit 4))) (.seq (.block 5 (.seq (.reg true [.V 66 (.fa 1 (.t 2)), .V 67 (.ld none (.t 66)), .V 68 (.mv (.t 7)), .V 69 (.ia 3 (.t 67) (.t 68)), .V 70 (.ld (some 3) (.t 69)), .V 71 (.fa 1 (.t 3)), .V 72 (.ld none (.t 71)), .V 73 (.mv (.t 7)), .V 74 (.ia 3 (.t 72) (.t 73)), .V 75 (.ld (some 3) (.t 74)), .V 76 (.eqs true [.s, .i, .i] (.t 70) (.t 75))] [2, 3, 7, 76] [2, 3, 3000, 3001, 3002, 3007, 3008, 3009, 3010, 3011, 4000, 4001, 4002, 4007, 4008, 4009, 4010, 4011]) (.cond (.t 76) (.seq (.reg false [.V 4 (.asg (.c (.bool false)))] [4] []) .ret) .skip))) (.reg false [.V 64 (.mv (.t 7)), .V 65 (.bin .add (.t 64) (.c (.int .i64 1))), .V 7 (.asg (.t 65))] [2, 3, 7] [2, 3, 3000, 3001, 3002, 3007, 3008, 3009, 3010, 3011, 4000, 4001, 4002, 4007, 4008, 4009, 4010, 4011]))
def spec_SameDesk_k5 : C :=
 .norm [2, 3, 7] [2, 3, 3000, 3001, 3002, 3007, 3008, 3009, 3010, 3011, 4000, 4001, 4002, 4007, 4008, 4009, 4010, 4011] spec_SameDesk_k4
def spec_SameDesk_k6 : C :=
 .seq (.seq (.reg false [.V 77 (.mv (.t 8)), .V 78 (.fa 7 (.t 2)), .V 79 (.ld none (.t 78)), .V 80 (.len (.t 79)), .V 81 (.bin .lss (.t 77) (.t 80))] [2, 3, 8, 81] [2, 3, 3000, 3001, 3002, 3007, 3008, 3009, 3010, 3011, 4000, 4001, 4002, 4007, 4008, 4009, 4010, 4011]) (.cond (.t 81) .skip (.exit 6))) (.seq (.block 7 (.seq (.reg true [.V 84 (.fa 7 (.t 2)), .V 85 (.ld none (.t 84)), .V 86 (.mv (.t 8)), .V 87 (.ia 4 (.t 85) (.t 86)), .V 88 (.ld (some 4) (.t 87)), .V 89 (.fa 7 (.t 3)), .V 90 (.ld none (.t 89)), .V 91 (.mv (.t 8)), .V 92 (.ia 4 (.t 90) (.t 91)), .V 93 (.ld (some 4) (.t 92)), .V 94 (.eqs true [.s, .i, .i, .i] (.t 88) (.t 93))] [2, 3, 8, 94] [2, 3, 3000, 3001, 3002, 3007, 3008, 3009, 3010, 3011, 4000, 4001, 4002, 4007, 4008, 4009, 4010, 4011]) (.cond (.t 94) (.seq (.reg false [.V 4 (.asg (.c (.bool false)))] [4] []) .ret) .skip))) (.reg false [.V 82 (.mv (.t 8)), .V 83 (.bin .add (.t 82) (.c (.int .i64 1))), .V 8 (.asg (.t 83))] [2, 3, 8] [2, 3, 3000, 3001, 3002, 3007, 3008, 3009, 3010, 3011, 4000, 4001, 4002, 4007, 4008, 4009, 4010, 4011]))
def spec_SameDesk_k7 : C :=
 .norm [2, 3, 8] [2, 3, 3000, 3001, 3002, 3007, 3008, 3009, 3010, 3011, 4000, 4001, 4002, 4007, 4008, 4009, 4010, 4011] spec_SameDesk_k6
def spec_SameDesk_k8 : C :=
 .seq (.seq (.reg false [.V 95 (.mv (.t 9)), .V 96 (.fa 8 (.t 2)), .V 97 (.ld none (.t 96)), .V 98 (.len (.t 97)), .V 99 (.bin .lss (.t 95) (.t 98))] [2, 3, 9, 99] [2, 3, 3000, 3001, 3002, 3007, 3008, 3009, 3010, 3011, 4000, 4001, 4002, 4007, 4008, 4009, 4010, 4011]) (.cond (.t 99) .skip (.exit 8))) (.seq (.block 9 (.seq (.reg true [.V 102 (.fa 8 (.t 2)), .V 103 (.ld none (.t 102)), .V 104 (.mv (.t 9)), .V 105 (.ia 5 (.t 103) (.t 104)), .V 106 (.ld (some 5) (.t 105)), .V 107 (.fa 8 (.t 3)), .V 108 (.ld none (.t 107)), .V 109 (.mv (.t 9)), .V 110 (.ia 5 (.t 108) (.t 109)), .V 111 (.ld (some 5) (.t 110)), .V 112 (.eqs true [.s, .i, .i, .i, .i] (.t 106) (.t 111))] [2, 3, 9, 112] [2, 3, 3000, 3001, 3002, 3007, 3008, 3009, 3010, 3011, 4000, 4001, 4002, 4007, 4008, 4009, 4010, 4011]) (.cond (.t 112) (.seq (.reg false [.V 4 (.asg (.c (.bool false)))] [4] []) .ret) .skip))) (.reg false [.V 100 (.mv (.t 9)), .V 101 (.bin .add (.t 100) (.c (.int .i64 1))), .V 9 (.asg (.t 101))] [2, 3, 9] [2, 3, 3000, 3001, 3002, 3007, 3008, 3009, 3010, 3011, 4000, 4001, 4002, 4007, 4008, 4009, 4010, 4011]))
def spec_SameDesk_k9 : C :=
 .norm [2, 3, 9] [2, 3, 3000, 3001, 3002, 3007, 3008, 3009, 3010, 3011, 4000, 4001, 4002, 4007, 4008, 4009, 4010, 4011] spec_SameDesk_k8
def spec_SameDesk_k10 : C :=
 .seq (.seq (.reg false [.V 113 (.mv (.t 10)), .V 114 (.fa 9 (.t 2)), .V 115 (.ld none (.t 114)), .V 116 (.len (.t 115)), .V 117 (.bin .lss (.t 113) (.t 116))] [2, 3, 10, 117] [2, 3, 3000, 3001, 3002, 3007, 3008, 3009, 3010, 3011, 4000, 4001, 4002, 4007, 4008, 4009, 4010, 4011]) (.cond (.t 117) .skip (.exit 10))) (.seq (.block 11 (.seq (.reg true [.V 120 (.fa 9 (.t 2)), .V 121 (.ld none (.t 120)), .V 122 (.mv (.t 10)), .V 123 (.ia 3 (.t 121) (.t 122)), .V 124 (.ld (some 3) (.t 123)), .V 125 (.fa 9 (.t 3)), .V 126 (.ld none (.t 125)), .V 127 (.mv (.t 10)), .V 128 (.ia 3 (.t 126) (.t 127)), .V 129 (.ld (some 3) (.t 128)), .V 130 (.eqs true [.s, .i, .i] (.t 124) (.t 129))] [2, 3, 10, 130] [2, 3, 3000, 3001, 3002, 3007, 3008, 3009, 3010, 3011, 4000, 4001, 4002, 4007, 4008, 4009, 4010, 4011]) (.cond (.t 130) (.seq (.reg false [.V 4 (.asg (.c (.bool false)))] [4] []) .ret) .skip))) (.reg false [.V 118 (.mv (.t 10)), .V 119 (.bin .add (.t 118) (.c (.int .i64 1))), .V 10 (.asg (.t 119))] [2, 3, 10] [2, 3, 3000, 3001, 3002, 3007, 3008, 3009, 3010, 3011, 4000, 4001, 4002, 4007, 4008, 4009, 4010, 4011]))
def spec_SameDesk_k11 : C :=
 .norm [2, 3, 10] [2, 3, 3000, 3001, 3002, 3007, 3008, 3009, 3010, 3011, 4000, 4001, 4002, 4007, 4008, 4009, 4010, 4011] spec_SameDesk_k10
def spec_SameDesk_k12 : C :=
 .seq (.seq (.reg false [.V 131 (.mv (.t 11)), .V 132 (.fa 10 (.t 2)), .V 133 (.ld none (.t 132)), .V 134 (.len (.t 133)), .V 135 (.bin .lss (.t 131) (.t 134))] [2, 3, 11, 135] [2, 3, 3000, 3001, 3002, 3007, 3008, 3009, 3010, 3011, 4000, 4001, 4002, 4007, 4008, 4009, 4010, 4011]) (.cond (.t 135) .skip (.exit 12))) (.seq (.block 13 (.seq (.reg true [.V 138 (.fa 10 (.t 2)), .V 139 (.ld none (.t 138)), .V 140 (.mv (.t 11)), .V 141 (.ia 4 (.t 139) (.t 140)), .V 142 (.ld (some 4) (.t 141)), .V 143 (.fa 10 (.t 3)), .V 144 (.ld none (.t 143)), .V 145 (.mv (.t 11)), .V 146 (.ia 4 (.t 144) (.t 145)), .V 147 (.ld (some 4) (.t 146)), .V 148 (.eqs true [.s, .i, .i, .i] (.t 142) (.t 147))] [2, 3, 11, 148] [2, 3, 3000, 3001, 3002, 3007, 3008, 3009, 3010, 3011, 4000, 4001, 4002, 4007, 4008, 4009, 4010, 4011]) (.cond (.t 148) (.seq (.reg false [.V 4 (.asg (.c (.bool false)))] [4] []) .ret) .skip))) (.reg false [.V 136 (.mv (.t 11)), .V 137 (.bin .add (.t 136) (.c (.int .i64 1))), .V 11 (.asg (.t 137))] [2, 3, 11] [2, 3, 3000, 3001, 3002, 3007, 3008, 3009, 3010, 3011, 4000, 4001, 4002, 4007, 4008, 4009, 4010, 4011]))
def spec_SameDesk_k13 : C :=
 .norm [2, 3, 11] [2, 3, 3000, 3001, 3002, 3007, 3008, 3009, 3010, 3011, 4000, 4001, 4002, 4007, 4008, 4009, 4010, 4011] spec_SameDesk_k12
def spec_SameDesk_k14 : C :=
 .seq (.seq (.reg false [.V 149 (.mv (.t 12)), .V 150 (.fa 11 (.t 2)), .V 151 (.ld none (.t 150)), .V 152 (.len (.t 151)), .V 153 (.bin .lss (.t 149) (.t 152))] [2, 3, 12, 153] [2, 3, 3000, 3001, 3002, 3007, 3008, 3009, 3010, 3011, 4000, 4001, 4002, 4007, 4008, 4009, 4010, 4011]) (.cond (.t 153) .skip (.exit 14))) (.seq (.block 15 (.seq (.reg true [.V 156 (.fa 11 (.t 2)), .V 157 (.ld none (.t 156)), .V 158 (.mv (.t 12)), .V 159 (.ia 5 (.t 157) (.t 158)), .V 160 (.ld (some 5) (.t 159)), .V 161 (.fa 11 (.t 3)), .V 162 (.ld none (.t 161)), .V 163 (.mv (.t 12)), .V 164 (.ia 5 (.t 162) (.t 163)), .V 165 (.ld (some 5) (.t 164)), .V 166 (.eqs true [.s, .s, .i, .i, .i] (.t 160) (.t 165))] [2, 3, 12, 166] [2, 3, 3000, 3001, 3002, 3007, 3008, 3009, 3010, 3011, 4000, 4001, 4002, 4007, 4008, 4009, 4010, 4011]) (.cond (.t 166) (.seq (.reg false [.V 4 (.asg (.c (.bool false)))] [4] []) .ret) .skip))) (.reg false [.V 154 (.mv (.t 12)), .V 155 (.bin .add (.t 154) (.c (.int .i64 1))), .V 12 (.asg (.t 155))] [2, 3, 12] [2, 3, 3000, 3001, 3002, 3007, 3008, 3009, 3010, 3011, 4000, 4001, 4002, 4007, 4008, 4009, 4010, 4011]))
def spec_SameDesk_k15 : C :=
 .norm [2, 3, 12] [2, 3, 3000, 3001, 3002, 3007, 3008, 3009, 3010, 3011, 4000, 4001, 4002, 4007, 4008, 4009, 4010, 4011] spec_SameDesk_k14
def spec_SameDesk_k16 : C :=
 .seq (.reg false [.V 4 (.asg (.c (.bool true)))] [4] []) .ret
def spec_SameDesk_k17 : C :=
 .seq (.seq (.reg false [.V 12 (.asg (.c (.int .i64 0)))] [2, 3, 12] [2, 3, 3000, 3001, 3002, 3007, 3008, 3009, 3010, 3011, 4000, 4001, 4002, 4007, 4008, 4009, 4010, 4011]) (.block 14 (.loop spec_SameDesk_k15))) spec_SameDesk_k16
def spec_SameDesk_k18 : C :=
 .seq (.seq (.reg false [.V 11 (.asg (.c (.int .i64 0)))] [2, 3, 11] [2, 3, 3000, 3001, 3002, 3007, 3008, 3009, 3010, 3011, 4000, 4001, 4002, 4007, 4008, 4009, 4010, 4011]) (.block 12 (.loop spec_SameDesk_k13))) spec_SameDesk_k17
def spec_SameDesk_k19 : C :=
 .seq (.seq (.reg false [.V 10 (.asg (.c (.int .i64 0)))] [2, 3, 10] [2, 3, 3000, 3001, 3002, 3007, 3008, 3009, 3010, 3011, 4000, 4001, 4002, 4007, 4008, 4009, 4010, 4011]) (.block 10 (.loop spec_SameDesk_k11))) spec_SameDesk_k18
def spec_SameDesk_k20 : C :=
 .seq (.seq (.reg false [.V 9 (.asg (.c (.int .i64 0)))] [2, 3, 9] [2, 3, 3000, 3001, 3002, 3007, 3008, 3009, 3010, 3011, 4000, 4001, 4002, 4007, 4008, 4009, 4010, 4011]) (.block 8 (.loop spec_SameDesk_k9))) spec_SameDesk_k19
def spec_SameDesk_k21 : C :=
 .seq (.seq (.reg false [.V 8 (.asg (.c (.int .i64 0)))] [2, 3, 8] [2, 3, 3000, 3001, 3002, 3007, 3008, 3009, 3010, 3011, 4000, 4001, 4002, 4007, 4008, 4009, 4010, 4011]) (.block 6 (.loop spec_SameDesk_k7))) spec_SameDesk_k20
def spec_SameDesk_k22 : C :=
 .seq (.seq (.reg false [.V 7 (.asg (.c (.int .i64 0)))] [2, 3, 7] [2, 3, 3000, 3001, 3002, 3007, 3008, 3009, 3010, 3011, 4000, 4001, 4002, 4007, 4008, 4009, 4010, 4011]) (.block 4 (.loop spec_SameDesk_k5))) spec_SameDesk_k21
def spec_SameDesk_k23 : C :=
 .seq (.seq (.reg false [.V 6 (.asg (.c (.int .i64 0)))] [2, 3, 6] [2, 3, 3000, 3001, 3002, 3007, 3008, 3009, 3010, 3011, 4000, 4001, 4002, 4007, 4008, 4009, 4010, 4011]) (.block 2 (.loop spec_SameDesk_k3))) spec_SameDesk_k22
def spec_SameDesk_k24 : C :=
 .seq (.seq (.reg false [.V 5 (.asg (.c (.int .i64 0)))] [2, 3, 5] [2, 3, 3000, 3001, 3002, 3007, 3008, 3009, 3010, 3011, 4000, 4001, 4002, 4007, 4008, 4009, 4010, 4011]) (.block 0 (.loop spec_SameDesk_k1))) spec_SameDesk_k23
def spec_SameDesk_ir : Fn := { np := 2, io := [], res := [.t 4], own := [false], body :=
 (.seq (.reg false [.W 2 (.box 12 (.t 0)), .W 3 (.box 12 (.t 1)), .V 4 (.asg (.c (.bool false)))] [2, 3] [2, 3, 3000, 3001, 3002, 3007, 3008, 3009, 3010, 3011, 4000, 4001, 4002, 4007, 4008, 4009, 4010, 4011]) (.seq (.seq (.reg false [.V 13 (.call (.c (.fn 652 [])) [.t 2, .t 3]), .V 14 (.un .not (.t 13)), .V 15 (.mv (.t 14)), .G 16 (.fa 3 (.t 2)) 2 false, .G 17 (.ld (some 4) (.t 16)) 2 false, .G 18 (.fa 3 (.t 3)) 2 false, .G 19 (.ld (some 4) (.t 18)) 2 false, .G 20 (.eqs true [.i, .i, .i, .i] (.t 17) (.t 19)) 2 false, .V 21 (.pick (.t 15) (.c (.bool true)) (.t 20))] [2, 3, 21] [2, 3, 3000, 3001, 3002, 3007, 3008, 3009, 3010, 3011, 4000, 4001, 4002, 4007, 4008, 4009, 4010, 4011]) (.cond (.t 21) (.seq (.reg false [.V 4 (.asg (.c (.bool false)))] [4] []) .ret) .skip)) (.norm [2, 3] [2, 3, 3000, 3001, 3002, 3007, 3008, 3009, 3010, 3011, 4000, 4001, 4002, 4007, 4008, 4009, 4010, 4011] spec_SameDesk_k24))) }
noncomputable def spec_SameDesk_D : List (Nat × Callee) := [(651, spec_l00Same_c), (652, spec_l32Lists_c)]
def spec_SameDesk_H : List (Nat × ET) := [(24, (.one (.sl (.one (.int .i64))))), (30, (.one (.sl (.one (.int .i64))))), (33, (.one (.int .i64))), (35, (.one (.sl (.one (.int .i64))))), (38, (.one (.int .i64))), (43, T_Peg), (49, T_Peg), (54, T_Peg), (61, T_Mode), (67, T_Mode), (72, T_Mode), (79, T_Peg), (85, T_Peg), (90, T_Peg), (97, T_Pot), (103, T_Pot), (108, T_Pot), (115, T_Mode), (121, T_Mode), (126, T_Mode), (133, T_Peg), (139, T_Peg), (144, T_Peg), (151, T_Paper), (157, T_Paper), (162, T_Paper)]
noncomputable def spec_SameDesk_c : Callee := mkCallee spec_SameDesk_D spec_SameDesk_H spec_SameDesk_ir [.d T_Desk, .d T_Desk] [.d (.one .bool)] []
noncomputable def spec_SameDesk (a0 : T_Desk.ty) (a1 : T_Desk.ty) : Option (Bool) := spec_SameDesk_c.f (a0, a1, ())
noncomputable def spec_SameDesk_p0  (r2_0 : List T_Peg.ty) (r2_1 : List T_Mode.ty) (r2_2 : List (List Int)) (r2_3 : Int) (r2_4 : Int) (r2_5 : Int) (r2_6 : Int) (r2_7 : List T_Peg.ty) (r2_8 : List T_Pot.ty) (r2_9 : List T_Mode.ty) (r2_10 : List T_Peg.ty) (r2_11 : List T_Paper.ty) (r3_0 : List T_Peg.ty) (r3_1 : List T_Mode.ty) (r3_2 : List (List Int)) (r3_3 : Int) (r3_4 : Int) (r3_5 : Int) (r3_6 : Int) (r3_7 : List T_Peg.ty) (r3_8 : List T_Pot.ty) (r3_9 : List T_Mode.ty) (r3_10 : List T_Peg.ty) (r3_11 : List T_Paper.ty) : Option (Bool) :=
 goL spec_SameDesk_D spec_SameDesk_H (vleave spec_SameDesk_ir [.d T_Desk, .d T_Desk] [.d (.one .bool)] [] []) [.c spec_SameDesk_k24]
  ⟨[(2, .loc 2 0 0), (3, .loc 3 0 0)], [(2, some (.var 12 (.agg [.sl T_Peg r2_0, .sl T_Mode r2_1, .sl (.one (.sl (.one (.int .i64)))) r2_2, .int .i64 r2_3, .int .i64 r2_4, .int .i64 r2_5, .int .i64 r2_6, .sl T_Peg r2_7, .sl T_Pot r2_8, .sl T_Mode r2_9, .sl T_Peg r2_10, .sl T_Paper r2_11]))), (3, some (.var 12 (.agg [.sl T_Peg r3_0, .sl T_Mode r3_1, .sl (.one (.sl (.one (.int .i64)))) r3_2, .int .i64 r3_3, .int .i64 r3_4, .int .i64 r3_5, .int .i64 r3_6, .sl T_Peg r3_7, .sl T_Pot r3_8, .sl T_Mode r3_9, .sl T_Peg r3_10, .sl T_Paper r3_11]))), (3000, none), (3001, none), (3002, none), (3007, none), (3008, none), (3009, none), (3010, none), (3011, none), (4000, none), (4001, none), (4002, none), (4007, none), (4008, none), (4009, none), (4010, none), (4011, none)]⟩
noncomputable def spec_SameDesk_p1  (v5 : Int) (r2_0 : List T_Peg.ty) (r2_1 : List T_Mode.ty) (r2_2 : List (List Int)) (r2_3 : Int) (r2_4 : Int) (r2_5 : Int) (r2_6 : Int) (r2_7 : List T_Peg.ty) (r2_8 : List T_Pot.ty) (r2_9 : List T_Mode.ty) (r2_10 : List T_Peg.ty) (r2_11 : List T_Paper.ty) (r3_0 : List T_Peg.ty) (r3_1 : List T_Mode.ty) (r3_2 : List (List Int)) (r3_3 : Int) (r3_4 : Int) (r3_5 : Int) (r3_6 : Int) (r3_7 : List T_Peg.ty) (r3_8 : List T_Pot.ty) (r3_9 : List T_Mode.ty) (r3_10 : List T_Peg.ty) (r3_11 : List T_Paper.ty) : Option (Bool) :=
 goL spec_SameDesk_D spec_SameDesk_H (vleave spec_SameDesk_ir [.d T_Desk, .d T_Desk] [.d (.one .bool)] [] []) [.c spec_SameDesk_k0, .l spec_SameDesk_k1, .e 0, .c spec_SameDesk_k23]
  ⟨[(2, .loc 2 0 0), (3, .loc 3 0 0), (5, .int .i64 v5)], [(2, some (.var 12 (.agg [.sl T_Peg r2_0, .sl T_Mode r2_1, .sl (.one (.sl (.one (.int .i64)))) r2_2, .int .i64 r2_3, .int .i64 r2_4, .int .i64 r2_5, .int .i64 r2_6, .sl T_Peg r2_7, .sl T_Pot r2_8, .sl T_Mode r2_9, .sl T_Peg r2_10, .sl T_Paper r2_11]))), (3, some (.var 12 (.agg [.sl T_Peg r3_0, .sl T_Mode r3_1, .sl (.one (.sl (.one (.int .i64)))) r3_2, .int .i64 r3_3, .int .i64 r3_4, .int .i64 r3_5, .int .i64 r3_6, .sl T_Peg r3_7, .sl T_Pot r3_8, .sl T_Mode r3_9, .sl T_Peg r3_10, .sl T_Paper r3_11]))), (3000, none), (3001, none), (3002, none), (3007, none), (3008, none), (3009, none), (3010, none), (3011, none), (4000, none), (4001, none), (4002, none), (4007, none), (4008, none), (4009, none), (4010, none), (4011, none)]⟩
noncomputable def spec_SameDesk_p2  (v6 : Int) (r2_0 : List T_Peg.ty) (r2_1 : List T_Mode.ty) (r2_2 : List (List Int)) (r2_3 : Int) (r2_4 : Int) (r2_5 : Int) (r2_6 : Int) (r2_7 : List T_Peg.ty) (r2_8 : List T_Pot.ty) (r2_9 : List T_Mode.ty) (r2_10 : List T_Peg.ty) (r2_11 : List T_Paper.ty) (r3_0 : List T_Peg.ty) (r3_1 : List T_Mode.ty) (r3_2 : List (List Int)) (r3_3 : Int) (r3_4 : Int) (r3_5 : Int) (r3_6 : Int) (r3_7 : List T_Peg.ty) (r3_8 : List T_Pot.ty) (r3_9 : List T_Mode.ty) (r3_10 : List T_Peg.ty) (r3_11 : List T_Paper.ty) : Option (Bool) :=
 goL spec_SameDesk_D spec_SameDesk_H (vleave spec_SameDesk_ir [.d T_Desk, .d T_Desk] [.d (.one .bool)] [] []) [.c spec_SameDesk_k2, .l spec_SameDesk_k3, .e 2, .c spec_SameDesk_k22]
  ⟨[(2, .loc 2 0 0), (3, .loc 3 0 0), (6, .int .i64 v6)], [(2, some (.var 12 (.agg [.sl T_Peg r2_0, .sl T_Mode r2_1, .sl (.one (.sl (.one (.int .i64)))) r2_2, .int .i64 r2_3, .int .i64 r2_4, .int .i64 r2_5, .int .i64 r2_6, .sl T_Peg r2_7, .sl T_Pot r2_8, .sl T_Mode r2_9, .sl T_Peg r2_10, .sl T_Paper r2_11]))), (3, some (.var 12 (.agg [.sl T_Peg r3_0, .sl T_Mode r3_1, .sl (.one (.sl (.one (.int .i64)))) r3_2, .int .i64 r3_3, .int .i64 r3_4, .int .i64 r3_5, .int .i64 r3_6, .sl T_Peg r3_7, .sl T_Pot r3_8, .sl T_Mode r3_9, .sl T_Peg r3_10, .sl T_Paper r3_11]))), (3000, none), (3001, none), (3002, none), (3007, none), (3008, none), (3009, none), (3010, none), (3011, none), (4000, none), (4001, none), (4002, none), (4007, none), (4008, none), (4009, none), (4010, none), (4011, none)]⟩
noncomputable def spec_SameDesk_p3  (v7 : Int) (r2_0 : List T_Peg.ty) (r2_1 : List T_Mode.ty) (r2_2 : List (List Int)) (r2_3 : Int) (r2_4 : Int) (r2_5 : Int) (r2_6 : Int) (r2_7 : List T_Peg.ty) (r2_8 : List T_Pot.ty) (r2_9 : List T_Mode.ty) (r2_10 : List T_Peg.ty) (r2_11 : List T_Paper.ty) (r3_0 : List T_Peg.ty) (r3_1 : List T_Mode.ty) (r3_2 : List (List Int)) (r3_3 : Int) (r3_4 : Int) (r3_5 : Int) (r3_6 : Int) (r3_7 : List T_Peg.ty) (r3_8 : List T_Pot.ty) (r3_9 : List T_Mode.ty) (r3_10 : List T_Peg.ty) (r3_11 : List T_Paper.ty) : Option (Bool) :=
 goL spec_SameDesk_D spec_SameDesk_H (vleave spec_SameDesk_ir [.d T_Desk, .d T_Desk] [.d (.one .bool)] [] []) [.c spec_SameDesk_k4, .l spec_SameDesk_k5, .e 4, .c spec_SameDesk_k21]
  ⟨[(2, .loc 2 0 0), (3, .loc 3 0 0), (7, .int .i64 v7)], [(2, some (.var 12 (.agg [.sl T_Peg r2_0, .sl T_Mode r2_1, .sl (.one (.sl (.one (.int .i64)))) r2_2, .int .i64 r2_3, .int .i64 r2_4, .int .i64 r2_5, .int .i64 r2_6, .sl T_Peg r2_7, .sl T_Pot r2_8, .sl T_Mode r2_9, .sl T_Peg r2_10, .sl T_Paper r2_11]))), (3, some (.var 12 (.agg [.sl T_Peg r3_0, .sl T_Mode r3_1, .sl (.one (.sl (.one (.int .i64)))) r3_2, .int .i64 r3_3, .int .i64 r3_4, .int .i64 r3_5, .int .i64 r3_6, .sl T_Peg r3_7, .sl T_Pot r3_8, .sl T_Mode r3_9, .sl T_Peg r3_10, .sl T_Paper r3_11]))), (3000, none), (3001, none), (3002, none), (3007, none), (3008, none), (3009, none), (3010, none), (3011, none), (4000, none), (4001, none), (4002, none), (4007, none), (4008, none), (4009, none), (4010, none), (4011, none)]⟩
noncomputable def spec_SameDesk_p4  (v8 : Int) (r2_0 : List T_Peg.ty) (r2_1 : List T_Mode.ty) (r2_2 : List (List Int)) (r2_3 : Int) (r2_4 : Int) (r2_5 : Int) (r2_6 : Int) (r2_7 : List T_Peg.ty) (r2_8 : List T_Pot.ty) (r2_9 : List T_Mode.ty) (r2_10 : List T_Peg.ty) (r2_11 : List T_Paper.ty) (r3_0 : List T_Peg.ty) (r3_1 : List T_Mode.ty) (r3_2 : List (List Int)) (r3_3 : Int) (r3_4 : Int) (r3_5 : Int) (r3_6 : Int) (r3_7 : List T_Peg.ty) (r3_8 : List T_Pot.ty) (r3_9 : List T_Mode.ty) (r3_10 : List T_Peg.ty) (r3_11 : List T_Paper.ty) : Option (Bool) :=
 goL spec_SameDesk_D spec_SameDesk_H (vleave spec_SameDesk_ir [.d T_Desk, .d T_Desk] [.d (.one .bool)] [] []) [.c spec_SameDesk_k6, .l spec_SameDesk_k7, .e 6, .c spec_SameDesk_k20]
  ⟨[(2, .loc 2 0 0), (3, .loc 3 0 0), (8, .int .i64 v8)], [(2, some (.var 12 (.agg [.sl T_Peg r2_0, .sl T_Mode r2_1, .sl (.one (.sl (.one (.int .i64)))) r2_2, .int .i64 r2_3, .int .i64 r2_4, .int .i64 r2_5, .int .i64 r2_6, .sl T_Peg r2_7, .sl T_Pot r2_8, .sl T_Mode r2_9, .sl T_Peg r2_10, .sl T_Paper r2_11]))), (3, some (.var 12 (.agg [.sl T_Peg r3_0, .sl T_Mode r3_1, .sl (.one (.sl (.one (.int .i64)))) r3_2, .int .i64 r3_3, .int .i64 r3_4, .int .i64 r3_5, .int .i64 r3_6, .sl T_Peg r3_7, .sl T_Pot r3_8, .sl T_Mode r3_9, .sl T_Peg r3_10, .sl T_Paper r3_11]))), (3000, none), (3001, none), (3002, none), (3007, none), (3008, none), (3009, none), (3010, none), (3011, none), (4000, none), (4001, none), (4002, none), (4007, none), (4008, none), (4009, none), (4010, none), (4011, none)]⟩
noncomputable def spec_SameDesk_p5  (v9 : Int) (r2_0 : List T_Peg.ty) (r2_1 : List T_Mode.ty) (r2_2 : List (List Int)) (r2_3 : Int) (r2_4 : Int) (r2_5 : Int) (r2_6 : Int) (r2_7 : List T_Peg.ty) (r2_8 : List T_Pot.ty) (r2_9 : List T_Mode.ty) (r2_10 : List T_Peg.ty) (r2_11 : List T_Paper.ty) (r3_0 : List T_Peg.ty) (r3_1 : List T_Mode.ty) (r3_2 : List (List Int)) (r3_3 : Int) (r3_4 : Int) (r3_5 : Int) (r3_6 : Int) (r3_7 : List T_Peg.ty) (r3_8 : List T_Pot.ty) (r3_9 : List T_Mode.ty) (r3_10 : List T_Peg.ty) (r3_11 : List T_Paper.ty) : Option (Bool) :=
 goL spec_SameDesk_D spec_SameDesk_H (vleave spec_SameDesk_ir [.d T_Desk, .d T_Desk] [.d (.one .bool)] [] []) [.c spec_SameDesk_k8, .l spec_SameDesk_k9, .e 8, .c spec_SameDesk_k19]
  ⟨[(2, .loc 2 0 0), (3, .loc 3 0 0), (9, .int .i64 v9)], [(2, some (.var 12 (.agg [.sl T_Peg r2_0, .sl T_Mode r2_1, .sl (.one (.sl (.one (.int .i64)))) r2_2, .int .i64 r2_3, .int .i64 r2_4, .int .i64 r2_5, .int .i64 r2_6, .sl T_Peg r2_7, .sl T_Pot r2_8, .sl T_Mode r2_9, .sl T_Peg r2_10, .sl T_Paper r2_11]))), (3, some (.var 12 (.agg [.sl T_Peg r3_0, .sl T_Mode r3_1, .sl (.one (.sl (.one (.int .i64)))) r3_2, .int .i64 r3_3, .int .i64 r3_4, .int .i64 r3_5, .int .i64 r3_6, .sl T_Peg r3_7, .sl T_Pot r3_8, .sl T_Mode r3_9, .sl T_Peg r3_10, .sl T_Paper r3_11]))), (3000, none), (3001, none), (3002, none), (3007, none), (3008, none), (3009, none), (3010, none), (3011, none), (4000, none), (4001, none), (4002, none), (4007, none), (4008, none), (4009, none), (4010, none), (4011, none)]⟩
noncomputable def spec_SameDesk_p6  (v10 : Int) (r2_0 : List T_Peg.ty) (r2_1 : List T_Mode.ty) (r2_2 : List (List Int)) (r2_3 : Int) (r2_4 : Int) (r2_5 : Int) (r2_6 : Int) (r2_7 : List T_Peg.ty) (r2_8 : List T_Pot.ty) (r2_9 : List T_Mode.ty) (r2_10 : List T_Peg.ty) (r2_11 : List T_Paper.ty) (r3_0 : List T_Peg.ty) (r3_1 : List T_Mode.ty) (r3_2 : List (List Int)) (r3_3 : Int) (r3_4 : Int) (r3_5 : Int) (r3_6 : Int) (r3_7 : List T_Peg.ty) (r3_8 : List T_Pot.ty) (r3_9 : List T_Mode.ty) (r3_10 : List T_Peg.ty) (r3_11 : List T_Paper.ty) : Option (Bool) :=
 goL spec_SameDesk_D spec_SameDesk_H (vleave spec_SameDesk_ir [.d T_Desk, .d T_Desk] [.d (.one .bool)] [] []) [.c spec_SameDesk_k10, .l spec_SameDesk_k11, .e 10, .c spec_SameDesk_k18]
  ⟨[(2, .loc 2 0 0), (3, .loc 3 0 0), (10, .int .i64 v10)], [(2, some (.var 12 (.agg [.sl T_Peg r2_0, .sl T_Mode r2_1, .sl (.one (.sl (.one (.int .i64)))) r2_2, .int .i64 r2_3, .int .i64 r2_4, .int .i64 r2_5, .int .i64 r2_6, .sl T_Peg r2_7, .sl T_Pot r2_8, .sl T_Mode r2_9, .sl T_Peg r2_10, .sl T_Paper r2_11]))), (3, some (.var 12 (.agg [.sl T_Peg r3_0, .sl T_Mode r3_1, .sl (.one (.sl (.one (.int .i64)))) r3_2, .int .i64 r3_3, .int .i64 r3_4, .int .i64 r3_5, .int .i64 r3_6, .sl T_Peg r3_7, .sl T_Pot r3_8, .sl T_Mode r3_9, .sl T_Peg r3_10, .sl T_Paper r3_11]))), (3000, none), (3001, none), (3002, none), (3007, none), (3008, none), (3009, none), (3010, none), (3011, none), (4000, none), (4001, none), (4002, none), (4007, none), (4008, none), (4009, none), (4010, none), (4011, none)]⟩
noncomputable def spec_SameDesk_p7  (v11 : Int) (r2_0 : List T_Peg.ty) (r2_1 : List T_Mode.ty) (r2_2 : List (List Int)) (r2_3 : Int) (r2_4 : Int) (r2_5 : Int) (r2_6 : Int) (r2_7 : List T_Peg.ty) (r2_8 : List T_Pot.ty) (r2_9 : List T_Mode.ty) (r2_10 : List T_Peg.ty) (r2_11 : List T_Paper.ty) (r3_0 : List T_Peg.ty) (r3_1 : List T_Mode.ty) (r3_2 : List (List Int)) (r3_3 : Int) (r3_4 : Int) (r3_5 : Int) (r3_6 : Int) (r3_7 : List T_Peg.ty) (r3_8 : List T_Pot.ty) (r3_9 : List T_Mode.ty) (r3_10 : List T_Peg.ty) (r3_11 : List T_Paper.ty) : Option (Bool) :=
 goL spec_SameDesk_D spec_SameDesk_H (vleave spec_SameDesk_ir [.d T_Desk, .d T_Desk] [.d (.one .bool)] [] []) [.c spec_SameDesk_k12, .l spec_SameDesk_k13, .e 12, .c spec_SameDesk_k17]
  ⟨[(2, .loc 2 0 0), (3, .loc 3 0 0), (11, .int .i64 v11)], [(2, some (.var 12 (.agg [.sl T_Peg r2_0, .sl T_Mode r2_1, .sl (.one (.sl (.one (.int .i64)))) r2_2, .int .i64 r2_3, .int .i64 r2_4, .int .i64 r2_5, .int .i64 r2_6, .sl T_Peg r2_7, .sl T_Pot r2_8, .sl T_Mode r2_9, .sl T_Peg r2_10, .sl T_Paper r2_11]))), (3, some (.var 12 (.agg [.sl T_Peg r3_0, .sl T_Mode r3_1, .sl (.one (.sl (.one (.int .i64)))) r3_2, .int .i64 r3_3, .int .i64 r3_4, .int .i64 r3_5, .int .i64 r3_6, .sl T_Peg r3_7, .sl T_Pot r3_8, .sl T_Mode r3_9, .sl T_Peg r3_10, .sl T_Paper r3_11]))), (3000, none), (3001, none), (3002, none), (3007, none), (3008, none), (3009, none), (3010, none), (3011, none), (4000, none), (4001, none), (4002, none), (4007, none), (4008, none), (4009, none), (4010, none), (4011, none)]⟩
noncomputable def spec_SameDesk_p8  (v12 : Int) (r2_0 : List T_Peg.ty) (r2_1 : List T_Mode.ty) (r2_2 : List (List Int)) (r2_3 : Int) (r2_4 : Int) (r2_5 : Int) (r2_6 : Int) (r2_7 : List T_Peg.ty) (r2_8 : List T_Pot.ty) (r2_9 : List T_Mode.ty) (r2_10 : List T_Peg.ty) (r2_11 : List T_Paper.ty) (r3_0 : List T_Peg.ty) (r3_1 : List T_Mode.ty) (r3_2 : List (List Int)) (r3_3 : Int) (r3_4 : Int) (r3_5 : Int) (r3_6 : Int) (r3_7 : List T_Peg.ty) (r3_8 : List T_Pot.ty) (r3_9 : List T_Mode.ty) (r3_10 : List T_Peg.ty) (r3_11 : List T_Paper.ty) : Option (Bool) :=
 goL spec_SameDesk_D spec_SameDesk_H (vleave spec_SameDesk_ir [.d T_Desk, .d T_Desk] [.d (.one .bool)] [] []) [.c spec_SameDesk_k14, .l spec_SameDesk_k15, .e 14, .c spec_SameDesk_k16]
  ⟨[(2, .loc 2 0 0), (3, .loc 3 0 0), (12, .int .i64 v12)], [(2, some (.var 12 (.agg [.sl T_Peg r2_0, .sl T_Mode r2_1, .sl (.one (.sl (.one (.int .i64)))) r2_2, .int .i64 r2_3, .int .i64 r2_4, .int .i64 r2_5, .int .i64 r2_6, .sl T_Peg r2_7, .sl T_Pot r2_8, .sl T_Mode r2_9, .sl T_Peg r2_10, .sl T_Paper r2_11]))), (3, some (.var 12 (.agg [.sl T_Peg r3_0, .sl T_Mode r3_1, .sl (.one (.sl (.one (.int .i64)))) r3_2, .int .i64 r3_3, .int .i64 r3_4, .int .i64 r3_5, .int .i64 r3_6, .sl T_Peg r3_7, .sl T_Pot r3_8, .sl T_Mode r3_9, .sl T_Peg r3_10, .sl T_Paper r3_11]))), (3000, none), (3001, none), (3002, none), (3007, none), (3008, none), (3009, none), (3010, none), (3011, none), (4000, none), (4001, none), (4002, none), (4007, none), (4008, none), (4009, none), (4010, none), (4011, none)]⟩
theorem spec_SameDesk_eq (a0 : T_Desk.ty) (a1 : T_Desk.ty) : spec_SameDesk a0 a1 =
  (spec_l32Lists a0 a1).bind fun x1 =>
   if (!x1) then
    some false
   else
    if (!((a0.2.2.2.1 == a1.2.2.2.1) && ((a0.2.2.2.2.1 == a1.2.2.2.2.1) && ((a0.2.2.2.2.2.1 == a1.2.2.2.2.2.1) && (a0.2.2.2.2.2.2.1 == a1.2.2.2.2.2.2.1))))) then
     some false
    else
     spec_SameDesk_p0 a0.1 a0.2.1 a0.2.2.1 a0.2.2.2.1 a0.2.2.2.2.1 a0.2.2.2.2.2.1 a0.2.2.2.2.2.2.1 a0.2.2.2.2.2.2.2.1 a0.2.2.2.2.2.2.2.2.1 a0.2.2.2.2.2.2.2.2.2.1 a0.2.2.2.2.2.2.2.2.2.2.1 a0.2.2.2.2.2.2.2.2.2.2.2.1 a1.1 a1.2.1 a1.2.2.1 a1.2.2.2.1 a1.2.2.2.2.1 a1.2.2.2.2.2.1 a1.2.2.2.2.2.2.1 a1.2.2.2.2.2.2.2.1 a1.2.2.2.2.2.2.2.2.1 a1.2.2.2.2.2.2.2.2.2.1 a1.2.2.2.2.2.2.2.2.2.2.1 a1.2.2.2.2.2.2.2.2.2.2.2.1 :=
 (mk_f _ _ _ _ _ _ _ 4000).trans (by kernel_rfl)
theorem spec_SameDesk_p0_eq  (r2_0 : List T_Peg.ty) (r2_1 : List T_Mode.ty) (r2_2 : List (List Int)) (r2_3 : Int) (r2_4 : Int) (r2_5 : Int) (r2_6 : Int) (r2_7 : List T_Peg.ty) (r2_8 : List T_Pot.ty) (r2_9 : List T_Mode.ty) (r2_10 : List T_Peg.ty) (r2_11 : List T_Paper.ty) (r3_0 : List T_Peg.ty) (r3_1 : List T_Mode.ty) (r3_2 : List (List Int)) (r3_3 : Int) (r3_4 : Int) (r3_5 : Int) (r3_6 : Int) (r3_7 : List T_Peg.ty) (r3_8 : List T_Pot.ty) (r3_9 : List T_Mode.ty) (r3_10 : List T_Peg.ty) (r3_11 : List T_Paper.ty) : spec_SameDesk_p0 r2_0 r2_1 r2_2 r2_3 r2_4 r2_5 r2_6 r2_7 r2_8 r2_9 r2_10 r2_11 r3_0 r3_1 r3_2 r3_3 r3_4 r3_5 r3_6 r3_7 r3_8 r3_9 r3_10 r3_11 =
  spec_SameDesk_p1 0 r2_0 r2_1 r2_2 r2_3 r2_4 r2_5 r2_6 r2_7 r2_8 r2_9 r2_10 r2_11 r3_0 r3_1 r3_2 r3_3 r3_4 r3_5 r3_6 r3_7 r3_8 r3_9 r3_10 r3_11 :=
 (goL_dn _ _ _ 4000 _ _).trans (by kernel_rfl)
theorem spec_SameDesk_p1_eq  (v5 : Int) (r2_0 : List T_Peg.ty) (r2_1 : List T_Mode.ty) (r2_2 : List (List Int)) (r2_3 : Int) (r2_4 : Int) (r2_5 : Int) (r2_6 : Int) (r2_7 : List T_Peg.ty) (r2_8 : List T_Pot.ty) (r2_9 : List T_Mode.ty) (r2_10 : List T_Peg.ty) (r2_11 : List T_Paper.ty) (r3_0 : List T_Peg.ty) (r3_1 : List T_Mode.ty) (r3_2 : List (List Int)) (r3_3 : Int) (r3_4 : Int) (r3_5 : Int) (r3_6 : Int) (r3_7 : List T_Peg.ty) (r3_8 : List T_Pot.ty) (r3_9 : List T_Mode.ty) (r3_10 : List T_Peg.ty) (r3_11 : List T_Paper.ty) : spec_SameDesk_p1 v5 r2_0 r2_1 r2_2 r2_3 r2_4 r2_5 r2_6 r2_7 r2_8 r2_9 r2_10 r2_11 r3_0 r3_1 r3_2 r3_3 r3_4 r3_5 r3_6 r3_7 r3_8 r3_9 r3_10 r3_11 =
  if decide (v5 < (r2_2.length : Int)) then
   if decide (0 ≤ v5) then
    (r2_2[v5.toNat]?).bind fun x1 =>
     if decide (0 ≤ v5) then
      (r3_2[v5.toNat]?).bind fun x2 =>
       (spec_l00Same x1 x2).bind fun x3 =>
        if (!x3) then
         some false
        else
         spec_SameDesk_p1 (IntKind.i64.wrap (v5 + 1)) r2_0 r2_1 r2_2 r2_3 r2_4 r2_5 r2_6 r2_7 r2_8 r2_9 r2_10 r2_11 r3_0 r3_1 r3_2 r3_3 r3_4 r3_5 r3_6 r3_7 r3_8 r3_9 r3_10 r3_11
     else
      none
   else
    none
  else
   spec_SameDesk_p2 0 r2_0 r2_1 r2_2 r2_3 r2_4 r2_5 r2_6 r2_7 r2_8 r2_9 r2_10 r2_11 r3_0 r3_1 r3_2 r3_3 r3_4 r3_5 r3_6 r3_7 r3_8 r3_9 r3_10 r3_11 :=
 (goL_dn _ _ _ 4000 _ _).trans (by kernel_rfl)
theorem spec_SameDesk_p2_eq  (v6 : Int) (r2_0 : List T_Peg.ty) (r2_1 : List T_Mode.ty) (r2_2 : List (List Int)) (r2_3 : Int) (r2_4 : Int) (r2_5 : Int) (r2_6 : Int) (r2_7 : List T_Peg.ty) (r2_8 : List T_Pot.ty) (r2_9 : List T_Mode.ty) (r2_10 : List T_Peg.ty) (r2_11 : List T_Paper.ty) (r3_0 : List T_Peg.ty) (r3_1 : List T_Mode.ty) (r3_2 : List (List Int)) (r3_3 : Int) (r3_4 : Int) (r3_5 : Int) (r3_6 : Int) (r3_7 : List T_Peg.ty) (r3_8 : List T_Pot.ty) (r3_9 : List T_Mode.ty) (r3_10 : List T_Peg.ty) (r3_11 : List T_Paper.ty) : spec_SameDesk_p2 v6 r2_0 r2_1 r2_2 r2_3 r2_4 r2_5 r2_6 r2_7 r2_8 r2_9 r2_10 r2_11 r3_0 r3_1 r3_2 r3_3 r3_4 r3_5 r3_6 r3_7 r3_8 r3_9 r3_10 r3_11 =
  if decide (v6 < (r2_0.length : Int)) then
   if decide (0 ≤ v6) then
    (r2_0[v6.toNat]?).bind fun x1 =>
     if decide (0 ≤ v6) then
      (r3_0[v6.toNat]?).bind fun x2 =>
       if (!((x1.1 == x2.1) && ((x1.2.1 == x2.2.1) && ((x1.2.2.1 == x2.2.2.1) && (x1.2.2.2.1 == x2.2.2.2.1))))) then
        some false
       else
        spec_SameDesk_p2 (IntKind.i64.wrap (v6 + 1)) r2_0 r2_1 r2_2 r2_3 r2_4 r2_5 r2_6 r2_7 r2_8 r2_9 r2_10 r2_11 r3_0 r3_1 r3_2 r3_3 r3_4 r3_5 r3_6 r3_7 r3_8 r3_9 r3_10 r3_11
     else
      none
   else
    none
  else
   spec_SameDesk_p3 0 r2_0 r2_1 r2_2 r2_3 r2_4 r2_5 r2_6 r2_7 r2_8 r2_9 r2_10 r2_11 r3_0 r3_1 r3_2 r3_3 r3_4 r3_5 r3_6 r3_7 r3_8 r3_9 r3_10 r3_11 :=
 (goL_dn _ _ _ 4000 _ _).trans (by kernel_rfl)
theorem spec_SameDesk_p3_eq  (v7 : Int) (r2_0 : List T_Peg.ty) (r2_1 : List T_Mode.ty) (r2_2 : List (List Int)) (r2_3 : Int) (r2_4 : Int) (r2_5 : Int) (r2_6 : Int) (r2_7 : List T_Peg.ty) (r2_8 : List T_Pot.ty) (r2_9 : List T_Mode.ty) (r2_10 : List T_Peg.ty) (r2_11 : List T_Paper.ty) (r3_0 : List T_Peg.ty) (r3_1 : List T_Mode.ty) (r3_2 : List (List Int)) (r3_3 : Int) (r3_4 : Int) (r3_5 : Int) (r3_6 : Int) (r3_7 : List T_Peg.ty) (r3_8 : List T_Pot.ty) (r3_9 : List T_Mode.ty) (r3_10 : List T_Peg.ty) (r3_11 : List T_Paper.ty) : spec_SameDesk_p3 v7 r2_0 r2_1 r2_2 r2_3 r2_4 r2_5 r2_6 r2_7 r2_8 r2_9 r2_10 r2_11 r3_0 r3_1 r3_2 r3_3 r3_4 r3_5 r3_6 r3_7 r3_8 r3_9 r3_10 r3_11 =
  if decide (v7 < (r2_1.length : Int)) then
   if decide (0 ≤ v7) then
    (r2_1[v7.toNat]?).bind fun x1 =>
     if decide (0 ≤ v7) then
      (r3_1[v7.toNat]?).bind fun x2 =>
       if (!((x1.1 == x2.1) && ((x1.2.1 == x2.2.1) && (x1.2.2.1 == x2.2.2.1)))) then
        some false
       else
        spec_SameDesk_p3 (IntKind.i64.wrap (v7 + 1)) r2_0 r2_1 r2_2 r2_3 r2_4 r2_5 r2_6 r2_7 r2_8 r2_9 r2_10 r2_11 r3_0 r3_1 r3_2 r3_3 r3_4 r3_5 r3_6 r3_7 r3_8 r3_9 r3_10 r3_11
     else
      none
   else
    none
  else
   spec_SameDesk_p4 0 r2_0 r2_1 r2_2 r2_3 r2_4 r2_5 r2_6 r2_7 r2_8 r2_9 r2_10 r2_11 r3_0 r3_1 r3_2 r3_3 r3_4 r3_5 r3_6 r3_7 r3_8 r3_9 r3_10 r3_11 :=
 (goL_dn _ _ _ 4000 _ _).trans (by kernel_rfl)
theorem spec_SameDesk_p4_eq  (v8 : Int) (r2_0 : List T_Peg.ty) (r2_1 : List T_Mode.ty) (r2_2 : List (List Int)) (r2_3 : Int) (r2_4 : Int) (r2_5 : Int) (r2_6 : Int) (r2_7 : List T_Peg.ty) (r2_8 : List T_Pot.ty) (r2_9 : List T_Mode.ty) (r2_10 : List T_Peg.ty) (r2_11 : List T_Paper.ty) (r3_0 : List T_Peg.ty) (r3_1 : List T_Mode.ty) (r3_2 : List (List Int)) (r3_3 : Int) (r3_4 : Int) (r3_5 : Int) (r3_6 : Int) (r3_7 : List T_Peg.ty) (r3_8 : List T_Pot.ty) (r3_9 : List T_Mode.ty) (r3_10 : List T_Peg.ty) (r3_11 : List T_Paper.ty) : spec_SameDesk_p4 v8 r2_0 r2_1 r2_2 r2_3 r2_4 r2_5 r2_6 r2_7 r2_8 r2_9 r2_10 r2_11 r3_0 r3_1 r3_2 r3_3 r3_4 r3_5 r3_6 r3_7 r3_8 r3_9 r3_10 r3_11 =
  if decide (v8 < (r2_7.length : Int)) then
   if decide (0 ≤ v8) then
    (r2_7[v8.toNat]?).bind fun x1 =>
     if decide (0 ≤ v8) then
      (r3_7[v8.toNat]?).bind fun x2 =>
       if (!((x1.1 == x2.1) && ((x1.2.1 == x2.2.1) && ((x1.2.2.1 == x2.2.2.1) && (x1.2.2.2.1 == x2.2.2.2.1))))) then
        some false
       else
        spec_SameDesk_p4 (IntKind.i64.wrap (v8 + 1)) r2_0 r2_1 r2_2 r2_3 r2_4 r2_5 r2_6 r2_7 r2_8 r2_9 r2_10 r2_11 r3_0 r3_1 r3_2 r3_3 r3_4 r3_5 r3_6 r3_7 r3_8 r3_9 r3_10 r3_11
     else
      none
   else
    none
  else
   spec_SameDesk_p5 0 r2_0 r2_1 r2_2 r2_3 r2_4 r2_5 r2_6 r2_7 r2_8 r2_9 r2_10 r2_11 r3_0 r3_1 r3_2 r3_3 r3_4 r3_5 r3_6 r3_7 r3_8 r3_9 r3_10 r3_11 :=
 (goL_dn _ _ _ 4000 _ _).trans (by kernel_rfl)
theorem spec_SameDesk_p5_eq  (v9 : Int) (r2_0 : List T_Peg.ty) (r2_1 : List T_Mode.ty) (r2_2 : List (List Int)) (r2_3 : Int) (r2_4 : Int) (r2_5 : Int) (r2_6 : Int) (r2_7 : List T_Peg.ty) (r2_8 : List T_Pot.ty) (r2_9 : List T_Mode.ty) (r2_10 : List T_Peg.ty) (r2_11 : List T_Paper.ty) (r3_0 : List T_Peg.ty) (r3_1 : List T_Mode.ty) (r3_2 : List (List Int)) (r3_3 : Int) (r3_4 : Int) (r3_5 : Int) (r3_6 : Int) (r3_7 : List T_Peg.ty) (r3_8 : List T_Pot.ty) (r3_9 : List T_Mode.ty) (r3_10 : List T_Peg.ty) (r3_11 : List T_Paper.ty) : spec_SameDesk_p5 v9 r2_0 r2_1 r2_2 r2_3 r2_4 r2_5 r2_6 r2_7 r2_8 r2_9 r2_10 r2_11 r3_0 r3_1 r3_2 r3_3 r3_4 r3_5 r3_6 r3_7 r3_8 r3_9 r3_10 r3_11 =
  if decide (v9 < (r2_8.length : Int)) then
   if decide (0 ≤ v9) then
    (r2_8[v9.toNat]?).bind fun x1 =>
     if decide (0 ≤ v9) then
      (r3_8[v9.toNat]?).bind fun x2 =>
       if (!((x1.1 == x2.1) && ((x1.2.1 == x2.2.1) && ((x1.2.2.1 == x2.2.2.1) && ((x1.2.2.2.1 == x2.2.2.2.1) && (x1.2.2.2.2.1 == x2.2.2.2.2.1)))))) then
        some false
       else
        spec_SameDesk_p5 (IntKind.i64.wrap (v9 + 1)) r2_0 r2_1 r2_2 r2_3 r2_4 r2_5 r2_6 r2_7 r2_8 r2_9 r2_10 r2_11 r3_0 r3_1 r3_2 r3_3 r3_4 r3_5 r3_6 r3_7 r3_8 r3_9 r3_10 r3_11
     else
      none
   else
    none
  else
   spec_SameDesk_p6 0 r2_0 r2_1 r2_2 r2_3 r2_4 r2_5 r2_6 r2_7 r2_8 r2_9 r2_10 r2_11 r3_0 r3_1 r3_2 r3_3 r3_4 r3_5 r3_6 r3_7 r3_8 r3_9 r3_10 r3_11 :=
 (goL_dn _ _ _ 4000 _ _).trans (by kernel_rfl)
theorem spec_SameDesk_p6_eq  (v10 : Int) (r2_0 : List T_Peg.ty) (r2_1 : List T_Mode.ty) (r2_2 : List (List Int)) (r2_3 : Int) (r2_4 : Int) (r2_5 : Int) (r2_6 : Int) (r2_7 : List T_Peg.ty) (r2_8 : List T_Pot.ty) (r2_9 : List T_Mode.ty) (r2_10 : List T_Peg.ty) (r2_11 : List T_Paper.ty) (r3_0 : List T_Peg.ty) (r3_1 : List T_Mode.ty) (r3_2 : List (List Int)) (r3_3 : Int) (r3_4 : Int) (r3_5 : Int) (r3_6 : Int) (r3_7 : List T_Peg.ty) (r3_8 : List T_Pot.ty) (r3_9 : List T_Mode.ty) (r3_10 : List T_Peg.ty) (r3_11 : List T_Paper.ty) : spec_SameDesk_p6 v10 r2_0 r2_1 r2_2 r2_3 r2_4 r2_5 r2_6 r2_7 r2_8 r2_9 r2_10 r2_11 r3_0 r3_1 r3_2 r3_3 r3_4 r3_5 r3_6 r3_7 r3_8 r3_9 r3_10 r3_11 =
  if decide (v10 < (r2_9.length : Int)) then
   if decide (0 ≤ v10) then
    (r2_9[v10.toNat]?).bind fun x1 =>
     if decide (0 ≤ v10) then
      (r3_9[v10.toNat]?).bind fun x2 =>
       if (!((x1.1 == x2.1) && ((x1.2.1 == x2.2.1) && (x1.2.2.1 == x2.2.2.1)))) then
        some false
       else
        spec_SameDesk_p6 (IntKind.i64.wrap (v10 + 1)) r2_0 r2_1 r2_2 r2_3 r2_4 r2_5 r2_6 r2_7 r2_8 r2_9 r2_10 r2_11 r3_0 r3_1 r3_2 r3_3 r3_4 r3_5 r3_6 r3_7 r3_8 r3_9 r3_10 r3_11
     else
      none
   else
    none
  else
   spec_SameDesk_p7 0 r2_0 r2_1 r2_2 r2_3 r2_4 r2_5 r2_6 r2_7 r2_8 r2_9 r2_10 r2_11 r3_0 r3_1 r3_2 r3_3 r3_4 r3_5 r3_6 r3_7 r3_8 r3_9 r3_10 r3_11 :=
 (goL_dn _ _ _ 4000 _ _).trans (by kernel_rfl)
theorem spec_SameDesk_p7_eq  (v11 : Int) (r2_0 : List T_Peg.ty) (r2_1 : List T_Mode.ty) (r2_2 : List (List Int)) (r2_3 : Int) (r2_4 : Int) (r2_5 : Int) (r2_6 : Int) (r2_7 : List T_Peg.ty) (r2_8 : List T_Pot.ty) (r2_9 : List T_Mode.ty) (r2_10 : List T_Peg.ty) (r2_11 : List T_Paper.ty) (r3_0 : List T_Peg.ty) (r3_1 : List T_Mode.ty) (r3_2 : List (List Int)) (r3_3 : Int) (r3_4 : Int) (r3_5 : Int) (r3_6 : Int) (r3_7 : List T_Peg.ty) (r3_8 : List T_Pot.ty) (r3_9 : List T_Mode.ty) (r3_10 : List T_Peg.ty) (r3_11 : List T_Paper.ty) : spec_SameDesk_p7 v11 r2_0 r2_1 r2_2 r2_3 r2_4 r2_5 r2_6 r2_7 r2_8 r2_9 r2_10 r2_11 r3_0 r3_1 r3_2 r3_3 r3_4 r3_5 r3_6 r3_7 r3_8 r3_9 r3_10 r3_11 =
  if decide (v11 < (r2_10.length : Int)) then
   if decide (0 ≤ v11) then
    (r2_10[v11.toNat]?).bind fun x1 =>
     if decide (0 ≤ v11) then
      (r3_10[v11.toNat]?).bind fun x2 =>
       if (!((x1.1 == x2.1) && ((x1.2.1 == x2.2.1) && ((x1.2.2.1 == x2.2.2.1) && (x1.2.2.2.1 == x2.2.2.2.1))))) then
        some false
       else
        spec_SameDesk_p7 (IntKind.i64.wrap (v11 + 1)) r2_0 r2_1 r2_2 r2_3 r2_4 r2_5 r2_6 r2_7 r2_8 r2_9 r2_10 r2_11 r3_0 r3_1 r3_2 r3_3 r3_4 r3_5 r3_6 r3_7 r3_8 r3_9 r3_10 r3_11
     else
      none
   else
    none
  else
   spec_SameDesk_p8 0 r2_0 r2_1 r2_2 r2_3 r2_4 r2_5 r2_6 r2_7 r2_8 r2_9 r2_10 r2_11 r3_0 r3_1 r3_2 r3_3 r3_4 r3_5 r3_6 r3_7 r3_8 r3_9 r3_10 r3_11 :=
 (goL_dn _ _ _ 4000 _ _).trans (by kernel_rfl)
theorem spec_SameDesk_p8_eq  (v12 : Int) (r2_0 : List T_Peg.ty) (r2_1 : List T_Mode.ty) (r2_2 : List (List Int)) (r2_3 : Int) (r2_4 : Int) (r2_5 : Int) (r2_6 : Int) (r2_7 : List T_Peg.ty) (r2_8 : List T_Pot.ty) (r2_9 : List T_Mode.ty) (r2_10 : List T_Peg.ty) (r2_11 : List T_Paper.ty) (r3_0 : List T_Peg.ty) (r3_1 : List T_Mode.ty) (r3_2 : List (List Int)) (r3_3 : Int) (r3_4 : Int) (r3_5 : Int) (r3_6 : Int) (r3_7 : List T_Peg.ty) (r3_8 : List T_Pot.ty) (r3_9 : List T_Mode.ty) (r3_10 : List T_Peg.ty) (r3_11 : List T_Paper.ty) : spec_SameDesk_p8 v12 r2_0 r2_1 r2_2 r2_3 r2_4 r2_5 r2_6 r2_7 r2_8 r2_9 r2_10 r2_11 r3_0 r3_1 r3_2 r3_3 r3_4 r3_5 r3_6 r3_7 r3_8 r3_9 r3_10 r3_11 =
  if decide (v12 < (r2_11.length : Int)) then
   if decide (0 ≤ v12) then
    (r2_11[v12.toNat]?).bind fun x1 =>
     if decide (0 ≤ v12) then
      (r3_11[v12.toNat]?).bind fun x2 =>
       if (!((x1.1 == x2.1) && ((x1.2.1 == x2.2.1) && ((x1.2.2.1 == x2.2.2.1) && ((x1.2.2.2.1 == x2.2.2.2.1) && (x1.2.2.2.2.1 == x2.2.2.2.2.1)))))) then
        some false
       else
        spec_SameDesk_p8 (IntKind.i64.wrap (v12 + 1)) r2_0 r2_1 r2_2 r2_3 r2_4 r2_5 r2_6 r2_7 r2_8 r2_9 r2_10 r2_11 r3_0 r3_1 r3_2 r3_3 r3_4 r3_5 r3_6 r3_7 r3_8 r3_9 r3_10 r3_11
     else
      none
   else
    none
  else
   some true :=
 (goL_dn _ _ _ 4000 _ _).trans (by kernel_rfl)

/- impl.same[impl.Stack] -/
def impl_same_impl_Stack__k0 : C :=
 .seq (.reg false [.V 14 (.bin .lss (.t 13) (.t 12))] [0, 1, 12, 13, 14] []) (.seq (.cond (.t 14) .skip (.exit 0)) (.seq (.block 1 (.seq (.reg false [.V 15 (.mv (.t 13)), .V 5 (.asg (.t 15))] [0, 1, 5, 12, 13] []) (.seq (.reg true [.V 16 (.mv (.t 0)), .V 17 (.mv (.t 5)), .V 18 (.ia 4 (.t 16) (.t 17)), .V 19 (.ld (some 4) (.t 18)), .V 20 (.mv (.t 1)), .V 21 (.mv (.t 5)), .V 22 (.ia 4 (.t 20) (.t 21)), .V 23 (.ld (some 4) (.t 22)), .V 24 (.eqs true [.s, .i, .i, .i] (.t 19) (.t 23))] [0, 1, 12, 13, 24] []) (.cond (.t 24) (.seq (.reg false [.V 4 (.asg (.c (.bool false)))] [4] []) .ret) .skip)))) (.reg false [.V 25 (.bin .add (.t 13) (.c (.int .i64 1))), .V 13 (.mv (.t 25))] [0, 1, 12, 13] [])))
def impl_same_impl_Stack__k1 : C :=
 .norm [0, 1, 12, 13] [] impl_same_impl_Stack__k0
def impl_same_impl_Stack__k2 : C :=
 .seq (.reg false [.V 4 (.asg (.c (.bool true)))] [4] []) .ret
def impl_same_impl_Stack__ir : Fn := { np := 2, io := [], res := [.t 4], own := [false], body :=
 (.seq (.reg false [.V 4 (.asg (.c (.bool false)))] [0, 1] []) (.seq (.seq (.reg false [.V 6 (.mv (.t 0)), .V 7 (.len (.t 6)), .V 8 (.mv (.t 1)), .V 9 (.len (.t 8)), .V 10 (.bin .neq (.t 7) (.t 9))] [0, 1, 10] []) (.cond (.t 10) (.seq (.reg false [.V 4 (.asg (.c (.bool false)))] [4] []) .ret) .skip)) (.seq (.seq (.reg false [.V 11 (.mv (.t 0)), .V 12 (.len (.t 11)), .V 13 (.mv (.c (.int .i64 0)))] [0, 1, 12, 13] []) (.block 0 (.loop impl_same_impl_Stack__k1))) impl_same_impl_Stack__k2))) }
noncomputable def impl_same_impl_Stack__D : List (Nat × Callee) := []
def impl_same_impl_Stack__H : List (Nat × ET) := [(6, T_Peg), (8, T_Peg), (11, T_Peg), (16, T_Peg), (20, T_Peg)]
noncomputable def impl_same_impl_Stack__c : Callee := mkCallee impl_same_impl_Stack__D impl_same_impl_Stack__H impl_same_impl_Stack__ir [.d (.one (.sl T_Peg)), .d (.one (.sl T_Peg))] [.d (.one .bool)] []
noncomputable def impl_same_impl_Stack_ (a0 : List T_Peg.ty) (a1 : List T_Peg.ty) : Option (Bool) := impl_same_impl_Stack__c.f (a0, a1, ())
noncomputable def impl_same_impl_Stack__p0  (v0 : List T_Peg.ty) (v1 : List T_Peg.ty) (v12 : Int) (v13 : Int) : Option (Bool) :=
 goL impl_same_impl_Stack__D impl_same_impl_Stack__H (vleave impl_same_impl_Stack__ir [.d (.one (.sl T_Peg)), .d (.one (.sl T_Peg))] [.d (.one .bool)] [] []) [.c impl_same_impl_Stack__k0, .l impl_same_impl_Stack__k1, .e 0, .c impl_same_impl_Stack__k2]
  ⟨[(0, .sl T_Peg v0), (1, .sl T_Peg v1), (12, .int .i64 v12), (13, .int .i64 v13)], []⟩
theorem impl_same_impl_Stack__eq (a0 : List T_Peg.ty) (a1 : List T_Peg.ty) : impl_same_impl_Stack_ a0 a1 =
  if ((a0.length : Int) != (a1.length : Int)) then
   some false
  else
   impl_same_impl_Stack__p0 a0 a1 (a0.length : Int) 0 :=
 (mk_f _ _ _ _ _ _ _ 4000).trans (by kernel_rfl)
theorem impl_same_impl_Stack__p0_eq  (v0 : List T_Peg.ty) (v1 : List T_Peg.ty) (v12 : Int) (v13 : Int) : impl_same_impl_Stack__p0 v0 v1 v12 v13 =
  if decide (v13 < v12) then
   if decide (0 ≤ v13) then
    (v0[v13.toNat]?).bind fun x1 =>
     if decide (0 ≤ v13) then
      (v1[v13.toNat]?).bind fun x2 =>
       if (!((x1.1 == x2.1) && ((x1.2.1 == x2.2.1) && ((x1.2.2.1 == x2.2.2.1) && (x1.2.2.2.1 == x2.2.2.2.1))))) then
        some false
       else
        impl_same_impl_Stack__p0 v0 v1 v12 (IntKind.i64.wrap (v13 + 1))
     else
      none
   else
    none
  else
   some true :=
 (goL_dn _ _ _ 4000 _ _).trans (by kernel_rfl)

/- impl.same[impl.Rib] -/
def impl_same_impl_Rib__k0 : C :=
 .seq (.reg false [.V 14 (.bin .lss (.t 13) (.t 12))] [0, 1, 12, 13, 14] []) (.seq (.cond (.t 14) .skip (.exit 0)) (.seq (.block 1 (.seq (.reg false [.V 15 (.mv (.t 13)), .V 5 (.asg (.t 15))] [0, 1, 5, 12, 13] []) (.seq (.reg true [.V 16 (.mv (.t 0)), .V 17 (.mv (.t 5)), .V 18 (.ia 3 (.t 16) (.t 17)), .V 19 (.ld (some 3) (.t 18)), .V 20 (.mv (.t 1)), .V 21 (.mv (.t 5)), .V 22 (.ia 3 (.t 20) (.t 21)), .V 23 (.ld (some 3) (.t 22)), .V 24 (.eqs true [.s, .i, .i] (.t 19) (.t 23))] [0, 1, 12, 13, 24] []) (.cond (.t 24) (.seq (.reg false [.V 4 (.asg (.c (.bool false)))] [4] []) .ret) .skip)))) (.reg false [.V 25 (.bin .add (.t 13) (.c (.int .i64 1))), .V 13 (.mv (.t 25))] [0, 1, 12, 13] [])))
def impl_same_impl_Rib__k1 : C :=
 .norm [0, 1, 12, 13] [] impl_same_impl_Rib__k0
def impl_same_impl_Rib__k2 : C :=
 .seq (.reg false [.V 4 (.asg (.c (.bool true)))] [4] []) .ret
def impl_same_impl_Rib__ir : Fn := { np := 2, io := [], res := [.t 4], own := [false], body :=
 (.seq (.reg false [.V 4 (.asg (.c (.bool false)))] [0, 1] []) (.seq (.seq (.reg false [.V 6 (.mv (.t 0)), .V 7 (.len (.t 6)), .V 8 (.mv (.t 1)), .V 9 (.len (.t 8)), .V 10 (.bin .neq (.t 7) (.t 9))] [0, 1, 10] []) (.cond (.t 10) (.seq (.reg false [.V 4 (.asg (.c (.bool false)))] [4] []) .ret) .skip)) (.seq (.seq (.reg false [.V 11 (.mv (.t 0)), .V 12 (.len (.t 11)), .V 13 (.mv (.c (.int .i64 0)))] [0, 1, 12, 13] []) (.block 0 (.loop impl_same_impl_Rib__k1))) impl_same_impl_Rib__k2))) }
noncomputable def impl_same_impl_Rib__D : List (Nat × Callee) := []
def impl_same_impl_Rib__H : List (Nat × ET) := [(6, T_Mode), (8, T_Mode), (11, T_Mode), (16, T_Mode), (20, T_Mode)]
noncomputable def impl_same_impl_Rib__c : Callee := mkCallee impl_same_impl_Rib__D impl_same_impl_Rib__H impl_same_impl_Rib__ir [.d (.one (.sl T_Mode)), .d (.one (.sl T_Mode))] [.d (.one .bool)] []
noncomputable def impl_same_impl_Rib_ (a0 : List T_Mode.ty) (a1 : List T_Mode.ty) : Option (Bool) := impl_same_impl_Rib__c.f (a0, a1, ())
noncomputable def impl_same_impl_Rib__p0  (v0 : List T_Mode.ty) (v1 : List T_Mode.ty) (v12 : Int) (v13 : Int) : Option (Bool) :=
 goL impl_same_impl_Rib__D impl_same_impl_Rib__H (vleave impl_same_impl_Rib__ir [.d (.one (.sl T_Mode)), .d (.one (.sl T_Mode))] [.d (.one .bool)] [] []) [.c impl_same_impl_Rib__k0, .l impl_same_impl_Rib__k1, .e 0, .c impl_same_impl_Rib__k2]
  ⟨[(0, .sl T_Mode v0), (1, .sl T_Mode v1), (12, .int .i64 v12), (13, .int .i64 v13)], []⟩
theorem impl_same_impl_Rib__eq (a0 : List T_Mode.ty) (a1 : List T_Mode.ty) : impl_same_impl_Rib_ a0 a1 =
  if ((a0.length : Int) != (a1.length : Int)) then
   some false
  else
   impl_same_impl_Rib__p0 a0 a1 (a0.length : Int) 0 :=
 (mk_f _ _ _ _ _ _ _ 4000).trans (by kernel_rfl)
theorem impl_same_impl_Rib__p0_eq  (v0 : List T_Mode.ty) (v1 : List T_Mode.ty) (v12 : Int) (v13 : Int) : impl_same_impl_Rib__p0 v0 v1 v12 v13 =
  if decide (v13 < v12) then
   if decide (0 ≤ v13) then
    (v0[v13.toNat]?).bind fun x1 =>
     if decide (0 ≤ v13) then
      (v1[v13.toNat]?).bind fun x2 =>
       if (!((x1.1 == x2.1) && ((x1.2.1 == x2.2.1) && (x1.2.2.1 == x2.2.2.1)))) then
        some false
       else
        impl_same_impl_Rib__p0 v0 v1 v12 (IntKind.i64.wrap (v13 + 1))
     else
      none
   else
    none
  else
   some true :=
 (goL_dn _ _ _ 4000 _ _).trans (by kernel_rfl)

/- impl.same[int64] -/
def impl_same_int64__k0 : C :=
 .seq (.reg false [.V 14 (.bin .lss (.t 13) (.t 12))] [0, 1, 12, 13, 14] []) (.seq (.cond (.t 14) .skip (.exit 0)) (.seq (.block 1 (.seq (.reg false [.V 15 (.mv (.t 13)), .V 5 (.asg (.t 15))] [0, 1, 5, 12, 13] []) (.seq (.reg true [.V 16 (.mv (.t 0)), .V 17 (.mv (.t 5)), .V 18 (.ia 1 (.t 16) (.t 17)), .V 19 (.ld none (.t 18)), .V 20 (.mv (.t 1)), .V 21 (.mv (.t 5)), .V 22 (.ia 1 (.t 20) (.t 21)), .V 23 (.ld none (.t 22)), .V 24 (.bin .neq (.t 19) (.t 23))] [0, 1, 12, 13, 24] []) (.cond (.t 24) (.seq (.reg false [.V 4 (.asg (.c (.bool false)))] [4] []) .ret) .skip)))) (.reg false [.V 25 (.bin .add (.t 13) (.c (.int .i64 1))), .V 13 (.mv (.t 25))] [0, 1, 12, 13] [])))
def impl_same_int64__k1 : C :=
 .norm [0, 1, 12, 13] [] impl_same_int64__k0
def impl_same_int64__k2 : C :=
 .seq (.reg false [.V 4 (.asg (.c (.bool true)))] [4] []) .ret
def impl_same_int64__ir : Fn := { np := 2, io := [], res := [.t 4], own := [false], body :=
 (.seq (.reg false [.V 4 (.asg (.c (.bool false)))] [0, 1] []) (.seq (.seq (.reg false [.V 6 (.mv (.t 0)), .V 7 (.len (.t 6)), .V 8 (.mv (.t 1)), .V 9 (.len (.t 8)), .V 10 (.bin .neq (.t 7) (.t 9))] [0, 1, 10] []) (.cond (.t 10) (.seq (.reg false [.V 4 (.asg (.c (.bool false)))] [4] []) .ret) .skip)) (.seq (.seq (.reg false [.V 11 (.mv (.t 0)), .V 12 (.len (.t 11)), .V 13 (.mv (.c (.int .i64 0)))] [0, 1, 12, 13] []) (.block 0 (.loop impl_same_int64__k1))) impl_same_int64__k2))) }
noncomputable def impl_same_int64__D : List (Nat × Callee) := []
def impl_same_int64__H : List (Nat × ET) := [(6, (.one (.int .i64))), (8, (.one (.int .i64))), (11, (.one (.int .i64))), (16, (.one (.int .i64))), (20, (.one (.int .i64)))]
noncomputable def impl_same_int64__c : Callee := mkCallee impl_same_int64__D impl_same_int64__H impl_same_int64__ir [.d (.one (.sl (.one (.int .i64)))), .d (.one (.sl (.one (.int .i64))))] [.d (.one .bool)] []
noncomputable def impl_same_int64_ (a0 : List Int) (a1 : List Int) : Option (Bool) := impl_same_int64__c.f (a0, a1, ())
noncomputable def impl_same_int64__p0  (v0 : List Int) (v1 : List Int) (v12 : Int) (v13 : Int) : Option (Bool) :=
 goL impl_same_int64__D impl_same_int64__H (vleave impl_same_int64__ir [.d (.one (.sl (.one (.int .i64)))), .d (.one (.sl (.one (.int .i64))))] [.d (.one .bool)] [] []) [.c impl_same_int64__k0, .l impl_same_int64__k1, .e 0, .c impl_same_int64__k2]
  ⟨[(0, .sl (.one (.int .i64)) v0), (1, .sl (.one (.int .i64)) v1), (12, .int .i64 v12), (13, .int .i64 v13)], []⟩
theorem impl_same_int64__eq (a0 : List Int) (a1 : List Int) : impl_same_int64_ a0 a1 =
  if ((a0.length : Int) != (a1.length : Int)) then
   some false
  else
   impl_same_int64__p0 a0 a1 (a0.length : Int) 0 :=
 (mk_f _ _ _ _ _ _ _ 4000).trans (by kernel_rfl)
theorem impl_same_int64__p0_eq  (v0 : List Int) (v1 : List Int) (v12 : Int) (v13 : Int) : impl_same_int64__p0 v0 v1 v12 v13 =
  if decide (v13 < v12) then
   if decide (0 ≤ v13) then
    (v0[v13.toNat]?).bind fun x1 =>
     if decide (0 ≤ v13) then
      (v1[v13.toNat]?).bind fun x2 =>
       if (x1 != x2) then
        some false
       else
        impl_same_int64__p0 v0 v1 v12 (IntKind.i64.wrap (v13 + 1))
     else
      none
   else
    none
  else
   some true :=
 (goL_dn _ _ _ 4000 _ _).trans (by kernel_rfl)

/- slices.EqualFunc[[][]int64,[][]int64,[]int64,[]int64]@impl.same[int64] -/
def slices_EqualFunc_____int64_____int64___int64___int64__impl_same_int64__k0 : C :=
 .seq (.reg false [.V 18 (.bin .lss (.t 17) (.t 16))] [1, 2, 15, 16, 17, 18] []) (.seq (.cond (.t 18) .skip (.exit 0)) (.seq (.block 1 (.seq (.reg false [.V 19 (.mv (.t 17)), .V 20 (.ia 1 (.t 15) (.t 17)), .V 21 (.ld none (.t 20)), .V 7 (.asg (.t 19)), .W 8 (.asg (.t 21))] [1, 2, 7, 8, 15, 16, 17] [8]) (.seq (.reg false [.V 22 (.mv (.t 1)), .V 23 (.mv (.t 7)), .V 24 (.ia 1 (.t 22) (.t 23)), .V 25 (.ld none (.t 24)), .W 9 (.asg (.t 25))] [1, 2, 8, 9, 15, 16, 17] [8, 9]) (.seq (.reg false [.V 26 (.mv (.t 2)), .V 27 (.mv (.t 8)), .V 28 (.mv (.t 9)), .W 29 (.call (.t 26) [.t 27, .t 28]), .V 30 (.un .not (.t 29))] [1, 2, 15, 16, 17, 30] []) (.cond (.t 30) (.seq (.reg false [.V 6 (.asg (.c (.bool false)))] [6] []) .ret) .skip))))) (.reg false [.V 31 (.bin .add (.t 17) (.c (.int .i64 1))), .V 17 (.mv (.t 31))] [1, 2, 15, 16, 17] [])))
def slices_EqualFunc_____int64_____int64___int64___int64__impl_same_int64__k1 : C :=
 .norm [1, 2, 15, 16, 17] [] slices_EqualFunc_____int64_____int64___int64___int64__impl_same_int64__k0
def slices_EqualFunc_____int64_____int64___int64___int64__impl_same_int64__k2 : C :=
 .seq (.reg false [.V 6 (.asg (.c (.bool true)))] [6] []) .ret
def slices_EqualFunc_____int64_____int64___int64___int64__impl_same_int64__ir : Fn := { np := 3, io := [], res := [.t 6], own := [false], body :=
 (.seq (.reg false [.V 6 (.asg (.c (.bool false)))] [0, 1, 2] []) (.seq (.seq (.reg false [.V 10 (.mv (.t 0)), .V 11 (.len (.t 10)), .V 12 (.mv (.t 1)), .V 13 (.len (.t 12)), .V 14 (.bin .neq (.t 11) (.t 13))] [0, 1, 2, 14] []) (.cond (.t 14) (.seq (.reg false [.V 6 (.asg (.c (.bool false)))] [6] []) .ret) .skip)) (.seq (.seq (.reg false [.V 15 (.mv (.t 0)), .V 16 (.len (.t 15)), .V 17 (.mv (.c (.int .i64 0)))] [1, 2, 15, 16, 17] []) (.block 0 (.loop slices_EqualFunc_____int64_____int64___int64___int64__impl_same_int64__k1))) slices_EqualFunc_____int64_____int64___int64___int64__impl_same_int64__k2))) }
noncomputable def slices_EqualFunc_____int64_____int64___int64___int64__impl_same_int64__D : List (Nat × Callee) := [(662, impl_same_int64__c)]
def slices_EqualFunc_____int64_____int64___int64___int64__impl_same_int64__H : List (Nat × ET) := [(8, (.one (.int .i64))), (9, (.one (.int .i64))), (10, (.one (.sl (.one (.int .i64))))), (12, (.one (.sl (.one (.int .i64))))), (15, (.one (.sl (.one (.int .i64))))), (21, (.one (.int .i64))), (22, (.one (.sl (.one (.int .i64))))), (25, (.one (.int .i64))), (27, (.one (.int .i64))), (28, (.one (.int .i64)))]
noncomputable def slices_EqualFunc_____int64_____int64___int64___int64__impl_same_int64__c : Callee := mkCallee slices_EqualFunc_____int64_____int64___int64___int64__impl_same_int64__D slices_EqualFunc_____int64_____int64___int64___int64__impl_same_int64__H slices_EqualFunc_____int64_____int64___int64___int64__impl_same_int64__ir [.d (.one (.sl (.one (.sl (.one (.int .i64)))))), .d (.one (.sl (.one (.sl (.one (.int .i64)))))), .fn 662 []] [.d (.one .bool)] []
noncomputable def slices_EqualFunc_____int64_____int64___int64___int64__impl_same_int64_ (a0 : List (List Int)) (a1 : List (List Int)) (a2 : Unit) : Option (Bool) := slices_EqualFunc_____int64_____int64___int64___int64__impl_same_int64__c.f (a0, a1, a2, ())
noncomputable def slices_EqualFunc_____int64_____int64___int64___int64__impl_same_int64__p0  (v1 : List (List Int)) (v15 : List (List Int)) (v16 : Int) (v17 : Int) : Option (Bool) :=
 goL slices_EqualFunc_____int64_____int64___int64___int64__impl_same_int64__D slices_EqualFunc_____int64_____int64___int64___int64__impl_same_int64__H (vleave slices_EqualFunc_____int64_____int64___int64___int64__impl_same_int64__ir [.d (.one (.sl (.one (.sl (.one (.int .i64)))))), .d (.one (.sl (.one (.sl (.one (.int .i64)))))), .fn 662 []] [.d (.one .bool)] [] []) [.c slices_EqualFunc_____int64_____int64___int64___int64__impl_same_int64__k0, .l slices_EqualFunc_____int64_____int64___int64___int64__impl_same_int64__k1, .e 0, .c slices_EqualFunc_____int64_____int64___int64___int64__impl_same_int64__k2]
  ⟨[(1, .sl (.one (.sl (.one (.int .i64)))) v1), (2, .fn 662 []), (15, .sl (.one (.sl (.one (.int .i64)))) v15), (16, .int .i64 v16), (17, .int .i64 v17)], []⟩
theorem slices_EqualFunc_____int64_____int64___int64___int64__impl_same_int64__eq (a0 : List (List Int)) (a1 : List (List Int)) (a2 : Unit) : slices_EqualFunc_____int64_____int64___int64___int64__impl_same_int64_ a0 a1 a2 =
  if ((a0.length : Int) != (a1.length : Int)) then
   some false
  else
   slices_EqualFunc_____int64_____int64___int64___int64__impl_same_int64__p0 a1 a0 (a0.length : Int) 0 :=
 (mk_f _ _ _ _ _ _ _ 4000).trans (by kernel_rfl)
theorem slices_EqualFunc_____int64_____int64___int64___int64__impl_same_int64__p0_eq  (v1 : List (List Int)) (v15 : List (List Int)) (v16 : Int) (v17 : Int) : slices_EqualFunc_____int64_____int64___int64___int64__impl_same_int64__p0 v1 v15 v16 v17 =
  if decide (v17 < v16) then
   if decide (0 ≤ v17) then
    (v15[v17.toNat]?).bind fun x1 =>
     if decide (0 ≤ v17) then
      (v1[v17.toNat]?).bind fun x2 =>
       (impl_same_int64_ x1 x2).bind fun x3 =>
        if (!x3) then
         some false
        else
         slices_EqualFunc_____int64_____int64___int64___int64__impl_same_int64__p0 v1 v15 v16 (IntKind.i64.wrap (v17 + 1))
     else
      none
   else
    none
  else
   some true :=
 (goL_dn _ _ _ 4000 _ _).trans (by kernel_rfl)

/- impl.same[impl.Peg] -/
def impl_same_impl_Peg__k0 : C :=
 .seq (.reg false [.V 14 (.bin .lss (.t 13) (.t 12))] [0, 1, 12, 13, 14] []) (.seq (.cond (.t 14) .skip (.exit 0)) (.seq (.block 1 (.seq (.reg false [.V 15 (.mv (.t 13)), .V 5 (.asg (.t 15))] [0, 1, 5, 12, 13] []) (.seq (.reg true [.V 16 (.mv (.t 0)), .V 17 (.mv (.t 5)), .V 18 (.ia 4 (.t 16) (.t 17)), .V 19 (.ld (some 4) (.t 18)), .V 20 (.mv (.t 1)), .V 21 (.mv (.t 5)), .V 22 (.ia 4 (.t 20) (.t 21)), .V 23 (.ld (some 4) (.t 22)), .V 24 (.eqs true [.s, .i, .i, .i] (.t 19) (.t 23))] [0, 1, 12, 13, 24] []) (.cond (.t 24) (.seq (.reg false [.V 4 (.asg (.c (.bool false)))] [4] []) .ret) .skip)))) (.reg false [.V 25 (.bin .add (.t 13) (.c (.int .i64 1))), .V 13 (.mv (.t 25))] [0, 1, 12, 13] [])))
def impl_same_impl_Peg__k1 : C :=
 .norm [0, 1, 12, 13] [] impl_same_impl_Peg__k0
def impl_same_impl_Peg__k2 : C :=
 .seq (.reg false [.V 4 (.asg (.c (.bool true)))] [4] []) .ret
def impl_same_impl_Peg__ir : Fn := { np := 2, io := [], res := [.t 4], own := [false], body :=
 (.seq (.reg false [.V 4 (.asg (.c (.bool false)))] [0, 1] []) (.seq (.seq (.reg false [.V 6 (.mv (.t 0)), .V 7 (.len (.t 6)), .V 8 (.mv (.t 1)), .V 9 (.len (.t 8)), .V 10 (.bin .neq (.t 7) (.t 9))] [0, 1, 10] []) (.cond (.t 10) (.seq (.reg false [.V 4 (.asg (.c (.bool false)))] [4] []) .ret) .skip)) (.seq (.seq (.reg false [.V 11 (.mv (.t 0)), .V 12 (.len (.t 11)), .V 13 (.mv (.c (.int .i64 0)))] [0, 1, 12, 13] []) (.block 0 (.loop impl_same_impl_Peg__k1))) impl_same_impl_Peg__k2))) }
noncomputable def impl_same_impl_Peg__D : List (Nat × Callee) := []
def impl_same_impl_Peg__H : List (Nat × ET) := [(6, T_Peg), (8, T_Peg), (11, T_Peg), (16, T_Peg), (20, T_Peg)]
noncomputable def impl_same_impl_Peg__c : Callee := mkCallee impl_same_impl_Peg__D impl_same_impl_Peg__H impl_same_impl_Peg__ir [.d (.one (.sl T_Peg)), .d (.one (.sl T_Peg))] [.d (.one .bool)] []
noncomputable def impl_same_impl_Peg_ (a0 : List T_Peg.ty) (a1 : List T_Peg.ty) : Option (Bool) := impl_same_impl_Peg__c.f (a0, a1, ())
noncomputable def impl_same_impl_Peg__p0  (v0 : List T_Peg.ty) (v1 : List T_Peg.ty) (v12 : Int) (v13 : Int) : Option (Bool) :=
 goL impl_same_impl_Peg__D impl_same_impl_Peg__H (vleave impl_same_impl_Peg__ir [.d (.one (.sl T_Peg)), .d (.one (.sl T_Peg))] [.d (.one .bool)] [] []) [.c impl_same_impl_Peg__k0, .l impl_same_impl_Peg__k1, .e 0, .c impl_same_impl_Peg__k2]
  ⟨[(0, .sl T_Peg v0), (1, .sl T_Peg v1), (12, .int .i64 v12), (13, .int .i64 v13)], []⟩
theorem impl_same_impl_Peg__eq (a0 : List T_Peg.ty) (a1 : List T_Peg.ty) : impl_same_impl_Peg_ a0 a1 =
  if ((a0.length : Int) != (a1.length : Int)) then
   some false
  else
   impl_same_impl_Peg__p0 a0 a1 (a0.length : Int) 0 :=
 (mk_f _ _ _ _ _ _ _ 4000).trans (by kernel_rfl)
theorem impl_same_impl_Peg__p0_eq  (v0 : List T_Peg.ty) (v1 : List T_Peg.ty) (v12 : Int) (v13 : Int) : impl_same_impl_Peg__p0 v0 v1 v12 v13 =
  if decide (v13 < v12) then
   if decide (0 ≤ v13) then
    (v0[v13.toNat]?).bind fun x1 =>
     if decide (0 ≤ v13) then
      (v1[v13.toNat]?).bind fun x2 =>
       if (!((x1.1 == x2.1) && ((x1.2.1 == x2.2.1) && ((x1.2.2.1 == x2.2.2.1) && (x1.2.2.2.1 == x2.2.2.2.1))))) then
        some false
       else
        impl_same_impl_Peg__p0 v0 v1 v12 (IntKind.i64.wrap (v13 + 1))
     else
      none
   else
    none
  else
   some true :=
 (goL_dn _ _ _ 4000 _ _).trans (by kernel_rfl)

/- impl.same[impl.Pot] -/
def impl_same_impl_Pot__k0 : C :=
 .seq (.reg false [.V 14 (.bin .lss (.t 13) (.t 12))] [0, 1, 12, 13, 14] []) (.seq (.cond (.t 14) .skip (.exit 0)) (.seq (.block 1 (.seq (.reg false [.V 15 (.mv (.t 13)), .V 5 (.asg (.t 15))] [0, 1, 5, 12, 13] []) (.seq (.reg true [.V 16 (.mv (.t 0)), .V 17 (.mv (.t 5)), .V 18 (.ia 5 (.t 16) (.t 17)), .V 19 (.ld (some 5) (.t 18)), .V 20 (.mv (.t 1)), .V 21 (.mv (.t 5)), .V 22 (.ia 5 (.t 20) (.t 21)), .V 23 (.ld (some 5) (.t 22)), .V 24 (.eqs true [.s, .i, .i, .i, .i] (.t 19) (.t 23))] [0, 1, 12, 13, 24] []) (.cond (.t 24) (.seq (.reg false [.V 4 (.asg (.c (.bool false)))] [4] []) .ret) .skip)))) (.reg false [.V 25 (.bin .add (.t 13) (.c (.int .i64 1))), .V 13 (.mv (.t 25))] [0, 1, 12, 13] [])))
def impl_same_impl_Pot__k1 : C :=
 .norm [0, 1, 12, 13] [] impl_same_impl_Pot__k0
def impl_same_impl_Pot__k2 : C :=
 .seq (.reg false [.V 4 (.asg (.c (.bool true)))] [4] []) .ret
def impl_same_impl_Pot__ir : Fn := { np := 2, io := [], res := [.t 4], own := [false], body :=
 (.seq (.reg false [.V 4 (.asg (.c (.bool false)))] [0, 1] []) (.seq (.seq (.reg false [.V 6 (.mv (.t 0)), .V 7 (.len (.t 6)), .V 8 (.mv (.t 1)), .V 9 (.len (.t 8)), .V 10 (.bin .neq (.t 7) (.t 9))] [0, 1, 10] []) (.cond (.t 10) (.seq (.reg false [.V 4 (.asg (.c (.bool false)))] [4] []) .ret) .skip)) (.seq (.seq (.reg false [.V 11 (.mv (.t 0)), .V 12 (.len (.t 11)), .V 13 (.mv (.c (.int .i64 0)))] [0, 1, 12, 13] []) (.block 0 (.loop impl_same_impl_Pot__k1))) impl_same_impl_Pot__k2))) }
noncomputable def impl_same_impl_Pot__D : List (Nat × Callee) := []
def impl_same_impl_Pot__H : List (Nat × ET) := [(6, T_Pot), (8, T_Pot), (11, T_Pot), (16, T_Pot), (20, T_Pot)]
noncomputable def impl_same_impl_Pot__c : Callee := mkCallee impl_same_impl_Pot__D impl_same_impl_Pot__H impl_same_impl_Pot__ir [.d (.one (.sl T_Pot)), .d (.one (.sl T_Pot))] [.d (.one .bool)] []
noncomputable def impl_same_impl_Pot_ (a0 : List T_Pot.ty) (a1 : List T_Pot.ty) : Option (Bool) := impl_same_impl_Pot__c.f (a0, a1, ())
noncomputable def impl_same_impl_Pot__p0  (v0 : List T_Pot.ty) (v1 : List T_Pot.ty) (v12 : Int) (v13 : Int) : Option (Bool) :=
 goL impl_same_impl_Pot__D impl_same_impl_Pot__H (vleave impl_same_impl_Pot__ir [.d (.one (.sl T_Pot)), .d (.one (.sl T_Pot))] [.d (.one .bool)] [] []) [.c impl_same_impl_Pot__k0, .l impl_same_impl_Pot__k1, .e 0, .c impl_same_impl_Pot__k2]
  ⟨[(0, .sl T_Pot v0), (1, .sl T_Pot v1), (12, .int .i64 v12), (13, .int .i64 v13)], []⟩
theorem impl_same_impl_Pot__eq (a0 : List T_Pot.ty) (a1 : List T_Pot.ty) : impl_same_impl_Pot_ a0 a1 =
  if ((a0.length : Int) != (a1.length : Int)) then
   some false
  else
   impl_same_impl_Pot__p0 a0 a1 (a0.length : Int) 0 :=
 (mk_f _ _ _ _ _ _ _ 4000).trans (by kernel_rfl)
theorem impl_same_impl_Pot__p0_eq  (v0 : List T_Pot.ty) (v1 : List T_Pot.ty) (v12 : Int) (v13 : Int) : impl_same_impl_Pot__p0 v0 v1 v12 v13 =
  if decide (v13 < v12) then
   if decide (0 ≤ v13) then
    (v0[v13.toNat]?).bind fun x1 =>
     if decide (0 ≤ v13) then
      (v1[v13.toNat]?).bind fun x2 =>
       if (!((x1.1 == x2.1) && ((x1.2.1 == x2.2.1) && ((x1.2.2.1 == x2.2.2.1) && ((x1.2.2.2.1 == x2.2.2.2.1) && (x1.2.2.2.2.1 == x2.2.2.2.2.1)))))) then
        some false
       else
        impl_same_impl_Pot__p0 v0 v1 v12 (IntKind.i64.wrap (v13 + 1))
     else
      none
   else
    none
  else
   some true :=
 (goL_dn _ _ _ 4000 _ _).trans (by kernel_rfl)

/- impl.same[impl.Mode] -/
def impl_same_impl_Mode__k0 : C :=
 .seq (.reg false [.V 14 (.bin .lss (.t 13) (.t 12))] [0, 1, 12, 13, 14] []) (.seq (.cond (.t 14) .skip (.exit 0)) (.seq (.block 1 (.seq (.reg false [.V 15 (.mv (.t 13)), .V 5 (.asg (.t 15))] [0, 1, 5, 12, 13] []) (.seq (.reg true [.V 16 (.mv (.t 0)), .V 17 (.mv (.t 5)), .V 18 (.ia 3 (.t 16) (.t 17)), .V 19 (.ld (some 3) (.t 18)), .V 20 (.mv (.t 1)), .V 21 (.mv (.t 5)), .V 22 (.ia 3 (.t 20) (.t 21)), .V 23 (.ld (some 3) (.t 22)), .V 24 (.eqs true [.s, .i, .i] (.t 19) (.t 23))] [0, 1, 12, 13, 24] []) (.cond (.t 24) (.seq (.reg false [.V 4 (.asg (.c (.bool false)))] [4] []) .ret) .skip)))) (.reg false [.V 25 (.bin .add (.t 13) (.c (.int .i64 1))), .V 13 (.mv (.t 25))] [0, 1, 12, 13] [])))
def impl_same_impl_Mode__k1 : C :=
 .norm [0, 1, 12, 13] [] impl_same_impl_Mode__k0
def impl_same_impl_Mode__k2 : C :=
 .seq (.reg false [.V 4 (.asg (.c (.bool true)))] [4] []) .ret
def impl_same_impl_Mode__ir : Fn := { np := 2, io := [], res := [.t 4], own := [false], body :=
 (.seq (.reg false [.V 4 (.asg (.c (.bool false)))] [0, 1] []) (.seq (.seq (.reg false [.V 6 (.mv (.t 0)), .V 7 (.len (.t 6)), .V 8 (.mv (.t 1)), .V 9 (.len (.t 8)), .V 10 (.bin .neq (.t 7) (.t 9))] [0, 1, 10] []) (.cond (.t 10) (.seq (.reg false [.V 4 (.asg (.c (.bool false)))] [4] []) .ret) .skip)) (.seq (.seq (.reg false [.V 11 (.mv (.t 0)), .V 12 (.len (.t 11)), .V 13 (.mv (.c (.int .i64 0)))] [0, 1, 12, 13] []) (.block 0 (.loop impl_same_impl_Mode__k1))) impl_same_impl_Mode__k2))) }
noncomputable def impl_same_impl_Mode__D : List (Nat × Callee) := []
def impl_same_impl_Mode__H : List (Nat × ET) := [(6, T_Mode), (8, T_Mode), (11, T_Mode), (16, T_Mode), (20, T_Mode)]
noncomputable def impl_same_impl_Mode__c : Callee := mkCallee impl_same_impl_Mode__D impl_same_impl_Mode__H impl_same_impl_Mode__ir [.d (.one (.sl T_Mode)), .d (.one (.sl T_Mode))] [.d (.one .bool)] []
noncomputable def impl_same_impl_Mode_ (a0 : List T_Mode.ty) (a1 : List T_Mode.ty) : Option (Bool) := impl_same_impl_Mode__c.f (a0, a1, ())
noncomputable def impl_same_impl_Mode__p0  (v0 : List T_Mode.ty) (v1 : List T_Mode.ty) (v12 : Int) (v13 : Int) : Option (Bool) :=
 goL impl_same_impl_Mode__D impl_same_impl_Mode__H (vleave impl_same_impl_Mode__ir [.d (.one (.sl T_Mode)), .d (.one (.sl T_Mode))] [.d (.one .bool)] [] []) [.c impl_same_impl_Mode__k0, .l impl_same_impl_Mode__k1, .e 0, .c impl_same_impl_Mode__k2]
  ⟨[(0, .sl T_Mode v0), (1, .sl T_Mode v1), (12, .int .i64 v12), (13, .int .i64 v13)], []⟩
theorem impl_same_impl_Mode__eq (a0 : List T_Mode.ty) (a1 : List T_Mode.ty) : impl_same_impl_Mode_ a0 a1 =
  if ((a0.length : Int) != (a1.length : Int)) then
   some false
  else
   impl_same_impl_Mode__p0 a0 a1 (a0.length : Int) 0 :=
 (mk_f _ _ _ _ _ _ _ 4000).trans (by kernel_rfl)
theorem impl_same_impl_Mode__p0_eq  (v0 : List T_Mode.ty) (v1 : List T_Mode.ty) (v12 : Int) (v13 : Int) : impl_same_impl_Mode__p0 v0 v1 v12 v13 =
  if decide (v13 < v12) then
   if decide (0 ≤ v13) then
    (v0[v13.toNat]?).bind fun x1 =>
     if decide (0 ≤ v13) then
      (v1[v13.toNat]?).bind fun x2 =>
       if (!((x1.1 == x2.1) && ((x1.2.1 == x2.2.1) && (x1.2.2.1 == x2.2.2.1)))) then
        some false
       else
        impl_same_impl_Mode__p0 v0 v1 v12 (IntKind.i64.wrap (v13 + 1))
     else
      none
   else
    none
  else
   some true :=
 (goL_dn _ _ _ 4000 _ _).trans (by kernel_rfl)

/- impl.same[impl.Work] -/
def impl_same_impl_Work__k0 : C :=
 .seq (.reg false [.V 14 (.bin .lss (.t 13) (.t 12))] [0, 1, 12, 13, 14] []) (.seq (.cond (.t 14) .skip (.exit 0)) (.seq (.block 1 (.seq (.reg false [.V 15 (.mv (.t 13)), .V 5 (.asg (.t 15))] [0, 1, 5, 12, 13] []) (.seq (.reg true [.V 16 (.mv (.t 0)), .V 17 (.mv (.t 5)), .V 18 (.ia 4 (.t 16) (.t 17)), .V 19 (.ld (some 4) (.t 18)), .V 20 (.mv (.t 1)), .V 21 (.mv (.t 5)), .V 22 (.ia 4 (.t 20) (.t 21)), .V 23 (.ld (some 4) (.t 22)), .V 24 (.eqs true [.s, .i, .i, .i] (.t 19) (.t 23))] [0, 1, 12, 13, 24] []) (.cond (.t 24) (.seq (.reg false [.V 4 (.asg (.c (.bool false)))] [4] []) .ret) .skip)))) (.reg false [.V 25 (.bin .add (.t 13) (.c (.int .i64 1))), .V 13 (.mv (.t 25))] [0, 1, 12, 13] [])))
def impl_same_impl_Work__k1 : C :=
 .norm [0, 1, 12, 13] [] impl_same_impl_Work__k0
def impl_same_impl_Work__k2 : C :=
 .seq (.reg false [.V 4 (.asg (.c (.bool true)))] [4] []) .ret
def impl_same_impl_Work__ir : Fn := { np := 2, io := [], res := [.t 4], own := [false], body :=
 (.seq (.reg false [.V 4 (.asg (.c (.bool false)))] [0, 1] []) (.seq (.seq (.reg false [.V 6 (.mv (.t 0)), .V 7 (.len (.t 6)), .V 8 (.mv (.t 1)), .V 9 (.len (.t 8)), .V 10 (.bin .neq (.t 7) (.t 9))] [0, 1, 10] []) (.cond (.t 10) (.seq (.reg false [.V 4 (.asg (.c (.bool false)))] [4] []) .ret) .skip)) (.seq (.seq (.reg false [.V 11 (.mv (.t 0)), .V 12 (.len (.t 11)), .V 13 (.mv (.c (.int .i64 0)))] [0, 1, 12, 13] []) (.block 0 (.loop impl_same_impl_Work__k1))) impl_same_impl_Work__k2))) }
noncomputable def impl_same_impl_Work__D : List (Nat × Callee) := []
def impl_same_impl_Work__H : List (Nat × ET) := [(6, T_Peg), (8, T_Peg), (11, T_Peg), (16, T_Peg), (20, T_Peg)]
noncomputable def impl_same_impl_Work__c : Callee := mkCallee impl_same_impl_Work__D impl_same_impl_Work__H impl_same_impl_Work__ir [.d (.one (.sl T_Peg)), .d (.one (.sl T_Peg))] [.d (.one .bool)] []
noncomputable def impl_same_impl_Work_ (a0 : List T_Peg.ty) (a1 : List T_Peg.ty) : Option (Bool) := impl_same_impl_Work__c.f (a0, a1, ())
noncomputable def impl_same_impl_Work__p0  (v0 : List T_Peg.ty) (v1 : List T_Peg.ty) (v12 : Int) (v13 : Int) : Option (Bool) :=
 goL impl_same_impl_Work__D impl_same_impl_Work__H (vleave impl_same_impl_Work__ir [.d (.one (.sl T_Peg)), .d (.one (.sl T_Peg))] [.d (.one .bool)] [] []) [.c impl_same_impl_Work__k0, .l impl_same_impl_Work__k1, .e 0, .c impl_same_impl_Work__k2]
  ⟨[(0, .sl T_Peg v0), (1, .sl T_Peg v1), (12, .int .i64 v12), (13, .int .i64 v13)], []⟩
theorem impl_same_impl_Work__eq (a0 : List T_Peg.ty) (a1 : List T_Peg.ty) : impl_same_impl_Work_ a0 a1 =
  if ((a0.length : Int) != (a1.length : Int)) then
   some false
  else
   impl_same_impl_Work__p0 a0 a1 (a0.length : Int) 0 :=
 (mk_f _ _ _ _ _ _ _ 4000).trans (by kernel_rfl)
theorem impl_same_impl_Work__p0_eq  (v0 : List T_Peg.ty) (v1 : List T_Peg.ty) (v12 : Int) (v13 : Int) : impl_same_impl_Work__p0 v0 v1 v12 v13 =
  if decide (v13 < v12) then
   if decide (0 ≤ v13) then
    (v0[v13.toNat]?).bind fun x1 =>
     if decide (0 ≤ v13) then
      (v1[v13.toNat]?).bind fun x2 =>
       if (!((x1.1 == x2.1) && ((x1.2.1 == x2.2.1) && ((x1.2.2.1 == x2.2.2.1) && (x1.2.2.2.1 == x2.2.2.2.1))))) then
        some false
       else
        impl_same_impl_Work__p0 v0 v1 v12 (IntKind.i64.wrap (v13 + 1))
     else
      none
   else
    none
  else
   some true :=
 (goL_dn _ _ _ 4000 _ _).trans (by kernel_rfl)

/- impl.same[impl.Paper] -/
def impl_same_impl_Paper__k0 : C :=
 .seq (.reg false [.V 14 (.bin .lss (.t 13) (.t 12))] [0, 1, 12, 13, 14] []) (.seq (.cond (.t 14) .skip (.exit 0)) (.seq (.block 1 (.seq (.reg false [.V 15 (.mv (.t 13)), .V 5 (.asg (.t 15))] [0, 1, 5, 12, 13] []) (.seq (.reg true [.V 16 (.mv (.t 0)), .V 17 (.mv (.t 5)), .V 18 (.ia 5 (.t 16) (.t 17)), .V 19 (.ld (some 5) (.t 18)), .V 20 (.mv (.t 1)), .V 21 (.mv (.t 5)), .V 22 (.ia 5 (.t 20) (.t 21)), .V 23 (.ld (some 5) (.t 22)), .V 24 (.eqs true [.s, .s, .i, .i, .i] (.t 19) (.t 23))] [0, 1, 12, 13, 24] []) (.cond (.t 24) (.seq (.reg false [.V 4 (.asg (.c (.bool false)))] [4] []) .ret) .skip)))) (.reg false [.V 25 (.bin .add (.t 13) (.c (.int .i64 1))), .V 13 (.mv (.t 25))] [0, 1, 12, 13] [])))
def impl_same_impl_Paper__k1 : C :=
 .norm [0, 1, 12, 13] [] impl_same_impl_Paper__k0
def impl_same_impl_Paper__k2 : C :=
 .seq (.reg false [.V 4 (.asg (.c (.bool true)))] [4] []) .ret
def impl_same_impl_Paper__ir : Fn := { np := 2, io := [], res := [.t 4], own := [false], body :=
 (.seq (.reg false [.V 4 (.asg (.c (.bool false)))] [0, 1] []) (.seq (.seq (.reg false [.V 6 (.mv (.t 0)), .V 7 (.len (.t 6)), .V 8 (.mv (.t 1)), .V 9 (.len (.t 8)), .V 10 (.bin .neq (.t 7) (.t 9))] [0, 1, 10] []) (.cond (.t 10) (.seq (.reg false [.V 4 (.asg (.c (.bool false)))] [4] []) .ret) .skip)) (.seq (.seq (.reg false [.V 11 (.mv (.t 0)), .V 12 (.len (.t 11)), .V 13 (.mv (.c (.int .i64 0)))] [0, 1, 12, 13] []) (.block 0 (.loop impl_same_impl_Paper__k1))) impl_same_impl_Paper__k2))) }
noncomputable def impl_same_impl_Paper__D : List (Nat × Callee) := []
def impl_same_impl_Paper__H : List (Nat × ET) := [(6, T_Paper), (8, T_Paper), (11, T_Paper), (16, T_Paper), (20, T_Paper)]
noncomputable def impl_same_impl_Paper__c : Callee := mkCallee impl_same_impl_Paper__D impl_same_impl_Paper__H impl_same_impl_Paper__ir [.d (.one (.sl T_Paper)), .d (.one (.sl T_Paper))] [.d (.one .bool)] []
noncomputable def impl_same_impl_Paper_ (a0 : List T_Paper.ty) (a1 : List T_Paper.ty) : Option (Bool) := impl_same_impl_Paper__c.f (a0, a1, ())
noncomputable def impl_same_impl_Paper__p0  (v0 : List T_Paper.ty) (v1 : List T_Paper.ty) (v12 : Int) (v13 : Int) : Option (Bool) :=
 goL impl_same_impl_Paper__D impl_same_impl_Paper__H (vleave impl_same_impl_Paper__ir [.d (.one (.sl T_Paper)), .d (.one (.sl T_Paper))] [.d (.one .bool)] [] []) [.c impl_same_impl_Paper__k0, .l impl_same_impl_Paper__k1, .e 0, .c impl_same_impl_Paper__k2]
  ⟨[(0, .sl T_Paper v0), (1, .sl T_Paper v1), (12, .int .i64 v12), (13, .int .i64 v13)], []⟩
theorem impl_same_impl_Paper__eq (a0 : List T_Paper.ty) (a1 : List T_Paper.ty) : impl_same_impl_Paper_ a0 a1 =
  if ((a0.length : Int) != (a1.length : Int)) then
   some false
  else
   impl_same_impl_Paper__p0 a0 a1 (a0.length : Int) 0 :=
 (mk_f _ _ _ _ _ _ _ 4000).trans (by kernel_rfl)
theorem impl_same_impl_Paper__p0_eq  (v0 : List T_Paper.ty) (v1 : List T_Paper.ty) (v12 : Int) (v13 : Int) : impl_same_impl_Paper__p0 v0 v1 v12 v13 =
  if decide (v13 < v12) then
   if decide (0 ≤ v13) then
    (v0[v13.toNat]?).bind fun x1 =>
     if decide (0 ≤ v13) then
      (v1[v13.toNat]?).bind fun x2 =>
       if (!((x1.1 == x2.1) && ((x1.2.1 == x2.2.1) && ((x1.2.2.1 == x2.2.2.1) && ((x1.2.2.2.1 == x2.2.2.2.1) && (x1.2.2.2.2.1 == x2.2.2.2.2.1)))))) then
        some false
       else
        impl_same_impl_Paper__p0 v0 v1 v12 (IntKind.i64.wrap (v13 + 1))
     else
      none
   else
    none
  else
   some true :=
 (goL_dn _ _ _ 4000 _ _).trans (by kernel_rfl)

/- impl.SameDesk -/
def impl_SameDesk_ir : Fn := { np := 2, io := [], res := [.t 4], own := [false], body :=
 (.seq (.reg false [.W 2 (.box 12 (.t 0)), .W 3 (.box 12 (.t 1)), .V 4 (.asg (.c (.bool false)))] [2, 3] [2, 3, 3000, 3001, 3002, 3007, 3008, 3009, 3010, 3011, 4000, 4001, 4002, 4007, 4008, 4009, 4010, 4011]) (.seq (.reg false [.V 5 (.fa 0 (.t 2)), .V 6 (.ld none (.t 5)), .V 7 (.fa 0 (.t 3)), .V 8 (.ld none (.t 7)), .V 9 (.call (.c (.fn 659 [])) [.t 6, .t 8]), .V 10 (.mv (.t 9)), .G 11 (.fa 1 (.t 2)) 5 true, .G 12 (.ld none (.t 11)) 5 true, .G 13 (.fa 1 (.t 3)) 5 true, .G 14 (.ld none (.t 13)) 5 true, .G 15 (.call (.c (.fn 660 [])) [.t 12, .t 14]) 5 true, .V 16 (.pick (.t 10) (.t 15) (.c (.bool false))), .V 17 (.mv (.t 16)), .G 18 (.fa 2 (.t 2)) 12 true, .G 19 (.ld none (.t 18)) 12 true, .G 20 (.fa 2 (.t 3)) 12 true, .G 21 (.ld none (.t 20)) 12 true, .G 22 (.call (.c (.fn 1239 [])) [.t 19, .t 21, .c (.fn 662 [])]) 12 true, .V 23 (.pick (.t 17) (.t 22) (.c (.bool false))), .V 24 (.mv (.t 23)), .G 25 (.fa 3 (.t 2)) 19 true, .G 26 (.ld (some 4) (.t 25)) 19 true, .G 27 (.fa 3 (.t 3)) 19 true, .G 28 (.ld (some 4) (.t 27)) 19 true, .G 29 (.eqs false [.i, .i, .i, .i] (.t 26) (.t 28)) 19 true, .V 30 (.pick (.t 24) (.t 29) (.c (.bool false))), .V 31 (.mv (.t 30)), .G 32 (.fa 7 (.t 2)) 26 true, .G 33 (.ld none (.t 32)) 26 true, .G 34 (.fa 7 (.t 3)) 26 true, .G 35 (.ld none (.t 34)) 26 true, .G 36 (.call (.c (.fn 663 [])) [.t 33, .t 35]) 26 true, .V 37 (.pick (.t 31) (.t 36) (.c (.bool false))), .V 38 (.mv (.t 37)), .G 39 (.fa 8 (.t 2)) 33 true, .G 40 (.ld none (.t 39)) 33 true, .G 41 (.fa 8 (.t 3)) 33 true, .G 42 (.ld none (.t 41)) 33 true, .G 43 (.call (.c (.fn 664 [])) [.t 40, .t 42]) 33 true, .V 44 (.pick (.t 38) (.t 43) (.c (.bool false))), .V 45 (.mv (.t 44)), .G 46 (.fa 9 (.t 2)) 40 true, .G 47 (.ld none (.t 46)) 40 true, .G 48 (.fa 9 (.t 3)) 40 true, .G 49 (.ld none (.t 48)) 40 true, .G 50 (.call (.c (.fn 665 [])) [.t 47, .t 49]) 40 true, .V 51 (.pick (.t 45) (.t 50) (.c (.bool false))), .V 52 (.mv (.t 51)), .G 53 (.fa 10 (.t 2)) 47 true, .G 54 (.ld none (.t 53)) 47 true, .G 55 (.fa 10 (.t 3)) 47 true, .G 56 (.ld none (.t 55)) 47 true, .G 57 (.call (.c (.fn 666 [])) [.t 54, .t 56]) 47 true, .V 58 (.pick (.t 52) (.t 57) (.c (.bool false))), .V 59 (.mv (.t 58)), .G 60 (.fa 11 (.t 2)) 54 true, .G 61 (.ld none (.t 60)) 54 true, .G 62 (.fa 11 (.t 3)) 54 true, .G 63 (.ld none (.t 62)) 54 true, .G 64 (.call (.c (.fn 667 [])) [.t 61, .t 63]) 54 true, .V 65 (.pick (.t 59) (.t 64) (.c (.bool false))), .V 4 (.asg (.t 65))] [4] []) .ret)) }
noncomputable def impl_SameDesk_D : List (Nat × Callee) := [(659, impl_same_impl_Stack__c), (660, impl_same_impl_Rib__c), (662, impl_same_int64__c), (663, impl_same_impl_Peg__c), (664, impl_same_impl_Pot__c), (665, impl_same_impl_Mode__c), (666, impl_same_impl_Work__c), (667, impl_same_impl_Paper__c), (1239, slices_EqualFunc_____int64_____int64___int64___int64__impl_same_int64__c)]
def impl_SameDesk_H : List (Nat × ET) := [(6, T_Peg), (8, T_Peg), (12, T_Mode), (14, T_Mode), (19, (.one (.sl (.one (.int .i64))))), (21, (.one (.sl (.one (.int .i64))))), (33, T_Peg), (35, T_Peg), (40, T_Pot), (42, T_Pot), (47, T_Mode), (49, T_Mode), (54, T_Peg), (56, T_Peg), (61, T_Paper), (63, T_Paper)]
noncomputable def impl_SameDesk_c : Callee := mkCallee impl_SameDesk_D impl_SameDesk_H impl_SameDesk_ir [.d T_Desk, .d T_Desk] [.d (.one .bool)] []
noncomputable def impl_SameDesk (a0 : T_Desk.ty) (a1 : T_Desk.ty) : Option (Bool) := impl_SameDesk_c.f (a0, a1, ())
theorem impl_SameDesk_eq (a0 : T_Desk.ty) (a1 : T_Desk.ty) : impl_SameDesk a0 a1 =
  (impl_same_impl_Stack_ a0.1 a1.1).bind fun x1 =>
   if x1 then
    (impl_same_impl_Rib_ a0.2.1 a1.2.1).bind fun x2 =>
     if x2 then
      (slices_EqualFunc_____int64_____int64___int64___int64__impl_same_int64_ a0.2.2.1 a1.2.2.1 ()).bind fun x3 =>
       if x3 then
        if ((a0.2.2.2.1 == a1.2.2.2.1) && ((a0.2.2.2.2.1 == a1.2.2.2.2.1) && ((a0.2.2.2.2.2.1 == a1.2.2.2.2.2.1) && (a0.2.2.2.2.2.2.1 == a1.2.2.2.2.2.2.1)))) then
         (impl_same_impl_Peg_ a0.2.2.2.2.2.2.2.1 a1.2.2.2.2.2.2.2.1).bind fun x4 =>
          if x4 then
           (impl_same_impl_Pot_ a0.2.2.2.2.2.2.2.2.1 a1.2.2.2.2.2.2.2.2.1).bind fun x5 =>
            if x5 then
             (impl_same_impl_Mode_ a0.2.2.2.2.2.2.2.2.2.1 a1.2.2.2.2.2.2.2.2.2.1).bind fun x6 =>
              if x6 then
               (impl_same_impl_Work_ a0.2.2.2.2.2.2.2.2.2.2.1 a1.2.2.2.2.2.2.2.2.2.2.1).bind fun x7 =>
                if x7 then
                 (impl_same_impl_Paper_ a0.2.2.2.2.2.2.2.2.2.2.2.1 a1.2.2.2.2.2.2.2.2.2.2.2.1).bind fun x8 =>
                  some x8
                else
                 some false
              else
               some false
            else
             some false
          else
           some false
        else
         some false
       else
        some false
     else
      some false
   else
    some false :=
 (mk_f _ _ _ _ _ _ _ 4000).trans (by kernel_rfl)

/- laws.eqStack -/
def laws_eqStack_ir : Fn := { np := 2, io := [], res := [.t 4], own := [false], body :=
 (.seq (.reg false [.W 2 (.box 4 (.t 0)), .W 3 (.box 4 (.t 1)), .V 4 (.asg (.c (.bool false)))] [2, 3] [2, 3]) (.seq (.seq (.reg false [.V 5 (.fa 0 (.t 2)), .V 6 (.ld none (.t 5)), .V 7 (.fa 0 (.t 3)), .V 8 (.ld none (.t 7)), .V 9 (.bin .neq (.t 6) (.t 8))] [2, 3, 9] [2, 3]) (.cond (.t 9) (.seq (.reg false [.V 4 (.asg (.c (.bool false)))] [4] []) .ret) .skip)) (.seq (.seq (.reg false [.V 10 (.fa 1 (.t 2)), .V 11 (.ld none (.t 10)), .V 12 (.fa 1 (.t 3)), .V 13 (.ld none (.t 12)), .V 14 (.bin .neq (.t 11) (.t 13))] [2, 3, 14] [2, 3]) (.cond (.t 14) (.seq (.reg false [.V 4 (.asg (.c (.bool false)))] [4] []) .ret) .skip)) (.seq (.seq (.reg false [.V 15 (.fa 2 (.t 2)), .V 16 (.ld none (.t 15)), .V 17 (.fa 2 (.t 3)), .V 18 (.ld none (.t 17)), .V 19 (.bin .neq (.t 16) (.t 18))] [2, 3, 19] [2, 3]) (.cond (.t 19) (.seq (.reg false [.V 4 (.asg (.c (.bool false)))] [4] []) .ret) .skip)) (.seq (.seq (.reg false [.V 20 (.fa 3 (.t 2)), .V 21 (.ld none (.t 20)), .V 22 (.fa 3 (.t 3)), .V 23 (.ld none (.t 22)), .V 24 (.bin .neq (.t 21) (.t 23))] [24] []) (.cond (.t 24) (.seq (.reg false [.V 4 (.asg (.c (.bool false)))] [4] []) .ret) .skip)) (.seq (.reg false [.V 4 (.asg (.c (.bool true)))] [4] []) .ret)))))) }
noncomputable def laws_eqStack_D : List (Nat × Callee) := []
def laws_eqStack_H : List (Nat × ET) := []
noncomputable def laws_eqStack_c : Callee := mkCallee laws_eqStack_D laws_eqStack_H laws_eqStack_ir [.d T_Peg, .d T_Peg] [.d (.one .bool)] []
noncomputable def laws_eqStack (a0 : T_Peg.ty) (a1 : T_Peg.ty) : Option (Bool) := laws_eqStack_c.f (a0, a1, ())
theorem laws_eqStack_eq (a0 : T_Peg.ty) (a1 : T_Peg.ty) : laws_eqStack a0 a1 =
  if (!(a0.1 == a1.1)) then
   some false
  else
   if (a0.2.1 != a1.2.1) then
    some false
   else
    if (a0.2.2.1 != a1.2.2.1) then
     some false
    else
     if (a0.2.2.2.1 != a1.2.2.2.1) then
      some false
     else
      some true :=
 (mk_f _ _ _ _ _ _ _ 4000).trans (by kernel_rfl)

/- laws.eqStackS -/
def laws_eqStackS_k0 : C :=
 .seq (.seq (.reg false [.V 11 (.mv (.t 5)), .V 12 (.mv (.t 0)), .V 13 (.len (.t 12)), .V 14 (.bin .lss (.t 11) (.t 13))] [0, 1, 5, 14] []) (.cond (.t 14) .skip (.exit 0))) (.seq (.block 1 (.seq (.reg true [.V 17 (.mv (.t 0)), .V 18 (.mv (.t 5)), .V 19 (.ia 4 (.t 17) (.t 18)), .V 20 (.ld (some 4) (.t 19)), .V 21 (.mv (.t 1)), .V 22 (.mv (.t 5)), .V 23 (.ia 4 (.t 21) (.t 22)), .V 24 (.ld (some 4) (.t 23)), .V 25 (.call (.c (.fn 881 [])) [.t 20, .t 24]), .V 26 (.un .not (.t 25))] [0, 1, 5, 26] []) (.cond (.t 26) (.seq (.reg false [.V 4 (.asg (.c (.bool false)))] [4] []) .ret) .skip))) (.reg false [.V 15 (.mv (.t 5)), .V 16 (.bin .add (.t 15) (.c (.int .i64 1))), .V 5 (.asg (.t 16))] [0, 1, 5] []))
def laws_eqStackS_k1 : C :=
 .norm [0, 1, 5] [] laws_eqStackS_k0
def laws_eqStackS_k2 : C :=
 .seq (.reg false [.V 4 (.asg (.c (.bool true)))] [4] []) .ret
def laws_eqStackS_ir : Fn := { np := 2, io := [], res := [.t 4], own := [false], body :=
 (.seq (.reg false [.V 4 (.asg (.c (.bool false)))] [0, 1] []) (.seq (.seq (.reg false [.V 6 (.mv (.t 0)), .V 7 (.len (.t 6)), .V 8 (.mv (.t 1)), .V 9 (.len (.t 8)), .V 10 (.bin .neq (.t 7) (.t 9))] [0, 1, 10] []) (.cond (.t 10) (.seq (.reg false [.V 4 (.asg (.c (.bool false)))] [4] []) .ret) .skip)) (.seq (.seq (.reg false [.V 5 (.asg (.c (.int .i64 0)))] [0, 1, 5] []) (.block 0 (.loop laws_eqStackS_k1))) laws_eqStackS_k2))) }
noncomputable def laws_eqStackS_D : List (Nat × Callee) := [(881, laws_eqStack_c)]
def laws_eqStackS_H : List (Nat × ET) := [(6, T_Peg), (8, T_Peg), (12, T_Peg), (17, T_Peg), (21, T_Peg)]
noncomputable def laws_eqStackS_c : Callee := mkCallee laws_eqStackS_D laws_eqStackS_H laws_eqStackS_ir [.d (.one (.sl T_Peg)), .d (.one (.sl T_Peg))] [.d (.one .bool)] []
noncomputable def laws_eqStackS (a0 : List T_Peg.ty) (a1 : List T_Peg.ty) : Option (Bool) := laws_eqStackS_c.f (a0, a1, ())
noncomputable def laws_eqStackS_p0  (v0 : List T_Peg.ty) (v1 : List T_Peg.ty) (v5 : Int) : Option (Bool) :=
 goL laws_eqStackS_D laws_eqStackS_H (vleave laws_eqStackS_ir [.d (.one (.sl T_Peg)), .d (.one (.sl T_Peg))] [.d (.one .bool)] [] []) [.c laws_eqStackS_k0, .l laws_eqStackS_k1, .e 0, .c laws_eqStackS_k2]
  ⟨[(0, .sl T_Peg v0), (1, .sl T_Peg v1), (5, .int .i64 v5)], []⟩
theorem laws_eqStackS_eq (a0 : List T_Peg.ty) (a1 : List T_Peg.ty) : laws_eqStackS a0 a1 =
  if ((a0.length : Int) != (a1.length : Int)) then
   some false
  else
   laws_eqStackS_p0 a0 a1 0 :=
 (mk_f _ _ _ _ _ _ _ 4000).trans (by kernel_rfl)
theorem laws_eqStackS_p0_eq  (v0 : List T_Peg.ty) (v1 : List T_Peg.ty) (v5 : Int) : laws_eqStackS_p0 v0 v1 v5 =
  if decide (v5 < (v0.length : Int)) then
   if decide (0 ≤ v5) then
    (v0[v5.toNat]?).bind fun x1 =>
     if decide (0 ≤ v5) then
      (v1[v5.toNat]?).bind fun x2 =>
       (laws_eqStack x1 x2).bind fun x3 =>
        if (!x3) then
         some false
        else
         laws_eqStackS_p0 v0 v1 (IntKind.i64.wrap (v5 + 1))
     else
      none
   else
    none
  else
   some true :=
 (goL_dn _ _ _ 4000 _ _).trans (by kernel_rfl)

/- laws.eqRib -/
def laws_eqRib_ir : Fn := { np := 2, io := [], res := [.t 4], own := [false], body :=
 (.seq (.reg false [.W 2 (.box 3 (.t 0)), .W 3 (.box 3 (.t 1)), .V 4 (.asg (.c (.bool false)))] [2, 3] [2, 3]) (.seq (.seq (.reg false [.V 5 (.fa 0 (.t 2)), .V 6 (.ld none (.t 5)), .V 7 (.fa 0 (.t 3)), .V 8 (.ld none (.t 7)), .V 9 (.bin .neq (.t 6) (.t 8))] [2, 3, 9] [2, 3]) (.cond (.t 9) (.seq (.reg false [.V 4 (.asg (.c (.bool false)))] [4] []) .ret) .skip)) (.seq (.seq (.reg false [.V 10 (.fa 1 (.t 2)), .V 11 (.ld none (.t 10)), .V 12 (.fa 1 (.t 3)), .V 13 (.ld none (.t 12)), .V 14 (.bin .neq (.t 11) (.t 13))] [2, 3, 14] [2, 3]) (.cond (.t 14) (.seq (.reg false [.V 4 (.asg (.c (.bool false)))] [4] []) .ret) .skip)) (.seq (.seq (.reg false [.V 15 (.fa 2 (.t 2)), .V 16 (.ld none (.t 15)), .V 17 (.fa 2 (.t 3)), .V 18 (.ld none (.t 17)), .V 19 (.bin .neq (.t 16) (.t 18))] [19] []) (.cond (.t 19) (.seq (.reg false [.V 4 (.asg (.c (.bool false)))] [4] []) .ret) .skip)) (.seq (.reg false [.V 4 (.asg (.c (.bool true)))] [4] []) .ret))))) }
noncomputable def laws_eqRib_D : List (Nat × Callee) := []
def laws_eqRib_H : List (Nat × ET) := []
noncomputable def laws_eqRib_c : Callee := mkCallee laws_eqRib_D laws_eqRib_H laws_eqRib_ir [.d T_Mode, .d T_Mode] [.d (.one .bool)] []
noncomputable def laws_eqRib (a0 : T_Mode.ty) (a1 : T_Mode.ty) : Option (Bool) := laws_eqRib_c.f (a0, a1, ())
theorem laws_eqRib_eq (a0 : T_Mode.ty) (a1 : T_Mode.ty) : laws_eqRib a0 a1 =
  if (!(a0.1 == a1.1)) then
   some false
  else
   if (a0.2.1 != a1.2.1) then
    some false
   else
    if (a0.2.2.1 != a1.2.2.1) then
     some false
    else
     some true :=
 (mk_f _ _ _ _ _ _ _ 4000).trans (by kernel_rfl)

/- laws.eqRibS -/
def laws_eqRibS_k0 : C :=
 .seq (.seq (.reg false [.V 11 (.mv (.t 5)), .V 12 (.mv (.t 0)), .V 13 (.len (.t 12)), .V 14 (.bin .lss (.t 11) (.t 13))] [0, 1, 5, 14] []) (.cond (.t 14) .skip (.exit 0))) (.seq (.block 1 (.seq (.reg true [.V 17 (.mv (.t 0)), .V 18 (.mv (.t 5)), .V 19 (.ia 3 (.t 17) (.t 18)), .V 20 (.ld (some 3) (.t 19)), .V 21 (.mv (.t 1)), .V 22 (.mv (.t 5)), .V 23 (.ia 3 (.t 21) (.t 22)), .V 24 (.ld (some 3) (.t 23)), .V 25 (.call (.c (.fn 882 [])) [.t 20, .t 24]), .V 26 (.un .not (.t 25))] [0, 1, 5, 26] []) (.cond (.t 26) (.seq (.reg false [.V 4 (.asg (.c (.bool false)))] [4] []) .ret) .skip))) (.reg false [.V 15 (.mv (.t 5)), .V 16 (.bin .add (.t 15) (.c (.int .i64 1))), .V 5 (.asg (.t 16))] [0, 1, 5] []))
def laws_eqRibS_k1 : C :=
 .norm [0, 1, 5] [] laws_eqRibS_k0
def laws_eqRibS_k2 : C :=
 .seq (.reg false [.V 4 (.asg (.c (.bool true)))] [4] []) .ret
def laws_eqRibS_ir : Fn := { np := 2, io := [], res := [.t 4], own := [false], body :=
 (.seq (.reg false [.V 4 (.asg (.c (.bool false)))] [0, 1] []) (.seq (.seq (.reg false [.V 6 (.mv (.t 0)), .V 7 (.len (.t 6)), .V 8 (.mv (.t 1)), .V 9 (.len (.t 8)), .V 10 (.bin .neq (.t 7) (.t 9))] [0, 1, 10] []) (.cond (.t 10) (.seq (.reg false [.V 4 (.asg (.c (.bool false)))] [4] []) .ret) .skip)) (.seq (.seq (.reg false [.V 5 (.asg (.c (.int .i64 0)))] [0, 1, 5] []) (.block 0 (.loop laws_eqRibS_k1))) laws_eqRibS_k2))) }
noncomputable def laws_eqRibS_D : List (Nat × Callee) := [(882, laws_eqRib_c)]
def laws_eqRibS_H : List (Nat × ET) := [(6, T_Mode), (8, T_Mode), (12, T_Mode), (17, T_Mode), (21, T_Mode)]
noncomputable def laws_eqRibS_c : Callee := mkCallee laws_eqRibS_D laws_eqRibS_H laws_eqRibS_ir [.d (.one (.sl T_Mode)), .d (.one (.sl T_Mode))] [.d (.one .bool)] []
noncomputable def laws_eqRibS (a0 : List T_Mode.ty) (a1 : List T_Mode.ty) : Option (Bool) := laws_eqRibS_c.f (a0, a1, ())
noncomputable def laws_eqRibS_p0  (v0 : List T_Mode.ty) (v1 : List T_Mode.ty) (v5 : Int) : Option (Bool) :=
 goL laws_eqRibS_D laws_eqRibS_H (vleave laws_eqRibS_ir [.d (.one (.sl T_Mode)), .d (.one (.sl T_Mode))] [.d (.one .bool)] [] []) [.c laws_eqRibS_k0, .l laws_eqRibS_k1, .e 0, .c laws_eqRibS_k2]
  ⟨[(0, .sl T_Mode v0), (1, .sl T_Mode v1), (5, .int .i64 v5)], []⟩
theorem laws_eqRibS_eq (a0 : List T_Mode.ty) (a1 : List T_Mode.ty) : laws_eqRibS a0 a1 =
  if ((a0.length : Int) != (a1.length : Int)) then
   some false
  else
   laws_eqRibS_p0 a0 a1 0 :=
 (mk_f _ _ _ _ _ _ _ 4000).trans (by kernel_rfl)
theorem laws_eqRibS_p0_eq  (v0 : List T_Mode.ty) (v1 : List T_Mode.ty) (v5 : Int) : laws_eqRibS_p0 v0 v1 v5 =
  if decide (v5 < (v0.length : Int)) then
   if decide (0 ≤ v5) then
    (v0[v5.toNat]?).bind fun x1 =>
     if decide (0 ≤ v5) then
      (v1[v5.toNat]?).bind fun x2 =>
       (laws_eqRib x1 x2).bind fun x3 =>
        if (!x3) then
         some false
        else
         laws_eqRibS_p0 v0 v1 (IntKind.i64.wrap (v5 + 1))
     else
      none
   else
    none
  else
   some true :=
 (goL_dn _ _ _ 4000 _ _).trans (by kernel_rfl)

/- laws.eqInt64S -/
def laws_eqInt64S_k0 : C :=
 .seq (.seq (.reg false [.V 11 (.mv (.t 5)), .V 12 (.mv (.t 0)), .V 13 (.len (.t 12)), .V 14 (.bin .lss (.t 11) (.t 13))] [0, 1, 5, 14] []) (.cond (.t 14) .skip (.exit 0))) (.seq (.block 1 (.seq (.reg true [.V 17 (.mv (.t 0)), .V 18 (.mv (.t 5)), .V 19 (.ia 1 (.t 17) (.t 18)), .V 20 (.ld none (.t 19)), .V 21 (.mv (.t 1)), .V 22 (.mv (.t 5)), .V 23 (.ia 1 (.t 21) (.t 22)), .V 24 (.ld none (.t 23)), .V 25 (.bin .neq (.t 20) (.t 24))] [0, 1, 5, 25] []) (.cond (.t 25) (.seq (.reg false [.V 4 (.asg (.c (.bool false)))] [4] []) .ret) .skip))) (.reg false [.V 15 (.mv (.t 5)), .V 16 (.bin .add (.t 15) (.c (.int .i64 1))), .V 5 (.asg (.t 16))] [0, 1, 5] []))
def laws_eqInt64S_k1 : C :=
 .norm [0, 1, 5] [] laws_eqInt64S_k0
def laws_eqInt64S_k2 : C :=
 .seq (.reg false [.V 4 (.asg (.c (.bool true)))] [4] []) .ret
def laws_eqInt64S_ir : Fn := { np := 2, io := [], res := [.t 4], own := [false], body :=
 (.seq (.reg false [.V 4 (.asg (.c (.bool false)))] [0, 1] []) (.seq (.seq (.reg false [.V 6 (.mv (.t 0)), .V 7 (.len (.t 6)), .V 8 (.mv (.t 1)), .V 9 (.len (.t 8)), .V 10 (.bin .neq (.t 7) (.t 9))] [0, 1, 10] []) (.cond (.t 10) (.seq (.reg false [.V 4 (.asg (.c (.bool false)))] [4] []) .ret) .skip)) (.seq (.seq (.reg false [.V 5 (.asg (.c (.int .i64 0)))] [0, 1, 5] []) (.block 0 (.loop laws_eqInt64S_k1))) laws_eqInt64S_k2))) }
noncomputable def laws_eqInt64S_D : List (Nat × Callee) := []
def laws_eqInt64S_H : List (Nat × ET) := [(6, (.one (.int .i64))), (8, (.one (.int .i64))), (12, (.one (.int .i64))), (17, (.one (.int .i64))), (21, (.one (.int .i64)))]
noncomputable def laws_eqInt64S_c : Callee := mkCallee laws_eqInt64S_D laws_eqInt64S_H laws_eqInt64S_ir [.d (.one (.sl (.one (.int .i64)))), .d (.one (.sl (.one (.int .i64))))] [.d (.one .bool)] []
noncomputable def laws_eqInt64S (a0 : List Int) (a1 : List Int) : Option (Bool) := laws_eqInt64S_c.f (a0, a1, ())
noncomputable def laws_eqInt64S_p0  (v0 : List Int) (v1 : List Int) (v5 : Int) : Option (Bool) :=
 goL laws_eqInt64S_D laws_eqInt64S_H (vleave laws_eqInt64S_ir [.d (.one (.sl (.one (.int .i64)))), .d (.one (.sl (.one (.int .i64))))] [.d (.one .bool)] [] []) [.c laws_eqInt64S_k0, .l laws_eqInt64S_k1, .e 0, .c laws_eqInt64S_k2]
  ⟨[(0, .sl (.one (.int .i64)) v0), (1, .sl (.one (.int .i64)) v1), (5, .int .i64 v5)], []⟩
theorem laws_eqInt64S_eq (a0 : List Int) (a1 : List Int) : laws_eqInt64S a0 a1 =
  if ((a0.length : Int) != (a1.length : Int)) then
   some false
  else
   laws_eqInt64S_p0 a0 a1 0 :=
 (mk_f _ _ _ _ _ _ _ 4000).trans (by kernel_rfl)
theorem laws_eqInt64S_p0_eq  (v0 : List Int) (v1 : List Int) (v5 : Int) : laws_eqInt64S_p0 v0 v1 v5 =
  if decide (v5 < (v0.length : Int)) then
   if decide (0 ≤ v5) then
    (v0[v5.toNat]?).bind fun x1 =>
     if decide (0 ≤ v5) then
      (v1[v5.toNat]?).bind fun x2 =>
       if (x1 != x2) then
        some false
       else
        laws_eqInt64S_p0 v0 v1 (IntKind.i64.wrap (v5 + 1))
     else
      none
   else
    none
  else
   some true :=
 (goL_dn _ _ _ 4000 _ _).trans (by kernel_rfl)

/- laws.eqInt64SS -/
def laws_eqInt64SS_k0 : C :=
 .seq (.seq (.reg false [.V 11 (.mv (.t 5)), .V 12 (.mv (.t 0)), .V 13 (.len (.t 12)), .V 14 (.bin .lss (.t 11) (.t 13))] [0, 1, 5, 14] []) (.cond (.t 14) .skip (.exit 0))) (.seq (.block 1 (.seq (.reg true [.V 17 (.mv (.t 0)), .V 18 (.mv (.t 5)), .V 19 (.ia 1 (.t 17) (.t 18)), .V 20 (.ld none (.t 19)), .V 21 (.mv (.t 1)), .V 22 (.mv (.t 5)), .V 23 (.ia 1 (.t 21) (.t 22)), .V 24 (.ld none (.t 23)), .V 25 (.call (.c (.fn 42 [])) [.t 20, .t 24]), .V 26 (.un .not (.t 25))] [0, 1, 5, 26] []) (.cond (.t 26) (.seq (.reg false [.V 4 (.asg (.c (.bool false)))] [4] []) .ret) .skip))) (.reg false [.V 15 (.mv (.t 5)), .V 16 (.bin .add (.t 15) (.c (.int .i64 1))), .V 5 (.asg (.t 16))] [0, 1, 5] []))
def laws_eqInt64SS_k1 : C :=
 .norm [0, 1, 5] [] laws_eqInt64SS_k0
def laws_eqInt64SS_k2 : C :=
 .seq (.reg false [.V 4 (.asg (.c (.bool true)))] [4] []) .ret
def laws_eqInt64SS_ir : Fn := { np := 2, io := [], res := [.t 4], own := [false], body :=
 (.seq (.reg false [.V 4 (.asg (.c (.bool false)))] [0, 1] []) (.seq (.seq (.reg false [.V 6 (.mv (.t 0)), .V 7 (.len (.t 6)), .V 8 (.mv (.t 1)), .V 9 (.len (.t 8)), .V 10 (.bin .neq (.t 7) (.t 9))] [0, 1, 10] []) (.cond (.t 10) (.seq (.reg false [.V 4 (.asg (.c (.bool false)))] [4] []) .ret) .skip)) (.seq (.seq (.reg false [.V 5 (.asg (.c (.int .i64 0)))] [0, 1, 5] []) (.block 0 (.loop laws_eqInt64SS_k1))) laws_eqInt64SS_k2))) }
noncomputable def laws_eqInt64SS_D : List (Nat × Callee) := [(42, laws_eqInt64S_c)]
def laws_eqInt64SS_H : List (Nat × ET) := [(6, (.one (.sl (.one (.int .i64))))), (8, (.one (.sl (.one (.int .i64))))), (12, (.one (.sl (.one (.int .i64))))), (17, (.one (.sl (.one (.int .i64))))), (20, (.one (.int .i64))), (21, (.one (.sl (.one (.int .i64))))), (24, (.one (.int .i64)))]
noncomputable def laws_eqInt64SS_c : Callee := mkCallee laws_eqInt64SS_D laws_eqInt64SS_H laws_eqInt64SS_ir [.d (.one (.sl (.one (.sl (.one (.int .i64)))))), .d (.one (.sl (.one (.sl (.one (.int .i64))))))] [.d (.one .bool)] []
noncomputable def laws_eqInt64SS (a0 : List (List Int)) (a1 : List (List Int)) : Option (Bool) := laws_eqInt64SS_c.f (a0, a1, ())
noncomputable def laws_eqInt64SS_p0  (v0 : List (List Int)) (v1 : List (List Int)) (v5 : Int) : Option (Bool) :=
 goL laws_eqInt64SS_D laws_eqInt64SS_H (vleave laws_eqInt64SS_ir [.d (.one (.sl (.one (.sl (.one (.int .i64)))))), .d (.one (.sl (.one (.sl (.one (.int .i64))))))] [.d (.one .bool)] [] []) [.c laws_eqInt64SS_k0, .l laws_eqInt64SS_k1, .e 0, .c laws_eqInt64SS_k2]
  ⟨[(0, .sl (.one (.sl (.one (.int .i64)))) v0), (1, .sl (.one (.sl (.one (.int .i64)))) v1), (5, .int .i64 v5)], []⟩
theorem laws_eqInt64SS_eq (a0 : List (List Int)) (a1 : List (List Int)) : laws_eqInt64SS a0 a1 =
  if ((a0.length : Int) != (a1.length : Int)) then
   some false
  else
   laws_eqInt64SS_p0 a0 a1 0 :=
 (mk_f _ _ _ _ _ _ _ 4000).trans (by kernel_rfl)
theorem laws_eqInt64SS_p0_eq  (v0 : List (List Int)) (v1 : List (List Int)) (v5 : Int) : laws_eqInt64SS_p0 v0 v1 v5 =
  if decide (v5 < (v0.length : Int)) then
   if decide (0 ≤ v5) then
    (v0[v5.toNat]?).bind fun x1 =>
     if decide (0 ≤ v5) then
      (v1[v5.toNat]?).bind fun x2 =>
       (laws_eqInt64S x1 x2).bind fun x3 =>
        if (!x3) then
         some false
        else
         laws_eqInt64SS_p0 v0 v1 (IntKind.i64.wrap (v5 + 1))
     else
      none
   else
    none
  else
   some true :=
 (goL_dn _ _ _ 4000 _ _).trans (by kernel_rfl)

/- laws.eqNeck -/
def laws_eqNeck_ir : Fn := { np := 2, io := [], res := [.t 4], own := [false], body :=
 (.seq (.reg false [.W 2 (.box 4 (.t 0)), .W 3 (.box 4 (.t 1)), .V 4 (.asg (.c (.bool false)))] [2, 3] [2, 3]) (.seq (.seq (.reg false [.V 5 (.fa 0 (.t 2)), .V 6 (.ld none (.t 5)), .V 7 (.fa 0 (.t 3)), .V 8 (.ld none (.t 7)), .V 9 (.bin .neq (.t 6) (.t 8))] [2, 3, 9] [2, 3]) (.cond (.t 9) (.seq (.reg false [.V 4 (.asg (.c (.bool false)))] [4] []) .ret) .skip)) (.seq (.seq (.reg false [.V 10 (.fa 1 (.t 2)), .V 11 (.ld none (.t 10)), .V 12 (.fa 1 (.t 3)), .V 13 (.ld none (.t 12)), .V 14 (.bin .neq (.t 11) (.t 13))] [2, 3, 14] [2, 3]) (.cond (.t 14) (.seq (.reg false [.V 4 (.asg (.c (.bool false)))] [4] []) .ret) .skip)) (.seq (.seq (.reg false [.V 15 (.fa 2 (.t 2)), .V 16 (.ld none (.t 15)), .V 17 (.fa 2 (.t 3)), .V 18 (.ld none (.t 17)), .V 19 (.bin .neq (.t 16) (.t 18))] [2, 3, 19] [2, 3]) (.cond (.t 19) (.seq (.reg false [.V 4 (.asg (.c (.bool false)))] [4] []) .ret) .skip)) (.seq (.seq (.reg false [.V 20 (.fa 3 (.t 2)), .V 21 (.ld none (.t 20)), .V 22 (.fa 3 (.t 3)), .V 23 (.ld none (.t 22)), .V 24 (.bin .neq (.t 21) (.t 23))] [24] []) (.cond (.t 24) (.seq (.reg false [.V 4 (.asg (.c (.bool false)))] [4] []) .ret) .skip)) (.seq (.reg false [.V 4 (.asg (.c (.bool true)))] [4] []) .ret)))))) }
noncomputable def laws_eqNeck_D : List (Nat × Callee) := []
def laws_eqNeck_H : List (Nat × ET) := []
noncomputable def laws_eqNeck_c : Callee := mkCallee laws_eqNeck_D laws_eqNeck_H laws_eqNeck_ir [.d T_Neck, .d T_Neck] [.d (.one .bool)] []
noncomputable def laws_eqNeck (a0 : T_Neck.ty) (a1 : T_Neck.ty) : Option (Bool) := laws_eqNeck_c.f (a0, a1, ())
theorem laws_eqNeck_eq (a0 : T_Neck.ty) (a1 : T_Neck.ty) : laws_eqNeck a0 a1 =
  if (a0.1 != a1.1) then
   some false
  else
   if (a0.2.1 != a1.2.1) then
    some false
   else
    if (a0.2.2.1 != a1.2.2.1) then
     some false
    else
     if (a0.2.2.2.1 != a1.2.2.2.1) then
      some false
     else
      some true :=
 (mk_f _ _ _ _ _ _ _ 4000).trans (by kernel_rfl)

/- laws.eqPeg -/
def laws_eqPeg_ir : Fn := { np := 2, io := [], res := [.t 4], own := [false], body :=
 (.seq (.reg false [.W 2 (.box 4 (.t 0)), .W 3 (.box 4 (.t 1)), .V 4 (.asg (.c (.bool false)))] [2, 3] [2, 3]) (.seq (.seq (.reg false [.V 5 (.fa 0 (.t 2)), .V 6 (.ld none (.t 5)), .V 7 (.fa 0 (.t 3)), .V 8 (.ld none (.t 7)), .V 9 (.bin .neq (.t 6) (.t 8))] [2, 3, 9] [2, 3]) (.cond (.t 9) (.seq (.reg false [.V 4 (.asg (.c (.bool false)))] [4] []) .ret) .skip)) (.seq (.seq (.reg false [.V 10 (.fa 1 (.t 2)), .V 11 (.ld none (.t 10)), .V 12 (.fa 1 (.t 3)), .V 13 (.ld none (.t 12)), .V 14 (.bin .neq (.t 11) (.t 13))] [2, 3, 14] [2, 3]) (.cond (.t 14) (.seq (.reg false [.V 4 (.asg (.c (.bool false)))] [4] []) .ret) .skip)) (.seq (.seq (.reg false [.V 15 (.fa 2 (.t 2)), .V 16 (.ld none (.t 15)), .V 17 (.fa 2 (.t 3)), .V 18 (.ld none (.t 17)), .V 19 (.bin .neq (.t 16) (.t 18))] [2, 3, 19] [2, 3]) (.cond (.t 19) (.seq (.reg false [.V 4 (.asg (.c (.bool false)))] [4] []) .ret) .skip)) (.seq (.seq (.reg false [.V 20 (.fa 3 (.t 2)), .V 21 (.ld none (.t 20)), .V 22 (.fa 3 (.t 3)), .V 23 (.ld none (.t 22)), .V 24 (.bin .neq (.t 21) (.t 23))] [24] []) (.cond (.t 24) (.seq (.reg false [.V 4 (.asg (.c (.bool false)))] [4] []) .ret) .skip)) (.seq (.reg false [.V 4 (.asg (.c (.bool true)))] [4] []) .ret)))))) }
noncomputable def laws_eqPeg_D : List (Nat × Callee) := []
def laws_eqPeg_H : List (Nat × ET) := []
noncomputable def laws_eqPeg_c : Callee := mkCallee laws_eqPeg_D laws_eqPeg_H laws_eqPeg_ir [.d T_Peg, .d T_Peg] [.d (.one .bool)] []
noncomputable def laws_eqPeg (a0 : T_Peg.ty) (a1 : T_Peg.ty) : Option (Bool) := laws_eqPeg_c.f (a0, a1, ())
theorem laws_eqPeg_eq (a0 : T_Peg.ty) (a1 : T_Peg.ty) : laws_eqPeg a0 a1 =
  if (!(a0.1 == a1.1)) then
   some false
  else
   if (a0.2.1 != a1.2.1) then
    some false
   else
    if (a0.2.2.1 != a1.2.2.1) then
     some false
    else
     if (a0.2.2.2.1 != a1.2.2.2.1) then
      some false
     else
      some true :=
 (mk_f _ _ _ _ _ _ _ 4000).trans (by kernel_rfl)

/- laws.eqPegS -/
def laws_eqPegS_k0 : C :=
 .seq (.seq (.reg false [.V 11 (.mv (.t 5)), .V 12 (.mv (.t 0)), .V 13 (.len (.t 12)), .V 14 (.bin .lss (.t 11) (.t 13))] [0, 1, 5, 14] []) (.cond (.t 14) .skip (.exit 0))) (.seq (.block 1 (.seq (.reg true [.V 17 (.mv (.t 0)), .V 18 (.mv (.t 5)), .V 19 (.ia 4 (.t 17) (.t 18)), .V 20 (.ld (some 4) (.t 19)), .V 21 (.mv (.t 1)), .V 22 (.mv (.t 5)), .V 23 (.ia 4 (.t 21) (.t 22)), .V 24 (.ld (some 4) (.t 23)), .V 25 (.call (.c (.fn 502 [])) [.t 20, .t 24]), .V 26 (.un .not (.t 25))] [0, 1, 5, 26] []) (.cond (.t 26) (.seq (.reg false [.V 4 (.asg (.c (.bool false)))] [4] []) .ret) .skip))) (.reg false [.V 15 (.mv (.t 5)), .V 16 (.bin .add (.t 15) (.c (.int .i64 1))), .V 5 (.asg (.t 16))] [0, 1, 5] []))
def laws_eqPegS_k1 : C :=
 .norm [0, 1, 5] [] laws_eqPegS_k0
def laws_eqPegS_k2 : C :=
 .seq (.reg false [.V 4 (.asg (.c (.bool true)))] [4] []) .ret
def laws_eqPegS_ir : Fn := { np := 2, io := [], res := [.t 4], own := [false], body :=
 (.seq (.reg false [.V 4 (.asg (.c (.bool false)))] [0, 1] []) (.seq (.seq (.reg false [.V 6 (.mv (.t 0)), .V 7 (.len (.t 6)), .V 8 (.mv (.t 1)), .V 9 (.len (.t 8)), .V 10 (.bin .neq (.t 7) (.t 9))] [0, 1, 10] []) (.cond (.t 10) (.seq (.reg false [.V 4 (.asg (.c (.bool false)))] [4] []) .ret) .skip)) (.seq (.seq (.reg false [.V 5 (.asg (.c (.int .i64 0)))] [0, 1, 5] []) (.block 0 (.loop laws_eqPegS_k1))) laws_eqPegS_k2))) }
noncomputable def laws_eqPegS_D : List (Nat × Callee) := [(502, laws_eqPeg_c)]
def laws_eqPegS_H : List (Nat × ET) := [(6, T_Peg), (8, T_Peg), (12, T_Peg), (17, T_Peg), (21, T_Peg)]
noncomputable def laws_eqPegS_c : Callee := mkCallee laws_eqPegS_D laws_eqPegS_H laws_eqPegS_ir [.d (.one (.sl T_Peg)), .d (.one (.sl T_Peg))] [.d (.one .bool)] []
noncomputable def laws_eqPegS (a0 : List T_Peg.ty) (a1 : List T_Peg.ty) : Option (Bool) := laws_eqPegS_c.f (a0, a1, ())
noncomputable def laws_eqPegS_p0  (v0 : List T_Peg.ty) (v1 : List T_Peg.ty) (v5 : Int) : Option (Bool) :=
 goL laws_eqPegS_D laws_eqPegS_H (vleave laws_eqPegS_ir [.d (.one (.sl T_Peg)), .d (.one (.sl T_Peg))] [.d (.one .bool)] [] []) [.c laws_eqPegS_k0, .l laws_eqPegS_k1, .e 0, .c laws_eqPegS_k2]
  ⟨[(0, .sl T_Peg v0), (1, .sl T_Peg v1), (5, .int .i64 v5)], []⟩
theorem laws_eqPegS_eq (a0 : List T_Peg.ty) (a1 : List T_Peg.ty) : laws_eqPegS a0 a1 =
  if ((a0.length : Int) != (a1.length : Int)) then
   some false
  else
   laws_eqPegS_p0 a0 a1 0 :=
 (mk_f _ _ _ _ _ _ _ 4000).trans (by kernel_rfl)
theorem laws_eqPegS_p0_eq  (v0 : List T_Peg.ty) (v1 : List T_Peg.ty) (v5 : Int) : laws_eqPegS_p0 v0 v1 v5 =
  if decide (v5 < (v0.length : Int)) then
   if decide (0 ≤ v5) then
    (v0[v5.toNat]?).bind fun x1 =>
     if decide (0 ≤ v5) then
      (v1[v5.toNat]?).bind fun x2 =>
       (laws_eqPeg x1 x2).bind fun x3 =>
        if (!x3) then
         some false
        else
         laws_eqPegS_p0 v0 v1 (IntKind.i64.wrap (v5 + 1))
     else
      none
   else
    none
  else
   some true :=
 (goL_dn _ _ _ 4000 _ _).trans (by kernel_rfl)

/- laws.eqPot -/
def laws_eqPot_ir : Fn := { np := 2, io := [], res := [.t 4], own := [false], body :=
 (.seq (.reg false [.W 2 (.box 5 (.t 0)), .W 3 (.box 5 (.t 1)), .V 4 (.asg (.c (.bool false)))] [2, 3] [2, 3]) (.seq (.seq (.reg false [.V 5 (.fa 0 (.t 2)), .V 6 (.ld none (.t 5)), .V 7 (.fa 0 (.t 3)), .V 8 (.ld none (.t 7)), .V 9 (.bin .neq (.t 6) (.t 8))] [2, 3, 9] [2, 3]) (.cond (.t 9) (.seq (.reg false [.V 4 (.asg (.c (.bool false)))] [4] []) .ret) .skip)) (.seq (.seq (.reg false [.V 10 (.fa 1 (.t 2)), .V 11 (.ld none (.t 10)), .V 12 (.fa 1 (.t 3)), .V 13 (.ld none (.t 12)), .V 14 (.bin .neq (.t 11) (.t 13))] [2, 3, 14] [2, 3]) (.cond (.t 14) (.seq (.reg false [.V 4 (.asg (.c (.bool false)))] [4] []) .ret) .skip)) (.seq (.seq (.reg false [.V 15 (.fa 2 (.t 2)), .V 16 (.ld none (.t 15)), .V 17 (.fa 2 (.t 3)), .V 18 (.ld none (.t 17)), .V 19 (.bin .neq (.t 16) (.t 18))] [2, 3, 19] [2, 3]) (.cond (.t 19) (.seq (.reg false [.V 4 (.asg (.c (.bool false)))] [4] []) .ret) .skip)) (.seq (.seq (.reg false [.V 20 (.fa 3 (.t 2)), .V 21 (.ld none (.t 20)), .V 22 (.fa 3 (.t 3)), .V 23 (.ld none (.t 22)), .V 24 (.bin .neq (.t 21) (.t 23))] [2, 3, 24] [2, 3]) (.cond (.t 24) (.seq (.reg false [.V 4 (.asg (.c (.bool false)))] [4] []) .ret) .skip)) (.seq (.seq (.reg false [.V 25 (.fa 4 (.t 2)), .V 26 (.ld none (.t 25)), .V 27 (.fa 4 (.t 3)), .V 28 (.ld none (.t 27)), .V 29 (.bin .neq (.t 26) (.t 28))] [29] []) (.cond (.t 29) (.seq (.reg false [.V 4 (.asg (.c (.bool false)))] [4] []) .ret) .skip)) (.seq (.reg false [.V 4 (.asg (.c (.bool true)))] [4] []) .ret))))))) }
noncomputable def laws_eqPot_D : List (Nat × Callee) := []
def laws_eqPot_H : List (Nat × ET) := []
noncomputable def laws_eqPot_c : Callee := mkCallee laws_eqPot_D laws_eqPot_H laws_eqPot_ir [.d T_Pot, .d T_Pot] [.d (.one .bool)] []
noncomputable def laws_eqPot (a0 : T_Pot.ty) (a1 : T_Pot.ty) : Option (Bool) := laws_eqPot_c.f (a0, a1, ())
theorem laws_eqPot_eq (a0 : T_Pot.ty) (a1 : T_Pot.ty) : laws_eqPot a0 a1 =
  if (!(a0.1 == a1.1)) then
   some false
  else
   if (a0.2.1 != a1.2.1) then
    some false
   else
    if (a0.2.2.1 != a1.2.2.1) then
     some false
    else
     if (a0.2.2.2.1 != a1.2.2.2.1) then
      some false
     else
      if (a0.2.2.2.2.1 != a1.2.2.2.2.1) then
       some false
      else
       some true :=
 (mk_f _ _ _ _ _ _ _ 4000).trans (by kernel_rfl)

/- laws.eqPotS -/
def laws_eqPotS_k0 : C :=
 .seq (.seq (.reg false [.V 11 (.mv (.t 5)), .V 12 (.mv (.t 0)), .V 13 (.len (.t 12)), .V 14 (.bin .lss (.t 11) (.t 13))] [0, 1, 5, 14] []) (.cond (.t 14) .skip (.exit 0))) (.seq (.block 1 (.seq (.reg true [.V 17 (.mv (.t 0)), .V 18 (.mv (.t 5)), .V 19 (.ia 5 (.t 17) (.t 18)), .V 20 (.ld (some 5) (.t 19)), .V 21 (.mv (.t 1)), .V 22 (.mv (.t 5)), .V 23 (.ia 5 (.t 21) (.t 22)), .V 24 (.ld (some 5) (.t 23)), .V 25 (.call (.c (.fn 58 [])) [.t 20, .t 24]), .V 26 (.un .not (.t 25))] [0, 1, 5, 26] []) (.cond (.t 26) (.seq (.reg false [.V 4 (.asg (.c (.bool false)))] [4] []) .ret) .skip))) (.reg false [.V 15 (.mv (.t 5)), .V 16 (.bin .add (.t 15) (.c (.int .i64 1))), .V 5 (.asg (.t 16))] [0, 1, 5] []))
def laws_eqPotS_k1 : C :=
 .norm [0, 1, 5] [] laws_eqPotS_k0
def laws_eqPotS_k2 : C :=
 .seq (.reg false [.V 4 (.asg (.c (.bool true)))] [4] []) .ret
def laws_eqPotS_ir : Fn := { np := 2, io := [], res := [.t 4], own := [false], body :=
 (.seq (.reg false [.V 4 (.asg (.c (.bool false)))] [0, 1] []) (.seq (.seq (.reg false [.V 6 (.mv (.t 0)), .V 7 (.len (.t 6)), .V 8 (.mv (.t 1)), .V 9 (.len (.t 8)), .V 10 (.bin .neq (.t 7) (.t 9))] [0, 1, 10] []) (.cond (.t 10) (.seq (.reg false [.V 4 (.asg (.c (.bool false)))] [4] []) .ret) .skip)) (.seq (.seq (.reg false [.V 5 (.asg (.c (.int .i64 0)))] [0, 1, 5] []) (.block 0 (.loop laws_eqPotS_k1))) laws_eqPotS_k2))) }
noncomputable def laws_eqPotS_D : List (Nat × Callee) := [(58, laws_eqPot_c)]
def laws_eqPotS_H : List (Nat × ET) := [(6, T_Pot), (8, T_Pot), (12, T_Pot), (17, T_Pot), (21, T_Pot)]
noncomputable def laws_eqPotS_c : Callee := mkCallee laws_eqPotS_D laws_eqPotS_H laws_eqPotS_ir [.d (.one (.sl T_Pot)), .d (.one (.sl T_Pot))] [.d (.one .bool)] []
noncomputable def laws_eqPotS (a0 : List T_Pot.ty) (a1 : List T_Pot.ty) : Option (Bool) := laws_eqPotS_c.f (a0, a1, ())
noncomputable def laws_eqPotS_p0  (v0 : List T_Pot.ty) (v1 : List T_Pot.ty) (v5 : Int) : Option (Bool) :=
 goL laws_eqPotS_D laws_eqPotS_H (vleave laws_eqPotS_ir [.d (.one (.sl T_Pot)), .d (.one (.sl T_Pot))] [.d (.one .bool)] [] []) [.c laws_eqPotS_k0, .l laws_eqPotS_k1, .e 0, .c laws_eqPotS_k2]
  ⟨[(0, .sl T_Pot v0), (1, .sl T_Pot v1), (5, .int .i64 v5)], []⟩
theorem laws_eqPotS_eq (a0 : List T_Pot.ty) (a1 : List T_Pot.ty) : laws_eqPotS a0 a1 =
  if ((a0.length : Int) != (a1.length : Int)) then
   some false
  else
   laws_eqPotS_p0 a0 a1 0 :=
 (mk_f _ _ _ _ _ _ _ 4000).trans (by kernel_rfl)
theorem laws_eqPotS_p0_eq  (v0 : List T_Pot.ty) (v1 : List T_Pot.ty) (v5 : Int) : laws_eqPotS_p0 v0 v1 v5 =
  if decide (v5 < (v0.length : Int)) then
   if decide (0 ≤ v5) then
    (v0[v5.toNat]?).bind fun x1 =>
     if decide (0 ≤ v5) then
      (v1[v5.toNat]?).bind fun x2 =>
       (laws_eqPot x1 x2).bind fun x3 =>
        if (!x3) then
         some false
        else
         laws_eqPotS_p0 v0 v1 (IntKind.i64.wrap (v5 + 1))
     else
      none
   else
    none
  else
   some true :=
 (goL_dn _ _ _ 4000 _ _).trans (by kernel_rfl)

/- laws.eqMode -/
def laws_eqMode_ir : Fn := { np := 2, io := [], res := [.t 4], own := [false], body :=
 (.seq (.reg false [.W 2 (.box 3 (.t 0)), .W 3 (.box 3 (.t 1)), .V 4 (.asg (.c (.bool false)))] [2, 3] [2, 3]) (.seq (.seq (.reg false [.V 5 (.fa 0 (.t 2)), .V 6 (.ld none (.t 5)), .V 7 (.fa 0 (.t 3)), .V 8 (.ld none (.t 7)), .V 9 (.bin .neq (.t 6) (.t 8))] [2, 3, 9] [2, 3]) (.cond (.t 9) (.seq (.reg false [.V 4 (.asg (.c (.bool false)))] [4] []) .ret) .skip)) (.seq (.seq (.reg false [.V 10 (.fa 1 (.t 2)), .V 11 (.ld none (.t 10)), .V 12 (.fa 1 (.t 3)), .V 13 (.ld none (.t 12)), .V 14 (.bin .neq (.t 11) (.t 13))] [2, 3, 14] [2, 3]) (.cond (.t 14) (.seq (.reg false [.V 4 (.asg (.c (.bool false)))] [4] []) .ret) .skip)) (.seq (.seq (.reg false [.V 15 (.fa 2 (.t 2)), .V 16 (.ld none (.t 15)), .V 17 (.fa 2 (.t 3)), .V 18 (.ld none (.t 17)), .V 19 (.bin .neq (.t 16) (.t 18))] [19] []) (.cond (.t 19) (.seq (.reg false [.V 4 (.asg (.c (.bool false)))] [4] []) .ret) .skip)) (.seq (.reg false [.V 4 (.asg (.c (.bool true)))] [4] []) .ret))))) }
noncomputable def laws_eqMode_D : List (Nat × Callee) := []
def laws_eqMode_H : List (Nat × ET) := []
noncomputable def laws_eqMode_c : Callee := mkCallee laws_eqMode_D laws_eqMode_H laws_eqMode_ir [.d T_Mode, .d T_Mode] [.d (.one .bool)] []
noncomputable def laws_eqMode (a0 : T_Mode.ty) (a1 : T_Mode.ty) : Option (Bool) := laws_eqMode_c.f (a0, a1, ())
theorem laws_eqMode_eq (a0 : T_Mode.ty) (a1 : T_Mode.ty) : laws_eqMode a0 a1 =
  if (!(a0.1 == a1.1)) then
   some false
  else
   if (a0.2.1 != a1.2.1) then
    some false
   else
    if (a0.2.2.1 != a1.2.2.1) then
     some false
    else
     some true :=
 (mk_f _ _ _ _ _ _ _ 4000).trans (by kernel_rfl)

/- laws.eqModeS -/
def laws_eqModeS_k0 : C :=
 .seq (.seq (.reg false [.V 11 (.mv (.t 5)), .V 12 (.mv (.t 0)), .V 13 (.len (.t 12)), .V 14 (.bin .lss (.t 11) (.t 13))] [0, 1, 5, 14] []) (.cond (.t 14) .skip (.exit 0))) (.seq (.block 1 (.seq (.reg true [.V 17 (.mv (.t 0)), .V 18 (.mv (.t 5)), .V 19 (.ia 3 (.t 17) (.t 18)), .V 20 (.ld (some 3) (.t 19)), .V 21 (.mv (.t 1)), .V 22 (.mv (.t 5)), .V 23 (.ia 3 (.t 21) (.t 22)), .V 24 (.ld (some 3) (.t 23)), .V 25 (.call (.c (.fn 883 [])) [.t 20, .t 24]), .V 26 (.un .not (.t 25))] [0, 1, 5, 26] []) (.cond (.t 26) (.seq (.reg false [.V 4 (.asg (.c (.bool false)))] [4] []) .ret) .skip))) (.reg false [.V 15 (.mv (.t 5)), .V 16 (.bin .add (.t 15) (.c (.int .i64 1))), .V 5 (.asg (.t 16))] [0, 1, 5] []))
def laws_eqModeS_k1 : C :=
 .norm [0, 1, 5] [] laws_eqModeS_k0
def laws_eqModeS_k2 : C :=
 .seq (.reg false [.V 4 (.asg (.c (.bool true)))] [4] []) .ret
def laws_eqModeS_ir : Fn := { np := 2, io := [], res := [.t 4], own := [false], body :=
 (.seq (.reg false [.V 4 (.asg (.c (.bool false)))] [0, 1] []) (.seq (.seq (.reg false [.V 6 (.mv (.t 0)), .V 7 (.len (.t 6)), .V 8 (.mv (.t 1)), .V 9 (.len (.t 8)), .V 10 (.bin .neq (.t 7) (.t 9))] [0, 1, 10] []) (.cond (.t 10) (.seq (.reg false [.V 4 (.asg (.c (.bool false)))] [4] []) .ret) .skip)) (.seq (.seq (.reg false [.V 5 (.asg (.c (.int .i64 0)))] [0, 1, 5] []) (.block 0 (.loop laws_eqModeS_k1))) laws_eqModeS_k2))) }
noncomputable def laws_eqModeS_D : List (Nat × Callee) := [(883, laws_eqMode_c)]
def laws_eqModeS_H : List (Nat × ET) := [(6, T_Mode), (8, T_Mode), (12, T_Mode), (17, T_Mode), (21, T_Mode)]
noncomputable def laws_eqModeS_c : Callee := mkCallee laws_eqModeS_D laws_eqModeS_H laws_eqModeS_ir [.d (.one (.sl T_Mode)), .d (.one (.sl T_Mode))] [.d (.one .bool)] []
noncomputable def laws_eqModeS (a0 : List T_Mode.ty) (a1 : List T_Mode.ty) : Option (Bool) := laws_eqModeS_c.f (a0, a1, ())
noncomputable def laws_eqModeS_p0  (v0 : List T_Mode.ty) (v1 : List T_Mode.ty) (v5 : Int) : Option (Bool) :=
 goL laws_eqModeS_D laws_eqModeS_H (vleave laws_eqModeS_ir [.d (.one (.sl T_Mode)), .d (.one (.sl T_Mode))] [.d (.one .bool)] [] []) [.c laws_eqModeS_k0, .l laws_eqModeS_k1, .e 0, .c laws_eqModeS_k2]
  ⟨[(0, .sl T_Mode v0), (1, .sl T_Mode v1), (5, .int .i64 v5)], []⟩
theorem laws_eqModeS_eq (a0 : List T_Mode.ty) (a1 : List T_Mode.ty) : laws_eqModeS a0 a1 =
  if ((a0.length : Int) != (a1.length : Int)) then
   some false
  else
   laws_eqModeS_p0 a0 a1 0 :=
 (mk_f _ _ _ _ _ _ _ 4000).trans (by kernel_rfl)
theorem laws_eqModeS_p0_eq  (v0 : List T_Mode.ty) (v1 : List T_Mode.ty) (v5 : Int) : laws_eqModeS_p0 v0 v1 v5 =
  if decide (v5 < (v0.length : Int)) then
   if decide (0 ≤ v5) then
    (v0[v5.toNat]?).bind fun x1 =>
     if decide (0 ≤ v5) then
      (v1[v5.toNat]?).bind fun x2 =>
       (laws_eqMode x1 x2).bind fun x3 =>
        if (!x3) then
         some false
        else
         laws_eqModeS_p0 v0 v1 (IntKind.i64.wrap (v5 + 1))
     else
      none
   else
    none
  else
   some true :=
 (goL_dn _ _ _ 4000 _ _).trans (by kernel_rfl)

/- laws.eqWork -/
def laws_eqWork_ir : Fn := { np := 2, io := [], res := [.t 4], own := [false], body :=
 (.seq (.reg false [.W 2 (.box 4 (.t 0)), .W 3 (.box 4 (.t 1)), .V 4 (.asg (.c (.bool false)))] [2, 3] [2, 3]) (.seq (.seq (.reg false [.V 5 (.fa 0 (.t 2)), .V 6 (.ld none (.t 5)), .V 7 (.fa 0 (.t 3)), .V 8 (.ld none (.t 7)), .V 9 (.bin .neq (.t 6) (.t 8))] [2, 3, 9] [2, 3]) (.cond (.t 9) (.seq (.reg false [.V 4 (.asg (.c (.bool false)))] [4] []) .ret) .skip)) (.seq (.seq (.reg false [.V 10 (.fa 1 (.t 2)), .V 11 (.ld none (.t 10)), .V 12 (.fa 1 (.t 3)), .V 13 (.ld none (.t 12)), .V 14 (.bin .neq (.t 11) (.t 13))] [2, 3, 14] [2, 3]) (.cond (.t 14) (.seq (.reg false [.V 4 (.asg (.c (.bool false)))] [4] []) .ret) .skip)) (.seq (.seq (.reg false [.V 15 (.fa 2 (.t 2)), .V 16 (.ld none (.t 15)), .V 17 (.fa 2 (.t 3)), .V 18 (.ld none (.t 17)), .V 19 (.bin .neq (.t 16) (.t 18))] [2, 3, 19] [2, 3]) (.cond (.t 19) (.seq (.reg false [.V 4 (.asg (.c (.bool false)))] [4] []) .ret) .skip)) (.seq (.seq (.reg false [.V 20 (.fa 3 (.t 2)), .V 21 (.ld none (.t 20)), .V 22 (.fa 3 (.t 3)), .V 23 (.ld none (.t 22)), .V 24 (.bin .neq (.t 21) (.t 23))] [24] []) (.cond (.t 24) (.seq (.reg false [.V 4 (.asg (.c (.bool false)))] [4] []) .ret) .skip)) (.seq (.reg false [.V 4 (.asg (.c (.bool true)))] [4] []) .ret)))))) }
noncomputable def laws_eqWork_D : List (Nat × Callee) := []
def laws_eqWork_H : List (Nat × ET) := []
noncomputable def laws_eqWork_c : Callee := mkCallee laws_eqWork_D laws_eqWork_H laws_eqWork_ir [.d T_Peg, .d T_Peg] [.d (.one .bool)] []
noncomputable def laws_eqWork (a0 : T_Peg.ty) (a1 : T_Peg.ty) : Option (Bool) := laws_eqWork_c.f (a0, a1, ())
theorem laws_eqWork_eq (a0 : T_Peg.ty) (a1 : T_Peg.ty) : laws_eqWork a0 a1 =
  if (!(a0.1 == a1.1)) then
   some false
  else
   if (a0.2.1 != a1.2.1) then
    some false
   else
    if (a0.2.2.1 != a1.2.2.1) then
     some false
    else
     if (a0.2.2.2.1 != a1.2.2.2.1) then
      some false
     else
      some true :=
 (mk_f _ _ _ _ _ _ _ 4000).trans (by kernel_rfl)

/- laws.eqWorkS -/
def laws_eqWorkS_k0 : C :=
 .seq (.seq (.reg false [.V 11 (.mv (.t 5)), .V 12 (.mv (.t 0)), .V 13 (.len (.t 12)), .V 14 (.bin .lss (.t 11) (.t 13))] [0, 1, 5, 14] []) (.cond (.t 14) .skip (.exit 0))) (.seq (.block 1 (.seq (.reg true [.V 17 (.mv (.t 0)), .V 18 (.mv (.t 5)), .V 19 (.ia 4 (.t 17) (.t 18)), .V 20 (.ld (some 4) (.t 19)), .V 21 (.mv (.t 1)), .V 22 (.mv (.t 5)), .V 23 (.ia 4 (.t 21) (.t 22)), .V 24 (.ld (some 4) (.t 23)), .V 25 (.call (.c (.fn 884 [])) [.t 20, .t 24]), .V 26 (.un .not (.t 25))] [0, 1, 5, 26] []) (.cond (.t 26) (.seq (.reg false [.V 4 (.asg (.c (.bool false)))] [4] []) .ret) .skip))) (.reg false [.V 15 (.mv (.t 5)), .V 16 (.bin .add (.t 15) (.c (.int .i64 1))), .V 5 (.asg (.t 16))] [0, 1, 5] []))
def laws_eqWorkS_k1 : C :=
 .norm [0, 1, 5] [] laws_eqWorkS_k0
def laws_eqWorkS_k2 : C :=
 .seq (.reg false [.V 4 (.asg (.c (.bool true)))] [4] []) .ret
def laws_eqWorkS_ir : Fn := { np := 2, io := [], res := [.t 4], own := [false], body :=
 (.seq (.reg false [.V 4 (.asg (.c (.bool false)))] [0, 1] []) (.seq (.seq (.reg false [.V 6 (.mv (.t 0)), .V 7 (.len (.t 6)), .V 8 (.mv (.t 1)), .V 9 (.len (.t 8)), .V 10 (.bin .neq (.t 7) (.t 9))] [0, 1, 10] []) (.cond (.t 10) (.seq (.reg false [.V 4 (.asg (.c (.bool false)))] [4] []) .ret) .skip)) (.seq (.seq (.reg false [.V 5 (.asg (.c (.int .i64 0)))] [0, 1, 5] []) (.block 0 (.loop laws_eqWorkS_k1))) laws_eqWorkS_k2))) }
noncomputable def laws_eqWorkS_D : List (Nat × Callee) := [(884, laws_eqWork_c)]
def laws_eqWorkS_H : List (Nat × ET) := [(6, T_Peg), (8, T_Peg), (12, T_Peg), (17, T_Peg), (21, T_Peg)]
noncomputable def laws_eqWorkS_c : Callee := mkCallee laws_eqWorkS_D laws_eqWorkS_H laws_eqWorkS_ir [.d (.one (.sl T_Peg)), .d (.one (.sl T_Peg))] [.d (.one .bool)] []
noncomputable def laws_eqWorkS (a0 : List T_Peg.ty) (a1 : List T_Peg.ty) : Option (Bool) := laws_eqWorkS_c.f (a0, a1, ())
noncomputable def laws_eqWorkS_p0  (v0 : List T_Peg.ty) (v1 : List T_Peg.ty) (v5 : Int) : Option (Bool) :=
 goL laws_eqWorkS_D laws_eqWorkS_H (vleave laws_eqWorkS_ir [.d (.one (.sl T_Peg)), .d (.one (.sl T_Peg))] [.d (.one .bool)] [] []) [.c laws_eqWorkS_k0, .l laws_eqWorkS_k1, .e 0, .c laws_eqWorkS_k2]
  ⟨[(0, .sl T_Peg v0), (1, .sl T_Peg v1), (5, .int .i64 v5)], []⟩
theorem laws_eqWorkS_eq (a0 : List T_Peg.ty) (a1 : List T_Peg.ty) : laws_eqWorkS a0 a1 =
  if ((a0.length : Int) != (a1.length : Int)) then
   some false
  else
   laws_eqWorkS_p0 a0 a1 0 :=
 (mk_f _ _ _ _ _ _ _ 4000).trans (by kernel_rfl)
theorem laws_eqWorkS_p0_eq  (v0 : List T_Peg.ty) (v1 : List T_Peg.ty) (v5 : Int) : laws_eqWorkS_p0 v0 v1 v5 =
  if decide (v5 < (v0.length : Int)) then
   if decide (0 ≤ v5) then
    (v0[v5.toNat]?).bind fun x1 =>
     if decide (0 ≤ v5) then
      (v1[v5.toNat]?).bind fun x2 =>
       (laws_eqWork x1 x2).bind fun x3 =>
        if (!x3) then
         some false
        else
         laws_eqWorkS_p0 v0 v1 (IntKind.i64.wrap (v5 + 1))
     else
      none
   else
    none
  else
   some true :=
 (goL_dn _ _ _ 4000 _ _).trans (by kernel_rfl)

/- laws.eqPaper -/
def laws_eqPaper_ir : Fn := { np := 2, io := [], res := [.t 4], own := [false], body :=
 (.seq (.reg false [.W 2 (.box 5 (.t 0)), .W 3 (.box 5 (.t 1)), .V 4 (.asg (.c (.bool false)))] [2, 3] [2, 3]) (.seq (.seq (.reg false [.V 5 (.fa 0 (.t 2)), .V 6 (.ld none (.t 5)), .V 7 (.fa 0 (.t 3)), .V 8 (.ld none (.t 7)), .V 9 (.bin .neq (.t 6) (.t 8))] [2, 3, 9] [2, 3]) (.cond (.t 9) (.seq (.reg false [.V 4 (.asg (.c (.bool false)))] [4] []) .ret) .skip)) (.seq (.seq (.reg false [.V 10 (.fa 1 (.t 2)), .V 11 (.ld none (.t 10)), .V 12 (.fa 1 (.t 3)), .V 13 (.ld none (.t 12)), .V 14 (.bin .neq (.t 11) (.t 13))] [2, 3, 14] [2, 3]) (.cond (.t 14) (.seq (.reg false [.V 4 (.asg (.c (.bool false)))] [4] []) .ret) .skip)) (.seq (.seq (.reg false [.V 15 (.fa 2 (.t 2)), .V 16 (.ld none (.t 15)), .V 17 (.fa 2 (.t 3)), .V 18 (.ld none (.t 17)), .V 19 (.bin .neq (.t 16) (.t 18))] [2, 3, 19] [2, 3]) (.cond (.t 19) (.seq (.reg false [.V 4 (.asg (.c (.bool false)))] [4] []) .ret) .skip)) (.seq (.seq (.reg false [.V 20 (.fa 3 (.t 2)), .V 21 (.ld none (.t 20)), .V 22 (.fa 3 (.t 3)), .V 23 (.ld none (.t 22)), .V 24 (.bin .neq (.t 21) (.t 23))] [2, 3, 24] [2, 3]) (.cond (.t 24) (.seq (.reg false [.V 4 (.asg (.c (.bool false)))] [4] []) .ret) .skip)) (.seq (.seq (.reg false [.V 25 (.fa 4 (.t 2)), .V 26 (.ld none (.t 25)), .V 27 (.fa 4 (.t 3)), .V 28 (.ld none (.t 27)), .V 29 (.bin .neq (.t 26) (.t 28))] [29] []) (.cond (.t 29) (.seq (.reg false [.V 4 (.asg (.c (.bool false)))] [4] []) .ret) .skip)) (.seq (.reg false [.V 4 (.asg (.c (.bool true)))] [4] []) .ret))))))) }
noncomputable def laws_eqPaper_D : List (Nat × Callee) := []
def laws_eqPaper_H : List (Nat × ET) := []
noncomputable def laws_eqPaper_c : Callee := mkCallee laws_eqPaper_D laws_eqPaper_H laws_eqPaper_ir [.d T_Paper, .d T_Paper] [.d (.one .bool)] []
noncomputable def laws_eqPaper (a0 : T_Paper.ty) (a1 : T_Paper.ty) : Option (Bool) := laws_eqPaper_c.f (a0, a1, ())
theorem laws_eqPaper_eq (a0 : T_Paper.ty) (a1 : T_Paper.ty) : laws_eqPaper a0 a1 =
  if (!(a0.1 == a1.1)) then
   some false
  else
   if (!(a0.2.1 == a1.2.1)) then
    some false
   else
    if (a0.2.2.1 != a1.2.2.1) then
     some false
    else
     if (a0.2.2.2.1 != a1.2.2.2.1) then
      some false
     else
      if (a0.2.2.2.2.1 != a1.2.2.2.2.1) then
       some false
      else
       some true :=
 (mk_f _ _ _ _ _ _ _ 4000).trans (by kernel_rfl)

/- laws.eqPaperS -/
def laws_eqPaperS_k0 : C :=
 .seq (.seq (.reg false [.V 11 (.mv (.t 5)), .V 12 (.mv (.t 0)), .V 13 (.len (.t 12)), .V 14 (.bin .lss (.t 11) (.t 13))] [0, 1, 5, 14] []) (.cond (.t 14) .skip (.exit 0))) (.seq (.block 1 (.seq (.reg true [.V 17 (.mv (.t 0)), .V 18 (.mv (.t 5)), .V 19 (.ia 5 (.t 17) (.t 18)), .V 20 (.ld (some 5) (.t 19)), .V 21 (.mv (.t 1)), .V 22 (.mv (.t 5)), .V 23 (.ia 5 (.t 21) (.t 22)), .V 24 (.ld (some 5) (.t 23)), .V 25 (.call (.c (.fn 728 [])) [.t 20, .t 24]), .V 26 (.un .not (.t 25))] [0, 1, 5, 26] []) (.cond (.t 26) (.seq (.reg false [.V 4 (.asg (.c (.bool false)))] [4] []) .ret) .skip))) (.reg false [.V 15 (.mv (.t 5)), .V 16 (.bin .add (.t 15) (.c (.int .i64 1))), .V 5 (.asg (.t 16))] [0, 1, 5] []))
def laws_eqPaperS_k1 : C :=
 .norm [0, 1, 5] [] laws_eqPaperS_k0
def laws_eqPaperS_k2 : C :=
 .seq (.reg false [.V 4 (.asg (.c (.bool true)))] [4] []) .ret
def laws_eqPaperS_ir : Fn := { np := 2, io := [], res := [.t 4], own := [false], body :=
 (.seq (.reg false [.V 4 (.asg (.c (.bool false)))] [0, 1] []) (.seq (.seq (.reg false [.V 6 (.mv (.t 0)), .V 7 (.len (.t 6)), .V 8 (.mv (.t 1)), .V 9 (.len (.t 8)), .V 10 (.bin .neq (.t 7) (.t 9))] [0, 1, 10] []) (.cond (.t 10) (.seq (.reg false [.V 4 (.asg (.c (.bool false)))] [4] []) .ret) .skip)) (.seq (.seq (.reg false [.V 5 (.asg (.c (.int .i64 0)))] [0, 1, 5] []) (.block 0 (.loop laws_eqPaperS_k1))) laws_eqPaperS_k2))) }
noncomputable def laws_eqPaperS_D : List (Nat × Callee) := [(728, laws_eqPaper_c)]
def laws_eqPaperS_H : List (Nat × ET) := [(6, T_Paper), (8, T_Paper), (12, T_Paper), (17, T_Paper), (21, T_Paper)]
noncomputable def laws_eqPaperS_c : Callee := mkCallee laws_eqPaperS_D laws_eqPaperS_H laws_eqPaperS_ir [.d (.one (.sl T_Paper)), .d (.one (.sl T_Paper))] [.d (.one .bool)] []
noncomputable def laws_eqPaperS (a0 : List T_Paper.ty) (a1 : List T_Paper.ty) : Option (Bool) := laws_eqPaperS_c.f (a0, a1, ())
noncomputable def laws_eqPaperS_p0  (v0 : List T_Paper.ty) (v1 : List T_Paper.ty) (v5 : Int) : Option (Bool) :=
 goL laws_eqPaperS_D laws_eqPaperS_H (vleave laws_eqPaperS_ir [.d (.one (.sl T_Paper)), .d (.one (.sl T_Paper))] [.d (.one .bool)] [] []) [.c laws_eqPaperS_k0, .l laws_eqPaperS_k1, .e 0, .c laws_eqPaperS_k2]
  ⟨[(0, .sl T_Paper v0), (1, .sl T_Paper v1), (5, .int .i64 v5)], []⟩
theorem laws_eqPaperS_eq (a0 : List T_Paper.ty) (a1 : List T_Paper.ty) : laws_eqPaperS a0 a1 =
  if ((a0.length : Int) != (a1.length : Int)) then
   some false
  else
   laws_eqPaperS_p0 a0 a1 0 :=
 (mk_f _ _ _ _ _ _ _ 4000).trans (by kernel_rfl)
theorem laws_eqPaperS_p0_eq  (v0 : List T_Paper.ty) (v1 : List T_Paper.ty) (v5 : Int) : laws_eqPaperS_p0 v0 v1 v5 =
  if decide (v5 < (v0.length : Int)) then
   if decide (0 ≤ v5) then
    (v0[v5.toNat]?).bind fun x1 =>
     if decide (0 ≤ v5) then
      (v1[v5.toNat]?).bind fun x2 =>
       (laws_eqPaper x1 x2).bind fun x3 =>
        if (!x3) then
         some false
        else
         laws_eqPaperS_p0 v0 v1 (IntKind.i64.wrap (v5 + 1))
     else
      none
   else
    none
  else
   some true :=
 (goL_dn _ _ _ 4000 _ _).trans (by kernel_rfl)

/- laws.eqDesk -/
def laws_eqDesk_ir : Fn := { np := 2, io := [], res := [.t 4], own := [false], body :=
 (.seq (.reg false [.W 2 (.box 12 (.t 0)), .W 3 (.box 12 (.t 1)), .V 4 (.asg (.c (.bool false)))] [2, 3] [2, 3, 3000, 3001, 3002, 3007, 3008, 3009, 3010, 3011, 4000, 4001, 4002, 4007, 4008, 4009, 4010, 4011]) (.seq (.seq (.reg false [.V 5 (.fa 0 (.t 2)), .V 6 (.ld none (.t 5)), .V 7 (.fa 0 (.t 3)), .V 8 (.ld none (.t 7)), .V 9 (.call (.c (.fn 582 [])) [.t 6, .t 8]), .V 10 (.un .not (.t 9))] [2, 3, 10] [2, 3, 3000, 3001, 3002, 3007, 3008, 3009, 3010, 3011, 4000, 4001, 4002, 4007, 4008, 4009, 4010, 4011]) (.cond (.t 10) (.seq (.reg false [.V 4 (.asg (.c (.bool false)))] [4] []) .ret) .skip)) (.seq (.seq (.reg false [.V 11 (.fa 1 (.t 2)), .V 12 (.ld none (.t 11)), .V 13 (.fa 1 (.t 3)), .V 14 (.ld none (.t 13)), .V 15 (.call (.c (.fn 581 [])) [.t 12, .t 14]), .V 16 (.un .not (.t 15))] [2, 3, 16] [2, 3, 3000, 3001, 3002, 3007, 3008, 3009, 3010, 3011, 4000, 4001, 4002, 4007, 4008, 4009, 4010, 4011]) (.cond (.t 16) (.seq (.reg false [.V 4 (.asg (.c (.bool false)))] [4] []) .ret) .skip)) (.seq (.seq (.reg false [.V 17 (.fa 2 (.t 2)), .V 18 (.ld none (.t 17)), .V 19 (.fa 2 (.t 3)), .V 20 (.ld none (.t 19)), .V 21 (.call (.c (.fn 580 [])) [.t 18, .t 20]), .V 22 (.un .not (.t 21))] [2, 3, 22] [2, 3, 3000, 3001, 3002, 3007, 3008, 3009, 3010, 3011, 4000, 4001, 4002, 4007, 4008, 4009, 4010, 4011]) (.cond (.t 22) (.seq (.reg false [.V 4 (.asg (.c (.bool false)))] [4] []) .ret) .skip)) (.seq (.seq (.reg false [.V 23 (.fa 3 (.t 2)), .V 24 (.ld (some 4) (.t 23)), .V 25 (.fa 3 (.t 3)), .V 26 (.ld (some 4) (.t 25)), .V 27 (.call (.c (.fn 579 [])) [.t 24, .t 26]), .V 28 (.un .not (.t 27))] [2, 3, 28] [2, 3, 3000, 3001, 3002, 3007, 3008, 3009, 3010, 3011, 4000, 4001, 4002, 4007, 4008, 4009, 4010, 4011]) (.cond (.t 28) (.seq (.reg false [.V 4 (.asg (.c (.bool false)))] [4] []) .ret) .skip)) (.seq (.seq (.reg false [.V 29 (.fa 7 (.t 2)), .V 30 (.ld none (.t 29)), .V 31 (.fa 7 (.t 3)), .V 32 (.ld none (.t 31)), .V 33 (.call (.c (.fn 124 [])) [.t 30, .t 32]), .V 34 (.un .not (.t 33))] [2, 3, 34] [2, 3, 3000, 3001, 3002, 3007, 3008, 3009, 3010, 3011, 4000, 4001, 4002, 4007, 4008, 4009, 4010, 4011]) (.cond (.t 34) (.seq (.reg false [.V 4 (.asg (.c (.bool false)))] [4] []) .ret) .skip)) (.seq (.seq (.reg false [.V 35 (.fa 8 (.t 2)), .V 36 (.ld none (.t 35)), .V 37 (.fa 8 (.t 3)), .V 38 (.ld none (.t 37)), .V 39 (.call (.c (.fn 60 [])) [.t 36, .t 38]), .V 40 (.un .not (.t 39))] [2, 3, 40] [2, 3, 3000, 3001, 3002, 3007, 3008, 3009, 3010, 3011, 4000, 4001, 4002, 4007, 4008, 4009, 4010, 4011]) (.cond (.t 40) (.seq (.reg false [.V 4 (.asg (.c (.bool false)))] [4] []) .ret) .skip)) (.seq (.seq (.reg false [.V 41 (.fa 9 (.t 2)), .V 42 (.ld none (.t 41)), .V 43 (.fa 9 (.t 3)), .V 44 (.ld none (.t 43)), .V 45 (.call (.c (.fn 578 [])) [.t 42, .t 44]), .V 46 (.un .not (.t 45))] [2, 3, 46] [2, 3, 3000, 3001, 3002, 3007, 3008, 3009, 3010, 3011, 4000, 4001, 4002, 4007, 4008, 4009, 4010, 4011]) (.cond (.t 46) (.seq (.reg false [.V 4 (.asg (.c (.bool false)))] [4] []) .ret) .skip)) (.seq (.seq (.reg false [.V 47 (.fa 10 (.t 2)), .V 48 (.ld none (.t 47)), .V 49 (.fa 10 (.t 3)), .V 50 (.ld none (.t 49)), .V 51 (.call (.c (.fn 577 [])) [.t 48, .t 50]), .V 52 (.un .not (.t 51))] [2, 3, 52] [2, 3, 3000, 3001, 3002, 3007, 3008, 3009, 3010, 3011, 4000, 4001, 4002, 4007, 4008, 4009, 4010, 4011]) (.cond (.t 52) (.seq (.reg false [.V 4 (.asg (.c (.bool false)))] [4] []) .ret) .skip)) (.seq (.seq (.reg false [.V 53 (.fa 11 (.t 2)), .V 54 (.ld none (.t 53)), .V 55 (.fa 11 (.t 3)), .V 56 (.ld none (.t 55)), .V 57 (.call (.c (.fn 298 [])) [.t 54, .t 56]), .V 58 (.un .not (.t 57))] [58] []) (.cond (.t 58) (.seq (.reg false [.V 4 (.asg (.c (.bool false)))] [4] []) .ret) .skip)) (.seq (.reg false [.V 4 (.asg (.c (.bool true)))] [4] []) .ret))))))))))) }
noncomputable def laws_eqDesk_D : List (Nat × Callee) := [(60, laws_eqPotS_c), (124, laws_eqPegS_c), (298, laws_eqPaperS_c), (577, laws_eqWorkS_c), (578, laws_eqModeS_c), (579, laws_eqNeck_c), (580, laws_eqInt64SS_c), (581, laws_eqRibS_c), (582, laws_eqStackS_c)]
def laws_eqDesk_H : List (Nat × ET) := [(6, T_Peg), (8, T_Peg), (12, T_Mode), (14, T_Mode), (18, (.one (.sl (.one (.int .i64))))), (20, (.one (.sl (.one (.int .i64))))), (30, T_Peg), (32, T_Peg), (36, T_Pot), (38, T_Pot), (42, T_Mode), (44, T_Mode), (48, T_Peg), (50, T_Peg), (54, T_Paper), (56, T_Paper)]
noncomputable def laws_eqDesk_c : Callee := mkCallee laws_eqDesk_D laws_eqDesk_H laws_eqDesk_ir [.d T_Desk, .d T_Desk] [.d (.one .bool)] []
noncomputable def laws_eqDesk (a0 : T_Desk.ty) (a1 : T_Desk.ty) : Option (Bool) := laws_eqDesk_c.f (a0, a1, ())
theorem laws_eqDesk_eq (a0 : T_Desk.ty) (a1 : T_Desk.ty) : laws_eqDesk a0 a1 =
  (laws_eqStackS a0.1 a1.1).bind fun x1 =>
   if (!x1) then
    some false
   else
    (laws_eqRibS a0.2.1 a1.2.1).bind fun x2 =>
     if (!x2) then
      some false
     else
      (laws_eqInt64SS a0.2.2.1 a1.2.2.1).bind fun x3 =>
       if (!x3) then
        some false
       else
        (laws_eqNeck (a0.2.2.2.1, a0.2.2.2.2.1, a0.2.2.2.2.2.1, a0.2.2.2.2.2.2.1, ()) (a1.2.2.2.1, a1.2.2.2.2.1, a1.2.2.2.2.2.1, a1.2.2.2.2.2.2.1, ())).bind fun x4 =>
         if (!x4) then
          some false
         else
          (laws_eqPegS a0.2.2.2.2.2.2.2.1 a1.2.2.2.2.2.2.2.1).bind fun x5 =>
           if (!x5) then
            some false
           else
            (laws_eqPotS a0.2.2.2.2.2.2.2.2.1 a1.2.2.2.2.2.2.2.2.1).bind fun x6 =>
             if (!x6) then
              some false
             else
              (laws_eqModeS a0.2.2.2.2.2.2.2.2.2.1 a1.2.2.2.2.2.2.2.2.2.1).bind fun x7 =>
               if (!x7) then
                some false
               else
                (laws_eqWorkS a0.2.2.2.2.2.2.2.2.2.2.1 a1.2.2.2.2.2.2.2.2.2.2.1).bind fun x8 =>
                 if (!x8) then
                  some false
                 else
                  (laws_eqPaperS a0.2.2.2.2.2.2.2.2.2.2.2.1 a1.2.2.2.2.2.2.2.2.2.2.2.1).bind fun x9 =>
                   if (!x9) then
                    some false
                   else
                    some true :=
 (mk_f _ _ _ _ _ _ _ 4000).trans (by kernel_rfl)

/- laws.FnExactSameDesk -/
def laws_FnExactSameDesk_ir : Fn := { np := 2, io := [], res := [.t 4], own := [false], body :=
 (.seq (.reg false [.W 2 (.box 12 (.t 0)), .W 3 (.box 12 (.t 1)), .V 4 (.asg (.c (.bool false)))] [2, 3] [2, 3, 3000, 3001, 3002, 3007, 3008, 3009, 3010, 3011, 4000, 4001, 4002, 4007, 4008, 4009, 4010, 4011]) (.seq (.reg false [.V 5 (.asg (.c (.int .i64 1048576)))] [2, 3, 5] [2, 3, 3000, 3001, 3002, 3007, 3008, 3009, 3010, 3011, 4000, 4001, 4002, 4007, 4008, 4009, 4010, 4011]) (.seq (.reg false [.V 10 (.ld (some 12) (.t 2)), .V 11 (.mv (.t 5)), .V 12 (.call (.c (.fn 239 [])) [.t 10, .t 11]), .V 5 (.asg (.t 12))] [2, 3, 5] [2, 3, 3000, 3001, 3002, 3007, 3008, 3009, 3010, 3011, 4000, 4001, 4002, 4007, 4008, 4009, 4010, 4011]) (.seq (.seq (.reg false [.V 13 (.mv (.t 5)), .V 14 (.bin .lss (.t 13) (.c (.int .i64 0)))] [2, 3, 5, 14] [2, 3, 3000, 3001, 3002, 3007, 3008, 3009, 3010, 3011, 4000, 4001, 4002, 4007, 4008, 4009, 4010, 4011]) (.cond (.t 14) (.seq (.reg false [.V 4 (.asg (.c (.bool true)))] [4] []) .ret) .skip)) (.seq (.reg false [.V 15 (.ld (some 12) (.t 3)), .V 16 (.mv (.t 5)), .V 17 (.call (.c (.fn 239 [])) [.t 15, .t 16]), .V 5 (.asg (.t 17))] [2, 3, 5] [2, 3, 3000, 3001, 3002, 3007, 3008, 3009, 3010, 3011, 4000, 4001, 4002, 4007, 4008, 4009, 4010, 4011]) (.seq (.seq (.reg false [.V 18 (.mv (.t 5)), .V 19 (.bin .lss (.t 18) (.c (.int .i64 0)))] [2, 3, 19] [2, 3, 3000, 3001, 3002, 3007, 3008, 3009, 3010, 3011, 4000, 4001, 4002, 4007, 4008, 4009, 4010, 4011]) (.cond (.t 19) (.seq (.reg false [.V 4 (.asg (.c (.bool true)))] [4] []) .ret) .skip)) (.seq (.reg true [.V 20 (.ld (some 12) (.t 2)), .V 21 (.call (.c (.fn 236 [])) [.t 20]), .V 22 (.ld (some 12) (.t 3)), .V 23 (.call (.c (.fn 236 [])) [.t 22]), .V 24 (.call (.c (.fn 238 [])) [.t 21, .t 23]), .V 6 (.asg (.t 24))] [2, 3, 6] [2, 3, 3000, 3001, 3002, 3007, 3008, 3009, 3010, 3011, 4000, 4001, 4002, 4007, 4008, 4009, 4010, 4011]) (.seq (.reg false [.V 25 (.ld (some 12) (.t 2)), .V 26 (.call (.c (.fn 236 [])) [.t 25]), .W 7 (.alloc 12 (.agg [.nils 4, .nils 3, .nils 1, .int .i64 0, .int .i64 0, .int .i64 0, .int .i64 0, .nils 4, .nils 5, .nils 3, .nils 4, .nils 5])), ⟨none, true, .sto 12 (.t 7) (.t 26), none, false, []⟩] [2, 3, 6, 7] [2, 3, 7, 3000, 3001, 3002, 3007, 3008, 3009, 3010, 3011, 4000, 4001, 4002, 4007, 4008, 4009, 4010, 4011, 8000, 8001, 8002, 8007, 8008, 8009, 8010, 8011]) (.seq (.reg false [.V 27 (.ld (some 12) (.t 3)), .V 28 (.call (.c (.fn 236 [])) [.t 27]), .W 8 (.alloc 12 (.agg [.nils 4, .nils 3, .nils 1, .int .i64 0, .int .i64 0, .int .i64 0, .int .i64 0, .nils 4, .nils 5, .nils 3, .nils 4, .nils 5])), ⟨none, true, .sto 12 (.t 8) (.t 28), none, false, []⟩] [2, 3, 6, 7, 8] [2, 3, 7, 8, 3000, 3001, 3002, 3007, 3008, 3009, 3010, 3011, 4000, 4001, 4002, 4007, 4008, 4009, 4010, 4011, 8000, 8001, 8002, 8007, 8008, 8009, 8010, 8011, 9000, 9001, 9002, 9007, 9008, 9009, 9010, 9011]) (.seq (.reg false [.V 29 (.ld (some 12) (.t 7)), .V 30 (.ld (some 12) (.t 8)), .V 31 (.call (.c (.fn 237 [])) [.t 29, .t 30]), .V 9 (.asg (.t 31))] [2, 3, 6, 7, 8, 9] [2, 3, 7, 8, 3000, 3001, 3002, 3007, 3008, 3009, 3010, 3011, 4000, 4001, 4002, 4007, 4008, 4009, 4010, 4011, 8000, 8001, 8002, 8007, 8008, 8009, 8010, 8011, 9000, 9001, 9002, 9007, 9008, 9009, 9010, 9011]) (.seq (.seq (.reg false [.V 32 (.mv (.t 9)), .V 33 (.mv (.t 6)), .V 34 (.eqb true (.t 32) (.t 33))] [2, 3, 7, 8, 34] [2, 3, 7, 8, 3000, 3001, 3002, 3007, 3008, 3009, 3010, 3011, 4000, 4001, 4002, 4007, 4008, 4009, 4010, 4011, 8000, 8001, 8002, 8007, 8008, 8009, 8010, 8011, 9000, 9001, 9002, 9007, 9008, 9009, 9010, 9011]) (.cond (.t 34) (.seq (.reg false [.V 4 (.asg (.c (.bool false)))] [4] []) .ret) .skip)) (.seq (.seq (.reg true [.V 35 (.ld (some 12) (.t 7)), .V 36 (.ld (some 12) (.t 2)), .V 37 (.call (.c (.fn 236 [])) [.t 36]), .V 38 (.call (.c (.fn 195 [])) [.t 35, .t 37]), .V 39 (.un .not (.t 38))] [3, 8, 39] [3, 8, 4000, 4001, 4002, 4007, 4008, 4009, 4010, 4011, 9000, 9001, 9002, 9007, 9008, 9009, 9010, 9011]) (.cond (.t 39) (.seq (.reg false [.V 4 (.asg (.c (.bool false)))] [4] []) .ret) .skip)) (.seq (.seq (.reg true [.V 40 (.ld (some 12) (.t 8)), .V 41 (.ld (some 12) (.t 3)), .V 42 (.call (.c (.fn 236 [])) [.t 41]), .V 43 (.call (.c (.fn 195 [])) [.t 40, .t 42]), .V 44 (.un .not (.t 43))] [44] []) (.cond (.t 44) (.seq (.reg false [.V 4 (.asg (.c (.bool false)))] [4] []) .ret) .skip)) (.seq (.reg false [.V 4 (.asg (.c (.bool true)))] [4] []) .ret)))))))))))))) }
noncomputable def laws_FnExactSameDesk_D : List (Nat × Callee) := [(195, laws_eqDesk_c), (236, laws_toDesk_c), (237, impl_SameDesk_c), (238, spec_SameDesk_c), (239, laws_szDesk_c)]
def laws_FnExactSameDesk_H : List (Nat × ET) := []
noncomputable def laws_FnExactSameDesk_c : Callee := mkCallee laws_FnExactSameDesk_D laws_FnExactSameDesk_H laws_FnExactSameDesk_ir [.d T_Desk, .d T_Desk] [.d (.one .bool)] []
noncomputable def laws_FnExactSameDesk (a0 : T_Desk.ty) (a1 : T_Desk.ty) : Option (Bool) := laws_FnExactSameDesk_c.f (a0, a1, ())
theorem laws_FnExactSameDesk_eq (a0 : T_Desk.ty) (a1 : T_Desk.ty) : laws_FnExactSameDesk a0 a1 =
  (laws_szDesk a0 1048576).bind fun x1 =>
   if decide (x1 < 0) then
    some true
   else
    (laws_szDesk a1 x1).bind fun x2 =>
     if decide (x2 < 0) then
      some true
     else
      (laws_toDesk a0).bind fun x3 =>
       (laws_toDesk a1).bind fun x4 =>
        (spec_SameDesk x3 x4).bind fun x5 =>
         (laws_toDesk a0).bind fun x6 =>
          (laws_toDesk a1).bind fun x7 =>
           (impl_SameDesk x6 x7).bind fun x8 =>
            if (!(x8 == x5)) then
             some false
            else
             (laws_toDesk a0).bind fun x9 =>
              (laws_eqDesk x6 x9).bind fun x10 =>
               if (!x10) then
                some false
               else
                (laws_toDesk a1).bind fun x11 =>
                 (laws_eqDesk x7 x11).bind fun x12 =>
                  if (!x12) then
                   some false
                  else
                   some true :=
 (mk_f _ _ _ _ _ _ _ 4000).trans (by kernel_rfl)

end Go.Ab.P
