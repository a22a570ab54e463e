/- Functions of the program: abstract forms, and what their runs give. Conditions: none. -/
import Derived.Test.YtnfdkcpnoolmfaaL4
set_option maxRecDepth 100000
set_option linter.unusedVariables false
namespace Go.Ab.P
open Go.Ab
@[reducible] def T_Problem : ET := .agg (.cons (.int .i64) (.cons .str (.cons .str .nil)))
@[reducible] def T_Pot : ET := .agg (.cons .str (.cons (.int .i64) (.cons (.int .i64) (.cons (.int .i64) (.cons (.int .i64) .nil)))))
@[reducible] def T_Neck : ET := .agg (.cons (.int .i64) (.cons (.int .i64) (.cons (.int .i64) (.cons (.int .i64) .nil))))
@[reducible] def T_Step : ET := .agg (.cons .str (.cons (.int .i64) (.cons (.int .i64) (.cons (.sl (.one (.int .i64))) .nil))))
@[reducible] def T_Peg : ET := .agg (.cons .str (.cons (.int .i64) (.cons (.int .i64) (.cons (.int .i64) .nil))))
@[reducible] def T_Mode : ET := .agg (.cons .str (.cons (.int .i64) (.cons (.int .i64) .nil)))
@[reducible] def T_Deed : ET := .agg (.cons .str (.cons .str (.cons (.int .i64) (.cons (.int .i64) .nil))))
@[reducible] def T_Block : ET := .agg (.cons .str (.cons .str (.cons .str .nil)))
@[reducible] def T_Paper : ET := .agg (.cons .str (.cons .str (.cons (.int .i64) (.cons (.int .i64) (.cons (.int .i64) .nil)))))
@[reducible] def T_Desk : ET := .agg (.cons (.sl T_Peg) (.cons (.sl T_Mode) (.cons (.sl (.one (.sl (.one (.int .i64))))) (.cons (.int .i64) (.cons (.int .i64) (.cons (.int .i64) (.cons (.int .i64) (.cons (.sl T_Peg) (.cons (.sl T_Pot) (.cons (.sl T_Mode) (.cons (.sl T_Peg) (.cons (.sl T_Paper) .nil))))))))))))
@[reducible] def T_Arc : ET := .agg (.cons (.int .i64) (.cons (.int .i64) (.cons (.int .i64) (.cons (.int .i64) (.cons (.int .i64) (.cons (.int .i64) .nil))))))
@[reducible] def T_Entry : ET := .agg (.cons (.int .i64) (.cons .str (.cons .str (.cons (.int .i64) .nil))))
@[reducible] def T_Shop : ET := .agg (.cons (.sl T_Arc) (.cons (.sl T_Neck) (.cons (.int .i64) (.cons (.sl T_Step) (.cons (.sl (.one (.int .i64))) (.cons (.int .i64) (.cons (.sl T_Paper) (.cons (.sl T_Entry) .nil))))))))
@[reducible] def T_Setting : ET := .agg (.cons .str (.cons (.int .i64) .nil))
@[reducible] def T_Version : ET := .agg (.cons (.int .i64) (.cons (.int .i64) (.cons .str (.cons (.sl T_Setting) .nil))))
@[reducible] def T_Point : ET := .agg (.cons (.int .i64) (.cons (.int .i64) .nil))
@[reducible] def T_Grant : ET := .agg (.cons .str (.cons .str (.cons (.int .i64) .nil)))
@[reducible] def T_Role : ET := .agg (.cons .str (.cons (.sl (.one .str)) .nil))
@[reducible] def T_matching : ET := .agg (.cons (.sl T_Mode) (.cons (.sl T_Mode) (.cons (.sl (.one .bool)) (.cons (.int .i64) (.cons (.sl (.one (.int .i64))) (.cons (.int .i64) (.cons (.sl (.one (.int .i64))) (.cons (.int .i64) (.cons .bool .nil)))))))))
@[reducible] def T_cutting : ET := .agg (.cons (.sl T_Mode) (.cons (.int .i64) (.cons (.int .i64) (.cons (.sl (.one (.int .i64))) (.cons (.sl (.one (.int .i64))) (.cons (.int .i64) (.cons (.int .i64) .nil)))))))
@[reducible] def T_link : ET := .agg (.cons .bool (.cons (.int .i64) (.cons (.int .i64) .nil)))
@[reducible] def T_gluing : ET := .agg (.cons (.sl T_Pot) (.cons (.sl (.one (.int .i64))) (.cons (.sl (.one (.int .i64))) (.cons (.int .i64) (.cons (.sl (.one (.int .i64))) (.cons (.int .i64) (.cons (.sl (.one (.int .i64))) (.cons (.int .i64) (.cons .bool .nil)))))))))
@[reducible] def T_Change : ET := .agg (.cons (.int .i64) (.cons .str (.cons (.int .i64) .nil)))
@[reducible] def T_placing : ET := .agg (.cons (.sl T_Peg) (.cons (.sl (.one (.sl (.one (.int .i64))))) (.cons (.int .i64) .nil)))
@[reducible] def T_trusting : ET := .agg (.cons (.sl T_Paper) (.cons (.int .i64) (.cons (.sl (.one (.int .i64))) (.cons (.int .i64) (.cons (.sl (.one (.int .i64))) (.cons (.int .i64) .nil))))))
@[reducible] def T_l00Src : ET := .agg (.cons (.sl (.one (.int .u8))) (.cons (.int .i64) (.cons (.int .u64) .nil)))
@[reducible] def T_arguments : ET := .agg (.cons (.sl (.one (.int .i64))) (.cons (.sl (.one (.int .i64))) (.cons (.int .i64) (.cons .str .nil))))
@[reducible] def T_l14Search : ET := .agg (.cons (.sl T_Pot) (.cons (.sl (.one (.int .i64))) (.cons (.sl (.one (.int .i64))) (.cons (.sl (.one (.int .i64))) (.cons (.sl (.one (.int .i64))) (.cons (.int .i64) (.cons (.int .i64) (.cons (.int .i64) (.cons .bool .nil)))))))))
@[reducible] def T_l06Search : ET := .agg (.cons (.sl T_Mode) (.cons (.int .i64) (.cons (.int .i64) (.cons (.int .i64) (.cons (.sl (.one (.int .i64))) (.cons (.sl (.one (.int .i64))) (.cons (.int .i64) (.cons (.int .i64) (.cons .bool .nil)))))))))
@[reducible] def T_l20Search : ET := .agg (.cons (.sl T_Paper) (.cons (.sl (.one (.int .i64))) (.cons (.sl (.one (.int .i64))) (.cons (.int .i64) (.cons (.int .i64) (.cons (.int .i64) (.cons .bool .nil)))))))
@[reducible] def T_l18Search : ET := .agg (.cons (.sl T_Peg) (.cons (.sl (.one (.sl (.one (.int .i64))))) (.cons (.int .i64) (.cons (.int .i64) (.cons .bool .nil)))))
/- laws.szArcS -/
def laws_szArcS_ir : Fn := { np := 2, io := [], res := [.t 4], own := [false], body :=
 (.seq (.reg false [⟨some 4, false, .asg (.c (.int .i64 0)), none, false, []⟩] [0, 1] []) (.seq (.reg false [⟨some 5, false, .mv (.t 1), none, false, []⟩, ⟨some 6, false, .mv (.t 0), none, false, []⟩, ⟨some 7, false, .len (.t 6), none, false, []⟩, ⟨some 8, false, .bin .sub (.t 5) (.t 7), none, false, []⟩, ⟨some 1, false, .asg (.t 8), none, false, []⟩] [1] []) (.seq (.seq (.reg false [⟨some 9, false, .mv (.t 1), none, false, []⟩, ⟨some 10, false, .bin .lss (.t 9) (.c (.int .i64 0)), none, false, []⟩] [1, 10] []) (.cond (.t 10) (.seq (.reg false [⟨some 4, false, .asg (.c (.int .i64 (-1))), none, false, []⟩] [4] []) .ret) .skip)) (.seq (.reg false [⟨some 11, false, .mv (.t 1), none, false, []⟩, ⟨some 4, false, .asg (.t 11), none, false, []⟩] [4] []) .ret)))) }
noncomputable def laws_szArcS_D : List (Nat × Callee) := []
def laws_szArcS_H : List (Nat × ET) := [(6, T_Arc)]
noncomputable def laws_szArcS_c : Callee := mkCallee laws_szArcS_D laws_szArcS_H laws_szArcS_ir [.d (.one (.sl T_Arc)), .d (.one (.int .i64))] [.d (.one (.int .i64))] []
noncomputable def laws_szArcS (a0 : List T_Arc.ty) (a1 : Int) : Option (Int) := laws_szArcS_c.f (a0, a1, ())
theorem laws_szArcS_eq (a0 : List T_Arc.ty) (a1 : Int) : laws_szArcS a0 a1 =
  if decide (IntKind.i64.wrap (a1 - (a0.length : Int)) < 0) then
   some (-1)
  else
   some (IntKind.i64.wrap (a1 - (a0.length : Int))) :=
 (mk_f _ _ _ _ _ _ _ 4000).trans (by kernel_rfl)

/- laws.szCordS -/
def laws_szCordS_ir : Fn := { np := 2, io := [], res := [.t 4], own := [false], body :=
 (.seq (.reg false [⟨some 4, false, .asg (.c (.int .i64 0)), none, false, []⟩] [0, 1] []) (.seq (.reg false [⟨some 5, false, .mv (.t 1), none, false, []⟩, ⟨some 6, false, .mv (.t 0), none, false, []⟩, ⟨some 7, false, .len (.t 6), none, false, []⟩, ⟨some 8, false, .bin .sub (.t 5) (.t 7), none, false, []⟩, ⟨some 1, false, .asg (.t 8), none, false, []⟩] [1] []) (.seq (.seq (.reg false [⟨some 9, false, .mv (.t 1), none, false, []⟩, ⟨some 10, false, .bin .lss (.t 9) (.c (.int .i64 0)), none, false, []⟩] [1, 10] []) (.cond (.t 10) (.seq (.reg false [⟨some 4, false, .asg (.c (.int .i64 (-1))), none, false, []⟩] [4] []) .ret) .skip)) (.seq (.reg false [⟨some 11, false, .mv (.t 1), none, false, []⟩, ⟨some 4, false, .asg (.t 11), none, false, []⟩] [4] []) .ret)))) }
noncomputable def laws_szCordS_D : List (Nat × Callee) := []
def laws_szCordS_H : List (Nat × ET) := [(6, T_Neck)]
noncomputable def laws_szCordS_c : Callee := mkCallee laws_szCordS_D laws_szCordS_H laws_szCordS_ir [.d (.one (.sl T_Neck)), .d (.one (.int .i64))] [.d (.one (.int .i64))] []
noncomputable def laws_szCordS (a0 : List T_Neck.ty) (a1 : Int) : Option (Int) := laws_szCordS_c.f (a0, a1, ())
theorem laws_szCordS_eq (a0 : List T_Neck.ty) (a1 : Int) : laws_szCordS a0 a1 =
  if decide (IntKind.i64.wrap (a1 - (a0.length : Int)) < 0) then
   some (-1)
  else
   some (IntKind.i64.wrap (a1 - (a0.length : Int))) :=
 (mk_f _ _ _ _ _ _ _ 4000).trans (by kernel_rfl)

/- laws.szInt64S -/
def laws_szInt64S_ir : Fn := { np := 2, io := [], res := [.t 4], own := [false], body :=
 (.seq (.reg false [⟨some 4, false, .asg (.c (.int .i64 0)), none, false, []⟩] [0, 1] []) (.seq (.reg false [⟨some 5, false, .mv (.t 1), none, false, []⟩, ⟨some 6, false, .mv (.t 0), none, false, []⟩, ⟨some 7, false, .len (.t 6), none, false, []⟩, ⟨some 8, false, .bin .sub (.t 5) (.t 7), none, false, []⟩, ⟨some 1, false, .asg (.t 8), none, false, []⟩] [1] []) (.seq (.seq (.reg false [⟨some 9, false, .mv (.t 1), none, false, []⟩, ⟨some 10, false, .bin .lss (.t 9) (.c (.int .i64 0)), none, false, []⟩] [1, 10] []) (.cond (.t 10) (.seq (.reg false [⟨some 4, false, .asg (.c (.int .i64 (-1))), none, false, []⟩] [4] []) .ret) .skip)) (.seq (.reg false [⟨some 11, false, .mv (.t 1), none, false, []⟩, ⟨some 4, false, .asg (.t 11), none, false, []⟩] [4] []) .ret)))) }
noncomputable def laws_szInt64S_D : List (Nat × Callee) := []
def laws_szInt64S_H : List (Nat × ET) := [(6, (.one (.int .i64)))]
noncomputable def laws_szInt64S_c : Callee := mkCallee laws_szInt64S_D laws_szInt64S_H laws_szInt64S_ir [.d (.one (.sl (.one (.int .i64)))), .d (.one (.int .i64))] [.d (.one (.int .i64))] []
noncomputable def laws_szInt64S (a0 : List Int) (a1 : Int) : Option (Int) := laws_szInt64S_c.f (a0, a1, ())
theorem laws_szInt64S_eq (a0 : List Int) (a1 : Int) : laws_szInt64S a0 a1 =
  if decide (IntKind.i64.wrap (a1 - (a0.length : Int)) < 0) then
   some (-1)
  else
   some (IntKind.i64.wrap (a1 - (a0.length : Int))) :=
 (mk_f _ _ _ _ _ _ _ 4000).trans (by kernel_rfl)

/- laws.szStep -/
def laws_szStep_ir : Fn := { np := 2, io := [], res := [.t 4], own := [false], body :=
 (.seq (.reg false [⟨some 2, true, .box 4 (.t 0), none, false, []⟩, ⟨some 4, false, .asg (.c (.int .i64 0)), none, false, []⟩] [1, 2] [2, 3003]) (.seq (.reg false [⟨some 5, false, .mv (.t 1), none, false, []⟩, ⟨some 6, false, .fa 0 (.t 2), none, false, []⟩, ⟨some 7, false, .ld none (.t 6), none, false, []⟩, ⟨some 8, false, .lens (.t 7), none, false, []⟩, ⟨some 9, false, .bin .sub (.t 5) (.t 8), none, false, []⟩, ⟨some 1, false, .asg (.t 9), none, false, []⟩] [1, 2] [2, 3003]) (.seq (.seq (.reg false [⟨some 10, false, .mv (.t 1), none, false, []⟩, ⟨some 11, false, .bin .lss (.t 10) (.c (.int .i64 0)), none, false, []⟩] [1, 2, 11] [2, 3003]) (.cond (.t 11) (.seq (.reg false [⟨some 4, false, .asg (.c (.int .i64 (-1))), none, false, []⟩] [4] []) .ret) .skip)) (.seq (.reg false [⟨some 12, false, .fa 3 (.t 2), none, false, []⟩, ⟨some 13, false, .ld none (.t 12), none, false, []⟩, ⟨some 14, false, .mv (.t 1), none, false, []⟩, ⟨some 15, false, .call (.c (.fn 598 [])) [.t 13, .t 14], none, false, []⟩, ⟨some 1, false, .asg (.t 15), none, false, []⟩] [1] []) (.seq (.seq (.reg false [⟨some 16, false, .mv (.t 1), none, false, []⟩, ⟨some 17, false, .bin .lss (.t 16) (.c (.int .i64 0)), none, false, []⟩] [1, 17] []) (.cond (.t 17) (.seq (.reg false [⟨some 4, false, .asg (.c (.int .i64 (-1))), none, false, []⟩] [4] []) .ret) .skip)) (.seq (.reg false [⟨some 18, false, .mv (.t 1), none, false, []⟩, ⟨some 4, false, .asg (.t 18), none, false, []⟩] [4] []) .ret)))))) }
noncomputable def laws_szStep_D : List (Nat × Callee) := [(598, laws_szInt64S_c)]
def laws_szStep_H : List (Nat × ET) := [(13, (.one (.int .i64)))]
noncomputable def laws_szStep_c : Callee := mkCallee laws_szStep_D laws_szStep_H laws_szStep_ir [.d T_Step, .d (.one (.int .i64))] [.d (.one (.int .i64))] []
noncomputable def laws_szStep (a0 : T_Step.ty) (a1 : Int) : Option (Int) := laws_szStep_c.f (a0, a1, ())
theorem laws_szStep_eq (a0 : T_Step.ty) (a1 : Int) : laws_szStep a0 a1 =
  if decide (IntKind.i64.wrap (a1 - (a0.1.length : Int)) < 0) then
   some (-1)
  else
   (laws_szInt64S a0.2.2.2.1 (IntKind.i64.wrap (a1 - (a0.1.length : Int)))).bind fun x1 =>
    if decide (x1 < 0) then
     some (-1)
    else
     some x1 :=
 (mk_f _ _ _ _ _ _ _ 4000).trans (by kernel_rfl)

/- laws.szStepS -/
def laws_szStepS_k0 : C :=
 .seq (.seq (.reg false [⟨some 12, false, .mv (.t 5), none, false, []⟩, ⟨some 13, false, .mv (.t 0), none, false, []⟩, ⟨some 14, false, .len (.t 13), none, false, []⟩, ⟨some 15, false, .bin .lss (.t 12) (.t 14), none, false, []⟩] [0, 1, 5, 15] []) (.cond (.t 15) .skip (.exit 0))) (.seq (.block 1 (.seq (.reg false [⟨some 18, false, .mv (.t 0), none, false, []⟩, ⟨some 19, false, .mv (.t 5), none, false, []⟩, ⟨some 20, false, .ia 4 (.t 18) (.t 19), none, false, []⟩, ⟨some 21, false, .ld (some 4) (.t 20), none, false, []⟩, ⟨some 22, false, .mv (.t 1), none, false, []⟩, ⟨some 23, false, .call (.c (.fn 885 [])) [.t 21, .t 22], none, false, []⟩, ⟨some 1, false, .asg (.t 23), none, false, []⟩] [0, 1, 5] []) (.seq (.reg false [⟨some 24, false, .mv (.t 1), none, false, []⟩, ⟨some 25, false, .bin .lss (.t 24) (.c (.int .i64 0)), none, false, []⟩] [0, 1, 5, 25] []) (.cond (.t 25) (.seq (.reg false [⟨some 4, false, .asg (.c (.int .i64 (-1))), none, false, []⟩] [4] []) .ret) .skip)))) (.reg false [⟨some 16, false, .mv (.t 5), none, false, []⟩, ⟨some 17, false, .bin .add (.t 16) (.c (.int .i64 1)), none, false, []⟩, ⟨some 5, false, .asg (.t 17), none, false, []⟩] [0, 1, 5] []))
def laws_szStepS_k1 : C :=
 .norm [0, 1, 5] [] laws_szStepS_k0
def laws_szStepS_k2 : C :=
 .seq (.reg false [⟨some 26, false, .mv (.t 1), none, false, []⟩, ⟨some 4, false, .asg (.t 26), none, false, []⟩] [4] []) .ret
def laws_szStepS_ir : Fn := { np := 2, io := [], res := [.t 4], own := [false], body :=
 (.seq (.reg false [⟨some 4, false, .asg (.c (.int .i64 0)), none, false, []⟩] [0, 1] []) (.seq (.reg false [⟨some 6, false, .mv (.t 1), none, false, []⟩, ⟨some 7, false, .mv (.t 0), none, false, []⟩, ⟨some 8, false, .len (.t 7), none, false, []⟩, ⟨some 9, false, .bin .sub (.t 6) (.t 8), none, false, []⟩, ⟨some 1, false, .asg (.t 9), none, false, []⟩] [0, 1] []) (.seq (.seq (.reg false [⟨some 10, false, .mv (.t 1), none, false, []⟩, ⟨some 11, false, .bin .lss (.t 10) (.c (.int .i64 0)), none, false, []⟩] [0, 1, 11] []) (.cond (.t 11) (.seq (.reg false [⟨some 4, false, .asg (.c (.int .i64 (-1))), none, false, []⟩] [4] []) .ret) .skip)) (.seq (.seq (.reg false [⟨some 5, false, .asg (.c (.int .i64 0)), none, false, []⟩] [0, 1, 5] []) (.block 0 (.loop laws_szStepS_k1))) laws_szStepS_k2)))) }
noncomputable def laws_szStepS_D : List (Nat × Callee) := [(885, laws_szStep_c)]
def laws_szStepS_H : List (Nat × ET) := [(7, T_Step), (13, T_Step), (18, T_Step)]
noncomputable def laws_szStepS_c : Callee := mkCallee laws_szStepS_D laws_szStepS_H laws_szStepS_ir [.d (.one (.sl T_Step)), .d (.one (.int .i64))] [.d (.one (.int .i64))] []
noncomputable def laws_szStepS (a0 : List T_Step.ty) (a1 : Int) : Option (Int) := laws_szStepS_c.f (a0, a1, ())
noncomputable def laws_szStepS_p0  (v0 : List T_Step.ty) (v1 : Int) (v5 : Int) : Option (Int) :=
 goL laws_szStepS_D laws_szStepS_H (vleave laws_szStepS_ir [.d (.one (.sl T_Step)), .d (.one (.int .i64))] [.d (.one (.int .i64))] [] []) [.c laws_szStepS_k0, .l laws_szStepS_k1, .e 0, .c laws_szStepS_k2]
  ⟨[(0, .sl T_Step v0), (1, .int .i64 v1), (5, .int .i64 v5)], []⟩
theorem laws_szStepS_eq (a0 : List T_Step.ty) (a1 : Int) : laws_szStepS a0 a1 =
  if decide (IntKind.i64.wrap (a1 - (a0.length : Int)) < 0) then
   some (-1)
  else
   laws_szStepS_p0 a0 (IntKind.i64.wrap (a1 - (a0.length : Int))) 0 :=
 (mk_f _ _ _ _ _ _ _ 4000).trans (by kernel_rfl)
theorem laws_szStepS_p0_eq  (v0 : List T_Step.ty) (v1 : Int) (v5 : Int) : laws_szStepS_p0 v0 v1 v5 =
  if decide (v5 < (v0.length : Int)) then
   if decide (0 ≤ v5) then
    (v0[v5.toNat]?).bind fun x1 =>
     (laws_szStep x1 v1).bind fun x2 =>
      if decide (x2 < 0) then
       some (-1)
      else
       laws_szStepS_p0 v0 x2 (IntKind.i64.wrap (v5 + 1))
   else
    none
  else
   some v1 :=
 (goL_dn _ _ _ 4000 _ _).trans (by kernel_rfl)

/- laws.szRental -/
def laws_szRental_ir : Fn := { np := 2, io := [], res := [.t 4], own := [false], body :=
 (.seq (.reg false [⟨some 2, true, .box 5 (.t 0), none, false, []⟩, ⟨some 4, false, .asg (.c (.int .i64 0)), none, false, []⟩] [1, 2] [2]) (.seq (.reg false [⟨some 5, false, .mv (.t 1), none, false, []⟩, ⟨some 6, false, .fa 0 (.t 2), none, false, []⟩, ⟨some 7, false, .ld none (.t 6), none, false, []⟩, ⟨some 8, false, .lens (.t 7), none, false, []⟩, ⟨some 9, false, .bin .sub (.t 5) (.t 8), none, false, []⟩, ⟨some 1, false, .asg (.t 9), none, false, []⟩] [1, 2] [2]) (.seq (.seq (.reg false [⟨some 10, false, .mv (.t 1), none, false, []⟩, ⟨some 11, false, .bin .lss (.t 10) (.c (.int .i64 0)), none, false, []⟩] [1, 2, 11] [2]) (.cond (.t 11) (.seq (.reg false [⟨some 4, false, .asg (.c (.int .i64 (-1))), none, false, []⟩] [4] []) .ret) .skip)) (.seq (.reg false [⟨some 12, false, .mv (.t 1), none, false, []⟩, ⟨some 13, false, .fa 1 (.t 2), none, false, []⟩, ⟨some 14, false, .ld none (.t 13), none, false, []⟩, ⟨some 15, false, .lens (.t 14), none, false, []⟩, ⟨some 16, false, .bin .sub (.t 12) (.t 15), none, false, []⟩, ⟨some 1, false, .asg (.t 16), none, false, []⟩] [1] []) (.seq (.seq (.reg false [⟨some 17, false, .mv (.t 1), none, false, []⟩, ⟨some 18, false, .bin .lss (.t 17) (.c (.int .i64 0)), none, false, []⟩] [1, 18] []) (.cond (.t 18) (.seq (.reg false [⟨some 4, false, .asg (.c (.int .i64 (-1))), none, false, []⟩] [4] []) .ret) .skip)) (.seq (.reg false [⟨some 19, false, .mv (.t 1), none, false, []⟩, ⟨some 4, false, .asg (.t 19), none, false, []⟩] [4] []) .ret)))))) }
noncomputable def laws_szRental_D : List (Nat × Callee) := []
def laws_szRental_H : List (Nat × ET) := []
noncomputable def laws_szRental_c : Callee := mkCallee laws_szRental_D laws_szRental_H laws_szRental_ir [.d T_Paper, .d (.one (.int .i64))] [.d (.one (.int .i64))] []
noncomputable def laws_szRental (a0 : T_Paper.ty) (a1 : Int) : Option (Int) := laws_szRental_c.f (a0, a1, ())
theorem laws_szRental_eq (a0 : T_Paper.ty) (a1 : Int) : laws_szRental a0 a1 =
  if decide (IntKind.i64.wrap (a1 - (a0.1.length : Int)) < 0) then
   some (-1)
  else
   if decide (IntKind.i64.wrap ((IntKind.i64.wrap (a1 - (a0.1.length : Int))) - (a0.2.1.length : Int)) < 0) then
    some (-1)
   else
    some (IntKind.i64.wrap ((IntKind.i64.wrap (a1 - (a0.1.length : Int))) - (a0.2.1.length : Int))) :=
 (mk_f _ _ _ _ _ _ _ 4000).trans (by kernel_rfl)

/- laws.szRentalS -/
def laws_szRentalS_k0 : C :=
 .seq (.seq (.reg false [⟨some 12, false, .mv (.t 5), none, false, []⟩, ⟨some 13, false, .mv (.t 0), none, false, []⟩, ⟨some 14, false, .len (.t 13), none, false, []⟩, ⟨some 15, false, .bin .lss (.t 12) (.t 14), none, false, []⟩] [0, 1, 5, 15] []) (.cond (.t 15) .skip (.exit 0))) (.seq (.block 1 (.seq (.reg false [⟨some 18, false, .mv (.t 0), none, false, []⟩, ⟨some 19, false, .mv (.t 5), none, false, []⟩, ⟨some 20, false, .ia 5 (.t 18) (.t 19), none, false, []⟩, ⟨some 21, false, .ld (some 5) (.t 20), none, false, []⟩, ⟨some 22, false, .mv (.t 1), none, false, []⟩, ⟨some 23, false, .call (.c (.fn 886 [])) [.t 21, .t 22], none, false, []⟩, ⟨some 1, false, .asg (.t 23), none, false, []⟩] [0, 1, 5] []) (.seq (.reg false [⟨some 24, false, .mv (.t 1), none, false, []⟩, ⟨some 25, false, .bin .lss (.t 24) (.c (.int .i64 0)), none, false, []⟩] [0, 1, 5, 25] []) (.cond (.t 25) (.seq (.reg false [⟨some 4, false, .asg (.c (.int .i64 (-1))), none, false, []⟩] [4] []) .ret) .skip)))) (.reg false [⟨some 16, false, .mv (.t 5), none, false, []⟩, ⟨some 17, false, .bin .add (.t 16) (.c (.int .i64 1)), none, false, []⟩, ⟨some 5, false, .asg (.t 17), none, false, []⟩] [0, 1, 5] []))
def laws_szRentalS_k1 : C :=
 .norm [0, 1, 5] [] laws_szRentalS_k0
def laws_szRentalS_k2 : C :=
 .seq (.reg false [⟨some 26, false, .mv (.t 1), none, false, []⟩, ⟨some 4, false, .asg (.t 26), none, false, []⟩] [4] []) .ret
def laws_szRentalS_ir : Fn := { np := 2, io := [], res := [.t 4], own := [false], body :=
 (.seq (.reg false [⟨some 4, false, .asg (.c (.int .i64 0)), none, false, []⟩] [0, 1] []) (.seq (.reg false [⟨some 6, false, .mv (.t 1), none, false, []⟩, ⟨some 7, false, .mv (.t 0), none, false, []⟩, ⟨some 8, false, .len (.t 7), none, false, []⟩, ⟨some 9, false, .bin .sub (.t 6) (.t 8), none, false, []⟩, ⟨some 1, false, .asg (.t 9), none, false, []⟩] [0, 1] []) (.seq (.seq (.reg false [⟨some 10, false, .mv (.t 1), none, false, []⟩, ⟨some 11, false, .bin .lss (.t 10) (.c (.int .i64 0)), none, false, []⟩] [0, 1, 11] []) (.cond (.t 11) (.seq (.reg false [⟨some 4, false, .asg (.c (.int .i64 (-1))), none, false, []⟩] [4] []) .ret) .skip)) (.seq (.seq (.reg false [⟨some 5, false, .asg (.c (.int .i64 0)), none, false, []⟩] [0, 1, 5] []) (.block 0 (.loop laws_szRentalS_k1))) laws_szRentalS_k2)))) }
noncomputable def laws_szRentalS_D : List (Nat × Callee) := [(886, laws_szRental_c)]
def laws_szRentalS_H : List (Nat × ET) := [(7, T_Paper), (13, T_Paper), (18, T_Paper)]
noncomputable def laws_szRentalS_c : Callee := mkCallee laws_szRentalS_D laws_szRentalS_H laws_szRentalS_ir [.d (.one (.sl T_Paper)), .d (.one (.int .i64))] [.d (.one (.int .i64))] []
noncomputable def laws_szRentalS (a0 : List T_Paper.ty) (a1 : Int) : Option (Int) := laws_szRentalS_c.f (a0, a1, ())
noncomputable def laws_szRentalS_p0  (v0 : List T_Paper.ty) (v1 : Int) (v5 : Int) : Option (Int) :=
 goL laws_szRentalS_D laws_szRentalS_H (vleave laws_szRentalS_ir [.d (.one (.sl T_Paper)), .d (.one (.int .i64))] [.d (.one (.int .i64))] [] []) [.c laws_szRentalS_k0, .l laws_szRentalS_k1, .e 0, .c laws_szRentalS_k2]
  ⟨[(0, .sl T_Paper v0), (1, .int .i64 v1), (5, .int .i64 v5)], []⟩
theorem laws_szRentalS_eq (a0 : List T_Paper.ty) (a1 : Int) : laws_szRentalS a0 a1 =
  if decide (IntKind.i64.wrap (a1 - (a0.length : Int)) < 0) then
   some (-1)
  else
   laws_szRentalS_p0 a0 (IntKind.i64.wrap (a1 - (a0.length : Int))) 0 :=
 (mk_f _ _ _ _ _ _ _ 4000).trans (by kernel_rfl)
theorem laws_szRentalS_p0_eq  (v0 : List T_Paper.ty) (v1 : Int) (v5 : Int) : laws_szRentalS_p0 v0 v1 v5 =
  if decide (v5 < (v0.length : Int)) then
   if decide (0 ≤ v5) then
    (v0[v5.toNat]?).bind fun x1 =>
     (laws_szRental x1 v1).bind fun x2 =>
      if decide (x2 < 0) then
       some (-1)
      else
       laws_szRentalS_p0 v0 x2 (IntKind.i64.wrap (v5 + 1))
   else
    none
  else
   some v1 :=
 (goL_dn _ _ _ 4000 _ _).trans (by kernel_rfl)

/- laws.szEntry -/
def laws_szEntry_ir : Fn := { np := 2, io := [], res := [.t 4], own := [false], body :=
 (.seq (.reg false [⟨some 2, true, .box 4 (.t 0), none, false, []⟩, ⟨some 4, false, .asg (.c (.int .i64 0)), none, false, []⟩] [1, 2] [2]) (.seq (.reg false [⟨some 5, false, .mv (.t 1), none, false, []⟩, ⟨some 6, false, .fa 1 (.t 2), none, false, []⟩, ⟨some 7, false, .ld none (.t 6), none, false, []⟩, ⟨some 8, false, .lens (.t 7), none, false, []⟩, ⟨some 9, false, .bin .sub (.t 5) (.t 8), none, false, []⟩, ⟨some 1, false, .asg (.t 9), none, false, []⟩] [1, 2] [2]) (.seq (.seq (.reg false [⟨some 10, false, .mv (.t 1), none, false, []⟩, ⟨some 11, false, .bin .lss (.t 10) (.c (.int .i64 0)), none, false, []⟩] [1, 2, 11] [2]) (.cond (.t 11) (.seq (.reg false [⟨some 4, false, .asg (.c (.int .i64 (-1))), none, false, []⟩] [4] []) .ret) .skip)) (.seq (.reg false [⟨some 12, false, .mv (.t 1), none, false, []⟩, ⟨some 13, false, .fa 2 (.t 2), none, false, []⟩, ⟨some 14, false, .ld none (.t 13), none, false, []⟩, ⟨some 15, false, .lens (.t 14), none, false, []⟩, ⟨some 16, false, .bin .sub (.t 12) (.t 15), none, false, []⟩, ⟨some 1, false, .asg (.t 16), none, false, []⟩] [1] []) (.seq (.seq (.reg false [⟨some 17, false, .mv (.t 1), none, false, []⟩, ⟨some 18, false, .bin .lss (.t 17) (.c (.int .i64 0)), none, false, []⟩] [1, 18] []) (.cond (.t 18) (.seq (.reg false [⟨some 4, false, .asg (.c (.int .i64 (-1))), none, false, []⟩] [4] []) .ret) .skip)) (.seq (.reg false [⟨some 19, false, .mv (.t 1), none, false, []⟩, ⟨some 4, false, .asg (.t 19), none, false, []⟩] [4] []) .ret)))))) }
noncomputable def laws_szEntry_D : List (Nat × Callee) := []
def laws_szEntry_H : List (Nat × ET) := []
noncomputable def laws_szEntry_c : Callee := mkCallee laws_szEntry_D laws_szEntry_H laws_szEntry_ir [.d T_Entry, .d (.one (.int .i64))] [.d (.one (.int .i64))] []
noncomputable def laws_szEntry (a0 : T_Entry.ty) (a1 : Int) : Option (Int) := laws_szEntry_c.f (a0, a1, ())
theorem laws_szEntry_eq (a0 : T_Entry.ty) (a1 : Int) : laws_szEntry a0 a1 =
  if decide (IntKind.i64.wrap (a1 - (a0.2.1.length : Int)) < 0) then
   some (-1)
  else
   if decide (IntKind.i64.wrap ((IntKind.i64.wrap (a1 - (a0.2.1.length : Int))) - (a0.2.2.1.length : Int)) < 0) then
    some (-1)
   else
    some (IntKind.i64.wrap ((IntKind.i64.wrap (a1 - (a0.2.1.length : Int))) - (a0.2.2.1.length : Int))) :=
 (mk_f _ _ _ _ _ _ _ 4000).trans (by kernel_rfl)

/- laws.szEntryS -/
def laws_szEntryS_k0 : C :=
 .seq (.seq (.reg false [⟨some 12, false, .mv (.t 5), none, false, []⟩, ⟨some 13, false, .mv (.t 0), none, false, []⟩, ⟨some 14, false, .len (.t 13), none, false, []⟩, ⟨some 15, false, .bin .lss (.t 12) (.t 14), none, false, []⟩] [0, 1, 5, 15] []) (.cond (.t 15) .skip (.exit 0))) (.seq (.block 1 (.seq (.reg false [⟨some 18, false, .mv (.t 0), none, false, []⟩, ⟨some 19, false, .mv (.t 5), none, false, []⟩, ⟨some 20, false, .ia 4 (.t 18) (.t 19), none, false, []⟩, ⟨some 21, false, .ld (some 4) (.t 20), none, false, []⟩, ⟨some 22, false, .mv (.t 1), none, false, []⟩, ⟨some 23, false, .call (.c (.fn 887 [])) [.t 21, .t 22], none, false, []⟩, ⟨some 1, false, .asg (.t 23), none, false, []⟩] [0, 1, 5] []) (.seq (.reg false [⟨some 24, false, .mv (.t 1), none, false, []⟩, ⟨some 25, false, .bin .lss (.t 24) (.c (.int .i64 0)), none, false, []⟩] [0, 1, 5, 25] []) (.cond (.t 25) (.seq (.reg false [⟨some 4, false, .asg (.c (.int .i64 (-1))), none, false, []⟩] [4] []) .ret) .skip)))) (.reg false [⟨some 16, false, .mv (.t 5), none, false, []⟩, ⟨some 17, false, .bin .add (.t 16) (.c (.int .i64 1)), none, false, []⟩, ⟨some 5, false, .asg (.t 17), none, false, []⟩] [0, 1, 5] []))
def laws_szEntryS_k1 : C :=
 .norm [0, 1, 5] [] laws_szEntryS_k0
def laws_szEntryS_k2 : C :=
 .seq (.reg false [⟨some 26, false, .mv (.t 1), none, false, []⟩, ⟨some 4, false, .asg (.t 26), none, false, []⟩] [4] []) .ret
def laws_szEntryS_ir : Fn := { np := 2, io := [], res := [.t 4], own := [false], body :=
 (.seq (.reg false [⟨some 4, false, .asg (.c (.int .i64 0)), none, false, []⟩] [0, 1] []) (.seq (.reg false [⟨some 6, false, .mv (.t 1), none, false, []⟩, ⟨some 7, false, .mv (.t 0), none, false, []⟩, ⟨some 8, false, .len (.t 7), none, false, []⟩, ⟨some 9, false, .bin .sub (.t 6) (.t 8), none, false, []⟩, ⟨some 1, false, .asg (.t 9), none, false, []⟩] [0, 1] []) (.seq (.seq (.reg false [⟨some 10, false, .mv (.t 1), none, false, []⟩, ⟨some 11, false, .bin .lss (.t 10) (.c (.int .i64 0)), none, false, []⟩] [0, 1, 11] []) (.cond (.t 11) (.seq (.reg false [⟨some 4, false, .asg (.c (.int .i64 (-1))), none, false, []⟩] [4] []) .ret) .skip)) (.seq (.seq (.reg false [⟨some 5, false, .asg (.c (.int .i64 0)), none, false, []⟩] [0, 1, 5] []) (.block 0 (.loop laws_szEntryS_k1))) laws_szEntryS_k2)))) }
noncomputable def laws_szEntryS_D : List (Nat × Callee) := [(887, laws_szEntry_c)]
def laws_szEntryS_H : List (Nat × ET) := [(7, T_Entry), (13, T_Entry), (18, T_Entry)]
noncomputable def laws_szEntryS_c : Callee := mkCallee laws_szEntryS_D laws_szEntryS_H laws_szEntryS_ir [.d (.one (.sl T_Entry)), .d (.one (.int .i64))] [.d (.one (.int .i64))] []
noncomputable def laws_szEntryS (a0 : List T_Entry.ty) (a1 : Int) : Option (Int) := laws_szEntryS_c.f (a0, a1, ())
noncomputable def laws_szEntryS_p0  (v0 : List T_Entry.ty) (v1 : Int) (v5 : Int) : Option (Int) :=
 goL laws_szEntryS_D laws_szEntryS_H (vleave laws_szEntryS_ir [.d (.one (.sl T_Entry)), .d (.one (.int .i64))] [.d (.one (.int .i64))] [] []) [.c laws_szEntryS_k0, .l laws_szEntryS_k1, .e 0, .c laws_szEntryS_k2]
  ⟨[(0, .sl T_Entry v0), (1, .int .i64 v1), (5, .int .i64 v5)], []⟩
theorem laws_szEntryS_eq (a0 : List T_Entry.ty) (a1 : Int) : laws_szEntryS a0 a1 =
  if decide (IntKind.i64.wrap (a1 - (a0.length : Int)) < 0) then
   some (-1)
  else
   laws_szEntryS_p0 a0 (IntKind.i64.wrap (a1 - (a0.length : Int))) 0 :=
 (mk_f _ _ _ _ _ _ _ 4000).trans (by kernel_rfl)
theorem laws_szEntryS_p0_eq  (v0 : List T_Entry.ty) (v1 : Int) (v5 : Int) : laws_szEntryS_p0 v0 v1 v5 =
  if decide (v5 < (v0.length : Int)) then
   if decide (0 ≤ v5) then
    (v0[v5.toNat]?).bind fun x1 =>
     (laws_szEntry x1 v1).bind fun x2 =>
      if decide (x2 < 0) then
       some (-1)
      else
       laws_szEntryS_p0 v0 x2 (IntKind.i64.wrap (v5 + 1))
   else
    none
  else
   some v1 :=
 (goL_dn _ _ _ 4000 _ _).trans (by kernel_rfl)

/- laws.szShop -/
def laws_szShop_ir : Fn := { np := 2, io := [], res := [.t 4], own := [false], body :=
 (.seq (.reg false [⟨some 2, true, .box 8 (.t 0), none, false, []⟩, ⟨some 4, false, .asg (.c (.int .i64 0)), none, false, []⟩] [1, 2] [2, 3000, 3001, 3003, 3004, 3006, 3007]) (.seq (.reg false [⟨some 5, false, .fa 0 (.t 2), none, false, []⟩, ⟨some 6, false, .ld none (.t 5), none, false, []⟩, ⟨some 7, false, .mv (.t 1), none, false, []⟩, ⟨some 8, false, .call (.c (.fn 601 [])) [.t 6, .t 7], none, false, []⟩, ⟨some 1, false, .asg (.t 8), none, false, []⟩] [1, 2] [2, 3000, 3001, 3003, 3004, 3006, 3007]) (.seq (.seq (.reg false [⟨some 9, false, .mv (.t 1), none, false, []⟩, ⟨some 10, false, .bin .lss (.t 9) (.c (.int .i64 0)), none, false, []⟩] [1, 2, 10] [2, 3000, 3001, 3003, 3004, 3006, 3007]) (.cond (.t 10) (.seq (.reg false [⟨some 4, false, .asg (.c (.int .i64 (-1))), none, false, []⟩] [4] []) .ret) .skip)) (.seq (.reg false [⟨some 11, false, .fa 1 (.t 2), none, false, []⟩, ⟨some 12, false, .ld none (.t 11), none, false, []⟩, ⟨some 13, false, .mv (.t 1), none, false, []⟩, ⟨some 14, false, .call (.c (.fn 600 [])) [.t 12, .t 13], none, false, []⟩, ⟨some 1, false, .asg (.t 14), none, false, []⟩] [1, 2] [2, 3000, 3001, 3003, 3004, 3006, 3007]) (.seq (.seq (.reg false [⟨some 15, false, .mv (.t 1), none, false, []⟩, ⟨some 16, false, .bin .lss (.t 15) (.c (.int .i64 0)), none, false, []⟩] [1, 2, 16] [2, 3000, 3001, 3003, 3004, 3006, 3007]) (.cond (.t 16) (.seq (.reg false [⟨some 4, false, .asg (.c (.int .i64 (-1))), none, false, []⟩] [4] []) .ret) .skip)) (.seq (.reg false [⟨some 17, false, .fa 3 (.t 2), none, false, []⟩, ⟨some 18, false, .ld none (.t 17), none, false, []⟩, ⟨some 19, false, .mv (.t 1), none, false, []⟩, ⟨some 20, false, .call (.c (.fn 599 [])) [.t 18, .t 19], none, false, []⟩, ⟨some 1, false, .asg (.t 20), none, false, []⟩] [1, 2] [2, 3000, 3001, 3003, 3004, 3006, 3007]) (.seq (.seq (.reg false [⟨some 21, false, .mv (.t 1), none, false, []⟩, ⟨some 22, false, .bin .lss (.t 21) (.c (.int .i64 0)), none, false, []⟩] [1, 2, 22] [2, 3000, 3001, 3003, 3004, 3006, 3007]) (.cond (.t 22) (.seq (.reg false [⟨some 4, false, .asg (.c (.int .i64 (-1))), none, false, []⟩] [4] []) .ret) .skip)) (.seq (.reg false [⟨some 23, false, .fa 4 (.t 2), none, false, []⟩, ⟨some 24, false, .ld none (.t 23), none, false, []⟩, ⟨some 25, false, .mv (.t 1), none, false, []⟩, ⟨some 26, false, .call (.c (.fn 598 [])) [.t 24, .t 25], none, false, []⟩, ⟨some 1, false, .asg (.t 26), none, false, []⟩] [1, 2] [2, 3000, 3001, 3003, 3004, 3006, 3007]) (.seq (.seq (.reg false [⟨some 27, false, .mv (.t 1), none, false, []⟩, ⟨some 28, false, .bin .lss (.t 27) (.c (.int .i64 0)), none, false, []⟩] [1, 2, 28] [2, 3000, 3001, 3003, 3004, 3006, 3007]) (.cond (.t 28) (.seq (.reg false [⟨some 4, false, .asg (.c (.int .i64 (-1))), none, false, []⟩] [4] []) .ret) .skip)) (.seq (.reg false [⟨some 29, false, .fa 6 (.t 2), none, false, []⟩, ⟨some 30, false, .ld none (.t 29), none, false, []⟩, ⟨some 31, false, .mv (.t 1), none, false, []⟩, ⟨some 32, false, .call (.c (.fn 597 [])) [.t 30, .t 31], none, false, []⟩, ⟨some 1, false, .asg (.t 32), none, false, []⟩] [1, 2] [2, 3000, 3001, 3003, 3004, 3006, 3007]) (.seq (.seq (.reg false [⟨some 33, false, .mv (.t 1), none, false, []⟩, ⟨some 34, false, .bin .lss (.t 33) (.c (.int .i64 0)), none, false, []⟩] [1, 2, 34] [2, 3000, 3001, 3003, 3004, 3006, 3007]) (.cond (.t 34) (.seq (.reg false [⟨some 4, false, .asg (.c (.int .i64 (-1))), none, false, []⟩] [4] []) .ret) .skip)) (.seq (.reg false [⟨some 35, false, .fa 7 (.t 2), none, false, []⟩, ⟨some 36, false, .ld none (.t 35), none, false, []⟩, ⟨some 37, false, .mv (.t 1), none, false, []⟩, ⟨some 38, false, .call (.c (.fn 596 [])) [.t 36, .t 37], none, false, []⟩, ⟨some 1, false, .asg (.t 38), none, false, []⟩] [1] []) (.seq (.seq (.reg false [⟨some 39, false, .mv (.t 1), none, false, []⟩, ⟨some 40, false, .bin .lss (.t 39) (.c (.int .i64 0)), none, false, []⟩] [1, 40] []) (.cond (.t 40) (.seq (.reg false [⟨some 4, false, .asg (.c (.int .i64 (-1))), none, false, []⟩] [4] []) .ret) .skip)) (.seq (.reg false [⟨some 41, false, .mv (.t 1), none, false, []⟩, ⟨some 4, false, .asg (.t 41), none, false, []⟩] [4] []) .ret)))))))))))))) }
noncomputable def laws_szShop_D : List (Nat × Callee) := [(596, laws_szEntryS_c), (597, laws_szRentalS_c), (598, laws_szInt64S_c), (599, laws_szStepS_c), (600, laws_szCordS_c), (601, laws_szArcS_c)]
def laws_szShop_H : List (Nat × ET) := [(6, T_Arc), (12, T_Neck), (18, T_Step), (24, (.one (.int .i64))), (30, T_Paper), (36, T_Entry)]
noncomputable def laws_szShop_c : Callee := mkCallee laws_szShop_D laws_szShop_H laws_szShop_ir [.d T_Shop, .d (.one (.int .i64))] [.d (.one (.int .i64))] []
noncomputable def laws_szShop (a0 : T_Shop.ty) (a1 : Int) : Option (Int) := laws_szShop_c.f (a0, a1, ())
theorem laws_szShop_eq (a0 : T_Shop.ty) (a1 : Int) : laws_szShop a0 a1 =
  (laws_szArcS a0.1 a1).bind fun x1 =>
   if decide (x1 < 0) then
    some (-1)
   else
    (laws_szCordS a0.2.1 x1).bind fun x2 =>
     if decide (x2 < 0) then
      some (-1)
     else
      (laws_szStepS a0.2.2.2.1 x2).bind fun x3 =>
       if decide (x3 < 0) then
        some (-1)
       else
        (laws_szInt64S a0.2.2.2.2.1 x3).bind fun x4 =>
         if decide (x4 < 0) then
          some (-1)
         else
          (laws_szRentalS a0.2.2.2.2.2.2.1 x4).bind fun x5 =>
           if decide (x5 < 0) then
            some (-1)
           else
            (laws_szEntryS a0.2.2.2.2.2.2.2.1 x5).bind fun x6 =>
             if decide (x6 < 0) then
              some (-1)
             else
              some x6 :=
 (mk_f _ _ _ _ _ _ _ 4000).trans (by kernel_rfl)

/- laws.toPoint -/
def laws_toPoint_ir : Fn := { np := 1, io := [], res := [.cell 2 (some 2)], own := [false], body :=
 (.seq (.reg false [⟨some 1, true, .box 2 (.t 0), none, false, []⟩, ⟨some 2, true, .alloc 2 (.agg [.int .i64 0, .int .i64 0]), none, false, []⟩] [1, 2] [1, 2]) (.seq (.reg false [⟨some 3, true, .alloc 2 (.agg [.int .i64 0, .int .i64 0]), none, false, []⟩] [1, 2, 3] [1, 2, 3]) (.seq (.reg false [⟨some 4, false, .fa 0 (.t 1), none, false, []⟩, ⟨some 5, false, .ld none (.t 4), none, false, []⟩, ⟨some 6, false, .fa 0 (.t 3), none, false, []⟩, ⟨none, true, .sto 1 (.t 6) (.t 5), none, false, []⟩] [1, 2, 3] [1, 2, 3]) (.seq (.reg false [⟨some 7, false, .fa 1 (.t 1), none, false, []⟩, ⟨some 8, false, .ld none (.t 7), none, false, []⟩, ⟨some 9, false, .fa 1 (.t 3), none, false, []⟩, ⟨none, true, .sto 1 (.t 9) (.t 8), none, false, []⟩] [2, 3] [2, 3]) (.seq (.reg false [⟨some 10, false, .ld (some 2) (.t 3), none, false, []⟩, ⟨none, true, .sto 2 (.t 2) (.t 10), none, false, []⟩] [2] [2]) .ret))))) }
noncomputable def laws_toPoint_D : List (Nat × Callee) := []
def laws_toPoint_H : List (Nat × ET) := []
noncomputable def laws_toPoint_c : Callee := mkCallee laws_toPoint_D laws_toPoint_H laws_toPoint_ir [.d T_Point] [.d T_Point] []
noncomputable def laws_toPoint (a0 : T_Point.ty) : Option (T_Point.ty) := laws_toPoint_c.f (a0, ())
theorem laws_toPoint_eq (a0 : T_Point.ty) : laws_toPoint a0 =
  some a0 :=
 (mk_f _ _ _ _ _ _ _ 4000).trans (by kernel_rfl)

/- laws.toArc -/
def laws_toArc_ir : Fn := { np := 1, io := [], res := [.cell 2 (some 6)], own := [false], body :=
 (.seq (.reg false [⟨some 1, true, .box 6 (.t 0), none, false, []⟩, ⟨some 2, true, .alloc 6 (.agg [.int .i64 0, .int .i64 0, .int .i64 0, .int .i64 0, .int .i64 0, .int .i64 0]), none, false, []⟩] [1, 2] [1, 2]) (.seq (.reg false [⟨some 3, true, .alloc 6 (.agg [.int .i64 0, .int .i64 0, .int .i64 0, .int .i64 0, .int .i64 0, .int .i64 0]), none, false, []⟩] [1, 2, 3] [1, 2, 3]) (.seq (.reg false [⟨some 4, false, .fa 0 (.t 1), none, false, []⟩, ⟨some 5, false, .ld (some 2) (.t 4), none, false, []⟩, ⟨some 6, false, .call (.c (.fn 1029 [])) [.t 5], none, false, []⟩, ⟨some 7, false, .fa 0 (.t 3), none, false, []⟩, ⟨none, true, .sto 2 (.t 7) (.t 6), none, false, []⟩] [1, 2, 3] [1, 2, 3]) (.seq (.reg false [⟨some 8, false, .fa 2 (.t 1), none, false, []⟩, ⟨some 9, false, .ld (some 2) (.t 8), none, false, []⟩, ⟨some 10, false, .call (.c (.fn 1029 [])) [.t 9], none, false, []⟩, ⟨some 11, false, .fa 2 (.t 3), none, false, []⟩, ⟨none, true, .sto 2 (.t 11) (.t 10), none, false, []⟩] [1, 2, 3] [1, 2, 3]) (.seq (.reg false [⟨some 12, false, .fa 4 (.t 1), none, false, []⟩, ⟨some 13, false, .ld (some 2) (.t 12), none, false, []⟩, ⟨some 14, false, .call (.c (.fn 1029 [])) [.t 13], none, false, []⟩, ⟨some 15, false, .fa 4 (.t 3), none, false, []⟩, ⟨none, true, .sto 2 (.t 15) (.t 14), none, false, []⟩] [2, 3] [2, 3]) (.seq (.reg false [⟨some 16, false, .ld (some 6) (.t 3), none, false, []⟩, ⟨none, true, .sto 6 (.t 2) (.t 16), none, false, []⟩] [2] [2]) .ret)))))) }
noncomputable def laws_toArc_D : List (Nat × Callee) := [(1029, laws_toPoint_c)]
def laws_toArc_H : List (Nat × ET) := []
noncomputable def laws_toArc_c : Callee := mkCallee laws_toArc_D laws_toArc_H laws_toArc_ir [.d T_Arc] [.d T_Arc] []
noncomputable def laws_toArc (a0 : T_Arc.ty) : Option (T_Arc.ty) := laws_toArc_c.f (a0, ())
theorem laws_toArc_eq (a0 : T_Arc.ty) : laws_toArc a0 =
  (laws_toPoint (a0.1, a0.2.1, ())).bind fun x1 =>
   (laws_toPoint (a0.2.2.1, a0.2.2.2.1, ())).bind fun x2 =>
    (laws_toPoint (a0.2.2.2.2.1, a0.2.2.2.2.2.1, ())).bind fun x3 =>
     some (x1.1, x1.2.1, x2.1, x2.2.1, x3.1, x3.2.1, ()) :=
 (mk_f _ _ _ _ _ _ _ 4000).trans (by kernel_rfl)

/- laws.toArcS -/
def laws_toArcS_k0 : C :=
 .seq (.seq (.reg false [⟨some 8, false, .mv (.t 4), none, false, []⟩, ⟨some 9, false, .mv (.t 0), none, false, []⟩, ⟨some 10, false, .len (.t 9), none, false, []⟩, ⟨some 11, false, .bin .lss (.t 8) (.t 10), none, false, []⟩] [0, 3, 4, 11] [3]) (.cond (.t 11) .skip (.exit 0))) (.seq (.block 1 (.reg false [⟨some 14, false, .mv (.t 3), none, false, []⟩, ⟨some 15, false, .mv (.t 4), none, false, []⟩, ⟨some 16, false, .mv (.t 0), none, false, []⟩, ⟨some 17, false, .mv (.t 4), none, false, []⟩, ⟨some 18, false, .ia 6 (.t 16) (.t 17), none, false, []⟩, ⟨some 19, false, .ld (some 6) (.t 18), none, false, []⟩, ⟨some 20, false, .call (.c (.fn 892 [])) [.t 19], none, false, []⟩, ⟨some 21, false, .ia 6 (.t 14) (.t 15), none, false, []⟩, ⟨none, true, .sto 6 (.t 21) (.t 20), none, false, []⟩] [0, 3, 4] [3])) (.reg false [⟨some 12, false, .mv (.t 4), none, false, []⟩, ⟨some 13, false, .bin .add (.t 12) (.c (.int .i64 1)), none, false, []⟩, ⟨some 4, false, .asg (.t 13), none, false, []⟩] [0, 3, 4] [3]))
def laws_toArcS_k1 : C :=
 .norm [0, 3, 4] [3] laws_toArcS_k0
def laws_toArcS_k2 : C :=
 .seq (.reg false [⟨some 22, false, .mv (.t 3), none, false, []⟩, ⟨some 2, true, .asg (.t 22), none, false, []⟩] [2] [2, 3]) .ret
def laws_toArcS_ir : Fn := { np := 1, io := [], res := [.t 2], own := [true], body :=
 (.seq (.reg false [⟨some 2, true, .asg (.c (.nils 6)), none, false, []⟩] [0] []) (.seq (.reg false [⟨some 5, false, .mv (.t 0), none, false, []⟩, ⟨some 6, false, .len (.t 5), none, false, []⟩, ⟨some 7, false, .mks 6 48 (.agg [.int .i64 0, .int .i64 0, .int .i64 0, .int .i64 0, .int .i64 0, .int .i64 0]) (.t 6) (.t 6), none, false, []⟩, ⟨some 3, true, .asg (.t 7), none, false, []⟩] [0, 3] [3]) (.seq (.seq (.reg false [⟨some 4, false, .asg (.c (.int .i64 0)), none, false, []⟩] [0, 3, 4] [3]) (.block 0 (.loop laws_toArcS_k1))) laws_toArcS_k2))) }
noncomputable def laws_toArcS_D : List (Nat × Callee) := [(892, laws_toArc_c)]
def laws_toArcS_H : List (Nat × ET) := [(2, T_Arc), (3, T_Arc), (5, T_Arc), (7, T_Arc), (9, T_Arc), (14, T_Arc), (16, T_Arc), (22, T_Arc)]
noncomputable def laws_toArcS_c : Callee := mkCallee laws_toArcS_D laws_toArcS_H laws_toArcS_ir [.d (.one (.sl T_Arc))] [.tok T_Arc] []
noncomputable def laws_toArcS (a0 : List T_Arc.ty) : Option (List T_Arc.ty) := laws_toArcS_c.f (a0, ())
noncomputable def laws_toArcS_p0  (v0 : List T_Arc.ty) (v3n : Nat) (v4 : Int) (r3 : List T_Arc.ty) : Option (List T_Arc.ty) :=
 goL laws_toArcS_D laws_toArcS_H (vleave laws_toArcS_ir [.d (.one (.sl T_Arc))] [.tok T_Arc] [] []) [.c laws_toArcS_k0, .l laws_toArcS_k1, .e 0, .c laws_toArcS_k2]
  ⟨[(0, .sl T_Arc v0), (3, .view 3 0 v3n), (4, .int .i64 v4)], [(3, some (.sl T_Arc r3))]⟩
theorem laws_toArcS_eq (a0 : List T_Arc.ty) : laws_toArcS a0 =
  if decide (0 ≤ (a0.length : Int)) && decide ((a0.length : Int) ≤ (a0.length : Int)) && decide ((a0.length : Int).toNat < lim) then
   laws_toArcS_p0 a0 ((List.replicate ((a0.length : Int).toNat) ((0, 0, 0, 0, 0, 0, ()) : T_Arc.ty)).length) 0 (List.replicate ((a0.length : Int).toNat) ((0, 0, 0, 0, 0, 0, ()) : T_Arc.ty))
  else
   none :=
 (mk_f _ _ _ _ _ _ _ 4000).trans (by kernel_rfl)
theorem laws_toArcS_p0_eq  (v0 : List T_Arc.ty) (v3n : Nat) (v4 : Int) (r3 : List T_Arc.ty) : laws_toArcS_p0 v0 v3n v4 r3 =
  if decide (v4 < (v0.length : Int)) then
   if decide (0 ≤ v4) then
    (v0[v4.toNat]?).bind fun x1 =>
     (laws_toArc x1).bind fun x2 =>
      if decide (0 ≤ v4) && decide (v4 < (v3n : Int)) then
       (r3[v4.toNat]?).bind fun x3 =>
        laws_toArcS_p0 v0 v3n (IntKind.i64.wrap (v4 + 1)) (r3.set v4.toNat x2)
      else
       none
   else
    none
  else
   some (r3.take v3n) :=
 (goL_dn _ _ _ 4000 _ _).trans (by kernel_rfl)

/- laws.toCord -/
def laws_toCord_ir : Fn := { np := 1, io := [], res := [.cell 2 (some 4)], own := [false], body :=
 (.seq (.reg false [⟨some 1, true, .box 4 (.t 0), none, false, []⟩, ⟨some 2, true, .alloc 4 (.agg [.int .i64 0, .int .i64 0, .int .i64 0, .int .i64 0]), none, false, []⟩] [1, 2] [1, 2]) (.seq (.reg false [⟨some 3, true, .alloc 4 (.agg [.int .i64 0, .int .i64 0, .int .i64 0, .int .i64 0]), none, false, []⟩] [1, 2, 3] [1, 2, 3]) (.seq (.reg false [⟨some 4, false, .fa 0 (.t 1), none, false, []⟩, ⟨some 5, false, .ld none (.t 4), none, false, []⟩, ⟨some 6, false, .fa 0 (.t 3), none, false, []⟩, ⟨none, true, .sto 1 (.t 6) (.t 5), none, false, []⟩] [1, 2, 3] [1, 2, 3]) (.seq (.reg false [⟨some 7, false, .fa 1 (.t 1), none, false, []⟩, ⟨some 8, false, .ld none (.t 7), none, false, []⟩, ⟨some 9, false, .fa 1 (.t 3), none, false, []⟩, ⟨none, true, .sto 1 (.t 9) (.t 8), none, false, []⟩] [1, 2, 3] [1, 2, 3]) (.seq (.reg false [⟨some 10, false, .fa 2 (.t 1), none, false, []⟩, ⟨some 11, false, .ld none (.t 10), none, false, []⟩, ⟨some 12, false, .fa 2 (.t 3), none, false, []⟩, ⟨none, true, .sto 1 (.t 12) (.t 11), none, false, []⟩] [1, 2, 3] [1, 2, 3]) (.seq (.reg false [⟨some 13, false, .fa 3 (.t 1), none, false, []⟩, ⟨some 14, false, .ld none (.t 13), none, false, []⟩, ⟨some 15, false, .fa 3 (.t 3), none, false, []⟩, ⟨none, true, .sto 1 (.t 15) (.t 14), none, false, []⟩] [2, 3] [2, 3]) (.seq (.reg false [⟨some 16, false, .ld (some 4) (.t 3), none, false, []⟩, ⟨none, true, .sto 4 (.t 2) (.t 16), none, false, []⟩] [2] [2]) .ret))))))) }
noncomputable def laws_toCord_D : List (Nat × Callee) := []
def laws_toCord_H : List (Nat × ET) := []
noncomputable def laws_toCord_c : Callee := mkCallee laws_toCord_D laws_toCord_H laws_toCord_ir [.d T_Neck] [.d T_Neck] []
noncomputable def laws_toCord (a0 : T_Neck.ty) : Option (T_Neck.ty) := laws_toCord_c.f (a0, ())
theorem laws_toCord_eq (a0 : T_Neck.ty) : laws_toCord a0 =
  some a0 :=
 (mk_f _ _ _ _ _ _ _ 4000).trans (by kernel_rfl)

/- laws.toCordS -/
def laws_toCordS_k0 : C :=
 .seq (.seq (.reg false [⟨some 8, false, .mv (.t 4), none, false, []⟩, ⟨some 9, false, .mv (.t 0), none, false, []⟩, ⟨some 10, false, .len (.t 9), none, false, []⟩, ⟨some 11, false, .bin .lss (.t 8) (.t 10), none, false, []⟩] [0, 3, 4, 11] [3]) (.cond (.t 11) .skip (.exit 0))) (.seq (.block 1 (.reg false [⟨some 14, false, .mv (.t 3), none, false, []⟩, ⟨some 15, false, .mv (.t 4), none, false, []⟩, ⟨some 16, false, .mv (.t 0), none, false, []⟩, ⟨some 17, false, .mv (.t 4), none, false, []⟩, ⟨some 18, false, .ia 4 (.t 16) (.t 17), none, false, []⟩, ⟨some 19, false, .ld (some 4) (.t 18), none, false, []⟩, ⟨some 20, false, .call (.c (.fn 893 [])) [.t 19], none, false, []⟩, ⟨some 21, false, .ia 4 (.t 14) (.t 15), none, false, []⟩, ⟨none, true, .sto 4 (.t 21) (.t 20), none, false, []⟩] [0, 3, 4] [3])) (.reg false [⟨some 12, false, .mv (.t 4), none, false, []⟩, ⟨some 13, false, .bin .add (.t 12) (.c (.int .i64 1)), none, false, []⟩, ⟨some 4, false, .asg (.t 13), none, false, []⟩] [0, 3, 4] [3]))
def laws_toCordS_k1 : C :=
 .norm [0, 3, 4] [3] laws_toCordS_k0
def laws_toCordS_k2 : C :=
 .seq (.reg false [⟨some 22, false, .mv (.t 3), none, false, []⟩, ⟨some 2, true, .asg (.t 22), none, false, []⟩] [2] [2, 3]) .ret
def laws_toCordS_ir : Fn := { np := 1, io := [], res := [.t 2], own := [true], body :=
 (.seq (.reg false [⟨some 2, true, .asg (.c (.nils 4)), none, false, []⟩] [0] []) (.seq (.reg false [⟨some 5, false, .mv (.t 0), none, false, []⟩, ⟨some 6, false, .len (.t 5), none, false, []⟩, ⟨some 7, false, .mks 4 32 (.agg [.int .i64 0, .int .i64 0, .int .i64 0, .int .i64 0]) (.t 6) (.t 6), none, false, []⟩, ⟨some 3, true, .asg (.t 7), none, false, []⟩] [0, 3] [3]) (.seq (.seq (.reg false [⟨some 4, false, .asg (.c (.int .i64 0)), none, false, []⟩] [0, 3, 4] [3]) (.block 0 (.loop laws_toCordS_k1))) laws_toCordS_k2))) }
noncomputable def laws_toCordS_D : List (Nat × Callee) := [(893, laws_toCord_c)]
def laws_toCordS_H : List (Nat × ET) := [(2, T_Neck), (3, T_Neck), (5, T_Neck), (7, T_Neck), (9, T_Neck), (14, T_Neck), (16, T_Neck), (22, T_Neck)]
noncomputable def laws_toCordS_c : Callee := mkCallee laws_toCordS_D laws_toCordS_H laws_toCordS_ir [.d (.one (.sl T_Neck))] [.tok T_Neck] []
noncomputable def laws_toCordS (a0 : List T_Neck.ty) : Option (List T_Neck.ty) := laws_toCordS_c.f (a0, ())
noncomputable def laws_toCordS_p0  (v0 : List T_Neck.ty) (v3n : Nat) (v4 : Int) (r3 : List T_Neck.ty) : Option (List T_Neck.ty) :=
 goL laws_toCordS_D laws_toCordS_H (vleave laws_toCordS_ir [.d (.one (.sl T_Neck))] [.tok T_Neck] [] []) [.c laws_toCordS_k0, .l laws_toCordS_k1, .e 0, .c laws_toCordS_k2]
  ⟨[(0, .sl T_Neck v0), (3, .view 3 0 v3n), (4, .int .i64 v4)], [(3, some (.sl T_Neck r3))]⟩
theorem laws_toCordS_eq (a0 : List T_Neck.ty) : laws_toCordS a0 =
  if decide (0 ≤ (a0.length : Int)) && decide ((a0.length : Int) ≤ (a0.length : Int)) && decide ((a0.length : Int).toNat < lim) then
   laws_toCordS_p0 a0 ((List.replicate ((a0.length : Int).toNat) ((0, 0, 0, 0, ()) : T_Neck.ty)).length) 0 (List.replicate ((a0.length : Int).toNat) ((0, 0, 0, 0, ()) : T_Neck.ty))
  else
   none :=
 (mk_f _ _ _ _ _ _ _ 4000).trans (by kernel_rfl)
theorem laws_toCordS_p0_eq  (v0 : List T_Neck.ty) (v3n : Nat) (v4 : Int) (r3 : List T_Neck.ty) : laws_toCordS_p0 v0 v3n v4 r3 =
  if decide (v4 < (v0.length : Int)) then
   if decide (0 ≤ v4) then
    (v0[v4.toNat]?).bind fun x1 =>
     (laws_toCord x1).bind fun x2 =>
      if decide (0 ≤ v4) && decide (v4 < (v3n : Int)) then
       (r3[v4.toNat]?).bind fun x3 =>
        laws_toCordS_p0 v0 v3n (IntKind.i64.wrap (v4 + 1)) (r3.set v4.toNat x2)
      else
       none
   else
    none
  else
   some (r3.take v3n) :=
 (goL_dn _ _ _ 4000 _ _).trans (by kernel_rfl)

/- laws.toInt64S -/
def laws_toInt64S_k0 : C :=
 .seq (.seq (.reg false [⟨some 8, false, .mv (.t 4), none, false, []⟩, ⟨some 9, false, .mv (.t 0), none, false, []⟩, ⟨some 10, false, .len (.t 9), none, false, []⟩, ⟨some 11, false, .bin .lss (.t 8) (.t 10), none, false, []⟩] [0, 3, 4, 11] [3]) (.cond (.t 11) .skip (.exit 0))) (.seq (.block 1 (.reg false [⟨some 14, false, .mv (.t 3), none, false, []⟩, ⟨some 15, false, .mv (.t 4), none, false, []⟩, ⟨some 16, false, .mv (.t 0), none, false, []⟩, ⟨some 17, false, .mv (.t 4), none, false, []⟩, ⟨some 18, false, .ia 1 (.t 16) (.t 17), none, false, []⟩, ⟨some 19, false, .ld none (.t 18), none, false, []⟩, ⟨some 20, false, .ia 1 (.t 14) (.t 15), none, false, []⟩, ⟨none, true, .sto 1 (.t 20) (.t 19), none, false, []⟩] [0, 3, 4] [3])) (.reg false [⟨some 12, false, .mv (.t 4), none, false, []⟩, ⟨some 13, false, .bin .add (.t 12) (.c (.int .i64 1)), none, false, []⟩, ⟨some 4, false, .asg (.t 13), none, false, []⟩] [0, 3, 4] [3]))
def laws_toInt64S_k1 : C :=
 .norm [0, 3, 4] [3] laws_toInt64S_k0
def laws_toInt64S_k2 : C :=
 .seq (.reg false [⟨some 21, false, .mv (.t 3), none, false, []⟩, ⟨some 2, true, .asg (.t 21), none, false, []⟩] [2] [2, 3]) .ret
def laws_toInt64S_ir : Fn := { np := 1, io := [], res := [.t 2], own := [true], body :=
 (.seq (.reg false [⟨some 2, true, .asg (.c (.nils 1)), none, false, []⟩] [0] []) (.seq (.reg false [⟨some 5, false, .mv (.t 0), none, false, []⟩, ⟨some 6, false, .len (.t 5), none, false, []⟩, ⟨some 7, false, .mks 1 8 (.int .i64 0) (.t 6) (.t 6), none, false, []⟩, ⟨some 3, true, .asg (.t 7), none, false, []⟩] [0, 3] [3]) (.seq (.seq (.reg false [⟨some 4, false, .asg (.c (.int .i64 0)), none, false, []⟩] [0, 3, 4] [3]) (.block 0 (.loop laws_toInt64S_k1))) laws_toInt64S_k2))) }
noncomputable def laws_toInt64S_D : List (Nat × Callee) := []
def laws_toInt64S_H : List (Nat × ET) := [(2, (.one (.int .i64))), (3, (.one (.int .i64))), (5, (.one (.int .i64))), (7, (.one (.int .i64))), (9, (.one (.int .i64))), (14, (.one (.int .i64))), (16, (.one (.int .i64))), (21, (.one (.int .i64)))]
noncomputable def laws_toInt64S_c : Callee := mkCallee laws_toInt64S_D laws_toInt64S_H laws_toInt64S_ir [.d (.one (.sl (.one (.int .i64))))] [.tok (.one (.int .i64))] []
noncomputable def laws_toInt64S (a0 : List Int) : Option (List Int) := laws_toInt64S_c.f (a0, ())
noncomputable def laws_toInt64S_p0  (v0 : List Int) (v3n : Nat) (v4 : Int) (r3 : List Int) : Option (List Int) :=
 goL laws_toInt64S_D laws_toInt64S_H (vleave laws_toInt64S_ir [.d (.one (.sl (.one (.int .i64))))] [.tok (.one (.int .i64))] [] []) [.c laws_toInt64S_k0, .l laws_toInt64S_k1, .e 0, .c laws_toInt64S_k2]
  ⟨[(0, .sl (.one (.int .i64)) v0), (3, .view 3 0 v3n), (4, .int .i64 v4)], [(3, some (.sl (.one (.int .i64)) r3))]⟩
theorem laws_toInt64S_eq (a0 : List Int) : laws_toInt64S a0 =
  if decide (0 ≤ (a0.length : Int)) && decide ((a0.length : Int) ≤ (a0.length : Int)) && decide ((a0.length : Int).toNat < lim) then
   laws_toInt64S_p0 a0 ((List.replicate ((a0.length : Int).toNat) (0 : Int)).length) 0 (List.replicate ((a0.length : Int).toNat) (0 : Int))
  else
   none :=
 (mk_f _ _ _ _ _ _ _ 4000).trans (by kernel_rfl)
theorem laws_toInt64S_p0_eq  (v0 : List Int) (v3n : Nat) (v4 : Int) (r3 : List Int) : laws_toInt64S_p0 v0 v3n v4 r3 =
  if decide (v4 < (v0.length : Int)) then
   if decide (0 ≤ v4) then
    (v0[v4.toNat]?).bind fun x1 =>
     if decide (0 ≤ v4) && decide (v4 < (v3n : Int)) then
      (r3[v4.toNat]?).bind fun x2 =>
       laws_toInt64S_p0 v0 v3n (IntKind.i64.wrap (v4 + 1)) (r3.set v4.toNat x1)
     else
      none
   else
    none
  else
   some (r3.take v3n) :=
 (goL_dn _ _ _ 4000 _ _).trans (by kernel_rfl)

/- laws.toStep -/
def laws_toStep_ir : Fn := { np := 1, io := [], res := [.cell 2 (some 4)], own := [false], body :=
 (.seq (.reg false [⟨some 1, true, .box 4 (.t 0), none, false, []⟩, ⟨some 2, true, .alloc 4 (.agg [.str [], .int .i64 0, .int .i64 0, .nils 1]), none, false, []⟩] [1, 2] [1, 2, 2003, 3003]) (.seq (.reg false [⟨some 3, true, .alloc 4 (.agg [.str [], .int .i64 0, .int .i64 0, .nils 1]), none, false, []⟩] [1, 2, 3] [1, 2, 3, 2003, 3003, 4003]) (.seq (.reg false [⟨some 4, false, .fa 0 (.t 1), none, false, []⟩, ⟨some 5, false, .ld none (.t 4), none, false, []⟩, ⟨some 6, false, .fa 0 (.t 3), none, false, []⟩, ⟨none, true, .sto 1 (.t 6) (.t 5), none, false, []⟩] [1, 2, 3] [1, 2, 3, 2003, 3003, 4003]) (.seq (.reg false [⟨some 7, false, .fa 1 (.t 1), none, false, []⟩, ⟨some 8, false, .ld none (.t 7), none, false, []⟩, ⟨some 9, false, .fa 1 (.t 3), none, false, []⟩, ⟨none, true, .sto 1 (.t 9) (.t 8), none, false, []⟩] [1, 2, 3] [1, 2, 3, 2003, 3003, 4003]) (.seq (.reg false [⟨some 10, false, .fa 2 (.t 1), none, false, []⟩, ⟨some 11, false, .ld none (.t 10), none, false, []⟩, ⟨some 12, false, .fa 2 (.t 3), none, false, []⟩, ⟨none, true, .sto 1 (.t 12) (.t 11), none, false, []⟩] [1, 2, 3] [1, 2, 3, 2003, 3003, 4003]) (.seq (.reg false [⟨some 13, false, .fa 3 (.t 1), none, false, []⟩, ⟨some 14, false, .ld none (.t 13), none, false, []⟩, ⟨some 15, false, .call (.c (.fn 121 [])) [.t 14], none, false, []⟩, ⟨some 16, false, .fa 3 (.t 3), none, false, []⟩, ⟨none, true, .sto 1 (.t 16) (.t 15), none, false, []⟩] [2, 3] [2, 3, 3003, 4003]) (.seq (.reg false [⟨some 17, false, .ld (some 4) (.t 3), none, false, []⟩, ⟨none, true, .sto 4 (.t 2) (.t 17), none, false, []⟩] [2] [2, 3003]) .ret))))))) }
noncomputable def laws_toStep_D : List (Nat × Callee) := [(121, laws_toInt64S_c)]
def laws_toStep_H : List (Nat × ET) := [(14, (.one (.int .i64))), (15, (.one (.int .i64)))]
noncomputable def laws_toStep_c : Callee := mkCallee laws_toStep_D laws_toStep_H laws_toStep_ir [.d T_Step] [.d T_Step] []
noncomputable def laws_toStep (a0 : T_Step.ty) : Option (T_Step.ty) := laws_toStep_c.f (a0, ())
theorem laws_toStep_eq (a0 : T_Step.ty) : laws_toStep a0 =
  (laws_toInt64S a0.2.2.2.1).bind fun x1 =>
   some (a0.1, a0.2.1, a0.2.2.1, (x1.take x1.length), ()) :=
 (mk_f _ _ _ _ _ _ _ 4000).trans (by kernel_rfl)

/- laws.toStepS -/
def laws_toStepS_k0 : C :=
 .seq (.seq (.reg false [⟨some 8, false, .mv (.t 4), none, false, []⟩, ⟨some 9, false, .mv (.t 0), none, false, []⟩, ⟨some 10, false, .len (.t 9), none, false, []⟩, ⟨some 11, false, .bin .lss (.t 8) (.t 10), none, false, []⟩] [0, 3, 4, 11] [3]) (.cond (.t 11) .skip (.exit 0))) (.seq (.block 1 (.reg false [⟨some 14, false, .mv (.t 3), none, false, []⟩, ⟨some 15, false, .mv (.t 4), none, false, []⟩, ⟨some 16, false, .mv (.t 0), none, false, []⟩, ⟨some 17, false, .mv (.t 4), none, false, []⟩, ⟨some 18, false, .ia 4 (.t 16) (.t 17), none, false, []⟩, ⟨some 19, false, .ld (some 4) (.t 18), none, false, []⟩, ⟨some 20, false, .call (.c (.fn 894 [])) [.t 19], none, false, []⟩, ⟨some 21, false, .ia 4 (.t 14) (.t 15), none, false, []⟩, ⟨none, true, .sto 4 (.t 21) (.t 20), none, false, []⟩] [0, 3, 4] [3])) (.reg false [⟨some 12, false, .mv (.t 4), none, false, []⟩, ⟨some 13, false, .bin .add (.t 12) (.c (.int .i64 1)), none, false, []⟩, ⟨some 4, false, .asg (.t 13), none, false, []⟩] [0, 3, 4] [3]))
def laws_toStepS_k1 : C :=
 .norm [0, 3, 4] [3] laws_toStepS_k0
def laws_toStepS_k2 : C :=
 .seq (.reg false [⟨some 22, false, .mv (.t 3), none, false, []⟩, ⟨some 2, true, .asg (.t 22), none, false, []⟩] [2] [2, 3]) .ret
def laws_toStepS_ir : Fn := { np := 1, io := [], res := [.t 2], own := [false], body :=
 (.seq (.reg false [⟨some 2, true, .asg (.c (.nils 4)), none, false, []⟩] [0] []) (.seq (.reg false [⟨some 5, false, .mv (.t 0), none, false, []⟩, ⟨some 6, false, .len (.t 5), none, false, []⟩, ⟨some 7, false, .mks 4 56 (.agg [.str [], .int .i64 0, .int .i64 0, .sl 1 []]) (.t 6) (.t 6), none, false, []⟩, ⟨some 3, true, .asg (.t 7), none, false, []⟩] [0, 3] [3]) (.seq (.seq (.reg false [⟨some 4, false, .asg (.c (.int .i64 0)), none, false, []⟩] [0, 3, 4] [3]) (.block 0 (.loop laws_toStepS_k1))) laws_toStepS_k2))) }
noncomputable def laws_toStepS_D : List (Nat × Callee) := [(894, laws_toStep_c)]
def laws_toStepS_H : List (Nat × ET) := [(2, T_Step), (3, T_Step), (5, T_Step), (7, T_Step), (9, T_Step), (14, T_Step), (16, T_Step), (22, T_Step)]
noncomputable def laws_toStepS_c : Callee := mkCallee laws_toStepS_D laws_toStepS_H laws_toStepS_ir [.d (.one (.sl T_Step))] [.d (.one (.sl T_Step))] []
noncomputable def laws_toStepS (a0 : List T_Step.ty) : Option (List T_Step.ty) := laws_toStepS_c.f (a0, ())
noncomputable def laws_toStepS_p0  (v0 : List T_Step.ty) (v3n : Nat) (v4 : Int) (r3 : List T_Step.ty) : Option (List T_Step.ty) :=
 goL laws_toStepS_D laws_toStepS_H (vleave laws_toStepS_ir [.d (.one (.sl T_Step))] [.d (.one (.sl T_Step))] [] []) [.c laws_toStepS_k0, .l laws_toStepS_k1, .e 0, .c laws_toStepS_k2]
  ⟨[(0, .sl T_Step v0), (3, .view 3 0 v3n), (4, .int .i64 v4)], [(3, some (.sl T_Step r3))]⟩
theorem laws_toStepS_eq (a0 : List T_Step.ty) : laws_toStepS a0 =
  if decide (0 ≤ (a0.length : Int)) && decide ((a0.length : Int) ≤ (a0.length : Int)) && decide ((a0.length : Int).toNat < lim) then
   laws_toStepS_p0 a0 ((List.replicate ((a0.length : Int).toNat) (([], 0, 0, [], ()) : T_Step.ty)).length) 0 (List.replicate ((a0.length : Int).toNat) (([], 0, 0, [], ()) : T_Step.ty))
  else
   none :=
 (mk_f _ _ _ _ _ _ _ 4000).trans (by kernel_rfl)
theorem laws_toStepS_p0_eq  (v0 : List T_Step.ty) (v3n : Nat) (v4 : Int) (r3 : List T_Step.ty) : laws_toStepS_p0 v0 v3n v4 r3 =
  if decide (v4 < (v0.length : Int)) then
   if decide (0 ≤ v4) then
    (v0[v4.toNat]?).bind fun x1 =>
     (laws_toStep x1).bind fun x2 =>
      if decide (0 ≤ v4) && decide (v4 < (v3n : Int)) then
       (r3[v4.toNat]?).bind fun x3 =>
        laws_toStepS_p0 v0 v3n (IntKind.i64.wrap (v4 + 1)) (r3.set v4.toNat x2)
      else
       none
   else
    none
  else
   some (r3.take v3n) :=
 (goL_dn _ _ _ 4000 _ _).trans (by kernel_rfl)

/- laws.toRental -/
def laws_toRental_ir : Fn := { np := 1, io := [], res := [.cell 2 (some 5)], own := [false], body :=
 (.seq (.reg false [⟨some 1, true, .box 5 (.t 0), none, false, []⟩, ⟨some 2, true, .alloc 5 (.agg [.str [], .str [], .int .i64 0, .int .i64 0, .int .i64 0]), none, false, []⟩] [1, 2] [1, 2]) (.seq (.reg false [⟨some 3, true, .alloc 5 (.agg [.str [], .str [], .int .i64 0, .int .i64 0, .int .i64 0]), none, false, []⟩] [1, 2, 3] [1, 2, 3]) (.seq (.reg false [⟨some 4, false, .fa 0 (.t 1), none, false, []⟩, ⟨some 5, false, .ld none (.t 4), none, false, []⟩, ⟨some 6, false, .fa 0 (.t 3), none, false, []⟩, ⟨none, true, .sto 1 (.t 6) (.t 5), none, false, []⟩] [1, 2, 3] [1, 2, 3]) (.seq (.reg false [⟨some 7, false, .fa 1 (.t 1), none, false, []⟩, ⟨some 8, false, .ld none (.t 7), none, false, []⟩, ⟨some 9, false, .fa 1 (.t 3), none, false, []⟩, ⟨none, true, .sto 1 (.t 9) (.t 8), none, false, []⟩] [1, 2, 3] [1, 2, 3]) (.seq (.reg false [⟨some 10, false, .fa 2 (.t 1), none, false, []⟩, ⟨some 11, false, .ld none (.t 10), none, false, []⟩, ⟨some 12, false, .fa 2 (.t 3), none, false, []⟩, ⟨none, true, .sto 1 (.t 12) (.t 11), none, false, []⟩] [1, 2, 3] [1, 2, 3]) (.seq (.reg false [⟨some 13, false, .fa 3 (.t 1), none, false, []⟩, ⟨some 14, false, .ld none (.t 13), none, false, []⟩, ⟨some 15, false, .fa 3 (.t 3), none, false, []⟩, ⟨none, true, .sto 1 (.t 15) (.t 14), none, false, []⟩] [1, 2, 3] [1, 2, 3]) (.seq (.reg false [⟨some 16, false, .fa 4 (.t 1), none, false, []⟩, ⟨some 17, false, .ld none (.t 16), none, false, []⟩, ⟨some 18, false, .fa 4 (.t 3), none, false, []⟩, ⟨none, true, .sto 1 (.t 18) (.t 17), none, false, []⟩] [2, 3] [2, 3]) (.seq (.reg false [⟨some 19, false, .ld (some 5) (.t 3), none, false, []⟩, ⟨none, true, .sto 5 (.t 2) (.t 19), none, false, []⟩] [2] [2]) .ret)))))))) }
noncomputable def laws_toRental_D : List (Nat × Callee) := []
def laws_toRental_H : List (Nat × ET) := []
noncomputable def laws_toRental_c : Callee := mkCallee laws_toRental_D laws_toRental_H laws_toRental_ir [.d T_Paper] [.d T_Paper] []
noncomputable def laws_toRental (a0 : T_Paper.ty) : Option (T_Paper.ty) := laws_toRental_c.f (a0, ())
theorem laws_toRental_eq (a0 : T_Paper.ty) : laws_toRental a0 =
  some a0 :=
 (mk_f _ _ _ _ _ _ _ 4000).trans (by kernel_rfl)

/- laws.toRentalS -/
def laws_toRentalS_k0 : C :=
 .seq (.seq (.reg false [⟨some 8, false, .mv (.t 4), none, false, []⟩, ⟨some 9, false, .mv (.t 0), none, false, []⟩, ⟨some 10, false, .len (.t 9), none, false, []⟩, ⟨some 11, false, .bin .lss (.t 8) (.t 10), none, false, []⟩] [0, 3, 4, 11] [3]) (.cond (.t 11) .skip (.exit 0))) (.seq (.block 1 (.reg false [⟨some 14, false, .mv (.t 3), none, false, []⟩, ⟨some 15, false, .mv (.t 4), none, false, []⟩, ⟨some 16, false, .mv (.t 0), none, false, []⟩, ⟨some 17, false, .mv (.t 4), none, false, []⟩, ⟨some 18, false, .ia 5 (.t 16) (.t 17), none, false, []⟩, ⟨some 19, false, .ld (some 5) (.t 18), none, false, []⟩, ⟨some 20, false, .call (.c (.fn 895 [])) [.t 19], none, false, []⟩, ⟨some 21, false, .ia 5 (.t 14) (.t 15), none, false, []⟩, ⟨none, true, .sto 5 (.t 21) (.t 20), none, false, []⟩] [0, 3, 4] [3])) (.reg false [⟨some 12, false, .mv (.t 4), none, false, []⟩, ⟨some 13, false, .bin .add (.t 12) (.c (.int .i64 1)), none, false, []⟩, ⟨some 4, false, .asg (.t 13), none, false, []⟩] [0, 3, 4] [3]))
def laws_toRentalS_k1 : C :=
 .norm [0, 3, 4] [3] laws_toRentalS_k0
def laws_toRentalS_k2 : C :=
 .seq (.reg false [⟨some 22, false, .mv (.t 3), none, false, []⟩, ⟨some 2, true, .asg (.t 22), none, false, []⟩] [2] [2, 3]) .ret
def laws_toRentalS_ir : Fn := { np := 1, io := [], res := [.t 2], own := [true], body :=
 (.seq (.reg false [⟨some 2, true, .asg (.c (.nils 5)), none, false, []⟩] [0] []) (.seq (.reg false [⟨some 5, false, .mv (.t 0), none, false, []⟩, ⟨some 6, false, .len (.t 5), none, false, []⟩, ⟨some 7, false, .mks 5 56 (.agg [.str [], .str [], .int .i64 0, .int .i64 0, .int .i64 0]) (.t 6) (.t 6), none, false, []⟩, ⟨some 3, true, .asg (.t 7), none, false, []⟩] [0, 3] [3]) (.seq (.seq (.reg false [⟨some 4, false, .asg (.c (.int .i64 0)), none, false, []⟩] [0, 3, 4] [3]) (.block 0 (.loop laws_toRentalS_k1))) laws_toRentalS_k2))) }
noncomputable def laws_toRentalS_D : List (Nat × Callee) := [(895, laws_toRental_c)]
def laws_toRentalS_H : List (Nat × ET) := [(2, T_Paper), (3, T_Paper), (5, T_Paper), (7, T_Paper), (9, T_Paper), (14, T_Paper), (16, T_Paper), (22, T_Paper)]
noncomputable def laws_toRentalS_c : Callee := mkCallee laws_toRentalS_D laws_toRentalS_H laws_toRentalS_ir [.d (.one (.sl T_Paper))] [.tok T_Paper] []
noncomputable def laws_toRentalS (a0 : List T_Paper.ty) : Option (List T_Paper.ty) := laws_toRentalS_c.f (a0, ())
noncomputable def laws_toRentalS_p0  (v0 : List T_Paper.ty) (v3n : Nat) (v4 : Int) (r3 : List T_Paper.ty) : Option (List T_Paper.ty) :=
 goL laws_toRentalS_D laws_toRentalS_H (vleave laws_toRentalS_ir [.d (.one (.sl T_Paper))] [.tok T_Paper] [] []) [.c laws_toRentalS_k0, .l laws_toRentalS_k1, .e 0, .c laws_toRentalS_k2]
  ⟨[(0, .sl T_Paper v0), (3, .view 3 0 v3n), (4, .int .i64 v4)], [(3, some (.sl T_Paper r3))]⟩
theorem laws_toRentalS_eq (a0 : List T_Paper.ty) : laws_toRentalS a0 =
  if decide (0 ≤ (a0.length : Int)) && decide ((a0.length : Int) ≤ (a0.length : Int)) && decide ((a0.length : Int).toNat < lim) then
   laws_toRentalS_p0 a0 ((List.replicate ((a0.length : Int).toNat) (([], [], 0, 0, 0, ()) : T_Paper.ty)).length) 0 (List.replicate ((a0.length : Int).toNat) (([], [], 0, 0, 0, ()) : T_Paper.ty))
  else
   none :=
 (mk_f _ _ _ _ _ _ _ 4000).trans (by kernel_rfl)
theorem laws_toRentalS_p0_eq  (v0 : List T_Paper.ty) (v3n : Nat) (v4 : Int) (r3 : List T_Paper.ty) : laws_toRentalS_p0 v0 v3n v4 r3 =
  if decide (v4 < (v0.length : Int)) then
   if decide (0 ≤ v4) then
    (v0[v4.toNat]?).bind fun x1 =>
     (laws_toRental x1).bind fun x2 =>
      if decide (0 ≤ v4) && decide (v4 < (v3n : Int)) then
       (r3[v4.toNat]?).bind fun x3 =>
        laws_toRentalS_p0 v0 v3n (IntKind.i64.wrap (v4 + 1)) (r3.set v4.toNat x2)
      else
       none
   else
    none
  else
   some (r3.take v3n) :=
 (goL_dn _ _ _ 4000 _ _).trans (by kernel_rfl)

/- laws.toEntry -/
def laws_toEntry_ir : Fn := { np := 1, io := [], res := [.cell 2 (some 4)], own := [false], body :=
 (.seq (.reg false [⟨some 1, true, .box 4 (.t 0), none, false, []⟩, ⟨some 2, true, .alloc 4 (.agg [.int .i64 0, .str [], .str [], .int .i64 0]), none, false, []⟩] [1, 2] [1, 2]) (.seq (.reg false [⟨some 3, true, .alloc 4 (.agg [.int .i64 0, .str [], .str [], .int .i64 0]), none, false, []⟩] [1, 2, 3] [1, 2, 3]) (.seq (.reg false [⟨some 4, false, .fa 0 (.t 1), none, false, []⟩, ⟨some 5, false, .ld none (.t 4), none, false, []⟩, ⟨some 6, false, .fa 0 (.t 3), none, false, []⟩, ⟨none, true, .sto 1 (.t 6) (.t 5), none, false, []⟩] [1, 2, 3] [1, 2, 3]) (.seq (.reg false [⟨some 7, false, .fa 1 (.t 1), none, false, []⟩, ⟨some 8, false, .ld none (.t 7), none, false, []⟩, ⟨some 9, false, .fa 1 (.t 3), none, false, []⟩, ⟨none, true, .sto 1 (.t 9) (.t 8), none, false, []⟩] [1, 2, 3] [1, 2, 3]) (.seq (.reg false [⟨some 10, false, .fa 2 (.t 1), none, false, []⟩, ⟨some 11, false, .ld none (.t 10), none, false, []⟩, ⟨some 12, false, .fa 2 (.t 3), none, false, []⟩, ⟨none, true, .sto 1 (.t 12) (.t 11), none, false, []⟩] [1, 2, 3] [1, 2, 3]) (.seq (.reg false [⟨some 13, false, .fa 3 (.t 1), none, false, []⟩, ⟨some 14, false, .ld none (.t 13), none, false, []⟩, ⟨some 15, false, .fa 3 (.t 3), none, false, []⟩, ⟨none, true, .sto 1 (.t 15) (.t 14), none, false, []⟩] [2, 3] [2, 3]) (.seq (.reg false [⟨some 16, false, .ld (some 4) (.t 3), none, false, []⟩, ⟨none, true, .sto 4 (.t 2) (.t 16), none, false, []⟩] [2] [2]) .ret))))))) }
noncomputable def laws_toEntry_D : List (Nat × Callee) := []
def laws_toEntry_H : List (Nat × ET) := []
noncomputable def laws_toEntry_c : Callee := mkCallee laws_toEntry_D laws_toEntry_H laws_toEntry_ir [.d T_Entry] [.d T_Entry] []
noncomputable def laws_toEntry (a0 : T_Entry.ty) : Option (T_Entry.ty) := laws_toEntry_c.f (a0, ())
theorem laws_toEntry_eq (a0 : T_Entry.ty) : laws_toEntry a0 =
  some a0 :=
 (mk_f _ _ _ _ _ _ _ 4000).trans (by kernel_rfl)

/- laws.toEntryS -/
def laws_toEntryS_k0 : C :=
 .seq (.seq (.reg false [⟨some 8, false, .mv (.t 4), none, false, []⟩, ⟨some 9, false, .mv (.t 0), none, false, []⟩, ⟨some 10, false, .len (.t 9), none, false, []⟩, ⟨some 11, false, .bin .lss (.t 8) (.t 10), none, false, []⟩] [0, 3, 4, 11] [3]) (.cond (.t 11) .skip (.exit 0))) (.seq (.block 1 (.reg false [⟨some 14, false, .mv (.t 3), none, false, []⟩, ⟨some 15, false, .mv (.t 4), none, false, []⟩, ⟨some 16, false, .mv (.t 0), none, false, []⟩, ⟨some 17, false, .mv (.t 4), none, false, []⟩, ⟨some 18, false, .ia 4 (.t 16) (.t 17), none, false, []⟩, ⟨some 19, false, .ld (some 4) (.t 18), none, false, []⟩, ⟨some 20, false, .call (.c (.fn 896 [])) [.t 19], none, false, []⟩, ⟨some 21, false, .ia 4 (.t 14) (.t 15), none, false, []⟩, ⟨none, true, .sto 4 (.t 21) (.t 20), none, false, []⟩] [0, 3, 4] [3])) (.reg false [⟨some 12, false, .mv (.t 4), none, false, []⟩, ⟨some 13, false, .bin .add (.t 12) (.c (.int .i64 1)), none, false, []⟩, ⟨some 4, false, .asg (.t 13), none, false, []⟩] [0, 3, 4] [3]))
def laws_toEntryS_k1 : C :=
 .norm [0, 3, 4] [3] laws_toEntryS_k0
def laws_toEntryS_k2 : C :=
 .seq (.reg false [⟨some 22, false, .mv (.t 3), none, false, []⟩, ⟨some 2, true, .asg (.t 22), none, false, []⟩] [2] [2, 3]) .ret
def laws_toEntryS_ir : Fn := { np := 1, io := [], res := [.t 2], own := [true], body :=
 (.seq (.reg false [⟨some 2, true, .asg (.c (.nils 4)), none, false, []⟩] [0] []) (.seq (.reg false [⟨some 5, false, .mv (.t 0), none, false, []⟩, ⟨some 6, false, .len (.t 5), none, false, []⟩, ⟨some 7, false, .mks 4 48 (.agg [.int .i64 0, .str [], .str [], .int .i64 0]) (.t 6) (.t 6), none, false, []⟩, ⟨some 3, true, .asg (.t 7), none, false, []⟩] [0, 3] [3]) (.seq (.seq (.reg false [⟨some 4, false, .asg (.c (.int .i64 0)), none, false, []⟩] [0, 3, 4] [3]) (.block 0 (.loop laws_toEntryS_k1))) laws_toEntryS_k2))) }
noncomputable def laws_toEntryS_D : List (Nat × Callee) := [(896, laws_toEntry_c)]
def laws_toEntryS_H : List (Nat × ET) := [(2, T_Entry), (3, T_Entry), (5, T_Entry), (7, T_Entry), (9, T_Entry), (14, T_Entry), (16, T_Entry), (22, T_Entry)]
noncomputable def laws_toEntryS_c : Callee := mkCallee laws_toEntryS_D laws_toEntryS_H laws_toEntryS_ir [.d (.one (.sl T_Entry))] [.tok T_Entry] []
noncomputable def laws_toEntryS (a0 : List T_Entry.ty) : Option (List T_Entry.ty) := laws_toEntryS_c.f (a0, ())
noncomputable def laws_toEntryS_p0  (v0 : List T_Entry.ty) (v3n : Nat) (v4 : Int) (r3 : List T_Entry.ty) : Option (List T_Entry.ty) :=
 goL laws_toEntryS_D laws_toEntryS_H (vleave laws_toEntryS_ir [.d (.one (.sl T_Entry))] [.tok T_Entry] [] []) [.c laws_toEntryS_k0, .l laws_toEntryS_k1, .e 0, .c laws_toEntryS_k2]
  ⟨[(0, .sl T_Entry v0), (3, .view 3 0 v3n), (4, .int .i64 v4)], [(3, some (.sl T_Entry r3))]⟩
theorem laws_toEntryS_eq (a0 : List T_Entry.ty) : laws_toEntryS a0 =
  if decide (0 ≤ (a0.length : Int)) && decide ((a0.length : Int) ≤ (a0.length : Int)) && decide ((a0.length : Int).toNat < lim) then
   laws_toEntryS_p0 a0 ((List.replicate ((a0.length : Int).toNat) ((0, [], [], 0, ()) : T_Entry.ty)).length) 0 (List.replicate ((a0.length : Int).toNat) ((0, [], [], 0, ()) : T_Entry.ty))
  else
   none :=
 (mk_f _ _ _ _ _ _ _ 4000).trans (by kernel_rfl)
theorem laws_toEntryS_p0_eq  (v0 : List T_Entry.ty) (v3n : Nat) (v4 : Int) (r3 : List T_Entry.ty) : laws_toEntryS_p0 v0 v3n v4 r3 =
  if decide (v4 < (v0.length : Int)) then
   if decide (0 ≤ v4) then
    (v0[v4.toNat]?).bind fun x1 =>
     (laws_toEntry x1).bind fun x2 =>
      if decide (0 ≤ v4) && decide (v4 < (v3n : Int)) then
       (r3[v4.toNat]?).bind fun x3 =>
        laws_toEntryS_p0 v0 v3n (IntKind.i64.wrap (v4 + 1)) (r3.set v4.toNat x2)
      else
       none
   else
    none
  else
   some (r3.take v3n) :=
 (goL_dn _ _ _ 4000 _ _).trans (by kernel_rfl)

/- laws.toShop -/
def laws_toShop_ir : Fn := { np := 1, io := [], res := [.cell 2 (some 8)], own := [false], body :=
 (.seq (.reg false [⟨some 1, true, .box 8 (.t 0), none, false, []⟩, ⟨some 2, true, .alloc 8 (.agg [.nils 6, .nils 4, .int .i64 0, .nils 4, .nils 1, .int .i64 0, .nils 5, .nils 4]), none, false, []⟩] [1, 2] [1, 2, 2000, 2001, 2003, 2004, 2006, 2007, 3000, 3001, 3003, 3004, 3006, 3007]) (.seq (.reg false [⟨some 3, true, .alloc 8 (.agg [.nils 6, .nils 4, .int .i64 0, .nils 4, .nils 1, .int .i64 0, .nils 5, .nils 4]), none, false, []⟩] [1, 2, 3] [1, 2, 3, 2000, 2001, 2003, 2004, 2006, 2007, 3000, 3001, 3003, 3004, 3006, 3007, 4000, 4001, 4003, 4004, 4006, 4007]) (.seq (.reg false [⟨some 4, false, .fa 0 (.t 1), none, false, []⟩, ⟨some 5, false, .ld none (.t 4), none, false, []⟩, ⟨some 6, false, .call (.c (.fn 607 [])) [.t 5], none, false, []⟩, ⟨some 7, false, .fa 0 (.t 3), none, false, []⟩, ⟨none, true, .sto 1 (.t 7) (.t 6), none, false, []⟩] [1, 2, 3] [1, 2, 3, 2000, 2001, 2003, 2004, 2006, 2007, 3000, 3001, 3003, 3004, 3006, 3007, 4000, 4001, 4003, 4004, 4006, 4007]) (.seq (.reg false [⟨some 8, false, .fa 1 (.t 1), none, false, []⟩, ⟨some 9, false, .ld none (.t 8), none, false, []⟩, ⟨some 10, false, .call (.c (.fn 606 [])) [.t 9], none, false, []⟩, ⟨some 11, false, .fa 1 (.t 3), none, false, []⟩, ⟨none, true, .sto 1 (.t 11) (.t 10), none, false, []⟩] [1, 2, 3] [1, 2, 3, 2000, 2001, 2003, 2004, 2006, 2007, 3000, 3001, 3003, 3004, 3006, 3007, 4000, 4001, 4003, 4004, 4006, 4007]) (.seq (.reg false [⟨some 12, false, .fa 2 (.t 1), none, false, []⟩, ⟨some 13, false, .ld none (.t 12), none, false, []⟩, ⟨some 14, false, .fa 2 (.t 3), none, false, []⟩, ⟨none, true, .sto 1 (.t 14) (.t 13), none, false, []⟩] [1, 2, 3] [1, 2, 3, 2000, 2001, 2003, 2004, 2006, 2007, 3000, 3001, 3003, 3004, 3006, 3007, 4000, 4001, 4003, 4004, 4006, 4007]) (.seq (.reg false [⟨some 15, false, .fa 3 (.t 1), none, false, []⟩, ⟨some 16, false, .ld none (.t 15), none, false, []⟩, ⟨some 17, false, .call (.c (.fn 605 [])) [.t 16], none, false, []⟩, ⟨some 18, false, .fa 3 (.t 3), none, false, []⟩, ⟨none, true, .sto 1 (.t 18) (.t 17), none, false, []⟩] [1, 2, 3] [1, 2, 3, 2000, 2001, 2003, 2004, 2006, 2007, 3000, 3001, 3003, 3004, 3006, 3007, 4000, 4001, 4003, 4004, 4006, 4007]) (.seq (.reg false [⟨some 19, false, .fa 4 (.t 1), none, false, []⟩, ⟨some 20, false, .ld none (.t 19), none, false, []⟩, ⟨some 21, false, .call (.c (.fn 121 [])) [.t 20], none, false, []⟩, ⟨some 22, false, .fa 4 (.t 3), none, false, []⟩, ⟨none, true, .sto 1 (.t 22) (.t 21), none, false, []⟩] [1, 2, 3] [1, 2, 3, 2000, 2001, 2003, 2004, 2006, 2007, 3000, 3001, 3003, 3004, 3006, 3007, 4000, 4001, 4003, 4004, 4006, 4007]) (.seq (.reg false [⟨some 23, false, .fa 5 (.t 1), none, false, []⟩, ⟨some 24, false, .ld none (.t 23), none, false, []⟩, ⟨some 25, false, .fa 5 (.t 3), none, false, []⟩, ⟨none, true, .sto 1 (.t 25) (.t 24), none, false, []⟩] [1, 2, 3] [1, 2, 3, 2000, 2001, 2003, 2004, 2006, 2007, 3000, 3001, 3003, 3004, 3006, 3007, 4000, 4001, 4003, 4004, 4006, 4007]) (.seq (.reg false [⟨some 26, false, .fa 6 (.t 1), none, false, []⟩, ⟨some 27, false, .ld none (.t 26), none, false, []⟩, ⟨some 28, false, .call (.c (.fn 604 [])) [.t 27], none, false, []⟩, ⟨some 29, false, .fa 6 (.t 3), none, false, []⟩, ⟨none, true, .sto 1 (.t 29) (.t 28), none, false, []⟩] [1, 2, 3] [1, 2, 3, 2000, 2001, 2003, 2004, 2006, 2007, 3000, 3001, 3003, 3004, 3006, 3007, 4000, 4001, 4003, 4004, 4006, 4007]) (.seq (.reg false [⟨some 30, false, .fa 7 (.t 1), none, false, []⟩, ⟨some 31, false, .ld none (.t 30), none, false, []⟩, ⟨some 32, false, .call (.c (.fn 603 [])) [.t 31], none, false, []⟩, ⟨some 33, false, .fa 7 (.t 3), none, false, []⟩, ⟨none, true, .sto 1 (.t 33) (.t 32), none, false, []⟩] [2, 3] [2, 3, 3000, 3001, 3003, 3004, 3006, 3007, 4000, 4001, 4003, 4004, 4006, 4007]) (.seq (.reg false [⟨some 34, false, .ld (some 8) (.t 3), none, false, []⟩, ⟨none, true, .sto 8 (.t 2) (.t 34), none, false, []⟩] [2] [2, 3000, 3001, 3003, 3004, 3006, 3007]) .ret))))))))))) }
noncomputable def laws_toShop_D : List (Nat × Callee) := [(121, laws_toInt64S_c), (603, laws_toEntryS_c), (604, laws_toRentalS_c), (605, laws_toStepS_c), (606, laws_toCordS_c), (607, laws_toArcS_c)]
def laws_toShop_H : List (Nat × ET) := [(5, T_Arc), (6, T_Arc), (9, T_Neck), (10, T_Neck), (16, T_Step), (17, T_Step), (20, (.one (.int .i64))), (21, (.one (.int .i64))), (27, T_Paper), (28, T_Paper), (31, T_Entry), (32, T_Entry)]
noncomputable def laws_toShop_c : Callee := mkCallee laws_toShop_D laws_toShop_H laws_toShop_ir [.d T_Shop] [.d T_Shop] []
noncomputable def laws_toShop (a0 : T_Shop.ty) : Option (T_Shop.ty) := laws_toShop_c.f (a0, ())
theorem laws_toShop_eq (a0 : T_Shop.ty) : laws_toShop a0 =
  (laws_toArcS a0.1).bind fun x1 =>
   (laws_toCordS a0.2.1).bind fun x2 =>
    (laws_toStepS a0.2.2.2.1).bind fun x3 =>
     (laws_toInt64S a0.2.2.2.2.1).bind fun x4 =>
      (laws_toRentalS a0.2.2.2.2.2.2.1).bind fun x5 =>
       (laws_toEntryS a0.2.2.2.2.2.2.2.1).bind fun x6 =>
        some ((x1.take x1.length), (x2.take x2.length), a0.2.2.1, x3, (x4.take x4.length), a0.2.2.2.2.2.1, (x5.take x5.length), (x6.take x6.length), ()) :=
 (mk_f _ _ _ _ _ _ _ 4000).trans (by kernel_rfl)

/- spec.l00In -/
def spec_l00In_ir : Fn := { np := 3, io := [], res := [.t 6], own := [false], body :=
 (.seq (.reg false [⟨some 6, false, .asg (.c (.bool false)), none, false, []⟩] [0, 1, 2] []) (.seq (.reg false [⟨some 7, false, .mv (.t 0), none, false, []⟩, ⟨some 8, false, .mv (.t 1), none, false, []⟩, ⟨some 9, false, .bin .geq (.t 7) (.t 8), none, false, []⟩, ⟨some 10, false, .mv (.t 9), none, false, []⟩, ⟨some 11, false, .mv (.t 0), some (3, true), false, []⟩, ⟨some 12, false, .mv (.t 2), some (3, true), false, []⟩, ⟨some 13, false, .bin .leq (.t 11) (.t 12), some (3, true), false, []⟩, ⟨some 14, false, .pick (.t 10) (.t 13) (.c (.bool false)), none, false, []⟩, ⟨some 6, false, .asg (.t 14), none, false, []⟩] [6] []) .ret)) }
noncomputable def spec_l00In_D : List (Nat × Callee) := []
def spec_l00In_H : List (Nat × ET) := []
noncomputable def spec_l00In_c : Callee := mkCallee spec_l00In_D spec_l00In_H spec_l00In_ir [.d (.one (.int .i64)), .d (.one (.int .i64)), .d (.one (.int .i64))] [.d (.one .bool)] []
noncomputable def spec_l00In (a0 : Int) (a1 : Int) (a2 : Int) : Option (Bool) := spec_l00In_c.f (a0, a1, a2, ())
theorem spec_l00In_eq (a0 : Int) (a1 : Int) (a2 : Int) : spec_l00In a0 a1 a2 =
  if decide (a0 ≥ a1) then
   some (decide (a0 ≤ a2))
  else
   some false :=
 (mk_f _ _ _ _ _ _ _ 4000).trans (by kernel_rfl)

/- spec.l05Point -/
def spec_l05Point_ir : Fn := { np := 1, io := [], res := [.t 2], own := [false], body :=
 (.seq (.reg false [⟨some 1, true, .box 2 (.t 0), none, false, []⟩, ⟨some 2, false, .asg (.c (.bool false)), none, false, []⟩] [1] [1]) (.seq (.reg false [⟨some 3, false, .fa 0 (.t 1), none, false, []⟩, ⟨some 4, false, .ld none (.t 3), none, false, []⟩, ⟨some 5, false, .call (.c (.fn 1 [])) [.t 4, .c (.int .i64 (-100000)), .c (.int .i64 100000)], none, false, []⟩, ⟨some 6, false, .mv (.t 5), none, false, []⟩, ⟨some 7, false, .fa 1 (.t 1), some (3, true), false, []⟩, ⟨some 8, false, .ld none (.t 7), some (3, true), false, []⟩, ⟨some 9, false, .call (.c (.fn 1 [])) [.t 8, .c (.int .i64 (-100000)), .c (.int .i64 100000)], some (3, true), false, []⟩, ⟨some 10, false, .pick (.t 6) (.t 9) (.c (.bool false)), none, false, []⟩, ⟨some 2, false, .asg (.t 10), none, false, []⟩] [2] []) .ret)) }
noncomputable def spec_l05Point_D : List (Nat × Callee) := [(1, spec_l00In_c)]
def spec_l05Point_H : List (Nat × ET) := []
noncomputable def spec_l05Point_c : Callee := mkCallee spec_l05Point_D spec_l05Point_H spec_l05Point_ir [.d T_Point] [.d (.one .bool)] []
noncomputable def spec_l05Point (a0 : T_Point.ty) : Option (Bool) := spec_l05Point_c.f (a0, ())
theorem spec_l05Point_eq (a0 : T_Point.ty) : spec_l05Point a0 =
  (spec_l00In a0.1 (-100000) 100000).bind fun x1 =>
   if x1 then
    (spec_l00In a0.2.1 (-100000) 100000).bind fun x2 =>
     some x2
   else
    some false :=
 (mk_f _ _ _ _ _ _ _ 4000).trans (by kernel_rfl)

/- spec.l05Square -/
def spec_l05Square_ir : Fn := { np := 2, io := [], res := [.t 4], own := [false], body :=
 (.seq (.reg false [⟨some 2, true, .box 2 (.t 0), none, false, []⟩, ⟨some 3, true, .box 2 (.t 1), none, false, []⟩, ⟨some 4, false, .asg (.c (.int .i64 0)), none, false, []⟩] [2, 3] [2, 3]) (.seq (.reg false [⟨some 5, false, .fa 0 (.t 2), none, false, []⟩, ⟨some 6, false, .ld none (.t 5), none, false, []⟩, ⟨some 7, false, .fa 0 (.t 3), none, false, []⟩, ⟨some 8, false, .ld none (.t 7), none, false, []⟩, ⟨some 9, false, .bin .sub (.t 6) (.t 8), none, false, []⟩, ⟨some 10, false, .fa 0 (.t 2), none, false, []⟩, ⟨some 11, false, .ld none (.t 10), none, false, []⟩, ⟨some 12, false, .fa 0 (.t 3), none, false, []⟩, ⟨some 13, false, .ld none (.t 12), none, false, []⟩, ⟨some 14, false, .bin .sub (.t 11) (.t 13), none, false, []⟩, ⟨some 15, false, .bin .mul (.t 9) (.t 14), none, false, []⟩, ⟨some 16, false, .fa 1 (.t 2), none, false, []⟩, ⟨some 17, false, .ld none (.t 16), none, false, []⟩, ⟨some 18, false, .fa 1 (.t 3), none, false, []⟩, ⟨some 19, false, .ld none (.t 18), none, false, []⟩, ⟨some 20, false, .bin .sub (.t 17) (.t 19), none, false, []⟩, ⟨some 21, false, .fa 1 (.t 2), none, false, []⟩, ⟨some 22, false, .ld none (.t 21), none, false, []⟩, ⟨some 23, false, .fa 1 (.t 3), none, false, []⟩, ⟨some 24, false, .ld none (.t 23), none, false, []⟩, ⟨some 25, false, .bin .sub (.t 22) (.t 24), none, false, []⟩, ⟨some 26, false, .bin .mul (.t 20) (.t 25), none, false, []⟩, ⟨some 27, false, .bin .add (.t 15) (.t 26), none, false, []⟩, ⟨some 4, false, .asg (.t 27), none, false, []⟩] [4] []) .ret)) }
noncomputable def spec_l05Square_D : List (Nat × Callee) := []
def spec_l05Square_H : List (Nat × ET) := []
noncomputable def spec_l05Square_c : Callee := mkCallee spec_l05Square_D spec_l05Square_H spec_l05Square_ir [.d T_Point, .d T_Point] [.d (.one (.int .i64))] []
noncomputable def spec_l05Square (a0 : T_Point.ty) (a1 : T_Point.ty) : Option (Int) := spec_l05Square_c.f (a0, a1, ())
theorem spec_l05Square_eq (a0 : T_Point.ty) (a1 : T_Point.ty) : spec_l05Square a0 a1 =
  some (IntKind.i64.wrap ((IntKind.i64.wrap ((IntKind.i64.wrap (a0.1 - a1.1)) * (IntKind.i64.wrap (a0.1 - a1.1)))) + (IntKind.i64.wrap ((IntKind.i64.wrap (a0.2.1 - a1.2.1)) * (IntKind.i64.wrap (a0.2.1 - a1.2.1)))))) :=
 (mk_f _ _ _ _ _ _ _ 4000).trans (by kernel_rfl)

/- spec.l05One -/
def spec_l05One_k0 : C :=
 .seq (.reg true [⟨some 36, false, .mv (.t 0), none, false, []⟩, ⟨some 37, false, .nilck (.t 36), none, false, []⟩, ⟨some 38, false, .fa 0 (.t 37), none, false, []⟩, ⟨some 39, false, .ld (some 2) (.t 38), none, false, []⟩, ⟨some 40, false, .mv (.t 0), none, false, []⟩, ⟨some 41, false, .nilck (.t 40), none, false, []⟩, ⟨some 42, false, .fa 2 (.t 41), none, false, []⟩, ⟨some 43, false, .ld (some 2) (.t 42), none, false, []⟩, ⟨some 44, false, .call (.c (.fn 945 [])) [.t 39, .t 43], none, false, []⟩, ⟨some 45, false, .mv (.t 0), none, false, []⟩, ⟨some 46, false, .nilck (.t 45), none, false, []⟩, ⟨some 47, false, .fa 0 (.t 46), none, false, []⟩, ⟨some 48, false, .ld (some 2) (.t 47), none, false, []⟩, ⟨some 49, false, .mv (.t 0), none, false, []⟩, ⟨some 50, false, .nilck (.t 49), none, false, []⟩, ⟨some 51, false, .fa 4 (.t 50), none, false, []⟩, ⟨some 52, false, .ld (some 2) (.t 51), none, false, []⟩, ⟨some 53, false, .call (.c (.fn 945 [])) [.t 48, .t 52], none, false, []⟩, ⟨some 54, false, .bin .eql (.t 44) (.t 53), none, false, []⟩, ⟨some 2, false, .asg (.t 54), none, false, []⟩] [2] []) .ret
def spec_l05One_ir : Fn := { np := 1, io := [], res := [.t 2], own := [false], body :=
 (.seq (.reg false [⟨some 2, false, .asg (.c (.bool false)), none, false, []⟩] [0] []) (.seq (.seq (.reg true [⟨some 3, false, .mv (.t 0), none, false, []⟩, ⟨some 4, false, .nilck (.t 3), none, false, []⟩, ⟨some 5, false, .fa 0 (.t 4), none, false, []⟩, ⟨some 6, false, .ld (some 2) (.t 5), none, false, []⟩, ⟨some 7, false, .call (.c (.fn 946 [])) [.t 6], none, false, []⟩, ⟨some 8, false, .un .not (.t 7), none, false, []⟩, ⟨some 9, false, .mv (.t 8), none, false, []⟩, ⟨some 10, false, .mv (.t 0), some (6, false), false, []⟩, ⟨some 11, false, .nilck (.t 10), some (6, false), false, []⟩, ⟨some 12, false, .fa 2 (.t 11), some (6, false), false, []⟩, ⟨some 13, false, .ld (some 2) (.t 12), some (6, false), false, []⟩, ⟨some 14, false, .call (.c (.fn 946 [])) [.t 13], some (6, false), false, []⟩, ⟨some 15, false, .un .not (.t 14), some (6, false), false, []⟩, ⟨some 16, false, .pick (.t 9) (.c (.bool true)) (.t 15), none, false, []⟩, ⟨some 17, false, .mv (.t 16), none, false, []⟩, ⟨some 18, false, .mv (.t 0), some (14, false), false, []⟩, ⟨some 19, false, .nilck (.t 18), some (14, false), false, []⟩, ⟨some 20, false, .fa 4 (.t 19), some (14, false), false, []⟩, ⟨some 21, false, .ld (some 2) (.t 20), some (14, false), false, []⟩, ⟨some 22, false, .call (.c (.fn 946 [])) [.t 21], some (14, false), false, []⟩, ⟨some 23, false, .un .not (.t 22), some (14, false), false, []⟩, ⟨some 24, false, .pick (.t 17) (.c (.bool true)) (.t 23), none, false, []⟩, ⟨some 25, false, .mv (.t 24), none, false, []⟩, ⟨some 26, false, .mv (.t 0), some (22, false), false, []⟩, ⟨some 27, false, .nilck (.t 26), some (22, false), false, []⟩, ⟨some 28, false, .fa 2 (.t 27), some (22, false), false, []⟩, ⟨some 29, false, .ld (some 2) (.t 28), some (22, false), false, []⟩, ⟨some 30, false, .mv (.t 0), some (22, false), false, []⟩, ⟨some 31, false, .nilck (.t 30), some (22, false), false, []⟩, ⟨some 32, false, .fa 4 (.t 31), some (22, false), false, []⟩, ⟨some 33, false, .ld (some 2) (.t 32), some (22, false), false, []⟩, ⟨some 34, false, .eqs false [.i, .i] (.t 29) (.t 33), some (22, false), false, []⟩, ⟨some 35, false, .pick (.t 25) (.c (.bool true)) (.t 34), none, false, []⟩] [0, 35] []) (.cond (.t 35) (.seq (.reg false [⟨some 2, false, .asg (.c (.bool false)), none, false, []⟩] [2] []) .ret) .skip)) (.norm [0] [] spec_l05One_k0))) }
noncomputable def spec_l05One_D : List (Nat × Callee) := [(945, spec_l05Square_c), (946, spec_l05Point_c)]
def spec_l05One_H : List (Nat × ET) := []
noncomputable def spec_l05One_c : Callee := mkCallee spec_l05One_D spec_l05One_H spec_l05One_ir [.p T_Arc] [.d (.one .bool)] []
noncomputable def spec_l05One (a0 : T_Arc.ty) : Option (Bool) := spec_l05One_c.f (a0, ())
noncomputable def spec_l05One_p0  (v0_0 : Int) (v0_1 : Int) (v0_2 : Int) (v0_3 : Int) (v0_4 : Int) (v0_5 : Int) : Option (Bool) :=
 goL spec_l05One_D spec_l05One_H (vleave spec_l05One_ir [.p T_Arc] [.d (.one .bool)] [] []) [.c spec_l05One_k0]
  ⟨[(0, .ptr [.int .i64 v0_0, .int .i64 v0_1, .int .i64 v0_2, .int .i64 v0_3, .int .i64 v0_4, .int .i64 v0_5] 0)], []⟩
theorem spec_l05One_eq (a0 : T_Arc.ty) : spec_l05One a0 =
  (spec_l05Point (a0.1, a0.2.1, ())).bind fun x1 =>
   if (!x1) then
    some false
   else
    (spec_l05Point (a0.2.2.1, a0.2.2.2.1, ())).bind fun x2 =>
     if (!x2) then
      some false
     else
      (spec_l05Point (a0.2.2.2.2.1, a0.2.2.2.2.2.1, ())).bind fun x3 =>
       if (!x3) then
        some false
       else
        if ((a0.2.2.1 == a0.2.2.2.2.1) && (a0.2.2.2.1 == a0.2.2.2.2.2.1)) then
         some false
        else
         spec_l05One_p0 a0.1 a0.2.1 a0.2.2.1 a0.2.2.2.1 a0.2.2.2.2.1 a0.2.2.2.2.2.1 :=
 (mk_f _ _ _ _ _ _ _ 4000).trans (by kernel_rfl)
theorem spec_l05One_p0_eq  (v0_0 : Int) (v0_1 : Int) (v0_2 : Int) (v0_3 : Int) (v0_4 : Int) (v0_5 : Int) : spec_l05One_p0 v0_0 v0_1 v0_2 v0_3 v0_4 v0_5 =
  (spec_l05Square (v0_0, v0_1, ()) (v0_2, v0_3, ())).bind fun x1 =>
   (spec_l05Square (v0_0, v0_1, ()) (v0_4, v0_5, ())).bind fun x2 =>
    some (x1 == x2) :=
 (goL_dn _ _ _ 4000 _ _).trans (by kernel_rfl)

/- spec.l05Ok -/
def spec_l05Ok_k0 : C :=
 .seq (.seq (.reg false [⟨some 7, false, .mv (.t 4), none, false, []⟩, ⟨some 8, false, .mv (.t 3), none, false, []⟩, ⟨some 9, false, .bin .lss (.t 7) (.t 8), none, false, []⟩] [0, 3, 4, 9] []) (.cond (.t 9) .skip (.exit 0))) (.seq (.block 1 (.seq (.reg true [⟨some 12, false, .mv (.t 0), none, false, []⟩, ⟨some 13, false, .mv (.t 4), none, false, []⟩, ⟨some 14, false, .ia 6 (.t 12) (.t 13), none, false, []⟩, ⟨some 15, false, .call (.c (.fn 716 [])) [.t 14], none, false, []⟩, ⟨some 16, false, .un .not (.t 15), none, false, []⟩, ⟨some 17, false, .mv (.t 16), none, false, []⟩, ⟨some 18, false, .mv (.t 0), some (5, false), false, []⟩, ⟨some 19, false, .mv (.t 4), some (5, false), false, []⟩, ⟨some 20, false, .ia 6 (.t 18) (.t 19), some (5, false), false, []⟩, ⟨some 21, false, .fa 4 (.t 20), some (5, false), false, []⟩, ⟨some 22, false, .ld (some 2) (.t 21), some (5, false), false, []⟩, ⟨some 23, false, .mv (.t 0), some (5, false), false, []⟩, ⟨some 24, false, .mv (.t 4), some (5, false), false, []⟩, ⟨some 25, false, .bin .add (.t 24) (.c (.int .i64 1)), some (5, false), false, []⟩, ⟨some 26, false, .mv (.t 3), some (5, false), false, []⟩, ⟨some 27, false, .bin .rem (.t 25) (.t 26), some (5, false), false, []⟩, ⟨some 28, false, .ia 6 (.t 23) (.t 27), some (5, false), false, []⟩, ⟨some 29, false, .fa 2 (.t 28), some (5, false), false, []⟩, ⟨some 30, false, .ld (some 2) (.t 29), some (5, false), false, []⟩, ⟨some 31, false, .eqs true [.i, .i] (.t 22) (.t 30), some (5, false), false, []⟩, ⟨some 32, false, .pick (.t 17) (.c (.bool true)) (.t 31), none, false, []⟩] [0, 3, 4, 32] []) (.cond (.t 32) (.seq (.reg false [⟨some 2, false, .asg (.c (.bool false)), none, false, []⟩] [2] []) .ret) .skip))) (.reg false [⟨some 10, false, .mv (.t 4), none, false, []⟩, ⟨some 11, false, .bin .add (.t 10) (.c (.int .i64 1)), none, false, []⟩, ⟨some 4, false, .asg (.t 11), none, false, []⟩] [0, 3, 4] []))
def spec_l05Ok_k1 : C :=
 .norm [0, 3, 4] [] spec_l05Ok_k0
def spec_l05Ok_k2 : C :=
 .seq (.reg false [⟨some 33, false, .mv (.t 3), none, false, []⟩, ⟨some 34, false, .bin .geq (.t 33) (.c (.int .i64 2)), none, false, []⟩, ⟨some 35, false, .mv (.t 34), none, false, []⟩, ⟨some 36, false, .mv (.t 3), some (2, true), false, []⟩, ⟨some 37, false, .bin .leq (.t 36) (.c (.int .i64 16)), some (2, true), false, []⟩, ⟨some 38, false, .pick (.t 35) (.t 37) (.c (.bool false)), none, false, []⟩, ⟨some 2, false, .asg (.t 38), none, false, []⟩] [2] []) .ret
def spec_l05Ok_ir : Fn := { np := 1, io := [], res := [.t 2], own := [false], body :=
 (.seq (.reg false [⟨some 2, false, .asg (.c (.bool false)), none, false, []⟩] [0] []) (.seq (.reg false [⟨some 5, false, .mv (.t 0), none, false, []⟩, ⟨some 6, false, .len (.t 5), none, false, []⟩, ⟨some 3, false, .asg (.t 6), none, false, []⟩] [0, 3] []) (.seq (.seq (.reg false [⟨some 4, false, .asg (.c (.int .i64 0)), none, false, []⟩] [0, 3, 4] []) (.block 0 (.loop spec_l05Ok_k1))) spec_l05Ok_k2))) }
noncomputable def spec_l05Ok_D : List (Nat × Callee) := [(716, spec_l05One_c)]
def spec_l05Ok_H : List (Nat × ET) := [(5, T_Arc), (12, T_Arc), (18, T_Arc), (23, T_Arc)]
noncomputable def spec_l05Ok_c : Callee := mkCallee spec_l05Ok_D spec_l05Ok_H spec_l05Ok_ir [.d (.one (.sl T_Arc))] [.d (.one .bool)] []
noncomputable def spec_l05Ok (a0 : List T_Arc.ty) : Option (Bool) := spec_l05Ok_c.f (a0, ())
noncomputable def spec_l05Ok_p0  (v0 : List T_Arc.ty) (v3 : Int) (v4 : Int) : Option (Bool) :=
 goL spec_l05Ok_D spec_l05Ok_H (vleave spec_l05Ok_ir [.d (.one (.sl T_Arc))] [.d (.one .bool)] [] []) [.c spec_l05Ok_k0, .l spec_l05Ok_k1, .e 0, .c spec_l05Ok_k2]
  ⟨[(0, .sl T_Arc v0), (3, .int .i64 v3), (4, .int .i64 v4)], []⟩
theorem spec_l05Ok_eq (a0 : List T_Arc.ty) : spec_l05Ok a0 =
  spec_l05Ok_p0 a0 (a0.length : Int) 0 :=
 (mk_f _ _ _ _ _ _ _ 4000).trans (by kernel_rfl)
theorem spec_l05Ok_p0_eq  (v0 : List T_Arc.ty) (v3 : Int) (v4 : Int) : spec_l05Ok_p0 v0 v3 v4 =
  if decide (v4 < v3) then
   if decide (0 ≤ v4) then
    (v0[v4.toNat]?).bind fun x1 =>
     (spec_l05One x1).bind fun x2 =>
      if (!x2) then
       some false
      else
       if decide (0 ≤ v4) then
        (v0[v4.toNat]?).bind fun x3 =>
         if decide (v3 = 0) then
          none
         else
          if decide (0 ≤ (IntKind.i64.wrap (v4 + 1)).tmod v3) then
           (v0[((IntKind.i64.wrap (v4 + 1)).tmod v3).toNat]?).bind fun x4 =>
            if (!((x3.2.2.2.2.1 == x4.2.2.1) && (x3.2.2.2.2.2.1 == x4.2.2.2.1))) then
             some false
            else
             spec_l05Ok_p0 v0 v3 (IntKind.i64.wrap (v4 + 1))
          else
           none
       else
        none
   else
    none
  else
   if decide (v3 ≥ 2) then
    some (decide (v3 ≤ 16))
   else
    some false :=
 (goL_dn _ _ _ 4000 _ _).trans (by kernel_rfl)

/- spec.l09One -/
def spec_l09One_ir : Fn := { np := 1, io := [], res := [.t 2], own := [false], body :=
 (.seq (.reg false [⟨some 2, false, .asg (.c (.bool false)), none, false, []⟩] [0] []) (.seq (.reg false [⟨some 3, false, .mv (.t 0), none, false, []⟩, ⟨some 4, false, .nilck (.t 3), none, false, []⟩, ⟨some 5, false, .fa 0 (.t 4), none, false, []⟩, ⟨some 6, false, .ld none (.t 5), none, false, []⟩, ⟨some 7, false, .call (.c (.fn 1 [])) [.t 6, .c (.int .i64 1), .c (.int .i64 10000)], none, false, []⟩, ⟨some 8, false, .mv (.t 7), none, false, []⟩, ⟨some 9, false, .mv (.t 0), some (5, true), false, []⟩, ⟨some 10, false, .nilck (.t 9), some (5, true), false, []⟩, ⟨some 11, false, .fa 1 (.t 10), some (5, true), false, []⟩, ⟨some 12, false, .ld none (.t 11), some (5, true), false, []⟩, ⟨some 13, false, .call (.c (.fn 1 [])) [.t 12, .c (.int .i64 1), .c (.int .i64 500)], some (5, true), false, []⟩, ⟨some 14, false, .pick (.t 8) (.t 13) (.c (.bool false)), none, false, []⟩, ⟨some 15, false, .mv (.t 14), none, false, []⟩, ⟨some 16, false, .mv (.t 0), some (12, true), false, []⟩, ⟨some 17, false, .nilck (.t 16), some (12, true), false, []⟩, ⟨some 18, false, .fa 2 (.t 17), some (12, true), false, []⟩, ⟨some 19, false, .ld none (.t 18), some (12, true), false, []⟩, ⟨some 20, false, .call (.c (.fn 1 [])) [.t 19, .c (.int .i64 1), .c (.int .i64 10000)], some (12, true), false, []⟩, ⟨some 21, false, .pick (.t 15) (.t 20) (.c (.bool false)), none, false, []⟩, ⟨some 22, false, .mv (.t 21), none, false, []⟩, ⟨some 23, false, .mv (.t 0), some (19, true), false, []⟩, ⟨some 24, false, .nilck (.t 23), some (19, true), false, []⟩, ⟨some 25, false, .fa 3 (.t 24), some (19, true), false, []⟩, ⟨some 26, false, .ld none (.t 25), some (19, true), false, []⟩, ⟨some 27, false, .call (.c (.fn 1 [])) [.t 26, .c (.int .i64 1), .c (.int .i64 500000)], some (19, true), false, []⟩, ⟨some 28, false, .pick (.t 22) (.t 27) (.c (.bool false)), none, false, []⟩, ⟨some 2, false, .asg (.t 28), none, false, []⟩] [2] []) .ret)) }
noncomputable def spec_l09One_D : List (Nat × Callee) := [(1, spec_l00In_c)]
def spec_l09One_H : List (Nat × ET) := []
noncomputable def spec_l09One_c : Callee := mkCallee spec_l09One_D spec_l09One_H spec_l09One_ir [.p T_Neck] [.d (.one .bool)] []
noncomputable def spec_l09One (a0 : T_Neck.ty) : Option (Bool) := spec_l09One_c.f (a0, ())
theorem spec_l09One_eq (a0 : T_Neck.ty) : spec_l09One a0 =
  (spec_l00In a0.1 1 10000).bind fun x1 =>
   if x1 then
    (spec_l00In a0.2.1 1 500).bind fun x2 =>
     if x2 then
      (spec_l00In a0.2.2.1 1 10000).bind fun x3 =>
       if x3 then
        (spec_l00In a0.2.2.2.1 1 500000).bind fun x4 =>
         some x4
       else
        some false
     else
      some false
   else
    some false :=
 (mk_f _ _ _ _ _ _ _ 4000).trans (by kernel_rfl)

/- spec.l09List -/
def spec_l09List_k0 : C :=
 .seq (.seq (.reg false [⟨some 4, false, .mv (.t 3), none, false, []⟩, ⟨some 5, false, .mv (.t 0), none, false, []⟩, ⟨some 6, false, .len (.t 5), none, false, []⟩, ⟨some 7, false, .bin .lss (.t 4) (.t 6), none, false, []⟩] [0, 3, 7] []) (.cond (.t 7) .skip (.exit 0))) (.seq (.block 1 (.seq (.reg false [⟨some 10, false, .mv (.t 0), none, false, []⟩, ⟨some 11, false, .mv (.t 3), none, false, []⟩, ⟨some 12, false, .ia 4 (.t 10) (.t 11), none, false, []⟩, ⟨some 13, false, .call (.c (.fn 719 [])) [.t 12], none, false, []⟩, ⟨some 14, false, .un .not (.t 13), none, false, []⟩] [0, 3, 14] []) (.cond (.t 14) (.seq (.reg false [⟨some 2, false, .asg (.c (.bool false)), none, false, []⟩] [2] []) .ret) .skip))) (.reg false [⟨some 8, false, .mv (.t 3), none, false, []⟩, ⟨some 9, false, .bin .add (.t 8) (.c (.int .i64 1)), none, false, []⟩, ⟨some 3, false, .asg (.t 9), none, false, []⟩] [0, 3] []))
def spec_l09List_k1 : C :=
 .norm [0, 3] [] spec_l09List_k0
def spec_l09List_k2 : C :=
 .seq (.reg false [⟨some 15, false, .mv (.t 0), none, false, []⟩, ⟨some 16, false, .len (.t 15), none, false, []⟩, ⟨some 17, false, .bin .leq (.t 16) (.c (.int .i64 4)), none, false, []⟩, ⟨some 2, false, .asg (.t 17), none, false, []⟩] [2] []) .ret
def spec_l09List_ir : Fn := { np := 1, io := [], res := [.t 2], own := [false], body :=
 (.seq (.reg false [⟨some 2, false, .asg (.c (.bool false)), none, false, []⟩] [0] []) (.seq (.seq (.reg false [⟨some 3, false, .asg (.c (.int .i64 0)), none, false, []⟩] [0, 3] []) (.block 0 (.loop spec_l09List_k1))) spec_l09List_k2)) }
noncomputable def spec_l09List_D : List (Nat × Callee) := [(719, spec_l09One_c)]
def spec_l09List_H : List (Nat × ET) := [(5, T_Neck), (10, T_Neck), (15, T_Neck)]
noncomputable def spec_l09List_c : Callee := mkCallee spec_l09List_D spec_l09List_H spec_l09List_ir [.d (.one (.sl T_Neck))] [.d (.one .bool)] []
noncomputable def spec_l09List (a0 : List T_Neck.ty) : Option (Bool) := spec_l09List_c.f (a0, ())
noncomputable def spec_l09List_p0  (v0 : List T_Neck.ty) (v3 : Int) : Option (Bool) :=
 goL spec_l09List_D spec_l09List_H (vleave spec_l09List_ir [.d (.one (.sl T_Neck))] [.d (.one .bool)] [] []) [.c spec_l09List_k0, .l spec_l09List_k1, .e 0, .c spec_l09List_k2]
  ⟨[(0, .sl T_Neck v0), (3, .int .i64 v3)], []⟩
theorem spec_l09List_eq (a0 : List T_Neck.ty) : spec_l09List a0 =
  spec_l09List_p0 a0 0 :=
 (mk_f _ _ _ _ _ _ _ 4000).trans (by kernel_rfl)
theorem spec_l09List_p0_eq  (v0 : List T_Neck.ty) (v3 : Int) : spec_l09List_p0 v0 v3 =
  if decide (v3 < (v0.length : Int)) then
   if decide (0 ≤ v3) then
    (v0[v3.toNat]?).bind fun x1 =>
     (spec_l09One x1).bind fun x2 =>
      if (!x2) then
       some false
      else
       spec_l09List_p0 v0 (IntKind.i64.wrap (v3 + 1))
   else
    none
  else
   some (decide ((v0.length : Int) ≤ 4)) :=
 (goL_dn _ _ _ 4000 _ _).trans (by kernel_rfl)

/- spec.l09Share -/
def spec_l09Share_ir : Fn := { np := 1, io := [], res := [.t 2], own := [false], body :=
 (.seq (.reg false [⟨some 2, false, .asg (.c (.bool false)), none, false, []⟩] [0] []) (.seq (.reg false [⟨some 3, false, .mv (.t 0), none, false, []⟩, ⟨some 4, false, .call (.c (.fn 1 [])) [.t 3, .c (.int .i64 0), .c (.int .i64 1000)], none, false, []⟩, ⟨some 2, false, .asg (.t 4), none, false, []⟩] [2] []) .ret)) }
noncomputable def spec_l09Share_D : List (Nat × Callee) := [(1, spec_l00In_c)]
def spec_l09Share_H : List (Nat × ET) := []
noncomputable def spec_l09Share_c : Callee := mkCallee spec_l09Share_D spec_l09Share_H spec_l09Share_ir [.d (.one (.int .i64))] [.d (.one .bool)] []
noncomputable def spec_l09Share (a0 : Int) : Option (Bool) := spec_l09Share_c.f (a0, ())
theorem spec_l09Share_eq (a0 : Int) : spec_l09Share a0 =
  (spec_l00In a0 0 1000).bind fun x1 =>
   some x1 :=
 (mk_f _ _ _ _ _ _ _ 4000).trans (by kernel_rfl)

/- spec.l01Small -/
def spec_l01Small_ir : Fn := { np := 1, io := [], res := [.t 2], own := [false], body :=
 (.seq (.reg false [⟨some 2, false, .asg (.c (.bool false)), none, false, []⟩] [0] []) (.seq (.reg false [⟨some 3, false, .mv (.t 0), none, false, []⟩, ⟨some 4, false, .bin .geq (.t 3) (.c (.int .u8 97)), none, false, []⟩, ⟨some 5, false, .mv (.t 4), none, false, []⟩, ⟨some 6, false, .mv (.t 0), some (2, true), false, []⟩, ⟨some 7, false, .bin .leq (.t 6) (.c (.int .u8 122)), some (2, true), false, []⟩, ⟨some 8, false, .pick (.t 5) (.t 7) (.c (.bool false)), none, false, []⟩, ⟨some 2, false, .asg (.t 8), none, false, []⟩] [2] []) .ret)) }
noncomputable def spec_l01Small_D : List (Nat × Callee) := []
def spec_l01Small_H : List (Nat × ET) := []
noncomputable def spec_l01Small_c : Callee := mkCallee spec_l01Small_D spec_l01Small_H spec_l01Small_ir [.d (.one (.int .u8))] [.d (.one .bool)] []
noncomputable def spec_l01Small (a0 : Int) : Option (Bool) := spec_l01Small_c.f (a0, ())
theorem spec_l01Small_eq (a0 : Int) : spec_l01Small a0 =
  if decide (a0 ≥ 97) then
   some (decide (a0 ≤ 122))
  else
   some false :=
 (mk_f _ _ _ _ _ _ _ 4000).trans (by kernel_rfl)

/- spec.l01Digit -/
def spec_l01Digit_ir : Fn := { np := 1, io := [], res := [.t 2], own := [false], body :=
 (.seq (.reg false [⟨some 2, false, .asg (.c (.bool false)), none, false, []⟩] [0] []) (.seq (.reg false [⟨some 3, false, .mv (.t 0), none, false, []⟩, ⟨some 4, false, .bin .geq (.t 3) (.c (.int .u8 48)), none, false, []⟩, ⟨some 5, false, .mv (.t 4), none, false, []⟩, ⟨some 6, false, .mv (.t 0), some (2, true), false, []⟩, ⟨some 7, false, .bin .leq (.t 6) (.c (.int .u8 57)), some (2, true), false, []⟩, ⟨some 8, false, .pick (.t 5) (.t 7) (.c (.bool false)), none, false, []⟩, ⟨some 2, false, .asg (.t 8), none, false, []⟩] [2] []) .ret)) }
noncomputable def spec_l01Digit_D : List (Nat × Callee) := []
def spec_l01Digit_H : List (Nat × ET) := []
noncomputable def spec_l01Digit_c : Callee := mkCallee spec_l01Digit_D spec_l01Digit_H spec_l01Digit_ir [.d (.one (.int .u8))] [.d (.one .bool)] []
noncomputable def spec_l01Digit (a0 : Int) : Option (Bool) := spec_l01Digit_c.f (a0, ())
theorem spec_l01Digit_eq (a0 : Int) : spec_l01Digit a0 =
  if decide (a0 ≥ 48) then
   some (decide (a0 ≤ 57))
  else
   some false :=
 (mk_f _ _ _ _ _ _ _ 4000).trans (by kernel_rfl)

/- spec.l01Name -/
def spec_l01Name_k0 : C :=
 .seq (.seq (.reg false [⟨some 17, false, .mv (.t 3), none, false, []⟩, ⟨some 18, false, .mv (.t 0), none, false, []⟩, ⟨some 19, false, .lens (.t 18), none, false, []⟩, ⟨some 20, false, .bin .lss (.t 17) (.t 19), none, false, []⟩] [0, 3, 20] []) (.cond (.t 20) .skip (.exit 0))) (.seq (.block 1 (.seq (.reg false [⟨some 23, false, .mv (.t 0), none, false, []⟩, ⟨some 24, false, .mv (.t 3), none, false, []⟩, ⟨some 25, false, .ix (.t 23) (.t 24), none, false, []⟩, ⟨some 26, false, .call (.c (.fn 11 [])) [.t 25], none, false, []⟩, ⟨some 27, false, .un .not (.t 26), none, false, []⟩, ⟨some 28, false, .mv (.t 27), none, false, []⟩, ⟨some 29, false, .mv (.t 0), some (5, true), false, []⟩, ⟨some 30, false, .mv (.t 3), some (5, true), false, []⟩, ⟨some 31, false, .ix (.t 29) (.t 30), some (5, true), false, []⟩, ⟨some 32, false, .call (.c (.fn 12 [])) [.t 31], some (5, true), false, []⟩, ⟨some 33, false, .un .not (.t 32), some (5, true), false, []⟩, ⟨some 34, false, .pick (.t 28) (.t 33) (.c (.bool false)), none, false, []⟩] [0, 3, 34] []) (.cond (.t 34) (.seq (.reg false [⟨some 2, false, .asg (.c (.bool false)), none, false, []⟩] [2] []) .ret) .skip))) (.reg false [⟨some 21, false, .mv (.t 3), none, false, []⟩, ⟨some 22, false, .bin .add (.t 21) (.c (.int .i64 1)), none, false, []⟩, ⟨some 3, false, .asg (.t 22), none, false, []⟩] [0, 3] []))
def spec_l01Name_k1 : C :=
 .norm [0, 3] [] spec_l01Name_k0
def spec_l01Name_k2 : C :=
 .seq (.reg false [⟨some 2, false, .asg (.c (.bool true)), none, false, []⟩] [2] []) .ret
def spec_l01Name_k3 : C :=
 .seq (.seq (.reg false [⟨some 3, false, .asg (.c (.int .i64 0)), none, false, []⟩] [0, 3] []) (.block 0 (.loop spec_l01Name_k1))) spec_l01Name_k2
def spec_l01Name_ir : Fn := { np := 1, io := [], res := [.t 2], own := [false], body :=
 (.seq (.reg false [⟨some 2, false, .asg (.c (.bool false)), none, false, []⟩] [0] []) (.seq (.seq (.reg false [⟨some 4, false, .mv (.t 0), none, false, []⟩, ⟨some 5, false, .bin .eql (.t 4) (.c (.str [])), none, false, []⟩, ⟨some 6, false, .mv (.t 5), none, false, []⟩, ⟨some 7, false, .mv (.t 0), some (2, false), false, []⟩, ⟨some 8, false, .lens (.t 7), some (2, false), false, []⟩, ⟨some 9, false, .bin .gtr (.t 8) (.c (.int .i64 10)), some (2, false), false, []⟩, ⟨some 10, false, .pick (.t 6) (.c (.bool true)) (.t 9), none, false, []⟩, ⟨some 11, false, .mv (.t 10), none, false, []⟩, ⟨some 12, false, .mv (.t 0), some (7, false), false, []⟩, ⟨some 13, false, .ix (.t 12) (.c (.int .i64 0)), some (7, false), false, []⟩, ⟨some 14, false, .call (.c (.fn 11 [])) [.t 13], some (7, false), false, []⟩, ⟨some 15, false, .un .not (.t 14), some (7, false), false, []⟩, ⟨some 16, false, .pick (.t 11) (.c (.bool true)) (.t 15), none, false, []⟩] [0, 16] []) (.cond (.t 16) (.seq (.reg false [⟨some 2, false, .asg (.c (.bool false)), none, false, []⟩] [2] []) .ret) .skip)) (.norm [0] [] spec_l01Name_k3))) }
noncomputable def spec_l01Name_D : List (Nat × Callee) := [(11, spec_l01Small_c), (12, spec_l01Digit_c)]
def spec_l01Name_H : List (Nat × ET) := []
noncomputable def spec_l01Name_c : Callee := mkCallee spec_l01Name_D spec_l01Name_H spec_l01Name_ir [.d (.one .str)] [.d (.one .bool)] []
noncomputable def spec_l01Name (a0 : List UInt8) : Option (Bool) := spec_l01Name_c.f (a0, ())
noncomputable def spec_l01Name_p0  (v0 : List UInt8) : Option (Bool) :=
 goL spec_l01Name_D spec_l01Name_H (vleave spec_l01Name_ir [.d (.one .str)] [.d (.one .bool)] [] []) [.c spec_l01Name_k3]
  ⟨[(0, .str v0)], []⟩
noncomputable def spec_l01Name_p1  (v0 : List UInt8) (v3 : Int) : Option (Bool) :=
 goL spec_l01Name_D spec_l01Name_H (vleave spec_l01Name_ir [.d (.one .str)] [.d (.one .bool)] [] []) [.c spec_l01Name_k0, .l spec_l01Name_k1, .e 0, .c spec_l01Name_k2]
  ⟨[(0, .str v0), (3, .int .i64 v3)], []⟩
theorem spec_l01Name_eq (a0 : List UInt8) : spec_l01Name a0 =
  if (a0 == []) then
   some false
  else
   if decide ((a0.length : Int) > 10) then
    some false
   else
    (a0[0]?).bind fun x1 =>
     (spec_l01Small (x1.toNat : Int)).bind fun x2 =>
      if (!x2) then
       some false
      else
       spec_l01Name_p0 a0 :=
 (mk_f _ _ _ _ _ _ _ 4000).trans (by kernel_rfl)
theorem spec_l01Name_p0_eq  (v0 : List UInt8) : spec_l01Name_p0 v0 =
  spec_l01Name_p1 v0 0 :=
 (goL_dn _ _ _ 4000 _ _).trans (by kernel_rfl)
theorem spec_l01Name_p1_eq  (v0 : List UInt8) (v3 : Int) : spec_l01Name_p1 v0 v3 =
  if decide (v3 < (v0.length : Int)) then
   if decide (0 ≤ v3) then
    (v0[v3.toNat]?).bind fun x1 =>
     (spec_l01Small (x1.toNat : Int)).bind fun x2 =>
      if (!x2) then
       if decide (0 ≤ v3) then
        (v0[v3.toNat]?).bind fun x3 =>
         (spec_l01Digit (x3.toNat : Int)).bind fun x4 =>
          if (!x4) then
           some false
          else
           spec_l01Name_p1 v0 (IntKind.i64.wrap (v3 + 1))
       else
        none
      else
       spec_l01Name_p1 v0 (IntKind.i64.wrap (v3 + 1))
   else
    none
  else
   some true :=
 (goL_dn _ _ _ 4000 _ _).trans (by kernel_rfl)

/- spec.l00Rises -/
def spec_l00Rises_k0 : C :=
 .seq (.seq (.reg false [⟨some 8, false, .mv (.t 7), none, false, []⟩, ⟨some 9, false, .mv (.t 0), none, false, []⟩, ⟨some 10, false, .len (.t 9), none, false, []⟩, ⟨some 11, false, .bin .lss (.t 8) (.t 10), none, false, []⟩] [0, 1, 2, 7, 11] []) (.cond (.t 11) .skip (.exit 0))) (.seq (.block 1 (.seq (.reg true [⟨some 14, false, .mv (.t 0), none, false, []⟩, ⟨some 15, false, .mv (.t 7), none, false, []⟩, ⟨some 16, false, .ia 1 (.t 14) (.t 15), none, false, []⟩, ⟨some 17, false, .ld none (.t 16), none, false, []⟩, ⟨some 18, false, .mv (.t 1), none, false, []⟩, ⟨some 19, false, .mv (.t 2), none, false, []⟩, ⟨some 20, false, .call (.c (.fn 1 [])) [.t 17, .t 18, .t 19], none, false, []⟩, ⟨some 21, false, .un .not (.t 20), none, false, []⟩, ⟨some 22, false, .mv (.t 21), none, false, []⟩, ⟨some 23, false, .mv (.t 7), some (8, false), false, []⟩, ⟨some 24, false, .bin .gtr (.t 23) (.c (.int .i64 0)), some (8, false), false, []⟩, ⟨some 25, false, .mv (.t 24), some (8, false), false, []⟩, ⟨some 26, false, .mv (.t 0), some (11, true), false, []⟩, ⟨some 27, false, .mv (.t 7), some (11, true), false, []⟩, ⟨some 28, false, .bin .sub (.t 27) (.c (.int .i64 1)), some (11, true), false, []⟩, ⟨some 29, false, .ia 1 (.t 26) (.t 28), some (11, true), false, []⟩, ⟨some 30, false, .ld none (.t 29), some (11, true), false, []⟩, ⟨some 31, false, .mv (.t 0), some (11, true), false, []⟩, ⟨some 32, false, .mv (.t 7), some (11, true), false, []⟩, ⟨some 33, false, .ia 1 (.t 31) (.t 32), some (11, true), false, []⟩, ⟨some 34, false, .ld none (.t 33), some (11, true), false, []⟩, ⟨some 35, false, .bin .geq (.t 30) (.t 34), some (11, true), false, []⟩, ⟨some 36, false, .pick (.t 25) (.t 35) (.c (.bool false)), some (8, false), false, []⟩, ⟨some 37, false, .pick (.t 22) (.c (.bool true)) (.t 36), none, false, []⟩] [0, 1, 2, 7, 37] []) (.cond (.t 37) (.seq (.reg false [⟨some 6, false, .asg (.c (.bool false)), none, false, []⟩] [6] []) .ret) .skip))) (.reg false [⟨some 12, false, .mv (.t 7), none, false, []⟩, ⟨some 13, false, .bin .add (.t 12) (.c (.int .i64 1)), none, false, []⟩, ⟨some 7, false, .asg (.t 13), none, false, []⟩] [0, 1, 2, 7] []))
def spec_l00Rises_k1 : C :=
 .norm [0, 1, 2, 7] [] spec_l00Rises_k0
def spec_l00Rises_k2 : C :=
 .seq (.reg false [⟨some 6, false, .asg (.c (.bool true)), none, false, []⟩] [6] []) .ret
def spec_l00Rises_ir : Fn := { np := 3, io := [], res := [.t 6], own := [false], body :=
 (.seq (.reg false [⟨some 6, false, .asg (.c (.bool false)), none, false, []⟩] [0, 1, 2] []) (.seq (.seq (.reg false [⟨some 7, false, .asg (.c (.int .i64 0)), none, false, []⟩] [0, 1, 2, 7] []) (.block 0 (.loop spec_l00Rises_k1))) spec_l00Rises_k2)) }
noncomputable def spec_l00Rises_D : List (Nat × Callee) := [(1, spec_l00In_c)]
def spec_l00Rises_H : List (Nat × ET) := [(9, (.one (.int .i64))), (14, (.one (.int .i64))), (26, (.one (.int .i64))), (31, (.one (.int .i64)))]
noncomputable def spec_l00Rises_c : Callee := mkCallee spec_l00Rises_D spec_l00Rises_H spec_l00Rises_ir [.d (.one (.sl (.one (.int .i64)))), .d (.one (.int .i64)), .d (.one (.int .i64))] [.d (.one .bool)] []
noncomputable def spec_l00Rises (a0 : List Int) (a1 : Int) (a2 : Int) : Option (Bool) := spec_l00Rises_c.f (a0, a1, a2, ())
noncomputable def spec_l00Rises_p0  (v0 : List Int) (v1 : Int) (v2 : Int) (v7 : Int) : Option (Bool) :=
 goL spec_l00Rises_D spec_l00Rises_H (vleave spec_l00Rises_ir [.d (.one (.sl (.one (.int .i64)))), .d (.one (.int .i64)), .d (.one (.int .i64))] [.d (.one .bool)] [] []) [.c spec_l00Rises_k0, .l spec_l00Rises_k1, .e 0, .c spec_l00Rises_k2]
  ⟨[(0, .sl (.one (.int .i64)) v0), (1, .int .i64 v1), (2, .int .i64 v2), (7, .int .i64 v7)], []⟩
theorem spec_l00Rises_eq (a0 : List Int) (a1 : Int) (a2 : Int) : spec_l00Rises a0 a1 a2 =
  spec_l00Rises_p0 a0 a1 a2 0 :=
 (mk_f _ _ _ _ _ _ _ 4000).trans (by kernel_rfl)
theorem spec_l00Rises_p0_eq  (v0 : List Int) (v1 : Int) (v2 : Int) (v7 : Int) : spec_l00Rises_p0 v0 v1 v2 v7 =
  if decide (v7 < (v0.length : Int)) then
   if decide (0 ≤ v7) then
    (v0[v7.toNat]?).bind fun x1 =>
     (spec_l00In x1 v1 v2).bind fun x2 =>
      if (!x2) then
       some false
      else
       if decide (v7 > 0) then
        if decide (0 ≤ IntKind.i64.wrap (v7 - 1)) then
         (v0[(IntKind.i64.wrap (v7 - 1)).toNat]?).bind fun x3 =>
          if decide (0 ≤ v7) then
           (v0[v7.toNat]?).bind fun x4 =>
            if decide (x3 ≥ x4) then
             some false
            else
             spec_l00Rises_p0 v0 v1 v2 (IntKind.i64.wrap (v7 + 1))
          else
           none
        else
         none
       else
        spec_l00Rises_p0 v0 v1 v2 (IntKind.i64.wrap (v7 + 1))
   else
    none
  else
   some true :=
 (goL_dn _ _ _ 4000 _ _).trans (by kernel_rfl)

/- spec.l17One -/
def spec_l17One_ir : Fn := { np := 1, io := [], res := [.t 2], own := [false], body :=
 (.seq (.reg false [⟨some 2, false, .asg (.c (.bool false)), none, false, []⟩] [0] []) (.seq (.reg false [⟨some 3, false, .mv (.t 0), none, false, []⟩, ⟨some 4, false, .nilck (.t 3), none, false, []⟩, ⟨some 5, false, .fa 0 (.t 4), none, false, []⟩, ⟨some 6, false, .ld none (.t 5), none, false, []⟩, ⟨some 7, false, .call (.c (.fn 13 [])) [.t 6], none, false, []⟩, ⟨some 8, false, .mv (.t 7), none, false, []⟩, ⟨some 9, false, .mv (.t 0), some (5, true), false, []⟩, ⟨some 10, false, .nilck (.t 9), some (5, true), false, []⟩, ⟨some 11, false, .fa 1 (.t 10), some (5, true), false, []⟩, ⟨some 12, false, .ld none (.t 11), some (5, true), false, []⟩, ⟨some 13, false, .call (.c (.fn 1 [])) [.t 12, .c (.int .i64 1), .c (.int .i64 200)], some (5, true), false, []⟩, ⟨some 14, false, .pick (.t 8) (.t 13) (.c (.bool false)), none, false, []⟩, ⟨some 15, false, .mv (.t 14), none, false, []⟩, ⟨some 16, false, .mv (.t 0), some (12, true), false, []⟩, ⟨some 17, false, .nilck (.t 16), some (12, true), false, []⟩, ⟨some 18, false, .fa 2 (.t 17), some (12, true), false, []⟩, ⟨some 19, false, .ld none (.t 18), some (12, true), false, []⟩, ⟨some 20, false, .call (.c (.fn 1 [])) [.t 19, .c (.int .i64 0), .c (.int .i64 20)], some (12, true), false, []⟩, ⟨some 21, false, .pick (.t 15) (.t 20) (.c (.bool false)), none, false, []⟩, ⟨some 22, false, .mv (.t 21), none, false, []⟩, ⟨some 23, false, .mv (.t 0), some (19, true), false, []⟩, ⟨some 24, false, .nilck (.t 23), some (19, true), false, []⟩, ⟨some 25, false, .fa 3 (.t 24), some (19, true), false, []⟩, ⟨some 26, false, .ld none (.t 25), some (19, true), false, []⟩, ⟨some 27, false, .call (.c (.fn 804 [])) [.t 26, .c (.int .i64 0), .c (.int .i64 11)], some (19, true), false, []⟩, ⟨some 28, false, .pick (.t 22) (.t 27) (.c (.bool false)), none, false, []⟩, ⟨some 2, false, .asg (.t 28), none, false, []⟩] [2] []) .ret)) }
noncomputable def spec_l17One_D : List (Nat × Callee) := [(1, spec_l00In_c), (13, spec_l01Name_c), (804, spec_l00Rises_c)]
def spec_l17One_H : List (Nat × ET) := [(26, (.one (.int .i64)))]
noncomputable def spec_l17One_c : Callee := mkCallee spec_l17One_D spec_l17One_H spec_l17One_ir [.p T_Step] [.d (.one .bool)] []
noncomputable def spec_l17One (a0 : T_Step.ty) : Option (Bool) := spec_l17One_c.f (a0, ())
theorem spec_l17One_eq (a0 : T_Step.ty) : spec_l17One a0 =
  (spec_l01Name a0.1).bind fun x1 =>
   if x1 then
    (spec_l00In a0.2.1 1 200).bind fun x2 =>
     if x2 then
      (spec_l00In a0.2.2.1 0 20).bind fun x3 =>
       if x3 then
        (spec_l00Rises a0.2.2.2.1 0 11).bind fun x4 =>
         some x4
       else
        some false
     else
      some false
   else
    some false :=
 (mk_f _ _ _ _ _ _ _ 4000).trans (by kernel_rfl)

/- spec.l17Ok -/
def spec_l17Ok_k0 : C :=
 .seq (.seq (.reg false [⟨some 28, false, .mv (.t 5), none, false, []⟩, ⟨some 29, false, .mv (.t 3), none, false, []⟩, ⟨some 30, false, .bin .lss (.t 28) (.t 29), none, false, []⟩] [0, 3, 4, 5, 30] []) (.cond (.t 30) .skip (.exit 2))) (.seq (.block 3 (.seq (.reg true [⟨some 33, false, .mv (.t 0), none, false, []⟩, ⟨some 34, false, .mv (.t 5), none, false, []⟩, ⟨some 35, false, .ia 4 (.t 33) (.t 34), none, false, []⟩, ⟨some 36, false, .fa 0 (.t 35), none, false, []⟩, ⟨some 37, false, .ld none (.t 36), none, false, []⟩, ⟨some 38, false, .mv (.t 4), none, false, []⟩, ⟨some 39, false, .nilck (.t 38), none, false, []⟩, ⟨some 40, false, .fa 0 (.t 39), none, false, []⟩, ⟨some 41, false, .ld none (.t 40), none, false, []⟩, ⟨some 42, false, .bin .eql (.t 37) (.t 41), none, false, []⟩] [0, 3, 4, 5, 42] []) (.cond (.t 42) (.seq (.reg false [⟨some 2, false, .asg (.c (.bool false)), none, false, []⟩] [2] []) .ret) .skip))) (.reg false [⟨some 31, false, .mv (.t 5), none, false, []⟩, ⟨some 32, false, .bin .add (.t 31) (.c (.int .i64 1)), none, false, []⟩, ⟨some 5, false, .asg (.t 32), none, false, []⟩] [0, 3, 4, 5] []))
def spec_l17Ok_k1 : C :=
 .norm [0, 3, 4, 5] [] spec_l17Ok_k0
def spec_l17Ok_k2 : C :=
 .seq (.reg false [⟨some 5, false, .asg (.c (.int .i64 0)), none, false, []⟩] [0, 3, 4, 5] []) (.block 2 (.loop spec_l17Ok_k1))
def spec_l17Ok_k3 : C :=
 .reg false [⟨some 10, false, .mv (.t 3), none, false, []⟩, ⟨some 11, false, .bin .add (.t 10) (.c (.int .i64 1)), none, false, []⟩, ⟨some 3, false, .asg (.t 11), none, false, []⟩] [0, 3] []
def spec_l17Ok_k4 : C :=
 .seq (.seq (.reg false [⟨some 6, false, .mv (.t 3), none, false, []⟩, ⟨some 7, false, .mv (.t 0), none, false, []⟩, ⟨some 8, false, .len (.t 7), none, false, []⟩, ⟨some 9, false, .bin .lss (.t 6) (.t 8), none, false, []⟩] [0, 3, 9] []) (.cond (.t 9) .skip (.exit 0))) (.seq (.block 1 (.seq (.reg false [⟨some 12, false, .mv (.t 0), none, false, []⟩, ⟨some 13, false, .mv (.t 3), none, false, []⟩, ⟨some 14, false, .ia 4 (.t 12) (.t 13), none, false, []⟩, ⟨some 4, false, .asg (.t 14), none, false, []⟩] [0, 3, 4] []) (.seq (.seq (.reg false [⟨some 15, false, .mv (.t 4), none, false, []⟩, ⟨some 16, false, .call (.c (.fn 846 [])) [.t 15], none, false, []⟩, ⟨some 17, false, .un .not (.t 16), none, false, []⟩, ⟨some 18, false, .mv (.t 17), none, false, []⟩, ⟨some 19, false, .mv (.t 4), some (3, false), false, []⟩, ⟨some 20, false, .nilck (.t 19), some (3, false), false, []⟩, ⟨some 21, false, .fa 3 (.t 20), some (3, false), false, []⟩, ⟨some 22, false, .ld none (.t 21), some (3, false), false, []⟩, ⟨some 23, false, .mv (.t 3), some (3, false), false, []⟩, ⟨some 24, false, .bin .sub (.t 23) (.c (.int .i64 1)), some (3, false), false, []⟩, ⟨some 25, false, .call (.c (.fn 804 [])) [.t 22, .c (.int .i64 0), .t 24], some (3, false), false, []⟩, ⟨some 26, false, .un .not (.t 25), some (3, false), false, []⟩, ⟨some 27, false, .pick (.t 18) (.c (.bool true)) (.t 26), none, false, []⟩] [0, 3, 4, 27] []) (.cond (.t 27) (.seq (.reg false [⟨some 2, false, .asg (.c (.bool false)), none, false, []⟩] [2] []) .ret) .skip)) (.norm [0, 3, 4] [] spec_l17Ok_k2)))) spec_l17Ok_k3)
def spec_l17Ok_k5 : C :=
 .norm [0, 3] [] spec_l17Ok_k4
def spec_l17Ok_k6 : C :=
 .seq (.reg false [⟨some 43, false, .mv (.t 0), none, false, []⟩, ⟨some 44, false, .len (.t 43), none, false, []⟩, ⟨some 45, false, .bin .leq (.t 44) (.c (.int .i64 12)), none, false, []⟩, ⟨some 2, false, .asg (.t 45), none, false, []⟩] [2] []) .ret
def spec_l17Ok_ir : Fn := { np := 1, io := [], res := [.t 2], own := [false], body :=
 (.seq (.reg false [⟨some 2, false, .asg (.c (.bool false)), none, false, []⟩] [0] []) (.seq (.seq (.reg false [⟨some 3, false, .asg (.c (.int .i64 0)), none, false, []⟩] [0, 3] []) (.block 0 (.loop spec_l17Ok_k5))) spec_l17Ok_k6)) }
noncomputable def spec_l17Ok_D : List (Nat × Callee) := [(804, spec_l00Rises_c), (846, spec_l17One_c)]
def spec_l17Ok_H : List (Nat × ET) := [(7, T_Step), (12, T_Step), (22, (.one (.int .i64))), (33, T_Step), (43, T_Step)]
noncomputable def spec_l17Ok_c : Callee := mkCallee spec_l17Ok_D spec_l17Ok_H spec_l17Ok_ir [.d (.one (.sl T_Step))] [.d (.one .bool)] []
noncomputable def spec_l17Ok (a0 : List T_Step.ty) : Option (Bool) := spec_l17Ok_c.f (a0, ())
noncomputable def spec_l17Ok_p0  (v0 : List T_Step.ty) (v3 : Int) : Option (Bool) :=
 goL spec_l17Ok_D spec_l17Ok_H (vleave spec_l17Ok_ir [.d (.one (.sl T_Step))] [.d (.one .bool)] [] []) [.c spec_l17Ok_k4, .l spec_l17Ok_k5, .e 0, .c spec_l17Ok_k6]
  ⟨[(0, .sl T_Step v0), (3, .int .i64 v3)], []⟩
noncomputable def spec_l17Ok_p1  (v0 : List T_Step.ty) (v3 : Int) (v4_0 : List UInt8) (v4_1 : Int) (v4_2 : Int) (v4_3 : List Int) : Option (Bool) :=
 goL spec_l17Ok_D spec_l17Ok_H (vleave spec_l17Ok_ir [.d (.one (.sl T_Step))] [.d (.one .bool)] [] []) [.c spec_l17Ok_k2, .e 1, .c spec_l17Ok_k3, .l spec_l17Ok_k5, .e 0, .c spec_l17Ok_k6]
  ⟨[(0, .sl T_Step v0), (3, .int .i64 v3), (4, .ptr [.str v4_0, .int .i64 v4_1, .int .i64 v4_2, .sl (.one (.int .i64)) v4_3] 0)], []⟩
noncomputable def spec_l17Ok_p2  (v0 : List T_Step.ty) (v3 : Int) (v4_0 : List UInt8) (v4_1 : Int) (v4_2 : Int) (v4_3 : List Int) (v5 : Int) : Option (Bool) :=
 goL spec_l17Ok_D spec_l17Ok_H (vleave spec_l17Ok_ir [.d (.one (.sl T_Step))] [.d (.one .bool)] [] []) [.c spec_l17Ok_k0, .l spec_l17Ok_k1, .e 2, .e 1, .c spec_l17Ok_k3, .l spec_l17Ok_k5, .e 0, .c spec_l17Ok_k6]
  ⟨[(0, .sl T_Step v0), (3, .int .i64 v3), (4, .ptr [.str v4_0, .int .i64 v4_1, .int .i64 v4_2, .sl (.one (.int .i64)) v4_3] 0), (5, .int .i64 v5)], []⟩
theorem spec_l17Ok_eq (a0 : List T_Step.ty) : spec_l17Ok a0 =
  spec_l17Ok_p0 a0 0 :=
 (mk_f _ _ _ _ _ _ _ 4000).trans (by kernel_rfl)
theorem spec_l17Ok_p0_eq  (v0 : List T_Step.ty) (v3 : Int) : spec_l17Ok_p0 v0 v3 =
  if decide (v3 < (v0.length : Int)) then
   if decide (0 ≤ v3) then
    (v0[v3.toNat]?).bind fun x1 =>
     (spec_l17One x1).bind fun x2 =>
      if (!x2) then
       some false
      else
       (spec_l00Rises x1.2.2.2.1 0 (IntKind.i64.wrap (v3 - 1))).bind fun x3 =>
        if (!x3) then
         some false
        else
         spec_l17Ok_p1 v0 v3 x1.1 x1.2.1 x1.2.2.1 x1.2.2.2.1
   else
    none
  else
   some (decide ((v0.length : Int) ≤ 12)) :=
 (goL_dn _ _ _ 4000 _ _).trans (by kernel_rfl)
theorem spec_l17Ok_p1_eq  (v0 : List T_Step.ty) (v3 : Int) (v4_0 : List UInt8) (v4_1 : Int) (v4_2 : Int) (v4_3 : List Int) : spec_l17Ok_p1 v0 v3 v4_0 v4_1 v4_2 v4_3 =
  spec_l17Ok_p2 v0 v3 v4_0 v4_1 v4_2 v4_3 0 :=
 (goL_dn _ _ _ 4000 _ _).trans (by kernel_rfl)
theorem spec_l17Ok_p2_eq  (v0 : List T_Step.ty) (v3 : Int) (v4_0 : List UInt8) (v4_1 : Int) (v4_2 : Int) (v4_3 : List Int) (v5 : Int) : spec_l17Ok_p2 v0 v3 v4_0 v4_1 v4_2 v4_3 v5 =
  if decide (v5 < v3) then
   if decide (0 ≤ v5) then
    (v0[v5.toNat]?).bind fun x1 =>
     if (x1.1 == v4_0) then
      some false
     else
      spec_l17Ok_p2 v0 v3 v4_0 v4_1 v4_2 v4_3 (IntKind.i64.wrap (v5 + 1))
   else
    none
  else
   spec_l17Ok_p0 v0 (IntKind.i64.wrap (v3 + 1)) :=
 (goL_dn _ _ _ 4000 _ _).trans (by kernel_rfl)

/- spec.l17Starts -/
def spec_l17Starts_k0 : C :=
 .seq (.seq (.reg false [⟨some 6, false, .mv (.t 5), none, false, []⟩, ⟨some 7, false, .mv (.t 1), none, false, []⟩, ⟨some 8, false, .len (.t 7), none, false, []⟩, ⟨some 9, false, .bin .lss (.t 6) (.t 8), none, false, []⟩] [0, 1, 5, 9] []) (.cond (.t 9) .skip (.exit 0))) (.seq (.block 1 (.seq (.reg false [⟨some 12, false, .mv (.t 1), none, false, []⟩, ⟨some 13, false, .mv (.t 5), none, false, []⟩, ⟨some 14, false, .ia 1 (.t 12) (.t 13), none, false, []⟩, ⟨some 15, false, .ld none (.t 14), none, false, []⟩, ⟨some 16, false, .call (.c (.fn 1 [])) [.t 15, .c (.int .i64 0), .c (.int .i64 2400)], none, false, []⟩, ⟨some 17, false, .un .not (.t 16), none, false, []⟩] [0, 1, 5, 17] []) (.cond (.t 17) (.seq (.reg false [⟨some 4, false, .asg (.c (.bool false)), none, false, []⟩] [4] []) .ret) .skip))) (.reg false [⟨some 10, false, .mv (.t 5), none, false, []⟩, ⟨some 11, false, .bin .add (.t 10) (.c (.int .i64 1)), none, false, []⟩, ⟨some 5, false, .asg (.t 11), none, false, []⟩] [0, 1, 5] []))
def spec_l17Starts_k1 : C :=
 .norm [0, 1, 5] [] spec_l17Starts_k0
def spec_l17Starts_k2 : C :=
 .seq (.reg false [⟨some 18, false, .mv (.t 1), none, false, []⟩, ⟨some 19, false, .len (.t 18), none, false, []⟩, ⟨some 20, false, .mv (.t 0), none, false, []⟩, ⟨some 21, false, .len (.t 20), none, false, []⟩, ⟨some 22, false, .bin .eql (.t 19) (.t 21), none, false, []⟩, ⟨some 4, false, .asg (.t 22), none, false, []⟩] [4] []) .ret
def spec_l17Starts_ir : Fn := { np := 2, io := [], res := [.t 4], own := [false], body :=
 (.seq (.reg false [⟨some 4, false, .asg (.c (.bool false)), none, false, []⟩] [0, 1] []) (.seq (.seq (.reg false [⟨some 5, false, .asg (.c (.int .i64 0)), none, false, []⟩] [0, 1, 5] []) (.block 0 (.loop spec_l17Starts_k1))) spec_l17Starts_k2)) }
noncomputable def spec_l17Starts_D : List (Nat × Callee) := [(1, spec_l00In_c)]
def spec_l17Starts_H : List (Nat × ET) := [(7, (.one (.int .i64))), (12, (.one (.int .i64))), (18, (.one (.int .i64))), (20, T_Step)]
noncomputable def spec_l17Starts_c : Callee := mkCallee spec_l17Starts_D spec_l17Starts_H spec_l17Starts_ir [.d (.one (.sl T_Step)), .d (.one (.sl (.one (.int .i64))))] [.d (.one .bool)] []
noncomputable def spec_l17Starts (a0 : List T_Step.ty) (a1 : List Int) : Option (Bool) := spec_l17Starts_c.f (a0, a1, ())
noncomputable def spec_l17Starts_p0  (v0 : List T_Step.ty) (v1 : List Int) (v5 : Int) : Option (Bool) :=
 goL spec_l17Starts_D spec_l17Starts_H (vleave spec_l17Starts_ir [.d (.one (.sl T_Step)), .d (.one (.sl (.one (.int .i64))))] [.d (.one .bool)] [] []) [.c spec_l17Starts_k0, .l spec_l17Starts_k1, .e 0, .c spec_l17Starts_k2]
  ⟨[(0, .sl T_Step v0), (1, .sl (.one (.int .i64)) v1), (5, .int .i64 v5)], []⟩
theorem spec_l17Starts_eq (a0 : List T_Step.ty) (a1 : List Int) : spec_l17Starts a0 a1 =
  spec_l17Starts_p0 a0 a1 0 :=
 (mk_f _ _ _ _ _ _ _ 4000).trans (by kernel_rfl)
theorem spec_l17Starts_p0_eq  (v0 : List T_Step.ty) (v1 : List Int) (v5 : Int) : spec_l17Starts_p0 v0 v1 v5 =
  if decide (v5 < (v1.length : Int)) then
   if decide (0 ≤ v5) then
    (v1[v5.toNat]?).bind fun x1 =>
     (spec_l00In x1 0 2400).bind fun x2 =>
      if (!x2) then
       some false
      else
       spec_l17Starts_p0 v0 v1 (IntKind.i64.wrap (v5 + 1))
   else
    none
  else
   some ((v1.length : Int) == (v0.length : Int)) :=
 (goL_dn _ _ _ 4000 _ _).trans (by kernel_rfl)

/- spec.l21Day -/
def spec_l21Day_ir : Fn := { np := 1, io := [], res := [.t 2], own := [false], body :=
 (.seq (.reg false [⟨some 2, false, .asg (.c (.bool false)), none, false, []⟩] [0] []) (.seq (.reg false [⟨some 3, false, .mv (.t 0), none, false, []⟩, ⟨some 4, false, .call (.c (.fn 1 [])) [.t 3, .c (.int .i64 0), .c (.int .i64 100000)], none, false, []⟩, ⟨some 2, false, .asg (.t 4), none, false, []⟩] [2] []) .ret)) }
noncomputable def spec_l21Day_D : List (Nat × Callee) := [(1, spec_l00In_c)]
def spec_l21Day_H : List (Nat × ET) := []
noncomputable def spec_l21Day_c : Callee := mkCallee spec_l21Day_D spec_l21Day_H spec_l21Day_ir [.d (.one (.int .i64))] [.d (.one .bool)] []
noncomputable def spec_l21Day (a0 : Int) : Option (Bool) := spec_l21Day_c.f (a0, ())
theorem spec_l21Day_eq (a0 : Int) : spec_l21Day a0 =
  (spec_l00In a0 0 100000).bind fun x1 =>
   some x1 :=
 (mk_f _ _ _ _ _ _ _ 4000).trans (by kernel_rfl)

/- spec.l21Money -/
def spec_l21Money_ir : Fn := { np := 1, io := [], res := [.t 2], own := [false], body :=
 (.seq (.reg false [⟨some 2, false, .asg (.c (.bool false)), none, false, []⟩] [0] []) (.seq (.reg false [⟨some 3, false, .mv (.t 0), none, false, []⟩, ⟨some 4, false, .call (.c (.fn 1 [])) [.t 3, .c (.int .i64 0), .c (.int .i64 10000000)], none, false, []⟩, ⟨some 2, false, .asg (.t 4), none, false, []⟩] [2] []) .ret)) }
noncomputable def spec_l21Money_D : List (Nat × Callee) := [(1, spec_l00In_c)]
def spec_l21Money_H : List (Nat × ET) := []
noncomputable def spec_l21Money_c : Callee := mkCallee spec_l21Money_D spec_l21Money_H spec_l21Money_ir [.d (.one (.int .i64))] [.d (.one .bool)] []
noncomputable def spec_l21Money (a0 : Int) : Option (Bool) := spec_l21Money_c.f (a0, ())
theorem spec_l21Money_eq (a0 : Int) : spec_l21Money a0 =
  (spec_l00In a0 0 10000000).bind fun x1 =>
   some x1 :=
 (mk_f _ _ _ _ _ _ _ 4000).trans (by kernel_rfl)

/- spec.l21One -/
def spec_l21One_ir : Fn := { np := 1, io := [], res := [.t 2], own := [false], body :=
 (.seq (.reg false [⟨some 2, false, .asg (.c (.bool false)), none, false, []⟩] [0] []) (.seq (.reg false [⟨some 3, false, .mv (.t 0), none, false, []⟩, ⟨some 4, false, .nilck (.t 3), none, false, []⟩, ⟨some 5, false, .fa 0 (.t 4), none, false, []⟩, ⟨some 6, false, .ld none (.t 5), none, false, []⟩, ⟨some 7, false, .call (.c (.fn 13 [])) [.t 6], none, false, []⟩, ⟨some 8, false, .mv (.t 7), none, false, []⟩, ⟨some 9, false, .mv (.t 0), some (5, true), false, []⟩, ⟨some 10, false, .nilck (.t 9), some (5, true), false, []⟩, ⟨some 11, false, .fa 1 (.t 10), some (5, true), false, []⟩, ⟨some 12, false, .ld none (.t 11), some (5, true), false, []⟩, ⟨some 13, false, .call (.c (.fn 13 [])) [.t 12], some (5, true), false, []⟩, ⟨some 14, false, .pick (.t 8) (.t 13) (.c (.bool false)), none, false, []⟩, ⟨some 15, false, .mv (.t 14), none, false, []⟩, ⟨some 16, false, .mv (.t 0), some (12, true), false, []⟩, ⟨some 17, false, .nilck (.t 16), some (12, true), false, []⟩, ⟨some 18, false, .fa 2 (.t 17), some (12, true), false, []⟩, ⟨some 19, false, .ld none (.t 18), some (12, true), false, []⟩, ⟨some 20, false, .call (.c (.fn 993 [])) [.t 19], some (12, true), false, []⟩, ⟨some 21, false, .pick (.t 15) (.t 20) (.c (.bool false)), none, false, []⟩, ⟨some 22, false, .mv (.t 21), none, false, []⟩, ⟨some 23, false, .mv (.t 0), some (19, true), false, []⟩, ⟨some 24, false, .nilck (.t 23), some (19, true), false, []⟩, ⟨some 25, false, .fa 3 (.t 24), some (19, true), false, []⟩, ⟨some 26, false, .ld none (.t 25), some (19, true), false, []⟩, ⟨some 27, false, .call (.c (.fn 1 [])) [.t 26, .c (.int .i64 1), .c (.int .i64 120)], some (19, true), false, []⟩, ⟨some 28, false, .pick (.t 22) (.t 27) (.c (.bool false)), none, false, []⟩, ⟨some 29, false, .mv (.t 28), none, false, []⟩, ⟨some 30, false, .mv (.t 0), some (26, true), false, []⟩, ⟨some 31, false, .nilck (.t 30), some (26, true), false, []⟩, ⟨some 32, false, .fa 4 (.t 31), some (26, true), false, []⟩, ⟨some 33, false, .ld none (.t 32), some (26, true), false, []⟩, ⟨some 34, false, .call (.c (.fn 994 [])) [.t 33], some (26, true), false, []⟩, ⟨some 35, false, .pick (.t 29) (.t 34) (.c (.bool false)), none, false, []⟩, ⟨some 2, false, .asg (.t 35), none, false, []⟩] [2] []) .ret)) }
noncomputable def spec_l21One_D : List (Nat × Callee) := [(1, spec_l00In_c), (13, spec_l01Name_c), (993, spec_l21Day_c), (994, spec_l21Money_c)]
def spec_l21One_H : List (Nat × ET) := []
noncomputable def spec_l21One_c : Callee := mkCallee spec_l21One_D spec_l21One_H spec_l21One_ir [.p T_Paper] [.d (.one .bool)] []
noncomputable def spec_l21One (a0 : T_Paper.ty) : Option (Bool) := spec_l21One_c.f (a0, ())
theorem spec_l21One_eq (a0 : T_Paper.ty) : spec_l21One a0 =
  (spec_l01Name a0.1).bind fun x1 =>
   if x1 then
    (spec_l01Name a0.2.1).bind fun x2 =>
     if x2 then
      (spec_l21Day a0.2.2.1).bind fun x3 =>
       if x3 then
        (spec_l00In a0.2.2.2.1 1 120).bind fun x4 =>
         if x4 then
          (spec_l21Money a0.2.2.2.2.1).bind fun x5 =>
           some x5
         else
          some false
       else
        some false
     else
      some false
   else
    some false :=
 (mk_f _ _ _ _ _ _ _ 4000).trans (by kernel_rfl)

/- spec.l21Ok -/
def spec_l21Ok_k0 : C :=
 .seq (.seq (.reg false [⟨some 4, false, .mv (.t 3), none, false, []⟩, ⟨some 5, false, .mv (.t 0), none, false, []⟩, ⟨some 6, false, .len (.t 5), none, false, []⟩, ⟨some 7, false, .bin .lss (.t 4) (.t 6), none, false, []⟩] [0, 3, 7] []) (.cond (.t 7) .skip (.exit 0))) (.seq (.block 1 (.seq (.reg true [⟨some 10, false, .mv (.t 0), none, false, []⟩, ⟨some 11, false, .mv (.t 3), none, false, []⟩, ⟨some 12, false, .ia 5 (.t 10) (.t 11), none, false, []⟩, ⟨some 13, false, .call (.c (.fn 834 [])) [.t 12], none, false, []⟩, ⟨some 14, false, .un .not (.t 13), none, false, []⟩, ⟨some 15, false, .mv (.t 14), none, false, []⟩, ⟨some 16, false, .mv (.t 3), some (5, false), false, []⟩, ⟨some 17, false, .bin .gtr (.t 16) (.c (.int .i64 0)), some (5, false), false, []⟩, ⟨some 18, false, .mv (.t 17), some (5, false), false, []⟩, ⟨some 19, false, .mv (.t 0), some (8, true), false, []⟩, ⟨some 20, false, .mv (.t 3), some (8, true), false, []⟩, ⟨some 21, false, .bin .sub (.t 20) (.c (.int .i64 1)), some (8, true), false, []⟩, ⟨some 22, false, .ia 5 (.t 19) (.t 21), some (8, true), false, []⟩, ⟨some 23, false, .fa 0 (.t 22), some (8, true), false, []⟩, ⟨some 24, false, .ld none (.t 23), some (8, true), false, []⟩, ⟨some 25, false, .mv (.t 0), some (8, true), false, []⟩, ⟨some 26, false, .mv (.t 3), some (8, true), false, []⟩, ⟨some 27, false, .ia 5 (.t 25) (.t 26), some (8, true), false, []⟩, ⟨some 28, false, .fa 0 (.t 27), some (8, true), false, []⟩, ⟨some 29, false, .ld none (.t 28), some (8, true), false, []⟩, ⟨some 30, false, .bin .geq (.t 24) (.t 29), some (8, true), false, []⟩, ⟨some 31, false, .pick (.t 18) (.t 30) (.c (.bool false)), some (5, false), false, []⟩, ⟨some 32, false, .pick (.t 15) (.c (.bool true)) (.t 31), none, false, []⟩] [0, 3, 32] []) (.cond (.t 32) (.seq (.reg false [⟨some 2, false, .asg (.c (.bool false)), none, false, []⟩] [2] []) .ret) .skip))) (.reg false [⟨some 8, false, .mv (.t 3), none, false, []⟩, ⟨some 9, false, .bin .add (.t 8) (.c (.int .i64 1)), none, false, []⟩, ⟨some 3, false, .asg (.t 9), none, false, []⟩] [0, 3] []))
def spec_l21Ok_k1 : C :=
 .norm [0, 3] [] spec_l21Ok_k0
def spec_l21Ok_k2 : C :=
 .seq (.reg false [⟨some 33, false, .mv (.t 0), none, false, []⟩, ⟨some 34, false, .len (.t 33), none, false, []⟩, ⟨some 35, false, .bin .leq (.t 34) (.c (.int .i64 12)), none, false, []⟩, ⟨some 2, false, .asg (.t 35), none, false, []⟩] [2] []) .ret
def spec_l21Ok_ir : Fn := { np := 1, io := [], res := [.t 2], own := [false], body :=
 (.seq (.reg false [⟨some 2, false, .asg (.c (.bool false)), none, false, []⟩] [0] []) (.seq (.seq (.reg false [⟨some 3, false, .asg (.c (.int .i64 0)), none, false, []⟩] [0, 3] []) (.block 0 (.loop spec_l21Ok_k1))) spec_l21Ok_k2)) }
noncomputable def spec_l21Ok_D : List (Nat × Callee) := [(834, spec_l21One_c)]
def spec_l21Ok_H : List (Nat × ET) := [(5, T_Paper), (10, T_Paper), (19, T_Paper), (25, T_Paper), (33, T_Paper)]
noncomputable def spec_l21Ok_c : Callee := mkCallee spec_l21Ok_D spec_l21Ok_H spec_l21Ok_ir [.d (.one (.sl T_Paper))] [.d (.one .bool)] []
noncomputable def spec_l21Ok (a0 : List T_Paper.ty) : Option (Bool) := spec_l21Ok_c.f (a0, ())
noncomputable def spec_l21Ok_p0  (v0 : List T_Paper.ty) (v3 : Int) : Option (Bool) :=
 goL spec_l21Ok_D spec_l21Ok_H (vleave spec_l21Ok_ir [.d (.one (.sl T_Paper))] [.d (.one .bool)] [] []) [.c spec_l21Ok_k0, .l spec_l21Ok_k1, .e 0, .c spec_l21Ok_k2]
  ⟨[(0, .sl T_Paper v0), (3, .int .i64 v3)], []⟩
theorem spec_l21Ok_eq (a0 : List T_Paper.ty) : spec_l21Ok a0 =
  spec_l21Ok_p0 a0 0 :=
 (mk_f _ _ _ _ _ _ _ 4000).trans (by kernel_rfl)
theorem spec_l21Ok_p0_eq  (v0 : List T_Paper.ty) (v3 : Int) : spec_l21Ok_p0 v0 v3 =
  if decide (v3 < (v0.length : Int)) then
   if decide (0 ≤ v3) then
    (v0[v3.toNat]?).bind fun x1 =>
     (spec_l21One x1).bind fun x2 =>
      if (!x2) then
       some false
      else
       if decide (v3 > 0) then
        if decide (0 ≤ IntKind.i64.wrap (v3 - 1)) then
         (v0[(IntKind.i64.wrap (v3 - 1)).toNat]?).bind fun x3 =>
          if decide (0 ≤ v3) then
           (v0[v3.toNat]?).bind fun x4 =>
            if (!Op.bytesLess x3.1 x4.1) then
             some false
            else
             spec_l21Ok_p0 v0 (IntKind.i64.wrap (v3 + 1))
          else
           none
        else
         none
       else
        spec_l21Ok_p0 v0 (IntKind.i64.wrap (v3 + 1))
   else
    none
  else
   some (decide ((v0.length : Int) ≤ 12)) :=
 (goL_dn _ _ _ 4000 _ _).trans (by kernel_rfl)

/- spec.l25One -/
def spec_l25One_ir : Fn := { np := 1, io := [], res := [.t 2], own := [false], body :=
 (.seq (.reg false [⟨some 2, false, .asg (.c (.bool false)), none, false, []⟩] [0] []) (.seq (.reg true [⟨some 3, false, .mv (.t 0), none, false, []⟩, ⟨some 4, false, .nilck (.t 3), none, false, []⟩, ⟨some 5, false, .fa 0 (.t 4), none, false, []⟩, ⟨some 6, false, .ld none (.t 5), none, false, []⟩, ⟨some 7, false, .call (.c (.fn 993 [])) [.t 6], none, false, []⟩, ⟨some 8, false, .mv (.t 7), none, false, []⟩, ⟨some 9, false, .mv (.t 0), some (5, true), false, []⟩, ⟨some 10, false, .nilck (.t 9), some (5, true), false, []⟩, ⟨some 11, false, .fa 1 (.t 10), some (5, true), false, []⟩, ⟨some 12, false, .ld none (.t 11), some (5, true), false, []⟩, ⟨some 13, false, .call (.c (.fn 13 [])) [.t 12], some (5, true), false, []⟩, ⟨some 14, false, .pick (.t 8) (.t 13) (.c (.bool false)), none, false, []⟩, ⟨some 15, false, .mv (.t 14), none, false, []⟩, ⟨some 16, false, .mv (.t 0), some (12, true), false, []⟩, ⟨some 17, false, .nilck (.t 16), some (12, true), false, []⟩, ⟨some 18, false, .fa 2 (.t 17), some (12, true), false, []⟩, ⟨some 19, false, .ld none (.t 18), some (12, true), false, []⟩, ⟨some 20, false, .call (.c (.fn 13 [])) [.t 19], some (12, true), false, []⟩, ⟨some 21, false, .pick (.t 15) (.t 20) (.c (.bool false)), none, false, []⟩, ⟨some 22, false, .mv (.t 21), none, false, []⟩, ⟨some 23, false, .mv (.t 0), some (19, true), false, []⟩, ⟨some 24, false, .nilck (.t 23), some (19, true), false, []⟩, ⟨some 25, false, .fa 1 (.t 24), some (19, true), false, []⟩, ⟨some 26, false, .ld none (.t 25), some (19, true), false, []⟩, ⟨some 27, false, .mv (.t 0), some (19, true), false, []⟩, ⟨some 28, false, .nilck (.t 27), some (19, true), false, []⟩, ⟨some 29, false, .fa 2 (.t 28), some (19, true), false, []⟩, ⟨some 30, false, .ld none (.t 29), some (19, true), false, []⟩, ⟨some 31, false, .bin .neq (.t 26) (.t 30), some (19, true), false, []⟩, ⟨some 32, false, .pick (.t 22) (.t 31) (.c (.bool false)), none, false, []⟩, ⟨some 33, false, .mv (.t 32), none, false, []⟩, ⟨some 34, false, .mv (.t 0), some (30, true), false, []⟩, ⟨some 35, false, .nilck (.t 34), some (30, true), false, []⟩, ⟨some 36, false, .fa 3 (.t 35), some (30, true), false, []⟩, ⟨some 37, false, .ld none (.t 36), some (30, true), false, []⟩, ⟨some 38, false, .call (.c (.fn 1 [])) [.t 37, .c (.int .i64 1), .c (.int .i64 10000000)], some (30, true), false, []⟩, ⟨some 39, false, .pick (.t 33) (.t 38) (.c (.bool false)), none, false, []⟩, ⟨some 2, false, .asg (.t 39), none, false, []⟩] [2] []) .ret)) }
noncomputable def spec_l25One_D : List (Nat × Callee) := [(1, spec_l00In_c), (13, spec_l01Name_c), (993, spec_l21Day_c)]
def spec_l25One_H : List (Nat × ET) := []
noncomputable def spec_l25One_c : Callee := mkCallee spec_l25One_D spec_l25One_H spec_l25One_ir [.p T_Entry] [.d (.one .bool)] []
noncomputable def spec_l25One (a0 : T_Entry.ty) : Option (Bool) := spec_l25One_c.f (a0, ())
theorem spec_l25One_eq (a0 : T_Entry.ty) : spec_l25One a0 =
  (spec_l21Day a0.1).bind fun x1 =>
   if x1 then
    (spec_l01Name a0.2.1).bind fun x2 =>
     if x2 then
      (spec_l01Name a0.2.2.1).bind fun x3 =>
       if x3 then
        if (!(a0.2.1 == a0.2.2.1)) then
         (spec_l00In a0.2.2.2.1 1 10000000).bind fun x4 =>
          some x4
        else
         some false
       else
        some false
     else
      some false
   else
    some false :=
 (mk_f _ _ _ _ _ _ _ 4000).trans (by kernel_rfl)

/- spec.l25Ok -/
def spec_l25Ok_k0 : C :=
 .seq (.seq (.reg false [⟨some 4, false, .mv (.t 3), none, false, []⟩, ⟨some 5, false, .mv (.t 0), none, false, []⟩, ⟨some 6, false, .len (.t 5), none, false, []⟩, ⟨some 7, false, .bin .lss (.t 4) (.t 6), none, false, []⟩] [0, 3, 7] []) (.cond (.t 7) .skip (.exit 0))) (.seq (.block 1 (.seq (.reg true [⟨some 10, false, .mv (.t 0), none, false, []⟩, ⟨some 11, false, .mv (.t 3), none, false, []⟩, ⟨some 12, false, .ia 4 (.t 10) (.t 11), none, false, []⟩, ⟨some 13, false, .call (.c (.fn 1028 [])) [.t 12], none, false, []⟩, ⟨some 14, false, .un .not (.t 13), none, false, []⟩, ⟨some 15, false, .mv (.t 14), none, false, []⟩, ⟨some 16, false, .mv (.t 3), some (5, false), false, []⟩, ⟨some 17, false, .bin .gtr (.t 16) (.c (.int .i64 0)), some (5, false), false, []⟩, ⟨some 18, false, .mv (.t 17), some (5, false), false, []⟩, ⟨some 19, false, .mv (.t 0), some (8, true), false, []⟩, ⟨some 20, false, .mv (.t 3), some (8, true), false, []⟩, ⟨some 21, false, .bin .sub (.t 20) (.c (.int .i64 1)), some (8, true), false, []⟩, ⟨some 22, false, .ia 4 (.t 19) (.t 21), some (8, true), false, []⟩, ⟨some 23, false, .fa 0 (.t 22), some (8, true), false, []⟩, ⟨some 24, false, .ld none (.t 23), some (8, true), false, []⟩, ⟨some 25, false, .mv (.t 0), some (8, true), false, []⟩, ⟨some 26, false, .mv (.t 3), some (8, true), false, []⟩, ⟨some 27, false, .ia 4 (.t 25) (.t 26), some (8, true), false, []⟩, ⟨some 28, false, .fa 0 (.t 27), some (8, true), false, []⟩, ⟨some 29, false, .ld none (.t 28), some (8, true), false, []⟩, ⟨some 30, false, .bin .gtr (.t 24) (.t 29), some (8, true), false, []⟩, ⟨some 31, false, .pick (.t 18) (.t 30) (.c (.bool false)), some (5, false), false, []⟩, ⟨some 32, false, .pick (.t 15) (.c (.bool true)) (.t 31), none, false, []⟩] [0, 3, 32] []) (.cond (.t 32) (.seq (.reg false [⟨some 2, false, .asg (.c (.bool false)), none, false, []⟩] [2] []) .ret) .skip))) (.reg false [⟨some 8, false, .mv (.t 3), none, false, []⟩, ⟨some 9, false, .bin .add (.t 8) (.c (.int .i64 1)), none, false, []⟩, ⟨some 3, false, .asg (.t 9), none, false, []⟩] [0, 3] []))
def spec_l25Ok_k1 : C :=
 .norm [0, 3] [] spec_l25Ok_k0
def spec_l25Ok_k2 : C :=
 .seq (.reg false [⟨some 33, false, .mv (.t 0), none, false, []⟩, ⟨some 34, false, .len (.t 33), none, false, []⟩, ⟨some 35, false, .bin .leq (.t 34) (.c (.int .i64 32)), none, false, []⟩, ⟨some 2, false, .asg (.t 35), none, false, []⟩] [2] []) .ret
def spec_l25Ok_ir : Fn := { np := 1, io := [], res := [.t 2], own := [false], body :=
 (.seq (.reg false [⟨some 2, false, .asg (.c (.bool false)), none, false, []⟩] [0] []) (.seq (.seq (.reg false [⟨some 3, false, .asg (.c (.int .i64 0)), none, false, []⟩] [0, 3] []) (.block 0 (.loop spec_l25Ok_k1))) spec_l25Ok_k2)) }
noncomputable def spec_l25Ok_D : List (Nat × Callee) := [(1028, spec_l25One_c)]
def spec_l25Ok_H : List (Nat × ET) := [(5, T_Entry), (10, T_Entry), (19, T_Entry), (25, T_Entry), (33, T_Entry)]
noncomputable def spec_l25Ok_c : Callee := mkCallee spec_l25Ok_D spec_l25Ok_H spec_l25Ok_ir [.d (.one (.sl T_Entry))] [.d (.one .bool)] []
noncomputable def spec_l25Ok (a0 : List T_Entry.ty) : Option (Bool) := spec_l25Ok_c.f (a0, ())
noncomputable def spec_l25Ok_p0  (v0 : List T_Entry.ty) (v3 : Int) : Option (Bool) :=
 goL spec_l25Ok_D spec_l25Ok_H (vleave spec_l25Ok_ir [.d (.one (.sl T_Entry))] [.d (.one .bool)] [] []) [.c spec_l25Ok_k0, .l spec_l25Ok_k1, .e 0, .c spec_l25Ok_k2]
  ⟨[(0, .sl T_Entry v0), (3, .int .i64 v3)], []⟩
theorem spec_l25Ok_eq (a0 : List T_Entry.ty) : spec_l25Ok a0 =
  spec_l25Ok_p0 a0 0 :=
 (mk_f _ _ _ _ _ _ _ 4000).trans (by kernel_rfl)
theorem spec_l25Ok_p0_eq  (v0 : List T_Entry.ty) (v3 : Int) : spec_l25Ok_p0 v0 v3 =
  if decide (v3 < (v0.length : Int)) then
   if decide (0 ≤ v3) then
    (v0[v3.toNat]?).bind fun x1 =>
     (spec_l25One x1).bind fun x2 =>
      if (!x2) then
       some false
      else
       if decide (v3 > 0) then
        if decide (0 ≤ IntKind.i64.wrap (v3 - 1)) then
         (v0[(IntKind.i64.wrap (v3 - 1)).toNat]?).bind fun x3 =>
          if decide (0 ≤ v3) then
           (v0[v3.toNat]?).bind fun x4 =>
            if decide (x3.1 > x4.1) then
             some false
            else
             spec_l25Ok_p0 v0 (IntKind.i64.wrap (v3 + 1))
          else
           none
        else
         none
       else
        spec_l25Ok_p0 v0 (IntKind.i64.wrap (v3 + 1))
   else
    none
  else
   some (decide ((v0.length : Int) ≤ 32)) :=
 (goL_dn _ _ _ 4000 _ _).trans (by kernel_rfl)

/- spec.l31Ok -/
def spec_l31Ok_k0 : C :=
 .seq (.reg false [⟨some 45, false, .mv (.t 0), none, false, []⟩, ⟨some 46, false, .nilck (.t 45), none, false, []⟩, ⟨some 47, false, .fa 5 (.t 46), none, false, []⟩, ⟨some 48, false, .ld none (.t 47), none, false, []⟩, ⟨some 49, false, .call (.c (.fn 1 [])) [.t 48, .c (.int .i64 0), .c (.int .i64 240)], none, false, []⟩, ⟨some 50, false, .mv (.t 49), none, false, []⟩, ⟨some 51, false, .mv (.t 0), some (5, true), false, []⟩, ⟨some 52, false, .nilck (.t 51), some (5, true), false, []⟩, ⟨some 53, false, .fa 6 (.t 52), some (5, true), false, []⟩, ⟨some 54, false, .ld none (.t 53), some (5, true), false, []⟩, ⟨some 55, false, .call (.c (.fn 722 [])) [.t 54], some (5, true), false, []⟩, ⟨some 56, false, .pick (.t 50) (.t 55) (.c (.bool false)), none, false, []⟩, ⟨some 57, false, .mv (.t 56), none, false, []⟩, ⟨some 58, false, .mv (.t 0), some (12, true), false, []⟩, ⟨some 59, false, .nilck (.t 58), some (12, true), false, []⟩, ⟨some 60, false, .fa 7 (.t 59), some (12, true), false, []⟩, ⟨some 61, false, .ld none (.t 60), some (12, true), false, []⟩, ⟨some 62, false, .call (.c (.fn 888 [])) [.t 61], some (12, true), false, []⟩, ⟨some 63, false, .pick (.t 57) (.t 62) (.c (.bool false)), none, false, []⟩, ⟨some 2, false, .asg (.t 63), none, false, []⟩] [2] []) .ret
def spec_l31Ok_ir : Fn := { np := 1, io := [], res := [.t 2], own := [false], body :=
 (.seq (.reg false [⟨some 2, false, .asg (.c (.bool false)), none, false, []⟩] [0] []) (.seq (.seq (.reg true [⟨some 3, false, .mv (.t 0), none, false, []⟩, ⟨some 4, false, .nilck (.t 3), none, false, []⟩, ⟨some 5, false, .fa 0 (.t 4), none, false, []⟩, ⟨some 6, false, .ld none (.t 5), none, false, []⟩, ⟨some 7, false, .call (.c (.fn 889 [])) [.t 6], none, false, []⟩, ⟨some 8, false, .un .not (.t 7), none, false, []⟩, ⟨some 9, false, .mv (.t 8), none, false, []⟩, ⟨some 10, false, .mv (.t 0), some (6, false), false, []⟩, ⟨some 11, false, .nilck (.t 10), some (6, false), false, []⟩, ⟨some 12, false, .fa 1 (.t 11), some (6, false), false, []⟩, ⟨some 13, false, .ld none (.t 12), some (6, false), false, []⟩, ⟨some 14, false, .call (.c (.fn 890 [])) [.t 13], some (6, false), false, []⟩, ⟨some 15, false, .un .not (.t 14), some (6, false), false, []⟩, ⟨some 16, false, .pick (.t 9) (.c (.bool true)) (.t 15), none, false, []⟩, ⟨some 17, false, .mv (.t 16), none, false, []⟩, ⟨some 18, false, .mv (.t 0), some (14, false), false, []⟩, ⟨some 19, false, .nilck (.t 18), some (14, false), false, []⟩, ⟨some 20, false, .fa 2 (.t 19), some (14, false), false, []⟩, ⟨some 21, false, .ld none (.t 20), some (14, false), false, []⟩, ⟨some 22, false, .call (.c (.fn 891 [])) [.t 21], some (14, false), false, []⟩, ⟨some 23, false, .un .not (.t 22), some (14, false), false, []⟩, ⟨some 24, false, .pick (.t 17) (.c (.bool true)) (.t 23), none, false, []⟩, ⟨some 25, false, .mv (.t 24), none, false, []⟩, ⟨some 26, false, .mv (.t 0), some (22, false), false, []⟩, ⟨some 27, false, .nilck (.t 26), some (22, false), false, []⟩, ⟨some 28, false, .fa 3 (.t 27), some (22, false), false, []⟩, ⟨some 29, false, .ld none (.t 28), some (22, false), false, []⟩, ⟨some 30, false, .call (.c (.fn 462 [])) [.t 29], some (22, false), false, []⟩, ⟨some 31, false, .un .not (.t 30), some (22, false), false, []⟩, ⟨some 32, false, .pick (.t 25) (.c (.bool true)) (.t 31), none, false, []⟩, ⟨some 33, false, .mv (.t 32), none, false, []⟩, ⟨some 34, false, .mv (.t 0), some (30, false), false, []⟩, ⟨some 35, false, .nilck (.t 34), some (30, false), false, []⟩, ⟨some 36, false, .fa 3 (.t 35), some (30, false), false, []⟩, ⟨some 37, false, .ld none (.t 36), some (30, false), false, []⟩, ⟨some 38, false, .mv (.t 0), some (30, false), false, []⟩, ⟨some 39, false, .nilck (.t 38), some (30, false), false, []⟩, ⟨some 40, false, .fa 4 (.t 39), some (30, false), false, []⟩, ⟨some 41, false, .ld none (.t 40), some (30, false), false, []⟩, ⟨some 42, false, .call (.c (.fn 537 [])) [.t 37, .t 41], some (30, false), false, []⟩, ⟨some 43, false, .un .not (.t 42), some (30, false), false, []⟩, ⟨some 44, false, .pick (.t 33) (.c (.bool true)) (.t 43), none, false, []⟩] [0, 44] []) (.cond (.t 44) (.seq (.reg false [⟨some 2, false, .asg (.c (.bool false)), none, false, []⟩] [2] []) .ret) .skip)) (.norm [0] [] spec_l31Ok_k0))) }
noncomputable def spec_l31Ok_D : List (Nat × Callee) := [(1, spec_l00In_c), (462, spec_l17Ok_c), (537, spec_l17Starts_c), (722, spec_l21Ok_c), (888, spec_l25Ok_c), (889, spec_l05Ok_c), (890, spec_l09List_c), (891, spec_l09Share_c)]
def spec_l31Ok_H : List (Nat × ET) := [(6, T_Arc), (13, T_Neck), (29, T_Step), (37, T_Step), (41, (.one (.int .i64))), (54, T_Paper), (61, T_Entry)]
noncomputable def spec_l31Ok_c : Callee := mkCallee spec_l31Ok_D spec_l31Ok_H spec_l31Ok_ir [.p T_Shop] [.d (.one .bool)] []
noncomputable def spec_l31Ok (a0 : T_Shop.ty) : Option (Bool) := spec_l31Ok_c.f (a0, ())
noncomputable def spec_l31Ok_p0  (v0_0 : List T_Arc.ty) (v0_1 : List T_Neck.ty) (v0_2 : Int) (v0_3 : List T_Step.ty) (v0_4 : List Int) (v0_5 : Int) (v0_6 : List T_Paper.ty) (v0_7 : List T_Entry.ty) : Option (Bool) :=
 goL spec_l31Ok_D spec_l31Ok_H (vleave spec_l31Ok_ir [.p T_Shop] [.d (.one .bool)] [] []) [.c spec_l31Ok_k0]
  ⟨[(0, .ptr [.sl T_Arc v0_0, .sl T_Neck v0_1, .int .i64 v0_2, .sl T_Step v0_3, .sl (.one (.int .i64)) v0_4, .int .i64 v0_5, .sl T_Paper v0_6, .sl T_Entry v0_7] 0)], []⟩
theorem spec_l31Ok_eq (a0 : T_Shop.ty) : spec_l31Ok a0 =
  (spec_l05Ok a0.1).bind fun x1 =>
   if (!x1) then
    some false
   else
    (spec_l09List a0.2.1).bind fun x2 =>
     if (!x2) then
      some false
     else
      (spec_l09Share a0.2.2.1).bind fun x3 =>
       if (!x3) then
        some false
       else
        (spec_l17Ok a0.2.2.2.1).bind fun x4 =>
         if (!x4) then
          some false
         else
          (spec_l17Starts a0.2.2.2.1 a0.2.2.2.2.1).bind fun x5 =>
           if (!x5) then
            some false
           else
            spec_l31Ok_p0 a0.1 a0.2.1 a0.2.2.1 a0.2.2.2.1 a0.2.2.2.2.1 a0.2.2.2.2.2.1 a0.2.2.2.2.2.2.1 a0.2.2.2.2.2.2.2.1 :=
 (mk_f _ _ _ _ _ _ _ 4000).trans (by kernel_rfl)
theorem spec_l31Ok_p0_eq  (v0_0 : List T_Arc.ty) (v0_1 : List T_Neck.ty) (v0_2 : Int) (v0_3 : List T_Step.ty) (v0_4 : List Int) (v0_5 : Int) (v0_6 : List T_Paper.ty) (v0_7 : List T_Entry.ty) : spec_l31Ok_p0 v0_0 v0_1 v0_2 v0_3 v0_4 v0_5 v0_6 v0_7 =
  (spec_l00In v0_5 0 240).bind fun x1 =>
   if x1 then
    (spec_l21Ok v0_6).bind fun x2 =>
     if x2 then
      (spec_l25Ok v0_7).bind fun x3 =>
       some x3
     else
      some false
   else
    some false :=
 (goL_dn _ _ _ 4000 _ _).trans (by kernel_rfl)

/- spec.ValidShop -/
def spec_ValidShop_ir : Fn := { np := 1, io := [], res := [.t 2], own := [false], body :=
 (.seq (.reg false [⟨some 1, true, .box 8 (.t 0), none, false, []⟩, ⟨some 2, false, .asg (.c (.bool false)), none, false, []⟩] [1] [1, 2000, 2001, 2003, 2004, 2006, 2007]) (.seq (.reg false [⟨some 3, false, .call (.c (.fn 602 [])) [.t 1], none, false, []⟩, ⟨some 2, false, .asg (.t 3), none, false, []⟩] [2] []) .ret)) }
noncomputable def spec_ValidShop_D : List (Nat × Callee) := [(602, spec_l31Ok_c)]
def spec_ValidShop_H : List (Nat × ET) := []
noncomputable def spec_ValidShop_c : Callee := mkCallee spec_ValidShop_D spec_ValidShop_H spec_ValidShop_ir [.d T_Shop] [.d (.one .bool)] []
noncomputable def spec_ValidShop (a0 : T_Shop.ty) : Option (Bool) := spec_ValidShop_c.f (a0, ())
theorem spec_ValidShop_eq (a0 : T_Shop.ty) : spec_ValidShop a0 =
  (spec_l31Ok a0).bind fun x1 =>
   some x1 :=
 (mk_f _ _ _ _ _ _ _ 4000).trans (by kernel_rfl)

/- impl.within -/
def impl_within_ir : Fn := { np := 3, io := [], res := [.t 6], own := [false], body :=
 (.seq (.reg false [⟨some 6, false, .asg (.c (.bool false)), none, false, []⟩] [0, 1, 2] []) (.seq (.reg false [⟨some 7, false, .mv (.t 1), none, false, []⟩, ⟨some 8, false, .mv (.t 0), none, false, []⟩, ⟨some 9, false, .bin .leq (.t 7) (.t 8), none, false, []⟩, ⟨some 10, false, .mv (.t 9), none, false, []⟩, ⟨some 11, false, .mv (.t 0), some (3, true), false, []⟩, ⟨some 12, false, .mv (.t 2), some (3, true), false, []⟩, ⟨some 13, false, .bin .leq (.t 11) (.t 12), some (3, true), false, []⟩, ⟨some 14, false, .pick (.t 10) (.t 13) (.c (.bool false)), none, false, []⟩, ⟨some 6, false, .asg (.t 14), none, false, []⟩] [6] []) .ret)) }
noncomputable def impl_within_D : List (Nat × Callee) := []
def impl_within_H : List (Nat × ET) := []
noncomputable def impl_within_c : Callee := mkCallee impl_within_D impl_within_H impl_within_ir [.d (.one (.int .i64)), .d (.one (.int .i64)), .d (.one (.int .i64))] [.d (.one .bool)] []
noncomputable def impl_within (a0 : Int) (a1 : Int) (a2 : Int) : Option (Bool) := impl_within_c.f (a0, a1, a2, ())
theorem impl_within_eq (a0 : Int) (a1 : Int) (a2 : Int) : impl_within a0 a1 a2 =
  if decide (a1 ≤ a0) then
   some (decide (a0 ≤ a2))
  else
   some false :=
 (mk_f _ _ _ _ _ _ _ 4000).trans (by kernel_rfl)

/- impl.isCoord -/
def impl_isCoord_ir : Fn := { np := 1, io := [], res := [.t 2], own := [false], body :=
 (.seq (.reg false [⟨some 2, false, .asg (.c (.bool false)), none, false, []⟩] [0] []) (.seq (.reg false [⟨some 3, false, .mv (.t 0), none, false, []⟩, ⟨some 4, false, .call (.c (.fn 23 [])) [.t 3, .c (.int .i64 (-100000)), .c (.int .i64 100000)], none, false, []⟩, ⟨some 2, false, .asg (.t 4), none, false, []⟩] [2] []) .ret)) }
noncomputable def impl_isCoord_D : List (Nat × Callee) := [(23, impl_within_c)]
def impl_isCoord_H : List (Nat × ET) := []
noncomputable def impl_isCoord_c : Callee := mkCallee impl_isCoord_D impl_isCoord_H impl_isCoord_ir [.d (.one (.int .i64))] [.d (.one .bool)] []
noncomputable def impl_isCoord (a0 : Int) : Option (Bool) := impl_isCoord_c.f (a0, ())
theorem impl_isCoord_eq (a0 : Int) : impl_isCoord a0 =
  (impl_within a0 (-100000) 100000).bind fun x1 =>
   some x1 :=
 (mk_f _ _ _ _ _ _ _ 4000).trans (by kernel_rfl)

/- (impl.Point).valid -/
def impl_Point_valid_ir : Fn := { np := 1, io := [], res := [.t 2], own := [false], body :=
 (.seq (.reg false [⟨some 1, true, .box 2 (.t 0), none, false, []⟩, ⟨some 2, false, .asg (.c (.bool false)), none, false, []⟩] [1] [1]) (.seq (.reg false [⟨some 3, false, .fa 0 (.t 1), none, false, []⟩, ⟨some 4, false, .ld none (.t 3), none, false, []⟩, ⟨some 5, false, .call (.c (.fn 1126 [])) [.t 4], none, false, []⟩, ⟨some 6, false, .mv (.t 5), none, false, []⟩, ⟨some 7, false, .fa 1 (.t 1), some (3, true), false, []⟩, ⟨some 8, false, .ld none (.t 7), some (3, true), false, []⟩, ⟨some 9, false, .call (.c (.fn 1126 [])) [.t 8], some (3, true), false, []⟩, ⟨some 10, false, .pick (.t 6) (.t 9) (.c (.bool false)), none, false, []⟩, ⟨some 2, false, .asg (.t 10), none, false, []⟩] [2] []) .ret)) }
noncomputable def impl_Point_valid_D : List (Nat × Callee) := [(1126, impl_isCoord_c)]
def impl_Point_valid_H : List (Nat × ET) := []
noncomputable def impl_Point_valid_c : Callee := mkCallee impl_Point_valid_D impl_Point_valid_H impl_Point_valid_ir [.d T_Point] [.d (.one .bool)] []
noncomputable def impl_Point_valid (a0 : T_Point.ty) : Option (Bool) := impl_Point_valid_c.f (a0, ())
theorem impl_Point_valid_eq (a0 : T_Point.ty) : impl_Point_valid a0 =
  (impl_isCoord a0.1).bind fun x1 =>
   if x1 then
    (impl_isCoord a0.2.1).bind fun x2 =>
     some x2
   else
    some false :=
 (mk_f _ _ _ _ _ _ _ 4000).trans (by kernel_rfl)

/- impl.squared -/
def impl_squared_ir : Fn := { np := 2, io := [], res := [.t 4], own := [false], body :=
 (.seq (.reg false [⟨some 2, true, .box 2 (.t 0), none, false, []⟩, ⟨some 3, true, .box 2 (.t 1), none, false, []⟩, ⟨some 4, false, .asg (.c (.int .i64 0)), none, false, []⟩] [2, 3] [2, 3]) (.seq (.reg false [⟨some 5, false, .fa 0 (.t 2), none, false, []⟩, ⟨some 6, false, .ld none (.t 5), none, false, []⟩, ⟨some 7, false, .fa 0 (.t 3), none, false, []⟩, ⟨some 8, false, .ld none (.t 7), none, false, []⟩, ⟨some 9, false, .bin .sub (.t 6) (.t 8), none, false, []⟩, ⟨some 10, false, .fa 0 (.t 2), none, false, []⟩, ⟨some 11, false, .ld none (.t 10), none, false, []⟩, ⟨some 12, false, .fa 0 (.t 3), none, false, []⟩, ⟨some 13, false, .ld none (.t 12), none, false, []⟩, ⟨some 14, false, .bin .sub (.t 11) (.t 13), none, false, []⟩, ⟨some 15, false, .bin .mul (.t 9) (.t 14), none, false, []⟩, ⟨some 16, false, .fa 1 (.t 2), none, false, []⟩, ⟨some 17, false, .ld none (.t 16), none, false, []⟩, ⟨some 18, false, .fa 1 (.t 3), none, false, []⟩, ⟨some 19, false, .ld none (.t 18), none, false, []⟩, ⟨some 20, false, .bin .sub (.t 17) (.t 19), none, false, []⟩, ⟨some 21, false, .fa 1 (.t 2), none, false, []⟩, ⟨some 22, false, .ld none (.t 21), none, false, []⟩, ⟨some 23, false, .fa 1 (.t 3), none, false, []⟩, ⟨some 24, false, .ld none (.t 23), none, false, []⟩, ⟨some 25, false, .bin .sub (.t 22) (.t 24), none, false, []⟩, ⟨some 26, false, .bin .mul (.t 20) (.t 25), none, false, []⟩, ⟨some 27, false, .bin .add (.t 15) (.t 26), none, false, []⟩, ⟨some 4, false, .asg (.t 27), none, false, []⟩] [4] []) .ret)) }
noncomputable def impl_squared_D : List (Nat × Callee) := []
def impl_squared_H : List (Nat × ET) := []
noncomputable def impl_squared_c : Callee := mkCallee impl_squared_D impl_squared_H impl_squared_ir [.d T_Point, .d T_Point] [.d (.one (.int .i64))] []
noncomputable def impl_squared (a0 : T_Point.ty) (a1 : T_Point.ty) : Option (Int) := impl_squared_c.f (a0, a1, ())
theorem impl_squared_eq (a0 : T_Point.ty) (a1 : T_Point.ty) : impl_squared a0 a1 =
  some (IntKind.i64.wrap ((IntKind.i64.wrap ((IntKind.i64.wrap (a0.1 - a1.1)) * (IntKind.i64.wrap (a0.1 - a1.1)))) + (IntKind.i64.wrap ((IntKind.i64.wrap (a0.2.1 - a1.2.1)) * (IntKind.i64.wrap (a0.2.1 - a1.2.1)))))) :=
 (mk_f _ _ _ _ _ _ _ 4000).trans (by kernel_rfl)

/- impl.ValidArc -/
def impl_ValidArc_ir : Fn := { np := 1, io := [], res := [.t 2], own := [false], body :=
 (.seq (.reg false [⟨some 1, true, .box 6 (.t 0), none, false, []⟩, ⟨some 2, false, .asg (.c (.bool false)), none, false, []⟩] [1] [1]) (.seq (.reg true [⟨some 3, false, .fa 0 (.t 1), none, false, []⟩, ⟨some 4, false, .ld (some 2) (.t 3), none, false, []⟩, ⟨some 5, false, .call (.c (.fn 1030 [])) [.t 4], none, false, []⟩, ⟨some 6, false, .mv (.t 5), none, false, []⟩, ⟨some 7, false, .fa 2 (.t 1), some (3, true), false, []⟩, ⟨some 8, false, .ld (some 2) (.t 7), some (3, true), false, []⟩, ⟨some 9, false, .call (.c (.fn 1030 [])) [.t 8], some (3, true), false, []⟩, ⟨some 10, false, .pick (.t 6) (.t 9) (.c (.bool false)), none, false, []⟩, ⟨some 11, false, .mv (.t 10), none, false, []⟩, ⟨some 12, false, .fa 4 (.t 1), some (8, true), false, []⟩, ⟨some 13, false, .ld (some 2) (.t 12), some (8, true), false, []⟩, ⟨some 14, false, .call (.c (.fn 1030 [])) [.t 13], some (8, true), false, []⟩, ⟨some 15, false, .pick (.t 11) (.t 14) (.c (.bool false)), none, false, []⟩, ⟨some 16, false, .mv (.t 15), none, false, []⟩, ⟨some 17, false, .fa 2 (.t 1), some (13, true), false, []⟩, ⟨some 18, false, .ld (some 2) (.t 17), some (13, true), false, []⟩, ⟨some 19, false, .fa 4 (.t 1), some (13, true), false, []⟩, ⟨some 20, false, .ld (some 2) (.t 19), some (13, true), false, []⟩, ⟨some 21, false, .eqs true [.i, .i] (.t 18) (.t 20), some (13, true), false, []⟩, ⟨some 22, false, .pick (.t 16) (.t 21) (.c (.bool false)), none, false, []⟩, ⟨some 23, false, .mv (.t 22), none, false, []⟩, ⟨some 24, false, .fa 0 (.t 1), some (20, true), false, []⟩, ⟨some 25, false, .ld (some 2) (.t 24), some (20, true), false, []⟩, ⟨some 26, false, .fa 2 (.t 1), some (20, true), false, []⟩, ⟨some 27, false, .ld (some 2) (.t 26), some (20, true), false, []⟩, ⟨some 28, false, .call (.c (.fn 1031 [])) [.t 25, .t 27], some (20, true), false, []⟩, ⟨some 29, false, .fa 0 (.t 1), some (20, true), false, []⟩, ⟨some 30, false, .ld (some 2) (.t 29), some (20, true), false, []⟩, ⟨some 31, false, .fa 4 (.t 1), some (20, true), false, []⟩, ⟨some 32, false, .ld (some 2) (.t 31), some (20, true), false, []⟩, ⟨some 33, false, .call (.c (.fn 1031 [])) [.t 30, .t 32], some (20, true), false, []⟩, ⟨some 34, false, .bin .eql (.t 28) (.t 33), some (20, true), false, []⟩, ⟨some 35, false, .pick (.t 23) (.t 34) (.c (.bool false)), none, false, []⟩, ⟨some 2, false, .asg (.t 35), none, false, []⟩] [2] []) .ret)) }
noncomputable def impl_ValidArc_D : List (Nat × Callee) := [(1030, impl_Point_valid_c), (1031, impl_squared_c)]
def impl_ValidArc_H : List (Nat × ET) := []
noncomputable def impl_ValidArc_c : Callee := mkCallee impl_ValidArc_D impl_ValidArc_H impl_ValidArc_ir [.d T_Arc] [.d (.one .bool)] []
noncomputable def impl_ValidArc (a0 : T_Arc.ty) : Option (Bool) := impl_ValidArc_c.f (a0, ())
theorem impl_ValidArc_eq (a0 : T_Arc.ty) : impl_ValidArc a0 =
  (impl_Point_valid (a0.1, a0.2.1, ())).bind fun x1 =>
   if x1 then
    (impl_Point_valid (a0.2.2.1, a0.2.2.2.1, ())).bind fun x2 =>
     if x2 then
      (impl_Point_valid (a0.2.2.2.2.1, a0.2.2.2.2.2.1, ())).bind fun x3 =>
       if x3 then
        if (!((a0.2.2.1 == a0.2.2.2.2.1) && (a0.2.2.2.1 == a0.2.2.2.2.2.1))) then
         (impl_squared (a0.1, a0.2.1, ()) (a0.2.2.1, a0.2.2.2.1, ())).bind fun x4 =>
          (impl_squared (a0.1, a0.2.1, ()) (a0.2.2.2.2.1, a0.2.2.2.2.2.1, ())).bind fun x5 =>
           some (x4 == x5)
        else
         some false
       else
        some false
     else
      some false
   else
    some false :=
 (mk_f _ _ _ _ _ _ _ 4000).trans (by kernel_rfl)

/- impl.next -/
def impl_next_ir : Fn := { np := 2, io := [], res := [.cell 4 (some 6)], own := [false], body :=
 (.seq (.reg false [⟨some 4, true, .alloc 6 (.agg [.int .i64 0, .int .i64 0, .int .i64 0, .int .i64 0, .int .i64 0, .int .i64 0]), none, false, []⟩] [0, 1, 4] [4]) (.seq (.reg false [⟨some 5, false, .mv (.t 0), none, false, []⟩, ⟨some 6, false, .mv (.t 1), none, false, []⟩, ⟨some 7, false, .bin .add (.t 6) (.c (.int .i64 1)), none, false, []⟩, ⟨some 8, false, .mv (.t 0), none, false, []⟩, ⟨some 9, false, .len (.t 8), none, false, []⟩, ⟨some 10, false, .bin .rem (.t 7) (.t 9), none, false, []⟩, ⟨some 11, false, .ia 6 (.t 5) (.t 10), none, false, []⟩, ⟨some 12, false, .ld (some 6) (.t 11), none, false, []⟩, ⟨none, true, .sto 6 (.t 4) (.t 12), none, false, []⟩] [4] [4]) .ret)) }
noncomputable def impl_next_D : List (Nat × Callee) := []
def impl_next_H : List (Nat × ET) := [(5, T_Arc), (8, T_Arc)]
noncomputable def impl_next_c : Callee := mkCallee impl_next_D impl_next_H impl_next_ir [.d (.one (.sl T_Arc)), .d (.one (.int .i64))] [.d T_Arc] []
noncomputable def impl_next (a0 : List T_Arc.ty) (a1 : Int) : Option (T_Arc.ty) := impl_next_c.f (a0, a1, ())
theorem impl_next_eq (a0 : List T_Arc.ty) (a1 : Int) : impl_next a0 a1 =
  if decide ((a0.length : Int) = 0) then
   none
  else
   if decide (0 ≤ (IntKind.i64.wrap (a1 + 1)).tmod (a0.length : Int)) then
    (a0[((IntKind.i64.wrap (a1 + 1)).tmod (a0.length : Int)).toNat]?).bind fun x1 =>
     some x1
   else
    none :=
 (mk_f _ _ _ _ _ _ _ 4000).trans (by kernel_rfl)

/- impl.ValidOutline -/
def impl_ValidOutline_k0 : C :=
 .seq (.reg false [⟨some 8, false, .bin .lss (.t 7) (.t 6), none, false, []⟩] [0, 5, 6, 7, 8] []) (.seq (.cond (.t 8) .skip (.exit 0)) (.seq (.block 1 (.seq (.reg false [⟨some 9, false, .mv (.t 7), none, false, []⟩, ⟨some 10, false, .ia 6 (.t 5) (.t 7), none, false, []⟩, ⟨some 11, false, .ld (some 6) (.t 10), none, false, []⟩, ⟨some 4, true, .alloc 6 (.agg [.int .i64 0, .int .i64 0, .int .i64 0, .int .i64 0, .int .i64 0, .int .i64 0]), none, false, []⟩, ⟨some 3, false, .asg (.t 9), none, false, []⟩, ⟨none, true, .sto 6 (.t 4) (.t 11), none, false, []⟩] [0, 3, 4, 5, 6, 7] [4]) (.seq (.reg true [⟨some 12, false, .ld (some 6) (.t 4), none, false, []⟩, ⟨some 13, false, .call (.c (.fn 897 [])) [.t 12], none, false, []⟩, ⟨some 14, false, .un .not (.t 13), none, false, []⟩, ⟨some 15, false, .mv (.t 14), none, false, []⟩, ⟨some 16, false, .mv (.t 0), some (3, false), false, []⟩, ⟨some 17, false, .mv (.t 3), some (3, false), false, []⟩, ⟨some 18, false, .call (.c (.fn 898 [])) [.t 16, .t 17], some (3, false), false, []⟩, ⟨some 19, false, .fld 2 (some 2) (.t 18), some (3, false), false, []⟩, ⟨some 20, false, .fa 4 (.t 4), some (3, false), false, []⟩, ⟨some 21, false, .ld (some 2) (.t 20), some (3, false), false, []⟩, ⟨some 22, false, .eqs true [.i, .i] (.t 19) (.t 21), some (3, false), false, []⟩, ⟨some 23, false, .pick (.t 15) (.c (.bool true)) (.t 22), none, false, []⟩] [0, 5, 6, 7, 23] []) (.cond (.t 23) (.seq (.reg false [⟨some 2, false, .asg (.c (.bool false)), none, false, []⟩] [2] []) .ret) .skip)))) (.reg false [⟨some 24, false, .bin .add (.t 7) (.c (.int .i64 1)), none, false, []⟩, ⟨some 7, false, .mv (.t 24), none, false, []⟩] [0, 5, 6, 7] [])))
def impl_ValidOutline_k1 : C :=
 .norm [0, 5, 6, 7] [] impl_ValidOutline_k0
def impl_ValidOutline_k2 : C :=
 .seq (.reg false [⟨some 25, false, .mv (.t 0), none, false, []⟩, ⟨some 26, false, .len (.t 25), none, false, []⟩, ⟨some 27, false, .call (.c (.fn 23 [])) [.t 26, .c (.int .i64 2), .c (.int .i64 16)], none, false, []⟩, ⟨some 2, false, .asg (.t 27), none, false, []⟩] [2] []) .ret
def impl_ValidOutline_ir : Fn := { np := 1, io := [], res := [.t 2], own := [false], body :=
 (.seq (.reg false [⟨some 2, false, .asg (.c (.bool false)), none, false, []⟩] [0] []) (.seq (.seq (.reg false [⟨some 5, false, .mv (.t 0), none, false, []⟩, ⟨some 6, false, .len (.t 5), none, false, []⟩, ⟨some 7, false, .mv (.c (.int .i64 0)), none, false, []⟩] [0, 5, 6, 7] []) (.block 0 (.loop impl_ValidOutline_k1))) impl_ValidOutline_k2)) }
noncomputable def impl_ValidOutline_D : List (Nat × Callee) := [(23, impl_within_c), (897, impl_ValidArc_c), (898, impl_next_c)]
def impl_ValidOutline_H : List (Nat × ET) := [(5, T_Arc), (16, T_Arc), (25, T_Arc)]
noncomputable def impl_ValidOutline_c : Callee := mkCallee impl_ValidOutline_D impl_ValidOutline_H impl_ValidOutline_ir [.d (.one (.sl T_Arc))] [.d (.one .bool)] []
noncomputable def impl_ValidOutline (a0 : List T_Arc.ty) : Option (Bool) := impl_ValidOutline_c.f (a0, ())
noncomputable def impl_ValidOutline_p0  (v0 : List T_Arc.ty) (v5 : List T_Arc.ty) (v6 : Int) (v7 : Int) : Option (Bool) :=
 goL impl_ValidOutline_D impl_ValidOutline_H (vleave impl_ValidOutline_ir [.d (.one (.sl T_Arc))] [.d (.one .bool)] [] []) [.c impl_ValidOutline_k0, .l impl_ValidOutline_k1, .e 0, .c impl_ValidOutline_k2]
  ⟨[(0, .sl T_Arc v0), (5, .sl T_Arc v5), (6, .int .i64 v6), (7, .int .i64 v7)], []⟩
theorem impl_ValidOutline_eq (a0 : List T_Arc.ty) : impl_ValidOutline a0 =
  impl_ValidOutline_p0 a0 a0 (a0.length : Int) 0 :=
 (mk_f _ _ _ _ _ _ _ 4000).trans (by kernel_rfl)
theorem impl_ValidOutline_p0_eq  (v0 : List T_Arc.ty) (v5 : List T_Arc.ty) (v6 : Int) (v7 : Int) : impl_ValidOutline_p0 v0 v5 v6 v7 =
  if decide (v7 < v6) then
   if decide (0 ≤ v7) then
    (v5[v7.toNat]?).bind fun x1 =>
     (impl_ValidArc x1).bind fun x2 =>
      if (!x2) then
       some false
      else
       (impl_next v0 v7).bind fun x3 =>
        if (!((x3.2.2.1 == x1.2.2.2.2.1) && (x3.2.2.2.1 == x1.2.2.2.2.2.1))) then
         some false
        else
         impl_ValidOutline_p0 v0 v5 v6 (IntKind.i64.wrap (v7 + 1))
   else
    none
  else
   (impl_within (v0.length : Int) 2 16).bind fun x4 =>
    some x4 :=
 (goL_dn _ _ _ 4000 _ _).trans (by kernel_rfl)

/- impl.ValidString -/
def impl_ValidString_ir : Fn := { np := 1, io := [], res := [.t 2], own := [false], body :=
 (.seq (.reg false [⟨some 1, true, .box 4 (.t 0), none, false, []⟩, ⟨some 2, false, .asg (.c (.bool false)), none, false, []⟩] [1] [1]) (.seq (.reg false [⟨some 3, false, .fa 0 (.t 1), none, false, []⟩, ⟨some 4, false, .ld none (.t 3), none, false, []⟩, ⟨some 5, false, .call (.c (.fn 23 [])) [.t 4, .c (.int .i64 1), .c (.int .i64 10000)], none, false, []⟩, ⟨some 6, false, .mv (.t 5), none, false, []⟩, ⟨some 7, false, .fa 1 (.t 1), some (3, true), false, []⟩, ⟨some 8, false, .ld none (.t 7), some (3, true), false, []⟩, ⟨some 9, false, .call (.c (.fn 23 [])) [.t 8, .c (.int .i64 1), .c (.int .i64 500)], some (3, true), false, []⟩, ⟨some 10, false, .pick (.t 6) (.t 9) (.c (.bool false)), none, false, []⟩, ⟨some 11, false, .mv (.t 10), none, false, []⟩, ⟨some 12, false, .fa 2 (.t 1), some (8, true), false, []⟩, ⟨some 13, false, .ld none (.t 12), some (8, true), false, []⟩, ⟨some 14, false, .call (.c (.fn 23 [])) [.t 13, .c (.int .i64 1), .c (.int .i64 10000)], some (8, true), false, []⟩, ⟨some 15, false, .pick (.t 11) (.t 14) (.c (.bool false)), none, false, []⟩, ⟨some 16, false, .mv (.t 15), none, false, []⟩, ⟨some 17, false, .fa 3 (.t 1), some (13, true), false, []⟩, ⟨some 18, false, .ld none (.t 17), some (13, true), false, []⟩, ⟨some 19, false, .call (.c (.fn 23 [])) [.t 18, .c (.int .i64 1), .c (.int .i64 500000)], some (13, true), false, []⟩, ⟨some 20, false, .pick (.t 16) (.t 19) (.c (.bool false)), none, false, []⟩, ⟨some 2, false, .asg (.t 20), none, false, []⟩] [2] []) .ret)) }
noncomputable def impl_ValidString_D : List (Nat × Callee) := [(23, impl_within_c)]
def impl_ValidString_H : List (Nat × ET) := []
noncomputable def impl_ValidString_c : Callee := mkCallee impl_ValidString_D impl_ValidString_H impl_ValidString_ir [.d T_Neck] [.d (.one .bool)] []
noncomputable def impl_ValidString (a0 : T_Neck.ty) : Option (Bool) := impl_ValidString_c.f (a0, ())
theorem impl_ValidString_eq (a0 : T_Neck.ty) : impl_ValidString a0 =
  (impl_within a0.1 1 10000).bind fun x1 =>
   if x1 then
    (impl_within a0.2.1 1 500).bind fun x2 =>
     if x2 then
      (impl_within a0.2.2.1 1 10000).bind fun x3 =>
       if x3 then
        (impl_within a0.2.2.2.1 1 500000).bind fun x4 =>
         some x4
       else
        some false
     else
      some false
   else
    some false :=
 (mk_f _ _ _ _ _ _ _ 4000).trans (by kernel_rfl)

/- impl.few -/
def impl_few_ir : Fn := { np := 2, io := [], res := [.t 4], own := [false], body :=
 (.seq (.reg false [⟨some 4, false, .asg (.c (.bool false)), none, false, []⟩] [0, 1] []) (.seq (.reg false [⟨some 5, false, .mv (.t 0), none, false, []⟩, ⟨some 6, false, .mv (.t 1), none, false, []⟩, ⟨some 7, false, .bin .leq (.t 5) (.t 6), none, false, []⟩, ⟨some 4, false, .asg (.t 7), none, false, []⟩] [4] []) .ret)) }
noncomputable def impl_few_D : List (Nat × Callee) := []
def impl_few_H : List (Nat × ET) := []
noncomputable def impl_few_c : Callee := mkCallee impl_few_D impl_few_H impl_few_ir [.d (.one (.int .i64)), .d (.one (.int .i64))] [.d (.one .bool)] []
noncomputable def impl_few (a0 : Int) (a1 : Int) : Option (Bool) := impl_few_c.f (a0, a1, ())
theorem impl_few_eq (a0 : Int) (a1 : Int) : impl_few a0 a1 =
  some (decide (a0 ≤ a1)) :=
 (mk_f _ _ _ _ _ _ _ 4000).trans (by kernel_rfl)

/- impl.validCords -/
def impl_validCords_k0 : C :=
 .seq (.reg false [⟨some 8, false, .bin .lss (.t 7) (.t 6), none, false, []⟩] [0, 5, 6, 7, 8] []) (.seq (.cond (.t 8) .skip (.exit 0)) (.seq (.block 1 (.seq (.reg false [⟨some 9, false, .ia 4 (.t 5) (.t 7), none, false, []⟩, ⟨some 10, false, .ld (some 4) (.t 9), none, false, []⟩, ⟨some 4, true, .alloc 4 (.agg [.int .i64 0, .int .i64 0, .int .i64 0, .int .i64 0]), none, false, []⟩, ⟨none, true, .sto 4 (.t 4) (.t 10), none, false, []⟩] [0, 4, 5, 6, 7] [4]) (.seq (.reg false [⟨some 11, false, .ld (some 4) (.t 4), none, false, []⟩, ⟨some 12, false, .call (.c (.fn 899 [])) [.t 11], none, false, []⟩, ⟨some 13, false, .un .not (.t 12), none, false, []⟩] [0, 5, 6, 7, 13] []) (.cond (.t 13) (.seq (.reg false [⟨some 2, false, .asg (.c (.bool false)), none, false, []⟩] [2] []) .ret) .skip)))) (.reg false [⟨some 14, false, .bin .add (.t 7) (.c (.int .i64 1)), none, false, []⟩, ⟨some 7, false, .mv (.t 14), none, false, []⟩] [0, 5, 6, 7] [])))
def impl_validCords_k1 : C :=
 .norm [0, 5, 6, 7] [] impl_validCords_k0
def impl_validCords_k2 : C :=
 .seq (.reg false [⟨some 15, false, .mv (.t 0), none, false, []⟩, ⟨some 16, false, .len (.t 15), none, false, []⟩, ⟨some 17, false, .call (.c (.fn 21 [])) [.t 16, .c (.int .i64 4)], none, false, []⟩, ⟨some 2, false, .asg (.t 17), none, false, []⟩] [2] []) .ret
def impl_validCords_ir : Fn := { np := 1, io := [], res := [.t 2], own := [false], body :=
 (.seq (.reg false [⟨some 2, false, .asg (.c (.bool false)), none, false, []⟩] [0] []) (.seq (.seq (.reg false [⟨some 5, false, .mv (.t 0), none, false, []⟩, ⟨some 6, false, .len (.t 5), none, false, []⟩, ⟨some 7, false, .mv (.c (.int .i64 0)), none, false, []⟩] [0, 5, 6, 7] []) (.block 0 (.loop impl_validCords_k1))) impl_validCords_k2)) }
noncomputable def impl_validCords_D : List (Nat × Callee) := [(21, impl_few_c), (899, impl_ValidString_c)]
def impl_validCords_H : List (Nat × ET) := [(5, T_Neck), (15, T_Neck)]
noncomputable def impl_validCords_c : Callee := mkCallee impl_validCords_D impl_validCords_H impl_validCords_ir [.d (.one (.sl T_Neck))] [.d (.one .bool)] []
noncomputable def impl_validCords (a0 : List T_Neck.ty) : Option (Bool) := impl_validCords_c.f (a0, ())
noncomputable def impl_validCords_p0  (v0 : List T_Neck.ty) (v5 : List T_Neck.ty) (v6 : Int) (v7 : Int) : Option (Bool) :=
 goL impl_validCords_D impl_validCords_H (vleave impl_validCords_ir [.d (.one (.sl T_Neck))] [.d (.one .bool)] [] []) [.c impl_validCords_k0, .l impl_validCords_k1, .e 0, .c impl_validCords_k2]
  ⟨[(0, .sl T_Neck v0), (5, .sl T_Neck v5), (6, .int .i64 v6), (7, .int .i64 v7)], []⟩
theorem impl_validCords_eq (a0 : List T_Neck.ty) : impl_validCords a0 =
  impl_validCords_p0 a0 a0 (a0.length : Int) 0 :=
 (mk_f _ _ _ _ _ _ _ 4000).trans (by kernel_rfl)
theorem impl_validCords_p0_eq  (v0 : List T_Neck.ty) (v5 : List T_Neck.ty) (v6 : Int) (v7 : Int) : impl_validCords_p0 v0 v5 v6 v7 =
  if decide (v7 < v6) then
   if decide (0 ≤ v7) then
    (v5[v7.toNat]?).bind fun x1 =>
     (impl_ValidString x1).bind fun x2 =>
      if (!x2) then
       some false
      else
       impl_validCords_p0 v0 v5 v6 (IntKind.i64.wrap (v7 + 1))
   else
    none
  else
   (impl_few (v0.length : Int) 4).bind fun x3 =>
    some x3 :=
 (goL_dn _ _ _ 4000 _ _).trans (by kernel_rfl)

/- impl.isShare -/
def impl_isShare_ir : Fn := { np := 1, io := [], res := [.t 2], own := [false], body :=
 (.seq (.reg false [⟨some 2, false, .asg (.c (.bool false)), none, false, []⟩] [0] []) (.seq (.reg false [⟨some 3, false, .mv (.t 0), none, false, []⟩, ⟨some 4, false, .call (.c (.fn 23 [])) [.t 3, .c (.int .i64 0), .c (.int .i64 1000)], none, false, []⟩, ⟨some 2, false, .asg (.t 4), none, false, []⟩] [2] []) .ret)) }
noncomputable def impl_isShare_D : List (Nat × Callee) := [(23, impl_within_c)]
def impl_isShare_H : List (Nat × ET) := []
noncomputable def impl_isShare_c : Callee := mkCallee impl_isShare_D impl_isShare_H impl_isShare_ir [.d (.one (.int .i64))] [.d (.one .bool)] []
noncomputable def impl_isShare (a0 : Int) : Option (Bool) := impl_isShare_c.f (a0, ())
theorem impl_isShare_eq (a0 : Int) : impl_isShare a0 =
  (impl_within a0 0 1000).bind fun x1 =>
   some x1 :=
 (mk_f _ _ _ _ _ _ _ 4000).trans (by kernel_rfl)

/- impl.isDigit -/
def impl_isDigit_ir : Fn := { np := 1, io := [], res := [.t 2], own := [false], body :=
 (.seq (.reg false [⟨some 2, false, .asg (.c (.bool false)), none, false, []⟩] [0] []) (.seq (.reg false [⟨some 3, false, .mv (.t 0), none, false, []⟩, ⟨some 4, false, .bin .geq (.t 3) (.c (.int .u8 48)), none, false, []⟩, ⟨some 5, false, .mv (.t 4), none, false, []⟩, ⟨some 6, false, .mv (.t 0), some (2, true), false, []⟩, ⟨some 7, false, .bin .leq (.t 6) (.c (.int .u8 57)), some (2, true), false, []⟩, ⟨some 8, false, .pick (.t 5) (.t 7) (.c (.bool false)), none, false, []⟩, ⟨some 2, false, .asg (.t 8), none, false, []⟩] [2] []) .ret)) }
noncomputable def impl_isDigit_D : List (Nat × Callee) := []
def impl_isDigit_H : List (Nat × ET) := []
noncomputable def impl_isDigit_c : Callee := mkCallee impl_isDigit_D impl_isDigit_H impl_isDigit_ir [.d (.one (.int .u8))] [.d (.one .bool)] []
noncomputable def impl_isDigit (a0 : Int) : Option (Bool) := impl_isDigit_c.f (a0, ())
theorem impl_isDigit_eq (a0 : Int) : impl_isDigit a0 =
  if decide (a0 ≥ 48) then
   some (decide (a0 ≤ 57))
  else
   some false :=
 (mk_f _ _ _ _ _ _ _ 4000).trans (by kernel_rfl)

/- impl.IsName -/
def impl_IsName_k0 : C :=
 .seq (.reg false [⟨some 21, false, .mv (.t 4), none, false, []⟩, ⟨some 22, false, .un .not (.t 21), none, false, []⟩, ⟨some 23, false, .mv (.t 22), none, false, []⟩, ⟨some 24, false, .mv (.t 3), some (2, true), false, []⟩, ⟨some 25, false, .bin .eql (.t 24) (.c (.int .i64 0)), some (2, true), false, []⟩, ⟨some 26, false, .mv (.t 25), some (2, true), false, []⟩, ⟨some 27, false, .mv (.t 0), some (5, false), false, []⟩, ⟨some 28, false, .mv (.t 3), some (5, false), false, []⟩, ⟨some 29, false, .ix (.t 27) (.t 28), some (5, false), false, []⟩, ⟨some 30, false, .call (.c (.fn 22 [])) [.t 29], some (5, false), false, []⟩, ⟨some 31, false, .un .not (.t 30), some (5, false), false, []⟩, ⟨some 32, false, .pick (.t 26) (.c (.bool true)) (.t 31), some (2, true), false, []⟩, ⟨some 33, false, .pick (.t 23) (.t 32) (.c (.bool false)), none, false, []⟩] [0, 3, 33] []) (.cond (.t 33) (.seq (.reg false [⟨some 2, false, .asg (.c (.bool false)), none, false, []⟩] [2] []) .ret) .skip)
def impl_IsName_k1 : C :=
 .reg false [⟨some 9, false, .mv (.t 3), none, false, []⟩, ⟨some 10, false, .bin .add (.t 9) (.c (.int .i64 1)), none, false, []⟩, ⟨some 3, false, .asg (.t 10), none, false, []⟩] [0, 3] []
def impl_IsName_k2 : C :=
 .seq (.seq (.reg false [⟨some 5, false, .mv (.t 3), none, false, []⟩, ⟨some 6, false, .mv (.t 0), none, false, []⟩, ⟨some 7, false, .lens (.t 6), none, false, []⟩, ⟨some 8, false, .bin .lss (.t 5) (.t 7), none, false, []⟩] [0, 3, 8] []) (.cond (.t 8) .skip (.exit 0))) (.seq (.block 1 (.seq (.reg false [⟨some 11, false, .mv (.t 0), none, false, []⟩, ⟨some 12, false, .mv (.t 3), none, false, []⟩, ⟨some 13, false, .ix (.t 11) (.t 12), none, false, []⟩, ⟨some 14, false, .bin .geq (.t 13) (.c (.int .u8 97)), none, false, []⟩, ⟨some 15, false, .mv (.t 14), none, false, []⟩, ⟨some 16, false, .mv (.t 0), some (4, true), false, []⟩, ⟨some 17, false, .mv (.t 3), some (4, true), false, []⟩, ⟨some 18, false, .ix (.t 16) (.t 17), some (4, true), false, []⟩, ⟨some 19, false, .bin .leq (.t 18) (.c (.int .u8 122)), some (4, true), false, []⟩, ⟨some 20, false, .pick (.t 15) (.t 19) (.c (.bool false)), none, false, []⟩, ⟨some 4, false, .asg (.t 20), none, false, []⟩] [0, 3, 4] []) (.norm [0, 3, 4] [] impl_IsName_k0))) impl_IsName_k1)
def impl_IsName_k3 : C :=
 .norm [0, 3] [] impl_IsName_k2
def impl_IsName_k4 : C :=
 .seq (.reg false [⟨some 34, false, .mv (.t 0), none, false, []⟩, ⟨some 35, false, .bin .neq (.t 34) (.c (.str [])), none, false, []⟩, ⟨some 36, false, .mv (.t 35), none, false, []⟩, ⟨some 37, false, .mv (.t 0), some (2, true), false, []⟩, ⟨some 38, false, .lens (.t 37), some (2, true), false, []⟩, ⟨some 39, false, .call (.c (.fn 21 [])) [.t 38, .c (.int .i64 10)], some (2, true), false, []⟩, ⟨some 40, false, .pick (.t 36) (.t 39) (.c (.bool false)), none, false, []⟩, ⟨some 2, false, .asg (.t 40), none, false, []⟩] [2] []) .ret
def impl_IsName_ir : Fn := { np := 1, io := [], res := [.t 2], own := [false], body :=
 (.seq (.reg false [⟨some 2, false, .asg (.c (.bool false)), none, false, []⟩] [0] []) (.seq (.seq (.reg false [⟨some 3, false, .asg (.c (.int .i64 0)), none, false, []⟩] [0, 3] []) (.block 0 (.loop impl_IsName_k3))) impl_IsName_k4)) }
noncomputable def impl_IsName_D : List (Nat × Callee) := [(21, impl_few_c), (22, impl_isDigit_c)]
def impl_IsName_H : List (Nat × ET) := []
noncomputable def impl_IsName_c : Callee := mkCallee impl_IsName_D impl_IsName_H impl_IsName_ir [.d (.one .str)] [.d (.one .bool)] []
noncomputable def impl_IsName (a0 : List UInt8) : Option (Bool) := impl_IsName_c.f (a0, ())
noncomputable def impl_IsName_p0  (v0 : List UInt8) (v3 : Int) : Option (Bool) :=
 goL impl_IsName_D impl_IsName_H (vleave impl_IsName_ir [.d (.one .str)] [.d (.one .bool)] [] []) [.c impl_IsName_k2, .l impl_IsName_k3, .e 0, .c impl_IsName_k4]
  ⟨[(0, .str v0), (3, .int .i64 v3)], []⟩
noncomputable def impl_IsName_p1  (v0 : List UInt8) (v3 : Int) (v4 : Bool) : Option (Bool) :=
 goL impl_IsName_D impl_IsName_H (vleave impl_IsName_ir [.d (.one .str)] [.d (.one .bool)] [] []) [.c impl_IsName_k0, .e 1, .c impl_IsName_k1, .l impl_IsName_k3, .e 0, .c impl_IsName_k4]
  ⟨[(0, .str v0), (3, .int .i64 v3), (4, .bool v4)], []⟩
theorem impl_IsName_eq (a0 : List UInt8) : impl_IsName a0 =
  impl_IsName_p0 a0 0 :=
 (mk_f _ _ _ _ _ _ _ 4000).trans (by kernel_rfl)
theorem impl_IsName_p0_eq  (v0 : List UInt8) (v3 : Int) : impl_IsName_p0 v0 v3 =
  if decide (v3 < (v0.length : Int)) then
   if decide (0 ≤ v3) then
    (v0[v3.toNat]?).bind fun x1 =>
     if decide ((x1.toNat : Int) ≥ 97) then
      if decide (0 ≤ v3) then
       (v0[v3.toNat]?).bind fun x2 =>
        impl_IsName_p1 v0 v3 (decide ((x2.toNat : Int) ≤ 122))
      else
       none
     else
      impl_IsName_p1 v0 v3 false
   else
    none
  else
   if (!(v0 == [])) then
    (impl_few (v0.length : Int) 10).bind fun x3 =>
     some x3
   else
    some false :=
 (goL_dn _ _ _ 4000 _ _).trans (by kernel_rfl)
theorem impl_IsName_p1_eq  (v0 : List UInt8) (v3 : Int) (v4 : Bool) : impl_IsName_p1 v0 v3 v4 =
  if (!v4) then
   if (v3 == 0) then
    some false
   else
    if decide (0 ≤ v3) then
     (v0[v3.toNat]?).bind fun x1 =>
      (impl_isDigit (x1.toNat : Int)).bind fun x2 =>
       if (!x2) then
        some false
       else
        impl_IsName_p0 v0 (IntKind.i64.wrap (v3 + 1))
    else
     none
  else
   impl_IsName_p0 v0 (IntKind.i64.wrap (v3 + 1)) :=
 (goL_dn _ _ _ 4000 _ _).trans (by kernel_rfl)

/- (impl.Step).valid -/
def impl_Step_valid_k0 : C :=
 .seq (.reg false [⟨some 9, false, .bin .lss (.t 8) (.t 7), none, false, []⟩] [1, 6, 7, 8, 9] [1, 2003]) (.seq (.cond (.t 9) .skip (.exit 0)) (.seq (.block 1 (.seq (.reg false [⟨some 10, false, .mv (.t 8), none, false, []⟩, ⟨some 11, false, .ia 1 (.t 6) (.t 8), none, false, []⟩, ⟨some 12, false, .ld none (.t 11), none, false, []⟩, ⟨some 3, false, .asg (.t 10), none, false, []⟩, ⟨some 4, false, .asg (.t 12), none, false, []⟩] [1, 3, 4, 6, 7, 8] [1, 2003]) (.seq (.reg false [⟨some 13, false, .mv (.t 4), none, false, []⟩, ⟨some 14, false, .call (.c (.fn 23 [])) [.t 13, .c (.int .i64 0), .c (.int .i64 11)], none, false, []⟩, ⟨some 15, false, .un .not (.t 14), none, false, []⟩, ⟨some 16, false, .mv (.t 15), none, false, []⟩, ⟨some 17, false, .mv (.t 3), some (3, false), false, []⟩, ⟨some 18, false, .bin .gtr (.t 17) (.c (.int .i64 0)), some (3, false), false, []⟩, ⟨some 19, false, .mv (.t 18), some (3, false), false, []⟩, ⟨some 20, false, .fa 3 (.t 1), some (6, true), false, []⟩, ⟨some 21, false, .ld none (.t 20), some (6, true), false, []⟩, ⟨some 22, false, .mv (.t 3), some (6, true), false, []⟩, ⟨some 23, false, .bin .sub (.t 22) (.c (.int .i64 1)), some (6, true), false, []⟩, ⟨some 24, false, .ia 1 (.t 21) (.t 23), some (6, true), false, []⟩, ⟨some 25, false, .ld none (.t 24), some (6, true), false, []⟩, ⟨some 26, false, .mv (.t 4), some (6, true), false, []⟩, ⟨some 27, false, .bin .geq (.t 25) (.t 26), some (6, true), false, []⟩, ⟨some 28, false, .pick (.t 19) (.t 27) (.c (.bool false)), some (3, false), false, []⟩, ⟨some 29, false, .pick (.t 16) (.c (.bool true)) (.t 28), none, false, []⟩] [1, 6, 7, 8, 29] [1, 2003]) (.cond (.t 29) (.seq (.reg false [⟨some 2, false, .asg (.c (.bool false)), none, false, []⟩] [2] []) .ret) .skip)))) (.reg false [⟨some 30, false, .bin .add (.t 8) (.c (.int .i64 1)), none, false, []⟩, ⟨some 8, false, .mv (.t 30), none, false, []⟩] [1, 6, 7, 8] [1, 2003])))
def impl_Step_valid_k1 : C :=
 .norm [1, 6, 7, 8] [1, 2003] impl_Step_valid_k0
def impl_Step_valid_k2 : C :=
 .seq (.reg false [⟨some 31, false, .fa 0 (.t 1), none, false, []⟩, ⟨some 32, false, .ld none (.t 31), none, false, []⟩, ⟨some 33, false, .call (.c (.fn 24 [])) [.t 32], none, false, []⟩, ⟨some 34, false, .mv (.t 33), none, false, []⟩, ⟨some 35, false, .fa 1 (.t 1), some (3, true), false, []⟩, ⟨some 36, false, .ld none (.t 35), some (3, true), false, []⟩, ⟨some 37, false, .call (.c (.fn 23 [])) [.t 36, .c (.int .i64 1), .c (.int .i64 200)], some (3, true), false, []⟩, ⟨some 38, false, .pick (.t 34) (.t 37) (.c (.bool false)), none, false, []⟩, ⟨some 39, false, .mv (.t 38), none, false, []⟩, ⟨some 40, false, .fa 2 (.t 1), some (8, true), false, []⟩, ⟨some 41, false, .ld none (.t 40), some (8, true), false, []⟩, ⟨some 42, false, .call (.c (.fn 23 [])) [.t 41, .c (.int .i64 0), .c (.int .i64 20)], some (8, true), false, []⟩, ⟨some 43, false, .pick (.t 39) (.t 42) (.c (.bool false)), none, false, []⟩, ⟨some 2, false, .asg (.t 43), none, false, []⟩] [2] []) .ret
def impl_Step_valid_ir : Fn := { np := 1, io := [], res := [.t 2], own := [false], body :=
 (.seq (.reg false [⟨some 1, true, .box 4 (.t 0), none, false, []⟩, ⟨some 2, false, .asg (.c (.bool false)), none, false, []⟩] [1] [1, 2003]) (.seq (.seq (.reg false [⟨some 5, false, .fa 3 (.t 1), none, false, []⟩, ⟨some 6, false, .ld none (.t 5), none, false, []⟩, ⟨some 7, false, .len (.t 6), none, false, []⟩, ⟨some 8, false, .mv (.c (.int .i64 0)), none, false, []⟩] [1, 6, 7, 8] [1, 2003]) (.block 0 (.loop impl_Step_valid_k1))) impl_Step_valid_k2)) }
noncomputable def impl_Step_valid_D : List (Nat × Callee) := [(23, impl_within_c), (24, impl_IsName_c)]
def impl_Step_valid_H : List (Nat × ET) := [(6, (.one (.int .i64))), (21, (.one (.int .i64)))]
noncomputable def impl_Step_valid_c : Callee := mkCallee impl_Step_valid_D impl_Step_valid_H impl_Step_valid_ir [.d T_Step] [.d (.one .bool)] []
noncomputable def impl_Step_valid (a0 : T_Step.ty) : Option (Bool) := impl_Step_valid_c.f (a0, ())
noncomputable def impl_Step_valid_p0  (v6 : List Int) (v7 : Int) (v8 : Int) (r1_0 : List UInt8) (r1_1 : Int) (r1_2 : Int) (r1_3 : List Int) : Option (Bool) :=
 goL impl_Step_valid_D impl_Step_valid_H (vleave impl_Step_valid_ir [.d T_Step] [.d (.one .bool)] [] []) [.c impl_Step_valid_k0, .l impl_Step_valid_k1, .e 0, .c impl_Step_valid_k2]
  ⟨[(1, .loc 1 0 0), (6, .sl (.one (.int .i64)) v6), (7, .int .i64 v7), (8, .int .i64 v8)], [(1, some (.var 4 (.agg [.str r1_0, .int .i64 r1_1, .int .i64 r1_2, .sl (.one (.int .i64)) r1_3]))), (2003, none)]⟩
theorem impl_Step_valid_eq (a0 : T_Step.ty) : impl_Step_valid a0 =
  impl_Step_valid_p0 a0.2.2.2.1 (a0.2.2.2.1.length : Int) 0 a0.1 a0.2.1 a0.2.2.1 a0.2.2.2.1 :=
 (mk_f _ _ _ _ _ _ _ 4000).trans (by kernel_rfl)
theorem impl_Step_valid_p0_eq  (v6 : List Int) (v7 : Int) (v8 : Int) (r1_0 : List UInt8) (r1_1 : Int) (r1_2 : Int) (r1_3 : List Int) : impl_Step_valid_p0 v6 v7 v8 r1_0 r1_1 r1_2 r1_3 =
  if decide (v8 < v7) then
   if decide (0 ≤ v8) then
    (v6[v8.toNat]?).bind fun x1 =>
     (impl_within x1 0 11).bind fun x2 =>
      if (!x2) then
       some false
      else
       if decide (v8 > 0) then
        if decide (0 ≤ IntKind.i64.wrap (v8 - 1)) then
         (r1_3[(IntKind.i64.wrap (v8 - 1)).toNat]?).bind fun x3 =>
          if decide (x3 ≥ x1) then
           some false
          else
           impl_Step_valid_p0 v6 v7 (IntKind.i64.wrap (v8 + 1)) r1_0 r1_1 r1_2 r1_3
        else
         none
       else
        impl_Step_valid_p0 v6 v7 (IntKind.i64.wrap (v8 + 1)) r1_0 r1_1 r1_2 r1_3
   else
    none
  else
   (impl_IsName r1_0).bind fun x4 =>
    if x4 then
     (impl_within r1_1 1 200).bind fun x5 =>
      if x5 then
       (impl_within r1_2 0 20).bind fun x6 =>
        some x6
      else
       some false
    else
     some false :=
 (goL_dn _ _ _ 4000 _ _).trans (by kernel_rfl)

/- loop.example/g01061/impl.ValidSteps -/
noncomputable def impl_ValidSteps_c : Callee := validStepsC impl_Step_valid impl_few
noncomputable def impl_ValidSteps (a0 : List T_Step.ty) : Option (Bool) := impl_ValidSteps_c.f (a0, ())
theorem impl_ValidSteps_eq (a0 : List T_Step.ty) : impl_ValidSteps a0 = vsF impl_Step_valid impl_few a0 := rfl

/- impl.areStarts -/
def impl_areStarts_k0 : C :=
 .seq (.reg false [⟨some 10, false, .bin .lss (.t 9) (.t 8), none, false, []⟩] [0, 1, 7, 8, 9, 10] []) (.seq (.cond (.t 10) .skip (.exit 0)) (.seq (.block 1 (.seq (.reg false [⟨some 11, false, .ia 1 (.t 7) (.t 9), none, false, []⟩, ⟨some 12, false, .ld none (.t 11), none, false, []⟩, ⟨some 6, false, .asg (.t 12), none, false, []⟩] [0, 1, 6, 7, 8, 9] []) (.seq (.reg false [⟨some 13, false, .mv (.t 6), none, false, []⟩, ⟨some 14, false, .call (.c (.fn 23 [])) [.t 13, .c (.int .i64 0), .c (.int .i64 2400)], none, false, []⟩, ⟨some 15, false, .un .not (.t 14), none, false, []⟩] [0, 1, 7, 8, 9, 15] []) (.cond (.t 15) (.seq (.reg false [⟨some 4, false, .asg (.c (.bool false)), none, false, []⟩] [4] []) .ret) .skip)))) (.reg false [⟨some 16, false, .bin .add (.t 9) (.c (.int .i64 1)), none, false, []⟩, ⟨some 9, false, .mv (.t 16), none, false, []⟩] [0, 1, 7, 8, 9] [])))
def impl_areStarts_k1 : C :=
 .norm [0, 1, 7, 8, 9] [] impl_areStarts_k0
def impl_areStarts_k2 : C :=
 .seq (.reg false [⟨some 17, false, .mv (.t 1), none, false, []⟩, ⟨some 18, false, .len (.t 17), none, false, []⟩, ⟨some 19, false, .mv (.t 0), none, false, []⟩, ⟨some 20, false, .len (.t 19), none, false, []⟩, ⟨some 21, false, .bin .eql (.t 18) (.t 20), none, false, []⟩, ⟨some 4, false, .asg (.t 21), none, false, []⟩] [4] []) .ret
def impl_areStarts_ir : Fn := { np := 2, io := [], res := [.t 4], own := [false], body :=
 (.seq (.reg false [⟨some 4, false, .asg (.c (.bool false)), none, false, []⟩] [0, 1] []) (.seq (.seq (.reg false [⟨some 7, false, .mv (.t 1), none, false, []⟩, ⟨some 8, false, .len (.t 7), none, false, []⟩, ⟨some 9, false, .mv (.c (.int .i64 0)), none, false, []⟩] [0, 1, 7, 8, 9] []) (.block 0 (.loop impl_areStarts_k1))) impl_areStarts_k2)) }
noncomputable def impl_areStarts_D : List (Nat × Callee) := [(23, impl_within_c)]
def impl_areStarts_H : List (Nat × ET) := [(7, (.one (.int .i64))), (17, (.one (.int .i64))), (19, T_Step)]
noncomputable def impl_areStarts_c : Callee := mkCallee impl_areStarts_D impl_areStarts_H impl_areStarts_ir [.d (.one (.sl T_Step)), .d (.one (.sl (.one (.int .i64))))] [.d (.one .bool)] []
noncomputable def impl_areStarts (a0 : List T_Step.ty) (a1 : List Int) : Option (Bool) := impl_areStarts_c.f (a0, a1, ())
noncomputable def impl_areStarts_p0  (v0 : List T_Step.ty) (v1 : List Int) (v7 : List Int) (v8 : Int) (v9 : Int) : Option (Bool) :=
 goL impl_areStarts_D impl_areStarts_H (vleave impl_areStarts_ir [.d (.one (.sl T_Step)), .d (.one (.sl (.one (.int .i64))))] [.d (.one .bool)] [] []) [.c impl_areStarts_k0, .l impl_areStarts_k1, .e 0, .c impl_areStarts_k2]
  ⟨[(0, .sl T_Step v0), (1, .sl (.one (.int .i64)) v1), (7, .sl (.one (.int .i64)) v7), (8, .int .i64 v8), (9, .int .i64 v9)], []⟩
theorem impl_areStarts_eq (a0 : List T_Step.ty) (a1 : List Int) : impl_areStarts a0 a1 =
  impl_areStarts_p0 a0 a1 a1 (a1.length : Int) 0 :=
 (mk_f _ _ _ _ _ _ _ 4000).trans (by kernel_rfl)
theorem impl_areStarts_p0_eq  (v0 : List T_Step.ty) (v1 : List Int) (v7 : List Int) (v8 : Int) (v9 : Int) : impl_areStarts_p0 v0 v1 v7 v8 v9 =
  if decide (v9 < v8) then
   if decide (0 ≤ v9) then
    (v7[v9.toNat]?).bind fun x1 =>
     (impl_within x1 0 2400).bind fun x2 =>
      if (!x2) then
       some false
      else
       impl_areStarts_p0 v0 v1 v7 v8 (IntKind.i64.wrap (v9 + 1))
   else
    none
  else
   some ((v1.length : Int) == (v0.length : Int)) :=
 (goL_dn _ _ _ 4000 _ _).trans (by kernel_rfl)

/- impl.isClamps -/
def impl_isClamps_ir : Fn := { np := 1, io := [], res := [.t 2], own := [false], body :=
 (.seq (.reg false [⟨some 2, false, .asg (.c (.bool false)), none, false, []⟩] [0] []) (.seq (.reg false [⟨some 3, false, .mv (.t 0), none, false, []⟩, ⟨some 4, false, .call (.c (.fn 23 [])) [.t 3, .c (.int .i64 0), .c (.int .i64 240)], none, false, []⟩, ⟨some 2, false, .asg (.t 4), none, false, []⟩] [2] []) .ret)) }
noncomputable def impl_isClamps_D : List (Nat × Callee) := [(23, impl_within_c)]
def impl_isClamps_H : List (Nat × ET) := []
noncomputable def impl_isClamps_c : Callee := mkCallee impl_isClamps_D impl_isClamps_H impl_isClamps_ir [.d (.one (.int .i64))] [.d (.one .bool)] []
noncomputable def impl_isClamps (a0 : Int) : Option (Bool) := impl_isClamps_c.f (a0, ())
theorem impl_isClamps_eq (a0 : Int) : impl_isClamps a0 =
  (impl_within a0 0 240).bind fun x1 =>
   some x1 :=
 (mk_f _ _ _ _ _ _ _ 4000).trans (by kernel_rfl)

/- impl.isRentDay -/
def impl_isRentDay_ir : Fn := { np := 1, io := [], res := [.t 2], own := [false], body :=
 (.seq (.reg false [⟨some 2, false, .asg (.c (.bool false)), none, false, []⟩] [0] []) (.seq (.reg false [⟨some 3, false, .mv (.t 0), none, false, []⟩, ⟨some 4, false, .call (.c (.fn 23 [])) [.t 3, .c (.int .i64 0), .c (.int .i64 100000)], none, false, []⟩, ⟨some 2, false, .asg (.t 4), none, false, []⟩] [2] []) .ret)) }
noncomputable def impl_isRentDay_D : List (Nat × Callee) := [(23, impl_within_c)]
def impl_isRentDay_H : List (Nat × ET) := []
noncomputable def impl_isRentDay_c : Callee := mkCallee impl_isRentDay_D impl_isRentDay_H impl_isRentDay_ir [.d (.one (.int .i64))] [.d (.one .bool)] []
noncomputable def impl_isRentDay (a0 : Int) : Option (Bool) := impl_isRentDay_c.f (a0, ())
theorem impl_isRentDay_eq (a0 : Int) : impl_isRentDay a0 =
  (impl_within a0 0 100000).bind fun x1 =>
   some x1 :=
 (mk_f _ _ _ _ _ _ _ 4000).trans (by kernel_rfl)

/- impl.isMonths -/
def impl_isMonths_ir : Fn := { np := 1, io := [], res := [.t 2], own := [false], body :=
 (.seq (.reg false [⟨some 2, false, .asg (.c (.bool false)), none, false, []⟩] [0] []) (.seq (.reg false [⟨some 3, false, .mv (.t 0), none, false, []⟩, ⟨some 4, false, .call (.c (.fn 23 [])) [.t 3, .c (.int .i64 1), .c (.int .i64 120)], none, false, []⟩, ⟨some 2, false, .asg (.t 4), none, false, []⟩] [2] []) .ret)) }
noncomputable def impl_isMonths_D : List (Nat × Callee) := [(23, impl_within_c)]
def impl_isMonths_H : List (Nat × ET) := []
noncomputable def impl_isMonths_c : Callee := mkCallee impl_isMonths_D impl_isMonths_H impl_isMonths_ir [.d (.one (.int .i64))] [.d (.one .bool)] []
noncomputable def impl_isMonths (a0 : Int) : Option (Bool) := impl_isMonths_c.f (a0, ())
theorem impl_isMonths_eq (a0 : Int) : impl_isMonths a0 =
  (impl_within a0 1 120).bind fun x1 =>
   some x1 :=
 (mk_f _ _ _ _ _ _ _ 4000).trans (by kernel_rfl)

/- impl.isMoney -/
def impl_isMoney_ir : Fn := { np := 1, io := [], res := [.t 2], own := [false], body :=
 (.seq (.reg false [⟨some 2, false, .asg (.c (.bool false)), none, false, []⟩] [0] []) (.seq (.reg false [⟨some 3, false, .mv (.t 0), none, false, []⟩, ⟨some 4, false, .call (.c (.fn 23 [])) [.t 3, .c (.int .i64 0), .c (.int .i64 10000000)], none, false, []⟩, ⟨some 2, false, .asg (.t 4), none, false, []⟩] [2] []) .ret)) }
noncomputable def impl_isMoney_D : List (Nat × Callee) := [(23, impl_within_c)]
def impl_isMoney_H : List (Nat × ET) := []
noncomputable def impl_isMoney_c : Callee := mkCallee impl_isMoney_D impl_isMoney_H impl_isMoney_ir [.d (.one (.int .i64))] [.d (.one .bool)] []
noncomputable def impl_isMoney (a0 : Int) : Option (Bool) := impl_isMoney_c.f (a0, ())
theorem impl_isMoney_eq (a0 : Int) : impl_isMoney a0 =
  (impl_within a0 0 10000000).bind fun x1 =>
   some x1 :=
 (mk_f _ _ _ _ _ _ _ 4000).trans (by kernel_rfl)

/- (impl.Rental).valid -/
def impl_Rental_valid_ir : Fn := { np := 1, io := [], res := [.t 2], own := [false], body :=
 (.seq (.reg false [⟨some 1, true, .box 5 (.t 0), none, false, []⟩, ⟨some 2, false, .asg (.c (.bool false)), none, false, []⟩] [1] [1]) (.seq (.reg false [⟨some 3, false, .fa 0 (.t 1), none, false, []⟩, ⟨some 4, false, .ld none (.t 3), none, false, []⟩, ⟨some 5, false, .call (.c (.fn 24 [])) [.t 4], none, false, []⟩, ⟨some 6, false, .mv (.t 5), none, false, []⟩, ⟨some 7, false, .fa 1 (.t 1), some (3, true), false, []⟩, ⟨some 8, false, .ld none (.t 7), some (3, true), false, []⟩, ⟨some 9, false, .call (.c (.fn 24 [])) [.t 8], some (3, true), false, []⟩, ⟨some 10, false, .pick (.t 6) (.t 9) (.c (.bool false)), none, false, []⟩, ⟨some 11, false, .mv (.t 10), none, false, []⟩, ⟨some 12, false, .fa 2 (.t 1), some (8, true), false, []⟩, ⟨some 13, false, .ld none (.t 12), some (8, true), false, []⟩, ⟨some 14, false, .call (.c (.fn 623 [])) [.t 13], some (8, true), false, []⟩, ⟨some 15, false, .pick (.t 11) (.t 14) (.c (.bool false)), none, false, []⟩, ⟨some 16, false, .mv (.t 15), none, false, []⟩, ⟨some 17, false, .fa 3 (.t 1), some (13, true), false, []⟩, ⟨some 18, false, .ld none (.t 17), some (13, true), false, []⟩, ⟨some 19, false, .call (.c (.fn 1032 [])) [.t 18], some (13, true), false, []⟩, ⟨some 20, false, .pick (.t 16) (.t 19) (.c (.bool false)), none, false, []⟩, ⟨some 21, false, .mv (.t 20), none, false, []⟩, ⟨some 22, false, .fa 4 (.t 1), some (18, true), false, []⟩, ⟨some 23, false, .ld none (.t 22), some (18, true), false, []⟩, ⟨some 24, false, .call (.c (.fn 1033 [])) [.t 23], some (18, true), false, []⟩, ⟨some 25, false, .pick (.t 21) (.t 24) (.c (.bool false)), none, false, []⟩, ⟨some 2, false, .asg (.t 25), none, false, []⟩] [2] []) .ret)) }
noncomputable def impl_Rental_valid_D : List (Nat × Callee) := [(24, impl_IsName_c), (623, impl_isRentDay_c), (1032, impl_isMonths_c), (1033, impl_isMoney_c)]
def impl_Rental_valid_H : List (Nat × ET) := []
noncomputable def impl_Rental_valid_c : Callee := mkCallee impl_Rental_valid_D impl_Rental_valid_H impl_Rental_valid_ir [.d T_Paper] [.d (.one .bool)] []
noncomputable def impl_Rental_valid (a0 : T_Paper.ty) : Option (Bool) := impl_Rental_valid_c.f (a0, ())
theorem impl_Rental_valid_eq (a0 : T_Paper.ty) : impl_Rental_valid a0 =
  (impl_IsName a0.1).bind fun x1 =>
   if x1 then
    (impl_IsName a0.2.1).bind fun x2 =>
     if x2 then
      (impl_isRentDay a0.2.2.1).bind fun x3 =>
       if x3 then
        (impl_isMonths a0.2.2.2.1).bind fun x4 =>
         if x4 then
          (impl_isMoney a0.2.2.2.2.1).bind fun x5 =>
           some x5
         else
          some false
       else
        some false
     else
      some false
   else
    some false :=
 (mk_f _ _ _ _ _ _ _ 4000).trans (by kernel_rfl)

/- impl.ValidRentals -/
def impl_ValidRentals_k0 : C :=
 .seq (.reg false [⟨some 8, false, .bin .lss (.t 7) (.t 6), none, false, []⟩] [0, 5, 6, 7, 8] []) (.seq (.cond (.t 8) .skip (.exit 0)) (.seq (.block 1 (.seq (.reg false [⟨some 9, false, .mv (.t 7), none, false, []⟩, ⟨some 10, false, .ia 5 (.t 5) (.t 7), none, false, []⟩, ⟨some 11, false, .ld (some 5) (.t 10), none, false, []⟩, ⟨some 4, true, .alloc 5 (.agg [.str [], .str [], .int .i64 0, .int .i64 0, .int .i64 0]), none, false, []⟩, ⟨some 3, false, .asg (.t 9), none, false, []⟩, ⟨none, true, .sto 5 (.t 4) (.t 11), none, false, []⟩] [0, 3, 4, 5, 6, 7] [4]) (.seq (.reg true [⟨some 12, false, .ld (some 5) (.t 4), none, false, []⟩, ⟨some 13, false, .call (.c (.fn 900 [])) [.t 12], none, false, []⟩, ⟨some 14, false, .un .not (.t 13), none, false, []⟩, ⟨some 15, false, .mv (.t 14), none, false, []⟩, ⟨some 16, false, .mv (.t 3), some (3, false), false, []⟩, ⟨some 17, false, .bin .gtr (.t 16) (.c (.int .i64 0)), some (3, false), false, []⟩, ⟨some 18, false, .mv (.t 17), some (3, false), false, []⟩, ⟨some 19, false, .mv (.t 0), some (6, true), false, []⟩, ⟨some 20, false, .mv (.t 3), some (6, true), false, []⟩, ⟨some 21, false, .bin .sub (.t 20) (.c (.int .i64 1)), some (6, true), false, []⟩, ⟨some 22, false, .ia 5 (.t 19) (.t 21), some (6, true), false, []⟩, ⟨some 23, false, .fa 0 (.t 22), some (6, true), false, []⟩, ⟨some 24, false, .ld none (.t 23), some (6, true), false, []⟩, ⟨some 25, false, .fa 0 (.t 4), some (6, true), false, []⟩, ⟨some 26, false, .ld none (.t 25), some (6, true), false, []⟩, ⟨some 27, false, .bin .geq (.t 24) (.t 26), some (6, true), false, []⟩, ⟨some 28, false, .pick (.t 18) (.t 27) (.c (.bool false)), some (3, false), false, []⟩, ⟨some 29, false, .pick (.t 15) (.c (.bool true)) (.t 28), none, false, []⟩] [0, 5, 6, 7, 29] []) (.cond (.t 29) (.seq (.reg false [⟨some 2, false, .asg (.c (.bool false)), none, false, []⟩] [2] []) .ret) .skip)))) (.reg false [⟨some 30, false, .bin .add (.t 7) (.c (.int .i64 1)), none, false, []⟩, ⟨some 7, false, .mv (.t 30), none, false, []⟩] [0, 5, 6, 7] [])))
def impl_ValidRentals_k1 : C :=
 .norm [0, 5, 6, 7] [] impl_ValidRentals_k0
def impl_ValidRentals_k2 : C :=
 .seq (.reg false [⟨some 31, false, .mv (.t 0), none, false, []⟩, ⟨some 32, false, .len (.t 31), none, false, []⟩, ⟨some 33, false, .call (.c (.fn 21 [])) [.t 32, .c (.int .i64 12)], none, false, []⟩, ⟨some 2, false, .asg (.t 33), none, false, []⟩] [2] []) .ret
def impl_ValidRentals_ir : Fn := { np := 1, io := [], res := [.t 2], own := [false], body :=
 (.seq (.reg false [⟨some 2, false, .asg (.c (.bool false)), none, false, []⟩] [0] []) (.seq (.seq (.reg false [⟨some 5, false, .mv (.t 0), none, false, []⟩, ⟨some 6, false, .len (.t 5), none, false, []⟩, ⟨some 7, false, .mv (.c (.int .i64 0)), none, false, []⟩] [0, 5, 6, 7] []) (.block 0 (.loop impl_ValidRentals_k1))) impl_ValidRentals_k2)) }
noncomputable def impl_ValidRentals_D : List (Nat × Callee) := [(21, impl_few_c), (900, impl_Rental_valid_c)]
def impl_ValidRentals_H : List (Nat × ET) := [(5, T_Paper), (19, T_Paper), (31, T_Paper)]
noncomputable def impl_ValidRentals_c : Callee := mkCallee impl_ValidRentals_D impl_ValidRentals_H impl_ValidRentals_ir [.d (.one (.sl T_Paper))] [.d (.one .bool)] []
noncomputable def impl_ValidRentals (a0 : List T_Paper.ty) : Option (Bool) := impl_ValidRentals_c.f (a0, ())
noncomputable def impl_ValidRentals_p0  (v0 : List T_Paper.ty) (v5 : List T_Paper.ty) (v6 : Int) (v7 : Int) : Option (Bool) :=
 goL impl_ValidRentals_D impl_ValidRentals_H (vleave impl_ValidRentals_ir [.d (.one (.sl T_Paper))] [.d (.one .bool)] [] []) [.c impl_ValidRentals_k0, .l impl_ValidRentals_k1, .e 0, .c impl_ValidRentals_k2]
  ⟨[(0, .sl T_Paper v0), (5, .sl T_Paper v5), (6, .int .i64 v6), (7, .int .i64 v7)], []⟩
theorem impl_ValidRentals_eq (a0 : List T_Paper.ty) : impl_ValidRentals a0 =
  impl_ValidRentals_p0 a0 a0 (a0.length : Int) 0 :=
 (mk_f _ _ _ _ _ _ _ 4000).trans (by kernel_rfl)
theorem impl_ValidRentals_p0_eq  (v0 : List T_Paper.ty) (v5 : List T_Paper.ty) (v6 : Int) (v7 : Int) : impl_ValidRentals_p0 v0 v5 v6 v7 =
  if decide (v7 < v6) then
   if decide (0 ≤ v7) then
    (v5[v7.toNat]?).bind fun x1 =>
     (impl_Rental_valid x1).bind fun x2 =>
      if (!x2) then
       some false
      else
       if decide (v7 > 0) then
        if decide (0 ≤ IntKind.i64.wrap (v7 - 1)) then
         (v0[(IntKind.i64.wrap (v7 - 1)).toNat]?).bind fun x3 =>
          if (!Op.bytesLess x3.1 x1.1) then
           some false
          else
           impl_ValidRentals_p0 v0 v5 v6 (IntKind.i64.wrap (v7 + 1))
        else
         none
       else
        impl_ValidRentals_p0 v0 v5 v6 (IntKind.i64.wrap (v7 + 1))
   else
    none
  else
   (impl_few (v0.length : Int) 12).bind fun x4 =>
    some x4 :=
 (goL_dn _ _ _ 4000 _ _).trans (by kernel_rfl)

/- (impl.Entry).valid -/
def impl_Entry_valid_ir : Fn := { np := 1, io := [], res := [.t 2], own := [false], body :=
 (.seq (.reg false [⟨some 1, true, .box 4 (.t 0), none, false, []⟩, ⟨some 2, false, .asg (.c (.bool false)), none, false, []⟩] [1] [1]) (.seq (.reg false [⟨some 3, false, .fa 0 (.t 1), none, false, []⟩, ⟨some 4, false, .ld none (.t 3), none, false, []⟩, ⟨some 5, false, .call (.c (.fn 623 [])) [.t 4], none, false, []⟩, ⟨some 6, false, .mv (.t 5), none, false, []⟩, ⟨some 7, false, .fa 1 (.t 1), some (3, true), false, []⟩, ⟨some 8, false, .ld none (.t 7), some (3, true), false, []⟩, ⟨some 9, false, .call (.c (.fn 24 [])) [.t 8], some (3, true), false, []⟩, ⟨some 10, false, .pick (.t 6) (.t 9) (.c (.bool false)), none, false, []⟩, ⟨some 11, false, .mv (.t 10), none, false, []⟩, ⟨some 12, false, .fa 2 (.t 1), some (8, true), false, []⟩, ⟨some 13, false, .ld none (.t 12), some (8, true), false, []⟩, ⟨some 14, false, .call (.c (.fn 24 [])) [.t 13], some (8, true), false, []⟩, ⟨some 15, false, .pick (.t 11) (.t 14) (.c (.bool false)), none, false, []⟩, ⟨some 16, false, .mv (.t 15), none, false, []⟩, ⟨some 17, false, .fa 1 (.t 1), some (13, true), false, []⟩, ⟨some 18, false, .ld none (.t 17), some (13, true), false, []⟩, ⟨some 19, false, .fa 2 (.t 1), some (13, true), false, []⟩, ⟨some 20, false, .ld none (.t 19), some (13, true), false, []⟩, ⟨some 21, false, .bin .neq (.t 18) (.t 20), some (13, true), false, []⟩, ⟨some 22, false, .pick (.t 16) (.t 21) (.c (.bool false)), none, false, []⟩, ⟨some 23, false, .mv (.t 22), none, false, []⟩, ⟨some 24, false, .fa 3 (.t 1), some (20, true), false, []⟩, ⟨some 25, false, .ld none (.t 24), some (20, true), false, []⟩, ⟨some 26, false, .call (.c (.fn 23 [])) [.t 25, .c (.int .i64 1), .c (.int .i64 10000000)], some (20, true), false, []⟩, ⟨some 27, false, .pick (.t 23) (.t 26) (.c (.bool false)), none, false, []⟩, ⟨some 2, false, .asg (.t 27), none, false, []⟩] [2] []) .ret)) }
noncomputable def impl_Entry_valid_D : List (Nat × Callee) := [(23, impl_within_c), (24, impl_IsName_c), (623, impl_isRentDay_c)]
def impl_Entry_valid_H : List (Nat × ET) := []
noncomputable def impl_Entry_valid_c : Callee := mkCallee impl_Entry_valid_D impl_Entry_valid_H impl_Entry_valid_ir [.d T_Entry] [.d (.one .bool)] []
noncomputable def impl_Entry_valid (a0 : T_Entry.ty) : Option (Bool) := impl_Entry_valid_c.f (a0, ())
theorem impl_Entry_valid_eq (a0 : T_Entry.ty) : impl_Entry_valid a0 =
  (impl_isRentDay a0.1).bind fun x1 =>
   if x1 then
    (impl_IsName a0.2.1).bind fun x2 =>
     if x2 then
      (impl_IsName a0.2.2.1).bind fun x3 =>
       if x3 then
        if (!(a0.2.1 == a0.2.2.1)) then
         (impl_within a0.2.2.2.1 1 10000000).bind fun x4 =>
          some x4
        else
         some false
       else
        some false
     else
      some false
   else
    some false :=
 (mk_f _ _ _ _ _ _ _ 4000).trans (by kernel_rfl)

/- impl.ValidBook -/
def impl_ValidBook_k0 : C :=
 .seq (.reg false [⟨some 8, false, .bin .lss (.t 7) (.t 6), none, false, []⟩] [0, 5, 6, 7, 8] []) (.seq (.cond (.t 8) .skip (.exit 0)) (.seq (.block 1 (.seq (.reg false [⟨some 9, false, .mv (.t 7), none, false, []⟩, ⟨some 10, false, .ia 4 (.t 5) (.t 7), none, false, []⟩, ⟨some 11, false, .ld (some 4) (.t 10), none, false, []⟩, ⟨some 4, true, .alloc 4 (.agg [.int .i64 0, .str [], .str [], .int .i64 0]), none, false, []⟩, ⟨some 3, false, .asg (.t 9), none, false, []⟩, ⟨none, true, .sto 4 (.t 4) (.t 11), none, false, []⟩] [0, 3, 4, 5, 6, 7] [4]) (.seq (.reg true [⟨some 12, false, .ld (some 4) (.t 4), none, false, []⟩, ⟨some 13, false, .call (.c (.fn 621 [])) [.t 12], none, false, []⟩, ⟨some 14, false, .un .not (.t 13), none, false, []⟩, ⟨some 15, false, .mv (.t 14), none, false, []⟩, ⟨some 16, false, .mv (.t 3), some (3, false), false, []⟩, ⟨some 17, false, .bin .gtr (.t 16) (.c (.int .i64 0)), some (3, false), false, []⟩, ⟨some 18, false, .mv (.t 17), some (3, false), false, []⟩, ⟨some 19, false, .mv (.t 0), some (6, true), false, []⟩, ⟨some 20, false, .mv (.t 3), some (6, true), false, []⟩, ⟨some 21, false, .bin .sub (.t 20) (.c (.int .i64 1)), some (6, true), false, []⟩, ⟨some 22, false, .ia 4 (.t 19) (.t 21), some (6, true), false, []⟩, ⟨some 23, false, .fa 0 (.t 22), some (6, true), false, []⟩, ⟨some 24, false, .ld none (.t 23), some (6, true), false, []⟩, ⟨some 25, false, .fa 0 (.t 4), some (6, true), false, []⟩, ⟨some 26, false, .ld none (.t 25), some (6, true), false, []⟩, ⟨some 27, false, .bin .gtr (.t 24) (.t 26), some (6, true), false, []⟩, ⟨some 28, false, .pick (.t 18) (.t 27) (.c (.bool false)), some (3, false), false, []⟩, ⟨some 29, false, .pick (.t 15) (.c (.bool true)) (.t 28), none, false, []⟩] [0, 5, 6, 7, 29] []) (.cond (.t 29) (.seq (.reg false [⟨some 2, false, .asg (.c (.bool false)), none, false, []⟩] [2] []) .ret) .skip)))) (.reg false [⟨some 30, false, .bin .add (.t 7) (.c (.int .i64 1)), none, false, []⟩, ⟨some 7, false, .mv (.t 30), none, false, []⟩] [0, 5, 6, 7] [])))
def impl_ValidBook_k1 : C :=
 .norm [0, 5, 6, 7] [] impl_ValidBook_k0
def impl_ValidBook_k2 : C :=
 .seq (.reg false [⟨some 31, false, .mv (.t 0), none, false, []⟩, ⟨some 32, false, .len (.t 31), none, false, []⟩, ⟨some 33, false, .call (.c (.fn 21 [])) [.t 32, .c (.int .i64 32)], none, false, []⟩, ⟨some 2, false, .asg (.t 33), none, false, []⟩] [2] []) .ret
def impl_ValidBook_ir : Fn := { np := 1, io := [], res := [.t 2], own := [false], body :=
 (.seq (.reg false [⟨some 2, false, .asg (.c (.bool false)), none, false, []⟩] [0] []) (.seq (.seq (.reg false [⟨some 5, false, .mv (.t 0), none, false, []⟩, ⟨some 6, false, .len (.t 5), none, false, []⟩, ⟨some 7, false, .mv (.c (.int .i64 0)), none, false, []⟩] [0, 5, 6, 7] []) (.block 0 (.loop impl_ValidBook_k1))) impl_ValidBook_k2)) }
noncomputable def impl_ValidBook_D : List (Nat × Callee) := [(21, impl_few_c), (621, impl_Entry_valid_c)]
def impl_ValidBook_H : List (Nat × ET) := [(5, T_Entry), (19, T_Entry), (31, T_Entry)]
noncomputable def impl_ValidBook_c : Callee := mkCallee impl_ValidBook_D impl_ValidBook_H impl_ValidBook_ir [.d (.one (.sl T_Entry))] [.d (.one .bool)] []
noncomputable def impl_ValidBook (a0 : List T_Entry.ty) : Option (Bool) := impl_ValidBook_c.f (a0, ())
noncomputable def impl_ValidBook_p0  (v0 : List T_Entry.ty) (v5 : List T_Entry.ty) (v6 : Int) (v7 : Int) : Option (Bool) :=
 goL impl_ValidBook_D impl_ValidBook_H (vleave impl_ValidBook_ir [.d (.one (.sl T_Entry))] [.d (.one .bool)] [] []) [.c impl_ValidBook_k0, .l impl_ValidBook_k1, .e 0, .c impl_ValidBook_k2]
  ⟨[(0, .sl T_Entry v0), (5, .sl T_Entry v5), (6, .int .i64 v6), (7, .int .i64 v7)], []⟩
theorem impl_ValidBook_eq (a0 : List T_Entry.ty) : impl_ValidBook a0 =
  impl_ValidBook_p0 a0 a0 (a0.length : Int) 0 :=
 (mk_f _ _ _ _ _ _ _ 4000).trans (by kernel_rfl)
theorem impl_ValidBook_p0_eq  (v0 : List T_Entry.ty) (v5 : List T_Entry.ty) (v6 : Int) (v7 : Int) : impl_ValidBook_p0 v0 v5 v6 v7 =
  if decide (v7 < v6) then
   if decide (0 ≤ v7) then
    (v5[v7.toNat]?).bind fun x1 =>
     (impl_Entry_valid x1).bind fun x2 =>
      if (!x2) then
       some false
      else
       if decide (v7 > 0) then
        if decide (0 ≤ IntKind.i64.wrap (v7 - 1)) then
         (v0[(IntKind.i64.wrap (v7 - 1)).toNat]?).bind fun x3 =>
          if decide (x3.1 > x1.1) then
           some false
          else
           impl_ValidBook_p0 v0 v5 v6 (IntKind.i64.wrap (v7 + 1))
        else
         none
       else
        impl_ValidBook_p0 v0 v5 v6 (IntKind.i64.wrap (v7 + 1))
   else
    none
  else
   (impl_few (v0.length : Int) 32).bind fun x4 =>
    some x4 :=
 (goL_dn _ _ _ 4000 _ _).trans (by kernel_rfl)

/- impl.ValidShop -/
def impl_ValidShop_ir : Fn := { np := 1, io := [], res := [.t 2], own := [false], body :=
 (.seq (.reg false [⟨some 1, true, .box 8 (.t 0), none, false, []⟩, ⟨some 2, false, .asg (.c (.bool false)), none, false, []⟩] [1] [1, 2000, 2001, 2003, 2004, 2006, 2007]) (.seq (.reg false [⟨some 3, false, .fa 0 (.t 1), none, false, []⟩, ⟨some 4, false, .ld none (.t 3), none, false, []⟩, ⟨some 5, false, .call (.c (.fn 608 [])) [.t 4], none, false, []⟩, ⟨some 6, false, .mv (.t 5), none, false, []⟩, ⟨some 7, false, .fa 1 (.t 1), some (3, true), false, []⟩, ⟨some 8, false, .ld none (.t 7), some (3, true), false, []⟩, ⟨some 9, false, .call (.c (.fn 609 [])) [.t 8], some (3, true), false, []⟩, ⟨some 10, false, .pick (.t 6) (.t 9) (.c (.bool false)), none, false, []⟩, ⟨some 11, false, .mv (.t 10), none, false, []⟩, ⟨some 12, false, .fa 2 (.t 1), some (8, true), false, []⟩, ⟨some 13, false, .ld none (.t 12), some (8, true), false, []⟩, ⟨some 14, false, .call (.c (.fn 610 [])) [.t 13], some (8, true), false, []⟩, ⟨some 15, false, .pick (.t 11) (.t 14) (.c (.bool false)), none, false, []⟩, ⟨some 16, false, .mv (.t 15), none, false, []⟩, ⟨some 17, false, .fa 3 (.t 1), some (13, true), false, []⟩, ⟨some 18, false, .ld none (.t 17), some (13, true), false, []⟩, ⟨some 19, false, .call (.c (.fn 83 [])) [.t 18], some (13, true), false, []⟩, ⟨some 20, false, .pick (.t 16) (.t 19) (.c (.bool false)), none, false, []⟩, ⟨some 21, false, .mv (.t 20), none, false, []⟩, ⟨some 22, false, .fa 3 (.t 1), some (18, true), false, []⟩, ⟨some 23, false, .ld none (.t 22), some (18, true), false, []⟩, ⟨some 24, false, .fa 4 (.t 1), some (18, true), false, []⟩, ⟨some 25, false, .ld none (.t 24), some (18, true), false, []⟩, ⟨some 26, false, .call (.c (.fn 541 [])) [.t 23, .t 25], some (18, true), false, []⟩, ⟨some 27, false, .pick (.t 21) (.t 26) (.c (.bool false)), none, false, []⟩, ⟨some 28, false, .mv (.t 27), none, false, []⟩, ⟨some 29, false, .fa 5 (.t 1), some (25, true), false, []⟩, ⟨some 30, false, .ld none (.t 29), some (25, true), false, []⟩, ⟨some 31, false, .call (.c (.fn 534 [])) [.t 30], some (25, true), false, []⟩, ⟨some 32, false, .pick (.t 28) (.t 31) (.c (.bool false)), none, false, []⟩, ⟨some 33, false, .mv (.t 32), none, false, []⟩, ⟨some 34, false, .fa 6 (.t 1), some (30, true), false, []⟩, ⟨some 35, false, .ld none (.t 34), some (30, true), false, []⟩, ⟨some 36, false, .call (.c (.fn 611 [])) [.t 35], some (30, true), false, []⟩, ⟨some 37, false, .pick (.t 33) (.t 36) (.c (.bool false)), none, false, []⟩, ⟨some 38, false, .mv (.t 37), none, false, []⟩, ⟨some 39, false, .fa 7 (.t 1), some (35, true), false, []⟩, ⟨some 40, false, .ld none (.t 39), some (35, true), false, []⟩, ⟨some 41, false, .call (.c (.fn 213 [])) [.t 40], some (35, true), false, []⟩, ⟨some 42, false, .pick (.t 38) (.t 41) (.c (.bool false)), none, false, []⟩, ⟨some 2, false, .asg (.t 42), none, false, []⟩] [2] []) .ret)) }
noncomputable def impl_ValidShop_D : List (Nat × Callee) := [(83, impl_ValidSteps_c), (213, impl_ValidBook_c), (534, impl_isClamps_c), (541, impl_areStarts_c), (608, impl_ValidOutline_c), (609, impl_validCords_c), (610, impl_isShare_c), (611, impl_ValidRentals_c)]
def impl_ValidShop_H : List (Nat × ET) := [(4, T_Arc), (8, T_Neck), (18, T_Step), (23, T_Step), (25, (.one (.int .i64))), (35, T_Paper), (40, T_Entry)]
noncomputable def impl_ValidShop_c : Callee := mkCallee impl_ValidShop_D impl_ValidShop_H impl_ValidShop_ir [.d T_Shop] [.d (.one .bool)] []
noncomputable def impl_ValidShop (a0 : T_Shop.ty) : Option (Bool) := impl_ValidShop_c.f (a0, ())
theorem impl_ValidShop_eq (a0 : T_Shop.ty) : impl_ValidShop a0 =
  (impl_ValidOutline a0.1).bind fun x1 =>
   if x1 then
    (impl_validCords a0.2.1).bind fun x2 =>
     if x2 then
      (impl_isShare a0.2.2.1).bind fun x3 =>
       if x3 then
        (impl_ValidSteps a0.2.2.2.1).bind fun x4 =>
         if x4 then
          (impl_areStarts a0.2.2.2.1 a0.2.2.2.2.1).bind fun x5 =>
           if x5 then
            (impl_isClamps a0.2.2.2.2.2.1).bind fun x6 =>
             if x6 then
              (impl_ValidRentals a0.2.2.2.2.2.2.1).bind fun x7 =>
               if x7 then
                (impl_ValidBook a0.2.2.2.2.2.2.2.1).bind fun x8 =>
                 some x8
               else
                some false
             else
              some false
           else
            some false
         else
          some false
       else
        some false
     else
      some false
   else
    some false :=
 (mk_f _ _ _ _ _ _ _ 4000).trans (by kernel_rfl)

/- laws.eqPoint -/
def laws_eqPoint_ir : Fn := { np := 2, io := [], res := [.t 4], own := [false], body :=
 (.seq (.reg false [⟨some 2, true, .box 2 (.t 0), none, false, []⟩, ⟨some 3, true, .box 2 (.t 1), none, false, []⟩, ⟨some 4, false, .asg (.c (.bool false)), none, false, []⟩] [2, 3] [2, 3]) (.seq (.seq (.reg false [⟨some 5, false, .fa 0 (.t 2), none, false, []⟩, ⟨some 6, false, .ld none (.t 5), none, false, []⟩, ⟨some 7, false, .fa 0 (.t 3), none, false, []⟩, ⟨some 8, false, .ld none (.t 7), none, false, []⟩, ⟨some 9, false, .bin .neq (.t 6) (.t 8), none, false, []⟩] [2, 3, 9] [2, 3]) (.cond (.t 9) (.seq (.reg false [⟨some 4, false, .asg (.c (.bool false)), none, false, []⟩] [4] []) .ret) .skip)) (.seq (.seq (.reg false [⟨some 10, false, .fa 1 (.t 2), none, false, []⟩, ⟨some 11, false, .ld none (.t 10), none, false, []⟩, ⟨some 12, false, .fa 1 (.t 3), none, false, []⟩, ⟨some 13, false, .ld none (.t 12), none, false, []⟩, ⟨some 14, false, .bin .neq (.t 11) (.t 13), none, false, []⟩] [14] []) (.cond (.t 14) (.seq (.reg false [⟨some 4, false, .asg (.c (.bool false)), none, false, []⟩] [4] []) .ret) .skip)) (.seq (.reg false [⟨some 4, false, .asg (.c (.bool true)), none, false, []⟩] [4] []) .ret)))) }
noncomputable def laws_eqPoint_D : List (Nat × Callee) := []
def laws_eqPoint_H : List (Nat × ET) := []
noncomputable def laws_eqPoint_c : Callee := mkCallee laws_eqPoint_D laws_eqPoint_H laws_eqPoint_ir [.d T_Point, .d T_Point] [.d (.one .bool)] []
noncomputable def laws_eqPoint (a0 : T_Point.ty) (a1 : T_Point.ty) : Option (Bool) := laws_eqPoint_c.f (a0, a1, ())
theorem laws_eqPoint_eq (a0 : T_Point.ty) (a1 : T_Point.ty) : laws_eqPoint a0 a1 =
  if (a0.1 != a1.1) then
   some false
  else
   if (a0.2.1 != a1.2.1) then
    some false
   else
    some true :=
 (mk_f _ _ _ _ _ _ _ 4000).trans (by kernel_rfl)

/- laws.eqArc -/
def laws_eqArc_ir : Fn := { np := 2, io := [], res := [.t 4], own := [false], body :=
 (.seq (.reg false [⟨some 2, true, .box 6 (.t 0), none, false, []⟩, ⟨some 3, true, .box 6 (.t 1), none, false, []⟩, ⟨some 4, false, .asg (.c (.bool false)), none, false, []⟩] [2, 3] [2, 3]) (.seq (.seq (.reg false [⟨some 5, false, .fa 0 (.t 2), none, false, []⟩, ⟨some 6, false, .ld (some 2) (.t 5), none, false, []⟩, ⟨some 7, false, .fa 0 (.t 3), none, false, []⟩, ⟨some 8, false, .ld (some 2) (.t 7), none, false, []⟩, ⟨some 9, false, .call (.c (.fn 1034 [])) [.t 6, .t 8], none, false, []⟩, ⟨some 10, false, .un .not (.t 9), none, false, []⟩] [2, 3, 10] [2, 3]) (.cond (.t 10) (.seq (.reg false [⟨some 4, false, .asg (.c (.bool false)), none, false, []⟩] [4] []) .ret) .skip)) (.seq (.seq (.reg false [⟨some 11, false, .fa 2 (.t 2), none, false, []⟩, ⟨some 12, false, .ld (some 2) (.t 11), none, false, []⟩, ⟨some 13, false, .fa 2 (.t 3), none, false, []⟩, ⟨some 14, false, .ld (some 2) (.t 13), none, false, []⟩, ⟨some 15, false, .call (.c (.fn 1034 [])) [.t 12, .t 14], none, false, []⟩, ⟨some 16, false, .un .not (.t 15), none, false, []⟩] [2, 3, 16] [2, 3]) (.cond (.t 16) (.seq (.reg false [⟨some 4, false, .asg (.c (.bool false)), none, false, []⟩] [4] []) .ret) .skip)) (.seq (.seq (.reg false [⟨some 17, false, .fa 4 (.t 2), none, false, []⟩, ⟨some 18, false, .ld (some 2) (.t 17), none, false, []⟩, ⟨some 19, false, .fa 4 (.t 3), none, false, []⟩, ⟨some 20, false, .ld (some 2) (.t 19), none, false, []⟩, ⟨some 21, false, .call (.c (.fn 1034 [])) [.t 18, .t 20], none, false, []⟩, ⟨some 22, false, .un .not (.t 21), none, false, []⟩] [22] []) (.cond (.t 22) (.seq (.reg false [⟨some 4, false, .asg (.c (.bool false)), none, false, []⟩] [4] []) .ret) .skip)) (.seq (.reg false [⟨some 4, false, .asg (.c (.bool true)), none, false, []⟩] [4] []) .ret))))) }
noncomputable def laws_eqArc_D : List (Nat × Callee) := [(1034, laws_eqPoint_c)]
def laws_eqArc_H : List (Nat × ET) := []
noncomputable def laws_eqArc_c : Callee := mkCallee laws_eqArc_D laws_eqArc_H laws_eqArc_ir [.d T_Arc, .d T_Arc] [.d (.one .bool)] []
noncomputable def laws_eqArc (a0 : T_Arc.ty) (a1 : T_Arc.ty) : Option (Bool) := laws_eqArc_c.f (a0, a1, ())
theorem laws_eqArc_eq (a0 : T_Arc.ty) (a1 : T_Arc.ty) : laws_eqArc a0 a1 =
  (laws_eqPoint (a0.1, a0.2.1, ()) (a1.1, a1.2.1, ())).bind fun x1 =>
   if (!x1) then
    some false
   else
    (laws_eqPoint (a0.2.2.1, a0.2.2.2.1, ()) (a1.2.2.1, a1.2.2.2.1, ())).bind fun x2 =>
     if (!x2) then
      some false
     else
      (laws_eqPoint (a0.2.2.2.2.1, a0.2.2.2.2.2.1, ()) (a1.2.2.2.2.1, a1.2.2.2.2.2.1, ())).bind fun x3 =>
       if (!x3) then
        some false
       else
        some true :=
 (mk_f _ _ _ _ _ _ _ 4000).trans (by kernel_rfl)

/- laws.eqArcS -/
def laws_eqArcS_k0 : C :=
 .seq (.seq (.reg false [⟨some 11, false, .mv (.t 5), none, false, []⟩, ⟨some 12, false, .mv (.t 0), none, false, []⟩, ⟨some 13, false, .len (.t 12), none, false, []⟩, ⟨some 14, false, .bin .lss (.t 11) (.t 13), none, false, []⟩] [0, 1, 5, 14] []) (.cond (.t 14) .skip (.exit 0))) (.seq (.block 1 (.seq (.reg true [⟨some 17, false, .mv (.t 0), none, false, []⟩, ⟨some 18, false, .mv (.t 5), none, false, []⟩, ⟨some 19, false, .ia 6 (.t 17) (.t 18), none, false, []⟩, ⟨some 20, false, .ld (some 6) (.t 19), none, false, []⟩, ⟨some 21, false, .mv (.t 1), none, false, []⟩, ⟨some 22, false, .mv (.t 5), none, false, []⟩, ⟨some 23, false, .ia 6 (.t 21) (.t 22), none, false, []⟩, ⟨some 24, false, .ld (some 6) (.t 23), none, false, []⟩, ⟨some 25, false, .call (.c (.fn 901 [])) [.t 20, .t 24], none, false, []⟩, ⟨some 26, false, .un .not (.t 25), none, false, []⟩] [0, 1, 5, 26] []) (.cond (.t 26) (.seq (.reg false [⟨some 4, false, .asg (.c (.bool false)), none, false, []⟩] [4] []) .ret) .skip))) (.reg false [⟨some 15, false, .mv (.t 5), none, false, []⟩, ⟨some 16, false, .bin .add (.t 15) (.c (.int .i64 1)), none, false, []⟩, ⟨some 5, false, .asg (.t 16), none, false, []⟩] [0, 1, 5] []))
def laws_eqArcS_k1 : C :=
 .norm [0, 1, 5] [] laws_eqArcS_k0
def laws_eqArcS_k2 : C :=
 .seq (.reg false [⟨some 4, false, .asg (.c (.bool true)), none, false, []⟩] [4] []) .ret
def laws_eqArcS_ir : Fn := { np := 2, io := [], res := [.t 4], own := [false], body :=
 (.seq (.reg false [⟨some 4, false, .asg (.c (.bool false)), none, false, []⟩] [0, 1] []) (.seq (.seq (.reg false [⟨some 6, false, .mv (.t 0), none, false, []⟩, ⟨some 7, false, .len (.t 6), none, false, []⟩, ⟨some 8, false, .mv (.t 1), none, false, []⟩, ⟨some 9, false, .len (.t 8), none, false, []⟩, ⟨some 10, false, .bin .neq (.t 7) (.t 9), none, false, []⟩] [0, 1, 10] []) (.cond (.t 10) (.seq (.reg false [⟨some 4, false, .asg (.c (.bool false)), none, false, []⟩] [4] []) .ret) .skip)) (.seq (.seq (.reg false [⟨some 5, false, .asg (.c (.int .i64 0)), none, false, []⟩] [0, 1, 5] []) (.block 0 (.loop laws_eqArcS_k1))) laws_eqArcS_k2))) }
noncomputable def laws_eqArcS_D : List (Nat × Callee) := [(901, laws_eqArc_c)]
def laws_eqArcS_H : List (Nat × ET) := [(6, T_Arc), (8, T_Arc), (12, T_Arc), (17, T_Arc), (21, T_Arc)]
noncomputable def laws_eqArcS_c : Callee := mkCallee laws_eqArcS_D laws_eqArcS_H laws_eqArcS_ir [.d (.one (.sl T_Arc)), .d (.one (.sl T_Arc))] [.d (.one .bool)] []
noncomputable def laws_eqArcS (a0 : List T_Arc.ty) (a1 : List T_Arc.ty) : Option (Bool) := laws_eqArcS_c.f (a0, a1, ())
noncomputable def laws_eqArcS_p0  (v0 : List T_Arc.ty) (v1 : List T_Arc.ty) (v5 : Int) : Option (Bool) :=
 goL laws_eqArcS_D laws_eqArcS_H (vleave laws_eqArcS_ir [.d (.one (.sl T_Arc)), .d (.one (.sl T_Arc))] [.d (.one .bool)] [] []) [.c laws_eqArcS_k0, .l laws_eqArcS_k1, .e 0, .c laws_eqArcS_k2]
  ⟨[(0, .sl T_Arc v0), (1, .sl T_Arc v1), (5, .int .i64 v5)], []⟩
theorem laws_eqArcS_eq (a0 : List T_Arc.ty) (a1 : List T_Arc.ty) : laws_eqArcS a0 a1 =
  if ((a0.length : Int) != (a1.length : Int)) then
   some false
  else
   laws_eqArcS_p0 a0 a1 0 :=
 (mk_f _ _ _ _ _ _ _ 4000).trans (by kernel_rfl)
theorem laws_eqArcS_p0_eq  (v0 : List T_Arc.ty) (v1 : List T_Arc.ty) (v5 : Int) : laws_eqArcS_p0 v0 v1 v5 =
  if decide (v5 < (v0.length : Int)) then
   if decide (0 ≤ v5) then
    (v0[v5.toNat]?).bind fun x1 =>
     if decide (0 ≤ v5) then
      (v1[v5.toNat]?).bind fun x2 =>
       (laws_eqArc x1 x2).bind fun x3 =>
        if (!x3) then
         some false
        else
         laws_eqArcS_p0 v0 v1 (IntKind.i64.wrap (v5 + 1))
     else
      none
   else
    none
  else
   some true :=
 (goL_dn _ _ _ 4000 _ _).trans (by kernel_rfl)

/- laws.eqCord -/
def laws_eqCord_ir : Fn := { np := 2, io := [], res := [.t 4], own := [false], body :=
 (.seq (.reg false [⟨some 2, true, .box 4 (.t 0), none, false, []⟩, ⟨some 3, true, .box 4 (.t 1), none, false, []⟩, ⟨some 4, false, .asg (.c (.bool false)), none, false, []⟩] [2, 3] [2, 3]) (.seq (.seq (.reg false [⟨some 5, false, .fa 0 (.t 2), none, false, []⟩, ⟨some 6, false, .ld none (.t 5), none, false, []⟩, ⟨some 7, false, .fa 0 (.t 3), none, false, []⟩, ⟨some 8, false, .ld none (.t 7), none, false, []⟩, ⟨some 9, false, .bin .neq (.t 6) (.t 8), none, false, []⟩] [2, 3, 9] [2, 3]) (.cond (.t 9) (.seq (.reg false [⟨some 4, false, .asg (.c (.bool false)), none, false, []⟩] [4] []) .ret) .skip)) (.seq (.seq (.reg false [⟨some 10, false, .fa 1 (.t 2), none, false, []⟩, ⟨some 11, false, .ld none (.t 10), none, false, []⟩, ⟨some 12, false, .fa 1 (.t 3), none, false, []⟩, ⟨some 13, false, .ld none (.t 12), none, false, []⟩, ⟨some 14, false, .bin .neq (.t 11) (.t 13), none, false, []⟩] [2, 3, 14] [2, 3]) (.cond (.t 14) (.seq (.reg false [⟨some 4, false, .asg (.c (.bool false)), none, false, []⟩] [4] []) .ret) .skip)) (.seq (.seq (.reg false [⟨some 15, false, .fa 2 (.t 2), none, false, []⟩, ⟨some 16, false, .ld none (.t 15), none, false, []⟩, ⟨some 17, false, .fa 2 (.t 3), none, false, []⟩, ⟨some 18, false, .ld none (.t 17), none, false, []⟩, ⟨some 19, false, .bin .neq (.t 16) (.t 18), none, false, []⟩] [2, 3, 19] [2, 3]) (.cond (.t 19) (.seq (.reg false [⟨some 4, false, .asg (.c (.bool false)), none, false, []⟩] [4] []) .ret) .skip)) (.seq (.seq (.reg false [⟨some 20, false, .fa 3 (.t 2), none, false, []⟩, ⟨some 21, false, .ld none (.t 20), none, false, []⟩, ⟨some 22, false, .fa 3 (.t 3), none, false, []⟩, ⟨some 23, false, .ld none (.t 22), none, false, []⟩, ⟨some 24, false, .bin .neq (.t 21) (.t 23), none, false, []⟩] [24] []) (.cond (.t 24) (.seq (.reg false [⟨some 4, false, .asg (.c (.bool false)), none, false, []⟩] [4] []) .ret) .skip)) (.seq (.reg false [⟨some 4, false, .asg (.c (.bool true)), none, false, []⟩] [4] []) .ret)))))) }
noncomputable def laws_eqCord_D : List (Nat × Callee) := []
def laws_eqCord_H : List (Nat × ET) := []
noncomputable def laws_eqCord_c : Callee := mkCallee laws_eqCord_D laws_eqCord_H laws_eqCord_ir [.d T_Neck, .d T_Neck] [.d (.one .bool)] []
noncomputable def laws_eqCord (a0 : T_Neck.ty) (a1 : T_Neck.ty) : Option (Bool) := laws_eqCord_c.f (a0, a1, ())
theorem laws_eqCord_eq (a0 : T_Neck.ty) (a1 : T_Neck.ty) : laws_eqCord a0 a1 =
  if (a0.1 != a1.1) then
   some false
  else
   if (a0.2.1 != a1.2.1) then
    some false
   else
    if (a0.2.2.1 != a1.2.2.1) then
     some false
    else
     if (a0.2.2.2.1 != a1.2.2.2.1) then
      some false
     else
      some true :=
 (mk_f _ _ _ _ _ _ _ 4000).trans (by kernel_rfl)

/- laws.eqCordS -/
def laws_eqCordS_k0 : C :=
 .seq (.seq (.reg false [⟨some 11, false, .mv (.t 5), none, false, []⟩, ⟨some 12, false, .mv (.t 0), none, false, []⟩, ⟨some 13, false, .len (.t 12), none, false, []⟩, ⟨some 14, false, .bin .lss (.t 11) (.t 13), none, false, []⟩] [0, 1, 5, 14] []) (.cond (.t 14) .skip (.exit 0))) (.seq (.block 1 (.seq (.reg true [⟨some 17, false, .mv (.t 0), none, false, []⟩, ⟨some 18, false, .mv (.t 5), none, false, []⟩, ⟨some 19, false, .ia 4 (.t 17) (.t 18), none, false, []⟩, ⟨some 20, false, .ld (some 4) (.t 19), none, false, []⟩, ⟨some 21, false, .mv (.t 1), none, false, []⟩, ⟨some 22, false, .mv (.t 5), none, false, []⟩, ⟨some 23, false, .ia 4 (.t 21) (.t 22), none, false, []⟩, ⟨some 24, false, .ld (some 4) (.t 23), none, false, []⟩, ⟨some 25, false, .call (.c (.fn 902 [])) [.t 20, .t 24], none, false, []⟩, ⟨some 26, false, .un .not (.t 25), none, false, []⟩] [0, 1, 5, 26] []) (.cond (.t 26) (.seq (.reg false [⟨some 4, false, .asg (.c (.bool false)), none, false, []⟩] [4] []) .ret) .skip))) (.reg false [⟨some 15, false, .mv (.t 5), none, false, []⟩, ⟨some 16, false, .bin .add (.t 15) (.c (.int .i64 1)), none, false, []⟩, ⟨some 5, false, .asg (.t 16), none, false, []⟩] [0, 1, 5] []))
def laws_eqCordS_k1 : C :=
 .norm [0, 1, 5] [] laws_eqCordS_k0
def laws_eqCordS_k2 : C :=
 .seq (.reg false [⟨some 4, false, .asg (.c (.bool true)), none, false, []⟩] [4] []) .ret
def laws_eqCordS_ir : Fn := { np := 2, io := [], res := [.t 4], own := [false], body :=
 (.seq (.reg false [⟨some 4, false, .asg (.c (.bool false)), none, false, []⟩] [0, 1] []) (.seq (.seq (.reg false [⟨some 6, false, .mv (.t 0), none, false, []⟩, ⟨some 7, false, .len (.t 6), none, false, []⟩, ⟨some 8, false, .mv (.t 1), none, false, []⟩, ⟨some 9, false, .len (.t 8), none, false, []⟩, ⟨some 10, false, .bin .neq (.t 7) (.t 9), none, false, []⟩] [0, 1, 10] []) (.cond (.t 10) (.seq (.reg false [⟨some 4, false, .asg (.c (.bool false)), none, false, []⟩] [4] []) .ret) .skip)) (.seq (.seq (.reg false [⟨some 5, false, .asg (.c (.int .i64 0)), none, false, []⟩] [0, 1, 5] []) (.block 0 (.loop laws_eqCordS_k1))) laws_eqCordS_k2))) }
noncomputable def laws_eqCordS_D : List (Nat × Callee) := [(902, laws_eqCord_c)]
def laws_eqCordS_H : List (Nat × ET) := [(6, T_Neck), (8, T_Neck), (12, T_Neck), (17, T_Neck), (21, T_Neck)]
noncomputable def laws_eqCordS_c : Callee := mkCallee laws_eqCordS_D laws_eqCordS_H laws_eqCordS_ir [.d (.one (.sl T_Neck)), .d (.one (.sl T_Neck))] [.d (.one .bool)] []
noncomputable def laws_eqCordS (a0 : List T_Neck.ty) (a1 : List T_Neck.ty) : Option (Bool) := laws_eqCordS_c.f (a0, a1, ())
noncomputable def laws_eqCordS_p0  (v0 : List T_Neck.ty) (v1 : List T_Neck.ty) (v5 : Int) : Option (Bool) :=
 goL laws_eqCordS_D laws_eqCordS_H (vleave laws_eqCordS_ir [.d (.one (.sl T_Neck)), .d (.one (.sl T_Neck))] [.d (.one .bool)] [] []) [.c laws_eqCordS_k0, .l laws_eqCordS_k1, .e 0, .c laws_eqCordS_k2]
  ⟨[(0, .sl T_Neck v0), (1, .sl T_Neck v1), (5, .int .i64 v5)], []⟩
theorem laws_eqCordS_eq (a0 : List T_Neck.ty) (a1 : List T_Neck.ty) : laws_eqCordS a0 a1 =
  if ((a0.length : Int) != (a1.length : Int)) then
   some false
  else
   laws_eqCordS_p0 a0 a1 0 :=
 (mk_f _ _ _ _ _ _ _ 4000).trans (by kernel_rfl)
theorem laws_eqCordS_p0_eq  (v0 : List T_Neck.ty) (v1 : List T_Neck.ty) (v5 : Int) : laws_eqCordS_p0 v0 v1 v5 =
  if decide (v5 < (v0.length : Int)) then
   if decide (0 ≤ v5) then
    (v0[v5.toNat]?).bind fun x1 =>
     if decide (0 ≤ v5) then
      (v1[v5.toNat]?).bind fun x2 =>
       (laws_eqCord x1 x2).bind fun x3 =>
        if (!x3) then
         some false
        else
         laws_eqCordS_p0 v0 v1 (IntKind.i64.wrap (v5 + 1))
     else
      none
   else
    none
  else
   some true :=
 (goL_dn _ _ _ 4000 _ _).trans (by kernel_rfl)

/- laws.eqInt64S -/
def laws_eqInt64S_k0 : C :=
 .seq (.seq (.reg false [⟨some 11, false, .mv (.t 5), none, false, []⟩, ⟨some 12, false, .mv (.t 0), none, false, []⟩, ⟨some 13, false, .len (.t 12), none, false, []⟩, ⟨some 14, false, .bin .lss (.t 11) (.t 13), none, false, []⟩] [0, 1, 5, 14] []) (.cond (.t 14) .skip (.exit 0))) (.seq (.block 1 (.seq (.reg true [⟨some 17, false, .mv (.t 0), none, false, []⟩, ⟨some 18, false, .mv (.t 5), none, false, []⟩, ⟨some 19, false, .ia 1 (.t 17) (.t 18), none, false, []⟩, ⟨some 20, false, .ld none (.t 19), none, false, []⟩, ⟨some 21, false, .mv (.t 1), none, false, []⟩, ⟨some 22, false, .mv (.t 5), none, false, []⟩, ⟨some 23, false, .ia 1 (.t 21) (.t 22), none, false, []⟩, ⟨some 24, false, .ld none (.t 23), none, false, []⟩, ⟨some 25, false, .bin .neq (.t 20) (.t 24), none, false, []⟩] [0, 1, 5, 25] []) (.cond (.t 25) (.seq (.reg false [⟨some 4, false, .asg (.c (.bool false)), none, false, []⟩] [4] []) .ret) .skip))) (.reg false [⟨some 15, false, .mv (.t 5), none, false, []⟩, ⟨some 16, false, .bin .add (.t 15) (.c (.int .i64 1)), none, false, []⟩, ⟨some 5, false, .asg (.t 16), none, false, []⟩] [0, 1, 5] []))
def laws_eqInt64S_k1 : C :=
 .norm [0, 1, 5] [] laws_eqInt64S_k0
def laws_eqInt64S_k2 : C :=
 .seq (.reg false [⟨some 4, false, .asg (.c (.bool true)), none, false, []⟩] [4] []) .ret
def laws_eqInt64S_ir : Fn := { np := 2, io := [], res := [.t 4], own := [false], body :=
 (.seq (.reg false [⟨some 4, false, .asg (.c (.bool false)), none, false, []⟩] [0, 1] []) (.seq (.seq (.reg false [⟨some 6, false, .mv (.t 0), none, false, []⟩, ⟨some 7, false, .len (.t 6), none, false, []⟩, ⟨some 8, false, .mv (.t 1), none, false, []⟩, ⟨some 9, false, .len (.t 8), none, false, []⟩, ⟨some 10, false, .bin .neq (.t 7) (.t 9), none, false, []⟩] [0, 1, 10] []) (.cond (.t 10) (.seq (.reg false [⟨some 4, false, .asg (.c (.bool false)), none, false, []⟩] [4] []) .ret) .skip)) (.seq (.seq (.reg false [⟨some 5, false, .asg (.c (.int .i64 0)), none, false, []⟩] [0, 1, 5] []) (.block 0 (.loop laws_eqInt64S_k1))) laws_eqInt64S_k2))) }
noncomputable def laws_eqInt64S_D : List (Nat × Callee) := []
def laws_eqInt64S_H : List (Nat × ET) := [(6, (.one (.int .i64))), (8, (.one (.int .i64))), (12, (.one (.int .i64))), (17, (.one (.int .i64))), (21, (.one (.int .i64)))]
noncomputable def laws_eqInt64S_c : Callee := mkCallee laws_eqInt64S_D laws_eqInt64S_H laws_eqInt64S_ir [.d (.one (.sl (.one (.int .i64)))), .d (.one (.sl (.one (.int .i64))))] [.d (.one .bool)] []
noncomputable def laws_eqInt64S (a0 : List Int) (a1 : List Int) : Option (Bool) := laws_eqInt64S_c.f (a0, a1, ())
noncomputable def laws_eqInt64S_p0  (v0 : List Int) (v1 : List Int) (v5 : Int) : Option (Bool) :=
 goL laws_eqInt64S_D laws_eqInt64S_H (vleave laws_eqInt64S_ir [.d (.one (.sl (.one (.int .i64)))), .d (.one (.sl (.one (.int .i64))))] [.d (.one .bool)] [] []) [.c laws_eqInt64S_k0, .l laws_eqInt64S_k1, .e 0, .c laws_eqInt64S_k2]
  ⟨[(0, .sl (.one (.int .i64)) v0), (1, .sl (.one (.int .i64)) v1), (5, .int .i64 v5)], []⟩
theorem laws_eqInt64S_eq (a0 : List Int) (a1 : List Int) : laws_eqInt64S a0 a1 =
  if ((a0.length : Int) != (a1.length : Int)) then
   some false
  else
   laws_eqInt64S_p0 a0 a1 0 :=
 (mk_f _ _ _ _ _ _ _ 4000).trans (by kernel_rfl)
theorem laws_eqInt64S_p0_eq  (v0 : List Int) (v1 : List Int) (v5 : Int) : laws_eqInt64S_p0 v0 v1 v5 =
  if decide (v5 < (v0.length : Int)) then
   if decide (0 ≤ v5) then
    (v0[v5.toNat]?).bind fun x1 =>
     if decide (0 ≤ v5) then
      (v1[v5.toNat]?).bind fun x2 =>
       if (x1 != x2) then
        some false
       else
        laws_eqInt64S_p0 v0 v1 (IntKind.i64.wrap (v5 + 1))
     else
      none
   else
    none
  else
   some true :=
 (goL_dn _ _ _ 4000 _ _).trans (by kernel_rfl)

/- laws.eqStep -/
def laws_eqStep_ir : Fn := { np := 2, io := [], res := [.t 4], own := [false], body :=
 (.seq (.reg false [⟨some 2, true, .box 4 (.t 0), none, false, []⟩, ⟨some 3, true, .box 4 (.t 1), none, false, []⟩, ⟨some 4, false, .asg (.c (.bool false)), none, false, []⟩] [2, 3] [2, 3, 3003, 4003]) (.seq (.seq (.reg false [⟨some 5, false, .fa 0 (.t 2), none, false, []⟩, ⟨some 6, false, .ld none (.t 5), none, false, []⟩, ⟨some 7, false, .fa 0 (.t 3), none, false, []⟩, ⟨some 8, false, .ld none (.t 7), none, false, []⟩, ⟨some 9, false, .bin .neq (.t 6) (.t 8), none, false, []⟩] [2, 3, 9] [2, 3, 3003, 4003]) (.cond (.t 9) (.seq (.reg false [⟨some 4, false, .asg (.c (.bool false)), none, false, []⟩] [4] []) .ret) .skip)) (.seq (.seq (.reg false [⟨some 10, false, .fa 1 (.t 2), none, false, []⟩, ⟨some 11, false, .ld none (.t 10), none, false, []⟩, ⟨some 12, false, .fa 1 (.t 3), none, false, []⟩, ⟨some 13, false, .ld none (.t 12), none, false, []⟩, ⟨some 14, false, .bin .neq (.t 11) (.t 13), none, false, []⟩] [2, 3, 14] [2, 3, 3003, 4003]) (.cond (.t 14) (.seq (.reg false [⟨some 4, false, .asg (.c (.bool false)), none, false, []⟩] [4] []) .ret) .skip)) (.seq (.seq (.reg false [⟨some 15, false, .fa 2 (.t 2), none, false, []⟩, ⟨some 16, false, .ld none (.t 15), none, false, []⟩, ⟨some 17, false, .fa 2 (.t 3), none, false, []⟩, ⟨some 18, false, .ld none (.t 17), none, false, []⟩, ⟨some 19, false, .bin .neq (.t 16) (.t 18), none, false, []⟩] [2, 3, 19] [2, 3, 3003, 4003]) (.cond (.t 19) (.seq (.reg false [⟨some 4, false, .asg (.c (.bool false)), none, false, []⟩] [4] []) .ret) .skip)) (.seq (.seq (.reg false [⟨some 20, false, .fa 3 (.t 2), none, false, []⟩, ⟨some 21, false, .ld none (.t 20), none, false, []⟩, ⟨some 22, false, .fa 3 (.t 3), none, false, []⟩, ⟨some 23, false, .ld none (.t 22), none, false, []⟩, ⟨some 24, false, .call (.c (.fn 42 [])) [.t 21, .t 23], none, false, []⟩, ⟨some 25, false, .un .not (.t 24), none, false, []⟩] [25] []) (.cond (.t 25) (.seq (.reg false [⟨some 4, false, .asg (.c (.bool false)), none, false, []⟩] [4] []) .ret) .skip)) (.seq (.reg false [⟨some 4, false, .asg (.c (.bool true)), none, false, []⟩] [4] []) .ret)))))) }
noncomputable def laws_eqStep_D : List (Nat × Callee) := [(42, laws_eqInt64S_c)]
def laws_eqStep_H : List (Nat × ET) := [(21, (.one (.int .i64))), (23, (.one (.int .i64)))]
noncomputable def laws_eqStep_c : Callee := mkCallee laws_eqStep_D laws_eqStep_H laws_eqStep_ir [.d T_Step, .d T_Step] [.d (.one .bool)] []
noncomputable def laws_eqStep (a0 : T_Step.ty) (a1 : T_Step.ty) : Option (Bool) := laws_eqStep_c.f (a0, a1, ())
theorem laws_eqStep_eq (a0 : T_Step.ty) (a1 : T_Step.ty) : laws_eqStep a0 a1 =
  if (!(a0.1 == a1.1)) then
   some false
  else
   if (a0.2.1 != a1.2.1) then
    some false
   else
    if (a0.2.2.1 != a1.2.2.1) then
     some false
    else
     (laws_eqInt64S a0.2.2.2.1 a1.2.2.2.1).bind fun x1 =>
      if (!x1) then
       some false
      else
       some true :=
 (mk_f _ _ _ _ _ _ _ 4000).trans (by kernel_rfl)

/- laws.eqStepS -/
def laws_eqStepS_k0 : C :=
 .seq (.seq (.reg false [⟨some 11, false, .mv (.t 5), none, false, []⟩, ⟨some 12, false, .mv (.t 0), none, false, []⟩, ⟨some 13, false, .len (.t 12), none, false, []⟩, ⟨some 14, false, .bin .lss (.t 11) (.t 13), none, false, []⟩] [0, 1, 5, 14] []) (.cond (.t 14) .skip (.exit 0))) (.seq (.block 1 (.seq (.reg true [⟨some 17, false, .mv (.t 0), none, false, []⟩, ⟨some 18, false, .mv (.t 5), none, false, []⟩, ⟨some 19, false, .ia 4 (.t 17) (.t 18), none, false, []⟩, ⟨some 20, false, .ld (some 4) (.t 19), none, false, []⟩, ⟨some 21, false, .mv (.t 1), none, false, []⟩, ⟨some 22, false, .mv (.t 5), none, false, []⟩, ⟨some 23, false, .ia 4 (.t 21) (.t 22), none, false, []⟩, ⟨some 24, false, .ld (some 4) (.t 23), none, false, []⟩, ⟨some 25, false, .call (.c (.fn 903 [])) [.t 20, .t 24], none, false, []⟩, ⟨some 26, false, .un .not (.t 25), none, false, []⟩] [0, 1, 5, 26] []) (.cond (.t 26) (.seq (.reg false [⟨some 4, false, .asg (.c (.bool false)), none, false, []⟩] [4] []) .ret) .skip))) (.reg false [⟨some 15, false, .mv (.t 5), none, false, []⟩, ⟨some 16, false, .bin .add (.t 15) (.c (.int .i64 1)), none, false, []⟩, ⟨some 5, false, .asg (.t 16), none, false, []⟩] [0, 1, 5] []))
def laws_eqStepS_k1 : C :=
 .norm [0, 1, 5] [] laws_eqStepS_k0
def laws_eqStepS_k2 : C :=
 .seq (.reg false [⟨some 4, false, .asg (.c (.bool true)), none, false, []⟩] [4] []) .ret
def laws_eqStepS_ir : Fn := { np := 2, io := [], res := [.t 4], own := [false], body :=
 (.seq (.reg false [⟨some 4, false, .asg (.c (.bool false)), none, false, []⟩] [0, 1] []) (.seq (.seq (.reg false [⟨some 6, false, .mv (.t 0), none, false, []⟩, ⟨some 7, false, .len (.t 6), none, false, []⟩, ⟨some 8, false, .mv (.t 1), none, false, []⟩, ⟨some 9, false, .len (.t 8), none, false, []⟩, ⟨some 10, false, .bin .neq (.t 7) (.t 9), none, false, []⟩] [0, 1, 10] []) (.cond (.t 10) (.seq (.reg false [⟨some 4, false, .asg (.c (.bool false)), none, false, []⟩] [4] []) .ret) .skip)) (.seq (.seq (.reg false [⟨some 5, false, .asg (.c (.int .i64 0)), none, false, []⟩] [0, 1, 5] []) (.block 0 (.loop laws_eqStepS_k1))) laws_eqStepS_k2))) }
noncomputable def laws_eqStepS_D : List (Nat × Callee) := [(903, laws_eqStep_c)]
def laws_eqStepS_H : List (Nat × ET) := [(6, T_Step), (8, T_Step), (12, T_Step), (17, T_Step), (21, T_Step)]
noncomputable def laws_eqStepS_c : Callee := mkCallee laws_eqStepS_D laws_eqStepS_H laws_eqStepS_ir [.d (.one (.sl T_Step)), .d (.one (.sl T_Step))] [.d (.one .bool)] []
noncomputable def laws_eqStepS (a0 : List T_Step.ty) (a1 : List T_Step.ty) : Option (Bool) := laws_eqStepS_c.f (a0, a1, ())
noncomputable def laws_eqStepS_p0  (v0 : List T_Step.ty) (v1 : List T_Step.ty) (v5 : Int) : Option (Bool) :=
 goL laws_eqStepS_D laws_eqStepS_H (vleave laws_eqStepS_ir [.d (.one (.sl T_Step)), .d (.one (.sl T_Step))] [.d (.one .bool)] [] []) [.c laws_eqStepS_k0, .l laws_eqStepS_k1, .e 0, .c laws_eqStepS_k2]
  ⟨[(0, .sl T_Step v0), (1, .sl T_Step v1), (5, .int .i64 v5)], []⟩
theorem laws_eqStepS_eq (a0 : List T_Step.ty) (a1 : List T_Step.ty) : laws_eqStepS a0 a1 =
  if ((a0.length : Int) != (a1.length : Int)) then
   some false
  else
   laws_eqStepS_p0 a0 a1 0 :=
 (mk_f _ _ _ _ _ _ _ 4000).trans (by kernel_rfl)
theorem laws_eqStepS_p0_eq  (v0 : List T_Step.ty) (v1 : List T_Step.ty) (v5 : Int) : laws_eqStepS_p0 v0 v1 v5 =
  if decide (v5 < (v0.length : Int)) then
   if decide (0 ≤ v5) then
    (v0[v5.toNat]?).bind fun x1 =>
     if decide (0 ≤ v5) then
      (v1[v5.toNat]?).bind fun x2 =>
       (laws_eqStep x1 x2).bind fun x3 =>
        if (!x3) then
         some false
        else
         laws_eqStepS_p0 v0 v1 (IntKind.i64.wrap (v5 + 1))
     else
      none
   else
    none
  else
   some true :=
 (goL_dn _ _ _ 4000 _ _).trans (by kernel_rfl)

/- laws.eqRental -/
def laws_eqRental_ir : Fn := { np := 2, io := [], res := [.t 4], own := [false], body :=
 (.seq (.reg false [⟨some 2, true, .box 5 (.t 0), none, false, []⟩, ⟨some 3, true, .box 5 (.t 1), none, false, []⟩, ⟨some 4, false, .asg (.c (.bool false)), none, false, []⟩] [2, 3] [2, 3]) (.seq (.seq (.reg false [⟨some 5, false, .fa 0 (.t 2), none, false, []⟩, ⟨some 6, false, .ld none (.t 5), none, false, []⟩, ⟨some 7, false, .fa 0 (.t 3), none, false, []⟩, ⟨some 8, false, .ld none (.t 7), none, false, []⟩, ⟨some 9, false, .bin .neq (.t 6) (.t 8), none, false, []⟩] [2, 3, 9] [2, 3]) (.cond (.t 9) (.seq (.reg false [⟨some 4, false, .asg (.c (.bool false)), none, false, []⟩] [4] []) .ret) .skip)) (.seq (.seq (.reg false [⟨some 10, false, .fa 1 (.t 2), none, false, []⟩, ⟨some 11, false, .ld none (.t 10), none, false, []⟩, ⟨some 12, false, .fa 1 (.t 3), none, false, []⟩, ⟨some 13, false, .ld none (.t 12), none, false, []⟩, ⟨some 14, false, .bin .neq (.t 11) (.t 13), none, false, []⟩] [2, 3, 14] [2, 3]) (.cond (.t 14) (.seq (.reg false [⟨some 4, false, .asg (.c (.bool false)), none, false, []⟩] [4] []) .ret) .skip)) (.seq (.seq (.reg false [⟨some 15, false, .fa 2 (.t 2), none, false, []⟩, ⟨some 16, false, .ld none (.t 15), none, false, []⟩, ⟨some 17, false, .fa 2 (.t 3), none, false, []⟩, ⟨some 18, false, .ld none (.t 17), none, false, []⟩, ⟨some 19, false, .bin .neq (.t 16) (.t 18), none, false, []⟩] [2, 3, 19] [2, 3]) (.cond (.t 19) (.seq (.reg false [⟨some 4, false, .asg (.c (.bool false)), none, false, []⟩] [4] []) .ret) .skip)) (.seq (.seq (.reg false [⟨some 20, false, .fa 3 (.t 2), none, false, []⟩, ⟨some 21, false, .ld none (.t 20), none, false, []⟩, ⟨some 22, false, .fa 3 (.t 3), none, false, []⟩, ⟨some 23, false, .ld none (.t 22), none, false, []⟩, ⟨some 24, false, .bin .neq (.t 21) (.t 23), none, false, []⟩] [2, 3, 24] [2, 3]) (.cond (.t 24) (.seq (.reg false [⟨some 4, false, .asg (.c (.bool false)), none, false, []⟩] [4] []) .ret) .skip)) (.seq (.seq (.reg false [⟨some 25, false, .fa 4 (.t 2), none, false, []⟩, ⟨some 26, false, .ld none (.t 25), none, false, []⟩, ⟨some 27, false, .fa 4 (.t 3), none, false, []⟩, ⟨some 28, false, .ld none (.t 27), none, false, []⟩, ⟨some 29, false, .bin .neq (.t 26) (.t 28), none, false, []⟩] [29] []) (.cond (.t 29) (.seq (.reg false [⟨some 4, false, .asg (.c (.bool false)), none, false, []⟩] [4] []) .ret) .skip)) (.seq (.reg false [⟨some 4, false, .asg (.c (.bool true)), none, false, []⟩] [4] []) .ret))))))) }
noncomputable def laws_eqRental_D : List (Nat × Callee) := []
def laws_eqRental_H : List (Nat × ET) := []
noncomputable def laws_eqRental_c : Callee := mkCallee laws_eqRental_D laws_eqRental_H laws_eqRental_ir [.d T_Paper, .d T_Paper] [.d (.one .bool)] []
noncomputable def laws_eqRental (a0 : T_Paper.ty) (a1 : T_Paper.ty) : Option (Bool) := laws_eqRental_c.f (a0, a1, ())
theorem laws_eqRental_eq (a0 : T_Paper.ty) (a1 : T_Paper.ty) : laws_eqRental a0 a1 =
  if (!(a0.1 == a1.1)) then
   some false
  else
   if (!(a0.2.1 == a1.2.1)) then
    some false
   else
    if (a0.2.2.1 != a1.2.2.1) then
     some false
    else
     if (a0.2.2.2.1 != a1.2.2.2.1) then
      some false
     else
      if (a0.2.2.2.2.1 != a1.2.2.2.2.1) then
       some false
      else
       some true :=
 (mk_f _ _ _ _ _ _ _ 4000).trans (by kernel_rfl)

/- laws.eqRentalS -/
def laws_eqRentalS_k0 : C :=
 .seq (.seq (.reg false [⟨some 11, false, .mv (.t 5), none, false, []⟩, ⟨some 12, false, .mv (.t 0), none, false, []⟩, ⟨some 13, false, .len (.t 12), none, false, []⟩, ⟨some 14, false, .bin .lss (.t 11) (.t 13), none, false, []⟩] [0, 1, 5, 14] []) (.cond (.t 14) .skip (.exit 0))) (.seq (.block 1 (.seq (.reg true [⟨some 17, false, .mv (.t 0), none, false, []⟩, ⟨some 18, false, .mv (.t 5), none, false, []⟩, ⟨some 19, false, .ia 5 (.t 17) (.t 18), none, false, []⟩, ⟨some 20, false, .ld (some 5) (.t 19), none, false, []⟩, ⟨some 21, false, .mv (.t 1), none, false, []⟩, ⟨some 22, false, .mv (.t 5), none, false, []⟩, ⟨some 23, false, .ia 5 (.t 21) (.t 22), none, false, []⟩, ⟨some 24, false, .ld (some 5) (.t 23), none, false, []⟩, ⟨some 25, false, .call (.c (.fn 904 [])) [.t 20, .t 24], none, false, []⟩, ⟨some 26, false, .un .not (.t 25), none, false, []⟩] [0, 1, 5, 26] []) (.cond (.t 26) (.seq (.reg false [⟨some 4, false, .asg (.c (.bool false)), none, false, []⟩] [4] []) .ret) .skip))) (.reg false [⟨some 15, false, .mv (.t 5), none, false, []⟩, ⟨some 16, false, .bin .add (.t 15) (.c (.int .i64 1)), none, false, []⟩, ⟨some 5, false, .asg (.t 16), none, false, []⟩] [0, 1, 5] []))
def laws_eqRentalS_k1 : C :=
 .norm [0, 1, 5] [] laws_eqRentalS_k0
def laws_eqRentalS_k2 : C :=
 .seq (.reg false [⟨some 4, false, .asg (.c (.bool true)), none, false, []⟩] [4] []) .ret
def laws_eqRentalS_ir : Fn := { np := 2, io := [], res := [.t 4], own := [false], body :=
 (.seq (.reg false [⟨some 4, false, .asg (.c (.bool false)), none, false, []⟩] [0, 1] []) (.seq (.seq (.reg false [⟨some 6, false, .mv (.t 0), none, false, []⟩, ⟨some 7, false, .len (.t 6), none, false, []⟩, ⟨some 8, false, .mv (.t 1), none, false, []⟩, ⟨some 9, false, .len (.t 8), none, false, []⟩, ⟨some 10, false, .bin .neq (.t 7) (.t 9), none, false, []⟩] [0, 1, 10] []) (.cond (.t 10) (.seq (.reg false [⟨some 4, false, .asg (.c (.bool false)), none, false, []⟩] [4] []) .ret) .skip)) (.seq (.seq (.reg false [⟨some 5, false, .asg (.c (.int .i64 0)), none, false, []⟩] [0, 1, 5] []) (.block 0 (.loop laws_eqRentalS_k1))) laws_eqRentalS_k2))) }
noncomputable def laws_eqRentalS_D : List (Nat × Callee) := [(904, laws_eqRental_c)]
def laws_eqRentalS_H : List (Nat × ET) := [(6, T_Paper), (8, T_Paper), (12, T_Paper), (17, T_Paper), (21, T_Paper)]
noncomputable def laws_eqRentalS_c : Callee := mkCallee laws_eqRentalS_D laws_eqRentalS_H laws_eqRentalS_ir [.d (.one (.sl T_Paper)), .d (.one (.sl T_Paper))] [.d (.one .bool)] []
noncomputable def laws_eqRentalS (a0 : List T_Paper.ty) (a1 : List T_Paper.ty) : Option (Bool) := laws_eqRentalS_c.f (a0, a1, ())
noncomputable def laws_eqRentalS_p0  (v0 : List T_Paper.ty) (v1 : List T_Paper.ty) (v5 : Int) : Option (Bool) :=
 goL laws_eqRentalS_D laws_eqRentalS_H (vleave laws_eqRentalS_ir [.d (.one (.sl T_Paper)), .d (.one (.sl T_Paper))] [.d (.one .bool)] [] []) [.c laws_eqRentalS_k0, .l laws_eqRentalS_k1, .e 0, .c laws_eqRentalS_k2]
  ⟨[(0, .sl T_Paper v0), (1, .sl T_Paper v1), (5, .int .i64 v5)], []⟩
theorem laws_eqRentalS_eq (a0 : List T_Paper.ty) (a1 : List T_Paper.ty) : laws_eqRentalS a0 a1 =
  if ((a0.length : Int) != (a1.length : Int)) then
   some false
  else
   laws_eqRentalS_p0 a0 a1 0 :=
 (mk_f _ _ _ _ _ _ _ 4000).trans (by kernel_rfl)
theorem laws_eqRentalS_p0_eq  (v0 : List T_Paper.ty) (v1 : List T_Paper.ty) (v5 : Int) : laws_eqRentalS_p0 v0 v1 v5 =
  if decide (v5 < (v0.length : Int)) then
   if decide (0 ≤ v5) then
    (v0[v5.toNat]?).bind fun x1 =>
     if decide (0 ≤ v5) then
      (v1[v5.toNat]?).bind fun x2 =>
       (laws_eqRental x1 x2).bind fun x3 =>
        if (!x3) then
         some false
        else
         laws_eqRentalS_p0 v0 v1 (IntKind.i64.wrap (v5 + 1))
     else
      none
   else
    none
  else
   some true :=
 (goL_dn _ _ _ 4000 _ _).trans (by kernel_rfl)

/- laws.eqEntry -/
def laws_eqEntry_ir : Fn := { np := 2, io := [], res := [.t 4], own := [false], body :=
 (.seq (.reg false [⟨some 2, true, .box 4 (.t 0), none, false, []⟩, ⟨some 3, true, .box 4 (.t 1), none, false, []⟩, ⟨some 4, false, .asg (.c (.bool false)), none, false, []⟩] [2, 3] [2, 3]) (.seq (.seq (.reg false [⟨some 5, false, .fa 0 (.t 2), none, false, []⟩, ⟨some 6, false, .ld none (.t 5), none, false, []⟩, ⟨some 7, false, .fa 0 (.t 3), none, false, []⟩, ⟨some 8, false, .ld none (.t 7), none, false, []⟩, ⟨some 9, false, .bin .neq (.t 6) (.t 8), none, false, []⟩] [2, 3, 9] [2, 3]) (.cond (.t 9) (.seq (.reg false [⟨some 4, false, .asg (.c (.bool false)), none, false, []⟩] [4] []) .ret) .skip)) (.seq (.seq (.reg false [⟨some 10, false, .fa 1 (.t 2), none, false, []⟩, ⟨some 11, false, .ld none (.t 10), none, false, []⟩, ⟨some 12, false, .fa 1 (.t 3), none, false, []⟩, ⟨some 13, false, .ld none (.t 12), none, false, []⟩, ⟨some 14, false, .bin .neq (.t 11) (.t 13), none, false, []⟩] [2, 3, 14] [2, 3]) (.cond (.t 14) (.seq (.reg false [⟨some 4, false, .asg (.c (.bool false)), none, false, []⟩] [4] []) .ret) .skip)) (.seq (.seq (.reg false [⟨some 15, false, .fa 2 (.t 2), none, false, []⟩, ⟨some 16, false, .ld none (.t 15), none, false, []⟩, ⟨some 17, false, .fa 2 (.t 3), none, false, []⟩, ⟨some 18, false, .ld none (.t 17), none, false, []⟩, ⟨some 19, false, .bin .neq (.t 16) (.t 18), none, false, []⟩] [2, 3, 19] [2, 3]) (.cond (.t 19) (.seq (.reg false [⟨some 4, false, .asg (.c (.bool false)), none, false, []⟩] [4] []) .ret) .skip)) (.seq (.seq (.reg false [⟨some 20, false, .fa 3 (.t 2), none, false, []⟩, ⟨some 21, false, .ld none (.t 20), none, false, []⟩, ⟨some 22, false, .fa 3 (.t 3), none, false, []⟩, ⟨some 23, false, .ld none (.t 22), none, false, []⟩, ⟨some 24, false, .bin .neq (.t 21) (.t 23), none, false, []⟩] [24] []) (.cond (.t 24) (.seq (.reg false [⟨some 4, false, .asg (.c (.bool false)), none, false, []⟩] [4] []) .ret) .skip)) (.seq (.reg false [⟨some 4, false, .asg (.c (.bool true)), none, false, []⟩] [4] []) .ret)))))) }
noncomputable def laws_eqEntry_D : List (Nat × Callee) := []
def laws_eqEntry_H : List (Nat × ET) := []
noncomputable def laws_eqEntry_c : Callee := mkCallee laws_eqEntry_D laws_eqEntry_H laws_eqEntry_ir [.d T_Entry, .d T_Entry] [.d (.one .bool)] []
noncomputable def laws_eqEntry (a0 : T_Entry.ty) (a1 : T_Entry.ty) : Option (Bool) := laws_eqEntry_c.f (a0, a1, ())
theorem laws_eqEntry_eq (a0 : T_Entry.ty) (a1 : T_Entry.ty) : laws_eqEntry a0 a1 =
  if (a0.1 != a1.1) then
   some false
  else
   if (!(a0.2.1 == a1.2.1)) then
    some false
   else
    if (!(a0.2.2.1 == a1.2.2.1)) then
     some false
    else
     if (a0.2.2.2.1 != a1.2.2.2.1) then
      some false
     else
      some true :=
 (mk_f _ _ _ _ _ _ _ 4000).trans (by kernel_rfl)

/- laws.eqEntryS -/
def laws_eqEntryS_k0 : C :=
 .seq (.seq (.reg false [⟨some 11, false, .mv (.t 5), none, false, []⟩, ⟨some 12, false, .mv (.t 0), none, false, []⟩, ⟨some 13, false, .len (.t 12), none, false, []⟩, ⟨some 14, false, .bin .lss (.t 11) (.t 13), none, false, []⟩] [0, 1, 5, 14] []) (.cond (.t 14) .skip (.exit 0))) (.seq (.block 1 (.seq (.reg true [⟨some 17, false, .mv (.t 0), none, false, []⟩, ⟨some 18, false, .mv (.t 5), none, false, []⟩, ⟨some 19, false, .ia 4 (.t 17) (.t 18), none, false, []⟩, ⟨some 20, false, .ld (some 4) (.t 19), none, false, []⟩, ⟨some 21, false, .mv (.t 1), none, false, []⟩, ⟨some 22, false, .mv (.t 5), none, false, []⟩, ⟨some 23, false, .ia 4 (.t 21) (.t 22), none, false, []⟩, ⟨some 24, false, .ld (some 4) (.t 23), none, false, []⟩, ⟨some 25, false, .call (.c (.fn 905 [])) [.t 20, .t 24], none, false, []⟩, ⟨some 26, false, .un .not (.t 25), none, false, []⟩] [0, 1, 5, 26] []) (.cond (.t 26) (.seq (.reg false [⟨some 4, false, .asg (.c (.bool false)), none, false, []⟩] [4] []) .ret) .skip))) (.reg false [⟨some 15, false, .mv (.t 5), none, false, []⟩, ⟨some 16, false, .bin .add (.t 15) (.c (.int .i64 1)), none, false, []⟩, ⟨some 5, false, .asg (.t 16), none, false, []⟩] [0, 1, 5] []))
def laws_eqEntryS_k1 : C :=
 .norm [0, 1, 5] [] laws_eqEntryS_k0
def laws_eqEntryS_k2 : C :=
 .seq (.reg false [⟨some 4, false, .asg (.c (.bool true)), none, false, []⟩] [4] []) .ret
def laws_eqEntryS_ir : Fn := { np := 2, io := [], res := [.t 4], own := [false], body :=
 (.seq (.reg false [⟨some 4, false, .asg (.c (.bool false)), none, false, []⟩] [0, 1] []) (.seq (.seq (.reg false [⟨some 6, false, .mv (.t 0), none, false, []⟩, ⟨some 7, false, .len (.t 6), none, false, []⟩, ⟨some 8, false, .mv (.t 1), none, false, []⟩, ⟨some 9, false, .len (.t 8), none, false, []⟩, ⟨some 10, false, .bin .neq (.t 7) (.t 9), none, false, []⟩] [0, 1, 10] []) (.cond (.t 10) (.seq (.reg false [⟨some 4, false, .asg (.c (.bool false)), none, false, []⟩] [4] []) .ret) .skip)) (.seq (.seq (.reg false [⟨some 5, false, .asg (.c (.int .i64 0)), none, false, []⟩] [0, 1, 5] []) (.block 0 (.loop laws_eqEntryS_k1))) laws_eqEntryS_k2))) }
noncomputable def laws_eqEntryS_D : List (Nat × Callee) := [(905, laws_eqEntry_c)]
def laws_eqEntryS_H : List (Nat × ET) := [(6, T_Entry), (8, T_Entry), (12, T_Entry), (17, T_Entry), (21, T_Entry)]
noncomputable def laws_eqEntryS_c : Callee := mkCallee laws_eqEntryS_D laws_eqEntryS_H laws_eqEntryS_ir [.d (.one (.sl T_Entry)), .d (.one (.sl T_Entry))] [.d (.one .bool)] []
noncomputable def laws_eqEntryS (a0 : List T_Entry.ty) (a1 : List T_Entry.ty) : Option (Bool) := laws_eqEntryS_c.f (a0, a1, ())
noncomputable def laws_eqEntryS_p0  (v0 : List T_Entry.ty) (v1 : List T_Entry.ty) (v5 : Int) : Option (Bool) :=
 goL laws_eqEntryS_D laws_eqEntryS_H (vleave laws_eqEntryS_ir [.d (.one (.sl T_Entry)), .d (.one (.sl T_Entry))] [.d (.one .bool)] [] []) [.c laws_eqEntryS_k0, .l laws_eqEntryS_k1, .e 0, .c laws_eqEntryS_k2]
  ⟨[(0, .sl T_Entry v0), (1, .sl T_Entry v1), (5, .int .i64 v5)], []⟩
theorem laws_eqEntryS_eq (a0 : List T_Entry.ty) (a1 : List T_Entry.ty) : laws_eqEntryS a0 a1 =
  if ((a0.length : Int) != (a1.length : Int)) then
   some false
  else
   laws_eqEntryS_p0 a0 a1 0 :=
 (mk_f _ _ _ _ _ _ _ 4000).trans (by kernel_rfl)
theorem laws_eqEntryS_p0_eq  (v0 : List T_Entry.ty) (v1 : List T_Entry.ty) (v5 : Int) : laws_eqEntryS_p0 v0 v1 v5 =
  if decide (v5 < (v0.length : Int)) then
   if decide (0 ≤ v5) then
    (v0[v5.toNat]?).bind fun x1 =>
     if decide (0 ≤ v5) then
      (v1[v5.toNat]?).bind fun x2 =>
       (laws_eqEntry x1 x2).bind fun x3 =>
        if (!x3) then
         some false
        else
         laws_eqEntryS_p0 v0 v1 (IntKind.i64.wrap (v5 + 1))
     else
      none
   else
    none
  else
   some true :=
 (goL_dn _ _ _ 4000 _ _).trans (by kernel_rfl)

end Go.Ab.P
