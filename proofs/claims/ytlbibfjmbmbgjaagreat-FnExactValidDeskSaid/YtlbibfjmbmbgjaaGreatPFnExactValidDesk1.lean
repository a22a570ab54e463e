/- Functions of the program: abstract forms, and what their runs give. Conditions: none. -/
import Derived.Test.YtlbibfjmbmbgjaaGreatL3
set_option maxRecDepth 100000
set_option linter.unusedVariables false
namespace Go.Ab.P
open Go.Ab
@[reducible] def T_Problem : ET := .agg (.cons (.int .i64) (.cons .str (.cons .str .nil)))
@[reducible] def T_Pot : ET := .agg (.cons .str (.cons (.int .i64) (.cons (.int .i64) (.cons (.int .i64) (.cons (.int .i64) .nil)))))
@[reducible] def T_Neck : ET := .agg (.cons (.int .i64) (.cons (.int .i64) (.cons (.int .i64) (.cons (.int .i64) .nil))))
@[reducible] def T_Step : ET := .agg (.cons .str (.cons (.int .i64) (.cons (.int .i64) (.cons (.sl (.one (.int .i64))) .nil))))
@[reducible] def T_Peg : ET := .agg (.cons .str (.cons (.int .i64) (.cons (.int .i64) (.cons (.int .i64) .nil))))
@[reducible] def T_Mode : ET := .agg (.cons .str (.cons (.int .i64) (.cons (.int .i64) .nil)))
@[reducible] def T_Deed : ET := .agg (.cons .str (.cons .str (.cons (.int .i64) (.cons (.int .i64) .nil))))
@[reducible] def T_Block : ET := .agg (.cons .str (.cons .str (.cons .str .nil)))
@[reducible] def T_Paper : ET := .agg (.cons .str (.cons .str (.cons (.int .i64) (.cons (.int .i64) (.cons (.int .i64) .nil)))))
@[reducible] def T_Desk : ET := .agg (.cons (.sl T_Peg) (.cons (.sl T_Mode) (.cons (.sl (.one (.sl (.one (.int .i64))))) (.cons (.int .i64) (.cons (.int .i64) (.cons (.int .i64) (.cons (.int .i64) (.cons (.sl T_Peg) (.cons (.sl T_Pot) (.cons (.sl T_Mode) (.cons (.sl T_Peg) (.cons (.sl T_Paper) .nil))))))))))))
@[reducible] def T_Arc : ET := .agg (.cons (.int .i64) (.cons (.int .i64) (.cons (.int .i64) (.cons (.int .i64) (.cons (.int .i64) (.cons (.int .i64) .nil))))))
@[reducible] def T_Entry : ET := .agg (.cons (.int .i64) (.cons .str (.cons .str (.cons (.int .i64) .nil))))
@[reducible] def T_Shop : ET := .agg (.cons (.sl T_Arc) (.cons (.sl T_Neck) (.cons (.int .i64) (.cons (.sl T_Step) (.cons (.sl (.one (.int .i64))) (.cons (.int .i64) (.cons (.sl T_Paper) (.cons (.sl T_Entry) .nil))))))))
@[reducible] def T_Setting : ET := .agg (.cons .str (.cons (.int .i64) .nil))
@[reducible] def T_Version : ET := .agg (.cons (.int .i64) (.cons (.int .i64) (.cons .str (.cons (.sl T_Setting) .nil))))
@[reducible] def T_Point : ET := .agg (.cons (.int .i64) (.cons (.int .i64) .nil))
@[reducible] def T_Grant : ET := .agg (.cons .str (.cons .str (.cons (.int .i64) .nil)))
@[reducible] def T_Role : ET := .agg (.cons .str (.cons (.sl (.one .str)) .nil))
@[reducible] def T_matching : ET := .agg (.cons (.sl T_Mode) (.cons (.sl T_Mode) (.cons (.sl (.one .bool)) (.cons (.int .i64) (.cons (.sl (.one (.int .i64))) (.cons (.int .i64) (.cons (.sl (.one (.int .i64))) (.cons (.int .i64) (.cons .bool .nil)))))))))
@[reducible] def T_cutting : ET := .agg (.cons (.sl T_Mode) (.cons (.int .i64) (.cons (.int .i64) (.cons (.sl (.one (.int .i64))) (.cons (.sl (.one (.int .i64))) (.cons (.int .i64) (.cons (.int .i64) .nil)))))))
@[reducible] def T_link : ET := .agg (.cons .bool (.cons (.int .i64) (.cons (.int .i64) .nil)))
@[reducible] def T_gluing : ET := .agg (.cons (.sl T_Pot) (.cons (.sl (.one (.int .i64))) (.cons (.sl (.one (.int .i64))) (.cons (.int .i64) (.cons (.sl (.one (.int .i64))) (.cons (.int .i64) (.cons (.sl (.one (.int .i64))) (.cons (.int .i64) (.cons .bool .nil)))))))))
@[reducible] def T_Change : ET := .agg (.cons (.int .i64) (.cons .str (.cons (.int .i64) .nil)))
@[reducible] def T_placing : ET := .agg (.cons (.sl T_Peg) (.cons (.sl (.one (.sl (.one (.int .i64))))) (.cons (.int .i64) .nil)))
@[reducible] def T_trusting : ET := .agg (.cons (.sl T_Paper) (.cons (.int .i64) (.cons (.sl (.one (.int .i64))) (.cons (.int .i64) (.cons (.sl (.one (.int .i64))) (.cons (.int .i64) .nil))))))
@[reducible] def T_l00Src : ET := .agg (.cons (.sl (.one (.int .u8))) (.cons (.int .i64) (.cons (.int .u64) .nil)))
@[reducible] def T_arguments : ET := .agg (.cons (.sl (.one (.int .i64))) (.cons (.sl (.one (.int .i64))) (.cons (.int .i64) (.cons .str .nil))))
@[reducible] def T_l14Search : ET := .agg (.cons (.sl T_Pot) (.cons (.sl (.one (.int .i64))) (.cons (.sl (.one (.int .i64))) (.cons (.sl (.one (.int .i64))) (.cons (.sl (.one (.int .i64))) (.cons (.int .i64) (.cons (.int .i64) (.cons (.int .i64) (.cons .bool .nil)))))))))
@[reducible] def T_l06Search : ET := .agg (.cons (.sl T_Mode) (.cons (.int .i64) (.cons (.int .i64) (.cons (.int .i64) (.cons (.sl (.one (.int .i64))) (.cons (.sl (.one (.int .i64))) (.cons (.int .i64) (.cons (.int .i64) (.cons .bool .nil)))))))))
@[reducible] def T_l20Search : ET := .agg (.cons (.sl T_Paper) (.cons (.sl (.one (.int .i64))) (.cons (.sl (.one (.int .i64))) (.cons (.int .i64) (.cons (.int .i64) (.cons (.int .i64) (.cons .bool .nil)))))))
@[reducible] def T_l18Search : ET := .agg (.cons (.sl T_Peg) (.cons (.sl (.one (.sl (.one (.int .i64))))) (.cons (.int .i64) (.cons (.int .i64) (.cons .bool .nil)))))
/- laws.szStack -/
def laws_szStack_ir : Fn := { np := 2, io := [], res := [.t 4], own := [false], body :=
  (.seq (.reg false [⟨some 2, true, .box 4 (.t 0), none⟩, ⟨some 4, false, .asg (.c (.int .i64 0)), none⟩] [1, 2] [2]) (.seq (.reg false [⟨some 5, false, .mv (.t 1), none⟩, ⟨some 6, false, .fa 0 (.t 2), none⟩, ⟨some 7, false, .ld none (.t 6), none⟩, ⟨some 8, false, .lens (.t 7), none⟩, ⟨some 9, false, .bin .sub (.t 5) (.t 8), none⟩, ⟨some 1, false, .asg (.t 9), none⟩] [1] []) (.seq (.seq (.reg false [⟨some 10, false, .mv (.t 1), none⟩, ⟨some 11, false, .bin .lss (.t 10) (.c (.int .i64 0)), none⟩] [1, 11] []) (.cond (.t 11) (.seq (.reg false [⟨some 4, false, .asg (.c (.int .i64 (-1))), none⟩] [4] []) .ret) .skip)) (.seq (.reg false [⟨some 12, false, .mv (.t 1), none⟩, ⟨some 4, false, .asg (.t 12), none⟩] [4] []) .ret)))) }
noncomputable def laws_szStack_D : List (Nat × Callee) := []
def laws_szStack_H : List (Nat × ET) := []
noncomputable def laws_szStack_c : Callee := mkCallee laws_szStack_D laws_szStack_H laws_szStack_ir [.d T_Peg, .d (.one (.int .i64))] [.d (.one (.int .i64))] []
noncomputable def laws_szStack (a0 : T_Peg.ty) (a1 : Int) : Option (Int) := laws_szStack_c.f (a0, a1, ())
theorem laws_szStack_eq (a0 : T_Peg.ty) (a1 : Int) : laws_szStack a0 a1 =
    if decide (IntKind.i64.wrap (a1 - (a0.1.length : Int)) < 0) then
      some (-1)
    else
      some (IntKind.i64.wrap (a1 - (a0.1.length : Int))) :=
  (mk_f _ _ _ _ _ _ _ 4000).trans (by kernel_rfl)

/- laws.szStackS -/
def laws_szStackS_k0 : C :=
  .seq (.seq (.reg false [⟨some 12, false, .mv (.t 5), none⟩, ⟨some 13, false, .mv (.t 0), none⟩, ⟨some 14, false, .len (.t 13), none⟩, ⟨some 15, false, .bin .lss (.t 12) (.t 14), none⟩] [0, 1, 5, 15] []) (.cond (.t 15) .skip (.exit 0))) (.seq (.block 1 (.seq (.reg false [⟨some 18, false, .mv (.t 0), none⟩, ⟨some 19, false, .mv (.t 5), none⟩, ⟨some 20, false, .ia 4 (.t 18) (.t 19), none⟩, ⟨some 21, false, .ld (some 4) (.t 20), none⟩, ⟨some 22, false, .mv (.t 1), none⟩, ⟨some 23, false, .call (.c (.fn 913 [])) [.t 21, .t 22], none⟩, ⟨some 1, false, .asg (.t 23), none⟩] [0, 1, 5] []) (.seq (.reg false [⟨some 24, false, .mv (.t 1), none⟩, ⟨some 25, false, .bin .lss (.t 24) (.c (.int .i64 0)), none⟩] [0, 1, 5, 25] []) (.cond (.t 25) (.seq (.reg false [⟨some 4, false, .asg (.c (.int .i64 (-1))), none⟩] [4] []) .ret) .skip)))) (.reg false [⟨some 16, false, .mv (.t 5), none⟩, ⟨some 17, false, .bin .add (.t 16) (.c (.int .i64 1)), none⟩, ⟨some 5, false, .asg (.t 17), none⟩] [0, 1, 5] []))
def laws_szStackS_k1 : C :=
  .norm [0, 1, 5] [] laws_szStackS_k0
def laws_szStackS_k2 : C :=
  .seq (.reg false [⟨some 26, false, .mv (.t 1), none⟩, ⟨some 4, false, .asg (.t 26), none⟩] [4] []) .ret
def laws_szStackS_ir : Fn := { np := 2, io := [], res := [.t 4], own := [false], body :=
  (.seq (.reg false [⟨some 4, false, .asg (.c (.int .i64 0)), none⟩] [0, 1] []) (.seq (.reg false [⟨some 6, false, .mv (.t 1), none⟩, ⟨some 7, false, .mv (.t 0), none⟩, ⟨some 8, false, .len (.t 7), none⟩, ⟨some 9, false, .bin .sub (.t 6) (.t 8), none⟩, ⟨some 1, false, .asg (.t 9), none⟩] [0, 1] []) (.seq (.seq (.reg false [⟨some 10, false, .mv (.t 1), none⟩, ⟨some 11, false, .bin .lss (.t 10) (.c (.int .i64 0)), none⟩] [0, 1, 11] []) (.cond (.t 11) (.seq (.reg false [⟨some 4, false, .asg (.c (.int .i64 (-1))), none⟩] [4] []) .ret) .skip)) (.seq (.seq (.reg false [⟨some 5, false, .asg (.c (.int .i64 0)), none⟩] [0, 1, 5] []) (.block 0 (.loop laws_szStackS_k1))) laws_szStackS_k2)))) }
noncomputable def laws_szStackS_D : List (Nat × Callee) := [(913, laws_szStack_c)]
def laws_szStackS_H : List (Nat × ET) := [(7, T_Peg), (13, T_Peg), (18, T_Peg)]
noncomputable def laws_szStackS_c : Callee := mkCallee laws_szStackS_D laws_szStackS_H laws_szStackS_ir [.d (.one (.sl T_Peg)), .d (.one (.int .i64))] [.d (.one (.int .i64))] []
noncomputable def laws_szStackS (a0 : List T_Peg.ty) (a1 : Int) : Option (Int) := laws_szStackS_c.f (a0, a1, ())
noncomputable def laws_szStackS_p0  (v0 : List T_Peg.ty) (v1 : Int) (v5 : Int) : Option (Int) :=
  goL laws_szStackS_D laws_szStackS_H (vleave laws_szStackS_ir [.d (.one (.sl T_Peg)), .d (.one (.int .i64))] [.d (.one (.int .i64))] [] []) [.c laws_szStackS_k0, .l laws_szStackS_k1, .e 0, .c laws_szStackS_k2]
    ⟨[(0, .sl T_Peg v0), (1, .int .i64 v1), (5, .int .i64 v5)], []⟩
theorem laws_szStackS_eq (a0 : List T_Peg.ty) (a1 : Int) : laws_szStackS a0 a1 =
    if decide (IntKind.i64.wrap (a1 - (a0.length : Int)) < 0) then
      some (-1)
    else
      laws_szStackS_p0 a0 (IntKind.i64.wrap (a1 - (a0.length : Int))) 0 :=
  (mk_f _ _ _ _ _ _ _ 4000).trans (by kernel_rfl)
theorem laws_szStackS_p0_eq  (v0 : List T_Peg.ty) (v1 : Int) (v5 : Int) : laws_szStackS_p0 v0 v1 v5 =
    if decide (v5 < (v0.length : Int)) then
      if decide (0 ≤ v5) then
        (v0[v5.toNat]?).bind fun x1 =>
          (laws_szStack x1 v1).bind fun x2 =>
            if decide (x2 < 0) then
              some (-1)
            else
              laws_szStackS_p0 v0 x2 (IntKind.i64.wrap (v5 + 1))
      else
        none
    else
      some v1 :=
  (goL_dn _ _ _ 4000 _ _).trans (by kernel_rfl)

/- laws.szRib -/
def laws_szRib_ir : Fn := { np := 2, io := [], res := [.t 4], own := [false], body :=
  (.seq (.reg false [⟨some 2, true, .box 3 (.t 0), none⟩, ⟨some 4, false, .asg (.c (.int .i64 0)), none⟩] [1, 2] [2]) (.seq (.reg false [⟨some 5, false, .mv (.t 1), none⟩, ⟨some 6, false, .fa 0 (.t 2), none⟩, ⟨some 7, false, .ld none (.t 6), none⟩, ⟨some 8, false, .lens (.t 7), none⟩, ⟨some 9, false, .bin .sub (.t 5) (.t 8), none⟩, ⟨some 1, false, .asg (.t 9), none⟩] [1] []) (.seq (.seq (.reg false [⟨some 10, false, .mv (.t 1), none⟩, ⟨some 11, false, .bin .lss (.t 10) (.c (.int .i64 0)), none⟩] [1, 11] []) (.cond (.t 11) (.seq (.reg false [⟨some 4, false, .asg (.c (.int .i64 (-1))), none⟩] [4] []) .ret) .skip)) (.seq (.reg false [⟨some 12, false, .mv (.t 1), none⟩, ⟨some 4, false, .asg (.t 12), none⟩] [4] []) .ret)))) }
noncomputable def laws_szRib_D : List (Nat × Callee) := []
def laws_szRib_H : List (Nat × ET) := []
noncomputable def laws_szRib_c : Callee := mkCallee laws_szRib_D laws_szRib_H laws_szRib_ir [.d T_Mode, .d (.one (.int .i64))] [.d (.one (.int .i64))] []
noncomputable def laws_szRib (a0 : T_Mode.ty) (a1 : Int) : Option (Int) := laws_szRib_c.f (a0, a1, ())
theorem laws_szRib_eq (a0 : T_Mode.ty) (a1 : Int) : laws_szRib a0 a1 =
    if decide (IntKind.i64.wrap (a1 - (a0.1.length : Int)) < 0) then
      some (-1)
    else
      some (IntKind.i64.wrap (a1 - (a0.1.length : Int))) :=
  (mk_f _ _ _ _ _ _ _ 4000).trans (by kernel_rfl)

/- laws.szRibS -/
def laws_szRibS_k0 : C :=
  .seq (.seq (.reg false [⟨some 12, false, .mv (.t 5), none⟩, ⟨some 13, false, .mv (.t 0), none⟩, ⟨some 14, false, .len (.t 13), none⟩, ⟨some 15, false, .bin .lss (.t 12) (.t 14), none⟩] [0, 1, 5, 15] []) (.cond (.t 15) .skip (.exit 0))) (.seq (.block 1 (.seq (.reg false [⟨some 18, false, .mv (.t 0), none⟩, ⟨some 19, false, .mv (.t 5), none⟩, ⟨some 20, false, .ia 3 (.t 18) (.t 19), none⟩, ⟨some 21, false, .ld (some 3) (.t 20), none⟩, ⟨some 22, false, .mv (.t 1), none⟩, ⟨some 23, false, .call (.c (.fn 914 [])) [.t 21, .t 22], none⟩, ⟨some 1, false, .asg (.t 23), none⟩] [0, 1, 5] []) (.seq (.reg false [⟨some 24, false, .mv (.t 1), none⟩, ⟨some 25, false, .bin .lss (.t 24) (.c (.int .i64 0)), none⟩] [0, 1, 5, 25] []) (.cond (.t 25) (.seq (.reg false [⟨some 4, false, .asg (.c (.int .i64 (-1))), none⟩] [4] []) .ret) .skip)))) (.reg false [⟨some 16, false, .mv (.t 5), none⟩, ⟨some 17, false, .bin .add (.t 16) (.c (.int .i64 1)), none⟩, ⟨some 5, false, .asg (.t 17), none⟩] [0, 1, 5] []))
def laws_szRibS_k1 : C :=
  .norm [0, 1, 5] [] laws_szRibS_k0
def laws_szRibS_k2 : C :=
  .seq (.reg false [⟨some 26, false, .mv (.t 1), none⟩, ⟨some 4, false, .asg (.t 26), none⟩] [4] []) .ret
def laws_szRibS_ir : Fn := { np := 2, io := [], res := [.t 4], own := [false], body :=
  (.seq (.reg false [⟨some 4, false, .asg (.c (.int .i64 0)), none⟩] [0, 1] []) (.seq (.reg false [⟨some 6, false, .mv (.t 1), none⟩, ⟨some 7, false, .mv (.t 0), none⟩, ⟨some 8, false, .len (.t 7), none⟩, ⟨some 9, false, .bin .sub (.t 6) (.t 8), none⟩, ⟨some 1, false, .asg (.t 9), none⟩] [0, 1] []) (.seq (.seq (.reg false [⟨some 10, false, .mv (.t 1), none⟩, ⟨some 11, false, .bin .lss (.t 10) (.c (.int .i64 0)), none⟩] [0, 1, 11] []) (.cond (.t 11) (.seq (.reg false [⟨some 4, false, .asg (.c (.int .i64 (-1))), none⟩] [4] []) .ret) .skip)) (.seq (.seq (.reg false [⟨some 5, false, .asg (.c (.int .i64 0)), none⟩] [0, 1, 5] []) (.block 0 (.loop laws_szRibS_k1))) laws_szRibS_k2)))) }
noncomputable def laws_szRibS_D : List (Nat × Callee) := [(914, laws_szRib_c)]
def laws_szRibS_H : List (Nat × ET) := [(7, T_Mode), (13, T_Mode), (18, T_Mode)]
noncomputable def laws_szRibS_c : Callee := mkCallee laws_szRibS_D laws_szRibS_H laws_szRibS_ir [.d (.one (.sl T_Mode)), .d (.one (.int .i64))] [.d (.one (.int .i64))] []
noncomputable def laws_szRibS (a0 : List T_Mode.ty) (a1 : Int) : Option (Int) := laws_szRibS_c.f (a0, a1, ())
noncomputable def laws_szRibS_p0  (v0 : List T_Mode.ty) (v1 : Int) (v5 : Int) : Option (Int) :=
  goL laws_szRibS_D laws_szRibS_H (vleave laws_szRibS_ir [.d (.one (.sl T_Mode)), .d (.one (.int .i64))] [.d (.one (.int .i64))] [] []) [.c laws_szRibS_k0, .l laws_szRibS_k1, .e 0, .c laws_szRibS_k2]
    ⟨[(0, .sl T_Mode v0), (1, .int .i64 v1), (5, .int .i64 v5)], []⟩
theorem laws_szRibS_eq (a0 : List T_Mode.ty) (a1 : Int) : laws_szRibS a0 a1 =
    if decide (IntKind.i64.wrap (a1 - (a0.length : Int)) < 0) then
      some (-1)
    else
      laws_szRibS_p0 a0 (IntKind.i64.wrap (a1 - (a0.length : Int))) 0 :=
  (mk_f _ _ _ _ _ _ _ 4000).trans (by kernel_rfl)
theorem laws_szRibS_p0_eq  (v0 : List T_Mode.ty) (v1 : Int) (v5 : Int) : laws_szRibS_p0 v0 v1 v5 =
    if decide (v5 < (v0.length : Int)) then
      if decide (0 ≤ v5) then
        (v0[v5.toNat]?).bind fun x1 =>
          (laws_szRib x1 v1).bind fun x2 =>
            if decide (x2 < 0) then
              some (-1)
            else
              laws_szRibS_p0 v0 x2 (IntKind.i64.wrap (v5 + 1))
      else
        none
    else
      some v1 :=
  (goL_dn _ _ _ 4000 _ _).trans (by kernel_rfl)

/- laws.szInt64S -/
def laws_szInt64S_ir : Fn := { np := 2, io := [], res := [.t 4], own := [false], body :=
  (.seq (.reg false [⟨some 4, false, .asg (.c (.int .i64 0)), none⟩] [0, 1] []) (.seq (.reg false [⟨some 5, false, .mv (.t 1), none⟩, ⟨some 6, false, .mv (.t 0), none⟩, ⟨some 7, false, .len (.t 6), none⟩, ⟨some 8, false, .bin .sub (.t 5) (.t 7), none⟩, ⟨some 1, false, .asg (.t 8), none⟩] [1] []) (.seq (.seq (.reg false [⟨some 9, false, .mv (.t 1), none⟩, ⟨some 10, false, .bin .lss (.t 9) (.c (.int .i64 0)), none⟩] [1, 10] []) (.cond (.t 10) (.seq (.reg false [⟨some 4, false, .asg (.c (.int .i64 (-1))), none⟩] [4] []) .ret) .skip)) (.seq (.reg false [⟨some 11, false, .mv (.t 1), none⟩, ⟨some 4, false, .asg (.t 11), none⟩] [4] []) .ret)))) }
noncomputable def laws_szInt64S_D : List (Nat × Callee) := []
def laws_szInt64S_H : List (Nat × ET) := [(6, (.one (.int .i64)))]
noncomputable def laws_szInt64S_c : Callee := mkCallee laws_szInt64S_D laws_szInt64S_H laws_szInt64S_ir [.d (.one (.sl (.one (.int .i64)))), .d (.one (.int .i64))] [.d (.one (.int .i64))] []
noncomputable def laws_szInt64S (a0 : List Int) (a1 : Int) : Option (Int) := laws_szInt64S_c.f (a0, a1, ())
theorem laws_szInt64S_eq (a0 : List Int) (a1 : Int) : laws_szInt64S a0 a1 =
    if decide (IntKind.i64.wrap (a1 - (a0.length : Int)) < 0) then
      some (-1)
    else
      some (IntKind.i64.wrap (a1 - (a0.length : Int))) :=
  (mk_f _ _ _ _ _ _ _ 4000).trans (by kernel_rfl)

/- laws.szInt64SS -/
def laws_szInt64SS_k0 : C :=
  .seq (.seq (.reg false [⟨some 12, false, .mv (.t 5), none⟩, ⟨some 13, false, .mv (.t 0), none⟩, ⟨some 14, false, .len (.t 13), none⟩, ⟨some 15, false, .bin .lss (.t 12) (.t 14), none⟩] [0, 1, 5, 15] []) (.cond (.t 15) .skip (.exit 0))) (.seq (.block 1 (.seq (.reg false [⟨some 18, false, .mv (.t 0), none⟩, ⟨some 19, false, .mv (.t 5), none⟩, ⟨some 20, false, .ia 1 (.t 18) (.t 19), none⟩, ⟨some 21, false, .ld none (.t 20), none⟩, ⟨some 22, false, .mv (.t 1), none⟩, ⟨some 23, false, .call (.c (.fn 598 [])) [.t 21, .t 22], none⟩, ⟨some 1, false, .asg (.t 23), none⟩] [0, 1, 5] []) (.seq (.reg false [⟨some 24, false, .mv (.t 1), none⟩, ⟨some 25, false, .bin .lss (.t 24) (.c (.int .i64 0)), none⟩] [0, 1, 5, 25] []) (.cond (.t 25) (.seq (.reg false [⟨some 4, false, .asg (.c (.int .i64 (-1))), none⟩] [4] []) .ret) .skip)))) (.reg false [⟨some 16, false, .mv (.t 5), none⟩, ⟨some 17, false, .bin .add (.t 16) (.c (.int .i64 1)), none⟩, ⟨some 5, false, .asg (.t 17), none⟩] [0, 1, 5] []))
def laws_szInt64SS_k1 : C :=
  .norm [0, 1, 5] [] laws_szInt64SS_k0
def laws_szInt64SS_k2 : C :=
  .seq (.reg false [⟨some 26, false, .mv (.t 1), none⟩, ⟨some 4, false, .asg (.t 26), none⟩] [4] []) .ret
def laws_szInt64SS_ir : Fn := { np := 2, io := [], res := [.t 4], own := [false], body :=
  (.seq (.reg false [⟨some 4, false, .asg (.c (.int .i64 0)), none⟩] [0, 1] []) (.seq (.reg false [⟨some 6, false, .mv (.t 1), none⟩, ⟨some 7, false, .mv (.t 0), none⟩, ⟨some 8, false, .len (.t 7), none⟩, ⟨some 9, false, .bin .sub (.t 6) (.t 8), none⟩, ⟨some 1, false, .asg (.t 9), none⟩] [0, 1] []) (.seq (.seq (.reg false [⟨some 10, false, .mv (.t 1), none⟩, ⟨some 11, false, .bin .lss (.t 10) (.c (.int .i64 0)), none⟩] [0, 1, 11] []) (.cond (.t 11) (.seq (.reg false [⟨some 4, false, .asg (.c (.int .i64 (-1))), none⟩] [4] []) .ret) .skip)) (.seq (.seq (.reg false [⟨some 5, false, .asg (.c (.int .i64 0)), none⟩] [0, 1, 5] []) (.block 0 (.loop laws_szInt64SS_k1))) laws_szInt64SS_k2)))) }
noncomputable def laws_szInt64SS_D : List (Nat × Callee) := [(598, laws_szInt64S_c)]
def laws_szInt64SS_H : List (Nat × ET) := [(7, (.one (.sl (.one (.int .i64))))), (13, (.one (.sl (.one (.int .i64))))), (18, (.one (.sl (.one (.int .i64))))), (21, (.one (.int .i64)))]
noncomputable def laws_szInt64SS_c : Callee := mkCallee laws_szInt64SS_D laws_szInt64SS_H laws_szInt64SS_ir [.d (.one (.sl (.one (.sl (.one (.int .i64)))))), .d (.one (.int .i64))] [.d (.one (.int .i64))] []
noncomputable def laws_szInt64SS (a0 : List (List Int)) (a1 : Int) : Option (Int) := laws_szInt64SS_c.f (a0, a1, ())
noncomputable def laws_szInt64SS_p0  (v0 : List (List Int)) (v1 : Int) (v5 : Int) : Option (Int) :=
  goL laws_szInt64SS_D laws_szInt64SS_H (vleave laws_szInt64SS_ir [.d (.one (.sl (.one (.sl (.one (.int .i64)))))), .d (.one (.int .i64))] [.d (.one (.int .i64))] [] []) [.c laws_szInt64SS_k0, .l laws_szInt64SS_k1, .e 0, .c laws_szInt64SS_k2]
    ⟨[(0, .sl (.one (.sl (.one (.int .i64)))) v0), (1, .int .i64 v1), (5, .int .i64 v5)], []⟩
theorem laws_szInt64SS_eq (a0 : List (List Int)) (a1 : Int) : laws_szInt64SS a0 a1 =
    if decide (IntKind.i64.wrap (a1 - (a0.length : Int)) < 0) then
      some (-1)
    else
      laws_szInt64SS_p0 a0 (IntKind.i64.wrap (a1 - (a0.length : Int))) 0 :=
  (mk_f _ _ _ _ _ _ _ 4000).trans (by kernel_rfl)
theorem laws_szInt64SS_p0_eq  (v0 : List (List Int)) (v1 : Int) (v5 : Int) : laws_szInt64SS_p0 v0 v1 v5 =
    if decide (v5 < (v0.length : Int)) then
      if decide (0 ≤ v5) then
        (v0[v5.toNat]?).bind fun x1 =>
          (laws_szInt64S x1 v1).bind fun x2 =>
            if decide (x2 < 0) then
              some (-1)
            else
              laws_szInt64SS_p0 v0 x2 (IntKind.i64.wrap (v5 + 1))
      else
        none
    else
      some v1 :=
  (goL_dn _ _ _ 4000 _ _).trans (by kernel_rfl)

/- laws.szPeg -/
def laws_szPeg_ir : Fn := { np := 2, io := [], res := [.t 4], own := [false], body :=
  (.seq (.reg false [⟨some 2, true, .box 4 (.t 0), none⟩, ⟨some 4, false, .asg (.c (.int .i64 0)), none⟩] [1, 2] [2]) (.seq (.reg false [⟨some 5, false, .mv (.t 1), none⟩, ⟨some 6, false, .fa 0 (.t 2), none⟩, ⟨some 7, false, .ld none (.t 6), none⟩, ⟨some 8, false, .lens (.t 7), none⟩, ⟨some 9, false, .bin .sub (.t 5) (.t 8), none⟩, ⟨some 1, false, .asg (.t 9), none⟩] [1] []) (.seq (.seq (.reg false [⟨some 10, false, .mv (.t 1), none⟩, ⟨some 11, false, .bin .lss (.t 10) (.c (.int .i64 0)), none⟩] [1, 11] []) (.cond (.t 11) (.seq (.reg false [⟨some 4, false, .asg (.c (.int .i64 (-1))), none⟩] [4] []) .ret) .skip)) (.seq (.reg false [⟨some 12, false, .mv (.t 1), none⟩, ⟨some 4, false, .asg (.t 12), none⟩] [4] []) .ret)))) }
noncomputable def laws_szPeg_D : List (Nat × Callee) := []
def laws_szPeg_H : List (Nat × ET) := []
noncomputable def laws_szPeg_c : Callee := mkCallee laws_szPeg_D laws_szPeg_H laws_szPeg_ir [.d T_Peg, .d (.one (.int .i64))] [.d (.one (.int .i64))] []
noncomputable def laws_szPeg (a0 : T_Peg.ty) (a1 : Int) : Option (Int) := laws_szPeg_c.f (a0, a1, ())
theorem laws_szPeg_eq (a0 : T_Peg.ty) (a1 : Int) : laws_szPeg a0 a1 =
    if decide (IntKind.i64.wrap (a1 - (a0.1.length : Int)) < 0) then
      some (-1)
    else
      some (IntKind.i64.wrap (a1 - (a0.1.length : Int))) :=
  (mk_f _ _ _ _ _ _ _ 4000).trans (by kernel_rfl)

/- laws.szPegS -/
def laws_szPegS_k0 : C :=
  .seq (.seq (.reg false [⟨some 12, false, .mv (.t 5), none⟩, ⟨some 13, false, .mv (.t 0), none⟩, ⟨some 14, false, .len (.t 13), none⟩, ⟨some 15, false, .bin .lss (.t 12) (.t 14), none⟩] [0, 1, 5, 15] []) (.cond (.t 15) .skip (.exit 0))) (.seq (.block 1 (.seq (.reg false [⟨some 18, false, .mv (.t 0), none⟩, ⟨some 19, false, .mv (.t 5), none⟩, ⟨some 20, false, .ia 4 (.t 18) (.t 19), none⟩, ⟨some 21, false, .ld (some 4) (.t 20), none⟩, ⟨some 22, false, .mv (.t 1), none⟩, ⟨some 23, false, .call (.c (.fn 493 [])) [.t 21, .t 22], none⟩, ⟨some 1, false, .asg (.t 23), none⟩] [0, 1, 5] []) (.seq (.reg false [⟨some 24, false, .mv (.t 1), none⟩, ⟨some 25, false, .bin .lss (.t 24) (.c (.int .i64 0)), none⟩] [0, 1, 5, 25] []) (.cond (.t 25) (.seq (.reg false [⟨some 4, false, .asg (.c (.int .i64 (-1))), none⟩] [4] []) .ret) .skip)))) (.reg false [⟨some 16, false, .mv (.t 5), none⟩, ⟨some 17, false, .bin .add (.t 16) (.c (.int .i64 1)), none⟩, ⟨some 5, false, .asg (.t 17), none⟩] [0, 1, 5] []))
def laws_szPegS_k1 : C :=
  .norm [0, 1, 5] [] laws_szPegS_k0
def laws_szPegS_k2 : C :=
  .seq (.reg false [⟨some 26, false, .mv (.t 1), none⟩, ⟨some 4, false, .asg (.t 26), none⟩] [4] []) .ret
def laws_szPegS_ir : Fn := { np := 2, io := [], res := [.t 4], own := [false], body :=
  (.seq (.reg false [⟨some 4, false, .asg (.c (.int .i64 0)), none⟩] [0, 1] []) (.seq (.reg false [⟨some 6, false, .mv (.t 1), none⟩, ⟨some 7, false, .mv (.t 0), none⟩, ⟨some 8, false, .len (.t 7), none⟩, ⟨some 9, false, .bin .sub (.t 6) (.t 8), none⟩, ⟨some 1, false, .asg (.t 9), none⟩] [0, 1] []) (.seq (.seq (.reg false [⟨some 10, false, .mv (.t 1), none⟩, ⟨some 11, false, .bin .lss (.t 10) (.c (.int .i64 0)), none⟩] [0, 1, 11] []) (.cond (.t 11) (.seq (.reg false [⟨some 4, false, .asg (.c (.int .i64 (-1))), none⟩] [4] []) .ret) .skip)) (.seq (.seq (.reg false [⟨some 5, false, .asg (.c (.int .i64 0)), none⟩] [0, 1, 5] []) (.block 0 (.loop laws_szPegS_k1))) laws_szPegS_k2)))) }
noncomputable def laws_szPegS_D : List (Nat × Callee) := [(493, laws_szPeg_c)]
def laws_szPegS_H : List (Nat × ET) := [(7, T_Peg), (13, T_Peg), (18, T_Peg)]
noncomputable def laws_szPegS_c : Callee := mkCallee laws_szPegS_D laws_szPegS_H laws_szPegS_ir [.d (.one (.sl T_Peg)), .d (.one (.int .i64))] [.d (.one (.int .i64))] []
noncomputable def laws_szPegS (a0 : List T_Peg.ty) (a1 : Int) : Option (Int) := laws_szPegS_c.f (a0, a1, ())
noncomputable def laws_szPegS_p0  (v0 : List T_Peg.ty) (v1 : Int) (v5 : Int) : Option (Int) :=
  goL laws_szPegS_D laws_szPegS_H (vleave laws_szPegS_ir [.d (.one (.sl T_Peg)), .d (.one (.int .i64))] [.d (.one (.int .i64))] [] []) [.c laws_szPegS_k0, .l laws_szPegS_k1, .e 0, .c laws_szPegS_k2]
    ⟨[(0, .sl T_Peg v0), (1, .int .i64 v1), (5, .int .i64 v5)], []⟩
theorem laws_szPegS_eq (a0 : List T_Peg.ty) (a1 : Int) : laws_szPegS a0 a1 =
    if decide (IntKind.i64.wrap (a1 - (a0.length : Int)) < 0) then
      some (-1)
    else
      laws_szPegS_p0 a0 (IntKind.i64.wrap (a1 - (a0.length : Int))) 0 :=
  (mk_f _ _ _ _ _ _ _ 4000).trans (by kernel_rfl)
theorem laws_szPegS_p0_eq  (v0 : List T_Peg.ty) (v1 : Int) (v5 : Int) : laws_szPegS_p0 v0 v1 v5 =
    if decide (v5 < (v0.length : Int)) then
      if decide (0 ≤ v5) then
        (v0[v5.toNat]?).bind fun x1 =>
          (laws_szPeg x1 v1).bind fun x2 =>
            if decide (x2 < 0) then
              some (-1)
            else
              laws_szPegS_p0 v0 x2 (IntKind.i64.wrap (v5 + 1))
      else
        none
    else
      some v1 :=
  (goL_dn _ _ _ 4000 _ _).trans (by kernel_rfl)

/- laws.szPot -/
def laws_szPot_ir : Fn := { np := 2, io := [], res := [.t 4], own := [false], body :=
  (.seq (.reg false [⟨some 2, true, .box 5 (.t 0), none⟩, ⟨some 4, false, .asg (.c (.int .i64 0)), none⟩] [1, 2] [2]) (.seq (.reg false [⟨some 5, false, .mv (.t 1), none⟩, ⟨some 6, false, .fa 0 (.t 2), none⟩, ⟨some 7, false, .ld none (.t 6), none⟩, ⟨some 8, false, .lens (.t 7), none⟩, ⟨some 9, false, .bin .sub (.t 5) (.t 8), none⟩, ⟨some 1, false, .asg (.t 9), none⟩] [1] []) (.seq (.seq (.reg false [⟨some 10, false, .mv (.t 1), none⟩, ⟨some 11, false, .bin .lss (.t 10) (.c (.int .i64 0)), none⟩] [1, 11] []) (.cond (.t 11) (.seq (.reg false [⟨some 4, false, .asg (.c (.int .i64 (-1))), none⟩] [4] []) .ret) .skip)) (.seq (.reg false [⟨some 12, false, .mv (.t 1), none⟩, ⟨some 4, false, .asg (.t 12), none⟩] [4] []) .ret)))) }
noncomputable def laws_szPot_D : List (Nat × Callee) := []
def laws_szPot_H : List (Nat × ET) := []
noncomputable def laws_szPot_c : Callee := mkCallee laws_szPot_D laws_szPot_H laws_szPot_ir [.d T_Pot, .d (.one (.int .i64))] [.d (.one (.int .i64))] []
noncomputable def laws_szPot (a0 : T_Pot.ty) (a1 : Int) : Option (Int) := laws_szPot_c.f (a0, a1, ())
theorem laws_szPot_eq (a0 : T_Pot.ty) (a1 : Int) : laws_szPot a0 a1 =
    if decide (IntKind.i64.wrap (a1 - (a0.1.length : Int)) < 0) then
      some (-1)
    else
      some (IntKind.i64.wrap (a1 - (a0.1.length : Int))) :=
  (mk_f _ _ _ _ _ _ _ 4000).trans (by kernel_rfl)

/- laws.szPotS -/
def laws_szPotS_k0 : C :=
  .seq (.seq (.reg false [⟨some 12, false, .mv (.t 5), none⟩, ⟨some 13, false, .mv (.t 0), none⟩, ⟨some 14, false, .len (.t 13), none⟩, ⟨some 15, false, .bin .lss (.t 12) (.t 14), none⟩] [0, 1, 5, 15] []) (.cond (.t 15) .skip (.exit 0))) (.seq (.block 1 (.seq (.reg false [⟨some 18, false, .mv (.t 0), none⟩, ⟨some 19, false, .mv (.t 5), none⟩, ⟨some 20, false, .ia 5 (.t 18) (.t 19), none⟩, ⟨some 21, false, .ld (some 5) (.t 20), none⟩, ⟨some 22, false, .mv (.t 1), none⟩, ⟨some 23, false, .call (.c (.fn 34 [])) [.t 21, .t 22], none⟩, ⟨some 1, false, .asg (.t 23), none⟩] [0, 1, 5] []) (.seq (.reg false [⟨some 24, false, .mv (.t 1), none⟩, ⟨some 25, false, .bin .lss (.t 24) (.c (.int .i64 0)), none⟩] [0, 1, 5, 25] []) (.cond (.t 25) (.seq (.reg false [⟨some 4, false, .asg (.c (.int .i64 (-1))), none⟩] [4] []) .ret) .skip)))) (.reg false [⟨some 16, false, .mv (.t 5), none⟩, ⟨some 17, false, .bin .add (.t 16) (.c (.int .i64 1)), none⟩, ⟨some 5, false, .asg (.t 17), none⟩] [0, 1, 5] []))
def laws_szPotS_k1 : C :=
  .norm [0, 1, 5] [] laws_szPotS_k0
def laws_szPotS_k2 : C :=
  .seq (.reg false [⟨some 26, false, .mv (.t 1), none⟩, ⟨some 4, false, .asg (.t 26), none⟩] [4] []) .ret
def laws_szPotS_ir : Fn := { np := 2, io := [], res := [.t 4], own := [false], body :=
  (.seq (.reg false [⟨some 4, false, .asg (.c (.int .i64 0)), none⟩] [0, 1] []) (.seq (.reg false [⟨some 6, false, .mv (.t 1), none⟩, ⟨some 7, false, .mv (.t 0), none⟩, ⟨some 8, false, .len (.t 7), none⟩, ⟨some 9, false, .bin .sub (.t 6) (.t 8), none⟩, ⟨some 1, false, .asg (.t 9), none⟩] [0, 1] []) (.seq (.seq (.reg false [⟨some 10, false, .mv (.t 1), none⟩, ⟨some 11, false, .bin .lss (.t 10) (.c (.int .i64 0)), none⟩] [0, 1, 11] []) (.cond (.t 11) (.seq (.reg false [⟨some 4, false, .asg (.c (.int .i64 (-1))), none⟩] [4] []) .ret) .skip)) (.seq (.seq (.reg false [⟨some 5, false, .asg (.c (.int .i64 0)), none⟩] [0, 1, 5] []) (.block 0 (.loop laws_szPotS_k1))) laws_szPotS_k2)))) }
noncomputable def laws_szPotS_D : List (Nat × Callee) := [(34, laws_szPot_c)]
def laws_szPotS_H : List (Nat × ET) := [(7, T_Pot), (13, T_Pot), (18, T_Pot)]
noncomputable def laws_szPotS_c : Callee := mkCallee laws_szPotS_D laws_szPotS_H laws_szPotS_ir [.d (.one (.sl T_Pot)), .d (.one (.int .i64))] [.d (.one (.int .i64))] []
noncomputable def laws_szPotS (a0 : List T_Pot.ty) (a1 : Int) : Option (Int) := laws_szPotS_c.f (a0, a1, ())
noncomputable def laws_szPotS_p0  (v0 : List T_Pot.ty) (v1 : Int) (v5 : Int) : Option (Int) :=
  goL laws_szPotS_D laws_szPotS_H (vleave laws_szPotS_ir [.d (.one (.sl T_Pot)), .d (.one (.int .i64))] [.d (.one (.int .i64))] [] []) [.c laws_szPotS_k0, .l laws_szPotS_k1, .e 0, .c laws_szPotS_k2]
    ⟨[(0, .sl T_Pot v0), (1, .int .i64 v1), (5, .int .i64 v5)], []⟩
theorem laws_szPotS_eq (a0 : List T_Pot.ty) (a1 : Int) : laws_szPotS a0 a1 =
    if decide (IntKind.i64.wrap (a1 - (a0.length : Int)) < 0) then
      some (-1)
    else
      laws_szPotS_p0 a0 (IntKind.i64.wrap (a1 - (a0.length : Int))) 0 :=
  (mk_f _ _ _ _ _ _ _ 4000).trans (by kernel_rfl)
theorem laws_szPotS_p0_eq  (v0 : List T_Pot.ty) (v1 : Int) (v5 : Int) : laws_szPotS_p0 v0 v1 v5 =
    if decide (v5 < (v0.length : Int)) then
      if decide (0 ≤ v5) then
        (v0[v5.toNat]?).bind fun x1 =>
          (laws_szPot x1 v1).bind fun x2 =>
            if decide (x2 < 0) then
              some (-1)
            else
              laws_szPotS_p0 v0 x2 (IntKind.i64.wrap (v5 + 1))
      else
        none
    else
      some v1 :=
  (goL_dn _ _ _ 4000 _ _).trans (by kernel_rfl)

/- laws.szMode -/
def laws_szMode_ir : Fn := { np := 2, io := [], res := [.t 4], own := [false], body :=
  (.seq (.reg false [⟨some 2, true, .box 3 (.t 0), none⟩, ⟨some 4, false, .asg (.c (.int .i64 0)), none⟩] [1, 2] [2]) (.seq (.reg false [⟨some 5, false, .mv (.t 1), none⟩, ⟨some 6, false, .fa 0 (.t 2), none⟩, ⟨some 7, false, .ld none (.t 6), none⟩, ⟨some 8, false, .lens (.t 7), none⟩, ⟨some 9, false, .bin .sub (.t 5) (.t 8), none⟩, ⟨some 1, false, .asg (.t 9), none⟩] [1] []) (.seq (.seq (.reg false [⟨some 10, false, .mv (.t 1), none⟩, ⟨some 11, false, .bin .lss (.t 10) (.c (.int .i64 0)), none⟩] [1, 11] []) (.cond (.t 11) (.seq (.reg false [⟨some 4, false, .asg (.c (.int .i64 (-1))), none⟩] [4] []) .ret) .skip)) (.seq (.reg false [⟨some 12, false, .mv (.t 1), none⟩, ⟨some 4, false, .asg (.t 12), none⟩] [4] []) .ret)))) }
noncomputable def laws_szMode_D : List (Nat × Callee) := []
def laws_szMode_H : List (Nat × ET) := []
noncomputable def laws_szMode_c : Callee := mkCallee laws_szMode_D laws_szMode_H laws_szMode_ir [.d T_Mode, .d (.one (.int .i64))] [.d (.one (.int .i64))] []
noncomputable def laws_szMode (a0 : T_Mode.ty) (a1 : Int) : Option (Int) := laws_szMode_c.f (a0, a1, ())
theorem laws_szMode_eq (a0 : T_Mode.ty) (a1 : Int) : laws_szMode a0 a1 =
    if decide (IntKind.i64.wrap (a1 - (a0.1.length : Int)) < 0) then
      some (-1)
    else
      some (IntKind.i64.wrap (a1 - (a0.1.length : Int))) :=
  (mk_f _ _ _ _ _ _ _ 4000).trans (by kernel_rfl)

/- laws.szModeS -/
def laws_szModeS_k0 : C :=
  .seq (.seq (.reg false [⟨some 12, false, .mv (.t 5), none⟩, ⟨some 13, false, .mv (.t 0), none⟩, ⟨some 14, false, .len (.t 13), none⟩, ⟨some 15, false, .bin .lss (.t 12) (.t 14), none⟩] [0, 1, 5, 15] []) (.cond (.t 15) .skip (.exit 0))) (.seq (.block 1 (.seq (.reg false [⟨some 18, false, .mv (.t 0), none⟩, ⟨some 19, false, .mv (.t 5), none⟩, ⟨some 20, false, .ia 3 (.t 18) (.t 19), none⟩, ⟨some 21, false, .ld (some 3) (.t 20), none⟩, ⟨some 22, false, .mv (.t 1), none⟩, ⟨some 23, false, .call (.c (.fn 915 [])) [.t 21, .t 22], none⟩, ⟨some 1, false, .asg (.t 23), none⟩] [0, 1, 5] []) (.seq (.reg false [⟨some 24, false, .mv (.t 1), none⟩, ⟨some 25, false, .bin .lss (.t 24) (.c (.int .i64 0)), none⟩] [0, 1, 5, 25] []) (.cond (.t 25) (.seq (.reg false [⟨some 4, false, .asg (.c (.int .i64 (-1))), none⟩] [4] []) .ret) .skip)))) (.reg false [⟨some 16, false, .mv (.t 5), none⟩, ⟨some 17, false, .bin .add (.t 16) (.c (.int .i64 1)), none⟩, ⟨some 5, false, .asg (.t 17), none⟩] [0, 1, 5] []))
def laws_szModeS_k1 : C :=
  .norm [0, 1, 5] [] laws_szModeS_k0
def laws_szModeS_k2 : C :=
  .seq (.reg false [⟨some 26, false, .mv (.t 1), none⟩, ⟨some 4, false, .asg (.t 26), none⟩] [4] []) .ret
def laws_szModeS_ir : Fn := { np := 2, io := [], res := [.t 4], own := [false], body :=
  (.seq (.reg false [⟨some 4, false, .asg (.c (.int .i64 0)), none⟩] [0, 1] []) (.seq (.reg false [⟨some 6, false, .mv (.t 1), none⟩, ⟨some 7, false, .mv (.t 0), none⟩, ⟨some 8, false, .len (.t 7), none⟩, ⟨some 9, false, .bin .sub (.t 6) (.t 8), none⟩, ⟨some 1, false, .asg (.t 9), none⟩] [0, 1] []) (.seq (.seq (.reg false [⟨some 10, false, .mv (.t 1), none⟩, ⟨some 11, false, .bin .lss (.t 10) (.c (.int .i64 0)), none⟩] [0, 1, 11] []) (.cond (.t 11) (.seq (.reg false [⟨some 4, false, .asg (.c (.int .i64 (-1))), none⟩] [4] []) .ret) .skip)) (.seq (.seq (.reg false [⟨some 5, false, .asg (.c (.int .i64 0)), none⟩] [0, 1, 5] []) (.block 0 (.loop laws_szModeS_k1))) laws_szModeS_k2)))) }
noncomputable def laws_szModeS_D : List (Nat × Callee) := [(915, laws_szMode_c)]
def laws_szModeS_H : List (Nat × ET) := [(7, T_Mode), (13, T_Mode), (18, T_Mode)]
noncomputable def laws_szModeS_c : Callee := mkCallee laws_szModeS_D laws_szModeS_H laws_szModeS_ir [.d (.one (.sl T_Mode)), .d (.one (.int .i64))] [.d (.one (.int .i64))] []
noncomputable def laws_szModeS (a0 : List T_Mode.ty) (a1 : Int) : Option (Int) := laws_szModeS_c.f (a0, a1, ())
noncomputable def laws_szModeS_p0  (v0 : List T_Mode.ty) (v1 : Int) (v5 : Int) : Option (Int) :=
  goL laws_szModeS_D laws_szModeS_H (vleave laws_szModeS_ir [.d (.one (.sl T_Mode)), .d (.one (.int .i64))] [.d (.one (.int .i64))] [] []) [.c laws_szModeS_k0, .l laws_szModeS_k1, .e 0, .c laws_szModeS_k2]
    ⟨[(0, .sl T_Mode v0), (1, .int .i64 v1), (5, .int .i64 v5)], []⟩
theorem laws_szModeS_eq (a0 : List T_Mode.ty) (a1 : Int) : laws_szModeS a0 a1 =
    if decide (IntKind.i64.wrap (a1 - (a0.length : Int)) < 0) then
      some (-1)
    else
      laws_szModeS_p0 a0 (IntKind.i64.wrap (a1 - (a0.length : Int))) 0 :=
  (mk_f _ _ _ _ _ _ _ 4000).trans (by kernel_rfl)
theorem laws_szModeS_p0_eq  (v0 : List T_Mode.ty) (v1 : Int) (v5 : Int) : laws_szModeS_p0 v0 v1 v5 =
    if decide (v5 < (v0.length : Int)) then
      if decide (0 ≤ v5) then
        (v0[v5.toNat]?).bind fun x1 =>
          (laws_szMode x1 v1).bind fun x2 =>
            if decide (x2 < 0) then
              some (-1)
            else
              laws_szModeS_p0 v0 x2 (IntKind.i64.wrap (v5 + 1))
      else
        none
    else
      some v1 :=
  (goL_dn _ _ _ 4000 _ _).trans (by kernel_rfl)

/- laws.szWork -/
def laws_szWork_ir : Fn := { np := 2, io := [], res := [.t 4], own := [false], body :=
  (.seq (.reg false [⟨some 2, true, .box 4 (.t 0), none⟩, ⟨some 4, false, .asg (.c (.int .i64 0)), none⟩] [1, 2] [2]) (.seq (.reg false [⟨some 5, false, .mv (.t 1), none⟩, ⟨some 6, false, .fa 0 (.t 2), none⟩, ⟨some 7, false, .ld none (.t 6), none⟩, ⟨some 8, false, .lens (.t 7), none⟩, ⟨some 9, false, .bin .sub (.t 5) (.t 8), none⟩, ⟨some 1, false, .asg (.t 9), none⟩] [1] []) (.seq (.seq (.reg false [⟨some 10, false, .mv (.t 1), none⟩, ⟨some 11, false, .bin .lss (.t 10) (.c (.int .i64 0)), none⟩] [1, 11] []) (.cond (.t 11) (.seq (.reg false [⟨some 4, false, .asg (.c (.int .i64 (-1))), none⟩] [4] []) .ret) .skip)) (.seq (.reg false [⟨some 12, false, .mv (.t 1), none⟩, ⟨some 4, false, .asg (.t 12), none⟩] [4] []) .ret)))) }
noncomputable def laws_szWork_D : List (Nat × Callee) := []
def laws_szWork_H : List (Nat × ET) := []
noncomputable def laws_szWork_c : Callee := mkCallee laws_szWork_D laws_szWork_H laws_szWork_ir [.d T_Peg, .d (.one (.int .i64))] [.d (.one (.int .i64))] []
noncomputable def laws_szWork (a0 : T_Peg.ty) (a1 : Int) : Option (Int) := laws_szWork_c.f (a0, a1, ())
theorem laws_szWork_eq (a0 : T_Peg.ty) (a1 : Int) : laws_szWork a0 a1 =
    if decide (IntKind.i64.wrap (a1 - (a0.1.length : Int)) < 0) then
      some (-1)
    else
      some (IntKind.i64.wrap (a1 - (a0.1.length : Int))) :=
  (mk_f _ _ _ _ _ _ _ 4000).trans (by kernel_rfl)

/- laws.szWorkS -/
def laws_szWorkS_k0 : C :=
  .seq (.seq (.reg false [⟨some 12, false, .mv (.t 5), none⟩, ⟨some 13, false, .mv (.t 0), none⟩, ⟨some 14, false, .len (.t 13), none⟩, ⟨some 15, false, .bin .lss (.t 12) (.t 14), none⟩] [0, 1, 5, 15] []) (.cond (.t 15) .skip (.exit 0))) (.seq (.block 1 (.seq (.reg false [⟨some 18, false, .mv (.t 0), none⟩, ⟨some 19, false, .mv (.t 5), none⟩, ⟨some 20, false, .ia 4 (.t 18) (.t 19), none⟩, ⟨some 21, false, .ld (some 4) (.t 20), none⟩, ⟨some 22, false, .mv (.t 1), none⟩, ⟨some 23, false, .call (.c (.fn 916 [])) [.t 21, .t 22], none⟩, ⟨some 1, false, .asg (.t 23), none⟩] [0, 1, 5] []) (.seq (.reg false [⟨some 24, false, .mv (.t 1), none⟩, ⟨some 25, false, .bin .lss (.t 24) (.c (.int .i64 0)), none⟩] [0, 1, 5, 25] []) (.cond (.t 25) (.seq (.reg false [⟨some 4, false, .asg (.c (.int .i64 (-1))), none⟩] [4] []) .ret) .skip)))) (.reg false [⟨some 16, false, .mv (.t 5), none⟩, ⟨some 17, false, .bin .add (.t 16) (.c (.int .i64 1)), none⟩, ⟨some 5, false, .asg (.t 17), none⟩] [0, 1, 5] []))
def laws_szWorkS_k1 : C :=
  .norm [0, 1, 5] [] laws_szWorkS_k0
def laws_szWorkS_k2 : C :=
  .seq (.reg false [⟨some 26, false, .mv (.t 1), none⟩, ⟨some 4, false, .asg (.t 26), none⟩] [4] []) .ret
def laws_szWorkS_ir : Fn := { np := 2, io := [], res := [.t 4], own := [false], body :=
  (.seq (.reg false [⟨some 4, false, .asg (.c (.int .i64 0)), none⟩] [0, 1] []) (.seq (.reg false [⟨some 6, false, .mv (.t 1), none⟩, ⟨some 7, false, .mv (.t 0), none⟩, ⟨some 8, false, .len (.t 7), none⟩, ⟨some 9, false, .bin .sub (.t 6) (.t 8), none⟩, ⟨some 1, false, .asg (.t 9), none⟩] [0, 1] []) (.seq (.seq (.reg false [⟨some 10, false, .mv (.t 1), none⟩, ⟨some 11, false, .bin .lss (.t 10) (.c (.int .i64 0)), none⟩] [0, 1, 11] []) (.cond (.t 11) (.seq (.reg false [⟨some 4, false, .asg (.c (.int .i64 (-1))), none⟩] [4] []) .ret) .skip)) (.seq (.seq (.reg false [⟨some 5, false, .asg (.c (.int .i64 0)), none⟩] [0, 1, 5] []) (.block 0 (.loop laws_szWorkS_k1))) laws_szWorkS_k2)))) }
noncomputable def laws_szWorkS_D : List (Nat × Callee) := [(916, laws_szWork_c)]
def laws_szWorkS_H : List (Nat × ET) := [(7, T_Peg), (13, T_Peg), (18, T_Peg)]
noncomputable def laws_szWorkS_c : Callee := mkCallee laws_szWorkS_D laws_szWorkS_H laws_szWorkS_ir [.d (.one (.sl T_Peg)), .d (.one (.int .i64))] [.d (.one (.int .i64))] []
noncomputable def laws_szWorkS (a0 : List T_Peg.ty) (a1 : Int) : Option (Int) := laws_szWorkS_c.f (a0, a1, ())
noncomputable def laws_szWorkS_p0  (v0 : List T_Peg.ty) (v1 : Int) (v5 : Int) : Option (Int) :=
  goL laws_szWorkS_D laws_szWorkS_H (vleave laws_szWorkS_ir [.d (.one (.sl T_Peg)), .d (.one (.int .i64))] [.d (.one (.int .i64))] [] []) [.c laws_szWorkS_k0, .l laws_szWorkS_k1, .e 0, .c laws_szWorkS_k2]
    ⟨[(0, .sl T_Peg v0), (1, .int .i64 v1), (5, .int .i64 v5)], []⟩
theorem laws_szWorkS_eq (a0 : List T_Peg.ty) (a1 : Int) : laws_szWorkS a0 a1 =
    if decide (IntKind.i64.wrap (a1 - (a0.length : Int)) < 0) then
      some (-1)
    else
      laws_szWorkS_p0 a0 (IntKind.i64.wrap (a1 - (a0.length : Int))) 0 :=
  (mk_f _ _ _ _ _ _ _ 4000).trans (by kernel_rfl)
theorem laws_szWorkS_p0_eq  (v0 : List T_Peg.ty) (v1 : Int) (v5 : Int) : laws_szWorkS_p0 v0 v1 v5 =
    if decide (v5 < (v0.length : Int)) then
      if decide (0 ≤ v5) then
        (v0[v5.toNat]?).bind fun x1 =>
          (laws_szWork x1 v1).bind fun x2 =>
            if decide (x2 < 0) then
              some (-1)
            else
              laws_szWorkS_p0 v0 x2 (IntKind.i64.wrap (v5 + 1))
      else
        none
    else
      some v1 :=
  (goL_dn _ _ _ 4000 _ _).trans (by kernel_rfl)

/- laws.szPaper -/
def laws_szPaper_ir : Fn := { np := 2, io := [], res := [.t 4], own := [false], body :=
  (.seq (.reg false [⟨some 2, true, .box 5 (.t 0), none⟩, ⟨some 4, false, .asg (.c (.int .i64 0)), none⟩] [1, 2] [2]) (.seq (.reg false [⟨some 5, false, .mv (.t 1), none⟩, ⟨some 6, false, .fa 0 (.t 2), none⟩, ⟨some 7, false, .ld none (.t 6), none⟩, ⟨some 8, false, .lens (.t 7), none⟩, ⟨some 9, false, .bin .sub (.t 5) (.t 8), none⟩, ⟨some 1, false, .asg (.t 9), none⟩] [1, 2] [2]) (.seq (.seq (.reg false [⟨some 10, false, .mv (.t 1), none⟩, ⟨some 11, false, .bin .lss (.t 10) (.c (.int .i64 0)), none⟩] [1, 2, 11] [2]) (.cond (.t 11) (.seq (.reg false [⟨some 4, false, .asg (.c (.int .i64 (-1))), none⟩] [4] []) .ret) .skip)) (.seq (.reg false [⟨some 12, false, .mv (.t 1), none⟩, ⟨some 13, false, .fa 1 (.t 2), none⟩, ⟨some 14, false, .ld none (.t 13), none⟩, ⟨some 15, false, .lens (.t 14), none⟩, ⟨some 16, false, .bin .sub (.t 12) (.t 15), none⟩, ⟨some 1, false, .asg (.t 16), none⟩] [1] []) (.seq (.seq (.reg false [⟨some 17, false, .mv (.t 1), none⟩, ⟨some 18, false, .bin .lss (.t 17) (.c (.int .i64 0)), none⟩] [1, 18] []) (.cond (.t 18) (.seq (.reg false [⟨some 4, false, .asg (.c (.int .i64 (-1))), none⟩] [4] []) .ret) .skip)) (.seq (.reg false [⟨some 19, false, .mv (.t 1), none⟩, ⟨some 4, false, .asg (.t 19), none⟩] [4] []) .ret)))))) }
noncomputable def laws_szPaper_D : List (Nat × Callee) := []
def laws_szPaper_H : List (Nat × ET) := []
noncomputable def laws_szPaper_c : Callee := mkCallee laws_szPaper_D laws_szPaper_H laws_szPaper_ir [.d T_Paper, .d (.one (.int .i64))] [.d (.one (.int .i64))] []
noncomputable def laws_szPaper (a0 : T_Paper.ty) (a1 : Int) : Option (Int) := laws_szPaper_c.f (a0, a1, ())
theorem laws_szPaper_eq (a0 : T_Paper.ty) (a1 : Int) : laws_szPaper a0 a1 =
    if decide (IntKind.i64.wrap (a1 - (a0.1.length : Int)) < 0) then
      some (-1)
    else
      if decide (IntKind.i64.wrap ((IntKind.i64.wrap (a1 - (a0.1.length : Int))) - (a0.2.1.length : Int)) < 0) then
        some (-1)
      else
        some (IntKind.i64.wrap ((IntKind.i64.wrap (a1 - (a0.1.length : Int))) - (a0.2.1.length : Int))) :=
  (mk_f _ _ _ _ _ _ _ 4000).trans (by kernel_rfl)

/- laws.szPaperS -/
def laws_szPaperS_k0 : C :=
  .seq (.seq (.reg false [⟨some 12, false, .mv (.t 5), none⟩, ⟨some 13, false, .mv (.t 0), none⟩, ⟨some 14, false, .len (.t 13), none⟩, ⟨some 15, false, .bin .lss (.t 12) (.t 14), none⟩] [0, 1, 5, 15] []) (.cond (.t 15) .skip (.exit 0))) (.seq (.block 1 (.seq (.reg false [⟨some 18, false, .mv (.t 0), none⟩, ⟨some 19, false, .mv (.t 5), none⟩, ⟨some 20, false, .ia 5 (.t 18) (.t 19), none⟩, ⟨some 21, false, .ld (some 5) (.t 20), none⟩, ⟨some 22, false, .mv (.t 1), none⟩, ⟨some 23, false, .call (.c (.fn 725 [])) [.t 21, .t 22], none⟩, ⟨some 1, false, .asg (.t 23), none⟩] [0, 1, 5] []) (.seq (.reg false [⟨some 24, false, .mv (.t 1), none⟩, ⟨some 25, false, .bin .lss (.t 24) (.c (.int .i64 0)), none⟩] [0, 1, 5, 25] []) (.cond (.t 25) (.seq (.reg false [⟨some 4, false, .asg (.c (.int .i64 (-1))), none⟩] [4] []) .ret) .skip)))) (.reg false [⟨some 16, false, .mv (.t 5), none⟩, ⟨some 17, false, .bin .add (.t 16) (.c (.int .i64 1)), none⟩, ⟨some 5, false, .asg (.t 17), none⟩] [0, 1, 5] []))
def laws_szPaperS_k1 : C :=
  .norm [0, 1, 5] [] laws_szPaperS_k0
def laws_szPaperS_k2 : C :=
  .seq (.reg false [⟨some 26, false, .mv (.t 1), none⟩, ⟨some 4, false, .asg (.t 26), none⟩] [4] []) .ret
def laws_szPaperS_ir : Fn := { np := 2, io := [], res := [.t 4], own := [false], body :=
  (.seq (.reg false [⟨some 4, false, .asg (.c (.int .i64 0)), none⟩] [0, 1] []) (.seq (.reg false [⟨some 6, false, .mv (.t 1), none⟩, ⟨some 7, false, .mv (.t 0), none⟩, ⟨some 8, false, .len (.t 7), none⟩, ⟨some 9, false, .bin .sub (.t 6) (.t 8), none⟩, ⟨some 1, false, .asg (.t 9), none⟩] [0, 1] []) (.seq (.seq (.reg false [⟨some 10, false, .mv (.t 1), none⟩, ⟨some 11, false, .bin .lss (.t 10) (.c (.int .i64 0)), none⟩] [0, 1, 11] []) (.cond (.t 11) (.seq (.reg false [⟨some 4, false, .asg (.c (.int .i64 (-1))), none⟩] [4] []) .ret) .skip)) (.seq (.seq (.reg false [⟨some 5, false, .asg (.c (.int .i64 0)), none⟩] [0, 1, 5] []) (.block 0 (.loop laws_szPaperS_k1))) laws_szPaperS_k2)))) }
noncomputable def laws_szPaperS_D : List (Nat × Callee) := [(725, laws_szPaper_c)]
def laws_szPaperS_H : List (Nat × ET) := [(7, T_Paper), (13, T_Paper), (18, T_Paper)]
noncomputable def laws_szPaperS_c : Callee := mkCallee laws_szPaperS_D laws_szPaperS_H laws_szPaperS_ir [.d (.one (.sl T_Paper)), .d (.one (.int .i64))] [.d (.one (.int .i64))] []
noncomputable def laws_szPaperS (a0 : List T_Paper.ty) (a1 : Int) : Option (Int) := laws_szPaperS_c.f (a0, a1, ())
noncomputable def laws_szPaperS_p0  (v0 : List T_Paper.ty) (v1 : Int) (v5 : Int) : Option (Int) :=
  goL laws_szPaperS_D laws_szPaperS_H (vleave laws_szPaperS_ir [.d (.one (.sl T_Paper)), .d (.one (.int .i64))] [.d (.one (.int .i64))] [] []) [.c laws_szPaperS_k0, .l laws_szPaperS_k1, .e 0, .c laws_szPaperS_k2]
    ⟨[(0, .sl T_Paper v0), (1, .int .i64 v1), (5, .int .i64 v5)], []⟩
theorem laws_szPaperS_eq (a0 : List T_Paper.ty) (a1 : Int) : laws_szPaperS a0 a1 =
    if decide (IntKind.i64.wrap (a1 - (a0.length : Int)) < 0) then
      some (-1)
    else
      laws_szPaperS_p0 a0 (IntKind.i64.wrap (a1 - (a0.length : Int))) 0 :=
  (mk_f _ _ _ _ _ _ _ 4000).trans (by kernel_rfl)
theorem laws_szPaperS_p0_eq  (v0 : List T_Paper.ty) (v1 : Int) (v5 : Int) : laws_szPaperS_p0 v0 v1 v5 =
    if decide (v5 < (v0.length : Int)) then
      if decide (0 ≤ v5) then
        (v0[v5.toNat]?).bind fun x1 =>
          (laws_szPaper x1 v1).bind fun x2 =>
            if decide (x2 < 0) then
              some (-1)
            else
              laws_szPaperS_p0 v0 x2 (IntKind.i64.wrap (v5 + 1))
      else
        none
    else
      some v1 :=
  (goL_dn _ _ _ 4000 _ _).trans (by kernel_rfl)

/- laws.szDesk -/
def laws_szDesk_ir : Fn := { np := 2, io := [], res := [.t 4], own := [false], body :=
  (.seq (.reg false [⟨some 2, true, .box 12 (.t 0), none⟩, ⟨some 4, false, .asg (.c (.int .i64 0)), none⟩] [1, 2] [2, 3000, 3001, 3002, 3007, 3008, 3009, 3010, 3011]) (.seq (.reg false [⟨some 5, false, .fa 0 (.t 2), none⟩, ⟨some 6, false, .ld none (.t 5), none⟩, ⟨some 7, false, .mv (.t 1), none⟩, ⟨some 8, false, .call (.c (.fn 650 [])) [.t 6, .t 7], none⟩, ⟨some 1, false, .asg (.t 8), none⟩] [1, 2] [2, 3000, 3001, 3002, 3007, 3008, 3009, 3010, 3011]) (.seq (.seq (.reg false [⟨some 9, false, .mv (.t 1), none⟩, ⟨some 10, false, .bin .lss (.t 9) (.c (.int .i64 0)), none⟩] [1, 2, 10] [2, 3000, 3001, 3002, 3007, 3008, 3009, 3010, 3011]) (.cond (.t 10) (.seq (.reg false [⟨some 4, false, .asg (.c (.int .i64 (-1))), none⟩] [4] []) .ret) .skip)) (.seq (.reg false [⟨some 11, false, .fa 1 (.t 2), none⟩, ⟨some 12, false, .ld none (.t 11), none⟩, ⟨some 13, false, .mv (.t 1), none⟩, ⟨some 14, false, .call (.c (.fn 649 [])) [.t 12, .t 13], none⟩, ⟨some 1, false, .asg (.t 14), none⟩] [1, 2] [2, 3000, 3001, 3002, 3007, 3008, 3009, 3010, 3011]) (.seq (.seq (.reg false [⟨some 15, false, .mv (.t 1), none⟩, ⟨some 16, false, .bin .lss (.t 15) (.c (.int .i64 0)), none⟩] [1, 2, 16] [2, 3000, 3001, 3002, 3007, 3008, 3009, 3010, 3011]) (.cond (.t 16) (.seq (.reg false [⟨some 4, false, .asg (.c (.int .i64 (-1))), none⟩] [4] []) .ret) .skip)) (.seq (.reg false [⟨some 17, false, .fa 2 (.t 2), none⟩, ⟨some 18, false, .ld none (.t 17), none⟩, ⟨some 19, false, .mv (.t 1), none⟩, ⟨some 20, false, .call (.c (.fn 648 [])) [.t 18, .t 19], none⟩, ⟨some 1, false, .asg (.t 20), none⟩] [1, 2] [2, 3000, 3001, 3002, 3007, 3008, 3009, 3010, 3011]) (.seq (.seq (.reg false [⟨some 21, false, .mv (.t 1), none⟩, ⟨some 22, false, .bin .lss (.t 21) (.c (.int .i64 0)), none⟩] [1, 2, 22] [2, 3000, 3001, 3002, 3007, 3008, 3009, 3010, 3011]) (.cond (.t 22) (.seq (.reg false [⟨some 4, false, .asg (.c (.int .i64 (-1))), none⟩] [4] []) .ret) .skip)) (.seq (.reg false [⟨some 23, false, .fa 7 (.t 2), none⟩, ⟨some 24, false, .ld none (.t 23), none⟩, ⟨some 25, false, .mv (.t 1), none⟩, ⟨some 26, false, .call (.c (.fn 126 [])) [.t 24, .t 25], none⟩, ⟨some 1, false, .asg (.t 26), none⟩] [1, 2] [2, 3000, 3001, 3002, 3007, 3008, 3009, 3010, 3011]) (.seq (.seq (.reg false [⟨some 27, false, .mv (.t 1), none⟩, ⟨some 28, false, .bin .lss (.t 27) (.c (.int .i64 0)), none⟩] [1, 2, 28] [2, 3000, 3001, 3002, 3007, 3008, 3009, 3010, 3011]) (.cond (.t 28) (.seq (.reg false [⟨some 4, false, .asg (.c (.int .i64 (-1))), none⟩] [4] []) .ret) .skip)) (.seq (.reg false [⟨some 29, false, .fa 8 (.t 2), none⟩, ⟨some 30, false, .ld none (.t 29), none⟩, ⟨some 31, false, .mv (.t 1), none⟩, ⟨some 32, false, .call (.c (.fn 63 [])) [.t 30, .t 31], none⟩, ⟨some 1, false, .asg (.t 32), none⟩] [1, 2] [2, 3000, 3001, 3002, 3007, 3008, 3009, 3010, 3011]) (.seq (.seq (.reg false [⟨some 33, false, .mv (.t 1), none⟩, ⟨some 34, false, .bin .lss (.t 33) (.c (.int .i64 0)), none⟩] [1, 2, 34] [2, 3000, 3001, 3002, 3007, 3008, 3009, 3010, 3011]) (.cond (.t 34) (.seq (.reg false [⟨some 4, false, .asg (.c (.int .i64 (-1))), none⟩] [4] []) .ret) .skip)) (.seq (.reg false [⟨some 35, false, .fa 9 (.t 2), none⟩, ⟨some 36, false, .ld none (.t 35), none⟩, ⟨some 37, false, .mv (.t 1), none⟩, ⟨some 38, false, .call (.c (.fn 647 [])) [.t 36, .t 37], none⟩, ⟨some 1, false, .asg (.t 38), none⟩] [1, 2] [2, 3000, 3001, 3002, 3007, 3008, 3009, 3010, 3011]) (.seq (.seq (.reg false [⟨some 39, false, .mv (.t 1), none⟩, ⟨some 40, false, .bin .lss (.t 39) (.c (.int .i64 0)), none⟩] [1, 2, 40] [2, 3000, 3001, 3002, 3007, 3008, 3009, 3010, 3011]) (.cond (.t 40) (.seq (.reg false [⟨some 4, false, .asg (.c (.int .i64 (-1))), none⟩] [4] []) .ret) .skip)) (.seq (.reg false [⟨some 41, false, .fa 10 (.t 2), none⟩, ⟨some 42, false, .ld none (.t 41), none⟩, ⟨some 43, false, .mv (.t 1), none⟩, ⟨some 44, false, .call (.c (.fn 646 [])) [.t 42, .t 43], none⟩, ⟨some 1, false, .asg (.t 44), none⟩] [1, 2] [2, 3000, 3001, 3002, 3007, 3008, 3009, 3010, 3011]) (.seq (.seq (.reg false [⟨some 45, false, .mv (.t 1), none⟩, ⟨some 46, false, .bin .lss (.t 45) (.c (.int .i64 0)), none⟩] [1, 2, 46] [2, 3000, 3001, 3002, 3007, 3008, 3009, 3010, 3011]) (.cond (.t 46) (.seq (.reg false [⟨some 4, false, .asg (.c (.int .i64 (-1))), none⟩] [4] []) .ret) .skip)) (.seq (.reg false [⟨some 47, false, .fa 11 (.t 2), none⟩, ⟨some 48, false, .ld none (.t 47), none⟩, ⟨some 49, false, .mv (.t 1), none⟩, ⟨some 50, false, .call (.c (.fn 300 [])) [.t 48, .t 49], none⟩, ⟨some 1, false, .asg (.t 50), none⟩] [1] []) (.seq (.seq (.reg false [⟨some 51, false, .mv (.t 1), none⟩, ⟨some 52, false, .bin .lss (.t 51) (.c (.int .i64 0)), none⟩] [1, 52] []) (.cond (.t 52) (.seq (.reg false [⟨some 4, false, .asg (.c (.int .i64 (-1))), none⟩] [4] []) .ret) .skip)) (.seq (.reg false [⟨some 53, false, .mv (.t 1), none⟩, ⟨some 4, false, .asg (.t 53), none⟩] [4] []) .ret)))))))))))))))))) }
noncomputable def laws_szDesk_D : List (Nat × Callee) := [(63, laws_szPotS_c), (126, laws_szPegS_c), (300, laws_szPaperS_c), (646, laws_szWorkS_c), (647, laws_szModeS_c), (648, laws_szInt64SS_c), (649, laws_szRibS_c), (650, laws_szStackS_c)]
def laws_szDesk_H : List (Nat × ET) := [(6, T_Peg), (12, T_Mode), (18, (.one (.sl (.one (.int .i64))))), (24, T_Peg), (30, T_Pot), (36, T_Mode), (42, T_Peg), (48, T_Paper)]
noncomputable def laws_szDesk_c : Callee := mkCallee laws_szDesk_D laws_szDesk_H laws_szDesk_ir [.d T_Desk, .d (.one (.int .i64))] [.d (.one (.int .i64))] []
noncomputable def laws_szDesk (a0 : T_Desk.ty) (a1 : Int) : Option (Int) := laws_szDesk_c.f (a0, a1, ())
theorem laws_szDesk_eq (a0 : T_Desk.ty) (a1 : Int) : laws_szDesk a0 a1 =
    (laws_szStackS a0.1 a1).bind fun x1 =>
      if decide (x1 < 0) then
        some (-1)
      else
        (laws_szRibS a0.2.1 x1).bind fun x2 =>
          if decide (x2 < 0) then
            some (-1)
          else
            (laws_szInt64SS a0.2.2.1 x2).bind fun x3 =>
              if decide (x3 < 0) then
                some (-1)
              else
                (laws_szPegS a0.2.2.2.2.2.2.2.1 x3).bind fun x4 =>
                  if decide (x4 < 0) then
                    some (-1)
                  else
                    (laws_szPotS a0.2.2.2.2.2.2.2.2.1 x4).bind fun x5 =>
                      if decide (x5 < 0) then
                        some (-1)
                      else
                        (laws_szModeS a0.2.2.2.2.2.2.2.2.2.1 x5).bind fun x6 =>
                          if decide (x6 < 0) then
                            some (-1)
                          else
                            (laws_szWorkS a0.2.2.2.2.2.2.2.2.2.2.1 x6).bind fun x7 =>
                              if decide (x7 < 0) then
                                some (-1)
                              else
                                (laws_szPaperS a0.2.2.2.2.2.2.2.2.2.2.2.1 x7).bind fun x8 =>
                                  if decide (x8 < 0) then
                                    some (-1)
                                  else
                                    some x8 :=
  (mk_f _ _ _ _ _ _ _ 4000).trans (by kernel_rfl)

/- laws.toStack -/
def laws_toStack_ir : Fn := { np := 1, io := [], res := [.cell 2 (some 4)], own := [false], body :=
  (.seq (.reg false [⟨some 1, true, .box 4 (.t 0), none⟩, ⟨some 2, true, .alloc 4 (.agg [.str [], .int .i64 0, .int .i64 0, .int .i64 0]), none⟩] [1, 2] [1, 2]) (.seq (.reg false [⟨some 3, true, .alloc 4 (.agg [.str [], .int .i64 0, .int .i64 0, .int .i64 0]), none⟩] [1, 2, 3] [1, 2, 3]) (.seq (.reg false [⟨some 4, false, .fa 0 (.t 1), none⟩, ⟨some 5, false, .ld none (.t 4), none⟩, ⟨some 6, false, .fa 0 (.t 3), none⟩, ⟨none, true, .sto 1 (.t 6) (.t 5), none⟩] [1, 2, 3] [1, 2, 3]) (.seq (.reg false [⟨some 7, false, .fa 1 (.t 1), none⟩, ⟨some 8, false, .ld none (.t 7), none⟩, ⟨some 9, false, .fa 1 (.t 3), none⟩, ⟨none, true, .sto 1 (.t 9) (.t 8), none⟩] [1, 2, 3] [1, 2, 3]) (.seq (.reg false [⟨some 10, false, .fa 2 (.t 1), none⟩, ⟨some 11, false, .ld none (.t 10), none⟩, ⟨some 12, false, .fa 2 (.t 3), none⟩, ⟨none, true, .sto 1 (.t 12) (.t 11), none⟩] [1, 2, 3] [1, 2, 3]) (.seq (.reg false [⟨some 13, false, .fa 3 (.t 1), none⟩, ⟨some 14, false, .ld none (.t 13), none⟩, ⟨some 15, false, .fa 3 (.t 3), none⟩, ⟨none, true, .sto 1 (.t 15) (.t 14), none⟩] [2, 3] [2, 3]) (.seq (.reg false [⟨some 16, false, .ld (some 4) (.t 3), none⟩, ⟨none, true, .sto 4 (.t 2) (.t 16), none⟩] [2] [2]) .ret))))))) }
noncomputable def laws_toStack_D : List (Nat × Callee) := []
def laws_toStack_H : List (Nat × ET) := []
noncomputable def laws_toStack_c : Callee := mkCallee laws_toStack_D laws_toStack_H laws_toStack_ir [.d T_Peg] [.d T_Peg] []
noncomputable def laws_toStack (a0 : T_Peg.ty) : Option (T_Peg.ty) := laws_toStack_c.f (a0, ())
theorem laws_toStack_eq (a0 : T_Peg.ty) : laws_toStack a0 =
    some a0 :=
  (mk_f _ _ _ _ _ _ _ 4000).trans (by kernel_rfl)

/- laws.toStackS -/
def laws_toStackS_k0 : C :=
  .seq (.seq (.reg false [⟨some 8, false, .mv (.t 4), none⟩, ⟨some 9, false, .mv (.t 0), none⟩, ⟨some 10, false, .len (.t 9), none⟩, ⟨some 11, false, .bin .lss (.t 8) (.t 10), none⟩] [0, 3, 4, 11] [3]) (.cond (.t 11) .skip (.exit 0))) (.seq (.block 1 (.reg false [⟨some 14, false, .mv (.t 3), none⟩, ⟨some 15, false, .mv (.t 4), none⟩, ⟨some 16, false, .mv (.t 0), none⟩, ⟨some 17, false, .mv (.t 4), none⟩, ⟨some 18, false, .ia 4 (.t 16) (.t 17), none⟩, ⟨some 19, false, .ld (some 4) (.t 18), none⟩, ⟨some 20, false, .call (.c (.fn 917 [])) [.t 19], none⟩, ⟨some 21, false, .ia 4 (.t 14) (.t 15), none⟩, ⟨none, true, .sto 4 (.t 21) (.t 20), none⟩] [0, 3, 4] [3])) (.reg false [⟨some 12, false, .mv (.t 4), none⟩, ⟨some 13, false, .bin .add (.t 12) (.c (.int .i64 1)), none⟩, ⟨some 4, false, .asg (.t 13), none⟩] [0, 3, 4] [3]))
def laws_toStackS_k1 : C :=
  .norm [0, 3, 4] [3] laws_toStackS_k0
def laws_toStackS_k2 : C :=
  .seq (.reg false [⟨some 22, false, .mv (.t 3), none⟩, ⟨some 2, true, .asg (.t 22), none⟩] [2] [2, 3]) .ret
def laws_toStackS_ir : Fn := { np := 1, io := [], res := [.t 2], own := [true], body :=
  (.seq (.reg false [⟨some 2, true, .asg (.c (.nils 4)), none⟩] [0] []) (.seq (.reg false [⟨some 5, false, .mv (.t 0), none⟩, ⟨some 6, false, .len (.t 5), none⟩, ⟨some 7, false, .mks 4 40 (.agg [.str [], .int .i64 0, .int .i64 0, .int .i64 0]) (.t 6) (.t 6), none⟩, ⟨some 3, true, .asg (.t 7), none⟩] [0, 3] [3]) (.seq (.seq (.reg false [⟨some 4, false, .asg (.c (.int .i64 0)), none⟩] [0, 3, 4] [3]) (.block 0 (.loop laws_toStackS_k1))) laws_toStackS_k2))) }
noncomputable def laws_toStackS_D : List (Nat × Callee) := [(917, laws_toStack_c)]
def laws_toStackS_H : List (Nat × ET) := [(2, T_Peg), (3, T_Peg), (5, T_Peg), (7, T_Peg), (9, T_Peg), (14, T_Peg), (16, T_Peg), (22, T_Peg)]
noncomputable def laws_toStackS_c : Callee := mkCallee laws_toStackS_D laws_toStackS_H laws_toStackS_ir [.d (.one (.sl T_Peg))] [.tok T_Peg] []
noncomputable def laws_toStackS (a0 : List T_Peg.ty) : Option (List T_Peg.ty) := laws_toStackS_c.f (a0, ())
noncomputable def laws_toStackS_p0  (v0 : List T_Peg.ty) (v3n : Nat) (v4 : Int) (r3 : List T_Peg.ty) : Option (List T_Peg.ty) :=
  goL laws_toStackS_D laws_toStackS_H (vleave laws_toStackS_ir [.d (.one (.sl T_Peg))] [.tok T_Peg] [] []) [.c laws_toStackS_k0, .l laws_toStackS_k1, .e 0, .c laws_toStackS_k2]
    ⟨[(0, .sl T_Peg v0), (3, .view 3 0 v3n), (4, .int .i64 v4)], [(3, some (.sl T_Peg r3))]⟩
theorem laws_toStackS_eq (a0 : List T_Peg.ty) : laws_toStackS a0 =
    if decide (0 ≤ (a0.length : Int)) && decide ((a0.length : Int) ≤ (a0.length : Int)) && decide ((a0.length : Int) < (lim : Int)) then
      laws_toStackS_p0 a0 ((List.replicate ((a0.length : Int).toNat) (([], 0, 0, 0, ()) : T_Peg.ty)).length) 0 (List.replicate ((a0.length : Int).toNat) (([], 0, 0, 0, ()) : T_Peg.ty))
    else
      none :=
  (mk_f _ _ _ _ _ _ _ 4000).trans (by kernel_rfl)
theorem laws_toStackS_p0_eq  (v0 : List T_Peg.ty) (v3n : Nat) (v4 : Int) (r3 : List T_Peg.ty) : laws_toStackS_p0 v0 v3n v4 r3 =
    if decide (v4 < (v0.length : Int)) then
      if decide (0 ≤ v4) then
        (v0[v4.toNat]?).bind fun x1 =>
          (laws_toStack x1).bind fun x2 =>
            if decide (0 ≤ v4) && decide (v4 < (v3n : Int)) then
              (r3[v4.toNat]?).bind fun x3 =>
                laws_toStackS_p0 v0 v3n (IntKind.i64.wrap (v4 + 1)) (r3.set v4.toNat x2)
            else
              none
      else
        none
    else
      some (r3.take v3n) :=
  (goL_dn _ _ _ 4000 _ _).trans (by kernel_rfl)

/- laws.toRib -/
def laws_toRib_ir : Fn := { np := 1, io := [], res := [.cell 2 (some 3)], own := [false], body :=
  (.seq (.reg false [⟨some 1, true, .box 3 (.t 0), none⟩, ⟨some 2, true, .alloc 3 (.agg [.str [], .int .i64 0, .int .i64 0]), none⟩] [1, 2] [1, 2]) (.seq (.reg false [⟨some 3, true, .alloc 3 (.agg [.str [], .int .i64 0, .int .i64 0]), none⟩] [1, 2, 3] [1, 2, 3]) (.seq (.reg false [⟨some 4, false, .fa 0 (.t 1), none⟩, ⟨some 5, false, .ld none (.t 4), none⟩, ⟨some 6, false, .fa 0 (.t 3), none⟩, ⟨none, true, .sto 1 (.t 6) (.t 5), none⟩] [1, 2, 3] [1, 2, 3]) (.seq (.reg false [⟨some 7, false, .fa 1 (.t 1), none⟩, ⟨some 8, false, .ld none (.t 7), none⟩, ⟨some 9, false, .fa 1 (.t 3), none⟩, ⟨none, true, .sto 1 (.t 9) (.t 8), none⟩] [1, 2, 3] [1, 2, 3]) (.seq (.reg false [⟨some 10, false, .fa 2 (.t 1), none⟩, ⟨some 11, false, .ld none (.t 10), none⟩, ⟨some 12, false, .fa 2 (.t 3), none⟩, ⟨none, true, .sto 1 (.t 12) (.t 11), none⟩] [2, 3] [2, 3]) (.seq (.reg false [⟨some 13, false, .ld (some 3) (.t 3), none⟩, ⟨none, true, .sto 3 (.t 2) (.t 13), none⟩] [2] [2]) .ret)))))) }
noncomputable def laws_toRib_D : List (Nat × Callee) := []
def laws_toRib_H : List (Nat × ET) := []
noncomputable def laws_toRib_c : Callee := mkCallee laws_toRib_D laws_toRib_H laws_toRib_ir [.d T_Mode] [.d T_Mode] []
noncomputable def laws_toRib (a0 : T_Mode.ty) : Option (T_Mode.ty) := laws_toRib_c.f (a0, ())
theorem laws_toRib_eq (a0 : T_Mode.ty) : laws_toRib a0 =
    some a0 :=
  (mk_f _ _ _ _ _ _ _ 4000).trans (by kernel_rfl)

/- laws.toRibS -/
def laws_toRibS_k0 : C :=
  .seq (.seq (.reg false [⟨some 8, false, .mv (.t 4), none⟩, ⟨some 9, false, .mv (.t 0), none⟩, ⟨some 10, false, .len (.t 9), none⟩, ⟨some 11, false, .bin .lss (.t 8) (.t 10), none⟩] [0, 3, 4, 11] [3]) (.cond (.t 11) .skip (.exit 0))) (.seq (.block 1 (.reg false [⟨some 14, false, .mv (.t 3), none⟩, ⟨some 15, false, .mv (.t 4), none⟩, ⟨some 16, false, .mv (.t 0), none⟩, ⟨some 17, false, .mv (.t 4), none⟩, ⟨some 18, false, .ia 3 (.t 16) (.t 17), none⟩, ⟨some 19, false, .ld (some 3) (.t 18), none⟩, ⟨some 20, false, .call (.c (.fn 918 [])) [.t 19], none⟩, ⟨some 21, false, .ia 3 (.t 14) (.t 15), none⟩, ⟨none, true, .sto 3 (.t 21) (.t 20), none⟩] [0, 3, 4] [3])) (.reg false [⟨some 12, false, .mv (.t 4), none⟩, ⟨some 13, false, .bin .add (.t 12) (.c (.int .i64 1)), none⟩, ⟨some 4, false, .asg (.t 13), none⟩] [0, 3, 4] [3]))
def laws_toRibS_k1 : C :=
  .norm [0, 3, 4] [3] laws_toRibS_k0
def laws_toRibS_k2 : C :=
  .seq (.reg false [⟨some 22, false, .mv (.t 3), none⟩, ⟨some 2, true, .asg (.t 22), none⟩] [2] [2, 3]) .ret
def laws_toRibS_ir : Fn := { np := 1, io := [], res := [.t 2], own := [true], body :=
  (.seq (.reg false [⟨some 2, true, .asg (.c (.nils 3)), none⟩] [0] []) (.seq (.reg false [⟨some 5, false, .mv (.t 0), none⟩, ⟨some 6, false, .len (.t 5), none⟩, ⟨some 7, false, .mks 3 32 (.agg [.str [], .int .i64 0, .int .i64 0]) (.t 6) (.t 6), none⟩, ⟨some 3, true, .asg (.t 7), none⟩] [0, 3] [3]) (.seq (.seq (.reg false [⟨some 4, false, .asg (.c (.int .i64 0)), none⟩] [0, 3, 4] [3]) (.block 0 (.loop laws_toRibS_k1))) laws_toRibS_k2))) }
noncomputable def laws_toRibS_D : List (Nat × Callee) := [(918, laws_toRib_c)]
def laws_toRibS_H : List (Nat × ET) := [(2, T_Mode), (3, T_Mode), (5, T_Mode), (7, T_Mode), (9, T_Mode), (14, T_Mode), (16, T_Mode), (22, T_Mode)]
noncomputable def laws_toRibS_c : Callee := mkCallee laws_toRibS_D laws_toRibS_H laws_toRibS_ir [.d (.one (.sl T_Mode))] [.tok T_Mode] []
noncomputable def laws_toRibS (a0 : List T_Mode.ty) : Option (List T_Mode.ty) := laws_toRibS_c.f (a0, ())
noncomputable def laws_toRibS_p0  (v0 : List T_Mode.ty) (v3n : Nat) (v4 : Int) (r3 : List T_Mode.ty) : Option (List T_Mode.ty) :=
  goL laws_toRibS_D laws_toRibS_H (vleave laws_toRibS_ir [.d (.one (.sl T_Mode))] [.tok T_Mode] [] []) [.c laws_toRibS_k0, .l laws_toRibS_k1, .e 0, .c laws_toRibS_k2]
    ⟨[(0, .sl T_Mode v0), (3, .view 3 0 v3n), (4, .int .i64 v4)], [(3, some (.sl T_Mode r3))]⟩
theorem laws_toRibS_eq (a0 : List T_Mode.ty) : laws_toRibS a0 =
    if decide (0 ≤ (a0.length : Int)) && decide ((a0.length : Int) ≤ (a0.length : Int)) && decide ((a0.length : Int) < (lim : Int)) then
      laws_toRibS_p0 a0 ((List.replicate ((a0.length : Int).toNat) (([], 0, 0, ()) : T_Mode.ty)).length) 0 (List.replicate ((a0.length : Int).toNat) (([], 0, 0, ()) : T_Mode.ty))
    else
      none :=
  (mk_f _ _ _ _ _ _ _ 4000).trans (by kernel_rfl)
theorem laws_toRibS_p0_eq  (v0 : List T_Mode.ty) (v3n : Nat) (v4 : Int) (r3 : List T_Mode.ty) : laws_toRibS_p0 v0 v3n v4 r3 =
    if decide (v4 < (v0.length : Int)) then
      if decide (0 ≤ v4) then
        (v0[v4.toNat]?).bind fun x1 =>
          (laws_toRib x1).bind fun x2 =>
            if decide (0 ≤ v4) && decide (v4 < (v3n : Int)) then
              (r3[v4.toNat]?).bind fun x3 =>
                laws_toRibS_p0 v0 v3n (IntKind.i64.wrap (v4 + 1)) (r3.set v4.toNat x2)
            else
              none
      else
        none
    else
      some (r3.take v3n) :=
  (goL_dn _ _ _ 4000 _ _).trans (by kernel_rfl)

/- laws.toInt64S -/
def laws_toInt64S_k0 : C :=
  .seq (.seq (.reg false [⟨some 8, false, .mv (.t 4), none⟩, ⟨some 9, false, .mv (.t 0), none⟩, ⟨some 10, false, .len (.t 9), none⟩, ⟨some 11, false, .bin .lss (.t 8) (.t 10), none⟩] [0, 3, 4, 11] [3]) (.cond (.t 11) .skip (.exit 0))) (.seq (.block 1 (.reg false [⟨some 14, false, .mv (.t 3), none⟩, ⟨some 15, false, .mv (.t 4), none⟩, ⟨some 16, false, .mv (.t 0), none⟩, ⟨some 17, false, .mv (.t 4), none⟩, ⟨some 18, false, .ia 1 (.t 16) (.t 17), none⟩, ⟨some 19, false, .ld none (.t 18), none⟩, ⟨some 20, false, .ia 1 (.t 14) (.t 15), none⟩, ⟨none, true, .sto 1 (.t 20) (.t 19), none⟩] [0, 3, 4] [3])) (.reg false [⟨some 12, false, .mv (.t 4), none⟩, ⟨some 13, false, .bin .add (.t 12) (.c (.int .i64 1)), none⟩, ⟨some 4, false, .asg (.t 13), none⟩] [0, 3, 4] [3]))
def laws_toInt64S_k1 : C :=
  .norm [0, 3, 4] [3] laws_toInt64S_k0
def laws_toInt64S_k2 : C :=
  .seq (.reg false [⟨some 21, false, .mv (.t 3), none⟩, ⟨some 2, true, .asg (.t 21), none⟩] [2] [2, 3]) .ret
def laws_toInt64S_ir : Fn := { np := 1, io := [], res := [.t 2], own := [true], body :=
  (.seq (.reg false [⟨some 2, true, .asg (.c (.nils 1)), none⟩] [0] []) (.seq (.reg false [⟨some 5, false, .mv (.t 0), none⟩, ⟨some 6, false, .len (.t 5), none⟩, ⟨some 7, false, .mks 1 8 (.int .i64 0) (.t 6) (.t 6), none⟩, ⟨some 3, true, .asg (.t 7), none⟩] [0, 3] [3]) (.seq (.seq (.reg false [⟨some 4, false, .asg (.c (.int .i64 0)), none⟩] [0, 3, 4] [3]) (.block 0 (.loop laws_toInt64S_k1))) laws_toInt64S_k2))) }
noncomputable def laws_toInt64S_D : List (Nat × Callee) := []
def laws_toInt64S_H : List (Nat × ET) := [(2, (.one (.int .i64))), (3, (.one (.int .i64))), (5, (.one (.int .i64))), (7, (.one (.int .i64))), (9, (.one (.int .i64))), (14, (.one (.int .i64))), (16, (.one (.int .i64))), (21, (.one (.int .i64)))]
noncomputable def laws_toInt64S_c : Callee := mkCallee laws_toInt64S_D laws_toInt64S_H laws_toInt64S_ir [.d (.one (.sl (.one (.int .i64))))] [.tok (.one (.int .i64))] []
noncomputable def laws_toInt64S (a0 : List Int) : Option (List Int) := laws_toInt64S_c.f (a0, ())
noncomputable def laws_toInt64S_p0  (v0 : List Int) (v3n : Nat) (v4 : Int) (r3 : List Int) : Option (List Int) :=
  goL laws_toInt64S_D laws_toInt64S_H (vleave laws_toInt64S_ir [.d (.one (.sl (.one (.int .i64))))] [.tok (.one (.int .i64))] [] []) [.c laws_toInt64S_k0, .l laws_toInt64S_k1, .e 0, .c laws_toInt64S_k2]
    ⟨[(0, .sl (.one (.int .i64)) v0), (3, .view 3 0 v3n), (4, .int .i64 v4)], [(3, some (.sl (.one (.int .i64)) r3))]⟩
theorem laws_toInt64S_eq (a0 : List Int) : laws_toInt64S a0 =
    if decide (0 ≤ (a0.length : Int)) && decide ((a0.length : Int) ≤ (a0.length : Int)) && decide ((a0.length : Int) < (lim : Int)) then
      laws_toInt64S_p0 a0 ((List.replicate ((a0.length : Int).toNat) (0 : Int)).length) 0 (List.replicate ((a0.length : Int).toNat) (0 : Int))
    else
      none :=
  (mk_f _ _ _ _ _ _ _ 4000).trans (by kernel_rfl)
theorem laws_toInt64S_p0_eq  (v0 : List Int) (v3n : Nat) (v4 : Int) (r3 : List Int) : laws_toInt64S_p0 v0 v3n v4 r3 =
    if decide (v4 < (v0.length : Int)) then
      if decide (0 ≤ v4) then
        (v0[v4.toNat]?).bind fun x1 =>
          if decide (0 ≤ v4) && decide (v4 < (v3n : Int)) then
            (r3[v4.toNat]?).bind fun x2 =>
              laws_toInt64S_p0 v0 v3n (IntKind.i64.wrap (v4 + 1)) (r3.set v4.toNat x1)
          else
            none
      else
        none
    else
      some (r3.take v3n) :=
  (goL_dn _ _ _ 4000 _ _).trans (by kernel_rfl)

/- laws.toInt64SS -/
def laws_toInt64SS_k0 : C :=
  .seq (.seq (.reg false [⟨some 8, false, .mv (.t 4), none⟩, ⟨some 9, false, .mv (.t 0), none⟩, ⟨some 10, false, .len (.t 9), none⟩, ⟨some 11, false, .bin .lss (.t 8) (.t 10), none⟩] [0, 3, 4, 11] [3]) (.cond (.t 11) .skip (.exit 0))) (.seq (.block 1 (.reg false [⟨some 14, false, .mv (.t 3), none⟩, ⟨some 15, false, .mv (.t 4), none⟩, ⟨some 16, false, .mv (.t 0), none⟩, ⟨some 17, false, .mv (.t 4), none⟩, ⟨some 18, false, .ia 1 (.t 16) (.t 17), none⟩, ⟨some 19, false, .ld none (.t 18), none⟩, ⟨some 20, false, .call (.c (.fn 121 [])) [.t 19], none⟩, ⟨some 21, false, .ia 1 (.t 14) (.t 15), none⟩, ⟨none, true, .sto 1 (.t 21) (.t 20), none⟩] [0, 3, 4] [3])) (.reg false [⟨some 12, false, .mv (.t 4), none⟩, ⟨some 13, false, .bin .add (.t 12) (.c (.int .i64 1)), none⟩, ⟨some 4, false, .asg (.t 13), none⟩] [0, 3, 4] [3]))
def laws_toInt64SS_k1 : C :=
  .norm [0, 3, 4] [3] laws_toInt64SS_k0
def laws_toInt64SS_k2 : C :=
  .seq (.reg false [⟨some 22, false, .mv (.t 3), none⟩, ⟨some 2, true, .asg (.t 22), none⟩] [2] [2, 3]) .ret
def laws_toInt64SS_ir : Fn := { np := 1, io := [], res := [.t 2], own := [false], body :=
  (.seq (.reg false [⟨some 2, true, .asg (.c (.nils 1)), none⟩] [0] []) (.seq (.reg false [⟨some 5, false, .mv (.t 0), none⟩, ⟨some 6, false, .len (.t 5), none⟩, ⟨some 7, false, .mks 1 24 (.sl 1 []) (.t 6) (.t 6), none⟩, ⟨some 3, true, .asg (.t 7), none⟩] [0, 3] [3]) (.seq (.seq (.reg false [⟨some 4, false, .asg (.c (.int .i64 0)), none⟩] [0, 3, 4] [3]) (.block 0 (.loop laws_toInt64SS_k1))) laws_toInt64SS_k2))) }
noncomputable def laws_toInt64SS_D : List (Nat × Callee) := [(121, laws_toInt64S_c)]
def laws_toInt64SS_H : List (Nat × ET) := [(2, (.one (.sl (.one (.int .i64))))), (3, (.one (.sl (.one (.int .i64))))), (5, (.one (.sl (.one (.int .i64))))), (7, (.one (.sl (.one (.int .i64))))), (9, (.one (.sl (.one (.int .i64))))), (14, (.one (.sl (.one (.int .i64))))), (16, (.one (.sl (.one (.int .i64))))), (19, (.one (.int .i64))), (20, (.one (.int .i64))), (22, (.one (.sl (.one (.int .i64)))))]
noncomputable def laws_toInt64SS_c : Callee := mkCallee laws_toInt64SS_D laws_toInt64SS_H laws_toInt64SS_ir [.d (.one (.sl (.one (.sl (.one (.int .i64))))))] [.d (.one (.sl (.one (.sl (.one (.int .i64))))))] []
noncomputable def laws_toInt64SS (a0 : List (List Int)) : Option (List (List Int)) := laws_toInt64SS_c.f (a0, ())
noncomputable def laws_toInt64SS_p0  (v0 : List (List Int)) (v3n : Nat) (v4 : Int) (r3 : List (List Int)) : Option (List (List Int)) :=
  goL laws_toInt64SS_D laws_toInt64SS_H (vleave laws_toInt64SS_ir [.d (.one (.sl (.one (.sl (.one (.int .i64))))))] [.d (.one (.sl (.one (.sl (.one (.int .i64))))))] [] []) [.c laws_toInt64SS_k0, .l laws_toInt64SS_k1, .e 0, .c laws_toInt64SS_k2]
    ⟨[(0, .sl (.one (.sl (.one (.int .i64)))) v0), (3, .view 3 0 v3n), (4, .int .i64 v4)], [(3, some (.sl (.one (.sl (.one (.int .i64)))) r3))]⟩
theorem laws_toInt64SS_eq (a0 : List (List Int)) : laws_toInt64SS a0 =
    if decide (0 ≤ (a0.length : Int)) && decide ((a0.length : Int) ≤ (a0.length : Int)) && decide ((a0.length : Int) < (lim : Int)) then
      laws_toInt64SS_p0 a0 ((List.replicate ((a0.length : Int).toNat) ([] : List Int)).length) 0 (List.replicate ((a0.length : Int).toNat) ([] : List Int))
    else
      none :=
  (mk_f _ _ _ _ _ _ _ 4000).trans (by kernel_rfl)
theorem laws_toInt64SS_p0_eq  (v0 : List (List Int)) (v3n : Nat) (v4 : Int) (r3 : List (List Int)) : laws_toInt64SS_p0 v0 v3n v4 r3 =
    if decide (v4 < (v0.length : Int)) then
      if decide (0 ≤ v4) then
        (v0[v4.toNat]?).bind fun x1 =>
          (laws_toInt64S x1).bind fun x2 =>
            if decide (0 ≤ v4) && decide (v4 < (v3n : Int)) then
              (r3[v4.toNat]?).bind fun x3 =>
                laws_toInt64SS_p0 v0 v3n (IntKind.i64.wrap (v4 + 1)) (r3.set v4.toNat x2)
            else
              none
      else
        none
    else
      some (r3.take v3n) :=
  (goL_dn _ _ _ 4000 _ _).trans (by kernel_rfl)

/- laws.toNeck -/
def laws_toNeck_ir : Fn := { np := 1, io := [], res := [.cell 2 (some 4)], own := [false], body :=
  (.seq (.reg false [⟨some 1, true, .box 4 (.t 0), none⟩, ⟨some 2, true, .alloc 4 (.agg [.int .i64 0, .int .i64 0, .int .i64 0, .int .i64 0]), none⟩] [1, 2] [1, 2]) (.seq (.reg false [⟨some 3, true, .alloc 4 (.agg [.int .i64 0, .int .i64 0, .int .i64 0, .int .i64 0]), none⟩] [1, 2, 3] [1, 2, 3]) (.seq (.reg false [⟨some 4, false, .fa 0 (.t 1), none⟩, ⟨some 5, false, .ld none (.t 4), none⟩, ⟨some 6, false, .fa 0 (.t 3), none⟩, ⟨none, true, .sto 1 (.t 6) (.t 5), none⟩] [1, 2, 3] [1, 2, 3]) (.seq (.reg false [⟨some 7, false, .fa 1 (.t 1), none⟩, ⟨some 8, false, .ld none (.t 7), none⟩, ⟨some 9, false, .fa 1 (.t 3), none⟩, ⟨none, true, .sto 1 (.t 9) (.t 8), none⟩] [1, 2, 3] [1, 2, 3]) (.seq (.reg false [⟨some 10, false, .fa 2 (.t 1), none⟩, ⟨some 11, false, .ld none (.t 10), none⟩, ⟨some 12, false, .fa 2 (.t 3), none⟩, ⟨none, true, .sto 1 (.t 12) (.t 11), none⟩] [1, 2, 3] [1, 2, 3]) (.seq (.reg false [⟨some 13, false, .fa 3 (.t 1), none⟩, ⟨some 14, false, .ld none (.t 13), none⟩, ⟨some 15, false, .fa 3 (.t 3), none⟩, ⟨none, true, .sto 1 (.t 15) (.t 14), none⟩] [2, 3] [2, 3]) (.seq (.reg false [⟨some 16, false, .ld (some 4) (.t 3), none⟩, ⟨none, true, .sto 4 (.t 2) (.t 16), none⟩] [2] [2]) .ret))))))) }
noncomputable def laws_toNeck_D : List (Nat × Callee) := []
def laws_toNeck_H : List (Nat × ET) := []
noncomputable def laws_toNeck_c : Callee := mkCallee laws_toNeck_D laws_toNeck_H laws_toNeck_ir [.d T_Neck] [.d T_Neck] []
noncomputable def laws_toNeck (a0 : T_Neck.ty) : Option (T_Neck.ty) := laws_toNeck_c.f (a0, ())
theorem laws_toNeck_eq (a0 : T_Neck.ty) : laws_toNeck a0 =
    some a0 :=
  (mk_f _ _ _ _ _ _ _ 4000).trans (by kernel_rfl)

/- laws.toPeg -/
def laws_toPeg_ir : Fn := { np := 1, io := [], res := [.cell 2 (some 4)], own := [false], body :=
  (.seq (.reg false [⟨some 1, true, .box 4 (.t 0), none⟩, ⟨some 2, true, .alloc 4 (.agg [.str [], .int .i64 0, .int .i64 0, .int .i64 0]), none⟩] [1, 2] [1, 2]) (.seq (.reg false [⟨some 3, true, .alloc 4 (.agg [.str [], .int .i64 0, .int .i64 0, .int .i64 0]), none⟩] [1, 2, 3] [1, 2, 3]) (.seq (.reg false [⟨some 4, false, .fa 0 (.t 1), none⟩, ⟨some 5, false, .ld none (.t 4), none⟩, ⟨some 6, false, .fa 0 (.t 3), none⟩, ⟨none, true, .sto 1 (.t 6) (.t 5), none⟩] [1, 2, 3] [1, 2, 3]) (.seq (.reg false [⟨some 7, false, .fa 1 (.t 1), none⟩, ⟨some 8, false, .ld none (.t 7), none⟩, ⟨some 9, false, .fa 1 (.t 3), none⟩, ⟨none, true, .sto 1 (.t 9) (.t 8), none⟩] [1, 2, 3] [1, 2, 3]) (.seq (.reg false [⟨some 10, false, .fa 2 (.t 1), none⟩, ⟨some 11, false, .ld none (.t 10), none⟩, ⟨some 12, false, .fa 2 (.t 3), none⟩, ⟨none, true, .sto 1 (.t 12) (.t 11), none⟩] [1, 2, 3] [1, 2, 3]) (.seq (.reg false [⟨some 13, false, .fa 3 (.t 1), none⟩, ⟨some 14, false, .ld none (.t 13), none⟩, ⟨some 15, false, .fa 3 (.t 3), none⟩, ⟨none, true, .sto 1 (.t 15) (.t 14), none⟩] [2, 3] [2, 3]) (.seq (.reg false [⟨some 16, false, .ld (some 4) (.t 3), none⟩, ⟨none, true, .sto 4 (.t 2) (.t 16), none⟩] [2] [2]) .ret))))))) }
noncomputable def laws_toPeg_D : List (Nat × Callee) := []
def laws_toPeg_H : List (Nat × ET) := []
noncomputable def laws_toPeg_c : Callee := mkCallee laws_toPeg_D laws_toPeg_H laws_toPeg_ir [.d T_Peg] [.d T_Peg] []
noncomputable def laws_toPeg (a0 : T_Peg.ty) : Option (T_Peg.ty) := laws_toPeg_c.f (a0, ())
theorem laws_toPeg_eq (a0 : T_Peg.ty) : laws_toPeg a0 =
    some a0 :=
  (mk_f _ _ _ _ _ _ _ 4000).trans (by kernel_rfl)

/- laws.toPegS -/
def laws_toPegS_k0 : C :=
  .seq (.seq (.reg false [⟨some 8, false, .mv (.t 4), none⟩, ⟨some 9, false, .mv (.t 0), none⟩, ⟨some 10, false, .len (.t 9), none⟩, ⟨some 11, false, .bin .lss (.t 8) (.t 10), none⟩] [0, 3, 4, 11] [3]) (.cond (.t 11) .skip (.exit 0))) (.seq (.block 1 (.reg false [⟨some 14, false, .mv (.t 3), none⟩, ⟨some 15, false, .mv (.t 4), none⟩, ⟨some 16, false, .mv (.t 0), none⟩, ⟨some 17, false, .mv (.t 4), none⟩, ⟨some 18, false, .ia 4 (.t 16) (.t 17), none⟩, ⟨some 19, false, .ld (some 4) (.t 18), none⟩, ⟨some 20, false, .call (.c (.fn 498 [])) [.t 19], none⟩, ⟨some 21, false, .ia 4 (.t 14) (.t 15), none⟩, ⟨none, true, .sto 4 (.t 21) (.t 20), none⟩] [0, 3, 4] [3])) (.reg false [⟨some 12, false, .mv (.t 4), none⟩, ⟨some 13, false, .bin .add (.t 12) (.c (.int .i64 1)), none⟩, ⟨some 4, false, .asg (.t 13), none⟩] [0, 3, 4] [3]))
def laws_toPegS_k1 : C :=
  .norm [0, 3, 4] [3] laws_toPegS_k0
def laws_toPegS_k2 : C :=
  .seq (.reg false [⟨some 22, false, .mv (.t 3), none⟩, ⟨some 2, true, .asg (.t 22), none⟩] [2] [2, 3]) .ret
def laws_toPegS_ir : Fn := { np := 1, io := [], res := [.t 2], own := [true], body :=
  (.seq (.reg false [⟨some 2, true, .asg (.c (.nils 4)), none⟩] [0] []) (.seq (.reg false [⟨some 5, false, .mv (.t 0), none⟩, ⟨some 6, false, .len (.t 5), none⟩, ⟨some 7, false, .mks 4 40 (.agg [.str [], .int .i64 0, .int .i64 0, .int .i64 0]) (.t 6) (.t 6), none⟩, ⟨some 3, true, .asg (.t 7), none⟩] [0, 3] [3]) (.seq (.seq (.reg false [⟨some 4, false, .asg (.c (.int .i64 0)), none⟩] [0, 3, 4] [3]) (.block 0 (.loop laws_toPegS_k1))) laws_toPegS_k2))) }
noncomputable def laws_toPegS_D : List (Nat × Callee) := [(498, laws_toPeg_c)]
def laws_toPegS_H : List (Nat × ET) := [(2, T_Peg), (3, T_Peg), (5, T_Peg), (7, T_Peg), (9, T_Peg), (14, T_Peg), (16, T_Peg), (22, T_Peg)]
noncomputable def laws_toPegS_c : Callee := mkCallee laws_toPegS_D laws_toPegS_H laws_toPegS_ir [.d (.one (.sl T_Peg))] [.tok T_Peg] []
noncomputable def laws_toPegS (a0 : List T_Peg.ty) : Option (List T_Peg.ty) := laws_toPegS_c.f (a0, ())
noncomputable def laws_toPegS_p0  (v0 : List T_Peg.ty) (v3n : Nat) (v4 : Int) (r3 : List T_Peg.ty) : Option (List T_Peg.ty) :=
  goL laws_toPegS_D laws_toPegS_H (vleave laws_toPegS_ir [.d (.one (.sl T_Peg))] [.tok T_Peg] [] []) [.c laws_toPegS_k0, .l laws_toPegS_k1, .e 0, .c laws_toPegS_k2]
    ⟨[(0, .sl T_Peg v0), (3, .view 3 0 v3n), (4, .int .i64 v4)], [(3, some (.sl T_Peg r3))]⟩
theorem laws_toPegS_eq (a0 : List T_Peg.ty) : laws_toPegS a0 =
    if decide (0 ≤ (a0.length : Int)) && decide ((a0.length : Int) ≤ (a0.length : Int)) && decide ((a0.length : Int) < (lim : Int)) then
      laws_toPegS_p0 a0 ((List.replicate ((a0.length : Int).toNat) (([], 0, 0, 0, ()) : T_Peg.ty)).length) 0 (List.replicate ((a0.length : Int).toNat) (([], 0, 0, 0, ()) : T_Peg.ty))
    else
      none :=
  (mk_f _ _ _ _ _ _ _ 4000).trans (by kernel_rfl)
theorem laws_toPegS_p0_eq  (v0 : List T_Peg.ty) (v3n : Nat) (v4 : Int) (r3 : List T_Peg.ty) : laws_toPegS_p0 v0 v3n v4 r3 =
    if decide (v4 < (v0.length : Int)) then
      if decide (0 ≤ v4) then
        (v0[v4.toNat]?).bind fun x1 =>
          (laws_toPeg x1).bind fun x2 =>
            if decide (0 ≤ v4) && decide (v4 < (v3n : Int)) then
              (r3[v4.toNat]?).bind fun x3 =>
                laws_toPegS_p0 v0 v3n (IntKind.i64.wrap (v4 + 1)) (r3.set v4.toNat x2)
            else
              none
      else
        none
    else
      some (r3.take v3n) :=
  (goL_dn _ _ _ 4000 _ _).trans (by kernel_rfl)

/- laws.toPot -/
def laws_toPot_ir : Fn := { np := 1, io := [], res := [.cell 2 (some 5)], own := [false], body :=
  (.seq (.reg false [⟨some 1, true, .box 5 (.t 0), none⟩, ⟨some 2, true, .alloc 5 (.agg [.str [], .int .i64 0, .int .i64 0, .int .i64 0, .int .i64 0]), none⟩] [1, 2] [1, 2]) (.seq (.reg false [⟨some 3, true, .alloc 5 (.agg [.str [], .int .i64 0, .int .i64 0, .int .i64 0, .int .i64 0]), none⟩] [1, 2, 3] [1, 2, 3]) (.seq (.reg false [⟨some 4, false, .fa 0 (.t 1), none⟩, ⟨some 5, false, .ld none (.t 4), none⟩, ⟨some 6, false, .fa 0 (.t 3), none⟩, ⟨none, true, .sto 1 (.t 6) (.t 5), none⟩] [1, 2, 3] [1, 2, 3]) (.seq (.reg false [⟨some 7, false, .fa 1 (.t 1), none⟩, ⟨some 8, false, .ld none (.t 7), none⟩, ⟨some 9, false, .fa 1 (.t 3), none⟩, ⟨none, true, .sto 1 (.t 9) (.t 8), none⟩] [1, 2, 3] [1, 2, 3]) (.seq (.reg false [⟨some 10, false, .fa 2 (.t 1), none⟩, ⟨some 11, false, .ld none (.t 10), none⟩, ⟨some 12, false, .fa 2 (.t 3), none⟩, ⟨none, true, .sto 1 (.t 12) (.t 11), none⟩] [1, 2, 3] [1, 2, 3]) (.seq (.reg false [⟨some 13, false, .fa 3 (.t 1), none⟩, ⟨some 14, false, .ld none (.t 13), none⟩, ⟨some 15, false, .fa 3 (.t 3), none⟩, ⟨none, true, .sto 1 (.t 15) (.t 14), none⟩] [1, 2, 3] [1, 2, 3]) (.seq (.reg false [⟨some 16, false, .fa 4 (.t 1), none⟩, ⟨some 17, false, .ld none (.t 16), none⟩, ⟨some 18, false, .fa 4 (.t 3), none⟩, ⟨none, true, .sto 1 (.t 18) (.t 17), none⟩] [2, 3] [2, 3]) (.seq (.reg false [⟨some 19, false, .ld (some 5) (.t 3), none⟩, ⟨none, true, .sto 5 (.t 2) (.t 19), none⟩] [2] [2]) .ret)))))))) }
noncomputable def laws_toPot_D : List (Nat × Callee) := []
def laws_toPot_H : List (Nat × ET) := []
noncomputable def laws_toPot_c : Callee := mkCallee laws_toPot_D laws_toPot_H laws_toPot_ir [.d T_Pot] [.d T_Pot] []
noncomputable def laws_toPot (a0 : T_Pot.ty) : Option (T_Pot.ty) := laws_toPot_c.f (a0, ())
theorem laws_toPot_eq (a0 : T_Pot.ty) : laws_toPot a0 =
    some a0 :=
  (mk_f _ _ _ _ _ _ _ 4000).trans (by kernel_rfl)

/- laws.toPotS -/
def laws_toPotS_k0 : C :=
  .seq (.seq (.reg false [⟨some 8, false, .mv (.t 4), none⟩, ⟨some 9, false, .mv (.t 0), none⟩, ⟨some 10, false, .len (.t 9), none⟩, ⟨some 11, false, .bin .lss (.t 8) (.t 10), none⟩] [0, 3, 4, 11] [3]) (.cond (.t 11) .skip (.exit 0))) (.seq (.block 1 (.reg false [⟨some 14, false, .mv (.t 3), none⟩, ⟨some 15, false, .mv (.t 4), none⟩, ⟨some 16, false, .mv (.t 0), none⟩, ⟨some 17, false, .mv (.t 4), none⟩, ⟨some 18, false, .ia 5 (.t 16) (.t 17), none⟩, ⟨some 19, false, .ld (some 5) (.t 18), none⟩, ⟨some 20, false, .call (.c (.fn 31 [])) [.t 19], none⟩, ⟨some 21, false, .ia 5 (.t 14) (.t 15), none⟩, ⟨none, true, .sto 5 (.t 21) (.t 20), none⟩] [0, 3, 4] [3])) (.reg false [⟨some 12, false, .mv (.t 4), none⟩, ⟨some 13, false, .bin .add (.t 12) (.c (.int .i64 1)), none⟩, ⟨some 4, false, .asg (.t 13), none⟩] [0, 3, 4] [3]))
def laws_toPotS_k1 : C :=
  .norm [0, 3, 4] [3] laws_toPotS_k0
def laws_toPotS_k2 : C :=
  .seq (.reg false [⟨some 22, false, .mv (.t 3), none⟩, ⟨some 2, true, .asg (.t 22), none⟩] [2] [2, 3]) .ret
def laws_toPotS_ir : Fn := { np := 1, io := [], res := [.t 2], own := [true], body :=
  (.seq (.reg false [⟨some 2, true, .asg (.c (.nils 5)), none⟩] [0] []) (.seq (.reg false [⟨some 5, false, .mv (.t 0), none⟩, ⟨some 6, false, .len (.t 5), none⟩, ⟨some 7, false, .mks 5 48 (.agg [.str [], .int .i64 0, .int .i64 0, .int .i64 0, .int .i64 0]) (.t 6) (.t 6), none⟩, ⟨some 3, true, .asg (.t 7), none⟩] [0, 3] [3]) (.seq (.seq (.reg false [⟨some 4, false, .asg (.c (.int .i64 0)), none⟩] [0, 3, 4] [3]) (.block 0 (.loop laws_toPotS_k1))) laws_toPotS_k2))) }
noncomputable def laws_toPotS_D : List (Nat × Callee) := [(31, laws_toPot_c)]
def laws_toPotS_H : List (Nat × ET) := [(2, T_Pot), (3, T_Pot), (5, T_Pot), (7, T_Pot), (9, T_Pot), (14, T_Pot), (16, T_Pot), (22, T_Pot)]
noncomputable def laws_toPotS_c : Callee := mkCallee laws_toPotS_D laws_toPotS_H laws_toPotS_ir [.d (.one (.sl T_Pot))] [.tok T_Pot] []
noncomputable def laws_toPotS (a0 : List T_Pot.ty) : Option (List T_Pot.ty) := laws_toPotS_c.f (a0, ())
noncomputable def laws_toPotS_p0  (v0 : List T_Pot.ty) (v3n : Nat) (v4 : Int) (r3 : List T_Pot.ty) : Option (List T_Pot.ty) :=
  goL laws_toPotS_D laws_toPotS_H (vleave laws_toPotS_ir [.d (.one (.sl T_Pot))] [.tok T_Pot] [] []) [.c laws_toPotS_k0, .l laws_toPotS_k1, .e 0, .c laws_toPotS_k2]
    ⟨[(0, .sl T_Pot v0), (3, .view 3 0 v3n), (4, .int .i64 v4)], [(3, some (.sl T_Pot r3))]⟩
theorem laws_toPotS_eq (a0 : List T_Pot.ty) : laws_toPotS a0 =
    if decide (0 ≤ (a0.length : Int)) && decide ((a0.length : Int) ≤ (a0.length : Int)) && decide ((a0.length : Int) < (lim : Int)) then
      laws_toPotS_p0 a0 ((List.replicate ((a0.length : Int).toNat) (([], 0, 0, 0, 0, ()) : T_Pot.ty)).length) 0 (List.replicate ((a0.length : Int).toNat) (([], 0, 0, 0, 0, ()) : T_Pot.ty))
    else
      none :=
  (mk_f _ _ _ _ _ _ _ 4000).trans (by kernel_rfl)
theorem laws_toPotS_p0_eq  (v0 : List T_Pot.ty) (v3n : Nat) (v4 : Int) (r3 : List T_Pot.ty) : laws_toPotS_p0 v0 v3n v4 r3 =
    if decide (v4 < (v0.length : Int)) then
      if decide (0 ≤ v4) then
        (v0[v4.toNat]?).bind fun x1 =>
          (laws_toPot x1).bind fun x2 =>
            if decide (0 ≤ v4) && decide (v4 < (v3n : Int)) then
              (r3[v4.toNat]?).bind fun x3 =>
                laws_toPotS_p0 v0 v3n (IntKind.i64.wrap (v4 + 1)) (r3.set v4.toNat x2)
            else
              none
      else
        none
    else
      some (r3.take v3n) :=
  (goL_dn _ _ _ 4000 _ _).trans (by kernel_rfl)

/- laws.toMode -/
def laws_toMode_ir : Fn := { np := 1, io := [], res := [.cell 2 (some 3)], own := [false], body :=
  (.seq (.reg false [⟨some 1, true, .box 3 (.t 0), none⟩, ⟨some 2, true, .alloc 3 (.agg [.str [], .int .i64 0, .int .i64 0]), none⟩] [1, 2] [1, 2]) (.seq (.reg false [⟨some 3, true, .alloc 3 (.agg [.str [], .int .i64 0, .int .i64 0]), none⟩] [1, 2, 3] [1, 2, 3]) (.seq (.reg false [⟨some 4, false, .fa 0 (.t 1), none⟩, ⟨some 5, false, .ld none (.t 4), none⟩, ⟨some 6, false, .fa 0 (.t 3), none⟩, ⟨none, true, .sto 1 (.t 6) (.t 5), none⟩] [1, 2, 3] [1, 2, 3]) (.seq (.reg false [⟨some 7, false, .fa 1 (.t 1), none⟩, ⟨some 8, false, .ld none (.t 7), none⟩, ⟨some 9, false, .fa 1 (.t 3), none⟩, ⟨none, true, .sto 1 (.t 9) (.t 8), none⟩] [1, 2, 3] [1, 2, 3]) (.seq (.reg false [⟨some 10, false, .fa 2 (.t 1), none⟩, ⟨some 11, false, .ld none (.t 10), none⟩, ⟨some 12, false, .fa 2 (.t 3), none⟩, ⟨none, true, .sto 1 (.t 12) (.t 11), none⟩] [2, 3] [2, 3]) (.seq (.reg false [⟨some 13, false, .ld (some 3) (.t 3), none⟩, ⟨none, true, .sto 3 (.t 2) (.t 13), none⟩] [2] [2]) .ret)))))) }
noncomputable def laws_toMode_D : List (Nat × Callee) := []
def laws_toMode_H : List (Nat × ET) := []
noncomputable def laws_toMode_c : Callee := mkCallee laws_toMode_D laws_toMode_H laws_toMode_ir [.d T_Mode] [.d T_Mode] []
noncomputable def laws_toMode (a0 : T_Mode.ty) : Option (T_Mode.ty) := laws_toMode_c.f (a0, ())
theorem laws_toMode_eq (a0 : T_Mode.ty) : laws_toMode a0 =
    some a0 :=
  (mk_f _ _ _ _ _ _ _ 4000).trans (by kernel_rfl)

/- laws.toModeS -/
def laws_toModeS_k0 : C :=
  .seq (.seq (.reg false [⟨some 8, false, .mv (.t 4), none⟩, ⟨some 9, false, .mv (.t 0), none⟩, ⟨some 10, false, .len (.t 9), none⟩, ⟨some 11, false, .bin .lss (.t 8) (.t 10), none⟩] [0, 3, 4, 11] [3]) (.cond (.t 11) .skip (.exit 0))) (.seq (.block 1 (.reg false [⟨some 14, false, .mv (.t 3), none⟩, ⟨some 15, false, .mv (.t 4), none⟩, ⟨some 16, false, .mv (.t 0), none⟩, ⟨some 17, false, .mv (.t 4), none⟩, ⟨some 18, false, .ia 3 (.t 16) (.t 17), none⟩, ⟨some 19, false, .ld (some 3) (.t 18), none⟩, ⟨some 20, false, .call (.c (.fn 919 [])) [.t 19], none⟩, ⟨some 21, false, .ia 3 (.t 14) (.t 15), none⟩, ⟨none, true, .sto 3 (.t 21) (.t 20), none⟩] [0, 3, 4] [3])) (.reg false [⟨some 12, false, .mv (.t 4), none⟩, ⟨some 13, false, .bin .add (.t 12) (.c (.int .i64 1)), none⟩, ⟨some 4, false, .asg (.t 13), none⟩] [0, 3, 4] [3]))
def laws_toModeS_k1 : C :=
  .norm [0, 3, 4] [3] laws_toModeS_k0
def laws_toModeS_k2 : C :=
  .seq (.reg false [⟨some 22, false, .mv (.t 3), none⟩, ⟨some 2, true, .asg (.t 22), none⟩] [2] [2, 3]) .ret
def laws_toModeS_ir : Fn := { np := 1, io := [], res := [.t 2], own := [true], body :=
  (.seq (.reg false [⟨some 2, true, .asg (.c (.nils 3)), none⟩] [0] []) (.seq (.reg false [⟨some 5, false, .mv (.t 0), none⟩, ⟨some 6, false, .len (.t 5), none⟩, ⟨some 7, false, .mks 3 32 (.agg [.str [], .int .i64 0, .int .i64 0]) (.t 6) (.t 6), none⟩, ⟨some 3, true, .asg (.t 7), none⟩] [0, 3] [3]) (.seq (.seq (.reg false [⟨some 4, false, .asg (.c (.int .i64 0)), none⟩] [0, 3, 4] [3]) (.block 0 (.loop laws_toModeS_k1))) laws_toModeS_k2))) }
noncomputable def laws_toModeS_D : List (Nat × Callee) := [(919, laws_toMode_c)]
def laws_toModeS_H : List (Nat × ET) := [(2, T_Mode), (3, T_Mode), (5, T_Mode), (7, T_Mode), (9, T_Mode), (14, T_Mode), (16, T_Mode), (22, T_Mode)]
noncomputable def laws_toModeS_c : Callee := mkCallee laws_toModeS_D laws_toModeS_H laws_toModeS_ir [.d (.one (.sl T_Mode))] [.tok T_Mode] []
noncomputable def laws_toModeS (a0 : List T_Mode.ty) : Option (List T_Mode.ty) := laws_toModeS_c.f (a0, ())
noncomputable def laws_toModeS_p0  (v0 : List T_Mode.ty) (v3n : Nat) (v4 : Int) (r3 : List T_Mode.ty) : Option (List T_Mode.ty) :=
  goL laws_toModeS_D laws_toModeS_H (vleave laws_toModeS_ir [.d (.one (.sl T_Mode))] [.tok T_Mode] [] []) [.c laws_toModeS_k0, .l laws_toModeS_k1, .e 0, .c laws_toModeS_k2]
    ⟨[(0, .sl T_Mode v0), (3, .view 3 0 v3n), (4, .int .i64 v4)], [(3, some (.sl T_Mode r3))]⟩
theorem laws_toModeS_eq (a0 : List T_Mode.ty) : laws_toModeS a0 =
    if decide (0 ≤ (a0.length : Int)) && decide ((a0.length : Int) ≤ (a0.length : Int)) && decide ((a0.length : Int) < (lim : Int)) then
      laws_toModeS_p0 a0 ((List.replicate ((a0.length : Int).toNat) (([], 0, 0, ()) : T_Mode.ty)).length) 0 (List.replicate ((a0.length : Int).toNat) (([], 0, 0, ()) : T_Mode.ty))
    else
      none :=
  (mk_f _ _ _ _ _ _ _ 4000).trans (by kernel_rfl)
theorem laws_toModeS_p0_eq  (v0 : List T_Mode.ty) (v3n : Nat) (v4 : Int) (r3 : List T_Mode.ty) : laws_toModeS_p0 v0 v3n v4 r3 =
    if decide (v4 < (v0.length : Int)) then
      if decide (0 ≤ v4) then
        (v0[v4.toNat]?).bind fun x1 =>
          (laws_toMode x1).bind fun x2 =>
            if decide (0 ≤ v4) && decide (v4 < (v3n : Int)) then
              (r3[v4.toNat]?).bind fun x3 =>
                laws_toModeS_p0 v0 v3n (IntKind.i64.wrap (v4 + 1)) (r3.set v4.toNat x2)
            else
              none
      else
        none
    else
      some (r3.take v3n) :=
  (goL_dn _ _ _ 4000 _ _).trans (by kernel_rfl)

/- laws.toWork -/
def laws_toWork_ir : Fn := { np := 1, io := [], res := [.cell 2 (some 4)], own := [false], body :=
  (.seq (.reg false [⟨some 1, true, .box 4 (.t 0), none⟩, ⟨some 2, true, .alloc 4 (.agg [.str [], .int .i64 0, .int .i64 0, .int .i64 0]), none⟩] [1, 2] [1, 2]) (.seq (.reg false [⟨some 3, true, .alloc 4 (.agg [.str [], .int .i64 0, .int .i64 0, .int .i64 0]), none⟩] [1, 2, 3] [1, 2, 3]) (.seq (.reg false [⟨some 4, false, .fa 0 (.t 1), none⟩, ⟨some 5, false, .ld none (.t 4), none⟩, ⟨some 6, false, .fa 0 (.t 3), none⟩, ⟨none, true, .sto 1 (.t 6) (.t 5), none⟩] [1, 2, 3] [1, 2, 3]) (.seq (.reg false [⟨some 7, false, .fa 1 (.t 1), none⟩, ⟨some 8, false, .ld none (.t 7), none⟩, ⟨some 9, false, .fa 1 (.t 3), none⟩, ⟨none, true, .sto 1 (.t 9) (.t 8), none⟩] [1, 2, 3] [1, 2, 3]) (.seq (.reg false [⟨some 10, false, .fa 2 (.t 1), none⟩, ⟨some 11, false, .ld none (.t 10), none⟩, ⟨some 12, false, .fa 2 (.t 3), none⟩, ⟨none, true, .sto 1 (.t 12) (.t 11), none⟩] [1, 2, 3] [1, 2, 3]) (.seq (.reg false [⟨some 13, false, .fa 3 (.t 1), none⟩, ⟨some 14, false, .ld none (.t 13), none⟩, ⟨some 15, false, .fa 3 (.t 3), none⟩, ⟨none, true, .sto 1 (.t 15) (.t 14), none⟩] [2, 3] [2, 3]) (.seq (.reg false [⟨some 16, false, .ld (some 4) (.t 3), none⟩, ⟨none, true, .sto 4 (.t 2) (.t 16), none⟩] [2] [2]) .ret))))))) }
noncomputable def laws_toWork_D : List (Nat × Callee) := []
def laws_toWork_H : List (Nat × ET) := []
noncomputable def laws_toWork_c : Callee := mkCallee laws_toWork_D laws_toWork_H laws_toWork_ir [.d T_Peg] [.d T_Peg] []
noncomputable def laws_toWork (a0 : T_Peg.ty) : Option (T_Peg.ty) := laws_toWork_c.f (a0, ())
theorem laws_toWork_eq (a0 : T_Peg.ty) : laws_toWork a0 =
    some a0 :=
  (mk_f _ _ _ _ _ _ _ 4000).trans (by kernel_rfl)

/- laws.toWorkS -/
def laws_toWorkS_k0 : C :=
  .seq (.seq (.reg false [⟨some 8, false, .mv (.t 4), none⟩, ⟨some 9, false, .mv (.t 0), none⟩, ⟨some 10, false, .len (.t 9), none⟩, ⟨some 11, false, .bin .lss (.t 8) (.t 10), none⟩] [0, 3, 4, 11] [3]) (.cond (.t 11) .skip (.exit 0))) (.seq (.block 1 (.reg false [⟨some 14, false, .mv (.t 3), none⟩, ⟨some 15, false, .mv (.t 4), none⟩, ⟨some 16, false, .mv (.t 0), none⟩, ⟨some 17, false, .mv (.t 4), none⟩, ⟨some 18, false, .ia 4 (.t 16) (.t 17), none⟩, ⟨some 19, false, .ld (some 4) (.t 18), none⟩, ⟨some 20, false, .call (.c (.fn 920 [])) [.t 19], none⟩, ⟨some 21, false, .ia 4 (.t 14) (.t 15), none⟩, ⟨none, true, .sto 4 (.t 21) (.t 20), none⟩] [0, 3, 4] [3])) (.reg false [⟨some 12, false, .mv (.t 4), none⟩, ⟨some 13, false, .bin .add (.t 12) (.c (.int .i64 1)), none⟩, ⟨some 4, false, .asg (.t 13), none⟩] [0, 3, 4] [3]))
def laws_toWorkS_k1 : C :=
  .norm [0, 3, 4] [3] laws_toWorkS_k0
def laws_toWorkS_k2 : C :=
  .seq (.reg false [⟨some 22, false, .mv (.t 3), none⟩, ⟨some 2, true, .asg (.t 22), none⟩] [2] [2, 3]) .ret
def laws_toWorkS_ir : Fn := { np := 1, io := [], res := [.t 2], own := [true], body :=
  (.seq (.reg false [⟨some 2, true, .asg (.c (.nils 4)), none⟩] [0] []) (.seq (.reg false [⟨some 5, false, .mv (.t 0), none⟩, ⟨some 6, false, .len (.t 5), none⟩, ⟨some 7, false, .mks 4 40 (.agg [.str [], .int .i64 0, .int .i64 0, .int .i64 0]) (.t 6) (.t 6), none⟩, ⟨some 3, true, .asg (.t 7), none⟩] [0, 3] [3]) (.seq (.seq (.reg false [⟨some 4, false, .asg (.c (.int .i64 0)), none⟩] [0, 3, 4] [3]) (.block 0 (.loop laws_toWorkS_k1))) laws_toWorkS_k2))) }
noncomputable def laws_toWorkS_D : List (Nat × Callee) := [(920, laws_toWork_c)]
def laws_toWorkS_H : List (Nat × ET) := [(2, T_Peg), (3, T_Peg), (5, T_Peg), (7, T_Peg), (9, T_Peg), (14, T_Peg), (16, T_Peg), (22, T_Peg)]
noncomputable def laws_toWorkS_c : Callee := mkCallee laws_toWorkS_D laws_toWorkS_H laws_toWorkS_ir [.d (.one (.sl T_Peg))] [.tok T_Peg] []
noncomputable def laws_toWorkS (a0 : List T_Peg.ty) : Option (List T_Peg.ty) := laws_toWorkS_c.f (a0, ())
noncomputable def laws_toWorkS_p0  (v0 : List T_Peg.ty) (v3n : Nat) (v4 : Int) (r3 : List T_Peg.ty) : Option (List T_Peg.ty) :=
  goL laws_toWorkS_D laws_toWorkS_H (vleave laws_toWorkS_ir [.d (.one (.sl T_Peg))] [.tok T_Peg] [] []) [.c laws_toWorkS_k0, .l laws_toWorkS_k1, .e 0, .c laws_toWorkS_k2]
    ⟨[(0, .sl T_Peg v0), (3, .view 3 0 v3n), (4, .int .i64 v4)], [(3, some (.sl T_Peg r3))]⟩
theorem laws_toWorkS_eq (a0 : List T_Peg.ty) : laws_toWorkS a0 =
    if decide (0 ≤ (a0.length : Int)) && decide ((a0.length : Int) ≤ (a0.length : Int)) && decide ((a0.length : Int) < (lim : Int)) then
      laws_toWorkS_p0 a0 ((List.replicate ((a0.length : Int).toNat) (([], 0, 0, 0, ()) : T_Peg.ty)).length) 0 (List.replicate ((a0.length : Int).toNat) (([], 0, 0, 0, ()) : T_Peg.ty))
    else
      none :=
  (mk_f _ _ _ _ _ _ _ 4000).trans (by kernel_rfl)
theorem laws_toWorkS_p0_eq  (v0 : List T_Peg.ty) (v3n : Nat) (v4 : Int) (r3 : List T_Peg.ty) : laws_toWorkS_p0 v0 v3n v4 r3 =
    if decide (v4 < (v0.length : Int)) then
      if decide (0 ≤ v4) then
        (v0[v4.toNat]?).bind fun x1 =>
          (laws_toWork x1).bind fun x2 =>
            if decide (0 ≤ v4) && decide (v4 < (v3n : Int)) then
              (r3[v4.toNat]?).bind fun x3 =>
                laws_toWorkS_p0 v0 v3n (IntKind.i64.wrap (v4 + 1)) (r3.set v4.toNat x2)
            else
              none
      else
        none
    else
      some (r3.take v3n) :=
  (goL_dn _ _ _ 4000 _ _).trans (by kernel_rfl)

/- laws.toPaper -/
def laws_toPaper_ir : Fn := { np := 1, io := [], res := [.cell 2 (some 5)], own := [false], body :=
  (.seq (.reg false [⟨some 1, true, .box 5 (.t 0), none⟩, ⟨some 2, true, .alloc 5 (.agg [.str [], .str [], .int .i64 0, .int .i64 0, .int .i64 0]), none⟩] [1, 2] [1, 2]) (.seq (.reg false [⟨some 3, true, .alloc 5 (.agg [.str [], .str [], .int .i64 0, .int .i64 0, .int .i64 0]), none⟩] [1, 2, 3] [1, 2, 3]) (.seq (.reg false [⟨some 4, false, .fa 0 (.t 1), none⟩, ⟨some 5, false, .ld none (.t 4), none⟩, ⟨some 6, false, .fa 0 (.t 3), none⟩, ⟨none, true, .sto 1 (.t 6) (.t 5), none⟩] [1, 2, 3] [1, 2, 3]) (.seq (.reg false [⟨some 7, false, .fa 1 (.t 1), none⟩, ⟨some 8, false, .ld none (.t 7), none⟩, ⟨some 9, false, .fa 1 (.t 3), none⟩, ⟨none, true, .sto 1 (.t 9) (.t 8), none⟩] [1, 2, 3] [1, 2, 3]) (.seq (.reg false [⟨some 10, false, .fa 2 (.t 1), none⟩, ⟨some 11, false, .ld none (.t 10), none⟩, ⟨some 12, false, .fa 2 (.t 3), none⟩, ⟨none, true, .sto 1 (.t 12) (.t 11), none⟩] [1, 2, 3] [1, 2, 3]) (.seq (.reg false [⟨some 13, false, .fa 3 (.t 1), none⟩, ⟨some 14, false, .ld none (.t 13), none⟩, ⟨some 15, false, .fa 3 (.t 3), none⟩, ⟨none, true, .sto 1 (.t 15) (.t 14), none⟩] [1, 2, 3] [1, 2, 3]) (.seq (.reg false [⟨some 16, false, .fa 4 (.t 1), none⟩, ⟨some 17, false, .ld none (.t 16), none⟩, ⟨some 18, false, .fa 4 (.t 3), none⟩, ⟨none, true, .sto 1 (.t 18) (.t 17), none⟩] [2, 3] [2, 3]) (.seq (.reg false [⟨some 19, false, .ld (some 5) (.t 3), none⟩, ⟨none, true, .sto 5 (.t 2) (.t 19), none⟩] [2] [2]) .ret)))))))) }
noncomputable def laws_toPaper_D : List (Nat × Callee) := []
def laws_toPaper_H : List (Nat × ET) := []
noncomputable def laws_toPaper_c : Callee := mkCallee laws_toPaper_D laws_toPaper_H laws_toPaper_ir [.d T_Paper] [.d T_Paper] []
noncomputable def laws_toPaper (a0 : T_Paper.ty) : Option (T_Paper.ty) := laws_toPaper_c.f (a0, ())
theorem laws_toPaper_eq (a0 : T_Paper.ty) : laws_toPaper a0 =
    some a0 :=
  (mk_f _ _ _ _ _ _ _ 4000).trans (by kernel_rfl)

/- laws.toPaperS -/
def laws_toPaperS_k0 : C :=
  .seq (.seq (.reg false [⟨some 8, false, .mv (.t 4), none⟩, ⟨some 9, false, .mv (.t 0), none⟩, ⟨some 10, false, .len (.t 9), none⟩, ⟨some 11, false, .bin .lss (.t 8) (.t 10), none⟩] [0, 3, 4, 11] [3]) (.cond (.t 11) .skip (.exit 0))) (.seq (.block 1 (.reg false [⟨some 14, false, .mv (.t 3), none⟩, ⟨some 15, false, .mv (.t 4), none⟩, ⟨some 16, false, .mv (.t 0), none⟩, ⟨some 17, false, .mv (.t 4), none⟩, ⟨some 18, false, .ia 5 (.t 16) (.t 17), none⟩, ⟨some 19, false, .ld (some 5) (.t 18), none⟩, ⟨some 20, false, .call (.c (.fn 727 [])) [.t 19], none⟩, ⟨some 21, false, .ia 5 (.t 14) (.t 15), none⟩, ⟨none, true, .sto 5 (.t 21) (.t 20), none⟩] [0, 3, 4] [3])) (.reg false [⟨some 12, false, .mv (.t 4), none⟩, ⟨some 13, false, .bin .add (.t 12) (.c (.int .i64 1)), none⟩, ⟨some 4, false, .asg (.t 13), none⟩] [0, 3, 4] [3]))
def laws_toPaperS_k1 : C :=
  .norm [0, 3, 4] [3] laws_toPaperS_k0
def laws_toPaperS_k2 : C :=
  .seq (.reg false [⟨some 22, false, .mv (.t 3), none⟩, ⟨some 2, true, .asg (.t 22), none⟩] [2] [2, 3]) .ret
def laws_toPaperS_ir : Fn := { np := 1, io := [], res := [.t 2], own := [true], body :=
  (.seq (.reg false [⟨some 2, true, .asg (.c (.nils 5)), none⟩] [0] []) (.seq (.reg false [⟨some 5, false, .mv (.t 0), none⟩, ⟨some 6, false, .len (.t 5), none⟩, ⟨some 7, false, .mks 5 56 (.agg [.str [], .str [], .int .i64 0, .int .i64 0, .int .i64 0]) (.t 6) (.t 6), none⟩, ⟨some 3, true, .asg (.t 7), none⟩] [0, 3] [3]) (.seq (.seq (.reg false [⟨some 4, false, .asg (.c (.int .i64 0)), none⟩] [0, 3, 4] [3]) (.block 0 (.loop laws_toPaperS_k1))) laws_toPaperS_k2))) }
noncomputable def laws_toPaperS_D : List (Nat × Callee) := [(727, laws_toPaper_c)]
def laws_toPaperS_H : List (Nat × ET) := [(2, T_Paper), (3, T_Paper), (5, T_Paper), (7, T_Paper), (9, T_Paper), (14, T_Paper), (16, T_Paper), (22, T_Paper)]
noncomputable def laws_toPaperS_c : Callee := mkCallee laws_toPaperS_D laws_toPaperS_H laws_toPaperS_ir [.d (.one (.sl T_Paper))] [.tok T_Paper] []
noncomputable def laws_toPaperS (a0 : List T_Paper.ty) : Option (List T_Paper.ty) := laws_toPaperS_c.f (a0, ())
noncomputable def laws_toPaperS_p0  (v0 : List T_Paper.ty) (v3n : Nat) (v4 : Int) (r3 : List T_Paper.ty) : Option (List T_Paper.ty) :=
  goL laws_toPaperS_D laws_toPaperS_H (vleave laws_toPaperS_ir [.d (.one (.sl T_Paper))] [.tok T_Paper] [] []) [.c laws_toPaperS_k0, .l laws_toPaperS_k1, .e 0, .c laws_toPaperS_k2]
    ⟨[(0, .sl T_Paper v0), (3, .view 3 0 v3n), (4, .int .i64 v4)], [(3, some (.sl T_Paper r3))]⟩
theorem laws_toPaperS_eq (a0 : List T_Paper.ty) : laws_toPaperS a0 =
    if decide (0 ≤ (a0.length : Int)) && decide ((a0.length : Int) ≤ (a0.length : Int)) && decide ((a0.length : Int) < (lim : Int)) then
      laws_toPaperS_p0 a0 ((List.replicate ((a0.length : Int).toNat) (([], [], 0, 0, 0, ()) : T_Paper.ty)).length) 0 (List.replicate ((a0.length : Int).toNat) (([], [], 0, 0, 0, ()) : T_Paper.ty))
    else
      none :=
  (mk_f _ _ _ _ _ _ _ 4000).trans (by kernel_rfl)
theorem laws_toPaperS_p0_eq  (v0 : List T_Paper.ty) (v3n : Nat) (v4 : Int) (r3 : List T_Paper.ty) : laws_toPaperS_p0 v0 v3n v4 r3 =
    if decide (v4 < (v0.length : Int)) then
      if decide (0 ≤ v4) then
        (v0[v4.toNat]?).bind fun x1 =>
          (laws_toPaper x1).bind fun x2 =>
            if decide (0 ≤ v4) && decide (v4 < (v3n : Int)) then
              (r3[v4.toNat]?).bind fun x3 =>
                laws_toPaperS_p0 v0 v3n (IntKind.i64.wrap (v4 + 1)) (r3.set v4.toNat x2)
            else
              none
      else
        none
    else
      some (r3.take v3n) :=
  (goL_dn _ _ _ 4000 _ _).trans (by kernel_rfl)

/- laws.toDesk -/
def laws_toDesk_ir : Fn := { np := 1, io := [], res := [.cell 2 (some 12)], own := [false], body :=
  (.seq (.reg false [⟨some 1, true, .box 12 (.t 0), none⟩, ⟨some 2, true, .alloc 12 (.agg [.nils 4, .nils 3, .nils 1, .int .i64 0, .int .i64 0, .int .i64 0, .int .i64 0, .nils 4, .nils 5, .nils 3, .nils 4, .nils 5]), none⟩] [1, 2] [1, 2, 2000, 2001, 2002, 2007, 2008, 2009, 2010, 2011, 3000, 3001, 3002, 3007, 3008, 3009, 3010, 3011]) (.seq (.reg false [⟨some 3, true, .alloc 12 (.agg [.nils 4, .nils 3, .nils 1, .int .i64 0, .int .i64 0, .int .i64 0, .int .i64 0, .nils 4, .nils 5, .nils 3, .nils 4, .nils 5]), none⟩] [1, 2, 3] [1, 2, 3, 2000, 2001, 2002, 2007, 2008, 2009, 2010, 2011, 3000, 3001, 3002, 3007, 3008, 3009, 3010, 3011, 4000, 4001, 4002, 4007, 4008, 4009, 4010, 4011]) (.seq (.reg false [⟨some 4, false, .fa 0 (.t 1), none⟩, ⟨some 5, false, .ld none (.t 4), none⟩, ⟨some 6, false, .call (.c (.fn 658 [])) [.t 5], none⟩, ⟨some 7, false, .fa 0 (.t 3), none⟩, ⟨none, true, .sto 1 (.t 7) (.t 6), none⟩] [1, 2, 3] [1, 2, 3, 2000, 2001, 2002, 2007, 2008, 2009, 2010, 2011, 3000, 3001, 3002, 3007, 3008, 3009, 3010, 3011, 4000, 4001, 4002, 4007, 4008, 4009, 4010, 4011]) (.seq (.reg false [⟨some 8, false, .fa 1 (.t 1), none⟩, ⟨some 9, false, .ld none (.t 8), none⟩, ⟨some 10, false, .call (.c (.fn 657 [])) [.t 9], none⟩, ⟨some 11, false, .fa 1 (.t 3), none⟩, ⟨none, true, .sto 1 (.t 11) (.t 10), none⟩] [1, 2, 3] [1, 2, 3, 2000, 2001, 2002, 2007, 2008, 2009, 2010, 2011, 3000, 3001, 3002, 3007, 3008, 3009, 3010, 3011, 4000, 4001, 4002, 4007, 4008, 4009, 4010, 4011]) (.seq (.reg false [⟨some 12, false, .fa 2 (.t 1), none⟩, ⟨some 13, false, .ld none (.t 12), none⟩, ⟨some 14, false, .call (.c (.fn 656 [])) [.t 13], none⟩, ⟨some 15, false, .fa 2 (.t 3), none⟩, ⟨none, true, .sto 1 (.t 15) (.t 14), none⟩] [1, 2, 3] [1, 2, 3, 2000, 2001, 2002, 2007, 2008, 2009, 2010, 2011, 3000, 3001, 3002, 3007, 3008, 3009, 3010, 3011, 4000, 4001, 4002, 4007, 4008, 4009, 4010, 4011]) (.seq (.reg false [⟨some 16, false, .fa 3 (.t 1), none⟩, ⟨some 17, false, .ld (some 4) (.t 16), none⟩, ⟨some 18, false, .call (.c (.fn 655 [])) [.t 17], none⟩, ⟨some 19, false, .fa 3 (.t 3), none⟩, ⟨none, true, .sto 4 (.t 19) (.t 18), none⟩] [1, 2, 3] [1, 2, 3, 2000, 2001, 2002, 2007, 2008, 2009, 2010, 2011, 3000, 3001, 3002, 3007, 3008, 3009, 3010, 3011, 4000, 4001, 4002, 4007, 4008, 4009, 4010, 4011]) (.seq (.reg false [⟨some 20, false, .fa 7 (.t 1), none⟩, ⟨some 21, false, .ld none (.t 20), none⟩, ⟨some 22, false, .call (.c (.fn 120 [])) [.t 21], none⟩, ⟨some 23, false, .fa 7 (.t 3), none⟩, ⟨none, true, .sto 1 (.t 23) (.t 22), none⟩] [1, 2, 3] [1, 2, 3, 2000, 2001, 2002, 2007, 2008, 2009, 2010, 2011, 3000, 3001, 3002, 3007, 3008, 3009, 3010, 3011, 4000, 4001, 4002, 4007, 4008, 4009, 4010, 4011]) (.seq (.reg false [⟨some 24, false, .fa 8 (.t 1), none⟩, ⟨some 25, false, .ld none (.t 24), none⟩, ⟨some 26, false, .call (.c (.fn 59 [])) [.t 25], none⟩, ⟨some 27, false, .fa 8 (.t 3), none⟩, ⟨none, true, .sto 1 (.t 27) (.t 26), none⟩] [1, 2, 3] [1, 2, 3, 2000, 2001, 2002, 2007, 2008, 2009, 2010, 2011, 3000, 3001, 3002, 3007, 3008, 3009, 3010, 3011, 4000, 4001, 4002, 4007, 4008, 4009, 4010, 4011]) (.seq (.reg false [⟨some 28, false, .fa 9 (.t 1), none⟩, ⟨some 29, false, .ld none (.t 28), none⟩, ⟨some 30, false, .call (.c (.fn 654 [])) [.t 29], none⟩, ⟨some 31, false, .fa 9 (.t 3), none⟩, ⟨none, true, .sto 1 (.t 31) (.t 30), none⟩] [1, 2, 3] [1, 2, 3, 2000, 2001, 2002, 2007, 2008, 2009, 2010, 2011, 3000, 3001, 3002, 3007, 3008, 3009, 3010, 3011, 4000, 4001, 4002, 4007, 4008, 4009, 4010, 4011]) (.seq (.reg false [⟨some 32, false, .fa 10 (.t 1), none⟩, ⟨some 33, false, .ld none (.t 32), none⟩, ⟨some 34, false, .call (.c (.fn 653 [])) [.t 33], none⟩, ⟨some 35, false, .fa 10 (.t 3), none⟩, ⟨none, true, .sto 1 (.t 35) (.t 34), none⟩] [1, 2, 3] [1, 2, 3, 2000, 2001, 2002, 2007, 2008, 2009, 2010, 2011, 3000, 3001, 3002, 3007, 3008, 3009, 3010, 3011, 4000, 4001, 4002, 4007, 4008, 4009, 4010, 4011]) (.seq (.reg false [⟨some 36, false, .fa 11 (.t 1), none⟩, ⟨some 37, false, .ld none (.t 36), none⟩, ⟨some 38, false, .call (.c (.fn 295 [])) [.t 37], none⟩, ⟨some 39, false, .fa 11 (.t 3), none⟩, ⟨none, true, .sto 1 (.t 39) (.t 38), none⟩] [2, 3] [2, 3, 3000, 3001, 3002, 3007, 3008, 3009, 3010, 3011, 4000, 4001, 4002, 4007, 4008, 4009, 4010, 4011]) (.seq (.reg false [⟨some 40, false, .ld (some 12) (.t 3), none⟩, ⟨none, true, .sto 12 (.t 2) (.t 40), none⟩] [2] [2, 3000, 3001, 3002, 3007, 3008, 3009, 3010, 3011]) .ret)))))))))))) }
noncomputable def laws_toDesk_D : List (Nat × Callee) := [(59, laws_toPotS_c), (120, laws_toPegS_c), (295, laws_toPaperS_c), (653, laws_toWorkS_c), (654, laws_toModeS_c), (655, laws_toNeck_c), (656, laws_toInt64SS_c), (657, laws_toRibS_c), (658, laws_toStackS_c)]
def laws_toDesk_H : List (Nat × ET) := [(5, T_Peg), (6, T_Peg), (9, T_Mode), (10, T_Mode), (13, (.one (.sl (.one (.int .i64))))), (14, (.one (.sl (.one (.int .i64))))), (21, T_Peg), (22, T_Peg), (25, T_Pot), (26, T_Pot), (29, T_Mode), (30, T_Mode), (33, T_Peg), (34, T_Peg), (37, T_Paper), (38, T_Paper)]
noncomputable def laws_toDesk_c : Callee := mkCallee laws_toDesk_D laws_toDesk_H laws_toDesk_ir [.d T_Desk] [.d T_Desk] []
noncomputable def laws_toDesk (a0 : T_Desk.ty) : Option (T_Desk.ty) := laws_toDesk_c.f (a0, ())
theorem laws_toDesk_eq (a0 : T_Desk.ty) : laws_toDesk a0 =
    (laws_toStackS a0.1).bind fun x1 =>
      (laws_toRibS a0.2.1).bind fun x2 =>
        (laws_toInt64SS a0.2.2.1).bind fun x3 =>
          (laws_toNeck (a0.2.2.2.1, a0.2.2.2.2.1, a0.2.2.2.2.2.1, a0.2.2.2.2.2.2.1, ())).bind fun x4 =>
            (laws_toPegS a0.2.2.2.2.2.2.2.1).bind fun x5 =>
              (laws_toPotS a0.2.2.2.2.2.2.2.2.1).bind fun x6 =>
                (laws_toModeS a0.2.2.2.2.2.2.2.2.2.1).bind fun x7 =>
                  (laws_toWorkS a0.2.2.2.2.2.2.2.2.2.2.1).bind fun x8 =>
                    (laws_toPaperS a0.2.2.2.2.2.2.2.2.2.2.2.1).bind fun x9 =>
                      some ((x1.take x1.length), (x2.take x2.length), x3, x4.1, x4.2.1, x4.2.2.1, x4.2.2.2.1, (x5.take x5.length), (x6.take x6.length), (x7.take x7.length), (x8.take x8.length), (x9.take x9.length), ()) :=
  (mk_f _ _ _ _ _ _ _ 4000).trans (by kernel_rfl)

/- spec.l01Small -/
def spec_l01Small_ir : Fn := { np := 1, io := [], res := [.t 2], own := [false], body :=
  (.seq (.reg false [⟨some 2, false, .asg (.c (.bool false)), none⟩] [0] []) (.seq (.reg false [⟨some 3, false, .mv (.t 0), none⟩, ⟨some 4, false, .bin .geq (.t 3) (.c (.int .u8 97)), none⟩, ⟨some 5, false, .mv (.t 4), none⟩, ⟨some 6, false, .mv (.t 0), some (2, true)⟩, ⟨some 7, false, .bin .leq (.t 6) (.c (.int .u8 122)), some (2, true)⟩, ⟨some 8, false, .pick (.t 5) (.t 7) (.c (.bool false)), none⟩, ⟨some 2, false, .asg (.t 8), none⟩] [2] []) .ret)) }
noncomputable def spec_l01Small_D : List (Nat × Callee) := []
def spec_l01Small_H : List (Nat × ET) := []
noncomputable def spec_l01Small_c : Callee := mkCallee spec_l01Small_D spec_l01Small_H spec_l01Small_ir [.d (.one (.int .u8))] [.d (.one .bool)] []
noncomputable def spec_l01Small (a0 : Int) : Option (Bool) := spec_l01Small_c.f (a0, ())
theorem spec_l01Small_eq (a0 : Int) : spec_l01Small a0 =
    if decide (a0 ≥ 97) then
      some (decide (a0 ≤ 122))
    else
      some false :=
  (mk_f _ _ _ _ _ _ _ 4000).trans (by kernel_rfl)

/- spec.l01Digit -/
def spec_l01Digit_ir : Fn := { np := 1, io := [], res := [.t 2], own := [false], body :=
  (.seq (.reg false [⟨some 2, false, .asg (.c (.bool false)), none⟩] [0] []) (.seq (.reg false [⟨some 3, false, .mv (.t 0), none⟩, ⟨some 4, false, .bin .geq (.t 3) (.c (.int .u8 48)), none⟩, ⟨some 5, false, .mv (.t 4), none⟩, ⟨some 6, false, .mv (.t 0), some (2, true)⟩, ⟨some 7, false, .bin .leq (.t 6) (.c (.int .u8 57)), some (2, true)⟩, ⟨some 8, false, .pick (.t 5) (.t 7) (.c (.bool false)), none⟩, ⟨some 2, false, .asg (.t 8), none⟩] [2] []) .ret)) }
noncomputable def spec_l01Digit_D : List (Nat × Callee) := []
def spec_l01Digit_H : List (Nat × ET) := []
noncomputable def spec_l01Digit_c : Callee := mkCallee spec_l01Digit_D spec_l01Digit_H spec_l01Digit_ir [.d (.one (.int .u8))] [.d (.one .bool)] []
noncomputable def spec_l01Digit (a0 : Int) : Option (Bool) := spec_l01Digit_c.f (a0, ())
theorem spec_l01Digit_eq (a0 : Int) : spec_l01Digit a0 =
    if decide (a0 ≥ 48) then
      some (decide (a0 ≤ 57))
    else
      some false :=
  (mk_f _ _ _ _ _ _ _ 4000).trans (by kernel_rfl)

/- spec.l01Name -/
def spec_l01Name_k0 : C :=
  .seq (.seq (.reg false [⟨some 17, false, .mv (.t 3), none⟩, ⟨some 18, false, .mv (.t 0), none⟩, ⟨some 19, false, .lens (.t 18), none⟩, ⟨some 20, false, .bin .lss (.t 17) (.t 19), none⟩] [0, 3, 20] []) (.cond (.t 20) .skip (.exit 0))) (.seq (.block 1 (.seq (.reg false [⟨some 23, false, .mv (.t 0), none⟩, ⟨some 24, false, .mv (.t 3), none⟩, ⟨some 25, false, .ix (.t 23) (.t 24), none⟩, ⟨some 26, false, .call (.c (.fn 11 [])) [.t 25], none⟩, ⟨some 27, false, .un .not (.t 26), none⟩, ⟨some 28, false, .mv (.t 27), none⟩, ⟨some 29, false, .mv (.t 0), some (5, true)⟩, ⟨some 30, false, .mv (.t 3), some (5, true)⟩, ⟨some 31, false, .ix (.t 29) (.t 30), some (5, true)⟩, ⟨some 32, false, .call (.c (.fn 12 [])) [.t 31], some (5, true)⟩, ⟨some 33, false, .un .not (.t 32), some (5, true)⟩, ⟨some 34, false, .pick (.t 28) (.t 33) (.c (.bool false)), none⟩] [0, 3, 34] []) (.cond (.t 34) (.seq (.reg false [⟨some 2, false, .asg (.c (.bool false)), none⟩] [2] []) .ret) .skip))) (.reg false [⟨some 21, false, .mv (.t 3), none⟩, ⟨some 22, false, .bin .add (.t 21) (.c (.int .i64 1)), none⟩, ⟨some 3, false, .asg (.t 22), none⟩] [0, 3] []))
def spec_l01Name_k1 : C :=
  .norm [0, 3] [] spec_l01Name_k0
def spec_l01Name_k2 : C :=
  .seq (.reg false [⟨some 2, false, .asg (.c (.bool true)), none⟩] [2] []) .ret
def spec_l01Name_k3 : C :=
  .seq (.seq (.reg false [⟨some 3, false, .asg (.c (.int .i64 0)), none⟩] [0, 3] []) (.block 0 (.loop spec_l01Name_k1))) spec_l01Name_k2
def spec_l01Name_ir : Fn := { np := 1, io := [], res := [.t 2], own := [false], body :=
  (.seq (.reg false [⟨some 2, false, .asg (.c (.bool false)), none⟩] [0] []) (.seq (.seq (.reg false [⟨some 4, false, .mv (.t 0), none⟩, ⟨some 5, false, .bin .eql (.t 4) (.c (.str [])), none⟩, ⟨some 6, false, .mv (.t 5), none⟩, ⟨some 7, false, .mv (.t 0), some (2, false)⟩, ⟨some 8, false, .lens (.t 7), some (2, false)⟩, ⟨some 9, false, .bin .gtr (.t 8) (.c (.int .i64 10)), some (2, false)⟩, ⟨some 10, false, .pick (.t 6) (.c (.bool true)) (.t 9), none⟩, ⟨some 11, false, .mv (.t 10), none⟩, ⟨some 12, false, .mv (.t 0), some (7, false)⟩, ⟨some 13, false, .ix (.t 12) (.c (.int .i64 0)), some (7, false)⟩, ⟨some 14, false, .call (.c (.fn 11 [])) [.t 13], some (7, false)⟩, ⟨some 15, false, .un .not (.t 14), some (7, false)⟩, ⟨some 16, false, .pick (.t 11) (.c (.bool true)) (.t 15), none⟩] [0, 16] []) (.cond (.t 16) (.seq (.reg false [⟨some 2, false, .asg (.c (.bool false)), none⟩] [2] []) .ret) .skip)) (.norm [0] [] spec_l01Name_k3))) }
noncomputable def spec_l01Name_D : List (Nat × Callee) := [(11, spec_l01Small_c), (12, spec_l01Digit_c)]
def spec_l01Name_H : List (Nat × ET) := []
noncomputable def spec_l01Name_c : Callee := mkCallee spec_l01Name_D spec_l01Name_H spec_l01Name_ir [.d (.one .str)] [.d (.one .bool)] []
noncomputable def spec_l01Name (a0 : List UInt8) : Option (Bool) := spec_l01Name_c.f (a0, ())
noncomputable def spec_l01Name_p0  (v0 : List UInt8) : Option (Bool) :=
  goL spec_l01Name_D spec_l01Name_H (vleave spec_l01Name_ir [.d (.one .str)] [.d (.one .bool)] [] []) [.c spec_l01Name_k3]
    ⟨[(0, .str v0)], []⟩
noncomputable def spec_l01Name_p1  (v0 : List UInt8) (v3 : Int) : Option (Bool) :=
  goL spec_l01Name_D spec_l01Name_H (vleave spec_l01Name_ir [.d (.one .str)] [.d (.one .bool)] [] []) [.c spec_l01Name_k0, .l spec_l01Name_k1, .e 0, .c spec_l01Name_k2]
    ⟨[(0, .str v0), (3, .int .i64 v3)], []⟩
theorem spec_l01Name_eq (a0 : List UInt8) : spec_l01Name a0 =
    if (a0 == []) then
      some false
    else
      if decide ((a0.length : Int) > 10) then
        some false
      else
        (a0[0]?).bind fun x1 =>
          (spec_l01Small (x1.toNat : Int)).bind fun x2 =>
            if (!x2) then
              some false
            else
              spec_l01Name_p0 a0 :=
  (mk_f _ _ _ _ _ _ _ 4000).trans (by kernel_rfl)
theorem spec_l01Name_p0_eq  (v0 : List UInt8) : spec_l01Name_p0 v0 =
    spec_l01Name_p1 v0 0 :=
  (goL_dn _ _ _ 4000 _ _).trans (by kernel_rfl)
theorem spec_l01Name_p1_eq  (v0 : List UInt8) (v3 : Int) : spec_l01Name_p1 v0 v3 =
    if decide (v3 < (v0.length : Int)) then
      if decide (0 ≤ v3) then
        (v0[v3.toNat]?).bind fun x1 =>
          (spec_l01Small (x1.toNat : Int)).bind fun x2 =>
            if (!x2) then
              if decide (0 ≤ v3) then
                (v0[v3.toNat]?).bind fun x3 =>
                  (spec_l01Digit (x3.toNat : Int)).bind fun x4 =>
                    if (!x4) then
                      some false
                    else
                      spec_l01Name_p1 v0 (IntKind.i64.wrap (v3 + 1))
              else
                none
            else
              spec_l01Name_p1 v0 (IntKind.i64.wrap (v3 + 1))
      else
        none
    else
      some true :=
  (goL_dn _ _ _ 4000 _ _).trans (by kernel_rfl)

/- spec.l00In -/
def spec_l00In_ir : Fn := { np := 3, io := [], res := [.t 6], own := [false], body :=
  (.seq (.reg false [⟨some 6, false, .asg (.c (.bool false)), none⟩] [0, 1, 2] []) (.seq (.reg false [⟨some 7, false, .mv (.t 0), none⟩, ⟨some 8, false, .mv (.t 1), none⟩, ⟨some 9, false, .bin .geq (.t 7) (.t 8), none⟩, ⟨some 10, false, .mv (.t 9), none⟩, ⟨some 11, false, .mv (.t 0), some (3, true)⟩, ⟨some 12, false, .mv (.t 2), some (3, true)⟩, ⟨some 13, false, .bin .leq (.t 11) (.t 12), some (3, true)⟩, ⟨some 14, false, .pick (.t 10) (.t 13) (.c (.bool false)), none⟩, ⟨some 6, false, .asg (.t 14), none⟩] [6] []) .ret)) }
noncomputable def spec_l00In_D : List (Nat × Callee) := []
def spec_l00In_H : List (Nat × ET) := []
noncomputable def spec_l00In_c : Callee := mkCallee spec_l00In_D spec_l00In_H spec_l00In_ir [.d (.one (.int .i64)), .d (.one (.int .i64)), .d (.one (.int .i64))] [.d (.one .bool)] []
noncomputable def spec_l00In (a0 : Int) (a1 : Int) (a2 : Int) : Option (Bool) := spec_l00In_c.f (a0, a1, a2, ())
theorem spec_l00In_eq (a0 : Int) (a1 : Int) (a2 : Int) : spec_l00In a0 a1 a2 =
    if decide (a0 ≥ a1) then
      some (decide (a0 ≤ a2))
    else
      some false :=
  (mk_f _ _ _ _ _ _ _ 4000).trans (by kernel_rfl)

/- spec.l04Share -/
def spec_l04Share_ir : Fn := { np := 1, io := [], res := [.t 2], own := [false], body :=
  (.seq (.reg false [⟨some 2, false, .asg (.c (.bool false)), none⟩] [0] []) (.seq (.reg false [⟨some 3, false, .mv (.t 0), none⟩, ⟨some 4, false, .call (.c (.fn 1 [])) [.t 3, .c (.int .i64 0), .c (.int .i64 1000)], none⟩, ⟨some 2, false, .asg (.t 4), none⟩] [2] []) .ret)) }
noncomputable def spec_l04Share_D : List (Nat × Callee) := [(1, spec_l00In_c)]
def spec_l04Share_H : List (Nat × ET) := []
noncomputable def spec_l04Share_c : Callee := mkCallee spec_l04Share_D spec_l04Share_H spec_l04Share_ir [.d (.one (.int .i64))] [.d (.one .bool)] []
noncomputable def spec_l04Share (a0 : Int) : Option (Bool) := spec_l04Share_c.f (a0, ())
theorem spec_l04Share_eq (a0 : Int) : spec_l04Share a0 =
    (spec_l00In a0 0 1000).bind fun x1 =>
      some x1 :=
  (mk_f _ _ _ _ _ _ _ 4000).trans (by kernel_rfl)

/- spec.l04Thick -/
def spec_l04Thick_ir : Fn := { np := 1, io := [], res := [.t 2], own := [false], body :=
  (.seq (.reg false [⟨some 2, false, .asg (.c (.bool false)), none⟩] [0] []) (.seq (.reg false [⟨some 3, false, .mv (.t 0), none⟩, ⟨some 4, false, .call (.c (.fn 1 [])) [.t 3, .c (.int .i64 10), .c (.int .i64 1000)], none⟩, ⟨some 2, false, .asg (.t 4), none⟩] [2] []) .ret)) }
noncomputable def spec_l04Thick_D : List (Nat × Callee) := [(1, spec_l00In_c)]
def spec_l04Thick_H : List (Nat × ET) := []
noncomputable def spec_l04Thick_c : Callee := mkCallee spec_l04Thick_D spec_l04Thick_H spec_l04Thick_ir [.d (.one (.int .i64))] [.d (.one .bool)] []
noncomputable def spec_l04Thick (a0 : Int) : Option (Bool) := spec_l04Thick_c.f (a0, ())
theorem spec_l04Thick_eq (a0 : Int) : spec_l04Thick a0 =
    (spec_l00In a0 10 1000).bind fun x1 =>
      some x1 :=
  (mk_f _ _ _ _ _ _ _ 4000).trans (by kernel_rfl)

/- spec.l02Day -/
def spec_l02Day_ir : Fn := { np := 1, io := [], res := [.t 2], own := [false], body :=
  (.seq (.reg false [⟨some 2, false, .asg (.c (.bool false)), none⟩] [0] []) (.seq (.reg false [⟨some 3, false, .mv (.t 0), none⟩, ⟨some 4, false, .call (.c (.fn 1 [])) [.t 3, .c (.int .i64 0), .c (.int .i64 36524)], none⟩, ⟨some 2, false, .asg (.t 4), none⟩] [2] []) .ret)) }
noncomputable def spec_l02Day_D : List (Nat × Callee) := [(1, spec_l00In_c)]
def spec_l02Day_H : List (Nat × ET) := []
noncomputable def spec_l02Day_c : Callee := mkCallee spec_l02Day_D spec_l02Day_H spec_l02Day_ir [.d (.one (.int .i64))] [.d (.one .bool)] []
noncomputable def spec_l02Day (a0 : Int) : Option (Bool) := spec_l02Day_c.f (a0, ())
theorem spec_l02Day_eq (a0 : Int) : spec_l02Day a0 =
    (spec_l00In a0 0 36524).bind fun x1 =>
      some x1 :=
  (mk_f _ _ _ _ _ _ _ 4000).trans (by kernel_rfl)

/- spec.l04One -/
def spec_l04One_ir : Fn := { np := 1, io := [], res := [.t 2], own := [false], body :=
  (.seq (.reg false [⟨some 2, false, .asg (.c (.bool false)), none⟩] [0] []) (.seq (.reg false [⟨some 3, false, .mv (.t 0), none⟩, ⟨some 4, false, .nilck (.t 3), none⟩, ⟨some 5, false, .fa 0 (.t 4), none⟩, ⟨some 6, false, .ld none (.t 5), none⟩, ⟨some 7, false, .call (.c (.fn 13 [])) [.t 6], none⟩, ⟨some 8, false, .mv (.t 7), none⟩, ⟨some 9, false, .mv (.t 0), some (5, true)⟩, ⟨some 10, false, .nilck (.t 9), some (5, true)⟩, ⟨some 11, false, .fa 1 (.t 10), some (5, true)⟩, ⟨some 12, false, .ld none (.t 11), some (5, true)⟩, ⟨some 13, false, .call (.c (.fn 490 [])) [.t 12], some (5, true)⟩, ⟨some 14, false, .pick (.t 8) (.t 13) (.c (.bool false)), none⟩, ⟨some 15, false, .mv (.t 14), none⟩, ⟨some 16, false, .mv (.t 0), some (12, true)⟩, ⟨some 17, false, .nilck (.t 16), some (12, true)⟩, ⟨some 18, false, .fa 2 (.t 17), some (12, true)⟩, ⟨some 19, false, .ld none (.t 18), some (12, true)⟩, ⟨some 20, false, .call (.c (.fn 850 [])) [.t 19], some (12, true)⟩, ⟨some 21, false, .pick (.t 15) (.t 20) (.c (.bool false)), none⟩, ⟨some 22, false, .mv (.t 21), none⟩, ⟨some 23, false, .mv (.t 0), some (19, true)⟩, ⟨some 24, false, .nilck (.t 23), some (19, true)⟩, ⟨some 25, false, .fa 3 (.t 24), some (19, true)⟩, ⟨some 26, false, .ld none (.t 25), some (19, true)⟩, ⟨some 27, false, .call (.c (.fn 851 [])) [.t 26], some (19, true)⟩, ⟨some 28, false, .pick (.t 22) (.t 27) (.c (.bool false)), none⟩, ⟨some 2, false, .asg (.t 28), none⟩] [2] []) .ret)) }
noncomputable def spec_l04One_D : List (Nat × Callee) := [(13, spec_l01Name_c), (490, spec_l04Share_c), (850, spec_l04Thick_c), (851, spec_l02Day_c)]
def spec_l04One_H : List (Nat × ET) := []
noncomputable def spec_l04One_c : Callee := mkCallee spec_l04One_D spec_l04One_H spec_l04One_ir [.p T_Peg] [.d (.one .bool)] []
noncomputable def spec_l04One (a0 : T_Peg.ty) : Option (Bool) := spec_l04One_c.f (a0, ())
theorem spec_l04One_eq (a0 : T_Peg.ty) : spec_l04One a0 =
    (spec_l01Name a0.1).bind fun x1 =>
      if x1 then
        (spec_l04Share a0.2.1).bind fun x2 =>
          if x2 then
            (spec_l04Thick a0.2.2.1).bind fun x3 =>
              if x3 then
                (spec_l02Day a0.2.2.2.1).bind fun x4 =>
                  some x4
              else
                some false
          else
            some false
      else
        some false :=
  (mk_f _ _ _ _ _ _ _ 4000).trans (by kernel_rfl)

/- spec.l04Ok -/
def spec_l04Ok_k0 : C :=
  .seq (.seq (.reg false [⟨some 4, false, .mv (.t 3), none⟩, ⟨some 5, false, .mv (.t 0), none⟩, ⟨some 6, false, .len (.t 5), none⟩, ⟨some 7, false, .bin .lss (.t 4) (.t 6), none⟩] [0, 3, 7] []) (.cond (.t 7) .skip (.exit 0))) (.seq (.block 1 (.seq (.reg true [⟨some 10, false, .mv (.t 0), none⟩, ⟨some 11, false, .mv (.t 3), none⟩, ⟨some 12, false, .ia 4 (.t 10) (.t 11), none⟩, ⟨some 13, false, .call (.c (.fn 492 [])) [.t 12], none⟩, ⟨some 14, false, .un .not (.t 13), none⟩, ⟨some 15, false, .mv (.t 14), none⟩, ⟨some 16, false, .mv (.t 3), some (5, false)⟩, ⟨some 17, false, .bin .gtr (.t 16) (.c (.int .i64 0)), some (5, false)⟩, ⟨some 18, false, .mv (.t 17), some (5, false)⟩, ⟨some 19, false, .mv (.t 0), some (8, true)⟩, ⟨some 20, false, .mv (.t 3), some (8, true)⟩, ⟨some 21, false, .bin .sub (.t 20) (.c (.int .i64 1)), some (8, true)⟩, ⟨some 22, false, .ia 4 (.t 19) (.t 21), some (8, true)⟩, ⟨some 23, false, .fa 0 (.t 22), some (8, true)⟩, ⟨some 24, false, .ld none (.t 23), some (8, true)⟩, ⟨some 25, false, .mv (.t 0), some (8, true)⟩, ⟨some 26, false, .mv (.t 3), some (8, true)⟩, ⟨some 27, false, .ia 4 (.t 25) (.t 26), some (8, true)⟩, ⟨some 28, false, .fa 0 (.t 27), some (8, true)⟩, ⟨some 29, false, .ld none (.t 28), some (8, true)⟩, ⟨some 30, false, .bin .geq (.t 24) (.t 29), some (8, true)⟩, ⟨some 31, false, .pick (.t 18) (.t 30) (.c (.bool false)), some (5, false)⟩, ⟨some 32, false, .pick (.t 15) (.c (.bool true)) (.t 31), none⟩] [0, 3, 32] []) (.cond (.t 32) (.seq (.reg false [⟨some 2, false, .asg (.c (.bool false)), none⟩] [2] []) .ret) .skip))) (.reg false [⟨some 8, false, .mv (.t 3), none⟩, ⟨some 9, false, .bin .add (.t 8) (.c (.int .i64 1)), none⟩, ⟨some 3, false, .asg (.t 9), none⟩] [0, 3] []))
def spec_l04Ok_k1 : C :=
  .norm [0, 3] [] spec_l04Ok_k0
def spec_l04Ok_k2 : C :=
  .seq (.reg false [⟨some 33, false, .mv (.t 0), none⟩, ⟨some 34, false, .len (.t 33), none⟩, ⟨some 35, false, .bin .leq (.t 34) (.c (.int .i64 12)), none⟩, ⟨some 2, false, .asg (.t 35), none⟩] [2] []) .ret
def spec_l04Ok_ir : Fn := { np := 1, io := [], res := [.t 2], own := [false], body :=
  (.seq (.reg false [⟨some 2, false, .asg (.c (.bool false)), none⟩] [0] []) (.seq (.seq (.reg false [⟨some 3, false, .asg (.c (.int .i64 0)), none⟩] [0, 3] []) (.block 0 (.loop spec_l04Ok_k1))) spec_l04Ok_k2)) }
noncomputable def spec_l04Ok_D : List (Nat × Callee) := [(492, spec_l04One_c)]
def spec_l04Ok_H : List (Nat × ET) := [(5, T_Peg), (10, T_Peg), (19, T_Peg), (25, T_Peg), (33, T_Peg)]
noncomputable def spec_l04Ok_c : Callee := mkCallee spec_l04Ok_D spec_l04Ok_H spec_l04Ok_ir [.d (.one (.sl T_Peg))] [.d (.one .bool)] []
noncomputable def spec_l04Ok (a0 : List T_Peg.ty) : Option (Bool) := spec_l04Ok_c.f (a0, ())
noncomputable def spec_l04Ok_p0  (v0 : List T_Peg.ty) (v3 : Int) : Option (Bool) :=
  goL spec_l04Ok_D spec_l04Ok_H (vleave spec_l04Ok_ir [.d (.one (.sl T_Peg))] [.d (.one .bool)] [] []) [.c spec_l04Ok_k0, .l spec_l04Ok_k1, .e 0, .c spec_l04Ok_k2]
    ⟨[(0, .sl T_Peg v0), (3, .int .i64 v3)], []⟩
theorem spec_l04Ok_eq (a0 : List T_Peg.ty) : spec_l04Ok a0 =
    spec_l04Ok_p0 a0 0 :=
  (mk_f _ _ _ _ _ _ _ 4000).trans (by kernel_rfl)
theorem spec_l04Ok_p0_eq  (v0 : List T_Peg.ty) (v3 : Int) : spec_l04Ok_p0 v0 v3 =
    if decide (v3 < (v0.length : Int)) then
      if decide (0 ≤ v3) then
        (v0[v3.toNat]?).bind fun x1 =>
          (spec_l04One x1).bind fun x2 =>
            if (!x2) then
              some false
            else
              if decide (v3 > 0) then
                if decide (0 ≤ IntKind.i64.wrap (v3 - 1)) then
                  (v0[(IntKind.i64.wrap (v3 - 1)).toNat]?).bind fun x3 =>
                    if decide (0 ≤ v3) then
                      (v0[v3.toNat]?).bind fun x4 =>
                        if (!Op.bytesLess x3.1 x4.1) then
                          some false
                        else
                          spec_l04Ok_p0 v0 (IntKind.i64.wrap (v3 + 1))
                    else
                      none
                else
                  none
              else
                spec_l04Ok_p0 v0 (IntKind.i64.wrap (v3 + 1))
      else
        none
    else
      some (decide ((v0.length : Int) ≤ 12)) :=
  (goL_dn _ _ _ 4000 _ _).trans (by kernel_rfl)

/- spec.l06Size -/
def spec_l06Size_ir : Fn := { np := 1, io := [], res := [.t 2], own := [false], body :=
  (.seq (.reg false [⟨some 2, false, .asg (.c (.bool false)), none⟩] [0] []) (.seq (.reg false [⟨some 3, false, .mv (.t 0), none⟩, ⟨some 4, false, .call (.c (.fn 1 [])) [.t 3, .c (.int .i64 1), .c (.int .i64 10000)], none⟩, ⟨some 2, false, .asg (.t 4), none⟩] [2] []) .ret)) }
noncomputable def spec_l06Size_D : List (Nat × Callee) := [(1, spec_l00In_c)]
def spec_l06Size_H : List (Nat × ET) := []
noncomputable def spec_l06Size_c : Callee := mkCallee spec_l06Size_D spec_l06Size_H spec_l06Size_ir [.d (.one (.int .i64))] [.d (.one .bool)] []
noncomputable def spec_l06Size (a0 : Int) : Option (Bool) := spec_l06Size_c.f (a0, ())
theorem spec_l06Size_eq (a0 : Int) : spec_l06Size a0 =
    (spec_l00In a0 1 10000).bind fun x1 =>
      some x1 :=
  (mk_f _ _ _ _ _ _ _ 4000).trans (by kernel_rfl)

/- spec.l06One -/
def spec_l06One_ir : Fn := { np := 1, io := [], res := [.t 2], own := [false], body :=
  (.seq (.reg false [⟨some 2, false, .asg (.c (.bool false)), none⟩] [0] []) (.seq (.reg false [⟨some 3, false, .mv (.t 0), none⟩, ⟨some 4, false, .nilck (.t 3), none⟩, ⟨some 5, false, .fa 0 (.t 4), none⟩, ⟨some 6, false, .ld none (.t 5), none⟩, ⟨some 7, false, .call (.c (.fn 13 [])) [.t 6], none⟩, ⟨some 8, false, .mv (.t 7), none⟩, ⟨some 9, false, .mv (.t 0), some (5, true)⟩, ⟨some 10, false, .nilck (.t 9), some (5, true)⟩, ⟨some 11, false, .fa 1 (.t 10), some (5, true)⟩, ⟨some 12, false, .ld none (.t 11), some (5, true)⟩, ⟨some 13, false, .call (.c (.fn 962 [])) [.t 12], some (5, true)⟩, ⟨some 14, false, .pick (.t 8) (.t 13) (.c (.bool false)), none⟩, ⟨some 15, false, .mv (.t 14), none⟩, ⟨some 16, false, .mv (.t 0), some (12, true)⟩, ⟨some 17, false, .nilck (.t 16), some (12, true)⟩, ⟨some 18, false, .fa 2 (.t 17), some (12, true)⟩, ⟨some 19, false, .ld none (.t 18), some (12, true)⟩, ⟨some 20, false, .call (.c (.fn 962 [])) [.t 19], some (12, true)⟩, ⟨some 21, false, .pick (.t 15) (.t 20) (.c (.bool false)), none⟩, ⟨some 2, false, .asg (.t 21), none⟩] [2] []) .ret)) }
noncomputable def spec_l06One_D : List (Nat × Callee) := [(13, spec_l01Name_c), (962, spec_l06Size_c)]
def spec_l06One_H : List (Nat × ET) := []
noncomputable def spec_l06One_c : Callee := mkCallee spec_l06One_D spec_l06One_H spec_l06One_ir [.p T_Mode] [.d (.one .bool)] []
noncomputable def spec_l06One (a0 : T_Mode.ty) : Option (Bool) := spec_l06One_c.f (a0, ())
theorem spec_l06One_eq (a0 : T_Mode.ty) : spec_l06One a0 =
    (spec_l01Name a0.1).bind fun x1 =>
      if x1 then
        (spec_l06Size a0.2.1).bind fun x2 =>
          if x2 then
            (spec_l06Size a0.2.2.1).bind fun x3 =>
              some x3
          else
            some false
      else
        some false :=
  (mk_f _ _ _ _ _ _ _ 4000).trans (by kernel_rfl)

/- spec.l06Ok -/
def spec_l06Ok_k0 : C :=
  .seq (.seq (.reg false [⟨some 4, false, .mv (.t 3), none⟩, ⟨some 5, false, .mv (.t 0), none⟩, ⟨some 6, false, .len (.t 5), none⟩, ⟨some 7, false, .bin .lss (.t 4) (.t 6), none⟩] [0, 3, 7] []) (.cond (.t 7) .skip (.exit 0))) (.seq (.block 1 (.seq (.reg true [⟨some 10, false, .mv (.t 0), none⟩, ⟨some 11, false, .mv (.t 3), none⟩, ⟨some 12, false, .ia 3 (.t 10) (.t 11), none⟩, ⟨some 13, false, .call (.c (.fn 764 [])) [.t 12], none⟩, ⟨some 14, false, .un .not (.t 13), none⟩, ⟨some 15, false, .mv (.t 14), none⟩, ⟨some 16, false, .mv (.t 3), some (5, false)⟩, ⟨some 17, false, .bin .gtr (.t 16) (.c (.int .i64 0)), some (5, false)⟩, ⟨some 18, false, .mv (.t 17), some (5, false)⟩, ⟨some 19, false, .mv (.t 0), some (8, true)⟩, ⟨some 20, false, .mv (.t 3), some (8, true)⟩, ⟨some 21, false, .bin .sub (.t 20) (.c (.int .i64 1)), some (8, true)⟩, ⟨some 22, false, .ia 3 (.t 19) (.t 21), some (8, true)⟩, ⟨some 23, false, .fa 0 (.t 22), some (8, true)⟩, ⟨some 24, false, .ld none (.t 23), some (8, true)⟩, ⟨some 25, false, .mv (.t 0), some (8, true)⟩, ⟨some 26, false, .mv (.t 3), some (8, true)⟩, ⟨some 27, false, .ia 3 (.t 25) (.t 26), some (8, true)⟩, ⟨some 28, false, .fa 0 (.t 27), some (8, true)⟩, ⟨some 29, false, .ld none (.t 28), some (8, true)⟩, ⟨some 30, false, .bin .geq (.t 24) (.t 29), some (8, true)⟩, ⟨some 31, false, .pick (.t 18) (.t 30) (.c (.bool false)), some (5, false)⟩, ⟨some 32, false, .pick (.t 15) (.c (.bool true)) (.t 31), none⟩] [0, 3, 32] []) (.cond (.t 32) (.seq (.reg false [⟨some 2, false, .asg (.c (.bool false)), none⟩] [2] []) .ret) .skip))) (.reg false [⟨some 8, false, .mv (.t 3), none⟩, ⟨some 9, false, .bin .add (.t 8) (.c (.int .i64 1)), none⟩, ⟨some 3, false, .asg (.t 9), none⟩] [0, 3] []))
def spec_l06Ok_k1 : C :=
  .norm [0, 3] [] spec_l06Ok_k0
def spec_l06Ok_k2 : C :=
  .seq (.reg false [⟨some 33, false, .mv (.t 0), none⟩, ⟨some 34, false, .len (.t 33), none⟩, ⟨some 35, false, .bin .leq (.t 34) (.c (.int .i64 8)), none⟩, ⟨some 2, false, .asg (.t 35), none⟩] [2] []) .ret
def spec_l06Ok_ir : Fn := { np := 1, io := [], res := [.t 2], own := [false], body :=
  (.seq (.reg false [⟨some 2, false, .asg (.c (.bool false)), none⟩] [0] []) (.seq (.seq (.reg false [⟨some 3, false, .asg (.c (.int .i64 0)), none⟩] [0, 3] []) (.block 0 (.loop spec_l06Ok_k1))) spec_l06Ok_k2)) }
noncomputable def spec_l06Ok_D : List (Nat × Callee) := [(764, spec_l06One_c)]
def spec_l06Ok_H : List (Nat × ET) := [(5, T_Mode), (10, T_Mode), (19, T_Mode), (25, T_Mode), (33, T_Mode)]
noncomputable def spec_l06Ok_c : Callee := mkCallee spec_l06Ok_D spec_l06Ok_H spec_l06Ok_ir [.d (.one (.sl T_Mode))] [.d (.one .bool)] []
noncomputable def spec_l06Ok (a0 : List T_Mode.ty) : Option (Bool) := spec_l06Ok_c.f (a0, ())
noncomputable def spec_l06Ok_p0  (v0 : List T_Mode.ty) (v3 : Int) : Option (Bool) :=
  goL spec_l06Ok_D spec_l06Ok_H (vleave spec_l06Ok_ir [.d (.one (.sl T_Mode))] [.d (.one .bool)] [] []) [.c spec_l06Ok_k0, .l spec_l06Ok_k1, .e 0, .c spec_l06Ok_k2]
    ⟨[(0, .sl T_Mode v0), (3, .int .i64 v3)], []⟩
theorem spec_l06Ok_eq (a0 : List T_Mode.ty) : spec_l06Ok a0 =
    spec_l06Ok_p0 a0 0 :=
  (mk_f _ _ _ _ _ _ _ 4000).trans (by kernel_rfl)
theorem spec_l06Ok_p0_eq  (v0 : List T_Mode.ty) (v3 : Int) : spec_l06Ok_p0 v0 v3 =
    if decide (v3 < (v0.length : Int)) then
      if decide (0 ≤ v3) then
        (v0[v3.toNat]?).bind fun x1 =>
          (spec_l06One x1).bind fun x2 =>
            if (!x2) then
              some false
            else
              if decide (v3 > 0) then
                if decide (0 ≤ IntKind.i64.wrap (v3 - 1)) then
                  (v0[(IntKind.i64.wrap (v3 - 1)).toNat]?).bind fun x3 =>
                    if decide (0 ≤ v3) then
                      (v0[v3.toNat]?).bind fun x4 =>
                        if (!Op.bytesLess x3.1 x4.1) then
                          some false
                        else
                          spec_l06Ok_p0 v0 (IntKind.i64.wrap (v3 + 1))
                    else
                      none
                else
                  none
              else
                spec_l06Ok_p0 v0 (IntKind.i64.wrap (v3 + 1))
      else
        none
    else
      some (decide ((v0.length : Int) ≤ 8)) :=
  (goL_dn _ _ _ 4000 _ _).trans (by kernel_rfl)

/- spec.l08Thick -/
def spec_l08Thick_ir : Fn := { np := 1, io := [], res := [.t 2], own := [false], body :=
  (.seq (.reg false [⟨some 2, false, .asg (.c (.bool false)), none⟩] [0] []) (.seq (.reg false [⟨some 3, false, .mv (.t 0), none⟩, ⟨some 4, false, .call (.c (.fn 1 [])) [.t 3, .c (.int .i64 1), .c (.int .i64 200)], none⟩, ⟨some 2, false, .asg (.t 4), none⟩] [2] []) .ret)) }
noncomputable def spec_l08Thick_D : List (Nat × Callee) := [(1, spec_l00In_c)]
def spec_l08Thick_H : List (Nat × ET) := []
noncomputable def spec_l08Thick_c : Callee := mkCallee spec_l08Thick_D spec_l08Thick_H spec_l08Thick_ir [.d (.one (.int .i64))] [.d (.one .bool)] []
noncomputable def spec_l08Thick (a0 : Int) : Option (Bool) := spec_l08Thick_c.f (a0, ())
theorem spec_l08Thick_eq (a0 : Int) : spec_l08Thick a0 =
    (spec_l00In a0 1 200).bind fun x1 =>
      some x1 :=
  (mk_f _ _ _ _ _ _ _ 4000).trans (by kernel_rfl)

/- spec.l08Ok -/
def spec_l08Ok_k0 : C :=
  .seq (.seq (.reg false [⟨some 37, false, .mv (.t 4), none⟩, ⟨some 38, false, .mv (.t 0), none⟩, ⟨some 39, false, .mv (.t 3), none⟩, ⟨some 40, false, .ia 1 (.t 38) (.t 39), none⟩, ⟨some 41, false, .ld none (.t 40), none⟩, ⟨some 42, false, .len (.t 41), none⟩, ⟨some 43, false, .bin .lss (.t 37) (.t 42), none⟩] [0, 3, 4, 43] []) (.cond (.t 43) .skip (.exit 2))) (.seq (.block 3 (.seq (.reg false [⟨some 46, false, .mv (.t 0), none⟩, ⟨some 47, false, .mv (.t 3), none⟩, ⟨some 48, false, .ia 1 (.t 46) (.t 47), none⟩, ⟨some 49, false, .ld none (.t 48), none⟩, ⟨some 50, false, .mv (.t 4), none⟩, ⟨some 51, false, .ia 1 (.t 49) (.t 50), none⟩, ⟨some 52, false, .ld none (.t 51), none⟩, ⟨some 53, false, .call (.c (.fn 968 [])) [.t 52], none⟩, ⟨some 54, false, .un .not (.t 53), none⟩] [0, 3, 4, 54] []) (.cond (.t 54) (.seq (.reg false [⟨some 2, false, .asg (.c (.bool false)), none⟩] [2] []) .ret) .skip))) (.reg false [⟨some 44, false, .mv (.t 4), none⟩, ⟨some 45, false, .bin .add (.t 44) (.c (.int .i64 1)), none⟩, ⟨some 4, false, .asg (.t 45), none⟩] [0, 3, 4] []))
def spec_l08Ok_k1 : C :=
  .norm [0, 3, 4] [] spec_l08Ok_k0
def spec_l08Ok_k2 : C :=
  .seq (.reg false [⟨some 4, false, .asg (.c (.int .i64 0)), none⟩] [0, 3, 4] []) (.block 2 (.loop spec_l08Ok_k1))
def spec_l08Ok_k3 : C :=
  .reg false [⟨some 9, false, .mv (.t 3), none⟩, ⟨some 10, false, .bin .add (.t 9) (.c (.int .i64 1)), none⟩, ⟨some 3, false, .asg (.t 10), none⟩] [0, 3] []
def spec_l08Ok_k4 : C :=
  .seq (.seq (.reg false [⟨some 5, false, .mv (.t 3), none⟩, ⟨some 6, false, .mv (.t 0), none⟩, ⟨some 7, false, .len (.t 6), none⟩, ⟨some 8, false, .bin .lss (.t 5) (.t 7), none⟩] [0, 3, 8] []) (.cond (.t 8) .skip (.exit 0))) (.seq (.block 1 (.seq (.seq (.reg true [⟨some 11, false, .mv (.t 0), none⟩, ⟨some 12, false, .mv (.t 3), none⟩, ⟨some 13, false, .ia 1 (.t 11) (.t 12), none⟩, ⟨some 14, false, .ld none (.t 13), none⟩, ⟨some 15, false, .len (.t 14), none⟩, ⟨some 16, false, .bin .lss (.t 15) (.c (.int .i64 1)), none⟩, ⟨some 17, false, .mv (.t 16), none⟩, ⟨some 18, false, .mv (.t 0), some (6, false)⟩, ⟨some 19, false, .mv (.t 3), some (6, false)⟩, ⟨some 20, false, .ia 1 (.t 18) (.t 19), some (6, false)⟩, ⟨some 21, false, .ld none (.t 20), some (6, false)⟩, ⟨some 22, false, .len (.t 21), some (6, false)⟩, ⟨some 23, false, .bin .gtr (.t 22) (.c (.int .i64 10)), some (6, false)⟩, ⟨some 24, false, .pick (.t 17) (.c (.bool true)) (.t 23), none⟩, ⟨some 25, false, .mv (.t 24), none⟩, ⟨some 26, false, .mv (.t 0), some (14, false)⟩, ⟨some 27, false, .mv (.t 3), some (14, false)⟩, ⟨some 28, false, .ia 1 (.t 26) (.t 27), some (14, false)⟩, ⟨some 29, false, .ld none (.t 28), some (14, false)⟩, ⟨some 30, false, .len (.t 29), some (14, false)⟩, ⟨some 31, false, .mv (.t 0), some (14, false)⟩, ⟨some 32, false, .ia 1 (.t 31) (.c (.int .i64 0)), some (14, false)⟩, ⟨some 33, false, .ld none (.t 32), some (14, false)⟩, ⟨some 34, false, .len (.t 33), some (14, false)⟩, ⟨some 35, false, .bin .neq (.t 30) (.t 34), some (14, false)⟩, ⟨some 36, false, .pick (.t 25) (.c (.bool true)) (.t 35), none⟩] [0, 3, 36] []) (.cond (.t 36) (.seq (.reg false [⟨some 2, false, .asg (.c (.bool false)), none⟩] [2] []) .ret) .skip)) (.norm [0, 3] [] spec_l08Ok_k2))) spec_l08Ok_k3)
def spec_l08Ok_k5 : C :=
  .norm [0, 3] [] spec_l08Ok_k4
def spec_l08Ok_k6 : C :=
  .seq (.reg false [⟨some 55, false, .mv (.t 0), none⟩, ⟨some 56, false, .len (.t 55), none⟩, ⟨some 57, false, .bin .geq (.t 56) (.c (.int .i64 1)), none⟩, ⟨some 58, false, .mv (.t 57), none⟩, ⟨some 59, false, .mv (.t 0), some (3, true)⟩, ⟨some 60, false, .len (.t 59), some (3, true)⟩, ⟨some 61, false, .bin .leq (.t 60) (.c (.int .i64 10)), some (3, true)⟩, ⟨some 62, false, .pick (.t 58) (.t 61) (.c (.bool false)), none⟩, ⟨some 2, false, .asg (.t 62), none⟩] [2] []) .ret
def spec_l08Ok_ir : Fn := { np := 1, io := [], res := [.t 2], own := [false], body :=
  (.seq (.reg false [⟨some 2, false, .asg (.c (.bool false)), none⟩] [0] []) (.seq (.seq (.reg false [⟨some 3, false, .asg (.c (.int .i64 0)), none⟩] [0, 3] []) (.block 0 (.loop spec_l08Ok_k5))) spec_l08Ok_k6)) }
noncomputable def spec_l08Ok_D : List (Nat × Callee) := [(968, spec_l08Thick_c)]
def spec_l08Ok_H : List (Nat × ET) := [(6, (.one (.sl (.one (.int .i64))))), (11, (.one (.sl (.one (.int .i64))))), (14, (.one (.int .i64))), (18, (.one (.sl (.one (.int .i64))))), (21, (.one (.int .i64))), (26, (.one (.sl (.one (.int .i64))))), (29, (.one (.int .i64))), (31, (.one (.sl (.one (.int .i64))))), (33, (.one (.int .i64))), (38, (.one (.sl (.one (.int .i64))))), (41, (.one (.int .i64))), (46, (.one (.sl (.one (.int .i64))))), (49, (.one (.int .i64))), (55, (.one (.sl (.one (.int .i64))))), (59, (.one (.sl (.one (.int .i64)))))]
noncomputable def spec_l08Ok_c : Callee := mkCallee spec_l08Ok_D spec_l08Ok_H spec_l08Ok_ir [.d (.one (.sl (.one (.sl (.one (.int .i64))))))] [.d (.one .bool)] []
noncomputable def spec_l08Ok (a0 : List (List Int)) : Option (Bool) := spec_l08Ok_c.f (a0, ())
noncomputable def spec_l08Ok_p0  (v0 : List (List Int)) (v3 : Int) : Option (Bool) :=
  goL spec_l08Ok_D spec_l08Ok_H (vleave spec_l08Ok_ir [.d (.one (.sl (.one (.sl (.one (.int .i64))))))] [.d (.one .bool)] [] []) [.c spec_l08Ok_k4, .l spec_l08Ok_k5, .e 0, .c spec_l08Ok_k6]
    ⟨[(0, .sl (.one (.sl (.one (.int .i64)))) v0), (3, .int .i64 v3)], []⟩
noncomputable def spec_l08Ok_p1  (v0 : List (List Int)) (v3 : Int) : Option (Bool) :=
  goL spec_l08Ok_D spec_l08Ok_H (vleave spec_l08Ok_ir [.d (.one (.sl (.one (.sl (.one (.int .i64))))))] [.d (.one .bool)] [] []) [.c spec_l08Ok_k2, .e 1, .c spec_l08Ok_k3, .l spec_l08Ok_k5, .e 0, .c spec_l08Ok_k6]
    ⟨[(0, .sl (.one (.sl (.one (.int .i64)))) v0), (3, .int .i64 v3)], []⟩
noncomputable def spec_l08Ok_p2  (v0 : List (List Int)) (v3 : Int) (v4 : Int) : Option (Bool) :=
  goL spec_l08Ok_D spec_l08Ok_H (vleave spec_l08Ok_ir [.d (.one (.sl (.one (.sl (.one (.int .i64))))))] [.d (.one .bool)] [] []) [.c spec_l08Ok_k0, .l spec_l08Ok_k1, .e 2, .e 1, .c spec_l08Ok_k3, .l spec_l08Ok_k5, .e 0, .c spec_l08Ok_k6]
    ⟨[(0, .sl (.one (.sl (.one (.int .i64)))) v0), (3, .int .i64 v3), (4, .int .i64 v4)], []⟩
theorem spec_l08Ok_eq (a0 : List (List Int)) : spec_l08Ok a0 =
    spec_l08Ok_p0 a0 0 :=
  (mk_f _ _ _ _ _ _ _ 4000).trans (by kernel_rfl)
theorem spec_l08Ok_p0_eq  (v0 : List (List Int)) (v3 : Int) : spec_l08Ok_p0 v0 v3 =
    if decide (v3 < (v0.length : Int)) then
      if decide (0 ≤ v3) then
        (v0[v3.toNat]?).bind fun x1 =>
          if decide ((x1.length : Int) < 1) then
            some false
          else
            if decide (0 ≤ v3) then
              (v0[v3.toNat]?).bind fun x2 =>
                if decide ((x2.length : Int) > 10) then
                  some false
                else
                  if decide (0 ≤ v3) then
                    (v0[v3.toNat]?).bind fun x3 =>
                      (v0[0]?).bind fun x4 =>
                        if ((x3.length : Int) != (x4.length : Int)) then
                          some false
                        else
                          spec_l08Ok_p1 v0 v3
                  else
                    none
            else
              none
      else
        none
    else
      if decide ((v0.length : Int) ≥ 1) then
        some (decide ((v0.length : Int) ≤ 10))
      else
        some false :=
  (goL_dn _ _ _ 4000 _ _).trans (by kernel_rfl)
theorem spec_l08Ok_p1_eq  (v0 : List (List Int)) (v3 : Int) : spec_l08Ok_p1 v0 v3 =
    spec_l08Ok_p2 v0 v3 0 :=
  (goL_dn _ _ _ 4000 _ _).trans (by kernel_rfl)
theorem spec_l08Ok_p2_eq  (v0 : List (List Int)) (v3 : Int) (v4 : Int) : spec_l08Ok_p2 v0 v3 v4 =
    if decide (0 ≤ v3) then
      (v0[v3.toNat]?).bind fun x1 =>
        if decide (v4 < (x1.length : Int)) then
          if decide (0 ≤ v3) then
            (v0[v3.toNat]?).bind fun x2 =>
              if decide (0 ≤ v4) then
                (x2[v4.toNat]?).bind fun x3 =>
                  (spec_l08Thick x3).bind fun x4 =>
                    if (!x4) then
                      some false
                    else
                      spec_l08Ok_p2 v0 v3 (IntKind.i64.wrap (v4 + 1))
              else
                none
          else
            none
        else
          spec_l08Ok_p0 v0 (IntKind.i64.wrap (v3 + 1))
    else
      none :=
  (goL_dn _ _ _ 4000 _ _).trans (by kernel_rfl)

/- spec.l10Size -/
def spec_l10Size_ir : Fn := { np := 1, io := [], res := [.t 2], own := [false], body :=
  (.seq (.reg false [⟨some 2, false, .asg (.c (.bool false)), none⟩] [0] []) (.seq (.reg false [⟨some 3, false, .mv (.t 0), none⟩, ⟨some 4, false, .call (.c (.fn 1 [])) [.t 3, .c (.int .i64 100), .c (.int .i64 10000)], none⟩, ⟨some 2, false, .asg (.t 4), none⟩] [2] []) .ret)) }
noncomputable def spec_l10Size_D : List (Nat × Callee) := [(1, spec_l00In_c)]
def spec_l10Size_H : List (Nat × ET) := []
noncomputable def spec_l10Size_c : Callee := mkCallee spec_l10Size_D spec_l10Size_H spec_l10Size_ir [.d (.one (.int .i64))] [.d (.one .bool)] []
noncomputable def spec_l10Size (a0 : Int) : Option (Bool) := spec_l10Size_c.f (a0, ())
theorem spec_l10Size_eq (a0 : Int) : spec_l10Size a0 =
    (spec_l00In a0 100 10000).bind fun x1 =>
      some x1 :=
  (mk_f _ _ _ _ _ _ _ 4000).trans (by kernel_rfl)

/- spec.l10Ok -/
def spec_l10Ok_ir : Fn := { np := 1, io := [], res := [.t 2], own := [false], body :=
  (.seq (.reg false [⟨some 2, false, .asg (.c (.bool false)), none⟩] [0] []) (.seq (.reg false [⟨some 3, false, .mv (.t 0), none⟩, ⟨some 4, false, .nilck (.t 3), none⟩, ⟨some 5, false, .fa 0 (.t 4), none⟩, ⟨some 6, false, .ld none (.t 5), none⟩, ⟨some 7, false, .call (.c (.fn 844 [])) [.t 6], none⟩, ⟨some 8, false, .mv (.t 7), none⟩, ⟨some 9, false, .mv (.t 0), some (5, true)⟩, ⟨some 10, false, .nilck (.t 9), some (5, true)⟩, ⟨some 11, false, .fa 1 (.t 10), some (5, true)⟩, ⟨some 12, false, .ld none (.t 11), some (5, true)⟩, ⟨some 13, false, .call (.c (.fn 844 [])) [.t 12], some (5, true)⟩, ⟨some 14, false, .pick (.t 8) (.t 13) (.c (.bool false)), none⟩, ⟨some 15, false, .mv (.t 14), none⟩, ⟨some 16, false, .mv (.t 0), some (12, true)⟩, ⟨some 17, false, .nilck (.t 16), some (12, true)⟩, ⟨some 18, false, .fa 2 (.t 17), some (12, true)⟩, ⟨some 19, false, .ld none (.t 18), some (12, true)⟩, ⟨some 20, false, .call (.c (.fn 1 [])) [.t 19, .c (.int .i64 0), .c (.int .i64 500)], some (12, true)⟩, ⟨some 21, false, .pick (.t 15) (.t 20) (.c (.bool false)), none⟩, ⟨some 22, false, .mv (.t 21), none⟩, ⟨some 23, false, .mv (.t 0), some (19, true)⟩, ⟨some 24, false, .nilck (.t 23), some (19, true)⟩, ⟨some 25, false, .fa 3 (.t 24), some (19, true)⟩, ⟨some 26, false, .ld none (.t 25), some (19, true)⟩, ⟨some 27, false, .call (.c (.fn 1 [])) [.t 26, .c (.int .i64 0), .c (.int .i64 300)], some (19, true)⟩, ⟨some 28, false, .pick (.t 22) (.t 27) (.c (.bool false)), none⟩, ⟨some 2, false, .asg (.t 28), none⟩] [2] []) .ret)) }
noncomputable def spec_l10Ok_D : List (Nat × Callee) := [(1, spec_l00In_c), (844, spec_l10Size_c)]
def spec_l10Ok_H : List (Nat × ET) := []
noncomputable def spec_l10Ok_c : Callee := mkCallee spec_l10Ok_D spec_l10Ok_H spec_l10Ok_ir [.p T_Neck] [.d (.one .bool)] []
noncomputable def spec_l10Ok (a0 : T_Neck.ty) : Option (Bool) := spec_l10Ok_c.f (a0, ())
theorem spec_l10Ok_eq (a0 : T_Neck.ty) : spec_l10Ok a0 =
    (spec_l10Size a0.1).bind fun x1 =>
      if x1 then
        (spec_l10Size a0.2.1).bind fun x2 =>
          if x2 then
            (spec_l00In a0.2.2.1 0 500).bind fun x3 =>
              if x3 then
                (spec_l00In a0.2.2.2.1 0 300).bind fun x4 =>
                  some x4
              else
                some false
          else
            some false
      else
        some false :=
  (mk_f _ _ _ _ _ _ _ 4000).trans (by kernel_rfl)

/- spec.l12Hole -/
def spec_l12Hole_ir : Fn := { np := 1, io := [], res := [.t 2], own := [false], body :=
  (.seq (.reg false [⟨some 2, false, .asg (.c (.bool false)), none⟩] [0] []) (.seq (.reg false [⟨some 3, false, .mv (.t 0), none⟩, ⟨some 4, false, .call (.c (.fn 1 [])) [.t 3, .c (.int .i64 20), .c (.int .i64 200)], none⟩, ⟨some 2, false, .asg (.t 4), none⟩] [2] []) .ret)) }
noncomputable def spec_l12Hole_D : List (Nat × Callee) := [(1, spec_l00In_c)]
def spec_l12Hole_H : List (Nat × ET) := []
noncomputable def spec_l12Hole_c : Callee := mkCallee spec_l12Hole_D spec_l12Hole_H spec_l12Hole_ir [.d (.one (.int .i64))] [.d (.one .bool)] []
noncomputable def spec_l12Hole (a0 : Int) : Option (Bool) := spec_l12Hole_c.f (a0, ())
theorem spec_l12Hole_eq (a0 : Int) : spec_l12Hole a0 =
    (spec_l00In a0 20 200).bind fun x1 =>
      some x1 :=
  (mk_f _ _ _ _ _ _ _ 4000).trans (by kernel_rfl)

/- spec.l12One -/
def spec_l12One_ir : Fn := { np := 1, io := [], res := [.t 2], own := [false], body :=
  (.seq (.reg false [⟨some 2, false, .asg (.c (.bool false)), none⟩] [0] []) (.seq (.reg false [⟨some 3, false, .mv (.t 0), none⟩, ⟨some 4, false, .nilck (.t 3), none⟩, ⟨some 5, false, .fa 0 (.t 4), none⟩, ⟨some 6, false, .ld none (.t 5), none⟩, ⟨some 7, false, .call (.c (.fn 13 [])) [.t 6], none⟩, ⟨some 8, false, .mv (.t 7), none⟩, ⟨some 9, false, .mv (.t 0), some (5, true)⟩, ⟨some 10, false, .nilck (.t 9), some (5, true)⟩, ⟨some 11, false, .fa 1 (.t 10), some (5, true)⟩, ⟨some 12, false, .ld none (.t 11), some (5, true)⟩, ⟨some 13, false, .call (.c (.fn 495 [])) [.t 12], some (5, true)⟩, ⟨some 14, false, .pick (.t 8) (.t 13) (.c (.bool false)), none⟩, ⟨some 15, false, .mv (.t 14), none⟩, ⟨some 16, false, .mv (.t 0), some (12, true)⟩, ⟨some 17, false, .nilck (.t 16), some (12, true)⟩, ⟨some 18, false, .fa 2 (.t 17), some (12, true)⟩, ⟨some 19, false, .ld none (.t 18), some (12, true)⟩, ⟨some 20, false, .call (.c (.fn 1 [])) [.t 19, .c (.int .i64 100), .c (.int .i64 1000)], some (12, true)⟩, ⟨some 21, false, .pick (.t 15) (.t 20) (.c (.bool false)), none⟩, ⟨some 22, false, .mv (.t 21), none⟩, ⟨some 23, false, .mv (.t 0), some (19, true)⟩, ⟨some 24, false, .nilck (.t 23), some (19, true)⟩, ⟨some 25, false, .fa 3 (.t 24), some (19, true)⟩, ⟨some 26, false, .ld none (.t 25), some (19, true)⟩, ⟨some 27, false, .call (.c (.fn 1 [])) [.t 26, .c (.int .i64 10), .c (.int .i64 100)], some (19, true)⟩, ⟨some 28, false, .pick (.t 22) (.t 27) (.c (.bool false)), none⟩, ⟨some 2, false, .asg (.t 28), none⟩] [2] []) .ret)) }
noncomputable def spec_l12One_D : List (Nat × Callee) := [(1, spec_l00In_c), (13, spec_l01Name_c), (495, spec_l12Hole_c)]
def spec_l12One_H : List (Nat × ET) := []
noncomputable def spec_l12One_c : Callee := mkCallee spec_l12One_D spec_l12One_H spec_l12One_ir [.p T_Peg] [.d (.one .bool)] []
noncomputable def spec_l12One (a0 : T_Peg.ty) : Option (Bool) := spec_l12One_c.f (a0, ())
theorem spec_l12One_eq (a0 : T_Peg.ty) : spec_l12One a0 =
    (spec_l01Name a0.1).bind fun x1 =>
      if x1 then
        (spec_l12Hole a0.2.1).bind fun x2 =>
          if x2 then
            (spec_l00In a0.2.2.1 100 1000).bind fun x3 =>
              if x3 then
                (spec_l00In a0.2.2.2.1 10 100).bind fun x4 =>
                  some x4
              else
                some false
          else
            some false
      else
        some false :=
  (mk_f _ _ _ _ _ _ _ 4000).trans (by kernel_rfl)

/- spec.l12Ok -/
def spec_l12Ok_k0 : C :=
  .seq (.seq (.reg false [⟨some 4, false, .mv (.t 3), none⟩, ⟨some 5, false, .mv (.t 0), none⟩, ⟨some 6, false, .len (.t 5), none⟩, ⟨some 7, false, .bin .lss (.t 4) (.t 6), none⟩] [0, 3, 7] []) (.cond (.t 7) .skip (.exit 0))) (.seq (.block 1 (.seq (.reg true [⟨some 10, false, .mv (.t 0), none⟩, ⟨some 11, false, .mv (.t 3), none⟩, ⟨some 12, false, .ia 4 (.t 10) (.t 11), none⟩, ⟨some 13, false, .call (.c (.fn 800 [])) [.t 12], none⟩, ⟨some 14, false, .un .not (.t 13), none⟩, ⟨some 15, false, .mv (.t 14), none⟩, ⟨some 16, false, .mv (.t 3), some (5, false)⟩, ⟨some 17, false, .bin .gtr (.t 16) (.c (.int .i64 0)), some (5, false)⟩, ⟨some 18, false, .mv (.t 17), some (5, false)⟩, ⟨some 19, false, .mv (.t 0), some (8, true)⟩, ⟨some 20, false, .mv (.t 3), some (8, true)⟩, ⟨some 21, false, .bin .sub (.t 20) (.c (.int .i64 1)), some (8, true)⟩, ⟨some 22, false, .ia 4 (.t 19) (.t 21), some (8, true)⟩, ⟨some 23, false, .fa 0 (.t 22), some (8, true)⟩, ⟨some 24, false, .ld none (.t 23), some (8, true)⟩, ⟨some 25, false, .mv (.t 0), some (8, true)⟩, ⟨some 26, false, .mv (.t 3), some (8, true)⟩, ⟨some 27, false, .ia 4 (.t 25) (.t 26), some (8, true)⟩, ⟨some 28, false, .fa 0 (.t 27), some (8, true)⟩, ⟨some 29, false, .ld none (.t 28), some (8, true)⟩, ⟨some 30, false, .bin .geq (.t 24) (.t 29), some (8, true)⟩, ⟨some 31, false, .pick (.t 18) (.t 30) (.c (.bool false)), some (5, false)⟩, ⟨some 32, false, .pick (.t 15) (.c (.bool true)) (.t 31), none⟩] [0, 3, 32] []) (.cond (.t 32) (.seq (.reg false [⟨some 2, false, .asg (.c (.bool false)), none⟩] [2] []) .ret) .skip))) (.reg false [⟨some 8, false, .mv (.t 3), none⟩, ⟨some 9, false, .bin .add (.t 8) (.c (.int .i64 1)), none⟩, ⟨some 3, false, .asg (.t 9), none⟩] [0, 3] []))
def spec_l12Ok_k1 : C :=
  .norm [0, 3] [] spec_l12Ok_k0
def spec_l12Ok_k2 : C :=
  .seq (.reg false [⟨some 33, false, .mv (.t 0), none⟩, ⟨some 34, false, .len (.t 33), none⟩, ⟨some 35, false, .bin .leq (.t 34) (.c (.int .i64 8)), none⟩, ⟨some 2, false, .asg (.t 35), none⟩] [2] []) .ret
def spec_l12Ok_ir : Fn := { np := 1, io := [], res := [.t 2], own := [false], body :=
  (.seq (.reg false [⟨some 2, false, .asg (.c (.bool false)), none⟩] [0] []) (.seq (.seq (.reg false [⟨some 3, false, .asg (.c (.int .i64 0)), none⟩] [0, 3] []) (.block 0 (.loop spec_l12Ok_k1))) spec_l12Ok_k2)) }
noncomputable def spec_l12Ok_D : List (Nat × Callee) := [(800, spec_l12One_c)]
def spec_l12Ok_H : List (Nat × ET) := [(5, T_Peg), (10, T_Peg), (19, T_Peg), (25, T_Peg), (33, T_Peg)]
noncomputable def spec_l12Ok_c : Callee := mkCallee spec_l12Ok_D spec_l12Ok_H spec_l12Ok_ir [.d (.one (.sl T_Peg))] [.d (.one .bool)] []
noncomputable def spec_l12Ok (a0 : List T_Peg.ty) : Option (Bool) := spec_l12Ok_c.f (a0, ())
noncomputable def spec_l12Ok_p0  (v0 : List T_Peg.ty) (v3 : Int) : Option (Bool) :=
  goL spec_l12Ok_D spec_l12Ok_H (vleave spec_l12Ok_ir [.d (.one (.sl T_Peg))] [.d (.one .bool)] [] []) [.c spec_l12Ok_k0, .l spec_l12Ok_k1, .e 0, .c spec_l12Ok_k2]
    ⟨[(0, .sl T_Peg v0), (3, .int .i64 v3)], []⟩
theorem spec_l12Ok_eq (a0 : List T_Peg.ty) : spec_l12Ok a0 =
    spec_l12Ok_p0 a0 0 :=
  (mk_f _ _ _ _ _ _ _ 4000).trans (by kernel_rfl)
theorem spec_l12Ok_p0_eq  (v0 : List T_Peg.ty) (v3 : Int) : spec_l12Ok_p0 v0 v3 =
    if decide (v3 < (v0.length : Int)) then
      if decide (0 ≤ v3) then
        (v0[v3.toNat]?).bind fun x1 =>
          (spec_l12One x1).bind fun x2 =>
            if (!x2) then
              some false
            else
              if decide (v3 > 0) then
                if decide (0 ≤ IntKind.i64.wrap (v3 - 1)) then
                  (v0[(IntKind.i64.wrap (v3 - 1)).toNat]?).bind fun x3 =>
                    if decide (0 ≤ v3) then
                      (v0[v3.toNat]?).bind fun x4 =>
                        if (!Op.bytesLess x3.1 x4.1) then
                          some false
                        else
                          spec_l12Ok_p0 v0 (IntKind.i64.wrap (v3 + 1))
                    else
                      none
                else
                  none
              else
                spec_l12Ok_p0 v0 (IntKind.i64.wrap (v3 + 1))
      else
        none
    else
      some (decide ((v0.length : Int) ≤ 8)) :=
  (goL_dn _ _ _ 4000 _ _).trans (by kernel_rfl)

/- spec.l14Grams -/
def spec_l14Grams_ir : Fn := { np := 1, io := [], res := [.t 2], own := [false], body :=
  (.seq (.reg false [⟨some 2, false, .asg (.c (.bool false)), none⟩] [0] []) (.seq (.reg false [⟨some 3, false, .mv (.t 0), none⟩, ⟨some 4, false, .call (.c (.fn 1 [])) [.t 3, .c (.int .i64 1), .c (.int .i64 10000)], none⟩, ⟨some 2, false, .asg (.t 4), none⟩] [2] []) .ret)) }
noncomputable def spec_l14Grams_D : List (Nat × Callee) := [(1, spec_l00In_c)]
def spec_l14Grams_H : List (Nat × ET) := []
noncomputable def spec_l14Grams_c : Callee := mkCallee spec_l14Grams_D spec_l14Grams_H spec_l14Grams_ir [.d (.one (.int .i64))] [.d (.one .bool)] []
noncomputable def spec_l14Grams (a0 : Int) : Option (Bool) := spec_l14Grams_c.f (a0, ())
theorem spec_l14Grams_eq (a0 : Int) : spec_l14Grams a0 =
    (spec_l00In a0 1 10000).bind fun x1 =>
      some x1 :=
  (mk_f _ _ _ _ _ _ _ 4000).trans (by kernel_rfl)

/- spec.l14Heat -/
def spec_l14Heat_ir : Fn := { np := 1, io := [], res := [.t 2], own := [false], body :=
  (.seq (.reg false [⟨some 2, false, .asg (.c (.bool false)), none⟩] [0] []) (.seq (.reg false [⟨some 3, false, .mv (.t 0), none⟩, ⟨some 4, false, .call (.c (.fn 1 [])) [.t 3, .c (.int .i64 20), .c (.int .i64 95)], none⟩, ⟨some 2, false, .asg (.t 4), none⟩] [2] []) .ret)) }
noncomputable def spec_l14Heat_D : List (Nat × Callee) := [(1, spec_l00In_c)]
def spec_l14Heat_H : List (Nat × ET) := []
noncomputable def spec_l14Heat_c : Callee := mkCallee spec_l14Heat_D spec_l14Heat_H spec_l14Heat_ir [.d (.one (.int .i64))] [.d (.one .bool)] []
noncomputable def spec_l14Heat (a0 : Int) : Option (Bool) := spec_l14Heat_c.f (a0, ())
theorem spec_l14Heat_eq (a0 : Int) : spec_l14Heat a0 =
    (spec_l00In a0 20 95).bind fun x1 =>
      some x1 :=
  (mk_f _ _ _ _ _ _ _ 4000).trans (by kernel_rfl)

/- spec.l14One -/
def spec_l14One_ir : Fn := { np := 1, io := [], res := [.t 2], own := [false], body :=
  (.seq (.reg false [⟨some 2, false, .asg (.c (.bool false)), none⟩] [0] []) (.seq (.reg false [⟨some 3, false, .mv (.t 0), none⟩, ⟨some 4, false, .nilck (.t 3), none⟩, ⟨some 5, false, .fa 0 (.t 4), none⟩, ⟨some 6, false, .ld none (.t 5), none⟩, ⟨some 7, false, .call (.c (.fn 13 [])) [.t 6], none⟩, ⟨some 8, false, .mv (.t 7), none⟩, ⟨some 9, false, .mv (.t 0), some (5, true)⟩, ⟨some 10, false, .nilck (.t 9), some (5, true)⟩, ⟨some 11, false, .fa 1 (.t 10), some (5, true)⟩, ⟨some 12, false, .ld none (.t 11), some (5, true)⟩, ⟨some 13, false, .call (.c (.fn 14 [])) [.t 12], some (5, true)⟩, ⟨some 14, false, .pick (.t 8) (.t 13) (.c (.bool false)), none⟩, ⟨some 15, false, .mv (.t 14), none⟩, ⟨some 16, false, .mv (.t 0), some (12, true)⟩, ⟨some 17, false, .nilck (.t 16), some (12, true)⟩, ⟨some 18, false, .fa 2 (.t 17), some (12, true)⟩, ⟨some 19, false, .ld none (.t 18), some (12, true)⟩, ⟨some 20, false, .call (.c (.fn 14 [])) [.t 19], some (12, true)⟩, ⟨some 21, false, .pick (.t 15) (.t 20) (.c (.bool false)), none⟩, ⟨some 22, false, .mv (.t 21), none⟩, ⟨some 23, false, .mv (.t 0), some (19, true)⟩, ⟨some 24, false, .nilck (.t 23), some (19, true)⟩, ⟨some 25, false, .fa 3 (.t 24), some (19, true)⟩, ⟨some 26, false, .ld none (.t 25), some (19, true)⟩, ⟨some 27, false, .call (.c (.fn 15 [])) [.t 26], some (19, true)⟩, ⟨some 28, false, .pick (.t 22) (.t 27) (.c (.bool false)), none⟩, ⟨some 29, false, .mv (.t 28), none⟩, ⟨some 30, false, .mv (.t 0), some (26, true)⟩, ⟨some 31, false, .nilck (.t 30), some (26, true)⟩, ⟨some 32, false, .fa 4 (.t 31), some (26, true)⟩, ⟨some 33, false, .ld none (.t 32), some (26, true)⟩, ⟨some 34, false, .call (.c (.fn 1 [])) [.t 33, .c (.int .i64 0), .c (.int .i64 1000)], some (26, true)⟩, ⟨some 35, false, .pick (.t 29) (.t 34) (.c (.bool false)), none⟩, ⟨some 2, false, .asg (.t 35), none⟩] [2] []) .ret)) }
noncomputable def spec_l14One_D : List (Nat × Callee) := [(1, spec_l00In_c), (13, spec_l01Name_c), (14, spec_l14Grams_c), (15, spec_l14Heat_c)]
def spec_l14One_H : List (Nat × ET) := []
noncomputable def spec_l14One_c : Callee := mkCallee spec_l14One_D spec_l14One_H spec_l14One_ir [.p T_Pot] [.d (.one .bool)] []
noncomputable def spec_l14One (a0 : T_Pot.ty) : Option (Bool) := spec_l14One_c.f (a0, ())
theorem spec_l14One_eq (a0 : T_Pot.ty) : spec_l14One a0 =
    (spec_l01Name a0.1).bind fun x1 =>
      if x1 then
        (spec_l14Grams a0.2.1).bind fun x2 =>
          if x2 then
            (spec_l14Grams a0.2.2.1).bind fun x3 =>
              if x3 then
                (spec_l14Heat a0.2.2.2.1).bind fun x4 =>
                  if x4 then
                    (spec_l00In a0.2.2.2.2.1 0 1000).bind fun x5 =>
                      some x5
                  else
                    some false
              else
                some false
          else
            some false
      else
        some false :=
  (mk_f _ _ _ _ _ _ _ 4000).trans (by kernel_rfl)

/- spec.l14Ok -/
def spec_l14Ok_k0 : C :=
  .seq (.seq (.reg false [⟨some 4, false, .mv (.t 3), none⟩, ⟨some 5, false, .mv (.t 0), none⟩, ⟨some 6, false, .len (.t 5), none⟩, ⟨some 7, false, .bin .lss (.t 4) (.t 6), none⟩] [0, 3, 7] []) (.cond (.t 7) .skip (.exit 0))) (.seq (.block 1 (.seq (.reg true [⟨some 10, false, .mv (.t 0), none⟩, ⟨some 11, false, .mv (.t 3), none⟩, ⟨some 12, false, .ia 5 (.t 10) (.t 11), none⟩, ⟨some 13, false, .call (.c (.fn 20 [])) [.t 12], none⟩, ⟨some 14, false, .un .not (.t 13), none⟩, ⟨some 15, false, .mv (.t 14), none⟩, ⟨some 16, false, .mv (.t 3), some (5, false)⟩, ⟨some 17, false, .bin .gtr (.t 16) (.c (.int .i64 0)), some (5, false)⟩, ⟨some 18, false, .mv (.t 17), some (5, false)⟩, ⟨some 19, false, .mv (.t 0), some (8, true)⟩, ⟨some 20, false, .mv (.t 3), some (8, true)⟩, ⟨some 21, false, .bin .sub (.t 20) (.c (.int .i64 1)), some (8, true)⟩, ⟨some 22, false, .ia 5 (.t 19) (.t 21), some (8, true)⟩, ⟨some 23, false, .fa 0 (.t 22), some (8, true)⟩, ⟨some 24, false, .ld none (.t 23), some (8, true)⟩, ⟨some 25, false, .mv (.t 0), some (8, true)⟩, ⟨some 26, false, .mv (.t 3), some (8, true)⟩, ⟨some 27, false, .ia 5 (.t 25) (.t 26), some (8, true)⟩, ⟨some 28, false, .fa 0 (.t 27), some (8, true)⟩, ⟨some 29, false, .ld none (.t 28), some (8, true)⟩, ⟨some 30, false, .bin .geq (.t 24) (.t 29), some (8, true)⟩, ⟨some 31, false, .pick (.t 18) (.t 30) (.c (.bool false)), some (5, false)⟩, ⟨some 32, false, .pick (.t 15) (.c (.bool true)) (.t 31), none⟩] [0, 3, 32] []) (.cond (.t 32) (.seq (.reg false [⟨some 2, false, .asg (.c (.bool false)), none⟩] [2] []) .ret) .skip))) (.reg false [⟨some 8, false, .mv (.t 3), none⟩, ⟨some 9, false, .bin .add (.t 8) (.c (.int .i64 1)), none⟩, ⟨some 3, false, .asg (.t 9), none⟩] [0, 3] []))
def spec_l14Ok_k1 : C :=
  .norm [0, 3] [] spec_l14Ok_k0
def spec_l14Ok_k2 : C :=
  .seq (.reg false [⟨some 33, false, .mv (.t 0), none⟩, ⟨some 34, false, .len (.t 33), none⟩, ⟨some 35, false, .bin .leq (.t 34) (.c (.int .i64 8)), none⟩, ⟨some 2, false, .asg (.t 35), none⟩] [2] []) .ret
def spec_l14Ok_ir : Fn := { np := 1, io := [], res := [.t 2], own := [false], body :=
  (.seq (.reg false [⟨some 2, false, .asg (.c (.bool false)), none⟩] [0] []) (.seq (.seq (.reg false [⟨some 3, false, .asg (.c (.int .i64 0)), none⟩] [0, 3] []) (.block 0 (.loop spec_l14Ok_k1))) spec_l14Ok_k2)) }
noncomputable def spec_l14Ok_D : List (Nat × Callee) := [(20, spec_l14One_c)]
def spec_l14Ok_H : List (Nat × ET) := [(5, T_Pot), (10, T_Pot), (19, T_Pot), (25, T_Pot), (33, T_Pot)]
noncomputable def spec_l14Ok_c : Callee := mkCallee spec_l14Ok_D spec_l14Ok_H spec_l14Ok_ir [.d (.one (.sl T_Pot))] [.d (.one .bool)] []
noncomputable def spec_l14Ok (a0 : List T_Pot.ty) : Option (Bool) := spec_l14Ok_c.f (a0, ())
noncomputable def spec_l14Ok_p0  (v0 : List T_Pot.ty) (v3 : Int) : Option (Bool) :=
  goL spec_l14Ok_D spec_l14Ok_H (vleave spec_l14Ok_ir [.d (.one (.sl T_Pot))] [.d (.one .bool)] [] []) [.c spec_l14Ok_k0, .l spec_l14Ok_k1, .e 0, .c spec_l14Ok_k2]
    ⟨[(0, .sl T_Pot v0), (3, .int .i64 v3)], []⟩
theorem spec_l14Ok_eq (a0 : List T_Pot.ty) : spec_l14Ok a0 =
    spec_l14Ok_p0 a0 0 :=
  (mk_f _ _ _ _ _ _ _ 4000).trans (by kernel_rfl)
theorem spec_l14Ok_p0_eq  (v0 : List T_Pot.ty) (v3 : Int) : spec_l14Ok_p0 v0 v3 =
    if decide (v3 < (v0.length : Int)) then
      if decide (0 ≤ v3) then
        (v0[v3.toNat]?).bind fun x1 =>
          (spec_l14One x1).bind fun x2 =>
            if (!x2) then
              some false
            else
              if decide (v3 > 0) then
                if decide (0 ≤ IntKind.i64.wrap (v3 - 1)) then
                  (v0[(IntKind.i64.wrap (v3 - 1)).toNat]?).bind fun x3 =>
                    if decide (0 ≤ v3) then
                      (v0[v3.toNat]?).bind fun x4 =>
                        if (!Op.bytesLess x3.1 x4.1) then
                          some false
                        else
                          spec_l14Ok_p0 v0 (IntKind.i64.wrap (v3 + 1))
                    else
                      none
                else
                  none
              else
                spec_l14Ok_p0 v0 (IntKind.i64.wrap (v3 + 1))
      else
        none
    else
      some (decide ((v0.length : Int) ≤ 8)) :=
  (goL_dn _ _ _ 4000 _ _).trans (by kernel_rfl)

/- spec.l16Tone -/
def spec_l16Tone_ir : Fn := { np := 1, io := [], res := [.t 2], own := [false], body :=
  (.seq (.reg false [⟨some 2, false, .asg (.c (.bool false)), none⟩] [0] []) (.seq (.reg false [⟨some 3, false, .mv (.t 0), none⟩, ⟨some 4, false, .call (.c (.fn 1 [])) [.t 3, .c (.int .i64 1000), .c (.int .i64 100000)], none⟩, ⟨some 2, false, .asg (.t 4), none⟩] [2] []) .ret)) }
noncomputable def spec_l16Tone_D : List (Nat × Callee) := [(1, spec_l00In_c)]
def spec_l16Tone_H : List (Nat × ET) := []
noncomputable def spec_l16Tone_c : Callee := mkCallee spec_l16Tone_D spec_l16Tone_H spec_l16Tone_ir [.d (.one (.int .i64))] [.d (.one .bool)] []
noncomputable def spec_l16Tone (a0 : Int) : Option (Bool) := spec_l16Tone_c.f (a0, ())
theorem spec_l16Tone_eq (a0 : Int) : spec_l16Tone a0 =
    (spec_l00In a0 1000 100000).bind fun x1 =>
      some x1 :=
  (mk_f _ _ _ _ _ _ _ 4000).trans (by kernel_rfl)

/- spec.l16One -/
def spec_l16One_ir : Fn := { np := 1, io := [], res := [.t 2], own := [false], body :=
  (.seq (.reg false [⟨some 2, false, .asg (.c (.bool false)), none⟩] [0] []) (.seq (.reg false [⟨some 3, false, .mv (.t 0), none⟩, ⟨some 4, false, .nilck (.t 3), none⟩, ⟨some 5, false, .fa 0 (.t 4), none⟩, ⟨some 6, false, .ld none (.t 5), none⟩, ⟨some 7, false, .call (.c (.fn 13 [])) [.t 6], none⟩, ⟨some 8, false, .mv (.t 7), none⟩, ⟨some 9, false, .mv (.t 0), some (5, true)⟩, ⟨some 10, false, .nilck (.t 9), some (5, true)⟩, ⟨some 11, false, .fa 1 (.t 10), some (5, true)⟩, ⟨some 12, false, .ld none (.t 11), some (5, true)⟩, ⟨some 13, false, .call (.c (.fn 1012 [])) [.t 12], some (5, true)⟩, ⟨some 14, false, .pick (.t 8) (.t 13) (.c (.bool false)), none⟩, ⟨some 15, false, .mv (.t 14), none⟩, ⟨some 16, false, .mv (.t 0), some (12, true)⟩, ⟨some 17, false, .nilck (.t 16), some (12, true)⟩, ⟨some 18, false, .fa 2 (.t 17), some (12, true)⟩, ⟨some 19, false, .ld none (.t 18), some (12, true)⟩, ⟨some 20, false, .call (.c (.fn 1 [])) [.t 19, .c (.int .i64 1), .c (.int .i64 500)], some (12, true)⟩, ⟨some 21, false, .pick (.t 15) (.t 20) (.c (.bool false)), none⟩, ⟨some 2, false, .asg (.t 21), none⟩] [2] []) .ret)) }
noncomputable def spec_l16One_D : List (Nat × Callee) := [(1, spec_l00In_c), (13, spec_l01Name_c), (1012, spec_l16Tone_c)]
def spec_l16One_H : List (Nat × ET) := []
noncomputable def spec_l16One_c : Callee := mkCallee spec_l16One_D spec_l16One_H spec_l16One_ir [.p T_Mode] [.d (.one .bool)] []
noncomputable def spec_l16One (a0 : T_Mode.ty) : Option (Bool) := spec_l16One_c.f (a0, ())
theorem spec_l16One_eq (a0 : T_Mode.ty) : spec_l16One a0 =
    (spec_l01Name a0.1).bind fun x1 =>
      if x1 then
        (spec_l16Tone a0.2.1).bind fun x2 =>
          if x2 then
            (spec_l00In a0.2.2.1 1 500).bind fun x3 =>
              some x3
          else
            some false
      else
        some false :=
  (mk_f _ _ _ _ _ _ _ 4000).trans (by kernel_rfl)

/- spec.l16Ok -/
def spec_l16Ok_k0 : C :=
  .seq (.seq (.reg false [⟨some 4, false, .mv (.t 3), none⟩, ⟨some 5, false, .mv (.t 0), none⟩, ⟨some 6, false, .len (.t 5), none⟩, ⟨some 7, false, .bin .lss (.t 4) (.t 6), none⟩] [0, 3, 7] []) (.cond (.t 7) .skip (.exit 0))) (.seq (.block 1 (.seq (.reg true [⟨some 10, false, .mv (.t 0), none⟩, ⟨some 11, false, .mv (.t 3), none⟩, ⟨some 12, false, .ia 3 (.t 10) (.t 11), none⟩, ⟨some 13, false, .call (.c (.fn 848 [])) [.t 12], none⟩, ⟨some 14, false, .un .not (.t 13), none⟩, ⟨some 15, false, .mv (.t 14), none⟩, ⟨some 16, false, .mv (.t 3), some (5, false)⟩, ⟨some 17, false, .bin .gtr (.t 16) (.c (.int .i64 0)), some (5, false)⟩, ⟨some 18, false, .mv (.t 17), some (5, false)⟩, ⟨some 19, false, .mv (.t 0), some (8, true)⟩, ⟨some 20, false, .mv (.t 3), some (8, true)⟩, ⟨some 21, false, .bin .sub (.t 20) (.c (.int .i64 1)), some (8, true)⟩, ⟨some 22, false, .ia 3 (.t 19) (.t 21), some (8, true)⟩, ⟨some 23, false, .fa 0 (.t 22), some (8, true)⟩, ⟨some 24, false, .ld none (.t 23), some (8, true)⟩, ⟨some 25, false, .mv (.t 0), some (8, true)⟩, ⟨some 26, false, .mv (.t 3), some (8, true)⟩, ⟨some 27, false, .ia 3 (.t 25) (.t 26), some (8, true)⟩, ⟨some 28, false, .fa 0 (.t 27), some (8, true)⟩, ⟨some 29, false, .ld none (.t 28), some (8, true)⟩, ⟨some 30, false, .bin .geq (.t 24) (.t 29), some (8, true)⟩, ⟨some 31, false, .pick (.t 18) (.t 30) (.c (.bool false)), some (5, false)⟩, ⟨some 32, false, .pick (.t 15) (.c (.bool true)) (.t 31), none⟩] [0, 3, 32] []) (.cond (.t 32) (.seq (.reg false [⟨some 2, false, .asg (.c (.bool false)), none⟩] [2] []) .ret) .skip))) (.reg false [⟨some 8, false, .mv (.t 3), none⟩, ⟨some 9, false, .bin .add (.t 8) (.c (.int .i64 1)), none⟩, ⟨some 3, false, .asg (.t 9), none⟩] [0, 3] []))
def spec_l16Ok_k1 : C :=
  .norm [0, 3] [] spec_l16Ok_k0
def spec_l16Ok_k2 : C :=
  .seq (.reg false [⟨some 33, false, .mv (.t 0), none⟩, ⟨some 34, false, .len (.t 33), none⟩, ⟨some 35, false, .bin .leq (.t 34) (.c (.int .i64 10)), none⟩, ⟨some 2, false, .asg (.t 35), none⟩] [2] []) .ret
def spec_l16Ok_ir : Fn := { np := 1, io := [], res := [.t 2], own := [false], body :=
  (.seq (.reg false [⟨some 2, false, .asg (.c (.bool false)), none⟩] [0] []) (.seq (.seq (.reg false [⟨some 3, false, .asg (.c (.int .i64 0)), none⟩] [0, 3] []) (.block 0 (.loop spec_l16Ok_k1))) spec_l16Ok_k2)) }
noncomputable def spec_l16Ok_D : List (Nat × Callee) := [(848, spec_l16One_c)]
def spec_l16Ok_H : List (Nat × ET) := [(5, T_Mode), (10, T_Mode), (19, T_Mode), (25, T_Mode), (33, T_Mode)]
noncomputable def spec_l16Ok_c : Callee := mkCallee spec_l16Ok_D spec_l16Ok_H spec_l16Ok_ir [.d (.one (.sl T_Mode))] [.d (.one .bool)] []
noncomputable def spec_l16Ok (a0 : List T_Mode.ty) : Option (Bool) := spec_l16Ok_c.f (a0, ())
noncomputable def spec_l16Ok_p0  (v0 : List T_Mode.ty) (v3 : Int) : Option (Bool) :=
  goL spec_l16Ok_D spec_l16Ok_H (vleave spec_l16Ok_ir [.d (.one (.sl T_Mode))] [.d (.one .bool)] [] []) [.c spec_l16Ok_k0, .l spec_l16Ok_k1, .e 0, .c spec_l16Ok_k2]
    ⟨[(0, .sl T_Mode v0), (3, .int .i64 v3)], []⟩
theorem spec_l16Ok_eq (a0 : List T_Mode.ty) : spec_l16Ok a0 =
    spec_l16Ok_p0 a0 0 :=
  (mk_f _ _ _ _ _ _ _ 4000).trans (by kernel_rfl)
theorem spec_l16Ok_p0_eq  (v0 : List T_Mode.ty) (v3 : Int) : spec_l16Ok_p0 v0 v3 =
    if decide (v3 < (v0.length : Int)) then
      if decide (0 ≤ v3) then
        (v0[v3.toNat]?).bind fun x1 =>
          (spec_l16One x1).bind fun x2 =>
            if (!x2) then
              some false
            else
              if decide (v3 > 0) then
                if decide (0 ≤ IntKind.i64.wrap (v3 - 1)) then
                  (v0[(IntKind.i64.wrap (v3 - 1)).toNat]?).bind fun x3 =>
                    if decide (0 ≤ v3) then
                      (v0[v3.toNat]?).bind fun x4 =>
                        if (!Op.bytesLess x3.1 x4.1) then
                          some false
                        else
                          spec_l16Ok_p0 v0 (IntKind.i64.wrap (v3 + 1))
                    else
                      none
                else
                  none
              else
                spec_l16Ok_p0 v0 (IntKind.i64.wrap (v3 + 1))
      else
        none
    else
      some (decide ((v0.length : Int) ≤ 10)) :=
  (goL_dn _ _ _ 4000 _ _).trans (by kernel_rfl)

/- spec.l18Days -/
def spec_l18Days_ir : Fn := { np := 1, io := [], res := [.t 2], own := [false], body :=
  (.seq (.reg false [⟨some 2, false, .asg (.c (.bool false)), none⟩] [0] []) (.seq (.reg false [⟨some 3, false, .mv (.t 0), none⟩, ⟨some 4, false, .call (.c (.fn 1 [])) [.t 3, .c (.int .i64 1), .c (.int .i64 40)], none⟩, ⟨some 2, false, .asg (.t 4), none⟩] [2] []) .ret)) }
noncomputable def spec_l18Days_D : List (Nat × Callee) := [(1, spec_l00In_c)]
def spec_l18Days_H : List (Nat × ET) := []
noncomputable def spec_l18Days_c : Callee := mkCallee spec_l18Days_D spec_l18Days_H spec_l18Days_ir [.d (.one (.int .i64))] [.d (.one .bool)] []
noncomputable def spec_l18Days (a0 : Int) : Option (Bool) := spec_l18Days_c.f (a0, ())
theorem spec_l18Days_eq (a0 : Int) : spec_l18Days a0 =
    (spec_l00In a0 1 40).bind fun x1 =>
      some x1 :=
  (mk_f _ _ _ _ _ _ _ 4000).trans (by kernel_rfl)

/- spec.l18Day -/
def spec_l18Day_ir : Fn := { np := 1, io := [], res := [.t 2], own := [false], body :=
  (.seq (.reg false [⟨some 2, false, .asg (.c (.bool false)), none⟩] [0] []) (.seq (.reg false [⟨some 3, false, .mv (.t 0), none⟩, ⟨some 4, false, .call (.c (.fn 1 [])) [.t 3, .c (.int .i64 0), .c (.int .i64 39)], none⟩, ⟨some 2, false, .asg (.t 4), none⟩] [2] []) .ret)) }
noncomputable def spec_l18Day_D : List (Nat × Callee) := [(1, spec_l00In_c)]
def spec_l18Day_H : List (Nat × ET) := []
noncomputable def spec_l18Day_c : Callee := mkCallee spec_l18Day_D spec_l18Day_H spec_l18Day_ir [.d (.one (.int .i64))] [.d (.one .bool)] []
noncomputable def spec_l18Day (a0 : Int) : Option (Bool) := spec_l18Day_c.f (a0, ())
theorem spec_l18Day_eq (a0 : Int) : spec_l18Day a0 =
    (spec_l00In a0 0 39).bind fun x1 =>
      some x1 :=
  (mk_f _ _ _ _ _ _ _ 4000).trans (by kernel_rfl)

/- spec.l18One -/
def spec_l18One_ir : Fn := { np := 1, io := [], res := [.t 2], own := [false], body :=
  (.seq (.reg false [⟨some 2, false, .asg (.c (.bool false)), none⟩] [0] []) (.seq (.reg true [⟨some 3, false, .mv (.t 0), none⟩, ⟨some 4, false, .nilck (.t 3), none⟩, ⟨some 5, false, .fa 0 (.t 4), none⟩, ⟨some 6, false, .ld none (.t 5), none⟩, ⟨some 7, false, .call (.c (.fn 13 [])) [.t 6], none⟩, ⟨some 8, false, .mv (.t 7), none⟩, ⟨some 9, false, .mv (.t 0), some (5, true)⟩, ⟨some 10, false, .nilck (.t 9), some (5, true)⟩, ⟨some 11, false, .fa 1 (.t 10), some (5, true)⟩, ⟨some 12, false, .ld none (.t 11), some (5, true)⟩, ⟨some 13, false, .call (.c (.fn 1054 [])) [.t 12], some (5, true)⟩, ⟨some 14, false, .pick (.t 8) (.t 13) (.c (.bool false)), none⟩, ⟨some 15, false, .mv (.t 14), none⟩, ⟨some 16, false, .mv (.t 0), some (12, true)⟩, ⟨some 17, false, .nilck (.t 16), some (12, true)⟩, ⟨some 18, false, .fa 2 (.t 17), some (12, true)⟩, ⟨some 19, false, .ld none (.t 18), some (12, true)⟩, ⟨some 20, false, .call (.c (.fn 1055 [])) [.t 19], some (12, true)⟩, ⟨some 21, false, .pick (.t 15) (.t 20) (.c (.bool false)), none⟩, ⟨some 22, false, .mv (.t 21), none⟩, ⟨some 23, false, .mv (.t 0), some (19, true)⟩, ⟨some 24, false, .nilck (.t 23), some (19, true)⟩, ⟨some 25, false, .fa 3 (.t 24), some (19, true)⟩, ⟨some 26, false, .ld none (.t 25), some (19, true)⟩, ⟨some 27, false, .call (.c (.fn 1055 [])) [.t 26], some (19, true)⟩, ⟨some 28, false, .pick (.t 22) (.t 27) (.c (.bool false)), none⟩, ⟨some 29, false, .mv (.t 28), none⟩, ⟨some 30, false, .mv (.t 0), some (26, true)⟩, ⟨some 31, false, .nilck (.t 30), some (26, true)⟩, ⟨some 32, false, .fa 2 (.t 31), some (26, true)⟩, ⟨some 33, false, .ld none (.t 32), some (26, true)⟩, ⟨some 34, false, .mv (.t 0), some (26, true)⟩, ⟨some 35, false, .nilck (.t 34), some (26, true)⟩, ⟨some 36, false, .fa 1 (.t 35), some (26, true)⟩, ⟨some 37, false, .ld none (.t 36), some (26, true)⟩, ⟨some 38, false, .bin .add (.t 33) (.t 37), some (26, true)⟩, ⟨some 39, false, .bin .sub (.t 38) (.c (.int .i64 1)), some (26, true)⟩, ⟨some 40, false, .mv (.t 0), some (26, true)⟩, ⟨some 41, false, .nilck (.t 40), some (26, true)⟩, ⟨some 42, false, .fa 3 (.t 41), some (26, true)⟩, ⟨some 43, false, .ld none (.t 42), some (26, true)⟩, ⟨some 44, false, .bin .leq (.t 39) (.t 43), some (26, true)⟩, ⟨some 45, false, .pick (.t 29) (.t 44) (.c (.bool false)), none⟩, ⟨some 2, false, .asg (.t 45), none⟩] [2] []) .ret)) }
noncomputable def spec_l18One_D : List (Nat × Callee) := [(13, spec_l01Name_c), (1054, spec_l18Days_c), (1055, spec_l18Day_c)]
def spec_l18One_H : List (Nat × ET) := []
noncomputable def spec_l18One_c : Callee := mkCallee spec_l18One_D spec_l18One_H spec_l18One_ir [.p T_Peg] [.d (.one .bool)] []
noncomputable def spec_l18One (a0 : T_Peg.ty) : Option (Bool) := spec_l18One_c.f (a0, ())
theorem spec_l18One_eq (a0 : T_Peg.ty) : spec_l18One a0 =
    (spec_l01Name a0.1).bind fun x1 =>
      if x1 then
        (spec_l18Days a0.2.1).bind fun x2 =>
          if x2 then
            (spec_l18Day a0.2.2.1).bind fun x3 =>
              if x3 then
                (spec_l18Day a0.2.2.2.1).bind fun x4 =>
                  if x4 then
                    some (decide (IntKind.i64.wrap ((IntKind.i64.wrap (a0.2.2.1 + a0.2.1)) - 1) ≤ a0.2.2.2.1))
                  else
                    some false
              else
                some false
          else
            some false
      else
        some false :=
  (mk_f _ _ _ _ _ _ _ 4000).trans (by kernel_rfl)

/- spec.l18Ok -/
def spec_l18Ok_k0 : C :=
  .seq (.seq (.reg false [⟨some 4, false, .mv (.t 3), none⟩, ⟨some 5, false, .mv (.t 0), none⟩, ⟨some 6, false, .len (.t 5), none⟩, ⟨some 7, false, .bin .lss (.t 4) (.t 6), none⟩] [0, 3, 7] []) (.cond (.t 7) .skip (.exit 0))) (.seq (.block 1 (.seq (.reg true [⟨some 10, false, .mv (.t 0), none⟩, ⟨some 11, false, .mv (.t 3), none⟩, ⟨some 12, false, .ia 4 (.t 10) (.t 11), none⟩, ⟨some 13, false, .call (.c (.fn 976 [])) [.t 12], none⟩, ⟨some 14, false, .un .not (.t 13), none⟩, ⟨some 15, false, .mv (.t 14), none⟩, ⟨some 16, false, .mv (.t 3), some (5, false)⟩, ⟨some 17, false, .bin .gtr (.t 16) (.c (.int .i64 0)), some (5, false)⟩, ⟨some 18, false, .mv (.t 17), some (5, false)⟩, ⟨some 19, false, .mv (.t 0), some (8, true)⟩, ⟨some 20, false, .mv (.t 3), some (8, true)⟩, ⟨some 21, false, .bin .sub (.t 20) (.c (.int .i64 1)), some (8, true)⟩, ⟨some 22, false, .ia 4 (.t 19) (.t 21), some (8, true)⟩, ⟨some 23, false, .fa 0 (.t 22), some (8, true)⟩, ⟨some 24, false, .ld none (.t 23), some (8, true)⟩, ⟨some 25, false, .mv (.t 0), some (8, true)⟩, ⟨some 26, false, .mv (.t 3), some (8, true)⟩, ⟨some 27, false, .ia 4 (.t 25) (.t 26), some (8, true)⟩, ⟨some 28, false, .fa 0 (.t 27), some (8, true)⟩, ⟨some 29, false, .ld none (.t 28), some (8, true)⟩, ⟨some 30, false, .bin .geq (.t 24) (.t 29), some (8, true)⟩, ⟨some 31, false, .pick (.t 18) (.t 30) (.c (.bool false)), some (5, false)⟩, ⟨some 32, false, .pick (.t 15) (.c (.bool true)) (.t 31), none⟩] [0, 3, 32] []) (.cond (.t 32) (.seq (.reg false [⟨some 2, false, .asg (.c (.bool false)), none⟩] [2] []) .ret) .skip))) (.reg false [⟨some 8, false, .mv (.t 3), none⟩, ⟨some 9, false, .bin .add (.t 8) (.c (.int .i64 1)), none⟩, ⟨some 3, false, .asg (.t 9), none⟩] [0, 3] []))
def spec_l18Ok_k1 : C :=
  .norm [0, 3] [] spec_l18Ok_k0
def spec_l18Ok_k2 : C :=
  .seq (.reg false [⟨some 33, false, .mv (.t 0), none⟩, ⟨some 34, false, .len (.t 33), none⟩, ⟨some 35, false, .bin .leq (.t 34) (.c (.int .i64 8)), none⟩, ⟨some 2, false, .asg (.t 35), none⟩] [2] []) .ret
def spec_l18Ok_ir : Fn := { np := 1, io := [], res := [.t 2], own := [false], body :=
  (.seq (.reg false [⟨some 2, false, .asg (.c (.bool false)), none⟩] [0] []) (.seq (.seq (.reg false [⟨some 3, false, .asg (.c (.int .i64 0)), none⟩] [0, 3] []) (.block 0 (.loop spec_l18Ok_k1))) spec_l18Ok_k2)) }
noncomputable def spec_l18Ok_D : List (Nat × Callee) := [(976, spec_l18One_c)]
def spec_l18Ok_H : List (Nat × ET) := [(5, T_Peg), (10, T_Peg), (19, T_Peg), (25, T_Peg), (33, T_Peg)]
noncomputable def spec_l18Ok_c : Callee := mkCallee spec_l18Ok_D spec_l18Ok_H spec_l18Ok_ir [.d (.one (.sl T_Peg))] [.d (.one .bool)] []
noncomputable def spec_l18Ok (a0 : List T_Peg.ty) : Option (Bool) := spec_l18Ok_c.f (a0, ())
noncomputable def spec_l18Ok_p0  (v0 : List T_Peg.ty) (v3 : Int) : Option (Bool) :=
  goL spec_l18Ok_D spec_l18Ok_H (vleave spec_l18Ok_ir [.d (.one (.sl T_Peg))] [.d (.one .bool)] [] []) [.c spec_l18Ok_k0, .l spec_l18Ok_k1, .e 0, .c spec_l18Ok_k2]
    ⟨[(0, .sl T_Peg v0), (3, .int .i64 v3)], []⟩
theorem spec_l18Ok_eq (a0 : List T_Peg.ty) : spec_l18Ok a0 =
    spec_l18Ok_p0 a0 0 :=
  (mk_f _ _ _ _ _ _ _ 4000).trans (by kernel_rfl)
theorem spec_l18Ok_p0_eq  (v0 : List T_Peg.ty) (v3 : Int) : spec_l18Ok_p0 v0 v3 =
    if decide (v3 < (v0.length : Int)) then
      if decide (0 ≤ v3) then
        (v0[v3.toNat]?).bind fun x1 =>
          (spec_l18One x1).bind fun x2 =>
            if (!x2) then
              some false
            else
              if decide (v3 > 0) then
                if decide (0 ≤ IntKind.i64.wrap (v3 - 1)) then
                  (v0[(IntKind.i64.wrap (v3 - 1)).toNat]?).bind fun x3 =>
                    if decide (0 ≤ v3) then
                      (v0[v3.toNat]?).bind fun x4 =>
                        if (!Op.bytesLess x3.1 x4.1) then
                          some false
                        else
                          spec_l18Ok_p0 v0 (IntKind.i64.wrap (v3 + 1))
                    else
                      none
                else
                  none
              else
                spec_l18Ok_p0 v0 (IntKind.i64.wrap (v3 + 1))
      else
        none
    else
      some (decide ((v0.length : Int) ≤ 8)) :=
  (goL_dn _ _ _ 4000 _ _).trans (by kernel_rfl)

/- spec.l20Year -/
def spec_l20Year_ir : Fn := { np := 1, io := [], res := [.t 2], own := [false], body :=
  (.seq (.reg false [⟨some 2, false, .asg (.c (.bool false)), none⟩] [0] []) (.seq (.reg false [⟨some 3, false, .mv (.t 0), none⟩, ⟨some 4, false, .call (.c (.fn 1 [])) [.t 3, .c (.int .i64 1500), .c (.int .i64 2100)], none⟩, ⟨some 2, false, .asg (.t 4), none⟩] [2] []) .ret)) }
noncomputable def spec_l20Year_D : List (Nat × Callee) := [(1, spec_l00In_c)]
def spec_l20Year_H : List (Nat × ET) := []
noncomputable def spec_l20Year_c : Callee := mkCallee spec_l20Year_D spec_l20Year_H spec_l20Year_ir [.d (.one (.int .i64))] [.d (.one .bool)] []
noncomputable def spec_l20Year (a0 : Int) : Option (Bool) := spec_l20Year_c.f (a0, ())
theorem spec_l20Year_eq (a0 : Int) : spec_l20Year a0 =
    (spec_l00In a0 1500 2100).bind fun x1 =>
      some x1 :=
  (mk_f _ _ _ _ _ _ _ 4000).trans (by kernel_rfl)

/- spec.l20One -/
def spec_l20One_ir : Fn := { np := 1, io := [], res := [.t 2], own := [false], body :=
  (.seq (.reg false [⟨some 2, false, .asg (.c (.bool false)), none⟩] [0] []) (.seq (.reg true [⟨some 3, false, .mv (.t 0), none⟩, ⟨some 4, false, .nilck (.t 3), none⟩, ⟨some 5, false, .fa 0 (.t 4), none⟩, ⟨some 6, false, .ld none (.t 5), none⟩, ⟨some 7, false, .call (.c (.fn 13 [])) [.t 6], none⟩, ⟨some 8, false, .mv (.t 7), none⟩, ⟨some 9, false, .mv (.t 0), some (5, true)⟩, ⟨some 10, false, .nilck (.t 9), some (5, true)⟩, ⟨some 11, false, .fa 1 (.t 10), some (5, true)⟩, ⟨some 12, false, .ld none (.t 11), some (5, true)⟩, ⟨some 13, false, .call (.c (.fn 13 [])) [.t 12], some (5, true)⟩, ⟨some 14, false, .pick (.t 8) (.t 13) (.c (.bool false)), none⟩, ⟨some 15, false, .mv (.t 14), none⟩, ⟨some 16, false, .mv (.t 0), some (12, true)⟩, ⟨some 17, false, .nilck (.t 16), some (12, true)⟩, ⟨some 18, false, .fa 2 (.t 17), some (12, true)⟩, ⟨some 19, false, .ld none (.t 18), some (12, true)⟩, ⟨some 20, false, .call (.c (.fn 645 [])) [.t 19], some (12, true)⟩, ⟨some 21, false, .pick (.t 15) (.t 20) (.c (.bool false)), none⟩, ⟨some 22, false, .mv (.t 21), none⟩, ⟨some 23, false, .mv (.t 0), some (19, true)⟩, ⟨some 24, false, .nilck (.t 23), some (19, true)⟩, ⟨some 25, false, .fa 3 (.t 24), some (19, true)⟩, ⟨some 26, false, .ld none (.t 25), some (19, true)⟩, ⟨some 27, false, .call (.c (.fn 645 [])) [.t 26], some (19, true)⟩, ⟨some 28, false, .pick (.t 22) (.t 27) (.c (.bool false)), none⟩, ⟨some 29, false, .mv (.t 28), none⟩, ⟨some 30, false, .mv (.t 0), some (26, true)⟩, ⟨some 31, false, .nilck (.t 30), some (26, true)⟩, ⟨some 32, false, .fa 2 (.t 31), some (26, true)⟩, ⟨some 33, false, .ld none (.t 32), some (26, true)⟩, ⟨some 34, false, .mv (.t 0), some (26, true)⟩, ⟨some 35, false, .nilck (.t 34), some (26, true)⟩, ⟨some 36, false, .fa 3 (.t 35), some (26, true)⟩, ⟨some 37, false, .ld none (.t 36), some (26, true)⟩, ⟨some 38, false, .bin .leq (.t 33) (.t 37), some (26, true)⟩, ⟨some 39, false, .pick (.t 29) (.t 38) (.c (.bool false)), none⟩, ⟨some 40, false, .mv (.t 39), none⟩, ⟨some 41, false, .mv (.t 0), some (37, true)⟩, ⟨some 42, false, .nilck (.t 41), some (37, true)⟩, ⟨some 43, false, .fa 4 (.t 42), some (37, true)⟩, ⟨some 44, false, .ld none (.t 43), some (37, true)⟩, ⟨some 45, false, .call (.c (.fn 1 [])) [.t 44, .c (.int .i64 1), .c (.int .i64 1000)], some (37, true)⟩, ⟨some 46, false, .pick (.t 40) (.t 45) (.c (.bool false)), none⟩, ⟨some 2, false, .asg (.t 46), none⟩] [2] []) .ret)) }
noncomputable def spec_l20One_D : List (Nat × Callee) := [(1, spec_l00In_c), (13, spec_l01Name_c), (645, spec_l20Year_c)]
def spec_l20One_H : List (Nat × ET) := []
noncomputable def spec_l20One_c : Callee := mkCallee spec_l20One_D spec_l20One_H spec_l20One_ir [.p T_Paper] [.d (.one .bool)] []
noncomputable def spec_l20One (a0 : T_Paper.ty) : Option (Bool) := spec_l20One_c.f (a0, ())
theorem spec_l20One_eq (a0 : T_Paper.ty) : spec_l20One a0 =
    (spec_l01Name a0.1).bind fun x1 =>
      if x1 then
        (spec_l01Name a0.2.1).bind fun x2 =>
          if x2 then
            (spec_l20Year a0.2.2.1).bind fun x3 =>
              if x3 then
                (spec_l20Year a0.2.2.2.1).bind fun x4 =>
                  if x4 then
                    if decide (a0.2.2.1 ≤ a0.2.2.2.1) then
                      (spec_l00In a0.2.2.2.2.1 1 1000).bind fun x5 =>
                        some x5
                    else
                      some false
                  else
                    some false
              else
                some false
          else
            some false
      else
        some false :=
  (mk_f _ _ _ _ _ _ _ 4000).trans (by kernel_rfl)

/- spec.l20Ok -/
def spec_l20Ok_k0 : C :=
  .seq (.seq (.reg false [⟨some 4, false, .mv (.t 3), none⟩, ⟨some 5, false, .mv (.t 0), none⟩, ⟨some 6, false, .len (.t 5), none⟩, ⟨some 7, false, .bin .lss (.t 4) (.t 6), none⟩] [0, 3, 7] []) (.cond (.t 7) .skip (.exit 0))) (.seq (.block 1 (.seq (.reg true [⟨some 10, false, .mv (.t 0), none⟩, ⟨some 11, false, .mv (.t 3), none⟩, ⟨some 12, false, .ia 5 (.t 10) (.t 11), none⟩, ⟨some 13, false, .call (.c (.fn 912 [])) [.t 12], none⟩, ⟨some 14, false, .un .not (.t 13), none⟩, ⟨some 15, false, .mv (.t 14), none⟩, ⟨some 16, false, .mv (.t 3), some (5, false)⟩, ⟨some 17, false, .bin .gtr (.t 16) (.c (.int .i64 0)), some (5, false)⟩, ⟨some 18, false, .mv (.t 17), some (5, false)⟩, ⟨some 19, false, .mv (.t 0), some (8, true)⟩, ⟨some 20, false, .mv (.t 3), some (8, true)⟩, ⟨some 21, false, .bin .sub (.t 20) (.c (.int .i64 1)), some (8, true)⟩, ⟨some 22, false, .ia 5 (.t 19) (.t 21), some (8, true)⟩, ⟨some 23, false, .fa 0 (.t 22), some (8, true)⟩, ⟨some 24, false, .ld none (.t 23), some (8, true)⟩, ⟨some 25, false, .mv (.t 0), some (8, true)⟩, ⟨some 26, false, .mv (.t 3), some (8, true)⟩, ⟨some 27, false, .ia 5 (.t 25) (.t 26), some (8, true)⟩, ⟨some 28, false, .fa 0 (.t 27), some (8, true)⟩, ⟨some 29, false, .ld none (.t 28), some (8, true)⟩, ⟨some 30, false, .bin .geq (.t 24) (.t 29), some (8, true)⟩, ⟨some 31, false, .pick (.t 18) (.t 30) (.c (.bool false)), some (5, false)⟩, ⟨some 32, false, .pick (.t 15) (.c (.bool true)) (.t 31), none⟩] [0, 3, 32] []) (.cond (.t 32) (.seq (.reg false [⟨some 2, false, .asg (.c (.bool false)), none⟩] [2] []) .ret) .skip))) (.reg false [⟨some 8, false, .mv (.t 3), none⟩, ⟨some 9, false, .bin .add (.t 8) (.c (.int .i64 1)), none⟩, ⟨some 3, false, .asg (.t 9), none⟩] [0, 3] []))
def spec_l20Ok_k1 : C :=
  .norm [0, 3] [] spec_l20Ok_k0
def spec_l20Ok_k2 : C :=
  .seq (.reg false [⟨some 33, false, .mv (.t 0), none⟩, ⟨some 34, false, .len (.t 33), none⟩, ⟨some 35, false, .bin .leq (.t 34) (.c (.int .i64 12)), none⟩, ⟨some 2, false, .asg (.t 35), none⟩] [2] []) .ret
def spec_l20Ok_ir : Fn := { np := 1, io := [], res := [.t 2], own := [false], body :=
  (.seq (.reg false [⟨some 2, false, .asg (.c (.bool false)), none⟩] [0] []) (.seq (.seq (.reg false [⟨some 3, false, .asg (.c (.int .i64 0)), none⟩] [0, 3] []) (.block 0 (.loop spec_l20Ok_k1))) spec_l20Ok_k2)) }
noncomputable def spec_l20Ok_D : List (Nat × Callee) := [(912, spec_l20One_c)]
def spec_l20Ok_H : List (Nat × ET) := [(5, T_Paper), (10, T_Paper), (19, T_Paper), (25, T_Paper), (33, T_Paper)]
noncomputable def spec_l20Ok_c : Callee := mkCallee spec_l20Ok_D spec_l20Ok_H spec_l20Ok_ir [.d (.one (.sl T_Paper))] [.d (.one .bool)] []
noncomputable def spec_l20Ok (a0 : List T_Paper.ty) : Option (Bool) := spec_l20Ok_c.f (a0, ())
noncomputable def spec_l20Ok_p0  (v0 : List T_Paper.ty) (v3 : Int) : Option (Bool) :=
  goL spec_l20Ok_D spec_l20Ok_H (vleave spec_l20Ok_ir [.d (.one (.sl T_Paper))] [.d (.one .bool)] [] []) [.c spec_l20Ok_k0, .l spec_l20Ok_k1, .e 0, .c spec_l20Ok_k2]
    ⟨[(0, .sl T_Paper v0), (3, .int .i64 v3)], []⟩
theorem spec_l20Ok_eq (a0 : List T_Paper.ty) : spec_l20Ok a0 =
    spec_l20Ok_p0 a0 0 :=
  (mk_f _ _ _ _ _ _ _ 4000).trans (by kernel_rfl)
theorem spec_l20Ok_p0_eq  (v0 : List T_Paper.ty) (v3 : Int) : spec_l20Ok_p0 v0 v3 =
    if decide (v3 < (v0.length : Int)) then
      if decide (0 ≤ v3) then
        (v0[v3.toNat]?).bind fun x1 =>
          (spec_l20One x1).bind fun x2 =>
            if (!x2) then
              some false
            else
              if decide (v3 > 0) then
                if decide (0 ≤ IntKind.i64.wrap (v3 - 1)) then
                  (v0[(IntKind.i64.wrap (v3 - 1)).toNat]?).bind fun x3 =>
                    if decide (0 ≤ v3) then
                      (v0[v3.toNat]?).bind fun x4 =>
                        if (!Op.bytesLess x3.1 x4.1) then
                          some false
                        else
                          spec_l20Ok_p0 v0 (IntKind.i64.wrap (v3 + 1))
                    else
                      none
                else
                  none
              else
                spec_l20Ok_p0 v0 (IntKind.i64.wrap (v3 + 1))
      else
        none
    else
      some (decide ((v0.length : Int) ≤ 12)) :=
  (goL_dn _ _ _ 4000 _ _).trans (by kernel_rfl)

/- spec.l32Ok -/
def spec_l32Ok_ir : Fn := { np := 1, io := [], res := [.t 2], own := [false], body :=
  (.seq (.reg false [⟨some 2, false, .asg (.c (.bool false)), none⟩] [0] []) (.seq (.reg false [⟨some 3, false, .mv (.t 0), none⟩, ⟨some 4, false, .nilck (.t 3), none⟩, ⟨some 5, false, .fa 0 (.t 4), none⟩, ⟨some 6, false, .ld none (.t 5), none⟩, ⟨some 7, false, .call (.c (.fn 942 [])) [.t 6], none⟩, ⟨some 8, false, .mv (.t 7), none⟩, ⟨some 9, false, .mv (.t 0), some (5, true)⟩, ⟨some 10, false, .nilck (.t 9), some (5, true)⟩, ⟨some 11, false, .fa 1 (.t 10), some (5, true)⟩, ⟨some 12, false, .ld none (.t 11), some (5, true)⟩, ⟨some 13, false, .call (.c (.fn 943 [])) [.t 12], some (5, true)⟩, ⟨some 14, false, .pick (.t 8) (.t 13) (.c (.bool false)), none⟩, ⟨some 15, false, .mv (.t 14), none⟩, ⟨some 16, false, .mv (.t 0), some (12, true)⟩, ⟨some 17, false, .nilck (.t 16), some (12, true)⟩, ⟨some 18, false, .fa 2 (.t 17), some (12, true)⟩, ⟨some 19, false, .ld none (.t 18), some (12, true)⟩, ⟨some 20, false, .call (.c (.fn 777 [])) [.t 19], some (12, true)⟩, ⟨some 21, false, .pick (.t 15) (.t 20) (.c (.bool false)), none⟩, ⟨some 22, false, .mv (.t 21), none⟩, ⟨some 23, false, .mv (.t 0), some (19, true)⟩, ⟨some 24, false, .nilck (.t 23), some (19, true)⟩, ⟨some 25, false, .fa 3 (.t 24), some (19, true)⟩, ⟨some 26, false, .call (.c (.fn 451 [])) [.t 25], some (19, true)⟩, ⟨some 27, false, .pick (.t 22) (.t 26) (.c (.bool false)), none⟩, ⟨some 28, false, .mv (.t 27), none⟩, ⟨some 29, false, .mv (.t 0), some (25, true)⟩, ⟨some 30, false, .nilck (.t 29), some (25, true)⟩, ⟨some 31, false, .fa 7 (.t 30), some (25, true)⟩, ⟨some 32, false, .ld none (.t 31), some (25, true)⟩, ⟨some 33, false, .call (.c (.fn 497 [])) [.t 32], some (25, true)⟩, ⟨some 34, false, .pick (.t 28) (.t 33) (.c (.bool false)), none⟩, ⟨some 35, false, .mv (.t 34), none⟩, ⟨some 36, false, .mv (.t 0), some (32, true)⟩, ⟨some 37, false, .nilck (.t 36), some (32, true)⟩, ⟨some 38, false, .fa 8 (.t 37), some (32, true)⟩, ⟨some 39, false, .ld none (.t 38), some (32, true)⟩, ⟨some 40, false, .call (.c (.fn 53 [])) [.t 39], some (32, true)⟩, ⟨some 41, false, .pick (.t 35) (.t 40) (.c (.bool false)), none⟩, ⟨some 42, false, .mv (.t 41), none⟩, ⟨some 43, false, .mv (.t 0), some (39, true)⟩, ⟨some 44, false, .nilck (.t 43), some (39, true)⟩, ⟨some 45, false, .fa 9 (.t 44), some (39, true)⟩, ⟨some 46, false, .ld none (.t 45), some (39, true)⟩, ⟨some 47, false, .call (.c (.fn 474 [])) [.t 46], some (39, true)⟩, ⟨some 48, false, .pick (.t 42) (.t 47) (.c (.bool false)), none⟩, ⟨some 49, false, .mv (.t 48), none⟩, ⟨some 50, false, .mv (.t 0), some (46, true)⟩, ⟨some 51, false, .nilck (.t 50), some (46, true)⟩, ⟨some 52, false, .fa 10 (.t 51), some (46, true)⟩, ⟨some 53, false, .ld none (.t 52), some (46, true)⟩, ⟨some 54, false, .call (.c (.fn 790 [])) [.t 53], some (46, true)⟩, ⟨some 55, false, .pick (.t 49) (.t 54) (.c (.bool false)), none⟩, ⟨some 56, false, .mv (.t 55), none⟩, ⟨some 57, false, .mv (.t 0), some (53, true)⟩, ⟨some 58, false, .nilck (.t 57), some (53, true)⟩, ⟨some 59, false, .fa 11 (.t 58), some (53, true)⟩, ⟨some 60, false, .ld none (.t 59), some (53, true)⟩, ⟨some 61, false, .call (.c (.fn 640 [])) [.t 60], some (53, true)⟩, ⟨some 62, false, .pick (.t 56) (.t 61) (.c (.bool false)), none⟩, ⟨some 2, false, .asg (.t 62), none⟩] [2] []) .ret)) }
noncomputable def spec_l32Ok_D : List (Nat × Callee) := [(53, spec_l14Ok_c), (451, spec_l10Ok_c), (474, spec_l16Ok_c), (497, spec_l12Ok_c), (640, spec_l20Ok_c), (777, spec_l08Ok_c), (790, spec_l18Ok_c), (942, spec_l04Ok_c), (943, spec_l06Ok_c)]
def spec_l32Ok_H : List (Nat × ET) := [(6, T_Peg), (12, T_Mode), (19, (.one (.sl (.one (.int .i64))))), (32, T_Peg), (39, T_Pot), (46, T_Mode), (53, T_Peg), (60, T_Paper)]
noncomputable def spec_l32Ok_c : Callee := mkCallee spec_l32Ok_D spec_l32Ok_H spec_l32Ok_ir [.p T_Desk] [.d (.one .bool)] []
noncomputable def spec_l32Ok (a0 : T_Desk.ty) : Option (Bool) := spec_l32Ok_c.f (a0, ())
theorem spec_l32Ok_eq (a0 : T_Desk.ty) : spec_l32Ok a0 =
    (spec_l04Ok a0.1).bind fun x1 =>
      if x1 then
        (spec_l06Ok a0.2.1).bind fun x2 =>
          if x2 then
            (spec_l08Ok a0.2.2.1).bind fun x3 =>
              if x3 then
                (spec_l10Ok (a0.2.2.2.1, a0.2.2.2.2.1, a0.2.2.2.2.2.1, a0.2.2.2.2.2.2.1, ())).bind fun x4 =>
                  if x4 then
                    (spec_l12Ok a0.2.2.2.2.2.2.2.1).bind fun x5 =>
                      if x5 then
                        (spec_l14Ok a0.2.2.2.2.2.2.2.2.1).bind fun x6 =>
                          if x6 then
                            (spec_l16Ok a0.2.2.2.2.2.2.2.2.2.1).bind fun x7 =>
                              if x7 then
                                (spec_l18Ok a0.2.2.2.2.2.2.2.2.2.2.1).bind fun x8 =>
                                  if x8 then
                                    (spec_l20Ok a0.2.2.2.2.2.2.2.2.2.2.2.1).bind fun x9 =>
                                      some x9
                                  else
                                    some false
                              else
                                some false
                          else
                            some false
                      else
                        some false
                  else
                    some false
              else
                some false
          else
            some false
      else
        some false :=
  (mk_f _ _ _ _ _ _ _ 4000).trans (by kernel_rfl)

/- spec.ValidDesk -/
def spec_ValidDesk_ir : Fn := { np := 1, io := [], res := [.t 2], own := [false], body :=
  (.seq (.reg false [⟨some 1, true, .box 12 (.t 0), none⟩, ⟨some 2, false, .asg (.c (.bool false)), none⟩] [1] [1, 2000, 2001, 2002, 2007, 2008, 2009, 2010, 2011]) (.seq (.reg false [⟨some 3, false, .call (.c (.fn 712 [])) [.t 1], none⟩, ⟨some 2, false, .asg (.t 3), none⟩] [2] []) .ret)) }
noncomputable def spec_ValidDesk_D : List (Nat × Callee) := [(712, spec_l32Ok_c)]
def spec_ValidDesk_H : List (Nat × ET) := []
noncomputable def spec_ValidDesk_c : Callee := mkCallee spec_ValidDesk_D spec_ValidDesk_H spec_ValidDesk_ir [.d T_Desk] [.d (.one .bool)] []
noncomputable def spec_ValidDesk (a0 : T_Desk.ty) : Option (Bool) := spec_ValidDesk_c.f (a0, ())
theorem spec_ValidDesk_eq (a0 : T_Desk.ty) : spec_ValidDesk a0 =
    (spec_l32Ok a0).bind fun x1 =>
      some x1 :=
  (mk_f _ _ _ _ _ _ _ 4000).trans (by kernel_rfl)

/- impl.isDigit -/
def impl_isDigit_ir : Fn := { np := 1, io := [], res := [.t 2], own := [false], body :=
  (.seq (.reg false [⟨some 2, false, .asg (.c (.bool false)), none⟩] [0] []) (.seq (.reg false [⟨some 3, false, .mv (.t 0), none⟩, ⟨some 4, false, .bin .geq (.t 3) (.c (.int .u8 48)), none⟩, ⟨some 5, false, .mv (.t 4), none⟩, ⟨some 6, false, .mv (.t 0), some (2, true)⟩, ⟨some 7, false, .bin .leq (.t 6) (.c (.int .u8 57)), some (2, true)⟩, ⟨some 8, false, .pick (.t 5) (.t 7) (.c (.bool false)), none⟩, ⟨some 2, false, .asg (.t 8), none⟩] [2] []) .ret)) }
noncomputable def impl_isDigit_D : List (Nat × Callee) := []
def impl_isDigit_H : List (Nat × ET) := []
noncomputable def impl_isDigit_c : Callee := mkCallee impl_isDigit_D impl_isDigit_H impl_isDigit_ir [.d (.one (.int .u8))] [.d (.one .bool)] []
noncomputable def impl_isDigit (a0 : Int) : Option (Bool) := impl_isDigit_c.f (a0, ())
theorem impl_isDigit_eq (a0 : Int) : impl_isDigit a0 =
    if decide (a0 ≥ 48) then
      some (decide (a0 ≤ 57))
    else
      some false :=
  (mk_f _ _ _ _ _ _ _ 4000).trans (by kernel_rfl)

/- impl.few -/
def impl_few_ir : Fn := { np := 2, io := [], res := [.t 4], own := [false], body :=
  (.seq (.reg false [⟨some 4, false, .asg (.c (.bool false)), none⟩] [0, 1] []) (.seq (.reg false [⟨some 5, false, .mv (.t 0), none⟩, ⟨some 6, false, .mv (.t 1), none⟩, ⟨some 7, false, .bin .leq (.t 5) (.t 6), none⟩, ⟨some 4, false, .asg (.t 7), none⟩] [4] []) .ret)) }
noncomputable def impl_few_D : List (Nat × Callee) := []
def impl_few_H : List (Nat × ET) := []
noncomputable def impl_few_c : Callee := mkCallee impl_few_D impl_few_H impl_few_ir [.d (.one (.int .i64)), .d (.one (.int .i64))] [.d (.one .bool)] []
noncomputable def impl_few (a0 : Int) (a1 : Int) : Option (Bool) := impl_few_c.f (a0, a1, ())
theorem impl_few_eq (a0 : Int) (a1 : Int) : impl_few a0 a1 =
    some (decide (a0 ≤ a1)) :=
  (mk_f _ _ _ _ _ _ _ 4000).trans (by kernel_rfl)

/- impl.IsName -/
def impl_IsName_k0 : C :=
  .seq (.reg false [⟨some 21, false, .mv (.t 4), none⟩, ⟨some 22, false, .un .not (.t 21), none⟩, ⟨some 23, false, .mv (.t 22), none⟩, ⟨some 24, false, .mv (.t 3), some (2, true)⟩, ⟨some 25, false, .bin .eql (.t 24) (.c (.int .i64 0)), some (2, true)⟩, ⟨some 26, false, .mv (.t 25), some (2, true)⟩, ⟨some 27, false, .mv (.t 0), some (5, false)⟩, ⟨some 28, false, .mv (.t 3), some (5, false)⟩, ⟨some 29, false, .ix (.t 27) (.t 28), some (5, false)⟩, ⟨some 30, false, .call (.c (.fn 22 [])) [.t 29], some (5, false)⟩, ⟨some 31, false, .un .not (.t 30), some (5, false)⟩, ⟨some 32, false, .pick (.t 26) (.c (.bool true)) (.t 31), some (2, true)⟩, ⟨some 33, false, .pick (.t 23) (.t 32) (.c (.bool false)), none⟩] [0, 3, 33] []) (.cond (.t 33) (.seq (.reg false [⟨some 2, false, .asg (.c (.bool false)), none⟩] [2] []) .ret) .skip)
def impl_IsName_k1 : C :=
  .reg false [⟨some 9, false, .mv (.t 3), none⟩, ⟨some 10, false, .bin .add (.t 9) (.c (.int .i64 1)), none⟩, ⟨some 3, false, .asg (.t 10), none⟩] [0, 3] []
def impl_IsName_k2 : C :=
  .seq (.seq (.reg false [⟨some 5, false, .mv (.t 3), none⟩, ⟨some 6, false, .mv (.t 0), none⟩, ⟨some 7, false, .lens (.t 6), none⟩, ⟨some 8, false, .bin .lss (.t 5) (.t 7), none⟩] [0, 3, 8] []) (.cond (.t 8) .skip (.exit 0))) (.seq (.block 1 (.seq (.reg false [⟨some 11, false, .mv (.t 0), none⟩, ⟨some 12, false, .mv (.t 3), none⟩, ⟨some 13, false, .ix (.t 11) (.t 12), none⟩, ⟨some 14, false, .bin .geq (.t 13) (.c (.int .u8 97)), none⟩, ⟨some 15, false, .mv (.t 14), none⟩, ⟨some 16, false, .mv (.t 0), some (4, true)⟩, ⟨some 17, false, .mv (.t 3), some (4, true)⟩, ⟨some 18, false, .ix (.t 16) (.t 17), some (4, true)⟩, ⟨some 19, false, .bin .leq (.t 18) (.c (.int .u8 122)), some (4, true)⟩, ⟨some 20, false, .pick (.t 15) (.t 19) (.c (.bool false)), none⟩, ⟨some 4, false, .asg (.t 20), none⟩] [0, 3, 4] []) (.norm [0, 3, 4] [] impl_IsName_k0))) impl_IsName_k1)
def impl_IsName_k3 : C :=
  .norm [0, 3] [] impl_IsName_k2
def impl_IsName_k4 : C :=
  .seq (.reg false [⟨some 34, false, .mv (.t 0), none⟩, ⟨some 35, false, .bin .neq (.t 34) (.c (.str [])), none⟩, ⟨some 36, false, .mv (.t 35), none⟩, ⟨some 37, false, .mv (.t 0), some (2, true)⟩, ⟨some 38, false, .lens (.t 37), some (2, true)⟩, ⟨some 39, false, .call (.c (.fn 21 [])) [.t 38, .c (.int .i64 10)], some (2, true)⟩, ⟨some 40, false, .pick (.t 36) (.t 39) (.c (.bool false)), none⟩, ⟨some 2, false, .asg (.t 40), none⟩] [2] []) .ret
def impl_IsName_ir : Fn := { np := 1, io := [], res := [.t 2], own := [false], body :=
  (.seq (.reg false [⟨some 2, false, .asg (.c (.bool false)), none⟩] [0] []) (.seq (.seq (.reg false [⟨some 3, false, .asg (.c (.int .i64 0)), none⟩] [0, 3] []) (.block 0 (.loop impl_IsName_k3))) impl_IsName_k4)) }
noncomputable def impl_IsName_D : List (Nat × Callee) := [(21, impl_few_c), (22, impl_isDigit_c)]
def impl_IsName_H : List (Nat × ET) := []
noncomputable def impl_IsName_c : Callee := mkCallee impl_IsName_D impl_IsName_H impl_IsName_ir [.d (.one .str)] [.d (.one .bool)] []
noncomputable def impl_IsName (a0 : List UInt8) : Option (Bool) := impl_IsName_c.f (a0, ())
noncomputable def impl_IsName_p0  (v0 : List UInt8) (v3 : Int) : Option (Bool) :=
  goL impl_IsName_D impl_IsName_H (vleave impl_IsName_ir [.d (.one .str)] [.d (.one .bool)] [] []) [.c impl_IsName_k2, .l impl_IsName_k3, .e 0, .c impl_IsName_k4]
    ⟨[(0, .str v0), (3, .int .i64 v3)], []⟩
noncomputable def impl_IsName_p1  (v0 : List UInt8) (v3 : Int) (v4 : Bool) : Option (Bool) :=
  goL impl_IsName_D impl_IsName_H (vleave impl_IsName_ir [.d (.one .str)] [.d (.one .bool)] [] []) [.c impl_IsName_k0, .e 1, .c impl_IsName_k1, .l impl_IsName_k3, .e 0, .c impl_IsName_k4]
    ⟨[(0, .str v0), (3, .int .i64 v3), (4, .bool v4)], []⟩
theorem impl_IsName_eq (a0 : List UInt8) : impl_IsName a0 =
    impl_IsName_p0 a0 0 :=
  (mk_f _ _ _ _ _ _ _ 4000).trans (by kernel_rfl)
theorem impl_IsName_p0_eq  (v0 : List UInt8) (v3 : Int) : impl_IsName_p0 v0 v3 =
    if decide (v3 < (v0.length : Int)) then
      if decide (0 ≤ v3) then
        (v0[v3.toNat]?).bind fun x1 =>
          if decide ((x1.toNat : Int) ≥ 97) then
            if decide (0 ≤ v3) then
              (v0[v3.toNat]?).bind fun x2 =>
                impl_IsName_p1 v0 v3 (decide ((x2.toNat : Int) ≤ 122))
            else
              none
          else
            impl_IsName_p1 v0 v3 false
      else
        none
    else
      if (!(v0 == [])) then
        (impl_few (v0.length : Int) 10).bind fun x3 =>
          some x3
      else
        some false :=
  (goL_dn _ _ _ 4000 _ _).trans (by kernel_rfl)
theorem impl_IsName_p1_eq  (v0 : List UInt8) (v3 : Int) (v4 : Bool) : impl_IsName_p1 v0 v3 v4 =
    if (!v4) then
      if (v3 == 0) then
        some false
      else
        if decide (0 ≤ v3) then
          (v0[v3.toNat]?).bind fun x1 =>
            (impl_isDigit (x1.toNat : Int)).bind fun x2 =>
              if (!x2) then
                some false
              else
                impl_IsName_p0 v0 (IntKind.i64.wrap (v3 + 1))
        else
          none
    else
      impl_IsName_p0 v0 (IntKind.i64.wrap (v3 + 1)) :=
  (goL_dn _ _ _ 4000 _ _).trans (by kernel_rfl)

/- impl.within -/
def impl_within_ir : Fn := { np := 3, io := [], res := [.t 6], own := [false], body :=
  (.seq (.reg false [⟨some 6, false, .asg (.c (.bool false)), none⟩] [0, 1, 2] []) (.seq (.reg false [⟨some 7, false, .mv (.t 1), none⟩, ⟨some 8, false, .mv (.t 0), none⟩, ⟨some 9, false, .bin .leq (.t 7) (.t 8), none⟩, ⟨some 10, false, .mv (.t 9), none⟩, ⟨some 11, false, .mv (.t 0), some (3, true)⟩, ⟨some 12, false, .mv (.t 2), some (3, true)⟩, ⟨some 13, false, .bin .leq (.t 11) (.t 12), some (3, true)⟩, ⟨some 14, false, .pick (.t 10) (.t 13) (.c (.bool false)), none⟩, ⟨some 6, false, .asg (.t 14), none⟩] [6] []) .ret)) }
noncomputable def impl_within_D : List (Nat × Callee) := []
def impl_within_H : List (Nat × ET) := []
noncomputable def impl_within_c : Callee := mkCallee impl_within_D impl_within_H impl_within_ir [.d (.one (.int .i64)), .d (.one (.int .i64)), .d (.one (.int .i64))] [.d (.one .bool)] []
noncomputable def impl_within (a0 : Int) (a1 : Int) (a2 : Int) : Option (Bool) := impl_within_c.f (a0, a1, a2, ())
theorem impl_within_eq (a0 : Int) (a1 : Int) (a2 : Int) : impl_within a0 a1 a2 =
    if decide (a1 ≤ a0) then
      some (decide (a0 ≤ a2))
    else
      some false :=
  (mk_f _ _ _ _ _ _ _ 4000).trans (by kernel_rfl)

/- impl.isPart -/
def impl_isPart_ir : Fn := { np := 1, io := [], res := [.t 2], own := [false], body :=
  (.seq (.reg false [⟨some 2, false, .asg (.c (.bool false)), none⟩] [0] []) (.seq (.reg false [⟨some 3, false, .mv (.t 0), none⟩, ⟨some 4, false, .call (.c (.fn 23 [])) [.t 3, .c (.int .i64 0), .c (.int .i64 1000)], none⟩, ⟨some 2, false, .asg (.t 4), none⟩] [2] []) .ret)) }
noncomputable def impl_isPart_D : List (Nat × Callee) := [(23, impl_within_c)]
def impl_isPart_H : List (Nat × ET) := []
noncomputable def impl_isPart_c : Callee := mkCallee impl_isPart_D impl_isPart_H impl_isPart_ir [.d (.one (.int .i64))] [.d (.one .bool)] []
noncomputable def impl_isPart (a0 : Int) : Option (Bool) := impl_isPart_c.f (a0, ())
theorem impl_isPart_eq (a0 : Int) : impl_isPart a0 =
    (impl_within a0 0 1000).bind fun x1 =>
      some x1 :=
  (mk_f _ _ _ _ _ _ _ 4000).trans (by kernel_rfl)

/- impl.isDay -/
def impl_isDay_ir : Fn := { np := 1, io := [], res := [.t 2], own := [false], body :=
  (.seq (.reg false [⟨some 2, false, .asg (.c (.bool false)), none⟩] [0] []) (.seq (.reg false [⟨some 3, false, .mv (.t 0), none⟩, ⟨some 4, false, .call (.c (.fn 23 [])) [.t 3, .c (.int .i64 0), .c (.int .i64 36524)], none⟩, ⟨some 2, false, .asg (.t 4), none⟩] [2] []) .ret)) }
noncomputable def impl_isDay_D : List (Nat × Callee) := [(23, impl_within_c)]
def impl_isDay_H : List (Nat × ET) := []
noncomputable def impl_isDay_c : Callee := mkCallee impl_isDay_D impl_isDay_H impl_isDay_ir [.d (.one (.int .i64))] [.d (.one .bool)] []
noncomputable def impl_isDay (a0 : Int) : Option (Bool) := impl_isDay_c.f (a0, ())
theorem impl_isDay_eq (a0 : Int) : impl_isDay a0 =
    (impl_within a0 0 36524).bind fun x1 =>
      some x1 :=
  (mk_f _ _ _ _ _ _ _ 4000).trans (by kernel_rfl)

/- (impl.Stack).valid -/
def impl_Stack_valid_ir : Fn := { np := 1, io := [], res := [.t 2], own := [false], body :=
  (.seq (.reg false [⟨some 1, true, .box 4 (.t 0), none⟩, ⟨some 2, false, .asg (.c (.bool false)), none⟩] [1] [1]) (.seq (.reg false [⟨some 3, false, .fa 0 (.t 1), none⟩, ⟨some 4, false, .ld none (.t 3), none⟩, ⟨some 5, false, .call (.c (.fn 24 [])) [.t 4], none⟩, ⟨some 6, false, .mv (.t 5), none⟩, ⟨some 7, false, .fa 1 (.t 1), some (3, true)⟩, ⟨some 8, false, .ld none (.t 7), some (3, true)⟩, ⟨some 9, false, .call (.c (.fn 483 [])) [.t 8], some (3, true)⟩, ⟨some 10, false, .pick (.t 6) (.t 9) (.c (.bool false)), none⟩, ⟨some 11, false, .mv (.t 10), none⟩, ⟨some 12, false, .fa 2 (.t 1), some (8, true)⟩, ⟨some 13, false, .ld none (.t 12), some (8, true)⟩, ⟨some 14, false, .call (.c (.fn 23 [])) [.t 13, .c (.int .i64 10), .c (.int .i64 1000)], some (8, true)⟩, ⟨some 15, false, .pick (.t 11) (.t 14) (.c (.bool false)), none⟩, ⟨some 16, false, .mv (.t 15), none⟩, ⟨some 17, false, .fa 3 (.t 1), some (13, true)⟩, ⟨some 18, false, .ld none (.t 17), some (13, true)⟩, ⟨some 19, false, .call (.c (.fn 682 [])) [.t 18], some (13, true)⟩, ⟨some 20, false, .pick (.t 16) (.t 19) (.c (.bool false)), none⟩, ⟨some 2, false, .asg (.t 20), none⟩] [2] []) .ret)) }
noncomputable def impl_Stack_valid_D : List (Nat × Callee) := [(23, impl_within_c), (24, impl_IsName_c), (483, impl_isPart_c), (682, impl_isDay_c)]
def impl_Stack_valid_H : List (Nat × ET) := []
noncomputable def impl_Stack_valid_c : Callee := mkCallee impl_Stack_valid_D impl_Stack_valid_H impl_Stack_valid_ir [.d T_Peg] [.d (.one .bool)] []
noncomputable def impl_Stack_valid (a0 : T_Peg.ty) : Option (Bool) := impl_Stack_valid_c.f (a0, ())
theorem impl_Stack_valid_eq (a0 : T_Peg.ty) : impl_Stack_valid a0 =
    (impl_IsName a0.1).bind fun x1 =>
      if x1 then
        (impl_isPart a0.2.1).bind fun x2 =>
          if x2 then
            (impl_within a0.2.2.1 10 1000).bind fun x3 =>
              if x3 then
                (impl_isDay a0.2.2.2.1).bind fun x4 =>
                  some x4
              else
                some false
          else
            some false
      else
        some false :=
  (mk_f _ _ _ _ _ _ _ 4000).trans (by kernel_rfl)

/- impl.ValidStacks -/
def impl_ValidStacks_k0 : C :=
  .seq (.reg false [⟨some 8, false, .bin .lss (.t 7) (.t 6), none⟩] [0, 5, 6, 7, 8] []) (.seq (.cond (.t 8) .skip (.exit 0)) (.seq (.block 1 (.seq (.reg false [⟨some 9, false, .mv (.t 7), none⟩, ⟨some 10, false, .ia 4 (.t 5) (.t 7), none⟩, ⟨some 11, false, .ld (some 4) (.t 10), none⟩, ⟨some 4, true, .alloc 4 (.agg [.str [], .int .i64 0, .int .i64 0, .int .i64 0]), none⟩, ⟨some 3, false, .asg (.t 9), none⟩, ⟨none, true, .sto 4 (.t 4) (.t 11), none⟩] [0, 3, 4, 5, 6, 7] [4]) (.seq (.reg true [⟨some 12, false, .ld (some 4) (.t 4), none⟩, ⟨some 13, false, .call (.c (.fn 485 [])) [.t 12], none⟩, ⟨some 14, false, .un .not (.t 13), none⟩, ⟨some 15, false, .mv (.t 14), none⟩, ⟨some 16, false, .mv (.t 3), some (3, false)⟩, ⟨some 17, false, .bin .gtr (.t 16) (.c (.int .i64 0)), some (3, false)⟩, ⟨some 18, false, .mv (.t 17), some (3, false)⟩, ⟨some 19, false, .mv (.t 0), some (6, true)⟩, ⟨some 20, false, .mv (.t 3), some (6, true)⟩, ⟨some 21, false, .bin .sub (.t 20) (.c (.int .i64 1)), some (6, true)⟩, ⟨some 22, false, .ia 4 (.t 19) (.t 21), some (6, true)⟩, ⟨some 23, false, .fa 0 (.t 22), some (6, true)⟩, ⟨some 24, false, .ld none (.t 23), some (6, true)⟩, ⟨some 25, false, .fa 0 (.t 4), some (6, true)⟩, ⟨some 26, false, .ld none (.t 25), some (6, true)⟩, ⟨some 27, false, .bin .geq (.t 24) (.t 26), some (6, true)⟩, ⟨some 28, false, .pick (.t 18) (.t 27) (.c (.bool false)), some (3, false)⟩, ⟨some 29, false, .pick (.t 15) (.c (.bool true)) (.t 28), none⟩] [0, 5, 6, 7, 29] []) (.cond (.t 29) (.seq (.reg false [⟨some 2, false, .asg (.c (.bool false)), none⟩] [2] []) .ret) .skip)))) (.reg false [⟨some 30, false, .bin .add (.t 7) (.c (.int .i64 1)), none⟩, ⟨some 7, false, .mv (.t 30), none⟩] [0, 5, 6, 7] [])))
def impl_ValidStacks_k1 : C :=
  .norm [0, 5, 6, 7] [] impl_ValidStacks_k0
def impl_ValidStacks_k2 : C :=
  .seq (.reg false [⟨some 31, false, .mv (.t 0), none⟩, ⟨some 32, false, .len (.t 31), none⟩, ⟨some 33, false, .call (.c (.fn 21 [])) [.t 32, .c (.int .i64 12)], none⟩, ⟨some 2, false, .asg (.t 33), none⟩] [2] []) .ret
def impl_ValidStacks_ir : Fn := { np := 1, io := [], res := [.t 2], own := [false], body :=
  (.seq (.reg false [⟨some 2, false, .asg (.c (.bool false)), none⟩] [0] []) (.seq (.seq (.reg false [⟨some 5, false, .mv (.t 0), none⟩, ⟨some 6, false, .len (.t 5), none⟩, ⟨some 7, false, .mv (.c (.int .i64 0)), none⟩] [0, 5, 6, 7] []) (.block 0 (.loop impl_ValidStacks_k1))) impl_ValidStacks_k2)) }
noncomputable def impl_ValidStacks_D : List (Nat × Callee) := [(21, impl_few_c), (485, impl_Stack_valid_c)]
def impl_ValidStacks_H : List (Nat × ET) := [(5, T_Peg), (19, T_Peg), (31, T_Peg)]
noncomputable def impl_ValidStacks_c : Callee := mkCallee impl_ValidStacks_D impl_ValidStacks_H impl_ValidStacks_ir [.d (.one (.sl T_Peg))] [.d (.one .bool)] []
noncomputable def impl_ValidStacks (a0 : List T_Peg.ty) : Option (Bool) := impl_ValidStacks_c.f (a0, ())
noncomputable def impl_ValidStacks_p0  (v0 : List T_Peg.ty) (v5 : List T_Peg.ty) (v6 : Int) (v7 : Int) : Option (Bool) :=
  goL impl_ValidStacks_D impl_ValidStacks_H (vleave impl_ValidStacks_ir [.d (.one (.sl T_Peg))] [.d (.one .bool)] [] []) [.c impl_ValidStacks_k0, .l impl_ValidStacks_k1, .e 0, .c impl_ValidStacks_k2]
    ⟨[(0, .sl T_Peg v0), (5, .sl T_Peg v5), (6, .int .i64 v6), (7, .int .i64 v7)], []⟩
theorem impl_ValidStacks_eq (a0 : List T_Peg.ty) : impl_ValidStacks a0 =
    impl_ValidStacks_p0 a0 a0 (a0.length : Int) 0 :=
  (mk_f _ _ _ _ _ _ _ 4000).trans (by kernel_rfl)
theorem impl_ValidStacks_p0_eq  (v0 : List T_Peg.ty) (v5 : List T_Peg.ty) (v6 : Int) (v7 : Int) : impl_ValidStacks_p0 v0 v5 v6 v7 =
    if decide (v7 < v6) then
      if decide (0 ≤ v7) then
        (v5[v7.toNat]?).bind fun x1 =>
          (impl_Stack_valid x1).bind fun x2 =>
            if (!x2) then
              some false
            else
              if decide (v7 > 0) then
                if decide (0 ≤ IntKind.i64.wrap (v7 - 1)) then
                  (v0[(IntKind.i64.wrap (v7 - 1)).toNat]?).bind fun x3 =>
                    if (!Op.bytesLess x3.1 x1.1) then
                      some false
                    else
                      impl_ValidStacks_p0 v0 v5 v6 (IntKind.i64.wrap (v7 + 1))
                else
                  none
              else
                impl_ValidStacks_p0 v0 v5 v6 (IntKind.i64.wrap (v7 + 1))
      else
        none
    else
      (impl_few (v0.length : Int) 12).bind fun x4 =>
        some x4 :=
  (goL_dn _ _ _ 4000 _ _).trans (by kernel_rfl)

/- (impl.Rib).valid -/
def impl_Rib_valid_ir : Fn := { np := 1, io := [], res := [.t 2], own := [false], body :=
  (.seq (.reg false [⟨some 1, true, .box 3 (.t 0), none⟩, ⟨some 2, false, .asg (.c (.bool false)), none⟩] [1] [1]) (.seq (.reg false [⟨some 3, false, .fa 0 (.t 1), none⟩, ⟨some 4, false, .ld none (.t 3), none⟩, ⟨some 5, false, .call (.c (.fn 24 [])) [.t 4], none⟩, ⟨some 6, false, .mv (.t 5), none⟩, ⟨some 7, false, .fa 1 (.t 1), some (3, true)⟩, ⟨some 8, false, .ld none (.t 7), some (3, true)⟩, ⟨some 9, false, .call (.c (.fn 23 [])) [.t 8, .c (.int .i64 1), .c (.int .i64 10000)], some (3, true)⟩, ⟨some 10, false, .pick (.t 6) (.t 9) (.c (.bool false)), none⟩, ⟨some 11, false, .mv (.t 10), none⟩, ⟨some 12, false, .fa 2 (.t 1), some (8, true)⟩, ⟨some 13, false, .ld none (.t 12), some (8, true)⟩, ⟨some 14, false, .call (.c (.fn 23 [])) [.t 13, .c (.int .i64 1), .c (.int .i64 10000)], some (8, true)⟩, ⟨some 15, false, .pick (.t 11) (.t 14) (.c (.bool false)), none⟩, ⟨some 2, false, .asg (.t 15), none⟩] [2] []) .ret)) }
noncomputable def impl_Rib_valid_D : List (Nat × Callee) := [(23, impl_within_c), (24, impl_IsName_c)]
def impl_Rib_valid_H : List (Nat × ET) := []
noncomputable def impl_Rib_valid_c : Callee := mkCallee impl_Rib_valid_D impl_Rib_valid_H impl_Rib_valid_ir [.d T_Mode] [.d (.one .bool)] []
noncomputable def impl_Rib_valid (a0 : T_Mode.ty) : Option (Bool) := impl_Rib_valid_c.f (a0, ())
theorem impl_Rib_valid_eq (a0 : T_Mode.ty) : impl_Rib_valid a0 =
    (impl_IsName a0.1).bind fun x1 =>
      if x1 then
        (impl_within a0.2.1 1 10000).bind fun x2 =>
          if x2 then
            (impl_within a0.2.2.1 1 10000).bind fun x3 =>
              some x3
          else
            some false
      else
        some false :=
  (mk_f _ _ _ _ _ _ _ 4000).trans (by kernel_rfl)

/- impl.ValidRibs -/
def impl_ValidRibs_k0 : C :=
  .seq (.reg false [⟨some 8, false, .bin .lss (.t 7) (.t 6), none⟩] [0, 5, 6, 7, 8] []) (.seq (.cond (.t 8) .skip (.exit 0)) (.seq (.block 1 (.seq (.reg false [⟨some 9, false, .mv (.t 7), none⟩, ⟨some 10, false, .ia 3 (.t 5) (.t 7), none⟩, ⟨some 11, false, .ld (some 3) (.t 10), none⟩, ⟨some 4, true, .alloc 3 (.agg [.str [], .int .i64 0, .int .i64 0]), none⟩, ⟨some 3, false, .asg (.t 9), none⟩, ⟨none, true, .sto 3 (.t 4) (.t 11), none⟩] [0, 3, 4, 5, 6, 7] [4]) (.seq (.reg true [⟨some 12, false, .ld (some 3) (.t 4), none⟩, ⟨some 13, false, .call (.c (.fn 762 [])) [.t 12], none⟩, ⟨some 14, false, .un .not (.t 13), none⟩, ⟨some 15, false, .mv (.t 14), none⟩, ⟨some 16, false, .mv (.t 3), some (3, false)⟩, ⟨some 17, false, .bin .gtr (.t 16) (.c (.int .i64 0)), some (3, false)⟩, ⟨some 18, false, .mv (.t 17), some (3, false)⟩, ⟨some 19, false, .mv (.t 0), some (6, true)⟩, ⟨some 20, false, .mv (.t 3), some (6, true)⟩, ⟨some 21, false, .bin .sub (.t 20) (.c (.int .i64 1)), some (6, true)⟩, ⟨some 22, false, .ia 3 (.t 19) (.t 21), some (6, true)⟩, ⟨some 23, false, .fa 0 (.t 22), some (6, true)⟩, ⟨some 24, false, .ld none (.t 23), some (6, true)⟩, ⟨some 25, false, .fa 0 (.t 4), some (6, true)⟩, ⟨some 26, false, .ld none (.t 25), some (6, true)⟩, ⟨some 27, false, .bin .geq (.t 24) (.t 26), some (6, true)⟩, ⟨some 28, false, .pick (.t 18) (.t 27) (.c (.bool false)), some (3, false)⟩, ⟨some 29, false, .pick (.t 15) (.c (.bool true)) (.t 28), none⟩] [0, 5, 6, 7, 29] []) (.cond (.t 29) (.seq (.reg false [⟨some 2, false, .asg (.c (.bool false)), none⟩] [2] []) .ret) .skip)))) (.reg false [⟨some 30, false, .bin .add (.t 7) (.c (.int .i64 1)), none⟩, ⟨some 7, false, .mv (.t 30), none⟩] [0, 5, 6, 7] [])))
def impl_ValidRibs_k1 : C :=
  .norm [0, 5, 6, 7] [] impl_ValidRibs_k0
def impl_ValidRibs_k2 : C :=
  .seq (.reg false [⟨some 31, false, .mv (.t 0), none⟩, ⟨some 32, false, .len (.t 31), none⟩, ⟨some 33, false, .call (.c (.fn 21 [])) [.t 32, .c (.int .i64 8)], none⟩, ⟨some 2, false, .asg (.t 33), none⟩] [2] []) .ret
def impl_ValidRibs_ir : Fn := { np := 1, io := [], res := [.t 2], own := [false], body :=
  (.seq (.reg false [⟨some 2, false, .asg (.c (.bool false)), none⟩] [0] []) (.seq (.seq (.reg false [⟨some 5, false, .mv (.t 0), none⟩, ⟨some 6, false, .len (.t 5), none⟩, ⟨some 7, false, .mv (.c (.int .i64 0)), none⟩] [0, 5, 6, 7] []) (.block 0 (.loop impl_ValidRibs_k1))) impl_ValidRibs_k2)) }
noncomputable def impl_ValidRibs_D : List (Nat × Callee) := [(21, impl_few_c), (762, impl_Rib_valid_c)]
def impl_ValidRibs_H : List (Nat × ET) := [(5, T_Mode), (19, T_Mode), (31, T_Mode)]
noncomputable def impl_ValidRibs_c : Callee := mkCallee impl_ValidRibs_D impl_ValidRibs_H impl_ValidRibs_ir [.d (.one (.sl T_Mode))] [.d (.one .bool)] []
noncomputable def impl_ValidRibs (a0 : List T_Mode.ty) : Option (Bool) := impl_ValidRibs_c.f (a0, ())
noncomputable def impl_ValidRibs_p0  (v0 : List T_Mode.ty) (v5 : List T_Mode.ty) (v6 : Int) (v7 : Int) : Option (Bool) :=
  goL impl_ValidRibs_D impl_ValidRibs_H (vleave impl_ValidRibs_ir [.d (.one (.sl T_Mode))] [.d (.one .bool)] [] []) [.c impl_ValidRibs_k0, .l impl_ValidRibs_k1, .e 0, .c impl_ValidRibs_k2]
    ⟨[(0, .sl T_Mode v0), (5, .sl T_Mode v5), (6, .int .i64 v6), (7, .int .i64 v7)], []⟩
theorem impl_ValidRibs_eq (a0 : List T_Mode.ty) : impl_ValidRibs a0 =
    impl_ValidRibs_p0 a0 a0 (a0.length : Int) 0 :=
  (mk_f _ _ _ _ _ _ _ 4000).trans (by kernel_rfl)
theorem impl_ValidRibs_p0_eq  (v0 : List T_Mode.ty) (v5 : List T_Mode.ty) (v6 : Int) (v7 : Int) : impl_ValidRibs_p0 v0 v5 v6 v7 =
    if decide (v7 < v6) then
      if decide (0 ≤ v7) then
        (v5[v7.toNat]?).bind fun x1 =>
          (impl_Rib_valid x1).bind fun x2 =>
            if (!x2) then
              some false
            else
              if decide (v7 > 0) then
                if decide (0 ≤ IntKind.i64.wrap (v7 - 1)) then
                  (v0[(IntKind.i64.wrap (v7 - 1)).toNat]?).bind fun x3 =>
                    if (!Op.bytesLess x3.1 x1.1) then
                      some false
                    else
                      impl_ValidRibs_p0 v0 v5 v6 (IntKind.i64.wrap (v7 + 1))
                else
                  none
              else
                impl_ValidRibs_p0 v0 v5 v6 (IntKind.i64.wrap (v7 + 1))
      else
        none
    else
      (impl_few (v0.length : Int) 8).bind fun x4 =>
        some x4 :=
  (goL_dn _ _ _ 4000 _ _).trans (by kernel_rfl)

/- impl.isGrid -/
def impl_isGrid_k0 : C :=
  .seq (.reg false [⟨some 43, false, .bin .lss (.t 42) (.t 41), none⟩] [0, 2, 3, 27, 28, 29, 40, 41, 42, 43] [10]) (.seq (.cond (.t 43) .skip (.exit 2)) (.seq (.block 3 (.seq (.reg false [⟨some 44, false, .ia 1 (.t 40) (.t 42), none⟩, ⟨some 45, false, .ld none (.t 44), none⟩, ⟨some 12, false, .asg (.t 45), none⟩] [0, 2, 3, 12, 27, 28, 29, 40, 41, 42] [10]) (.seq (.reg false [⟨some 46, false, .mv (.t 12), none⟩, ⟨some 47, false, .mv (.t 2), none⟩, ⟨some 48, false, .mv (.t 3), none⟩, ⟨some 49, false, .call (.c (.fn 23 [])) [.t 46, .t 47, .t 48], none⟩, ⟨some 50, false, .un .not (.t 49), none⟩] [0, 2, 3, 27, 28, 29, 40, 41, 42, 50] [10]) (.cond (.t 50) (.seq (.reg false [⟨some 8, false, .asg (.c (.bool false)), none⟩] [8] []) .ret) .skip)))) (.reg false [⟨some 51, false, .bin .add (.t 42) (.c (.int .i64 1)), none⟩, ⟨some 42, false, .mv (.t 51), none⟩] [0, 2, 3, 27, 28, 29, 40, 41, 42] [10])))
def impl_isGrid_k1 : C :=
  .norm [0, 2, 3, 27, 28, 29, 40, 41, 42] [10] impl_isGrid_k0
def impl_isGrid_k2 : C :=
  .reg false [⟨some 52, false, .bin .add (.t 29) (.c (.int .i64 1)), none⟩, ⟨some 29, false, .mv (.t 52), none⟩] [0, 2, 3, 27, 28, 29] []
def impl_isGrid_k3 : C :=
  .seq (.reg false [⟨some 30, false, .bin .lss (.t 29) (.t 28), none⟩] [0, 2, 3, 27, 28, 29, 30] []) (.seq (.cond (.t 30) .skip (.exit 0)) (.seq (.block 1 (.seq (.reg false [⟨some 31, false, .ia 1 (.t 27) (.t 29), none⟩, ⟨some 32, false, .ld none (.t 31), none⟩, ⟨some 10, true, .asg (.t 32), none⟩] [0, 2, 3, 10, 27, 28, 29] [10]) (.seq (.seq (.reg false [⟨some 33, false, .mv (.t 10), none⟩, ⟨some 34, false, .len (.t 33), none⟩, ⟨some 35, false, .mv (.t 0), none⟩, ⟨some 36, false, .ia 1 (.t 35) (.c (.int .i64 0)), none⟩, ⟨some 37, false, .ld none (.t 36), none⟩, ⟨some 38, false, .len (.t 37), none⟩, ⟨some 39, false, .bin .neq (.t 34) (.t 38), none⟩] [0, 2, 3, 10, 27, 28, 29, 39] [10]) (.cond (.t 39) (.seq (.reg false [⟨some 8, false, .asg (.c (.bool false)), none⟩] [8] []) .ret) .skip)) (.seq (.reg false [⟨some 40, false, .mv (.t 10), none⟩, ⟨some 41, false, .len (.t 40), none⟩, ⟨some 42, false, .mv (.c (.int .i64 0)), none⟩] [0, 2, 3, 27, 28, 29, 40, 41, 42] [10]) (.block 2 (.loop impl_isGrid_k1)))))) impl_isGrid_k2))
def impl_isGrid_k4 : C :=
  .norm [0, 2, 3, 27, 28, 29] [] impl_isGrid_k3
def impl_isGrid_k5 : C :=
  .seq (.reg false [⟨some 8, false, .asg (.c (.bool true)), none⟩] [8] []) .ret
def impl_isGrid_k6 : C :=
  .seq (.seq (.reg false [⟨some 27, false, .mv (.t 0), none⟩, ⟨some 28, false, .len (.t 27), none⟩, ⟨some 29, false, .mv (.c (.int .i64 0)), none⟩] [0, 2, 3, 27, 28, 29] []) (.block 0 (.loop impl_isGrid_k4))) impl_isGrid_k5
def impl_isGrid_ir : Fn := { np := 4, io := [], res := [.t 8], own := [false], body :=
  (.seq (.reg false [⟨some 8, false, .asg (.c (.bool false)), none⟩] [0, 1, 2, 3] []) (.seq (.seq (.reg false [⟨some 13, false, .mv (.t 0), none⟩, ⟨some 14, false, .len (.t 13), none⟩, ⟨some 15, false, .mv (.t 1), none⟩, ⟨some 16, false, .call (.c (.fn 23 [])) [.t 14, .c (.int .i64 1), .t 15], none⟩, ⟨some 17, false, .un .not (.t 16), none⟩, ⟨some 18, false, .mv (.t 17), none⟩, ⟨some 19, false, .mv (.t 0), some (5, false)⟩, ⟨some 20, false, .ia 1 (.t 19) (.c (.int .i64 0)), some (5, false)⟩, ⟨some 21, false, .ld none (.t 20), some (5, false)⟩, ⟨some 22, false, .len (.t 21), some (5, false)⟩, ⟨some 23, false, .mv (.t 1), some (5, false)⟩, ⟨some 24, false, .call (.c (.fn 23 [])) [.t 22, .c (.int .i64 1), .t 23], some (5, false)⟩, ⟨some 25, false, .un .not (.t 24), some (5, false)⟩, ⟨some 26, false, .pick (.t 18) (.c (.bool true)) (.t 25), none⟩] [0, 2, 3, 26] []) (.cond (.t 26) (.seq (.reg false [⟨some 8, false, .asg (.c (.bool false)), none⟩] [8] []) .ret) .skip)) (.norm [0, 2, 3] [] impl_isGrid_k6))) }
noncomputable def impl_isGrid_D : List (Nat × Callee) := [(23, impl_within_c)]
def impl_isGrid_H : List (Nat × ET) := [(10, (.one (.int .i64))), (13, (.one (.sl (.one (.int .i64))))), (19, (.one (.sl (.one (.int .i64))))), (21, (.one (.int .i64))), (27, (.one (.sl (.one (.int .i64))))), (32, (.one (.int .i64))), (33, (.one (.int .i64))), (35, (.one (.sl (.one (.int .i64))))), (37, (.one (.int .i64))), (40, (.one (.int .i64)))]
noncomputable def impl_isGrid_c : Callee := mkCallee impl_isGrid_D impl_isGrid_H impl_isGrid_ir [.d (.one (.sl (.one (.sl (.one (.int .i64)))))), .d (.one (.int .i64)), .d (.one (.int .i64)), .d (.one (.int .i64))] [.d (.one .bool)] []
noncomputable def impl_isGrid (a0 : List (List Int)) (a1 : Int) (a2 : Int) (a3 : Int) : Option (Bool) := impl_isGrid_c.f (a0, a1, a2, a3, ())
noncomputable def impl_isGrid_p0  (v0 : List (List Int)) (v2 : Int) (v3 : Int) : Option (Bool) :=
  goL impl_isGrid_D impl_isGrid_H (vleave impl_isGrid_ir [.d (.one (.sl (.one (.sl (.one (.int .i64)))))), .d (.one (.int .i64)), .d (.one (.int .i64)), .d (.one (.int .i64))] [.d (.one .bool)] [] []) [.c impl_isGrid_k6]
    ⟨[(0, .sl (.one (.sl (.one (.int .i64)))) v0), (2, .int .i64 v2), (3, .int .i64 v3)], []⟩
noncomputable def impl_isGrid_p1  (v0 : List (List Int)) (v2 : Int) (v3 : Int) (v27 : List (List Int)) (v28 : Int) (v29 : Int) : Option (Bool) :=
  goL impl_isGrid_D impl_isGrid_H (vleave impl_isGrid_ir [.d (.one (.sl (.one (.sl (.one (.int .i64)))))), .d (.one (.int .i64)), .d (.one (.int .i64)), .d (.one (.int .i64))] [.d (.one .bool)] [] []) [.c impl_isGrid_k3, .l impl_isGrid_k4, .e 0, .c impl_isGrid_k5]
    ⟨[(0, .sl (.one (.sl (.one (.int .i64)))) v0), (2, .int .i64 v2), (3, .int .i64 v3), (27, .sl (.one (.sl (.one (.int .i64)))) v27), (28, .int .i64 v28), (29, .int .i64 v29)], []⟩
noncomputable def impl_isGrid_p2  (v0 : List (List Int)) (v2 : Int) (v3 : Int) (v27 : List (List Int)) (v28 : Int) (v29 : Int) (v40 : List Int) (v41 : Int) (v42 : Int) : Option (Bool) :=
  goL impl_isGrid_D impl_isGrid_H (vleave impl_isGrid_ir [.d (.one (.sl (.one (.sl (.one (.int .i64)))))), .d (.one (.int .i64)), .d (.one (.int .i64)), .d (.one (.int .i64))] [.d (.one .bool)] [] []) [.c impl_isGrid_k0, .l impl_isGrid_k1, .e 2, .e 1, .c impl_isGrid_k2, .l impl_isGrid_k4, .e 0, .c impl_isGrid_k5]
    ⟨[(0, .sl (.one (.sl (.one (.int .i64)))) v0), (2, .int .i64 v2), (3, .int .i64 v3), (27, .sl (.one (.sl (.one (.int .i64)))) v27), (28, .int .i64 v28), (29, .int .i64 v29), (40, .sl (.one (.int .i64)) v40), (41, .int .i64 v41), (42, .int .i64 v42)], [(10, none)]⟩
theorem impl_isGrid_eq (a0 : List (List Int)) (a1 : Int) (a2 : Int) (a3 : Int) : impl_isGrid a0 a1 a2 a3 =
    (impl_within (a0.length : Int) 1 a1).bind fun x1 =>
      if (!x1) then
        some false
      else
        (a0[0]?).bind fun x2 =>
          (impl_within (x2.length : Int) 1 a1).bind fun x3 =>
            if (!x3) then
              some false
            else
              impl_isGrid_p0 a0 a2 a3 :=
  (mk_f _ _ _ _ _ _ _ 4000).trans (by kernel_rfl)
theorem impl_isGrid_p0_eq  (v0 : List (List Int)) (v2 : Int) (v3 : Int) : impl_isGrid_p0 v0 v2 v3 =
    impl_isGrid_p1 v0 v2 v3 v0 (v0.length : Int) 0 :=
  (goL_dn _ _ _ 4000 _ _).trans (by kernel_rfl)
theorem impl_isGrid_p1_eq  (v0 : List (List Int)) (v2 : Int) (v3 : Int) (v27 : List (List Int)) (v28 : Int) (v29 : Int) : impl_isGrid_p1 v0 v2 v3 v27 v28 v29 =
    if decide (v29 < v28) then
      if decide (0 ≤ v29) then
        (v27[v29.toNat]?).bind fun x1 =>
          (v0[0]?).bind fun x2 =>
            if ((x1.length : Int) != (x2.length : Int)) then
              some false
            else
              impl_isGrid_p2 v0 v2 v3 v27 v28 v29 x1 (x1.length : Int) 0
      else
        none
    else
      some true :=
  (goL_dn _ _ _ 4000 _ _).trans (by kernel_rfl)
theorem impl_isGrid_p2_eq  (v0 : List (List Int)) (v2 : Int) (v3 : Int) (v27 : List (List Int)) (v28 : Int) (v29 : Int) (v40 : List Int) (v41 : Int) (v42 : Int) : impl_isGrid_p2 v0 v2 v3 v27 v28 v29 v40 v41 v42 =
    if decide (v42 < v41) then
      if decide (0 ≤ v42) then
        (v40[v42.toNat]?).bind fun x1 =>
          (impl_within x1 v2 v3).bind fun x2 =>
            if (!x2) then
              some false
            else
              impl_isGrid_p2 v0 v2 v3 v27 v28 v29 v40 v41 (IntKind.i64.wrap (v42 + 1))
      else
        none
    else
      impl_isGrid_p1 v0 v2 v3 v27 v28 (IntKind.i64.wrap (v29 + 1)) :=
  (goL_dn _ _ _ 4000 _ _).trans (by kernel_rfl)

/- impl.ValidPlate -/
def impl_ValidPlate_ir : Fn := { np := 1, io := [], res := [.t 2], own := [false], body :=
  (.seq (.reg false [⟨some 2, false, .asg (.c (.bool false)), none⟩] [0] []) (.seq (.reg false [⟨some 3, false, .mv (.t 0), none⟩, ⟨some 4, false, .call (.c (.fn 944 [])) [.t 3, .c (.int .i64 10), .c (.int .i64 1), .c (.int .i64 200)], none⟩, ⟨some 2, false, .asg (.t 4), none⟩] [2] []) .ret)) }
noncomputable def impl_ValidPlate_D : List (Nat × Callee) := [(944, impl_isGrid_c)]
def impl_ValidPlate_H : List (Nat × ET) := [(3, (.one (.sl (.one (.int .i64)))))]
noncomputable def impl_ValidPlate_c : Callee := mkCallee impl_ValidPlate_D impl_ValidPlate_H impl_ValidPlate_ir [.d (.one (.sl (.one (.sl (.one (.int .i64))))))] [.d (.one .bool)] []
noncomputable def impl_ValidPlate (a0 : List (List Int)) : Option (Bool) := impl_ValidPlate_c.f (a0, ())
theorem impl_ValidPlate_eq (a0 : List (List Int)) : impl_ValidPlate a0 =
    (impl_isGrid a0 10 1 200).bind fun x1 =>
      some x1 :=
  (mk_f _ _ _ _ _ _ _ 4000).trans (by kernel_rfl)

/- impl.ValidNeck -/
def impl_ValidNeck_ir : Fn := { np := 1, io := [], res := [.t 2], own := [false], body :=
  (.seq (.reg false [⟨some 1, true, .box 4 (.t 0), none⟩, ⟨some 2, false, .asg (.c (.bool false)), none⟩] [1] [1]) (.seq (.reg false [⟨some 3, false, .fa 0 (.t 1), none⟩, ⟨some 4, false, .ld none (.t 3), none⟩, ⟨some 5, false, .call (.c (.fn 23 [])) [.t 4, .c (.int .i64 100), .c (.int .i64 10000)], none⟩, ⟨some 6, false, .mv (.t 5), none⟩, ⟨some 7, false, .fa 1 (.t 1), some (3, true)⟩, ⟨some 8, false, .ld none (.t 7), some (3, true)⟩, ⟨some 9, false, .call (.c (.fn 23 [])) [.t 8, .c (.int .i64 100), .c (.int .i64 10000)], some (3, true)⟩, ⟨some 10, false, .pick (.t 6) (.t 9) (.c (.bool false)), none⟩, ⟨some 11, false, .mv (.t 10), none⟩, ⟨some 12, false, .fa 2 (.t 1), some (8, true)⟩, ⟨some 13, false, .ld none (.t 12), some (8, true)⟩, ⟨some 14, false, .call (.c (.fn 23 [])) [.t 13, .c (.int .i64 0), .c (.int .i64 500)], some (8, true)⟩, ⟨some 15, false, .pick (.t 11) (.t 14) (.c (.bool false)), none⟩, ⟨some 16, false, .mv (.t 15), none⟩, ⟨some 17, false, .fa 3 (.t 1), some (13, true)⟩, ⟨some 18, false, .ld none (.t 17), some (13, true)⟩, ⟨some 19, false, .call (.c (.fn 23 [])) [.t 18, .c (.int .i64 0), .c (.int .i64 300)], some (13, true)⟩, ⟨some 20, false, .pick (.t 16) (.t 19) (.c (.bool false)), none⟩, ⟨some 2, false, .asg (.t 20), none⟩] [2] []) .ret)) }
noncomputable def impl_ValidNeck_D : List (Nat × Callee) := [(23, impl_within_c)]
def impl_ValidNeck_H : List (Nat × ET) := []
noncomputable def impl_ValidNeck_c : Callee := mkCallee impl_ValidNeck_D impl_ValidNeck_H impl_ValidNeck_ir [.d T_Neck] [.d (.one .bool)] []
noncomputable def impl_ValidNeck (a0 : T_Neck.ty) : Option (Bool) := impl_ValidNeck_c.f (a0, ())
theorem impl_ValidNeck_eq (a0 : T_Neck.ty) : impl_ValidNeck a0 =
    (impl_within a0.1 100 10000).bind fun x1 =>
      if x1 then
        (impl_within a0.2.1 100 10000).bind fun x2 =>
          if x2 then
            (impl_within a0.2.2.1 0 500).bind fun x3 =>
              if x3 then
                (impl_within a0.2.2.2.1 0 300).bind fun x4 =>
                  some x4
              else
                some false
          else
            some false
      else
        some false :=
  (mk_f _ _ _ _ _ _ _ 4000).trans (by kernel_rfl)

/- impl.isHole -/
def impl_isHole_ir : Fn := { np := 1, io := [], res := [.t 2], own := [false], body :=
  (.seq (.reg false [⟨some 2, false, .asg (.c (.bool false)), none⟩] [0] []) (.seq (.reg false [⟨some 3, false, .mv (.t 0), none⟩, ⟨some 4, false, .call (.c (.fn 23 [])) [.t 3, .c (.int .i64 20), .c (.int .i64 200)], none⟩, ⟨some 2, false, .asg (.t 4), none⟩] [2] []) .ret)) }
noncomputable def impl_isHole_D : List (Nat × Callee) := [(23, impl_within_c)]
def impl_isHole_H : List (Nat × ET) := []
noncomputable def impl_isHole_c : Callee := mkCallee impl_isHole_D impl_isHole_H impl_isHole_ir [.d (.one (.int .i64))] [.d (.one .bool)] []
noncomputable def impl_isHole (a0 : Int) : Option (Bool) := impl_isHole_c.f (a0, ())
theorem impl_isHole_eq (a0 : Int) : impl_isHole a0 =
    (impl_within a0 20 200).bind fun x1 =>
      some x1 :=
  (mk_f _ _ _ _ _ _ _ 4000).trans (by kernel_rfl)

/- (impl.Peg).valid -/
def impl_Peg_valid_ir : Fn := { np := 1, io := [], res := [.t 2], own := [false], body :=
  (.seq (.reg false [⟨some 1, true, .box 4 (.t 0), none⟩, ⟨some 2, false, .asg (.c (.bool false)), none⟩] [1] [1]) (.seq (.reg false [⟨some 3, false, .fa 0 (.t 1), none⟩, ⟨some 4, false, .ld none (.t 3), none⟩, ⟨some 5, false, .call (.c (.fn 24 [])) [.t 4], none⟩, ⟨some 6, false, .mv (.t 5), none⟩, ⟨some 7, false, .fa 1 (.t 1), some (3, true)⟩, ⟨some 8, false, .ld none (.t 7), some (3, true)⟩, ⟨some 9, false, .call (.c (.fn 500 [])) [.t 8], some (3, true)⟩, ⟨some 10, false, .pick (.t 6) (.t 9) (.c (.bool false)), none⟩, ⟨some 11, false, .mv (.t 10), none⟩, ⟨some 12, false, .fa 2 (.t 1), some (8, true)⟩, ⟨some 13, false, .ld none (.t 12), some (8, true)⟩, ⟨some 14, false, .call (.c (.fn 23 [])) [.t 13, .c (.int .i64 100), .c (.int .i64 1000)], some (8, true)⟩, ⟨some 15, false, .pick (.t 11) (.t 14) (.c (.bool false)), none⟩, ⟨some 16, false, .mv (.t 15), none⟩, ⟨some 17, false, .fa 3 (.t 1), some (13, true)⟩, ⟨some 18, false, .ld none (.t 17), some (13, true)⟩, ⟨some 19, false, .call (.c (.fn 23 [])) [.t 18, .c (.int .i64 10), .c (.int .i64 100)], some (13, true)⟩, ⟨some 20, false, .pick (.t 16) (.t 19) (.c (.bool false)), none⟩, ⟨some 2, false, .asg (.t 20), none⟩] [2] []) .ret)) }
noncomputable def impl_Peg_valid_D : List (Nat × Callee) := [(23, impl_within_c), (24, impl_IsName_c), (500, impl_isHole_c)]
def impl_Peg_valid_H : List (Nat × ET) := []
noncomputable def impl_Peg_valid_c : Callee := mkCallee impl_Peg_valid_D impl_Peg_valid_H impl_Peg_valid_ir [.d T_Peg] [.d (.one .bool)] []
noncomputable def impl_Peg_valid (a0 : T_Peg.ty) : Option (Bool) := impl_Peg_valid_c.f (a0, ())
theorem impl_Peg_valid_eq (a0 : T_Peg.ty) : impl_Peg_valid a0 =
    (impl_IsName a0.1).bind fun x1 =>
      if x1 then
        (impl_isHole a0.2.1).bind fun x2 =>
          if x2 then
            (impl_within a0.2.2.1 100 1000).bind fun x3 =>
              if x3 then
                (impl_within a0.2.2.2.1 10 100).bind fun x4 =>
                  some x4
              else
                some false
          else
            some false
      else
        some false :=
  (mk_f _ _ _ _ _ _ _ 4000).trans (by kernel_rfl)

/- impl.ValidPegs -/
def impl_ValidPegs_k0 : C :=
  .seq (.reg false [⟨some 8, false, .bin .lss (.t 7) (.t 6), none⟩] [0, 5, 6, 7, 8] []) (.seq (.cond (.t 8) .skip (.exit 0)) (.seq (.block 1 (.seq (.reg false [⟨some 9, false, .mv (.t 7), none⟩, ⟨some 10, false, .ia 4 (.t 5) (.t 7), none⟩, ⟨some 11, false, .ld (some 4) (.t 10), none⟩, ⟨some 4, true, .alloc 4 (.agg [.str [], .int .i64 0, .int .i64 0, .int .i64 0]), none⟩, ⟨some 3, false, .asg (.t 9), none⟩, ⟨none, true, .sto 4 (.t 4) (.t 11), none⟩] [0, 3, 4, 5, 6, 7] [4]) (.seq (.reg true [⟨some 12, false, .ld (some 4) (.t 4), none⟩, ⟨some 13, false, .call (.c (.fn 796 [])) [.t 12], none⟩, ⟨some 14, false, .un .not (.t 13), none⟩, ⟨some 15, false, .mv (.t 14), none⟩, ⟨some 16, false, .mv (.t 3), some (3, false)⟩, ⟨some 17, false, .bin .gtr (.t 16) (.c (.int .i64 0)), some (3, false)⟩, ⟨some 18, false, .mv (.t 17), some (3, false)⟩, ⟨some 19, false, .mv (.t 0), some (6, true)⟩, ⟨some 20, false, .mv (.t 3), some (6, true)⟩, ⟨some 21, false, .bin .sub (.t 20) (.c (.int .i64 1)), some (6, true)⟩, ⟨some 22, false, .ia 4 (.t 19) (.t 21), some (6, true)⟩, ⟨some 23, false, .fa 0 (.t 22), some (6, true)⟩, ⟨some 24, false, .ld none (.t 23), some (6, true)⟩, ⟨some 25, false, .fa 0 (.t 4), some (6, true)⟩, ⟨some 26, false, .ld none (.t 25), some (6, true)⟩, ⟨some 27, false, .bin .geq (.t 24) (.t 26), some (6, true)⟩, ⟨some 28, false, .pick (.t 18) (.t 27) (.c (.bool false)), some (3, false)⟩, ⟨some 29, false, .pick (.t 15) (.c (.bool true)) (.t 28), none⟩] [0, 5, 6, 7, 29] []) (.cond (.t 29) (.seq (.reg false [⟨some 2, false, .asg (.c (.bool false)), none⟩] [2] []) .ret) .skip)))) (.reg false [⟨some 30, false, .bin .add (.t 7) (.c (.int .i64 1)), none⟩, ⟨some 7, false, .mv (.t 30), none⟩] [0, 5, 6, 7] [])))
def impl_ValidPegs_k1 : C :=
  .norm [0, 5, 6, 7] [] impl_ValidPegs_k0
def impl_ValidPegs_k2 : C :=
  .seq (.reg false [⟨some 31, false, .mv (.t 0), none⟩, ⟨some 32, false, .len (.t 31), none⟩, ⟨some 33, false, .call (.c (.fn 21 [])) [.t 32, .c (.int .i64 8)], none⟩, ⟨some 2, false, .asg (.t 33), none⟩] [2] []) .ret
def impl_ValidPegs_ir : Fn := { np := 1, io := [], res := [.t 2], own := [false], body :=
  (.seq (.reg false [⟨some 2, false, .asg (.c (.bool false)), none⟩] [0] []) (.seq (.seq (.reg false [⟨some 5, false, .mv (.t 0), none⟩, ⟨some 6, false, .len (.t 5), none⟩, ⟨some 7, false, .mv (.c (.int .i64 0)), none⟩] [0, 5, 6, 7] []) (.block 0 (.loop impl_ValidPegs_k1))) impl_ValidPegs_k2)) }
noncomputable def impl_ValidPegs_D : List (Nat × Callee) := [(21, impl_few_c), (796, impl_Peg_valid_c)]
def impl_ValidPegs_H : List (Nat × ET) := [(5, T_Peg), (19, T_Peg), (31, T_Peg)]
noncomputable def impl_ValidPegs_c : Callee := mkCallee impl_ValidPegs_D impl_ValidPegs_H impl_ValidPegs_ir [.d (.one (.sl T_Peg))] [.d (.one .bool)] []
noncomputable def impl_ValidPegs (a0 : List T_Peg.ty) : Option (Bool) := impl_ValidPegs_c.f (a0, ())
noncomputable def impl_ValidPegs_p0  (v0 : List T_Peg.ty) (v5 : List T_Peg.ty) (v6 : Int) (v7 : Int) : Option (Bool) :=
  goL impl_ValidPegs_D impl_ValidPegs_H (vleave impl_ValidPegs_ir [.d (.one (.sl T_Peg))] [.d (.one .bool)] [] []) [.c impl_ValidPegs_k0, .l impl_ValidPegs_k1, .e 0, .c impl_ValidPegs_k2]
    ⟨[(0, .sl T_Peg v0), (5, .sl T_Peg v5), (6, .int .i64 v6), (7, .int .i64 v7)], []⟩
theorem impl_ValidPegs_eq (a0 : List T_Peg.ty) : impl_ValidPegs a0 =
    impl_ValidPegs_p0 a0 a0 (a0.length : Int) 0 :=
  (mk_f _ _ _ _ _ _ _ 4000).trans (by kernel_rfl)
theorem impl_ValidPegs_p0_eq  (v0 : List T_Peg.ty) (v5 : List T_Peg.ty) (v6 : Int) (v7 : Int) : impl_ValidPegs_p0 v0 v5 v6 v7 =
    if decide (v7 < v6) then
      if decide (0 ≤ v7) then
        (v5[v7.toNat]?).bind fun x1 =>
          (impl_Peg_valid x1).bind fun x2 =>
            if (!x2) then
              some false
            else
              if decide (v7 > 0) then
                if decide (0 ≤ IntKind.i64.wrap (v7 - 1)) then
                  (v0[(IntKind.i64.wrap (v7 - 1)).toNat]?).bind fun x3 =>
                    if (!Op.bytesLess x3.1 x1.1) then
                      some false
                    else
                      impl_ValidPegs_p0 v0 v5 v6 (IntKind.i64.wrap (v7 + 1))
                else
                  none
              else
                impl_ValidPegs_p0 v0 v5 v6 (IntKind.i64.wrap (v7 + 1))
      else
        none
    else
      (impl_few (v0.length : Int) 8).bind fun x4 =>
        some x4 :=
  (goL_dn _ _ _ 4000 _ _).trans (by kernel_rfl)

/- impl.isGrams -/
def impl_isGrams_ir : Fn := { np := 1, io := [], res := [.t 2], own := [false], body :=
  (.seq (.reg false [⟨some 2, false, .asg (.c (.bool false)), none⟩] [0] []) (.seq (.reg false [⟨some 3, false, .mv (.t 0), none⟩, ⟨some 4, false, .call (.c (.fn 23 [])) [.t 3, .c (.int .i64 1), .c (.int .i64 10000)], none⟩, ⟨some 2, false, .asg (.t 4), none⟩] [2] []) .ret)) }
noncomputable def impl_isGrams_D : List (Nat × Callee) := [(23, impl_within_c)]
def impl_isGrams_H : List (Nat × ET) := []
noncomputable def impl_isGrams_c : Callee := mkCallee impl_isGrams_D impl_isGrams_H impl_isGrams_ir [.d (.one (.int .i64))] [.d (.one .bool)] []
noncomputable def impl_isGrams (a0 : Int) : Option (Bool) := impl_isGrams_c.f (a0, ())
theorem impl_isGrams_eq (a0 : Int) : impl_isGrams a0 =
    (impl_within a0 1 10000).bind fun x1 =>
      some x1 :=
  (mk_f _ _ _ _ _ _ _ 4000).trans (by kernel_rfl)

/- impl.isHeat -/
def impl_isHeat_ir : Fn := { np := 1, io := [], res := [.t 2], own := [false], body :=
  (.seq (.reg false [⟨some 2, false, .asg (.c (.bool false)), none⟩] [0] []) (.seq (.reg false [⟨some 3, false, .mv (.t 0), none⟩, ⟨some 4, false, .call (.c (.fn 23 [])) [.t 3, .c (.int .i64 20), .c (.int .i64 95)], none⟩, ⟨some 2, false, .asg (.t 4), none⟩] [2] []) .ret)) }
noncomputable def impl_isHeat_D : List (Nat × Callee) := [(23, impl_within_c)]
def impl_isHeat_H : List (Nat × ET) := []
noncomputable def impl_isHeat_c : Callee := mkCallee impl_isHeat_D impl_isHeat_H impl_isHeat_ir [.d (.one (.int .i64))] [.d (.one .bool)] []
noncomputable def impl_isHeat (a0 : Int) : Option (Bool) := impl_isHeat_c.f (a0, ())
theorem impl_isHeat_eq (a0 : Int) : impl_isHeat a0 =
    (impl_within a0 20 95).bind fun x1 =>
      some x1 :=
  (mk_f _ _ _ _ _ _ _ 4000).trans (by kernel_rfl)

/- (impl.Pot).valid -/
def impl_Pot_valid_ir : Fn := { np := 1, io := [], res := [.t 2], own := [false], body :=
  (.seq (.reg false [⟨some 1, true, .box 5 (.t 0), none⟩, ⟨some 2, false, .asg (.c (.bool false)), none⟩] [1] [1]) (.seq (.reg false [⟨some 3, false, .fa 0 (.t 1), none⟩, ⟨some 4, false, .ld none (.t 3), none⟩, ⟨some 5, false, .call (.c (.fn 24 [])) [.t 4], none⟩, ⟨some 6, false, .mv (.t 5), none⟩, ⟨some 7, false, .fa 1 (.t 1), some (3, true)⟩, ⟨some 8, false, .ld none (.t 7), some (3, true)⟩, ⟨some 9, false, .call (.c (.fn 25 [])) [.t 8], some (3, true)⟩, ⟨some 10, false, .pick (.t 6) (.t 9) (.c (.bool false)), none⟩, ⟨some 11, false, .mv (.t 10), none⟩, ⟨some 12, false, .fa 2 (.t 1), some (8, true)⟩, ⟨some 13, false, .ld none (.t 12), some (8, true)⟩, ⟨some 14, false, .call (.c (.fn 25 [])) [.t 13], some (8, true)⟩, ⟨some 15, false, .pick (.t 11) (.t 14) (.c (.bool false)), none⟩, ⟨some 16, false, .mv (.t 15), none⟩, ⟨some 17, false, .fa 3 (.t 1), some (13, true)⟩, ⟨some 18, false, .ld none (.t 17), some (13, true)⟩, ⟨some 19, false, .call (.c (.fn 26 [])) [.t 18], some (13, true)⟩, ⟨some 20, false, .pick (.t 16) (.t 19) (.c (.bool false)), none⟩, ⟨some 21, false, .mv (.t 20), none⟩, ⟨some 22, false, .fa 4 (.t 1), some (18, true)⟩, ⟨some 23, false, .ld none (.t 22), some (18, true)⟩, ⟨some 24, false, .call (.c (.fn 23 [])) [.t 23, .c (.int .i64 0), .c (.int .i64 1000)], some (18, true)⟩, ⟨some 25, false, .pick (.t 21) (.t 24) (.c (.bool false)), none⟩, ⟨some 2, false, .asg (.t 25), none⟩] [2] []) .ret)) }
noncomputable def impl_Pot_valid_D : List (Nat × Callee) := [(23, impl_within_c), (24, impl_IsName_c), (25, impl_isGrams_c), (26, impl_isHeat_c)]
def impl_Pot_valid_H : List (Nat × ET) := []
noncomputable def impl_Pot_valid_c : Callee := mkCallee impl_Pot_valid_D impl_Pot_valid_H impl_Pot_valid_ir [.d T_Pot] [.d (.one .bool)] []
noncomputable def impl_Pot_valid (a0 : T_Pot.ty) : Option (Bool) := impl_Pot_valid_c.f (a0, ())
theorem impl_Pot_valid_eq (a0 : T_Pot.ty) : impl_Pot_valid a0 =
    (impl_IsName a0.1).bind fun x1 =>
      if x1 then
        (impl_isGrams a0.2.1).bind fun x2 =>
          if x2 then
            (impl_isGrams a0.2.2.1).bind fun x3 =>
              if x3 then
                (impl_isHeat a0.2.2.2.1).bind fun x4 =>
                  if x4 then
                    (impl_within a0.2.2.2.2.1 0 1000).bind fun x5 =>
                      some x5
                  else
                    some false
              else
                some false
          else
            some false
      else
        some false :=
  (mk_f _ _ _ _ _ _ _ 4000).trans (by kernel_rfl)

/- impl.ValidPots -/
def impl_ValidPots_k0 : C :=
  .seq (.reg false [⟨some 8, false, .bin .lss (.t 7) (.t 6), none⟩] [0, 5, 6, 7, 8] []) (.seq (.cond (.t 8) .skip (.exit 0)) (.seq (.block 1 (.seq (.reg false [⟨some 9, false, .mv (.t 7), none⟩, ⟨some 10, false, .ia 5 (.t 5) (.t 7), none⟩, ⟨some 11, false, .ld (some 5) (.t 10), none⟩, ⟨some 4, true, .alloc 5 (.agg [.str [], .int .i64 0, .int .i64 0, .int .i64 0, .int .i64 0]), none⟩, ⟨some 3, false, .asg (.t 9), none⟩, ⟨none, true, .sto 5 (.t 4) (.t 11), none⟩] [0, 3, 4, 5, 6, 7] [4]) (.seq (.reg true [⟨some 12, false, .ld (some 5) (.t 4), none⟩, ⟨some 13, false, .call (.c (.fn 30 [])) [.t 12], none⟩, ⟨some 14, false, .un .not (.t 13), none⟩, ⟨some 15, false, .mv (.t 14), none⟩, ⟨some 16, false, .mv (.t 3), some (3, false)⟩, ⟨some 17, false, .bin .gtr (.t 16) (.c (.int .i64 0)), some (3, false)⟩, ⟨some 18, false, .mv (.t 17), some (3, false)⟩, ⟨some 19, false, .mv (.t 0), some (6, true)⟩, ⟨some 20, false, .mv (.t 3), some (6, true)⟩, ⟨some 21, false, .bin .sub (.t 20) (.c (.int .i64 1)), some (6, true)⟩, ⟨some 22, false, .ia 5 (.t 19) (.t 21), some (6, true)⟩, ⟨some 23, false, .fa 0 (.t 22), some (6, true)⟩, ⟨some 24, false, .ld none (.t 23), some (6, true)⟩, ⟨some 25, false, .fa 0 (.t 4), some (6, true)⟩, ⟨some 26, false, .ld none (.t 25), some (6, true)⟩, ⟨some 27, false, .bin .geq (.t 24) (.t 26), some (6, true)⟩, ⟨some 28, false, .pick (.t 18) (.t 27) (.c (.bool false)), some (3, false)⟩, ⟨some 29, false, .pick (.t 15) (.c (.bool true)) (.t 28), none⟩] [0, 5, 6, 7, 29] []) (.cond (.t 29) (.seq (.reg false [⟨some 2, false, .asg (.c (.bool false)), none⟩] [2] []) .ret) .skip)))) (.reg false [⟨some 30, false, .bin .add (.t 7) (.c (.int .i64 1)), none⟩, ⟨some 7, false, .mv (.t 30), none⟩] [0, 5, 6, 7] [])))
def impl_ValidPots_k1 : C :=
  .norm [0, 5, 6, 7] [] impl_ValidPots_k0
def impl_ValidPots_k2 : C :=
  .seq (.reg false [⟨some 31, false, .mv (.t 0), none⟩, ⟨some 32, false, .len (.t 31), none⟩, ⟨some 33, false, .call (.c (.fn 21 [])) [.t 32, .c (.int .i64 8)], none⟩, ⟨some 2, false, .asg (.t 33), none⟩] [2] []) .ret
def impl_ValidPots_ir : Fn := { np := 1, io := [], res := [.t 2], own := [false], body :=
  (.seq (.reg false [⟨some 2, false, .asg (.c (.bool false)), none⟩] [0] []) (.seq (.seq (.reg false [⟨some 5, false, .mv (.t 0), none⟩, ⟨some 6, false, .len (.t 5), none⟩, ⟨some 7, false, .mv (.c (.int .i64 0)), none⟩] [0, 5, 6, 7] []) (.block 0 (.loop impl_ValidPots_k1))) impl_ValidPots_k2)) }
noncomputable def impl_ValidPots_D : List (Nat × Callee) := [(21, impl_few_c), (30, impl_Pot_valid_c)]
def impl_ValidPots_H : List (Nat × ET) := [(5, T_Pot), (19, T_Pot), (31, T_Pot)]
noncomputable def impl_ValidPots_c : Callee := mkCallee impl_ValidPots_D impl_ValidPots_H impl_ValidPots_ir [.d (.one (.sl T_Pot))] [.d (.one .bool)] []
noncomputable def impl_ValidPots (a0 : List T_Pot.ty) : Option (Bool) := impl_ValidPots_c.f (a0, ())
noncomputable def impl_ValidPots_p0  (v0 : List T_Pot.ty) (v5 : List T_Pot.ty) (v6 : Int) (v7 : Int) : Option (Bool) :=
  goL impl_ValidPots_D impl_ValidPots_H (vleave impl_ValidPots_ir [.d (.one (.sl T_Pot))] [.d (.one .bool)] [] []) [.c impl_ValidPots_k0, .l impl_ValidPots_k1, .e 0, .c impl_ValidPots_k2]
    ⟨[(0, .sl T_Pot v0), (5, .sl T_Pot v5), (6, .int .i64 v6), (7, .int .i64 v7)], []⟩
theorem impl_ValidPots_eq (a0 : List T_Pot.ty) : impl_ValidPots a0 =
    impl_ValidPots_p0 a0 a0 (a0.length : Int) 0 :=
  (mk_f _ _ _ _ _ _ _ 4000).trans (by kernel_rfl)
theorem impl_ValidPots_p0_eq  (v0 : List T_Pot.ty) (v5 : List T_Pot.ty) (v6 : Int) (v7 : Int) : impl_ValidPots_p0 v0 v5 v6 v7 =
    if decide (v7 < v6) then
      if decide (0 ≤ v7) then
        (v5[v7.toNat]?).bind fun x1 =>
          (impl_Pot_valid x1).bind fun x2 =>
            if (!x2) then
              some false
            else
              if decide (v7 > 0) then
                if decide (0 ≤ IntKind.i64.wrap (v7 - 1)) then
                  (v0[(IntKind.i64.wrap (v7 - 1)).toNat]?).bind fun x3 =>
                    if (!Op.bytesLess x3.1 x1.1) then
                      some false
                    else
                      impl_ValidPots_p0 v0 v5 v6 (IntKind.i64.wrap (v7 + 1))
                else
                  none
              else
                impl_ValidPots_p0 v0 v5 v6 (IntKind.i64.wrap (v7 + 1))
      else
        none
    else
      (impl_few (v0.length : Int) 8).bind fun x4 =>
        some x4 :=
  (goL_dn _ _ _ 4000 _ _).trans (by kernel_rfl)

/- impl.isTone -/
def impl_isTone_ir : Fn := { np := 1, io := [], res := [.t 2], own := [false], body :=
  (.seq (.reg false [⟨some 2, false, .asg (.c (.bool false)), none⟩] [0] []) (.seq (.reg false [⟨some 3, false, .mv (.t 0), none⟩, ⟨some 4, false, .call (.c (.fn 23 [])) [.t 3, .c (.int .i64 1000), .c (.int .i64 100000)], none⟩, ⟨some 2, false, .asg (.t 4), none⟩] [2] []) .ret)) }
noncomputable def impl_isTone_D : List (Nat × Callee) := [(23, impl_within_c)]
def impl_isTone_H : List (Nat × ET) := []
noncomputable def impl_isTone_c : Callee := mkCallee impl_isTone_D impl_isTone_H impl_isTone_ir [.d (.one (.int .i64))] [.d (.one .bool)] []
noncomputable def impl_isTone (a0 : Int) : Option (Bool) := impl_isTone_c.f (a0, ())
theorem impl_isTone_eq (a0 : Int) : impl_isTone a0 =
    (impl_within a0 1000 100000).bind fun x1 =>
      some x1 :=
  (mk_f _ _ _ _ _ _ _ 4000).trans (by kernel_rfl)

/- (impl.Mode).valid -/
def impl_Mode_valid_ir : Fn := { np := 1, io := [], res := [.t 2], own := [false], body :=
  (.seq (.reg false [⟨some 1, true, .box 3 (.t 0), none⟩, ⟨some 2, false, .asg (.c (.bool false)), none⟩] [1] [1]) (.seq (.reg false [⟨some 3, false, .fa 0 (.t 1), none⟩, ⟨some 4, false, .ld none (.t 3), none⟩, ⟨some 5, false, .call (.c (.fn 24 [])) [.t 4], none⟩, ⟨some 6, false, .mv (.t 5), none⟩, ⟨some 7, false, .fa 1 (.t 1), some (3, true)⟩, ⟨some 8, false, .ld none (.t 7), some (3, true)⟩, ⟨some 9, false, .call (.c (.fn 545 [])) [.t 8], some (3, true)⟩, ⟨some 10, false, .pick (.t 6) (.t 9) (.c (.bool false)), none⟩, ⟨some 11, false, .mv (.t 10), none⟩, ⟨some 12, false, .fa 2 (.t 1), some (8, true)⟩, ⟨some 13, false, .ld none (.t 12), some (8, true)⟩, ⟨some 14, false, .call (.c (.fn 23 [])) [.t 13, .c (.int .i64 1), .c (.int .i64 500)], some (8, true)⟩, ⟨some 15, false, .pick (.t 11) (.t 14) (.c (.bool false)), none⟩, ⟨some 2, false, .asg (.t 15), none⟩] [2] []) .ret)) }
noncomputable def impl_Mode_valid_D : List (Nat × Callee) := [(23, impl_within_c), (24, impl_IsName_c), (545, impl_isTone_c)]
def impl_Mode_valid_H : List (Nat × ET) := []
noncomputable def impl_Mode_valid_c : Callee := mkCallee impl_Mode_valid_D impl_Mode_valid_H impl_Mode_valid_ir [.d T_Mode] [.d (.one .bool)] []
noncomputable def impl_Mode_valid (a0 : T_Mode.ty) : Option (Bool) := impl_Mode_valid_c.f (a0, ())
theorem impl_Mode_valid_eq (a0 : T_Mode.ty) : impl_Mode_valid a0 =
    (impl_IsName a0.1).bind fun x1 =>
      if x1 then
        (impl_isTone a0.2.1).bind fun x2 =>
          if x2 then
            (impl_within a0.2.2.1 1 500).bind fun x3 =>
              some x3
          else
            some false
      else
        some false :=
  (mk_f _ _ _ _ _ _ _ 4000).trans (by kernel_rfl)

/- impl.ValidModes -/
def impl_ValidModes_k0 : C :=
  .seq (.reg false [⟨some 8, false, .bin .lss (.t 7) (.t 6), none⟩] [0, 5, 6, 7, 8] []) (.seq (.cond (.t 8) .skip (.exit 0)) (.seq (.block 1 (.seq (.reg false [⟨some 9, false, .mv (.t 7), none⟩, ⟨some 10, false, .ia 3 (.t 5) (.t 7), none⟩, ⟨some 11, false, .ld (some 3) (.t 10), none⟩, ⟨some 4, true, .alloc 3 (.agg [.str [], .int .i64 0, .int .i64 0]), none⟩, ⟨some 3, false, .asg (.t 9), none⟩, ⟨none, true, .sto 3 (.t 4) (.t 11), none⟩] [0, 3, 4, 5, 6, 7] [4]) (.seq (.reg true [⟨some 12, false, .ld (some 3) (.t 4), none⟩, ⟨some 13, false, .call (.c (.fn 551 [])) [.t 12], none⟩, ⟨some 14, false, .un .not (.t 13), none⟩, ⟨some 15, false, .mv (.t 14), none⟩, ⟨some 16, false, .mv (.t 3), some (3, false)⟩, ⟨some 17, false, .bin .gtr (.t 16) (.c (.int .i64 0)), some (3, false)⟩, ⟨some 18, false, .mv (.t 17), some (3, false)⟩, ⟨some 19, false, .mv (.t 0), some (6, true)⟩, ⟨some 20, false, .mv (.t 3), some (6, true)⟩, ⟨some 21, false, .bin .sub (.t 20) (.c (.int .i64 1)), some (6, true)⟩, ⟨some 22, false, .ia 3 (.t 19) (.t 21), some (6, true)⟩, ⟨some 23, false, .fa 0 (.t 22), some (6, true)⟩, ⟨some 24, false, .ld none (.t 23), some (6, true)⟩, ⟨some 25, false, .fa 0 (.t 4), some (6, true)⟩, ⟨some 26, false, .ld none (.t 25), some (6, true)⟩, ⟨some 27, false, .bin .geq (.t 24) (.t 26), some (6, true)⟩, ⟨some 28, false, .pick (.t 18) (.t 27) (.c (.bool false)), some (3, false)⟩, ⟨some 29, false, .pick (.t 15) (.c (.bool true)) (.t 28), none⟩] [0, 5, 6, 7, 29] []) (.cond (.t 29) (.seq (.reg false [⟨some 2, false, .asg (.c (.bool false)), none⟩] [2] []) .ret) .skip)))) (.reg false [⟨some 30, false, .bin .add (.t 7) (.c (.int .i64 1)), none⟩, ⟨some 7, false, .mv (.t 30), none⟩] [0, 5, 6, 7] [])))
def impl_ValidModes_k1 : C :=
  .norm [0, 5, 6, 7] [] impl_ValidModes_k0
def impl_ValidModes_k2 : C :=
  .seq (.reg false [⟨some 31, false, .mv (.t 0), none⟩, ⟨some 32, false, .len (.t 31), none⟩, ⟨some 33, false, .call (.c (.fn 21 [])) [.t 32, .c (.int .i64 10)], none⟩, ⟨some 2, false, .asg (.t 33), none⟩] [2] []) .ret
def impl_ValidModes_ir : Fn := { np := 1, io := [], res := [.t 2], own := [false], body :=
  (.seq (.reg false [⟨some 2, false, .asg (.c (.bool false)), none⟩] [0] []) (.seq (.seq (.reg false [⟨some 5, false, .mv (.t 0), none⟩, ⟨some 6, false, .len (.t 5), none⟩, ⟨some 7, false, .mv (.c (.int .i64 0)), none⟩] [0, 5, 6, 7] []) (.block 0 (.loop impl_ValidModes_k1))) impl_ValidModes_k2)) }
noncomputable def impl_ValidModes_D : List (Nat × Callee) := [(21, impl_few_c), (551, impl_Mode_valid_c)]
def impl_ValidModes_H : List (Nat × ET) := [(5, T_Mode), (19, T_Mode), (31, T_Mode)]
noncomputable def impl_ValidModes_c : Callee := mkCallee impl_ValidModes_D impl_ValidModes_H impl_ValidModes_ir [.d (.one (.sl T_Mode))] [.d (.one .bool)] []
noncomputable def impl_ValidModes (a0 : List T_Mode.ty) : Option (Bool) := impl_ValidModes_c.f (a0, ())
noncomputable def impl_ValidModes_p0  (v0 : List T_Mode.ty) (v5 : List T_Mode.ty) (v6 : Int) (v7 : Int) : Option (Bool) :=
  goL impl_ValidModes_D impl_ValidModes_H (vleave impl_ValidModes_ir [.d (.one (.sl T_Mode))] [.d (.one .bool)] [] []) [.c impl_ValidModes_k0, .l impl_ValidModes_k1, .e 0, .c impl_ValidModes_k2]
    ⟨[(0, .sl T_Mode v0), (5, .sl T_Mode v5), (6, .int .i64 v6), (7, .int .i64 v7)], []⟩
theorem impl_ValidModes_eq (a0 : List T_Mode.ty) : impl_ValidModes a0 =
    impl_ValidModes_p0 a0 a0 (a0.length : Int) 0 :=
  (mk_f _ _ _ _ _ _ _ 4000).trans (by kernel_rfl)
theorem impl_ValidModes_p0_eq  (v0 : List T_Mode.ty) (v5 : List T_Mode.ty) (v6 : Int) (v7 : Int) : impl_ValidModes_p0 v0 v5 v6 v7 =
    if decide (v7 < v6) then
      if decide (0 ≤ v7) then
        (v5[v7.toNat]?).bind fun x1 =>
          (impl_Mode_valid x1).bind fun x2 =>
            if (!x2) then
              some false
            else
              if decide (v7 > 0) then
                if decide (0 ≤ IntKind.i64.wrap (v7 - 1)) then
                  (v0[(IntKind.i64.wrap (v7 - 1)).toNat]?).bind fun x3 =>
                    if (!Op.bytesLess x3.1 x1.1) then
                      some false
                    else
                      impl_ValidModes_p0 v0 v5 v6 (IntKind.i64.wrap (v7 + 1))
                else
                  none
              else
                impl_ValidModes_p0 v0 v5 v6 (IntKind.i64.wrap (v7 + 1))
      else
        none
    else
      (impl_few (v0.length : Int) 10).bind fun x4 =>
        some x4 :=
  (goL_dn _ _ _ 4000 _ _).trans (by kernel_rfl)

/- impl.isSpan -/
def impl_isSpan_ir : Fn := { np := 1, io := [], res := [.t 2], own := [false], body :=
  (.seq (.reg false [⟨some 2, false, .asg (.c (.bool false)), none⟩] [0] []) (.seq (.reg false [⟨some 3, false, .mv (.t 0), none⟩, ⟨some 4, false, .call (.c (.fn 23 [])) [.t 3, .c (.int .i64 1), .c (.int .i64 40)], none⟩, ⟨some 2, false, .asg (.t 4), none⟩] [2] []) .ret)) }
noncomputable def impl_isSpan_D : List (Nat × Callee) := [(23, impl_within_c)]
def impl_isSpan_H : List (Nat × ET) := []
noncomputable def impl_isSpan_c : Callee := mkCallee impl_isSpan_D impl_isSpan_H impl_isSpan_ir [.d (.one (.int .i64))] [.d (.one .bool)] []
noncomputable def impl_isSpan (a0 : Int) : Option (Bool) := impl_isSpan_c.f (a0, ())
theorem impl_isSpan_eq (a0 : Int) : impl_isSpan a0 =
    (impl_within a0 1 40).bind fun x1 =>
      some x1 :=
  (mk_f _ _ _ _ _ _ _ 4000).trans (by kernel_rfl)

/- impl.isDate -/
def impl_isDate_ir : Fn := { np := 1, io := [], res := [.t 2], own := [false], body :=
  (.seq (.reg false [⟨some 2, false, .asg (.c (.bool false)), none⟩] [0] []) (.seq (.reg false [⟨some 3, false, .mv (.t 0), none⟩, ⟨some 4, false, .call (.c (.fn 23 [])) [.t 3, .c (.int .i64 0), .c (.int .i64 39)], none⟩, ⟨some 2, false, .asg (.t 4), none⟩] [2] []) .ret)) }
noncomputable def impl_isDate_D : List (Nat × Callee) := [(23, impl_within_c)]
def impl_isDate_H : List (Nat × ET) := []
noncomputable def impl_isDate_c : Callee := mkCallee impl_isDate_D impl_isDate_H impl_isDate_ir [.d (.one (.int .i64))] [.d (.one .bool)] []
noncomputable def impl_isDate (a0 : Int) : Option (Bool) := impl_isDate_c.f (a0, ())
theorem impl_isDate_eq (a0 : Int) : impl_isDate a0 =
    (impl_within a0 0 39).bind fun x1 =>
      some x1 :=
  (mk_f _ _ _ _ _ _ _ 4000).trans (by kernel_rfl)

/- (impl.Work).valid -/
def impl_Work_valid_ir : Fn := { np := 1, io := [], res := [.t 2], own := [false], body :=
  (.seq (.reg false [⟨some 1, true, .box 4 (.t 0), none⟩, ⟨some 2, false, .asg (.c (.bool false)), none⟩] [1] [1]) (.seq (.reg false [⟨some 3, false, .fa 0 (.t 1), none⟩, ⟨some 4, false, .ld none (.t 3), none⟩, ⟨some 5, false, .call (.c (.fn 24 [])) [.t 4], none⟩, ⟨some 6, false, .mv (.t 5), none⟩, ⟨some 7, false, .fa 1 (.t 1), some (3, true)⟩, ⟨some 8, false, .ld none (.t 7), some (3, true)⟩, ⟨some 9, false, .call (.c (.fn 977 [])) [.t 8], some (3, true)⟩, ⟨some 10, false, .pick (.t 6) (.t 9) (.c (.bool false)), none⟩, ⟨some 11, false, .mv (.t 10), none⟩, ⟨some 12, false, .fa 2 (.t 1), some (8, true)⟩, ⟨some 13, false, .ld none (.t 12), some (8, true)⟩, ⟨some 14, false, .call (.c (.fn 978 [])) [.t 13], some (8, true)⟩, ⟨some 15, false, .pick (.t 11) (.t 14) (.c (.bool false)), none⟩, ⟨some 16, false, .mv (.t 15), none⟩, ⟨some 17, false, .fa 3 (.t 1), some (13, true)⟩, ⟨some 18, false, .ld none (.t 17), some (13, true)⟩, ⟨some 19, false, .call (.c (.fn 978 [])) [.t 18], some (13, true)⟩, ⟨some 20, false, .pick (.t 16) (.t 19) (.c (.bool false)), none⟩, ⟨some 21, false, .mv (.t 20), none⟩, ⟨some 22, false, .fa 2 (.t 1), some (18, true)⟩, ⟨some 23, false, .ld none (.t 22), some (18, true)⟩, ⟨some 24, false, .fa 1 (.t 1), some (18, true)⟩, ⟨some 25, false, .ld none (.t 24), some (18, true)⟩, ⟨some 26, false, .bin .add (.t 23) (.t 25), some (18, true)⟩, ⟨some 27, false, .bin .sub (.t 26) (.c (.int .i64 1)), some (18, true)⟩, ⟨some 28, false, .fa 3 (.t 1), some (18, true)⟩, ⟨some 29, false, .ld none (.t 28), some (18, true)⟩, ⟨some 30, false, .bin .leq (.t 27) (.t 29), some (18, true)⟩, ⟨some 31, false, .pick (.t 21) (.t 30) (.c (.bool false)), none⟩, ⟨some 2, false, .asg (.t 31), none⟩] [2] []) .ret)) }
noncomputable def impl_Work_valid_D : List (Nat × Callee) := [(24, impl_IsName_c), (977, impl_isSpan_c), (978, impl_isDate_c)]
def impl_Work_valid_H : List (Nat × ET) := []
noncomputable def impl_Work_valid_c : Callee := mkCallee impl_Work_valid_D impl_Work_valid_H impl_Work_valid_ir [.d T_Peg] [.d (.one .bool)] []
noncomputable def impl_Work_valid (a0 : T_Peg.ty) : Option (Bool) := impl_Work_valid_c.f (a0, ())
theorem impl_Work_valid_eq (a0 : T_Peg.ty) : impl_Work_valid a0 =
    (impl_IsName a0.1).bind fun x1 =>
      if x1 then
        (impl_isSpan a0.2.1).bind fun x2 =>
          if x2 then
            (impl_isDate a0.2.2.1).bind fun x3 =>
              if x3 then
                (impl_isDate a0.2.2.2.1).bind fun x4 =>
                  if x4 then
                    some (decide (IntKind.i64.wrap ((IntKind.i64.wrap (a0.2.2.1 + a0.2.1)) - 1) ≤ a0.2.2.2.1))
                  else
                    some false
              else
                some false
          else
            some false
      else
        some false :=
  (mk_f _ _ _ _ _ _ _ 4000).trans (by kernel_rfl)

end Go.Ab.P
