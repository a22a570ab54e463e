/- Functions of the program: abstract forms, and what their runs give. Conditions: none. -/
import Derived.Test.YtmkgkchbdhfakaaL3
set_option maxRecDepth 100000
set_option linter.unusedVariables false
namespace Go.Ab.P
open Go.Ab
@[reducible] def T_Problem : ET := .agg (.cons (.int .i64) (.cons .str (.cons .str .nil)))
/- laws.szProblem -/
def laws_szProblem_ir : Fn := { np := 2, io := [], res := [.t 4], own := [false], body :=
  (.seq (.reg false [⟨some 2, true, .box 3 (.t 0), none⟩, ⟨some 4, false, .asg (.c (.int .i64 0)), none⟩] [1, 2] [2]) (.seq (.reg false [⟨some 5, false, .mv (.t 1), none⟩, ⟨some 6, false, .fa 1 (.t 2), none⟩, ⟨some 7, false, .ld none (.t 6), none⟩, ⟨some 8, false, .lens (.t 7), none⟩, ⟨some 9, false, .bin .sub (.t 5) (.t 8), none⟩, ⟨some 1, false, .asg (.t 9), none⟩] [1, 2] [2]) (.seq (.seq (.reg false [⟨some 10, false, .mv (.t 1), none⟩, ⟨some 11, false, .bin .lss (.t 10) (.c (.int .i64 0)), none⟩] [1, 2, 11] [2]) (.cond (.t 11) (.seq (.reg false [⟨some 4, false, .asg (.c (.int .i64 (-1))), none⟩] [4] []) .ret) .skip)) (.seq (.reg false [⟨some 12, false, .mv (.t 1), none⟩, ⟨some 13, false, .fa 2 (.t 2), none⟩, ⟨some 14, false, .ld none (.t 13), none⟩, ⟨some 15, false, .lens (.t 14), none⟩, ⟨some 16, false, .bin .sub (.t 12) (.t 15), none⟩, ⟨some 1, false, .asg (.t 16), none⟩] [1] []) (.seq (.seq (.reg false [⟨some 17, false, .mv (.t 1), none⟩, ⟨some 18, false, .bin .lss (.t 17) (.c (.int .i64 0)), none⟩] [1, 18] []) (.cond (.t 18) (.seq (.reg false [⟨some 4, false, .asg (.c (.int .i64 (-1))), none⟩] [4] []) .ret) .skip)) (.seq (.reg false [⟨some 19, false, .mv (.t 1), none⟩, ⟨some 4, false, .asg (.t 19), none⟩] [4] []) .ret)))))) }
noncomputable def laws_szProblem_D : List (Nat × Callee) := []
def laws_szProblem_H : List (Nat × ET) := []
noncomputable def laws_szProblem_c : Callee := mkCallee laws_szProblem_D laws_szProblem_H laws_szProblem_ir [.d T_Problem, .d (.one (.int .i64))] [.d (.one (.int .i64))] []
noncomputable def laws_szProblem (a0 : T_Problem.ty) (a1 : Int) : Option (Int) := laws_szProblem_c.f (a0, a1, ())
theorem laws_szProblem_eq (a0 : T_Problem.ty) (a1 : Int) : laws_szProblem a0 a1 =
    if decide (IntKind.i64.wrap (a1 - (a0.2.1.length : Int)) < 0) then
      some (-1)
    else
      if decide (IntKind.i64.wrap ((IntKind.i64.wrap (a1 - (a0.2.1.length : Int))) - (a0.2.2.1.length : Int)) < 0) then
        some (-1)
      else
        some (IntKind.i64.wrap ((IntKind.i64.wrap (a1 - (a0.2.1.length : Int))) - (a0.2.2.1.length : Int))) :=
  (mk_f _ _ _ _ _ _ _ 4000).trans (by kernel_rfl)

/- laws.szProblemS -/
def laws_szProblemS_k0 : C :=
  .seq (.seq (.reg false [⟨some 12, false, .mv (.t 5), none⟩, ⟨some 13, false, .mv (.t 0), none⟩, ⟨some 14, false, .len (.t 13), none⟩, ⟨some 15, false, .bin .lss (.t 12) (.t 14), none⟩] [0, 1, 5, 15] []) (.cond (.t 15) .skip (.exit 0))) (.seq (.block 1 (.seq (.reg false [⟨some 18, false, .mv (.t 0), none⟩, ⟨some 19, false, .mv (.t 5), none⟩, ⟨some 20, false, .ia 3 (.t 18) (.t 19), none⟩, ⟨some 21, false, .ld (some 3) (.t 20), none⟩, ⟨some 22, false, .mv (.t 1), none⟩, ⟨some 23, false, .call (.c (.fn 10 [])) [.t 21, .t 22], none⟩, ⟨some 1, false, .asg (.t 23), none⟩] [0, 1, 5] []) (.seq (.reg false [⟨some 24, false, .mv (.t 1), none⟩, ⟨some 25, false, .bin .lss (.t 24) (.c (.int .i64 0)), none⟩] [0, 1, 5, 25] []) (.cond (.t 25) (.seq (.reg false [⟨some 4, false, .asg (.c (.int .i64 (-1))), none⟩] [4] []) .ret) .skip)))) (.reg false [⟨some 16, false, .mv (.t 5), none⟩, ⟨some 17, false, .bin .add (.t 16) (.c (.int .i64 1)), none⟩, ⟨some 5, false, .asg (.t 17), none⟩] [0, 1, 5] []))
def laws_szProblemS_k1 : C :=
  .norm [0, 1, 5] [] laws_szProblemS_k0
def laws_szProblemS_k2 : C :=
  .seq (.reg false [⟨some 26, false, .mv (.t 1), none⟩, ⟨some 4, false, .asg (.t 26), none⟩] [4] []) .ret
def laws_szProblemS_ir : Fn := { np := 2, io := [], res := [.t 4], own := [false], body :=
  (.seq (.reg false [⟨some 4, false, .asg (.c (.int .i64 0)), none⟩] [0, 1] []) (.seq (.reg false [⟨some 6, false, .mv (.t 1), none⟩, ⟨some 7, false, .mv (.t 0), none⟩, ⟨some 8, false, .len (.t 7), none⟩, ⟨some 9, false, .bin .sub (.t 6) (.t 8), none⟩, ⟨some 1, false, .asg (.t 9), none⟩] [0, 1] []) (.seq (.seq (.reg false [⟨some 10, false, .mv (.t 1), none⟩, ⟨some 11, false, .bin .lss (.t 10) (.c (.int .i64 0)), none⟩] [0, 1, 11] []) (.cond (.t 11) (.seq (.reg false [⟨some 4, false, .asg (.c (.int .i64 (-1))), none⟩] [4] []) .ret) .skip)) (.seq (.seq (.reg false [⟨some 5, false, .asg (.c (.int .i64 0)), none⟩] [0, 1, 5] []) (.block 0 (.loop laws_szProblemS_k1))) laws_szProblemS_k2)))) }
noncomputable def laws_szProblemS_D : List (Nat × Callee) := [(10, laws_szProblem_c)]
def laws_szProblemS_H : List (Nat × ET) := [(7, T_Problem), (13, T_Problem), (18, T_Problem)]
noncomputable def laws_szProblemS_c : Callee := mkCallee laws_szProblemS_D laws_szProblemS_H laws_szProblemS_ir [.d (.one (.sl T_Problem)), .d (.one (.int .i64))] [.d (.one (.int .i64))] []
noncomputable def laws_szProblemS (a0 : List T_Problem.ty) (a1 : Int) : Option (Int) := laws_szProblemS_c.f (a0, a1, ())
noncomputable def laws_szProblemS_p0  (v0 : List T_Problem.ty) (v1 : Int) (v5 : Int) : Option (Int) :=
  goL laws_szProblemS_D laws_szProblemS_H (vleave laws_szProblemS_ir [.d (.one (.sl T_Problem)), .d (.one (.int .i64))] [.d (.one (.int .i64))] [] []) [.c laws_szProblemS_k0, .l laws_szProblemS_k1, .e 0, .c laws_szProblemS_k2]
    ⟨[(0, .sl T_Problem v0), (1, .int .i64 v1), (5, .int .i64 v5)], []⟩
theorem laws_szProblemS_eq (a0 : List T_Problem.ty) (a1 : Int) : laws_szProblemS a0 a1 =
    if decide (IntKind.i64.wrap (a1 - (a0.length : Int)) < 0) then
      some (-1)
    else
      laws_szProblemS_p0 a0 (IntKind.i64.wrap (a1 - (a0.length : Int))) 0 :=
  (mk_f _ _ _ _ _ _ _ 4000).trans (by kernel_rfl)
theorem laws_szProblemS_p0_eq  (v0 : List T_Problem.ty) (v1 : Int) (v5 : Int) : laws_szProblemS_p0 v0 v1 v5 =
    if decide (v5 < (v0.length : Int)) then
      if decide (0 ≤ v5) then
        (v0[v5.toNat]?).bind fun x1 =>
          (laws_szProblem x1 v1).bind fun x2 =>
            if decide (x2 < 0) then
              some (-1)
            else
              laws_szProblemS_p0 v0 x2 (IntKind.i64.wrap (v5 + 1))
      else
        none
    else
      some v1 :=
  (goL_dn _ _ _ 4000 _ _).trans (by kernel_rfl)

/- laws.toProblem -/
def laws_toProblem_ir : Fn := { np := 1, io := [], res := [.cell 2 (some 3)], own := [false], body :=
  (.seq (.reg false [⟨some 1, true, .box 3 (.t 0), none⟩, ⟨some 2, true, .alloc 3 (.agg [.int .i64 0, .str [], .str []]), none⟩] [1, 2] [1, 2]) (.seq (.reg false [⟨some 3, true, .alloc 3 (.agg [.int .i64 0, .str [], .str []]), none⟩] [1, 2, 3] [1, 2, 3]) (.seq (.reg false [⟨some 4, false, .fa 0 (.t 1), none⟩, ⟨some 5, false, .ld none (.t 4), none⟩, ⟨some 6, false, .fa 0 (.t 3), none⟩, ⟨none, true, .sto 1 (.t 6) (.t 5), none⟩] [1, 2, 3] [1, 2, 3]) (.seq (.reg false [⟨some 7, false, .fa 1 (.t 1), none⟩, ⟨some 8, false, .ld none (.t 7), none⟩, ⟨some 9, false, .fa 1 (.t 3), none⟩, ⟨none, true, .sto 1 (.t 9) (.t 8), none⟩] [1, 2, 3] [1, 2, 3]) (.seq (.reg false [⟨some 10, false, .fa 2 (.t 1), none⟩, ⟨some 11, false, .ld none (.t 10), none⟩, ⟨some 12, false, .fa 2 (.t 3), none⟩, ⟨none, true, .sto 1 (.t 12) (.t 11), none⟩] [2, 3] [2, 3]) (.seq (.reg false [⟨some 13, false, .ld (some 3) (.t 3), none⟩, ⟨none, true, .sto 3 (.t 2) (.t 13), none⟩] [2] [2]) .ret)))))) }
noncomputable def laws_toProblem_D : List (Nat × Callee) := []
def laws_toProblem_H : List (Nat × ET) := []
noncomputable def laws_toProblem_c : Callee := mkCallee laws_toProblem_D laws_toProblem_H laws_toProblem_ir [.d T_Problem] [.d T_Problem] []
noncomputable def laws_toProblem (a0 : T_Problem.ty) : Option (T_Problem.ty) := laws_toProblem_c.f (a0, ())
theorem laws_toProblem_eq (a0 : T_Problem.ty) : laws_toProblem a0 =
    some a0 :=
  (mk_f _ _ _ _ _ _ _ 4000).trans (by kernel_rfl)

/- laws.toProblemS -/
def laws_toProblemS_k0 : C :=
  .seq (.seq (.reg false [⟨some 8, false, .mv (.t 4), none⟩, ⟨some 9, false, .mv (.t 0), none⟩, ⟨some 10, false, .len (.t 9), none⟩, ⟨some 11, false, .bin .lss (.t 8) (.t 10), none⟩] [0, 3, 4, 11] [3]) (.cond (.t 11) .skip (.exit 0))) (.seq (.block 1 (.reg false [⟨some 14, false, .mv (.t 3), none⟩, ⟨some 15, false, .mv (.t 4), none⟩, ⟨some 16, false, .mv (.t 0), none⟩, ⟨some 17, false, .mv (.t 4), none⟩, ⟨some 18, false, .ia 3 (.t 16) (.t 17), none⟩, ⟨some 19, false, .ld (some 3) (.t 18), none⟩, ⟨some 20, false, .call (.c (.fn 7 [])) [.t 19], none⟩, ⟨some 21, false, .ia 3 (.t 14) (.t 15), none⟩, ⟨none, true, .sto 3 (.t 21) (.t 20), none⟩] [0, 3, 4] [3])) (.reg false [⟨some 12, false, .mv (.t 4), none⟩, ⟨some 13, false, .bin .add (.t 12) (.c (.int .i64 1)), none⟩, ⟨some 4, false, .asg (.t 13), none⟩] [0, 3, 4] [3]))
def laws_toProblemS_k1 : C :=
  .norm [0, 3, 4] [3] laws_toProblemS_k0
def laws_toProblemS_k2 : C :=
  .seq (.reg false [⟨some 22, false, .mv (.t 3), none⟩, ⟨some 2, true, .asg (.t 22), none⟩] [2] [2, 3]) .ret
def laws_toProblemS_ir : Fn := { np := 1, io := [], res := [.t 2], own := [true], body :=
  (.seq (.reg false [⟨some 2, true, .asg (.c (.nils 3)), none⟩] [0] []) (.seq (.reg false [⟨some 5, false, .mv (.t 0), none⟩, ⟨some 6, false, .len (.t 5), none⟩, ⟨some 7, false, .mks 3 40 (.agg [.int .i64 0, .str [], .str []]) (.t 6) (.t 6), none⟩, ⟨some 3, true, .asg (.t 7), none⟩] [0, 3] [3]) (.seq (.seq (.reg false [⟨some 4, false, .asg (.c (.int .i64 0)), none⟩] [0, 3, 4] [3]) (.block 0 (.loop laws_toProblemS_k1))) laws_toProblemS_k2))) }
noncomputable def laws_toProblemS_D : List (Nat × Callee) := [(7, laws_toProblem_c)]
def laws_toProblemS_H : List (Nat × ET) := [(2, T_Problem), (3, T_Problem), (5, T_Problem), (7, T_Problem), (9, T_Problem), (14, T_Problem), (16, T_Problem), (22, T_Problem)]
noncomputable def laws_toProblemS_c : Callee := mkCallee laws_toProblemS_D laws_toProblemS_H laws_toProblemS_ir [.d (.one (.sl T_Problem))] [.tok T_Problem] []
noncomputable def laws_toProblemS (a0 : List T_Problem.ty) : Option (List T_Problem.ty) := laws_toProblemS_c.f (a0, ())
noncomputable def laws_toProblemS_p0  (v0 : List T_Problem.ty) (v3n : Nat) (v4 : Int) (r3 : List T_Problem.ty) : Option (List T_Problem.ty) :=
  goL laws_toProblemS_D laws_toProblemS_H (vleave laws_toProblemS_ir [.d (.one (.sl T_Problem))] [.tok T_Problem] [] []) [.c laws_toProblemS_k0, .l laws_toProblemS_k1, .e 0, .c laws_toProblemS_k2]
    ⟨[(0, .sl T_Problem v0), (3, .view 3 0 v3n), (4, .int .i64 v4)], [(3, some (.sl T_Problem r3))]⟩
theorem laws_toProblemS_eq (a0 : List T_Problem.ty) : laws_toProblemS a0 =
    if decide (0 ≤ (a0.length : Int)) && decide ((a0.length : Int) ≤ (a0.length : Int)) && decide ((a0.length : Int) < (lim : Int)) then
      laws_toProblemS_p0 a0 ((List.replicate ((a0.length : Int).toNat) ((0, [], [], ()) : T_Problem.ty)).length) 0 (List.replicate ((a0.length : Int).toNat) ((0, [], [], ()) : T_Problem.ty))
    else
      none :=
  (mk_f _ _ _ _ _ _ _ 4000).trans (by kernel_rfl)
theorem laws_toProblemS_p0_eq  (v0 : List T_Problem.ty) (v3n : Nat) (v4 : Int) (r3 : List T_Problem.ty) : laws_toProblemS_p0 v0 v3n v4 r3 =
    if decide (v4 < (v0.length : Int)) then
      if decide (0 ≤ v4) then
        (v0[v4.toNat]?).bind fun x1 =>
          (laws_toProblem x1).bind fun x2 =>
            if decide (0 ≤ v4) && decide (v4 < (v3n : Int)) then
              (r3[v4.toNat]?).bind fun x3 =>
                laws_toProblemS_p0 v0 v3n (IntKind.i64.wrap (v4 + 1)) (r3.set v4.toNat x2)
            else
              none
      else
        none
    else
      some (r3.take v3n) :=
  (goL_dn _ _ _ 4000 _ _).trans (by kernel_rfl)

/- spec.l00In -/
def spec_l00In_ir : Fn := { np := 3, io := [], res := [.t 6], own := [false], body :=
  (.seq (.reg false [⟨some 6, false, .asg (.c (.bool false)), none⟩] [0, 1, 2] []) (.seq (.reg false [⟨some 7, false, .mv (.t 0), none⟩, ⟨some 8, false, .mv (.t 1), none⟩, ⟨some 9, false, .bin .geq (.t 7) (.t 8), none⟩, ⟨some 10, false, .mv (.t 9), none⟩, ⟨some 11, false, .mv (.t 0), some (3, true)⟩, ⟨some 12, false, .mv (.t 2), some (3, true)⟩, ⟨some 13, false, .bin .leq (.t 11) (.t 12), some (3, true)⟩, ⟨some 14, false, .pick (.t 10) (.t 13) (.c (.bool false)), none⟩, ⟨some 6, false, .asg (.t 14), none⟩] [6] []) .ret)) }
noncomputable def spec_l00In_D : List (Nat × Callee) := []
def spec_l00In_H : List (Nat × ET) := []
noncomputable def spec_l00In_c : Callee := mkCallee spec_l00In_D spec_l00In_H spec_l00In_ir [.d (.one (.int .i64)), .d (.one (.int .i64)), .d (.one (.int .i64))] [.d (.one .bool)] []
noncomputable def spec_l00In (a0 : Int) (a1 : Int) (a2 : Int) : Option (Bool) := spec_l00In_c.f (a0, a1, a2, ())
theorem spec_l00In_eq (a0 : Int) (a1 : Int) (a2 : Int) : spec_l00In a0 a1 a2 =
    if decide (a0 ≥ a1) then
      some (decide (a0 ≤ a2))
    else
      some false :=
  (mk_f _ _ _ _ _ _ _ 4000).trans (by kernel_rfl)

/- spec.l31Kind -/
def spec_l31Kind_ir : Fn := { np := 1, io := [], res := [.t 2], own := [false], body :=
  (.seq (.reg false [⟨some 2, false, .asg (.c (.bool false)), none⟩] [0] []) (.seq (.reg false [⟨some 3, false, .mv (.t 0), none⟩, ⟨some 4, false, .call (.c (.fn 1 [])) [.t 3, .c (.int .i64 1), .c (.int .i64 5)], none⟩, ⟨some 2, false, .asg (.t 4), none⟩] [2] []) .ret)) }
noncomputable def spec_l31Kind_D : List (Nat × Callee) := [(1, spec_l00In_c)]
def spec_l31Kind_H : List (Nat × ET) := []
noncomputable def spec_l31Kind_c : Callee := mkCallee spec_l31Kind_D spec_l31Kind_H spec_l31Kind_ir [.d (.one (.int .i64))] [.d (.one .bool)] []
noncomputable def spec_l31Kind (a0 : Int) : Option (Bool) := spec_l31Kind_c.f (a0, ())
theorem spec_l31Kind_eq (a0 : Int) : spec_l31Kind a0 =
    (spec_l00In a0 1 5).bind fun x1 =>
      some x1 :=
  (mk_f _ _ _ _ _ _ _ 4000).trans (by kernel_rfl)

/- spec.CountProblems -/
def spec_CountProblems_k0 : C :=
  .seq (.seq (.reg false [⟨some 6, false, .mv (.t 4), none⟩, ⟨some 7, false, .mv (.t 0), none⟩, ⟨some 8, false, .len (.t 7), none⟩, ⟨some 9, false, .bin .lss (.t 6) (.t 8), none⟩] [0, 3, 4, 9] [3]) (.cond (.t 9) .skip (.exit 0))) (.seq (.block 1 (.seq (.reg false [⟨some 12, false, .mv (.t 0), none⟩, ⟨some 13, false, .mv (.t 4), none⟩, ⟨some 14, false, .ia 3 (.t 12) (.t 13), none⟩, ⟨some 15, false, .fa 0 (.t 14), none⟩, ⟨some 16, false, .ld none (.t 15), none⟩, ⟨some 17, false, .call (.c (.fn 3 [])) [.t 16], none⟩] [0, 3, 4, 17] [3]) (.cond (.t 17) (.seq (.reg false [⟨some 18, false, .mv (.t 3), none⟩, ⟨some 19, false, .mv (.t 0), none⟩, ⟨some 20, false, .mv (.t 4), none⟩, ⟨some 21, false, .ia 3 (.t 19) (.t 20), none⟩, ⟨some 22, false, .fa 0 (.t 21), none⟩, ⟨some 23, false, .ld none (.t 22), none⟩, ⟨some 24, false, .ia 1 (.t 18) (.t 23), none⟩, ⟨some 25, false, .ld none (.t 24), none⟩, ⟨some 26, false, .bin .add (.t 25) (.c (.int .i64 1)), none⟩, ⟨some 27, false, .ia 1 (.t 18) (.t 23), none⟩, ⟨none, true, .sto 1 (.t 27) (.t 26), none⟩] [0, 3, 4] [3]) (.reg false [⟨some 28, false, .mv (.t 3), none⟩, ⟨some 29, false, .ia 1 (.t 28) (.c (.int .i64 0)), none⟩, ⟨some 30, false, .ld none (.t 29), none⟩, ⟨some 31, false, .bin .add (.t 30) (.c (.int .i64 1)), none⟩, ⟨some 32, false, .ia 1 (.t 28) (.c (.int .i64 0)), none⟩, ⟨none, true, .sto 1 (.t 32) (.t 31), none⟩] [0, 3, 4] [3])) .skip))) (.reg false [⟨some 10, false, .mv (.t 4), none⟩, ⟨some 11, false, .bin .add (.t 10) (.c (.int .i64 1)), none⟩, ⟨some 4, false, .asg (.t 11), none⟩] [0, 3, 4] [3]))
def spec_CountProblems_k1 : C :=
  .norm [0, 3, 4] [3] spec_CountProblems_k0
def spec_CountProblems_k2 : C :=
  .seq (.reg false [⟨some 33, false, .mv (.t 3), none⟩, ⟨some 2, true, .asg (.t 33), none⟩] [2] [2, 3]) .ret
def spec_CountProblems_ir : Fn := { np := 1, io := [], res := [.t 2], own := [true], body :=
  (.seq (.reg false [⟨some 2, true, .asg (.c (.nils 1)), none⟩] [0] []) (.seq (.reg false [⟨some 5, false, .mks 1 8 (.int .i64 0) (.c (.int .i64 6)) (.c (.int .i64 6)), none⟩, ⟨some 3, true, .asg (.t 5), none⟩] [0, 3] [3]) (.seq (.seq (.reg false [⟨some 4, false, .asg (.c (.int .i64 0)), none⟩] [0, 3, 4] [3]) (.block 0 (.loop spec_CountProblems_k1))) spec_CountProblems_k2))) }
noncomputable def spec_CountProblems_D : List (Nat × Callee) := [(3, spec_l31Kind_c)]
def spec_CountProblems_H : List (Nat × ET) := [(2, (.one (.int .i64))), (3, (.one (.int .i64))), (5, (.one (.int .i64))), (7, T_Problem), (12, T_Problem), (18, (.one (.int .i64))), (19, T_Problem), (28, (.one (.int .i64))), (33, (.one (.int .i64)))]
noncomputable def spec_CountProblems_c : Callee := mkCallee spec_CountProblems_D spec_CountProblems_H spec_CountProblems_ir [.d (.one (.sl T_Problem))] [.tok (.one (.int .i64))] []
noncomputable def spec_CountProblems (a0 : List T_Problem.ty) : Option (List Int) := spec_CountProblems_c.f (a0, ())
noncomputable def spec_CountProblems_p0  (v0 : List T_Problem.ty) (v3n : Nat) (v4 : Int) (r3 : List Int) : Option (List Int) :=
  goL spec_CountProblems_D spec_CountProblems_H (vleave spec_CountProblems_ir [.d (.one (.sl T_Problem))] [.tok (.one (.int .i64))] [] []) [.c spec_CountProblems_k0, .l spec_CountProblems_k1, .e 0, .c spec_CountProblems_k2]
    ⟨[(0, .sl T_Problem v0), (3, .view 3 0 v3n), (4, .int .i64 v4)], [(3, some (.sl (.one (.int .i64)) r3))]⟩
theorem spec_CountProblems_eq (a0 : List T_Problem.ty) : spec_CountProblems a0 =
    spec_CountProblems_p0 a0 6 0 [0, 0, 0, 0, 0, 0] :=
  (mk_f _ _ _ _ _ _ _ 4000).trans (by kernel_rfl)
theorem spec_CountProblems_p0_eq  (v0 : List T_Problem.ty) (v3n : Nat) (v4 : Int) (r3 : List Int) : spec_CountProblems_p0 v0 v3n v4 r3 =
    if decide (v4 < (v0.length : Int)) then
      if decide (0 ≤ v4) then
        (v0[v4.toNat]?).bind fun x1 =>
          (spec_l31Kind x1.1).bind fun x2 =>
            if x2 then
              if decide (0 ≤ v4) then
                (v0[v4.toNat]?).bind fun x3 =>
                  if decide (0 ≤ x3.1) && decide (x3.1 < (v3n : Int)) then
                    (r3[x3.1.toNat]?).bind fun x4 =>
                      if decide (0 ≤ x3.1) && decide (x3.1 < (v3n : Int)) then
                        (r3[x3.1.toNat]?).bind fun x5 =>
                          if decide (0 < (v3n : Int)) then
                            ((r3.set x3.1.toNat (IntKind.i64.wrap (x4 + 1)))[0]?).bind fun x6 =>
                              if decide (0 < (v3n : Int)) then
                                ((r3.set x3.1.toNat (IntKind.i64.wrap (x4 + 1)))[0]?).bind fun x7 =>
                                  spec_CountProblems_p0 v0 v3n (IntKind.i64.wrap (v4 + 1)) ((r3.set x3.1.toNat (IntKind.i64.wrap (x4 + 1))).set 0 (IntKind.i64.wrap (x6 + 1)))
                              else
                                none
                          else
                            none
                      else
                        none
                  else
                    none
              else
                none
            else
              spec_CountProblems_p0 v0 v3n (IntKind.i64.wrap (v4 + 1)) r3
      else
        none
    else
      some (r3.take v3n) :=
  (goL_dn _ _ _ 4000 _ _).trans (by kernel_rfl)

/- impl.within -/
def impl_within_ir : Fn := { np := 3, io := [], res := [.t 6], own := [false], body :=
  (.seq (.reg false [⟨some 6, false, .asg (.c (.bool false)), none⟩] [0, 1, 2] []) (.seq (.reg false [⟨some 7, false, .mv (.t 1), none⟩, ⟨some 8, false, .mv (.t 0), none⟩, ⟨some 9, false, .bin .leq (.t 7) (.t 8), none⟩, ⟨some 10, false, .mv (.t 9), none⟩, ⟨some 11, false, .mv (.t 0), some (3, true)⟩, ⟨some 12, false, .mv (.t 2), some (3, true)⟩, ⟨some 13, false, .bin .leq (.t 11) (.t 12), some (3, true)⟩, ⟨some 14, false, .pick (.t 10) (.t 13) (.c (.bool false)), none⟩, ⟨some 6, false, .asg (.t 14), none⟩] [6] []) .ret)) }
noncomputable def impl_within_D : List (Nat × Callee) := []
def impl_within_H : List (Nat × ET) := []
noncomputable def impl_within_c : Callee := mkCallee impl_within_D impl_within_H impl_within_ir [.d (.one (.int .i64)), .d (.one (.int .i64)), .d (.one (.int .i64))] [.d (.one .bool)] []
noncomputable def impl_within (a0 : Int) (a1 : Int) (a2 : Int) : Option (Bool) := impl_within_c.f (a0, a1, a2, ())
theorem impl_within_eq (a0 : Int) (a1 : Int) (a2 : Int) : impl_within a0 a1 a2 =
    if decide (a1 ≤ a0) then
      some (decide (a0 ≤ a2))
    else
      some false :=
  (mk_f _ _ _ _ _ _ _ 4000).trans (by kernel_rfl)

/- impl.CountProblems -/
def impl_CountProblems_k0 : C :=
  .seq (.reg false [⟨some 10, false, .bin .lss (.t 9) (.t 8), none⟩] [3, 7, 8, 9, 10] [3]) (.seq (.cond (.t 10) .skip (.exit 0)) (.seq (.block 1 (.seq (.reg false [⟨some 11, false, .ia 3 (.t 7) (.t 9), none⟩, ⟨some 12, false, .ld (some 3) (.t 11), none⟩, ⟨some 5, true, .alloc 3 (.agg [.int .i64 0, .str [], .str []]), none⟩, ⟨none, true, .sto 3 (.t 5) (.t 12), none⟩] [3, 5, 7, 8, 9] [3, 5]) (.seq (.reg false [⟨some 13, false, .fa 0 (.t 5), none⟩, ⟨some 14, false, .ld none (.t 13), none⟩, ⟨some 15, false, .call (.c (.fn 23 [])) [.t 14, .c (.int .i64 1), .c (.int .i64 5)], none⟩] [3, 5, 7, 8, 9, 15] [3, 5]) (.cond (.t 15) (.seq (.reg false [⟨some 16, false, .mv (.t 3), none⟩, ⟨some 17, false, .ia 1 (.t 16) (.c (.int .i64 0)), none⟩, ⟨some 18, false, .ld none (.t 17), none⟩, ⟨some 19, false, .bin .add (.t 18) (.c (.int .i64 1)), none⟩, ⟨some 20, false, .ia 1 (.t 16) (.c (.int .i64 0)), none⟩, ⟨none, true, .sto 1 (.t 20) (.t 19), none⟩] [3, 5, 7, 8, 9] [3, 5]) (.reg false [⟨some 21, false, .mv (.t 3), none⟩, ⟨some 22, false, .fa 0 (.t 5), none⟩, ⟨some 23, false, .ld none (.t 22), none⟩, ⟨some 24, false, .ia 1 (.t 21) (.t 23), none⟩, ⟨some 25, false, .ld none (.t 24), none⟩, ⟨some 26, false, .bin .add (.t 25) (.c (.int .i64 1)), none⟩, ⟨some 27, false, .ia 1 (.t 21) (.t 23), none⟩, ⟨none, true, .sto 1 (.t 27) (.t 26), none⟩] [3, 7, 8, 9] [3])) .skip)))) (.reg false [⟨some 28, false, .bin .add (.t 9) (.c (.int .i64 1)), none⟩, ⟨some 9, false, .mv (.t 28), none⟩] [3, 7, 8, 9] [3])))
def impl_CountProblems_k1 : C :=
  .norm [3, 7, 8, 9] [3] impl_CountProblems_k0
def impl_CountProblems_k2 : C :=
  .seq (.reg false [⟨some 29, false, .mv (.t 3), none⟩, ⟨some 2, true, .asg (.t 29), none⟩] [2] [2, 3]) .ret
def impl_CountProblems_ir : Fn := { np := 1, io := [], res := [.t 2], own := [true], body :=
  (.seq (.reg false [⟨some 2, true, .asg (.c (.nils 1)), none⟩] [0] []) (.seq (.reg false [⟨some 6, false, .mks 1 8 (.int .i64 0) (.c (.int .i64 6)) (.c (.int .i64 6)), none⟩, ⟨some 3, true, .asg (.t 6), none⟩] [0, 3] [3]) (.seq (.seq (.reg false [⟨some 7, false, .mv (.t 0), none⟩, ⟨some 8, false, .len (.t 7), none⟩, ⟨some 9, false, .mv (.c (.int .i64 0)), none⟩] [3, 7, 8, 9] [3]) (.block 0 (.loop impl_CountProblems_k1))) impl_CountProblems_k2))) }
noncomputable def impl_CountProblems_D : List (Nat × Callee) := [(23, impl_within_c)]
def impl_CountProblems_H : List (Nat × ET) := [(2, (.one (.int .i64))), (3, (.one (.int .i64))), (6, (.one (.int .i64))), (7, T_Problem), (16, (.one (.int .i64))), (21, (.one (.int .i64))), (29, (.one (.int .i64)))]
noncomputable def impl_CountProblems_c : Callee := mkCallee impl_CountProblems_D impl_CountProblems_H impl_CountProblems_ir [.d (.one (.sl T_Problem))] [.tok (.one (.int .i64))] []
noncomputable def impl_CountProblems (a0 : List T_Problem.ty) : Option (List Int) := impl_CountProblems_c.f (a0, ())
noncomputable def impl_CountProblems_p0  (v3n : Nat) (v7 : List T_Problem.ty) (v8 : Int) (v9 : Int) (r3 : List Int) : Option (List Int) :=
  goL impl_CountProblems_D impl_CountProblems_H (vleave impl_CountProblems_ir [.d (.one (.sl T_Problem))] [.tok (.one (.int .i64))] [] []) [.c impl_CountProblems_k0, .l impl_CountProblems_k1, .e 0, .c impl_CountProblems_k2]
    ⟨[(3, .view 3 0 v3n), (7, .sl T_Problem v7), (8, .int .i64 v8), (9, .int .i64 v9)], [(3, some (.sl (.one (.int .i64)) r3))]⟩
theorem impl_CountProblems_eq (a0 : List T_Problem.ty) : impl_CountProblems a0 =
    impl_CountProblems_p0 6 a0 (a0.length : Int) 0 [0, 0, 0, 0, 0, 0] :=
  (mk_f _ _ _ _ _ _ _ 4000).trans (by kernel_rfl)
theorem impl_CountProblems_p0_eq  (v3n : Nat) (v7 : List T_Problem.ty) (v8 : Int) (v9 : Int) (r3 : List Int) : impl_CountProblems_p0 v3n v7 v8 v9 r3 =
    if decide (v9 < v8) then
      if decide (0 ≤ v9) then
        (v7[v9.toNat]?).bind fun x1 =>
          (impl_within x1.1 1 5).bind fun x2 =>
            if x2 then
              if decide (0 < (v3n : Int)) then
                (r3[0]?).bind fun x3 =>
                  if decide (0 < (v3n : Int)) then
                    (r3[0]?).bind fun x4 =>
                      if decide (0 ≤ x1.1) && decide (x1.1 < (v3n : Int)) then
                        ((r3.set 0 (IntKind.i64.wrap (x3 + 1)))[x1.1.toNat]?).bind fun x5 =>
                          if decide (0 ≤ x1.1) && decide (x1.1 < (v3n : Int)) then
                            ((r3.set 0 (IntKind.i64.wrap (x3 + 1)))[x1.1.toNat]?).bind fun x6 =>
                              impl_CountProblems_p0 v3n v7 v8 (IntKind.i64.wrap (v9 + 1)) ((r3.set 0 (IntKind.i64.wrap (x3 + 1))).set x1.1.toNat (IntKind.i64.wrap (x5 + 1)))
                          else
                            none
                      else
                        none
                  else
                    none
              else
                none
            else
              impl_CountProblems_p0 v3n v7 v8 (IntKind.i64.wrap (v9 + 1)) r3
      else
        none
    else
      some (r3.take v3n) :=
  (goL_dn _ _ _ 4000 _ _).trans (by kernel_rfl)

/- laws.eqInt64S -/
def laws_eqInt64S_k0 : C :=
  .seq (.seq (.reg false [⟨some 11, false, .mv (.t 5), none⟩, ⟨some 12, false, .mv (.t 0), none⟩, ⟨some 13, false, .len (.t 12), none⟩, ⟨some 14, false, .bin .lss (.t 11) (.t 13), none⟩] [0, 1, 5, 14] []) (.cond (.t 14) .skip (.exit 0))) (.seq (.block 1 (.seq (.reg true [⟨some 17, false, .mv (.t 0), none⟩, ⟨some 18, false, .mv (.t 5), none⟩, ⟨some 19, false, .ia 1 (.t 17) (.t 18), none⟩, ⟨some 20, false, .ld none (.t 19), none⟩, ⟨some 21, false, .mv (.t 1), none⟩, ⟨some 22, false, .mv (.t 5), none⟩, ⟨some 23, false, .ia 1 (.t 21) (.t 22), none⟩, ⟨some 24, false, .ld none (.t 23), none⟩, ⟨some 25, false, .bin .neq (.t 20) (.t 24), none⟩] [0, 1, 5, 25] []) (.cond (.t 25) (.seq (.reg false [⟨some 4, false, .asg (.c (.bool false)), none⟩] [4] []) .ret) .skip))) (.reg false [⟨some 15, false, .mv (.t 5), none⟩, ⟨some 16, false, .bin .add (.t 15) (.c (.int .i64 1)), none⟩, ⟨some 5, false, .asg (.t 16), none⟩] [0, 1, 5] []))
def laws_eqInt64S_k1 : C :=
  .norm [0, 1, 5] [] laws_eqInt64S_k0
def laws_eqInt64S_k2 : C :=
  .seq (.reg false [⟨some 4, false, .asg (.c (.bool true)), none⟩] [4] []) .ret
def laws_eqInt64S_ir : Fn := { np := 2, io := [], res := [.t 4], own := [false], body :=
  (.seq (.reg false [⟨some 4, false, .asg (.c (.bool false)), none⟩] [0, 1] []) (.seq (.seq (.reg false [⟨some 6, false, .mv (.t 0), none⟩, ⟨some 7, false, .len (.t 6), none⟩, ⟨some 8, false, .mv (.t 1), none⟩, ⟨some 9, false, .len (.t 8), none⟩, ⟨some 10, false, .bin .neq (.t 7) (.t 9), none⟩] [0, 1, 10] []) (.cond (.t 10) (.seq (.reg false [⟨some 4, false, .asg (.c (.bool false)), none⟩] [4] []) .ret) .skip)) (.seq (.seq (.reg false [⟨some 5, false, .asg (.c (.int .i64 0)), none⟩] [0, 1, 5] []) (.block 0 (.loop laws_eqInt64S_k1))) laws_eqInt64S_k2))) }
noncomputable def laws_eqInt64S_D : List (Nat × Callee) := []
def laws_eqInt64S_H : List (Nat × ET) := [(6, (.one (.int .i64))), (8, (.one (.int .i64))), (12, (.one (.int .i64))), (17, (.one (.int .i64))), (21, (.one (.int .i64)))]
noncomputable def laws_eqInt64S_c : Callee := mkCallee laws_eqInt64S_D laws_eqInt64S_H laws_eqInt64S_ir [.d (.one (.sl (.one (.int .i64)))), .d (.one (.sl (.one (.int .i64))))] [.d (.one .bool)] []
noncomputable def laws_eqInt64S (a0 : List Int) (a1 : List Int) : Option (Bool) := laws_eqInt64S_c.f (a0, a1, ())
noncomputable def laws_eqInt64S_p0  (v0 : List Int) (v1 : List Int) (v5 : Int) : Option (Bool) :=
  goL laws_eqInt64S_D laws_eqInt64S_H (vleave laws_eqInt64S_ir [.d (.one (.sl (.one (.int .i64)))), .d (.one (.sl (.one (.int .i64))))] [.d (.one .bool)] [] []) [.c laws_eqInt64S_k0, .l laws_eqInt64S_k1, .e 0, .c laws_eqInt64S_k2]
    ⟨[(0, .sl (.one (.int .i64)) v0), (1, .sl (.one (.int .i64)) v1), (5, .int .i64 v5)], []⟩
theorem laws_eqInt64S_eq (a0 : List Int) (a1 : List Int) : laws_eqInt64S a0 a1 =
    if ((a0.length : Int) != (a1.length : Int)) then
      some false
    else
      laws_eqInt64S_p0 a0 a1 0 :=
  (mk_f _ _ _ _ _ _ _ 4000).trans (by kernel_rfl)
theorem laws_eqInt64S_p0_eq  (v0 : List Int) (v1 : List Int) (v5 : Int) : laws_eqInt64S_p0 v0 v1 v5 =
    if decide (v5 < (v0.length : Int)) then
      if decide (0 ≤ v5) then
        (v0[v5.toNat]?).bind fun x1 =>
          if decide (0 ≤ v5) then
            (v1[v5.toNat]?).bind fun x2 =>
              if (x1 != x2) then
                some false
              else
                laws_eqInt64S_p0 v0 v1 (IntKind.i64.wrap (v5 + 1))
          else
            none
      else
        none
    else
      some true :=
  (goL_dn _ _ _ 4000 _ _).trans (by kernel_rfl)

/- laws.eqProblem -/
def laws_eqProblem_ir : Fn := { np := 2, io := [], res := [.t 4], own := [false], body :=
  (.seq (.reg false [⟨some 2, true, .box 3 (.t 0), none⟩, ⟨some 3, true, .box 3 (.t 1), none⟩, ⟨some 4, false, .asg (.c (.bool false)), none⟩] [2, 3] [2, 3]) (.seq (.seq (.reg false [⟨some 5, false, .fa 0 (.t 2), none⟩, ⟨some 6, false, .ld none (.t 5), none⟩, ⟨some 7, false, .fa 0 (.t 3), none⟩, ⟨some 8, false, .ld none (.t 7), none⟩, ⟨some 9, false, .bin .neq (.t 6) (.t 8), none⟩] [2, 3, 9] [2, 3]) (.cond (.t 9) (.seq (.reg false [⟨some 4, false, .asg (.c (.bool false)), none⟩] [4] []) .ret) .skip)) (.seq (.seq (.reg false [⟨some 10, false, .fa 1 (.t 2), none⟩, ⟨some 11, false, .ld none (.t 10), none⟩, ⟨some 12, false, .fa 1 (.t 3), none⟩, ⟨some 13, false, .ld none (.t 12), none⟩, ⟨some 14, false, .bin .neq (.t 11) (.t 13), none⟩] [2, 3, 14] [2, 3]) (.cond (.t 14) (.seq (.reg false [⟨some 4, false, .asg (.c (.bool false)), none⟩] [4] []) .ret) .skip)) (.seq (.seq (.reg false [⟨some 15, false, .fa 2 (.t 2), none⟩, ⟨some 16, false, .ld none (.t 15), none⟩, ⟨some 17, false, .fa 2 (.t 3), none⟩, ⟨some 18, false, .ld none (.t 17), none⟩, ⟨some 19, false, .bin .neq (.t 16) (.t 18), none⟩] [19] []) (.cond (.t 19) (.seq (.reg false [⟨some 4, false, .asg (.c (.bool false)), none⟩] [4] []) .ret) .skip)) (.seq (.reg false [⟨some 4, false, .asg (.c (.bool true)), none⟩] [4] []) .ret))))) }
noncomputable def laws_eqProblem_D : List (Nat × Callee) := []
def laws_eqProblem_H : List (Nat × ET) := []
noncomputable def laws_eqProblem_c : Callee := mkCallee laws_eqProblem_D laws_eqProblem_H laws_eqProblem_ir [.d T_Problem, .d T_Problem] [.d (.one .bool)] []
noncomputable def laws_eqProblem (a0 : T_Problem.ty) (a1 : T_Problem.ty) : Option (Bool) := laws_eqProblem_c.f (a0, a1, ())
theorem laws_eqProblem_eq (a0 : T_Problem.ty) (a1 : T_Problem.ty) : laws_eqProblem a0 a1 =
    if (a0.1 != a1.1) then
      some false
    else
      if (!(a0.2.1 == a1.2.1)) then
        some false
      else
        if (!(a0.2.2.1 == a1.2.2.1)) then
          some false
        else
          some true :=
  (mk_f _ _ _ _ _ _ _ 4000).trans (by kernel_rfl)

/- laws.eqProblemS -/
def laws_eqProblemS_k0 : C :=
  .seq (.seq (.reg false [⟨some 11, false, .mv (.t 5), none⟩, ⟨some 12, false, .mv (.t 0), none⟩, ⟨some 13, false, .len (.t 12), none⟩, ⟨some 14, false, .bin .lss (.t 11) (.t 13), none⟩] [0, 1, 5, 14] []) (.cond (.t 14) .skip (.exit 0))) (.seq (.block 1 (.seq (.reg true [⟨some 17, false, .mv (.t 0), none⟩, ⟨some 18, false, .mv (.t 5), none⟩, ⟨some 19, false, .ia 3 (.t 17) (.t 18), none⟩, ⟨some 20, false, .ld (some 3) (.t 19), none⟩, ⟨some 21, false, .mv (.t 1), none⟩, ⟨some 22, false, .mv (.t 5), none⟩, ⟨some 23, false, .ia 3 (.t 21) (.t 22), none⟩, ⟨some 24, false, .ld (some 3) (.t 23), none⟩, ⟨some 25, false, .call (.c (.fn 39 [])) [.t 20, .t 24], none⟩, ⟨some 26, false, .un .not (.t 25), none⟩] [0, 1, 5, 26] []) (.cond (.t 26) (.seq (.reg false [⟨some 4, false, .asg (.c (.bool false)), none⟩] [4] []) .ret) .skip))) (.reg false [⟨some 15, false, .mv (.t 5), none⟩, ⟨some 16, false, .bin .add (.t 15) (.c (.int .i64 1)), none⟩, ⟨some 5, false, .asg (.t 16), none⟩] [0, 1, 5] []))
def laws_eqProblemS_k1 : C :=
  .norm [0, 1, 5] [] laws_eqProblemS_k0
def laws_eqProblemS_k2 : C :=
  .seq (.reg false [⟨some 4, false, .asg (.c (.bool true)), none⟩] [4] []) .ret
def laws_eqProblemS_ir : Fn := { np := 2, io := [], res := [.t 4], own := [false], body :=
  (.seq (.reg false [⟨some 4, false, .asg (.c (.bool false)), none⟩] [0, 1] []) (.seq (.seq (.reg false [⟨some 6, false, .mv (.t 0), none⟩, ⟨some 7, false, .len (.t 6), none⟩, ⟨some 8, false, .mv (.t 1), none⟩, ⟨some 9, false, .len (.t 8), none⟩, ⟨some 10, false, .bin .neq (.t 7) (.t 9), none⟩] [0, 1, 10] []) (.cond (.t 10) (.seq (.reg false [⟨some 4, false, .asg (.c (.bool false)), none⟩] [4] []) .ret) .skip)) (.seq (.seq (.reg false [⟨some 5, false, .asg (.c (.int .i64 0)), none⟩] [0, 1, 5] []) (.block 0 (.loop laws_eqProblemS_k1))) laws_eqProblemS_k2))) }
noncomputable def laws_eqProblemS_D : List (Nat × Callee) := [(39, laws_eqProblem_c)]
def laws_eqProblemS_H : List (Nat × ET) := [(6, T_Problem), (8, T_Problem), (12, T_Problem), (17, T_Problem), (21, T_Problem)]
noncomputable def laws_eqProblemS_c : Callee := mkCallee laws_eqProblemS_D laws_eqProblemS_H laws_eqProblemS_ir [.d (.one (.sl T_Problem)), .d (.one (.sl T_Problem))] [.d (.one .bool)] []
noncomputable def laws_eqProblemS (a0 : List T_Problem.ty) (a1 : List T_Problem.ty) : Option (Bool) := laws_eqProblemS_c.f (a0, a1, ())
noncomputable def laws_eqProblemS_p0  (v0 : List T_Problem.ty) (v1 : List T_Problem.ty) (v5 : Int) : Option (Bool) :=
  goL laws_eqProblemS_D laws_eqProblemS_H (vleave laws_eqProblemS_ir [.d (.one (.sl T_Problem)), .d (.one (.sl T_Problem))] [.d (.one .bool)] [] []) [.c laws_eqProblemS_k0, .l laws_eqProblemS_k1, .e 0, .c laws_eqProblemS_k2]
    ⟨[(0, .sl T_Problem v0), (1, .sl T_Problem v1), (5, .int .i64 v5)], []⟩
theorem laws_eqProblemS_eq (a0 : List T_Problem.ty) (a1 : List T_Problem.ty) : laws_eqProblemS a0 a1 =
    if ((a0.length : Int) != (a1.length : Int)) then
      some false
    else
      laws_eqProblemS_p0 a0 a1 0 :=
  (mk_f _ _ _ _ _ _ _ 4000).trans (by kernel_rfl)
theorem laws_eqProblemS_p0_eq  (v0 : List T_Problem.ty) (v1 : List T_Problem.ty) (v5 : Int) : laws_eqProblemS_p0 v0 v1 v5 =
    if decide (v5 < (v0.length : Int)) then
      if decide (0 ≤ v5) then
        (v0[v5.toNat]?).bind fun x1 =>
          if decide (0 ≤ v5) then
            (v1[v5.toNat]?).bind fun x2 =>
              (laws_eqProblem x1 x2).bind fun x3 =>
                if (!x3) then
                  some false
                else
                  laws_eqProblemS_p0 v0 v1 (IntKind.i64.wrap (v5 + 1))
          else
            none
      else
        none
    else
      some true :=
  (goL_dn _ _ _ 4000 _ _).trans (by kernel_rfl)

/- laws.markText -/
def laws_markText_k0 : C :=
  .seq (.seq (.reg false [⟨some 6, false, .mv (.t 0), none⟩, ⟨some 7, false, .bin .gtr (.t 6) (.c (.int .i64 0)), none⟩] [0, 3, 7] []) (.cond (.t 7) .skip (.exit 0))) (.block 1 (.seq (.reg false [⟨some 8, false, .mv (.t 0), none⟩, ⟨some 9, false, .bin .rem (.t 8) (.c (.int .i64 10)), none⟩, ⟨some 10, false, .bin .add (.c (.int .i64 48)) (.t 9), none⟩, ⟨some 11, false, .conv (.int .u8) (.t 10), none⟩, ⟨some 12, false, .bsl 1 (.int .u8 0) 1 [(0, .t 11)], none⟩, ⟨some 13, false, .conv .bytesStr (.t 12), none⟩, ⟨some 14, false, .mv (.t 3), none⟩, ⟨some 15, false, .bin .add (.t 13) (.t 14), none⟩, ⟨some 3, false, .asg (.t 15), none⟩] [0, 3] []) (.reg false [⟨some 16, false, .mv (.t 0), none⟩, ⟨some 17, false, .bin .quo (.t 16) (.c (.int .i64 10)), none⟩, ⟨some 0, false, .asg (.t 17), none⟩] [0, 3] [])))
def laws_markText_k1 : C :=
  .norm [0, 3] [] laws_markText_k0
def laws_markText_k2 : C :=
  .seq (.reg false [⟨some 18, false, .mv (.t 3), none⟩, ⟨some 19, false, .bin .add (.c (.str [109])) (.t 18), none⟩, ⟨some 2, false, .asg (.t 19), none⟩] [2] []) .ret
def laws_markText_ir : Fn := { np := 1, io := [], res := [.t 2], own := [false], body :=
  (.seq (.reg false [⟨some 2, false, .asg (.c (.str [])), none⟩] [0] []) (.seq (.seq (.reg false [⟨some 4, false, .mv (.t 0), none⟩, ⟨some 5, false, .bin .leq (.t 4) (.c (.int .i64 0)), none⟩] [0, 5] []) (.cond (.t 5) (.seq (.reg false [⟨some 2, false, .asg (.c (.str [109, 48])), none⟩] [2] []) .ret) .skip)) (.seq (.reg false [⟨some 3, false, .asg (.c (.str [])), none⟩] [0, 3] []) (.seq (.block 0 (.loop laws_markText_k1)) laws_markText_k2)))) }
noncomputable def laws_markText_D : List (Nat × Callee) := []
def laws_markText_H : List (Nat × ET) := [(12, (.one (.int .u8)))]
noncomputable def laws_markText_c : Callee := mkCallee laws_markText_D laws_markText_H laws_markText_ir [.d (.one (.int .i64))] [.d (.one .str)] []
noncomputable def laws_markText (a0 : Int) : Option (List UInt8) := laws_markText_c.f (a0, ())
noncomputable def laws_markText_p0  (v0 : Int) (v3 : List UInt8) : Option (List UInt8) :=
  goL laws_markText_D laws_markText_H (vleave laws_markText_ir [.d (.one (.int .i64))] [.d (.one .str)] [] []) [.c laws_markText_k0, .l laws_markText_k1, .e 0, .c laws_markText_k2]
    ⟨[(0, .int .i64 v0), (3, .str v3)], []⟩
theorem laws_markText_eq (a0 : Int) : laws_markText a0 =
    if decide (a0 ≤ 0) then
      some [109, 48]
    else
      laws_markText_p0 a0 [] :=
  (mk_f _ _ _ _ _ _ _ 4000).trans (by kernel_rfl)
theorem laws_markText_p0_eq  (v0 : Int) (v3 : List UInt8) : laws_markText_p0 v0 v3 =
    if decide (v0 > 0) then
      if decide (([IntKind.u8.wrap (IntKind.i64.wrap (48 + (v0.tmod 10)))].map vu8).length + v3.length ≤ strMax) then
        laws_markText_p0 (IntKind.i64.wrap (v0.tdiv 10)) (([IntKind.u8.wrap (IntKind.i64.wrap (48 + (v0.tmod 10)))].map vu8) ++ v3)
      else
        none
    else
      if decide ([109].length + v3.length ≤ strMax) then
        some ([109] ++ v3)
      else
        none :=
  (goL_dn _ _ _ 4000 _ _).trans (by kernel_rfl)

/- laws.markProblemS -/
def laws_markProblemS_k0 : C :=
  .seq (.seq (.reg false [⟨some 6, false, .mv (.t 5), none⟩, ⟨some 7, false, .mv (.t 0), none⟩, ⟨some 8, false, .len (.t 7), none⟩, ⟨some 9, false, .bin .lss (.t 6) (.t 8), none⟩] [0, 1, 5, 9] [0]) (.cond (.t 9) .skip (.exit 0))) (.seq (.block 1 (.seq (.reg false [⟨some 12, false, .mv (.t 0), none⟩, ⟨some 13, false, .mv (.t 5), none⟩, ⟨some 14, false, .mv (.t 1), none⟩, ⟨some 15, false, .ia 3 (.t 12) (.t 13), none⟩, ⟨some 16, false, .fa 0 (.t 15), none⟩, ⟨none, true, .sto 1 (.t 16) (.t 14), none⟩] [0, 1, 5] [0]) (.seq (.reg false [⟨some 17, false, .mv (.t 1), none⟩, ⟨some 18, false, .bin .add (.t 17) (.c (.int .i64 1)), none⟩, ⟨some 1, false, .asg (.t 18), none⟩] [0, 1, 5] [0]) (.seq (.reg false [⟨some 19, false, .mv (.t 0), none⟩, ⟨some 20, false, .mv (.t 5), none⟩, ⟨some 21, false, .mv (.t 1), none⟩, ⟨some 22, false, .call (.c (.fn 40 [])) [.t 21], none⟩, ⟨some 23, false, .ia 3 (.t 19) (.t 20), none⟩, ⟨some 24, false, .fa 1 (.t 23), none⟩, ⟨none, true, .sto 1 (.t 24) (.t 22), none⟩] [0, 1, 5] [0]) (.seq (.reg false [⟨some 25, false, .mv (.t 1), none⟩, ⟨some 26, false, .bin .add (.t 25) (.c (.int .i64 1)), none⟩, ⟨some 1, false, .asg (.t 26), none⟩] [0, 1, 5] [0]) (.seq (.reg false [⟨some 27, false, .mv (.t 0), none⟩, ⟨some 28, false, .mv (.t 5), none⟩, ⟨some 29, false, .mv (.t 1), none⟩, ⟨some 30, false, .call (.c (.fn 40 [])) [.t 29], none⟩, ⟨some 31, false, .ia 3 (.t 27) (.t 28), none⟩, ⟨some 32, false, .fa 2 (.t 31), none⟩, ⟨none, true, .sto 1 (.t 32) (.t 30), none⟩] [0, 1, 5] [0]) (.reg false [⟨some 33, false, .mv (.t 1), none⟩, ⟨some 34, false, .bin .add (.t 33) (.c (.int .i64 1)), none⟩, ⟨some 1, false, .asg (.t 34), none⟩] [0, 1, 5] [0]))))))) (.reg false [⟨some 10, false, .mv (.t 5), none⟩, ⟨some 11, false, .bin .add (.t 10) (.c (.int .i64 1)), none⟩, ⟨some 5, false, .asg (.t 11), none⟩] [0, 1, 5] [0]))
def laws_markProblemS_k1 : C :=
  .norm [0, 1, 5] [0] laws_markProblemS_k0
def laws_markProblemS_k2 : C :=
  .seq (.reg false [⟨some 35, false, .mv (.t 1), none⟩, ⟨some 4, false, .asg (.t 35), none⟩] [0, 4] [0]) .ret
def laws_markProblemS_ir : Fn := { np := 2, io := [true, false], res := [.t 4], own := [false], body :=
  (.seq (.reg false [⟨some 4, false, .asg (.c (.int .i64 0)), none⟩] [0, 1] [0]) (.seq (.seq (.reg false [⟨some 5, false, .asg (.c (.int .i64 0)), none⟩] [0, 1, 5] [0]) (.block 0 (.loop laws_markProblemS_k1))) laws_markProblemS_k2)) }
noncomputable def laws_markProblemS_D : List (Nat × Callee) := [(40, laws_markText_c)]
def laws_markProblemS_H : List (Nat × ET) := [(7, T_Problem), (12, T_Problem), (19, T_Problem), (27, T_Problem)]
noncomputable def laws_markProblemS_c : Callee := mkCallee laws_markProblemS_D laws_markProblemS_H laws_markProblemS_ir [.ios T_Problem, .d (.one (.int .i64))] [.d (.one (.int .i64))] [.ios T_Problem]
noncomputable def laws_markProblemS (a0 : List T_Problem.ty) (a1 : Int) : Option (Int × List T_Problem.ty) := laws_markProblemS_c.f (a0, a1, ())
noncomputable def laws_markProblemS_p0 (l0 : Nat) (v0n : Nat) (v1 : Int) (v5 : Int) (r0 : List T_Problem.ty) : Option (Int × List T_Problem.ty) :=
  goL laws_markProblemS_D laws_markProblemS_H (vleave laws_markProblemS_ir [.ios T_Problem, .d (.one (.int .i64))] [.d (.one (.int .i64))] [.ios T_Problem] [l0]) [.c laws_markProblemS_k0, .l laws_markProblemS_k1, .e 0, .c laws_markProblemS_k2]
    ⟨[(0, .view 0 0 v0n), (1, .int .i64 v1), (5, .int .i64 v5)], [(0, some (.sl T_Problem r0))]⟩
theorem laws_markProblemS_eq (a0 : List T_Problem.ty) (a1 : Int) : laws_markProblemS a0 a1 =
    laws_markProblemS_p0 a0.length a0.length a1 0 a0 :=
  (mk_f _ _ _ _ _ _ _ 4000).trans (by kernel_rfl)
theorem laws_markProblemS_p0_eq (l0 : Nat) (v0n : Nat) (v1 : Int) (v5 : Int) (r0 : List T_Problem.ty) : laws_markProblemS_p0 l0 v0n v1 v5 r0 =
    if decide (v5 < (v0n : Int)) then
      if decide (0 ≤ v5) && decide (v5 < (v0n : Int)) then
        (r0[v5.toNat]?).bind fun x1 =>
          (laws_markText (IntKind.i64.wrap (v1 + 1))).bind fun x2 =>
            if decide (0 ≤ v5) && decide (v5 < (v0n : Int)) then
              ((r0.set v5.toNat (v1, x1.2.1, x1.2.2.1, ()))[v5.toNat]?).bind fun x3 =>
                (laws_markText (IntKind.i64.wrap ((IntKind.i64.wrap (v1 + 1)) + 1))).bind fun x4 =>
                  if decide (0 ≤ v5) && decide (v5 < (v0n : Int)) then
                    (((r0.set v5.toNat (v1, x1.2.1, x1.2.2.1, ())).set v5.toNat (x3.1, x2, x3.2.2.1, ()))[v5.toNat]?).bind fun x5 =>
                      laws_markProblemS_p0 l0 v0n (IntKind.i64.wrap ((IntKind.i64.wrap ((IntKind.i64.wrap (v1 + 1)) + 1)) + 1)) (IntKind.i64.wrap (v5 + 1)) (((r0.set v5.toNat (v1, x1.2.1, x1.2.2.1, ())).set v5.toNat (x3.1, x2, x3.2.2.1, ())).set v5.toNat (x5.1, x5.2.1, x4, ()))
                  else
                    none
            else
              none
      else
        none
    else
      if decide (r0.length = l0) then
        some (v1, r0)
      else
        none :=
  (goL_dn _ _ _ 4000 _ _).trans (by kernel_rfl)

/- laws.markInt64S -/
def laws_markInt64S_k0 : C :=
  .seq (.seq (.reg false [⟨some 6, false, .mv (.t 5), none⟩, ⟨some 7, false, .mv (.t 0), none⟩, ⟨some 8, false, .len (.t 7), none⟩, ⟨some 9, false, .bin .lss (.t 6) (.t 8), none⟩] [0, 1, 5, 9] [0]) (.cond (.t 9) .skip (.exit 0))) (.seq (.block 1 (.seq (.reg false [⟨some 12, false, .mv (.t 0), none⟩, ⟨some 13, false, .mv (.t 5), none⟩, ⟨some 14, false, .mv (.t 1), none⟩, ⟨some 15, false, .ia 1 (.t 12) (.t 13), none⟩, ⟨none, true, .sto 1 (.t 15) (.t 14), none⟩] [0, 1, 5] [0]) (.reg false [⟨some 16, false, .mv (.t 1), none⟩, ⟨some 17, false, .bin .add (.t 16) (.c (.int .i64 1)), none⟩, ⟨some 1, false, .asg (.t 17), none⟩] [0, 1, 5] [0]))) (.reg false [⟨some 10, false, .mv (.t 5), none⟩, ⟨some 11, false, .bin .add (.t 10) (.c (.int .i64 1)), none⟩, ⟨some 5, false, .asg (.t 11), none⟩] [0, 1, 5] [0]))
def laws_markInt64S_k1 : C :=
  .norm [0, 1, 5] [0] laws_markInt64S_k0
def laws_markInt64S_k2 : C :=
  .seq (.reg false [⟨some 18, false, .mv (.t 1), none⟩, ⟨some 4, false, .asg (.t 18), none⟩] [0, 4] [0]) .ret
def laws_markInt64S_ir : Fn := { np := 2, io := [true, false], res := [.t 4], own := [false], body :=
  (.seq (.reg false [⟨some 4, false, .asg (.c (.int .i64 0)), none⟩] [0, 1] [0]) (.seq (.seq (.reg false [⟨some 5, false, .asg (.c (.int .i64 0)), none⟩] [0, 1, 5] [0]) (.block 0 (.loop laws_markInt64S_k1))) laws_markInt64S_k2)) }
noncomputable def laws_markInt64S_D : List (Nat × Callee) := []
def laws_markInt64S_H : List (Nat × ET) := [(7, (.one (.int .i64))), (12, (.one (.int .i64)))]
noncomputable def laws_markInt64S_c : Callee := mkCallee laws_markInt64S_D laws_markInt64S_H laws_markInt64S_ir [.ios (.one (.int .i64)), .d (.one (.int .i64))] [.d (.one (.int .i64))] [.ios (.one (.int .i64))]
noncomputable def laws_markInt64S (a0 : List Int) (a1 : Int) : Option (Int × List Int) := laws_markInt64S_c.f (a0, a1, ())
noncomputable def laws_markInt64S_p0 (l0 : Nat) (v0n : Nat) (v1 : Int) (v5 : Int) (r0 : List Int) : Option (Int × List Int) :=
  goL laws_markInt64S_D laws_markInt64S_H (vleave laws_markInt64S_ir [.ios (.one (.int .i64)), .d (.one (.int .i64))] [.d (.one (.int .i64))] [.ios (.one (.int .i64))] [l0]) [.c laws_markInt64S_k0, .l laws_markInt64S_k1, .e 0, .c laws_markInt64S_k2]
    ⟨[(0, .view 0 0 v0n), (1, .int .i64 v1), (5, .int .i64 v5)], [(0, some (.sl (.one (.int .i64)) r0))]⟩
theorem laws_markInt64S_eq (a0 : List Int) (a1 : Int) : laws_markInt64S a0 a1 =
    laws_markInt64S_p0 a0.length a0.length a1 0 a0 :=
  (mk_f _ _ _ _ _ _ _ 4000).trans (by kernel_rfl)
theorem laws_markInt64S_p0_eq (l0 : Nat) (v0n : Nat) (v1 : Int) (v5 : Int) (r0 : List Int) : laws_markInt64S_p0 l0 v0n v1 v5 r0 =
    if decide (v5 < (v0n : Int)) then
      if decide (0 ≤ v5) && decide (v5 < (v0n : Int)) then
        (r0[v5.toNat]?).bind fun x1 =>
          laws_markInt64S_p0 l0 v0n (IntKind.i64.wrap (v1 + 1)) (IntKind.i64.wrap (v5 + 1)) (r0.set v5.toNat v1)
      else
        none
    else
      if decide (r0.length = l0) then
        some (v1, r0)
      else
        none :=
  (goL_dn _ _ _ 4000 _ _).trans (by kernel_rfl)

/- laws.heldInt64S -/
def laws_heldInt64S_k0 : C :=
  .seq (.seq (.reg false [⟨some 6, false, .mv (.t 5), none⟩, ⟨some 7, false, .mv (.t 0), none⟩, ⟨some 8, false, .len (.t 7), none⟩, ⟨some 9, false, .bin .lss (.t 6) (.t 8), none⟩] [0, 1, 5, 9] []) (.cond (.t 9) .skip (.exit 0))) (.seq (.block 1 (.seq (.seq (.reg false [⟨some 12, false, .mv (.t 0), none⟩, ⟨some 13, false, .mv (.t 5), none⟩, ⟨some 14, false, .ia 1 (.t 12) (.t 13), none⟩, ⟨some 15, false, .ld none (.t 14), none⟩, ⟨some 16, false, .mv (.t 1), none⟩, ⟨some 17, false, .bin .neq (.t 15) (.t 16), none⟩] [0, 1, 5, 17] []) (.cond (.t 17) (.seq (.reg false [⟨some 4, false, .asg (.c (.int .i64 (-1))), none⟩] [4] []) .ret) .skip)) (.reg false [⟨some 18, false, .mv (.t 1), none⟩, ⟨some 19, false, .bin .add (.t 18) (.c (.int .i64 1)), none⟩, ⟨some 1, false, .asg (.t 19), none⟩] [0, 1, 5] []))) (.reg false [⟨some 10, false, .mv (.t 5), none⟩, ⟨some 11, false, .bin .add (.t 10) (.c (.int .i64 1)), none⟩, ⟨some 5, false, .asg (.t 11), none⟩] [0, 1, 5] []))
def laws_heldInt64S_k1 : C :=
  .norm [0, 1, 5] [] laws_heldInt64S_k0
def laws_heldInt64S_k2 : C :=
  .seq (.reg false [⟨some 20, false, .mv (.t 1), none⟩, ⟨some 4, false, .asg (.t 20), none⟩] [4] []) .ret
def laws_heldInt64S_ir : Fn := { np := 2, io := [], res := [.t 4], own := [false], body :=
  (.seq (.reg false [⟨some 4, false, .asg (.c (.int .i64 0)), none⟩] [0, 1] []) (.seq (.seq (.reg false [⟨some 5, false, .asg (.c (.int .i64 0)), none⟩] [0, 1, 5] []) (.block 0 (.loop laws_heldInt64S_k1))) laws_heldInt64S_k2)) }
noncomputable def laws_heldInt64S_D : List (Nat × Callee) := []
def laws_heldInt64S_H : List (Nat × ET) := [(7, (.one (.int .i64))), (12, (.one (.int .i64)))]
noncomputable def laws_heldInt64S_c : Callee := mkCallee laws_heldInt64S_D laws_heldInt64S_H laws_heldInt64S_ir [.d (.one (.sl (.one (.int .i64)))), .d (.one (.int .i64))] [.d (.one (.int .i64))] []
noncomputable def laws_heldInt64S (a0 : List Int) (a1 : Int) : Option (Int) := laws_heldInt64S_c.f (a0, a1, ())
noncomputable def laws_heldInt64S_p0  (v0 : List Int) (v1 : Int) (v5 : Int) : Option (Int) :=
  goL laws_heldInt64S_D laws_heldInt64S_H (vleave laws_heldInt64S_ir [.d (.one (.sl (.one (.int .i64)))), .d (.one (.int .i64))] [.d (.one (.int .i64))] [] []) [.c laws_heldInt64S_k0, .l laws_heldInt64S_k1, .e 0, .c laws_heldInt64S_k2]
    ⟨[(0, .sl (.one (.int .i64)) v0), (1, .int .i64 v1), (5, .int .i64 v5)], []⟩
theorem laws_heldInt64S_eq (a0 : List Int) (a1 : Int) : laws_heldInt64S a0 a1 =
    laws_heldInt64S_p0 a0 a1 0 :=
  (mk_f _ _ _ _ _ _ _ 4000).trans (by kernel_rfl)
theorem laws_heldInt64S_p0_eq  (v0 : List Int) (v1 : Int) (v5 : Int) : laws_heldInt64S_p0 v0 v1 v5 =
    if decide (v5 < (v0.length : Int)) then
      if decide (0 ≤ v5) then
        (v0[v5.toNat]?).bind fun x1 =>
          if (x1 != v1) then
            some (-1)
          else
            laws_heldInt64S_p0 v0 (IntKind.i64.wrap (v1 + 1)) (IntKind.i64.wrap (v5 + 1))
      else
        none
    else
      some v1 :=
  (goL_dn _ _ _ 4000 _ _).trans (by kernel_rfl)

/- laws.FnExactCountProblems -/
def laws_FnExactCountProblems_k0 : C :=
  .seq (.reg false [⟨some 8, false, .asg (.c (.int .i64 1)), none⟩] [0, 4, 6, 8] [4, 6]) (.seq (.reg false [⟨some 43, false, .mv (.t 6), none⟩, ⟨some 44, false, .mv (.t 8), none⟩, ⟨some 45, true, .call (.c (.fn 45 [])) [.t 43, .t 44], none⟩, ⟨some 8, false, .asg (.t 45), none⟩] [0, 4, 6, 8] [4, 6]) (.seq (.reg false [⟨some 9, false, .asg (.c (.int .i64 1)), none⟩] [0, 4, 6, 8, 9] [4, 6]) (.seq (.reg false [⟨some 46, false, .mv (.t 6), none⟩, ⟨some 47, false, .mv (.t 9), none⟩, ⟨some 48, false, .call (.c (.fn 41 [])) [.t 46, .t 47], none⟩, ⟨some 9, false, .asg (.t 48), none⟩] [0, 4, 6, 8, 9] [4, 6]) (.seq (.seq (.reg false [⟨some 49, false, .mv (.t 9), none⟩, ⟨some 50, false, .bin .lss (.t 49) (.c (.int .i64 0)), none⟩] [0, 4, 6, 8, 9, 50] [4, 6]) (.cond (.t 50) (.seq (.reg false [⟨some 2, false, .asg (.c (.bool false)), none⟩] [2] []) .ret) .skip)) (.seq (.seq (.reg false [⟨some 51, false, .mv (.t 9), none⟩, ⟨some 52, false, .mv (.t 8), none⟩, ⟨some 53, false, .bin .neq (.t 51) (.t 52), none⟩] [0, 4, 6, 8, 53] [4, 6]) (.cond (.t 53) (.seq (.reg false [⟨some 2, false, .asg (.c (.bool false)), none⟩] [2] []) .ret) .skip)) (.seq (.reg false [⟨some 54, false, .mv (.t 0), none⟩, ⟨some 55, false, .call (.c (.fn 43 [])) [.t 54], none⟩, ⟨some 56, false, .call (.c (.fn 44 [])) [.t 55], none⟩, ⟨some 10, true, .asg (.t 56), none⟩] [4, 6, 8, 10] [4, 6, 10]) (.seq (.seq (.reg false [⟨some 57, false, .mv (.t 10), none⟩, ⟨some 58, false, .mv (.t 4), none⟩, ⟨some 59, false, .call (.c (.fn 42 [])) [.t 57, .t 58], none⟩, ⟨some 60, false, .un .not (.t 59), none⟩] [6, 8, 60] [6]) (.cond (.t 60) (.seq (.reg false [⟨some 2, false, .asg (.c (.bool false)), none⟩] [2] []) .ret) .skip)) (.seq (.reg false [⟨some 9, false, .asg (.c (.int .i64 1)), none⟩] [6, 8, 9] [6]) (.seq (.reg false [⟨some 61, false, .mv (.t 6), none⟩, ⟨some 62, false, .mv (.t 9), none⟩, ⟨some 63, false, .call (.c (.fn 41 [])) [.t 61, .t 62], none⟩, ⟨some 9, false, .asg (.t 63), none⟩] [8, 9] []) (.seq (.seq (.reg false [⟨some 64, false, .mv (.t 9), none⟩, ⟨some 65, false, .bin .lss (.t 64) (.c (.int .i64 0)), none⟩] [8, 9, 65] []) (.cond (.t 65) (.seq (.reg false [⟨some 2, false, .asg (.c (.bool false)), none⟩] [2] []) .ret) .skip)) (.seq (.seq (.reg false [⟨some 66, false, .mv (.t 9), none⟩, ⟨some 67, false, .mv (.t 8), none⟩, ⟨some 68, false, .bin .neq (.t 66) (.t 67), none⟩] [68] []) (.cond (.t 68) (.seq (.reg false [⟨some 2, false, .asg (.c (.bool false)), none⟩] [2] []) .ret) .skip)) (.seq (.reg false [⟨some 2, false, .asg (.c (.bool true)), none⟩] [2] []) .ret))))))))))))
def laws_FnExactCountProblems_ir : Fn := { np := 1, io := [], res := [.t 2], own := [false], body :=
  (.seq (.reg false [⟨some 2, false, .asg (.c (.bool false)), none⟩] [0] []) (.seq (.reg false [⟨some 3, false, .asg (.c (.int .i64 1048576)), none⟩] [0, 3] []) (.seq (.reg false [⟨some 11, false, .mv (.t 0), none⟩, ⟨some 12, false, .mv (.t 3), none⟩, ⟨some 13, false, .call (.c (.fn 49 [])) [.t 11, .t 12], none⟩, ⟨some 3, false, .asg (.t 13), none⟩] [0, 3] []) (.seq (.seq (.reg false [⟨some 14, false, .mv (.t 3), none⟩, ⟨some 15, false, .bin .lss (.t 14) (.c (.int .i64 0)), none⟩] [0, 15] []) (.cond (.t 15) (.seq (.reg false [⟨some 2, false, .asg (.c (.bool true)), none⟩] [2] []) .ret) .skip)) (.seq (.reg false [⟨some 16, false, .mv (.t 0), none⟩, ⟨some 17, false, .call (.c (.fn 43 [])) [.t 16], none⟩, ⟨some 18, false, .call (.c (.fn 48 [])) [.t 17], none⟩, ⟨some 4, true, .asg (.t 18), none⟩] [0, 4] [4]) (.seq (.reg false [⟨some 19, false, .mv (.t 0), none⟩, ⟨some 20, false, .call (.c (.fn 43 [])) [.t 19], none⟩, ⟨some 5, true, .asg (.t 20), none⟩] [0, 4, 5] [4, 5]) (.seq (.reg false [⟨some 21, false, .mv (.t 5), none⟩, ⟨some 22, false, .call (.c (.fn 44 [])) [.t 21], none⟩, ⟨some 6, true, .asg (.t 22), none⟩] [0, 4, 5, 6] [4, 5, 6]) (.seq (.seq (.reg false [⟨some 23, false, .mv (.t 6), none⟩, ⟨some 24, false, .mv (.t 4), none⟩, ⟨some 25, false, .call (.c (.fn 42 [])) [.t 23, .t 24], none⟩, ⟨some 26, false, .un .not (.t 25), none⟩] [0, 4, 5, 6, 26] [4, 5, 6]) (.cond (.t 26) (.seq (.reg false [⟨some 2, false, .asg (.c (.bool false)), none⟩] [2] []) .ret) .skip)) (.seq (.seq (.reg false [⟨some 27, false, .mv (.t 5), none⟩, ⟨some 28, false, .mv (.t 0), none⟩, ⟨some 29, false, .call (.c (.fn 43 [])) [.t 28], none⟩, ⟨some 30, false, .call (.c (.fn 47 [])) [.t 27, .t 29], none⟩, ⟨some 31, false, .un .not (.t 30), none⟩] [0, 4, 5, 6, 31] [4, 5, 6]) (.cond (.t 31) (.seq (.reg false [⟨some 2, false, .asg (.c (.bool false)), none⟩] [2] []) .ret) .skip)) (.seq (.reg false [⟨some 7, false, .asg (.c (.int .i64 1)), none⟩] [0, 4, 5, 6, 7] [4, 5, 6]) (.seq (.reg false [⟨some 32, false, .mv (.t 5), none⟩, ⟨some 33, false, .mv (.t 7), none⟩, ⟨some 34, true, .call (.c (.fn 46 [])) [.t 32, .t 33], none⟩, ⟨some 7, false, .asg (.t 34), none⟩] [0, 4, 6, 7] [4, 6]) (.seq (.seq (.reg false [⟨some 35, false, .mv (.t 7), none⟩, ⟨some 36, false, .bin .lss (.t 35) (.c (.int .i64 0)), none⟩, ⟨some 37, false, .mv (.t 36), none⟩, ⟨some 38, false, .mv (.t 6), some (2, false)⟩, ⟨some 39, false, .mv (.t 4), some (2, false)⟩, ⟨some 40, false, .call (.c (.fn 42 [])) [.t 38, .t 39], some (2, false)⟩, ⟨some 41, false, .un .not (.t 40), some (2, false)⟩, ⟨some 42, false, .pick (.t 37) (.c (.bool true)) (.t 41), none⟩] [0, 4, 6, 42] [4, 6]) (.cond (.t 42) (.seq (.reg false [⟨some 2, false, .asg (.c (.bool false)), none⟩] [2] []) .ret) .skip)) (.norm [0, 4, 6] [4, 6] laws_FnExactCountProblems_k0))))))))))))) }
noncomputable def laws_FnExactCountProblems_D : List (Nat × Callee) := [(41, laws_heldInt64S_c), (42, laws_eqInt64S_c), (43, laws_toProblemS_c), (44, impl_CountProblems_c), (45, laws_markInt64S_c), (46, laws_markProblemS_c), (47, laws_eqProblemS_c), (48, spec_CountProblems_c), (49, laws_szProblemS_c)]
def laws_FnExactCountProblems_H : List (Nat × ET) := [(4, (.one (.int .i64))), (5, T_Problem), (6, (.one (.int .i64))), (10, (.one (.int .i64))), (11, T_Problem), (16, T_Problem), (17, T_Problem), (18, (.one (.int .i64))), (19, T_Problem), (20, T_Problem), (21, T_Problem), (22, (.one (.int .i64))), (23, (.one (.int .i64))), (24, (.one (.int .i64))), (27, T_Problem), (28, T_Problem), (29, T_Problem), (32, T_Problem), (38, (.one (.int .i64))), (39, (.one (.int .i64))), (43, (.one (.int .i64))), (46, (.one (.int .i64))), (54, T_Problem), (55, T_Problem), (56, (.one (.int .i64))), (57, (.one (.int .i64))), (58, (.one (.int .i64))), (61, (.one (.int .i64)))]
noncomputable def laws_FnExactCountProblems_c : Callee := mkCallee laws_FnExactCountProblems_D laws_FnExactCountProblems_H laws_FnExactCountProblems_ir [.d (.one (.sl T_Problem))] [.d (.one .bool)] []
noncomputable def laws_FnExactCountProblems (a0 : List T_Problem.ty) : Option (Bool) := laws_FnExactCountProblems_c.f (a0, ())
noncomputable def laws_FnExactCountProblems_p0  (v0 : List T_Problem.ty) (r4 : List Int) (r6 : List Int) : Option (Bool) :=
  goL laws_FnExactCountProblems_D laws_FnExactCountProblems_H (vleave laws_FnExactCountProblems_ir [.d (.one (.sl T_Problem))] [.d (.one .bool)] [] []) [.c laws_FnExactCountProblems_k0]
    ⟨[(0, .sl T_Problem v0), (4, .view 4 0 r4.length), (6, .view 6 0 r6.length)], [(4, some (.sl (.one (.int .i64)) r4)), (6, some (.sl (.one (.int .i64)) r6))]⟩
theorem laws_FnExactCountProblems_eq (a0 : List T_Problem.ty) : laws_FnExactCountProblems a0 =
    (laws_szProblemS a0 1048576).bind fun x1 =>
      if decide (x1 < 0) then
        some true
      else
        (laws_toProblemS a0).bind fun x2 =>
          (spec_CountProblems x2).bind fun x3 =>
            (laws_toProblemS a0).bind fun x4 =>
              (impl_CountProblems (x4.take x4.length)).bind fun x5 =>
                (laws_eqInt64S (x5.take x5.length) (x3.take x3.length)).bind fun x6 =>
                  if (!x6) then
                    some false
                  else
                    (laws_toProblemS a0).bind fun x7 =>
                      (laws_eqProblemS (x4.take x4.length) x7).bind fun x8 =>
                        if (!x8) then
                          some false
                        else
                          if decide (x4.length = x4.length) then
                            (laws_markProblemS x4 1).bind fun x9 =>
                              if decide (x9.1 < 0) then
                                some false
                              else
                                (laws_eqInt64S (x5.take x5.length) (x3.take x3.length)).bind fun x10 =>
                                  if (!x10) then
                                    some false
                                  else
                                    laws_FnExactCountProblems_p0 a0 x3 x5
                          else
                            none :=
  (mk_f _ _ _ _ _ _ _ 4000).trans (by kernel_rfl)
theorem laws_FnExactCountProblems_p0_eq  (v0 : List T_Problem.ty) (r4 : List Int) (r6 : List Int) : laws_FnExactCountProblems_p0 v0 r4 r6 =
    if decide (r6.length = r6.length) then
      (laws_markInt64S r6 1).bind fun x1 =>
        (laws_heldInt64S (x1.2.take r6.length) 1).bind fun x2 =>
          if decide (x2 < 0) then
            some false
          else
            if (x2 != x1.1) then
              some false
            else
              (laws_toProblemS v0).bind fun x3 =>
                (impl_CountProblems x3).bind fun x4 =>
                  (laws_eqInt64S (x4.take x4.length) (r4.take r4.length)).bind fun x5 =>
                    if (!x5) then
                      some false
                    else
                      (laws_heldInt64S (x1.2.take r6.length) 1).bind fun x6 =>
                        if decide (x6 < 0) then
                          some false
                        else
                          if (x6 != x1.1) then
                            some false
                          else
                            some true
    else
      none :=
  (goL_dn _ _ _ 4000 _ _).trans (by kernel_rfl)

end Go.Ab.P
