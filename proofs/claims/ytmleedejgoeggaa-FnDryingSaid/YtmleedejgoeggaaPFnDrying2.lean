/- Functions of the program: abstract forms, and what their runs give. Conditions: none. -/
import Derived.Test.YtmleedejgoeggaaPFnDrying1
set_option maxRecDepth 100000
set_option linter.unusedVariables false
namespace Go.Ab.P
open Go.Ab
/- spec.l01Div -/
def spec_l01Div_k0 : C :=
  .seq (.seq (.reg false [⟨some 11, false, .mv (.t 0), none, false, []⟩, ⟨some 12, false, .bin .lss (.t 11) (.c (.int .i64 0)), none, false, []⟩] [0, 1, 12] []) (.cond (.t 12) (.seq (.reg false [⟨some 13, false, .mv (.t 1), none, false, []⟩, ⟨some 14, false, .mv (.t 0), none, false, []⟩, ⟨some 15, false, .bin .mul (.c (.int .i64 2)) (.t 14), none, false, []⟩, ⟨some 16, false, .bin .sub (.t 13) (.t 15), none, false, []⟩, ⟨some 17, false, .mv (.t 1), none, false, []⟩, ⟨some 18, false, .bin .mul (.c (.int .i64 2)) (.t 17), none, false, []⟩, ⟨some 19, false, .bin .quo (.t 16) (.t 18), none, false, []⟩, ⟨some 20, false, .un .neg (.t 19), none, false, []⟩, ⟨some 4, false, .asg (.t 20), none, false, []⟩] [4] []) .ret) .skip)) (.seq (.reg false [⟨some 21, false, .mv (.t 0), none, false, []⟩, ⟨some 22, false, .bin .mul (.c (.int .i64 2)) (.t 21), none, false, []⟩, ⟨some 23, false, .mv (.t 1), none, false, []⟩, ⟨some 24, false, .bin .add (.t 22) (.t 23), none, false, []⟩, ⟨some 25, false, .mv (.t 1), none, false, []⟩, ⟨some 26, false, .bin .mul (.c (.int .i64 2)) (.t 25), none, false, []⟩, ⟨some 27, false, .bin .quo (.t 24) (.t 26), none, false, []⟩, ⟨some 4, false, .asg (.t 27), none, false, []⟩] [4] []) .ret)
def spec_l01Div_ir : Fn := { np := 2, io := [], res := [.t 4], own := [false], body :=
  (.seq (.reg false [⟨some 4, false, .asg (.c (.int .i64 0)), none, false, []⟩] [0, 1] []) (.seq (.seq (.reg false [⟨some 5, false, .mv (.t 1), none, false, []⟩, ⟨some 6, false, .bin .lss (.t 5) (.c (.int .i64 0)), none, false, []⟩] [0, 1, 6] []) (.cond (.t 6) (.seq (.reg false [⟨some 7, false, .mv (.t 0), none, false, []⟩, ⟨some 8, false, .un .neg (.t 7), none, false, []⟩, ⟨some 0, false, .asg (.t 8), none, false, []⟩] [0, 1] []) (.reg false [⟨some 9, false, .mv (.t 1), none, false, []⟩, ⟨some 10, false, .un .neg (.t 9), none, false, []⟩, ⟨some 1, false, .asg (.t 10), none, false, []⟩] [0, 1] [])) .skip)) (.norm [0, 1] [] spec_l01Div_k0))) }
noncomputable def spec_l01Div_D : List (Nat × Callee) := []
def spec_l01Div_H : List (Nat × ET) := []
noncomputable def spec_l01Div_c : Callee := mkCallee spec_l01Div_D spec_l01Div_H spec_l01Div_ir [.d (.one (.int .i64)), .d (.one (.int .i64))] [.d (.one (.int .i64))] []
noncomputable def spec_l01Div (a0 : Int) (a1 : Int) : Option (Int) := spec_l01Div_c.f (a0, a1, ())
noncomputable def spec_l01Div_p0  (v0 : Int) (v1 : Int) : Option (Int) :=
  goL spec_l01Div_D spec_l01Div_H (vleave spec_l01Div_ir [.d (.one (.int .i64)), .d (.one (.int .i64))] [.d (.one (.int .i64))] [] []) [.c spec_l01Div_k0]
    ⟨[(0, .int .i64 v0), (1, .int .i64 v1)], []⟩
theorem spec_l01Div_eq (a0 : Int) (a1 : Int) : spec_l01Div a0 a1 =
    if decide (a1 < 0) then
      spec_l01Div_p0 (IntKind.i64.wrap (0 - a0)) (IntKind.i64.wrap (0 - a1))
    else
      spec_l01Div_p0 a0 a1 :=
  (mk_f _ _ _ _ _ _ _ 4000).trans (by kernel_rfl)
theorem spec_l01Div_p0_eq  (v0 : Int) (v1 : Int) : spec_l01Div_p0 v0 v1 =
    if decide (v0 < 0) then
      if decide (IntKind.i64.wrap (2 * v1) = 0) then
        none
      else
        some (IntKind.i64.wrap (0 - (IntKind.i64.wrap ((IntKind.i64.wrap (v1 - (IntKind.i64.wrap (2 * v0)))).tdiv (IntKind.i64.wrap (2 * v1))))))
    else
      if decide (IntKind.i64.wrap (2 * v1) = 0) then
        none
      else
        some (IntKind.i64.wrap ((IntKind.i64.wrap ((IntKind.i64.wrap (2 * v0)) + v1)).tdiv (IntKind.i64.wrap (2 * v1)))) :=
  (goL_dn _ _ _ 4000 _ _).trans (by kernel_rfl)

/- spec.l01Line -/
def spec_l01Line_k0 : C :=
  .seq (.seq (.reg false [⟨some 20, false, .mv (.t 4), none, false, []⟩, ⟨some 21, false, .mv (.t 2), none, false, []⟩, ⟨some 22, false, .bin .geq (.t 20) (.t 21), none, false, []⟩] [0, 1, 2, 3, 4, 22] []) (.cond (.t 22) (.seq (.reg false [⟨some 23, false, .mv (.t 3), none, false, []⟩, ⟨some 10, false, .asg (.t 23), none, false, []⟩] [10] []) .ret) .skip)) (.seq (.reg false [⟨some 24, false, .mv (.t 1), none, false, []⟩, ⟨some 25, false, .mv (.t 3), none, false, []⟩, ⟨some 26, false, .mv (.t 1), none, false, []⟩, ⟨some 27, false, .bin .sub (.t 25) (.t 26), none, false, []⟩, ⟨some 28, false, .mv (.t 4), none, false, []⟩, ⟨some 29, false, .mv (.t 0), none, false, []⟩, ⟨some 30, false, .bin .sub (.t 28) (.t 29), none, false, []⟩, ⟨some 31, false, .bin .mul (.t 27) (.t 30), none, false, []⟩, ⟨some 32, false, .mv (.t 2), none, false, []⟩, ⟨some 33, false, .mv (.t 0), none, false, []⟩, ⟨some 34, false, .bin .sub (.t 32) (.t 33), none, false, []⟩, ⟨some 35, false, .call (.c (.fn 16 [])) [.t 31, .t 34], none, false, []⟩, ⟨some 36, false, .bin .add (.t 24) (.t 35), none, false, []⟩, ⟨some 10, false, .asg (.t 36), none, false, []⟩] [10] []) .ret)
def spec_l01Line_ir : Fn := { np := 5, io := [], res := [.t 10], own := [false], body :=
  (.seq (.reg false [⟨some 10, false, .asg (.c (.int .i64 0)), none, false, []⟩] [0, 1, 2, 3, 4] []) (.seq (.seq (.reg false [⟨some 11, false, .mv (.t 4), none, false, []⟩, ⟨some 12, false, .mv (.t 0), none, false, []⟩, ⟨some 13, false, .bin .leq (.t 11) (.t 12), none, false, []⟩, ⟨some 14, false, .mv (.t 13), none, false, []⟩, ⟨some 15, false, .mv (.t 2), some (3, false), false, []⟩, ⟨some 16, false, .mv (.t 0), some (3, false), false, []⟩, ⟨some 17, false, .bin .leq (.t 15) (.t 16), some (3, false), false, []⟩, ⟨some 18, false, .pick (.t 14) (.c (.bool true)) (.t 17), none, false, []⟩] [0, 1, 2, 3, 4, 18] []) (.cond (.t 18) (.seq (.reg false [⟨some 19, false, .mv (.t 1), none, false, []⟩, ⟨some 10, false, .asg (.t 19), none, false, []⟩] [10] []) .ret) .skip)) (.norm [0, 1, 2, 3, 4] [] spec_l01Line_k0))) }
noncomputable def spec_l01Line_D : List (Nat × Callee) := [(16, spec_l01Div_c)]
def spec_l01Line_H : List (Nat × ET) := []
noncomputable def spec_l01Line_c : Callee := mkCallee spec_l01Line_D spec_l01Line_H spec_l01Line_ir [.d (.one (.int .i64)), .d (.one (.int .i64)), .d (.one (.int .i64)), .d (.one (.int .i64)), .d (.one (.int .i64))] [.d (.one (.int .i64))] []
noncomputable def spec_l01Line (a0 : Int) (a1 : Int) (a2 : Int) (a3 : Int) (a4 : Int) : Option (Int) := spec_l01Line_c.f (a0, a1, a2, a3, a4, ())
noncomputable def spec_l01Line_p0  (v0 : Int) (v1 : Int) (v2 : Int) (v3 : Int) (v4 : Int) : Option (Int) :=
  goL spec_l01Line_D spec_l01Line_H (vleave spec_l01Line_ir [.d (.one (.int .i64)), .d (.one (.int .i64)), .d (.one (.int .i64)), .d (.one (.int .i64)), .d (.one (.int .i64))] [.d (.one (.int .i64))] [] []) [.c spec_l01Line_k0]
    ⟨[(0, .int .i64 v0), (1, .int .i64 v1), (2, .int .i64 v2), (3, .int .i64 v3), (4, .int .i64 v4)], []⟩
theorem spec_l01Line_eq (a0 : Int) (a1 : Int) (a2 : Int) (a3 : Int) (a4 : Int) : spec_l01Line a0 a1 a2 a3 a4 =
    if decide (a4 ≤ a0) then
      some a1
    else
      if decide (a2 ≤ a0) then
        some a1
      else
        spec_l01Line_p0 a0 a1 a2 a3 a4 :=
  (mk_f _ _ _ _ _ _ _ 4000).trans (by kernel_rfl)
theorem spec_l01Line_p0_eq  (v0 : Int) (v1 : Int) (v2 : Int) (v3 : Int) (v4 : Int) : spec_l01Line_p0 v0 v1 v2 v3 v4 =
    if decide (v4 ≥ v2) then
      some v3
    else
      (spec_l01Div (IntKind.i64.wrap ((IntKind.i64.wrap (v3 - v1)) * (IntKind.i64.wrap (v4 - v0)))) (IntKind.i64.wrap (v2 - v0))).bind fun x1 =>
        some (IntKind.i64.wrap (v1 + x1)) :=
  (goL_dn _ _ _ 4000 _ _).trans (by kernel_rfl)

/- spec.l04Even -/
def spec_l04Even_k0 : C :=
  .seq (.seq (.reg false [⟨some 8, false, .mv (.t 5), none, false, []⟩, ⟨some 9, false, .mv (.t 3), none, false, []⟩, ⟨some 10, false, .len (.t 9), none, false, []⟩, ⟨some 11, false, .bin .lss (.t 8) (.t 10), none, false, []⟩] [0, 3, 4, 5, 11] [3, 4]) (.cond (.t 11) .skip (.exit 0))) (.seq (.block 1 (.seq (.reg false [⟨some 14, false, .mv (.t 0), none, false, []⟩, ⟨some 15, false, .mv (.t 3), none, false, []⟩, ⟨some 16, false, .mv (.t 5), none, false, []⟩, ⟨some 17, false, .ia 1 (.t 15) (.t 16), none, false, []⟩, ⟨some 18, false, .ld none (.t 17), none, false, []⟩, ⟨some 19, false, .bin .leq (.t 14) (.t 18), none, false, []⟩] [0, 3, 4, 5, 19] [3, 4]) (.cond (.t 19) (.seq (.reg true [⟨some 20, false, .mv (.t 3), none, false, []⟩, ⟨some 21, false, .mv (.t 5), none, false, []⟩, ⟨some 22, false, .bin .sub (.t 21) (.c (.int .i64 1)), none, false, []⟩, ⟨some 23, false, .ia 1 (.t 20) (.t 22), none, false, []⟩, ⟨some 24, false, .ld none (.t 23), none, false, []⟩, ⟨some 25, false, .mv (.t 4), none, false, []⟩, ⟨some 26, false, .mv (.t 5), none, false, []⟩, ⟨some 27, false, .bin .sub (.t 26) (.c (.int .i64 1)), none, false, []⟩, ⟨some 28, false, .ia 1 (.t 25) (.t 27), none, false, []⟩, ⟨some 29, false, .ld none (.t 28), none, false, []⟩, ⟨some 30, false, .mv (.t 3), none, false, []⟩, ⟨some 31, false, .mv (.t 5), none, false, []⟩, ⟨some 32, false, .ia 1 (.t 30) (.t 31), none, false, []⟩, ⟨some 33, false, .ld none (.t 32), none, false, []⟩, ⟨some 34, false, .mv (.t 4), none, false, []⟩, ⟨some 35, false, .mv (.t 5), none, false, []⟩, ⟨some 36, false, .ia 1 (.t 34) (.t 35), none, false, []⟩, ⟨some 37, false, .ld none (.t 36), none, false, []⟩, ⟨some 38, false, .mv (.t 0), none, false, []⟩, ⟨some 39, false, .call (.c (.fn 853 [])) [.t 24, .t 29, .t 33, .t 37, .t 38], none, false, []⟩, ⟨some 2, false, .asg (.t 39), none, false, []⟩] [2] []) .ret) .skip))) (.reg false [⟨some 12, false, .mv (.t 5), none, false, []⟩, ⟨some 13, false, .bin .add (.t 12) (.c (.int .i64 1)), none, false, []⟩, ⟨some 5, false, .asg (.t 13), none, false, []⟩] [0, 3, 4, 5] [3, 4]))
def spec_l04Even_k1 : C :=
  .norm [0, 3, 4, 5] [3, 4] spec_l04Even_k0
def spec_l04Even_k2 : C :=
  .seq (.reg false [⟨some 2, false, .asg (.c (.int .i64 280)), none, false, []⟩] [2] []) .ret
def spec_l04Even_ir : Fn := { np := 1, io := [], res := [.t 2], own := [false], body :=
  (.seq (.reg false [⟨some 2, false, .asg (.c (.int .i64 0)), none, false, []⟩] [0] []) (.seq (.reg false [⟨some 6, false, .bsl 1 (.int .i64 0) 5 [(0, .c (.int .i64 0)), (1, .c (.int .i64 300)), (2, .c (.int .i64 600)), (3, .c (.int .i64 800)), (4, .c (.int .i64 1000))], none, false, []⟩, ⟨some 3, true, .asg (.t 6), none, false, []⟩] [0, 3] [3]) (.seq (.reg false [⟨some 7, false, .bsl 1 (.int .i64 0) 5 [(0, .c (.int .i64 0)), (1, .c (.int .i64 60)), (2, .c (.int .i64 110)), (3, .c (.int .i64 160)), (4, .c (.int .i64 280))], none, false, []⟩, ⟨some 4, true, .asg (.t 7), none, false, []⟩] [0, 3, 4] [3, 4]) (.seq (.seq (.reg false [⟨some 5, false, .asg (.c (.int .i64 1)), none, false, []⟩] [0, 3, 4, 5] [3, 4]) (.block 0 (.loop spec_l04Even_k1))) spec_l04Even_k2)))) }
noncomputable def spec_l04Even_D : List (Nat × Callee) := [(853, spec_l01Line_c)]
def spec_l04Even_H : List (Nat × ET) := [(3, (.one (.int .i64))), (4, (.one (.int .i64))), (6, (.one (.int .i64))), (7, (.one (.int .i64))), (9, (.one (.int .i64))), (15, (.one (.int .i64))), (20, (.one (.int .i64))), (25, (.one (.int .i64))), (30, (.one (.int .i64))), (34, (.one (.int .i64)))]
noncomputable def spec_l04Even_c : Callee := mkCallee spec_l04Even_D spec_l04Even_H spec_l04Even_ir [.d (.one (.int .i64))] [.d (.one (.int .i64))] []
noncomputable def spec_l04Even (a0 : Int) : Option (Int) := spec_l04Even_c.f (a0, ())
noncomputable def spec_l04Even_p0  (v0 : Int) (v5 : Int) (r3 : List Int) (r4 : List Int) : Option (Int) :=
  goL spec_l04Even_D spec_l04Even_H (vleave spec_l04Even_ir [.d (.one (.int .i64))] [.d (.one (.int .i64))] [] []) [.c spec_l04Even_k0, .l spec_l04Even_k1, .e 0, .c spec_l04Even_k2]
    ⟨[(0, .int .i64 v0), (3, .view 3 0 r3.length), (4, .view 4 0 r4.length), (5, .int .i64 v5)], [(3, some (.sl (.one (.int .i64)) r3)), (4, some (.sl (.one (.int .i64)) r4))]⟩
theorem spec_l04Even_eq (a0 : Int) : spec_l04Even a0 =
    spec_l04Even_p0 a0 1 [0, 300, 600, 800, 1000] [0, 60, 110, 160, 280] :=
  (mk_f _ _ _ _ _ _ _ 4000).trans (by kernel_rfl)
theorem spec_l04Even_p0_eq  (v0 : Int) (v5 : Int) (r3 : List Int) (r4 : List Int) : spec_l04Even_p0 v0 v5 r3 r4 =
    if decide (v5 < (r3.length : Int)) then
      if decide (0 ≤ v5) && decide (v5 < (r3.length : Int)) then
        (r3[v5.toNat]?).bind fun x1 =>
          if decide (v0 ≤ x1) then
            if decide (0 ≤ IntKind.i64.wrap (v5 - 1)) && decide (IntKind.i64.wrap (v5 - 1) < (r3.length : Int)) then
              (r3[(IntKind.i64.wrap (v5 - 1)).toNat]?).bind fun x2 =>
                if decide (0 ≤ IntKind.i64.wrap (v5 - 1)) && decide (IntKind.i64.wrap (v5 - 1) < (r4.length : Int)) then
                  (r4[(IntKind.i64.wrap (v5 - 1)).toNat]?).bind fun x3 =>
                    if decide (0 ≤ v5) && decide (v5 < (r3.length : Int)) then
                      (r3[v5.toNat]?).bind fun x4 =>
                        if decide (0 ≤ v5) && decide (v5 < (r4.length : Int)) then
                          (r4[v5.toNat]?).bind fun x5 =>
                            (spec_l01Line x2 x3 x4 x5 v0).bind fun x6 =>
                              some x6
                        else
                          none
                    else
                      none
                else
                  none
            else
              none
          else
            spec_l04Even_p0 v0 (IntKind.i64.wrap (v5 + 1)) r3 r4
      else
        none
    else
      some 280 :=
  (goL_dn _ _ _ 4000 _ _).trans (by kernel_rfl)

/- spec.l04Change -/
def spec_l04Change_ir : Fn := { np := 3, io := [], res := [.t 6], own := [false], body :=
  (.seq (.reg false [⟨some 6, false, .asg (.c (.int .i64 0)), none, false, []⟩] [0, 1, 2] []) (.seq (.reg false [⟨some 7, false, .mv (.t 1), none, false, []⟩, ⟨some 8, false, .mv (.t 0), none, false, []⟩, ⟨some 9, false, .bin .sub (.t 7) (.t 8), none, false, []⟩, ⟨some 10, false, .bin .mul (.c (.int .i64 20)) (.t 9), none, false, []⟩, ⟨some 11, false, .mv (.t 2), none, false, []⟩, ⟨some 12, false, .bin .add (.t 11) (.c (.int .i64 20)), none, false, []⟩, ⟨some 13, false, .call (.c (.fn 16 [])) [.t 10, .t 12], none, false, []⟩, ⟨some 6, false, .asg (.t 13), none, false, []⟩] [6] []) .ret)) }
noncomputable def spec_l04Change_D : List (Nat × Callee) := [(16, spec_l01Div_c)]
def spec_l04Change_H : List (Nat × ET) := []
noncomputable def spec_l04Change_c : Callee := mkCallee spec_l04Change_D spec_l04Change_H spec_l04Change_ir [.d (.one (.int .i64)), .d (.one (.int .i64)), .d (.one (.int .i64))] [.d (.one (.int .i64))] []
noncomputable def spec_l04Change (a0 : Int) (a1 : Int) (a2 : Int) : Option (Int) := spec_l04Change_c.f (a0, a1, a2, ())
theorem spec_l04Change_eq (a0 : Int) (a1 : Int) (a2 : Int) : spec_l04Change a0 a1 a2 =
    (spec_l01Div (IntKind.i64.wrap (20 * (IntKind.i64.wrap (a1 - a0)))) (IntKind.i64.wrap (a2 + 20))).bind fun x1 =>
      some x1 :=
  (mk_f _ _ _ _ _ _ _ 4000).trans (by kernel_rfl)

/- spec.l04After -/
def spec_l04After_k0 : C :=
  .seq (.seq (.reg false [⟨some 11, false, .mv (.t 9), none, false, []⟩, ⟨some 12, false, .mv (.t 3), none, false, []⟩, ⟨some 13, false, .bin .lss (.t 11) (.t 12), none, false, []⟩] [0, 1, 2, 3, 9, 13] []) (.cond (.t 13) .skip (.exit 0))) (.seq (.block 1 (.seq (.reg false [⟨some 16, false, .mv (.t 0), none, false, []⟩, ⟨some 17, false, .mv (.t 1), none, false, []⟩, ⟨some 18, false, .mv (.t 2), none, false, []⟩, ⟨some 19, false, .call (.c (.fn 852 [])) [.t 16, .t 17, .t 18], none, false, []⟩, ⟨some 10, false, .asg (.t 19), none, false, []⟩] [0, 1, 2, 3, 9, 10] []) (.seq (.seq (.reg false [⟨some 20, false, .mv (.t 10), none, false, []⟩, ⟨some 21, false, .bin .eql (.t 20) (.c (.int .i64 0)), none, false, []⟩] [0, 1, 2, 3, 9, 10, 21] []) (.cond (.t 21) (.exit 0) .skip)) (.reg false [⟨some 22, false, .mv (.t 0), none, false, []⟩, ⟨some 23, false, .mv (.t 10), none, false, []⟩, ⟨some 24, false, .bin .add (.t 22) (.t 23), none, false, []⟩, ⟨some 0, false, .asg (.t 24), none, false, []⟩] [0, 1, 2, 3, 9] [])))) (.reg false [⟨some 14, false, .mv (.t 9), none, false, []⟩, ⟨some 15, false, .bin .add (.t 14) (.c (.int .i64 1)), none, false, []⟩, ⟨some 9, false, .asg (.t 15), none, false, []⟩] [0, 1, 2, 3, 9] []))
def spec_l04After_k1 : C :=
  .norm [0, 1, 2, 3, 9] [] spec_l04After_k0
def spec_l04After_k2 : C :=
  .seq (.reg false [⟨some 25, false, .mv (.t 0), none, false, []⟩, ⟨some 8, false, .asg (.t 25), none, false, []⟩] [8] []) .ret
def spec_l04After_ir : Fn := { np := 4, io := [], res := [.t 8], own := [false], body :=
  (.seq (.reg false [⟨some 8, false, .asg (.c (.int .i64 0)), none, false, []⟩] [0, 1, 2, 3] []) (.seq (.seq (.reg false [⟨some 9, false, .asg (.c (.int .i64 0)), none, false, []⟩] [0, 1, 2, 3, 9] []) (.block 0 (.loop spec_l04After_k1))) spec_l04After_k2)) }
noncomputable def spec_l04After_D : List (Nat × Callee) := [(852, spec_l04Change_c)]
def spec_l04After_H : List (Nat × ET) := []
noncomputable def spec_l04After_c : Callee := mkCallee spec_l04After_D spec_l04After_H spec_l04After_ir [.d (.one (.int .i64)), .d (.one (.int .i64)), .d (.one (.int .i64)), .d (.one (.int .i64))] [.d (.one (.int .i64))] []
noncomputable def spec_l04After (a0 : Int) (a1 : Int) (a2 : Int) (a3 : Int) : Option (Int) := spec_l04After_c.f (a0, a1, a2, a3, ())
noncomputable def spec_l04After_p0  (v0 : Int) (v1 : Int) (v2 : Int) (v3 : Int) (v9 : Int) : Option (Int) :=
  goL spec_l04After_D spec_l04After_H (vleave spec_l04After_ir [.d (.one (.int .i64)), .d (.one (.int .i64)), .d (.one (.int .i64)), .d (.one (.int .i64))] [.d (.one (.int .i64))] [] []) [.c spec_l04After_k0, .l spec_l04After_k1, .e 0, .c spec_l04After_k2]
    ⟨[(0, .int .i64 v0), (1, .int .i64 v1), (2, .int .i64 v2), (3, .int .i64 v3), (9, .int .i64 v9)], []⟩
theorem spec_l04After_eq (a0 : Int) (a1 : Int) (a2 : Int) (a3 : Int) : spec_l04After a0 a1 a2 a3 =
    spec_l04After_p0 a0 a1 a2 a3 0 :=
  (mk_f _ _ _ _ _ _ _ 4000).trans (by kernel_rfl)
theorem spec_l04After_p0_eq  (v0 : Int) (v1 : Int) (v2 : Int) (v3 : Int) (v9 : Int) : spec_l04After_p0 v0 v1 v2 v3 v9 =
    if decide (v9 < v3) then
      (spec_l04Change v0 v1 v2).bind fun x1 =>
        if (x1 == 0) then
          some v0
        else
          spec_l04After_p0 (IntKind.i64.wrap (v0 + x1)) v1 v2 v3 (IntKind.i64.wrap (v9 + 1))
    else
      some v0 :=
  (goL_dn _ _ _ 4000 _ _).trans (by kernel_rfl)

/- spec.MoistureAfter -/
def spec_MoistureAfter_k0 : C :=
  .seq (.reg true [⟨some 18, false, .fa 1 (.t 3), none, false, []⟩, ⟨some 19, false, .ld none (.t 18), none, false, []⟩, ⟨some 20, false, .mv (.t 1), none, false, []⟩, ⟨some 21, false, .call (.c (.fn 488 [])) [.t 20], none, false, []⟩, ⟨some 22, false, .fa 2 (.t 3), none, false, []⟩, ⟨some 23, false, .ld none (.t 22), none, false, []⟩, ⟨some 24, false, .mv (.t 2), none, false, []⟩, ⟨some 25, false, .call (.c (.fn 489 [])) [.t 19, .t 21, .t 23, .t 24], none, false, []⟩, ⟨some 6, false, .asg (.t 25), none, false, []⟩, ⟨some 7, false, .asg (.c (.int .i64 0)), none, false, []⟩] [6, 7] []) .ret
def spec_MoistureAfter_ir : Fn := { np := 3, io := [], res := [.t 6, .t 7], own := [false, false], body :=
  (.seq (.reg false [⟨some 3, true, .box 4 (.t 0), none, false, []⟩, ⟨some 6, false, .asg (.c (.int .i64 0)), none, false, []⟩, ⟨some 7, false, .asg (.c (.int .i64 0)), none, false, []⟩] [1, 2, 3] [3]) (.seq (.seq (.reg false [⟨some 8, false, .call (.c (.fn 492 [])) [.t 3], none, false, []⟩, ⟨some 9, false, .un .not (.t 8), none, false, []⟩] [1, 2, 3, 9] [3]) (.cond (.t 9) (.seq (.reg false [⟨some 6, false, .asg (.c (.int .i64 0)), none, false, []⟩, ⟨some 7, false, .asg (.c (.int .i64 1)), none, false, []⟩] [6, 7] []) .ret) .skip)) (.seq (.seq (.reg false [⟨some 10, false, .mv (.t 1), none, false, []⟩, ⟨some 11, false, .call (.c (.fn 490 [])) [.t 10], none, false, []⟩, ⟨some 12, false, .un .not (.t 11), none, false, []⟩, ⟨some 13, false, .mv (.t 12), none, false, []⟩, ⟨some 14, false, .mv (.t 2), some (3, false), false, []⟩, ⟨some 15, false, .call (.c (.fn 491 [])) [.t 14], some (3, false), false, []⟩, ⟨some 16, false, .un .not (.t 15), some (3, false), false, []⟩, ⟨some 17, false, .pick (.t 13) (.c (.bool true)) (.t 16), none, false, []⟩] [1, 2, 3, 17] [3]) (.cond (.t 17) (.seq (.reg false [⟨some 6, false, .asg (.c (.int .i64 0)), none, false, []⟩, ⟨some 7, false, .asg (.c (.int .i64 2)), none, false, []⟩] [6, 7] []) .ret) .skip)) (.norm [1, 2, 3] [3] spec_MoistureAfter_k0)))) }
noncomputable def spec_MoistureAfter_D : List (Nat × Callee) := [(488, spec_l04Even_c), (489, spec_l04After_c), (490, spec_l04Share_c), (491, spec_l04Days_c), (492, spec_l04One_c)]
def spec_MoistureAfter_H : List (Nat × ET) := []
noncomputable def spec_MoistureAfter_c : Callee := mkCallee spec_MoistureAfter_D spec_MoistureAfter_H spec_MoistureAfter_ir [.d T_Peg, .d (.one (.int .i64)), .d (.one (.int .i64))] [.d (.one (.int .i64)), .d (.one (.int .i64))] []
noncomputable def spec_MoistureAfter (a0 : T_Peg.ty) (a1 : Int) (a2 : Int) : Option (Int × Int) := spec_MoistureAfter_c.f (a0, a1, a2, ())
noncomputable def spec_MoistureAfter_p0  (v1 : Int) (v2 : Int) (r3_0 : List UInt8) (r3_1 : Int) (r3_2 : Int) (r3_3 : Int) : Option (Int × Int) :=
  goL spec_MoistureAfter_D spec_MoistureAfter_H (vleave spec_MoistureAfter_ir [.d T_Peg, .d (.one (.int .i64)), .d (.one (.int .i64))] [.d (.one (.int .i64)), .d (.one (.int .i64))] [] []) [.c spec_MoistureAfter_k0]
    ⟨[(1, .int .i64 v1), (2, .int .i64 v2), (3, .loc 3 0 0)], [(3, some (.var 4 (.agg [.str r3_0, .int .i64 r3_1, .int .i64 r3_2, .int .i64 r3_3])))]⟩
theorem spec_MoistureAfter_eq (a0 : T_Peg.ty) (a1 : Int) (a2 : Int) : spec_MoistureAfter a0 a1 a2 =
    (spec_l04One a0).bind fun x1 =>
      if (!x1) then
        some (0, 1)
      else
        (spec_l04Share a1).bind fun x2 =>
          if (!x2) then
            some (0, 2)
          else
            (spec_l04Days a2).bind fun x3 =>
              if (!x3) then
                some (0, 2)
              else
                spec_MoistureAfter_p0 a1 a2 a0.1 a0.2.1 a0.2.2.1 a0.2.2.2.1 :=
  (mk_f _ _ _ _ _ _ _ 4000).trans (by kernel_rfl)
theorem spec_MoistureAfter_p0_eq  (v1 : Int) (v2 : Int) (r3_0 : List UInt8) (r3_1 : Int) (r3_2 : Int) (r3_3 : Int) : spec_MoistureAfter_p0 v1 v2 r3_0 r3_1 r3_2 r3_3 =
    (spec_l04Even v1).bind fun x1 =>
      (spec_l04After r3_1 x1 r3_2 v2).bind fun x2 =>
        some (x2, 0) :=
  (goL_dn _ _ _ 4000 _ _).trans (by kernel_rfl)

/- laws.FnDrying -/
def laws_FnDrying_k0 : C :=
  .seq (.reg false [⟨some 172, false, .mv (.t 0), none, false, []⟩, ⟨some 173, false, .call (.c (.fn 113 [])) [.t 172], none, false, []⟩, ⟨some 171, false, .mv (.t 173), none, false, []⟩, ⟨some 174, false, .ext (.t 171) 0, none, false, []⟩, ⟨some 175, false, .ext (.t 171) 1, none, false, []⟩, ⟨some 176, false, .ext (.t 171) 2, none, false, []⟩, ⟨some 177, false, .ext (.t 171) 3, none, false, []⟩, ⟨some 23, true, .alloc 4 (.agg [.str [], .int .i64 0, .int .i64 0, .int .i64 0]), none, false, []⟩, ⟨none, true, .sto 4 (.t 23) (.t 174), none, false, []⟩, ⟨some 24, false, .asg (.t 175), none, false, []⟩, ⟨some 25, false, .asg (.t 176), none, false, []⟩, ⟨some 26, false, .asg (.t 177), none, false, []⟩] [23, 24, 25, 26] [23]) (.seq (.reg false [⟨some 179, false, .ld (some 4) (.t 23), none, false, []⟩, ⟨some 180, false, .mv (.t 24), none, false, []⟩, ⟨some 181, false, .mv (.t 25), none, false, []⟩, ⟨some 182, false, .mv (.t 26), none, false, []⟩, ⟨some 183, false, .call (.c (.fn 112 [])) [.t 179, .t 180, .t 181, .t 182], none, false, []⟩, ⟨some 178, false, .mv (.t 183), none, false, []⟩, ⟨some 184, false, .ext (.t 178) 0, none, false, []⟩, ⟨some 185, false, .ext (.t 178) 1, none, false, []⟩, ⟨some 27, false, .asg (.t 184), none, false, []⟩, ⟨some 28, false, .asg (.t 185), none, false, []⟩] [23, 24, 25, 26, 27, 28] [23]) (.seq (.seq (.reg false [⟨some 186, false, .mv (.t 28), none, false, []⟩, ⟨some 187, false, .bin .neq (.t 186) (.c (.int .i64 0)), none, false, []⟩] [23, 24, 25, 26, 27, 187] [23]) (.cond (.t 187) (.seq (.reg false [⟨some 188, false, .mv (.t 27), none, false, []⟩, ⟨some 189, false, .bin .eql (.t 188) (.c (.int .i64 0)), none, false, []⟩, ⟨some 4, false, .asg (.t 189), none, false, []⟩] [4] []) .ret) .skip)) (.seq (.reg false [⟨some 191, false, .ld (some 4) (.t 23), none, false, []⟩, ⟨some 192, false, .mv (.t 24), none, false, []⟩, ⟨some 193, false, .call (.c (.fn 111 [])) [.t 191, .t 192, .c (.int .i64 1)], none, false, []⟩, ⟨some 190, false, .mv (.t 193), none, false, []⟩, ⟨some 194, false, .ext (.t 190) 0, none, false, []⟩, ⟨some 195, false, .ext (.t 190) 1, none, false, []⟩, ⟨some 29, false, .asg (.t 194), none, false, []⟩, ⟨some 30, false, .asg (.t 195), none, false, []⟩] [23, 25, 26, 27, 29, 30] [23]) (.seq (.reg false [⟨some 196, false, .mv (.t 27), none, false, []⟩, ⟨some 197, false, .bin .geq (.t 196) (.c (.int .i64 0)), none, false, []⟩, ⟨some 198, false, .mv (.t 197), none, false, []⟩, ⟨some 199, false, .mv (.t 27), some (2, true), false, []⟩, ⟨some 200, false, .mv (.t 26), some (2, true), false, []⟩, ⟨some 201, false, .bin .leq (.t 199) (.t 200), some (2, true), false, []⟩, ⟨some 202, false, .pick (.t 198) (.t 201) (.c (.bool false)), none, false, []⟩, ⟨some 203, false, .mv (.t 202), none, false, []⟩, ⟨some 204, false, .mv (.t 26), some (7, true), false, []⟩, ⟨some 205, false, .bin .eql (.t 204) (.c (.int .i64 0)), some (7, true), false, []⟩, ⟨some 206, false, .mv (.t 205), some (7, true), false, []⟩, ⟨some 207, false, .mv (.t 30), some (10, false), false, []⟩, ⟨some 208, false, .bin .eql (.t 207) (.c (.int .i64 0)), some (10, false), false, []⟩, ⟨some 209, false, .mv (.t 208), some (10, false), false, []⟩, ⟨some 210, false, .mv (.t 27), some (13, true), false, []⟩, ⟨some 211, false, .bin .gtr (.t 210) (.c (.int .i64 0)), some (13, true), false, []⟩, ⟨some 212, false, .mv (.t 29), some (13, true), false, []⟩, ⟨some 213, false, .fa 1 (.t 23), some (13, true), false, []⟩, ⟨some 214, false, .ld none (.t 213), some (13, true), false, []⟩, ⟨some 215, false, .bin .sub (.t 212) (.t 214), some (13, true), false, []⟩, ⟨some 216, false, .call (.c (.fn 66 [])) [.t 215], some (13, true), false, []⟩, ⟨some 217, false, .mv (.t 25), some (13, true), false, []⟩, ⟨some 218, false, .bin .gtr (.t 216) (.t 217), some (13, true), false, []⟩, ⟨some 219, false, .eqb false (.t 211) (.t 218), some (13, true), false, []⟩, ⟨some 220, false, .pick (.t 209) (.t 219) (.c (.bool false)), some (10, false), false, []⟩, ⟨some 221, false, .pick (.t 206) (.c (.bool true)) (.t 220), some (7, true), false, []⟩, ⟨some 222, false, .pick (.t 203) (.t 221) (.c (.bool false)), none, false, []⟩, ⟨some 4, false, .asg (.t 222), none, false, []⟩] [4] []) .ret))))
def laws_FnDrying_k1 : C :=
  .seq (.reg false [⟨some 122, false, .mv (.t 1), none, false, []⟩, ⟨some 123, false, .call (.c (.fn 116 [])) [.t 122], none, false, []⟩, ⟨some 121, false, .mv (.t 123), none, false, []⟩, ⟨some 124, false, .ext (.t 121) 0, none, false, []⟩, ⟨some 125, false, .ext (.t 121) 1, none, false, []⟩, ⟨some 126, false, .ext (.t 121) 2, none, false, []⟩, ⟨some 14, true, .alloc 4 (.agg [.str [], .int .i64 0, .int .i64 0, .int .i64 0]), none, false, []⟩, ⟨none, true, .sto 4 (.t 14) (.t 124), none, false, []⟩, ⟨some 15, false, .asg (.t 125), none, false, []⟩, ⟨some 16, false, .asg (.t 126), none, false, []⟩] [0, 14, 15, 16] [14]) (.seq (.reg false [⟨some 128, false, .ld (some 4) (.t 14), none, false, []⟩, ⟨some 129, false, .mv (.t 15), none, false, []⟩, ⟨some 130, false, .mv (.t 16), none, false, []⟩, ⟨some 131, false, .call (.c (.fn 115 [])) [.t 128, .t 129, .t 130], none, false, []⟩, ⟨some 127, false, .mv (.t 131), none, false, []⟩, ⟨some 132, false, .ext (.t 127) 0, none, false, []⟩, ⟨some 133, false, .ext (.t 127) 1, none, false, []⟩, ⟨some 17, false, .asg (.t 132), none, false, []⟩, ⟨some 18, false, .asg (.t 133), none, false, []⟩] [0, 14, 15, 16, 17, 18] [14]) (.seq (.seq (.reg false [⟨some 134, false, .mv (.t 18), none, false, []⟩, ⟨some 135, false, .bin .eql (.t 134) (.c (.int .i64 0)), none, false, []⟩] [0, 14, 15, 16, 17, 135] [14]) (.cond (.t 135) (.seq (.reg false [⟨some 137, false, .ld (some 4) (.t 14), none, false, []⟩, ⟨some 138, false, .mv (.t 15), none, false, []⟩, ⟨some 139, false, .mv (.t 17), none, false, []⟩, ⟨some 140, false, .call (.c (.fn 114 [])) [.t 137, .t 138, .t 139], none, false, []⟩, ⟨some 136, false, .mv (.t 140), none, false, []⟩, ⟨some 141, false, .ext (.t 136) 0, none, false, []⟩, ⟨some 142, false, .ext (.t 136) 1, none, false, []⟩, ⟨some 19, false, .asg (.t 141), none, false, []⟩, ⟨some 20, false, .asg (.t 142), none, false, []⟩] [0, 14, 15, 16, 17, 19, 20] [14]) (.seq (.reg false [⟨some 144, false, .ld (some 4) (.t 14), none, false, []⟩, ⟨some 145, false, .mv (.t 15), none, false, []⟩, ⟨some 146, false, .mv (.t 17), none, false, []⟩, ⟨some 147, false, .bin .sub (.t 146) (.c (.int .i64 1)), none, false, []⟩, ⟨some 148, false, .call (.c (.fn 114 [])) [.t 144, .t 145, .t 147], none, false, []⟩, ⟨some 143, false, .mv (.t 148), none, false, []⟩, ⟨some 149, false, .ext (.t 143) 0, none, false, []⟩, ⟨some 150, false, .ext (.t 143) 1, none, false, []⟩, ⟨some 21, false, .asg (.t 149), none, false, []⟩, ⟨some 22, false, .asg (.t 150), none, false, []⟩] [0, 16, 17, 19, 20, 21, 22] []) (.seq (.reg false [⟨some 151, false, .mv (.t 20), none, false, []⟩, ⟨some 152, false, .bin .neq (.t 151) (.c (.int .i64 0)), none, false, []⟩, ⟨some 153, false, .mv (.t 152), none, false, []⟩, ⟨some 154, false, .mv (.t 19), some (2, false), false, []⟩, ⟨some 155, false, .mv (.t 16), some (2, false), false, []⟩, ⟨some 156, false, .bin .gtr (.t 154) (.t 155), some (2, false), false, []⟩, ⟨some 157, false, .pick (.t 153) (.c (.bool true)) (.t 156), none, false, []⟩, ⟨some 158, false, .mv (.t 157), none, false, []⟩, ⟨some 159, false, .mv (.t 17), some (7, false), false, []⟩, ⟨some 160, false, .bin .gtr (.t 159) (.c (.int .i64 0)), some (7, false), false, []⟩, ⟨some 161, false, .mv (.t 160), some (7, false), false, []⟩, ⟨some 162, false, .mv (.t 22), some (10, true), false, []⟩, ⟨some 163, false, .bin .neq (.t 162) (.c (.int .i64 0)), some (10, true), false, []⟩, ⟨some 164, false, .mv (.t 163), some (10, true), false, []⟩, ⟨some 165, false, .mv (.t 21), some (13, false), false, []⟩, ⟨some 166, false, .mv (.t 16), some (13, false), false, []⟩, ⟨some 167, false, .bin .leq (.t 165) (.t 166), some (13, false), false, []⟩, ⟨some 168, false, .pick (.t 164) (.c (.bool true)) (.t 167), some (10, true), false, []⟩, ⟨some 169, false, .pick (.t 161) (.t 168) (.c (.bool false)), some (7, false), false, []⟩, ⟨some 170, false, .pick (.t 158) (.c (.bool true)) (.t 169), none, false, []⟩] [0, 170] []) (.cond (.t 170) (.seq (.reg false [⟨some 4, false, .asg (.c (.bool false)), none, false, []⟩] [4] []) .ret) .skip)))) .skip)) (.norm [0] [] laws_FnDrying_k0)))
def laws_FnDrying_k2 : C :=
  .seq (.reg false [⟨some 38, false, .mv (.t 0), none, false, []⟩, ⟨some 39, false, .call (.c (.fn 119 [])) [.t 38], none, false, []⟩, ⟨some 37, false, .mv (.t 39), none, false, []⟩, ⟨some 40, false, .ext (.t 37) 0, none, false, []⟩, ⟨some 41, false, .ext (.t 37) 1, none, false, []⟩, ⟨some 42, false, .ext (.t 37) 2, none, false, []⟩, ⟨some 5, true, .alloc 4 (.agg [.str [], .int .i64 0, .int .i64 0, .int .i64 0]), none, false, []⟩, ⟨none, true, .sto 4 (.t 5) (.t 40), none, false, []⟩, ⟨some 6, false, .asg (.t 41), none, false, []⟩, ⟨some 7, false, .asg (.t 42), none, false, []⟩] [0, 1, 5, 6, 7] [5]) (.seq (.reg false [⟨some 44, false, .ld (some 4) (.t 5), none, false, []⟩, ⟨some 45, false, .mv (.t 6), none, false, []⟩, ⟨some 46, false, .mv (.t 7), none, false, []⟩, ⟨some 47, false, .call (.c (.fn 114 [])) [.t 44, .t 45, .t 46], none, false, []⟩, ⟨some 43, false, .mv (.t 47), none, false, []⟩, ⟨some 48, false, .ext (.t 43) 0, none, false, []⟩, ⟨some 49, false, .ext (.t 43) 1, none, false, []⟩, ⟨some 8, false, .asg (.t 48), none, false, []⟩, ⟨some 9, false, .asg (.t 49), none, false, []⟩] [0, 1, 5, 6, 7, 8, 9] [5]) (.seq (.reg false [⟨some 51, false, .mv (.t 6), none, false, []⟩, ⟨some 52, false, .call (.c (.fn 118 [])) [.t 51], none, false, []⟩, ⟨some 50, false, .mv (.t 52), none, false, []⟩, ⟨some 53, false, .ext (.t 50) 0, none, false, []⟩, ⟨some 54, false, .ext (.t 50) 1, none, false, []⟩, ⟨some 10, false, .asg (.t 53), none, false, []⟩, ⟨some 11, false, .asg (.t 54), none, false, []⟩] [0, 1, 5, 6, 7, 8, 9, 10, 11] [5]) (.seq (.seq (.reg false [⟨some 55, false, .mv (.t 9), none, false, []⟩, ⟨some 56, false, .bin .eql (.t 55) (.c (.int .i64 0)), none, false, []⟩] [0, 1, 5, 6, 7, 8, 10, 11, 56] [5]) (.cond (.t 56) (.seq (.reg false [⟨some 58, false, .ld (some 4) (.t 5), none, false, []⟩, ⟨some 59, false, .mv (.t 6), none, false, []⟩, ⟨some 60, false, .mv (.t 6), none, false, []⟩, ⟨some 61, false, .bsl 1 (.int .i64 0) 2 [(0, .t 59), (1, .t 60)], none, false, []⟩, ⟨some 62, false, .mv (.t 7), none, false, []⟩, ⟨some 63, false, .call (.c (.fn 117 [])) [.t 58, .t 61, .t 62], none, false, []⟩, ⟨some 57, false, .mv (.t 63), none, false, []⟩, ⟨some 64, false, .ext (.t 57) 0, none, false, []⟩, ⟨some 65, false, .ext (.t 57) 1, none, false, []⟩, ⟨some 12, true, .asg (.t 64), none, false, []⟩, ⟨some 13, false, .asg (.t 65), none, false, []⟩] [0, 1, 5, 8, 10, 11, 12, 13] [5, 12]) (.seq (.reg false [⟨some 66, false, .mv (.t 11), none, false, []⟩, ⟨some 67, false, .bin .neq (.t 66) (.c (.int .i64 0)), none, false, []⟩, ⟨some 68, false, .mv (.t 67), none, false, []⟩, ⟨some 69, false, .mv (.t 10), some (2, false), false, []⟩, ⟨some 70, false, .bin .lss (.t 69) (.c (.int .i64 0)), some (2, false), false, []⟩, ⟨some 71, false, .pick (.t 68) (.c (.bool true)) (.t 70), none, false, []⟩, ⟨some 72, false, .mv (.t 71), none, false, []⟩, ⟨some 73, false, .mv (.t 10), some (6, false), false, []⟩, ⟨some 74, false, .bin .gtr (.t 73) (.c (.int .i64 280)), some (6, false), false, []⟩, ⟨some 75, false, .pick (.t 72) (.c (.bool true)) (.t 74), none, false, []⟩, ⟨some 76, false, .mv (.t 75), none, false, []⟩, ⟨some 77, false, .mv (.t 8), some (10, false), false, []⟩, ⟨some 78, false, .fa 1 (.t 5), some (10, false), false, []⟩, ⟨some 79, false, .ld none (.t 78), some (10, false), false, []⟩, ⟨some 80, false, .mv (.t 10), some (10, false), false, []⟩, ⟨some 81, false, .min [.t 79, .t 80], some (10, false), false, []⟩, ⟨some 82, false, .bin .lss (.t 77) (.t 81), some (10, false), false, []⟩, ⟨some 83, false, .pick (.t 76) (.c (.bool true)) (.t 82), none, false, []⟩, ⟨some 84, false, .mv (.t 83), none, false, []⟩, ⟨some 85, false, .mv (.t 8), some (18, false), false, []⟩, ⟨some 86, false, .fa 1 (.t 5), some (18, false), false, []⟩, ⟨some 87, false, .ld none (.t 86), some (18, false), false, []⟩, ⟨some 88, false, .mv (.t 10), some (18, false), false, []⟩, ⟨some 89, false, .max [.t 87, .t 88], some (18, false), false, []⟩, ⟨some 90, false, .bin .gtr (.t 85) (.t 89), some (18, false), false, []⟩, ⟨some 91, false, .pick (.t 84) (.c (.bool true)) (.t 90), none, false, []⟩, ⟨some 92, false, .mv (.t 91), none, false, []⟩, ⟨some 93, false, .mv (.t 13), some (26, false), false, []⟩, ⟨some 94, false, .bin .neq (.t 93) (.c (.int .i64 0)), some (26, false), false, []⟩, ⟨some 95, false, .pick (.t 92) (.c (.bool true)) (.t 94), none, false, []⟩, ⟨some 96, false, .mv (.t 95), none, false, []⟩, ⟨some 97, false, .mv (.t 12), some (30, false), false, []⟩, ⟨some 98, false, .len (.t 97), some (30, false), false, []⟩, ⟨some 99, false, .bin .neq (.t 98) (.c (.int .i64 2)), some (30, false), false, []⟩, ⟨some 100, false, .pick (.t 96) (.c (.bool true)) (.t 99), none, false, []⟩, ⟨some 101, false, .mv (.t 100), none, false, []⟩, ⟨some 102, false, .mv (.t 12), some (35, false), false, []⟩, ⟨some 103, false, .ia 1 (.t 102) (.c (.int .i64 0)), some (35, false), false, []⟩, ⟨some 104, false, .ld none (.t 103), some (35, false), false, []⟩, ⟨some 105, false, .mv (.t 8), some (35, false), false, []⟩, ⟨some 106, false, .bin .neq (.t 104) (.t 105), some (35, false), false, []⟩, ⟨some 107, false, .pick (.t 101) (.c (.bool true)) (.t 106), none, false, []⟩, ⟨some 108, false, .mv (.t 107), none, false, []⟩, ⟨some 109, false, .mv (.t 12), some (42, false), false, []⟩, ⟨some 110, false, .ia 1 (.t 109) (.c (.int .i64 1)), some (42, false), false, []⟩, ⟨some 111, false, .ld none (.t 110), some (42, false), false, []⟩, ⟨some 112, false, .mv (.t 10), some (42, false), false, []⟩, ⟨some 113, false, .bin .sub (.t 111) (.t 112), some (42, false), false, []⟩, ⟨some 114, false, .call (.c (.fn 66 [])) [.t 113], some (42, false), false, []⟩, ⟨some 115, false, .mv (.t 8), some (42, false), false, []⟩, ⟨some 116, false, .mv (.t 10), some (42, false), false, []⟩, ⟨some 117, false, .bin .sub (.t 115) (.t 116), some (42, false), false, []⟩, ⟨some 118, false, .call (.c (.fn 66 [])) [.t 117], some (42, false), false, []⟩, ⟨some 119, false, .bin .gtr (.t 114) (.t 118), some (42, false), false, []⟩, ⟨some 120, false, .pick (.t 108) (.c (.bool true)) (.t 119), none, false, []⟩] [0, 1, 120] []) (.cond (.t 120) (.seq (.reg false [⟨some 4, false, .asg (.c (.bool false)), none, false, []⟩] [4] []) .ret) .skip))) .skip)) (.norm [0, 1] [] laws_FnDrying_k1))))
def laws_FnDrying_ir : Fn := { np := 2, io := [], res := [.t 4], own := [false], body :=
  (.seq (.reg false [⟨some 4, false, .asg (.c (.bool false)), none, false, []⟩] [0, 1] []) (.seq (.seq (.reg false [⟨some 31, false, .mv (.t 0), none, false, []⟩, ⟨some 32, false, .call (.c (.fn 76 [])) [.t 31], none, false, []⟩, ⟨some 33, false, .mv (.t 32), none, false, []⟩, ⟨some 34, false, .mv (.t 1), some (2, false), false, []⟩, ⟨some 35, false, .call (.c (.fn 76 [])) [.t 34], some (2, false), false, []⟩, ⟨some 36, false, .pick (.t 33) (.c (.bool true)) (.t 35), none, false, []⟩] [0, 1, 36] []) (.cond (.t 36) (.seq (.reg false [⟨some 4, false, .asg (.c (.bool true)), none, false, []⟩] [4] []) .ret) .skip)) (.norm [0, 1] [] laws_FnDrying_k2))) }
noncomputable def laws_FnDrying_D : List (Nat × Callee) := [(66, laws_b10Abs_c), (76, laws_b10Long_c), (111, spec_MoistureAfter_c), (112, impl_CrackDays_c), (113, spec_DrawCrackDays_c), (114, impl_MoistureAfter_c), (115, impl_DaysToDry_c), (116, spec_DrawDaysToDry_c), (117, impl_StagesFor_c), (118, impl_EvenMoisture_c), (119, spec_DrawMoistureAfter_c)]
def laws_FnDrying_H : List (Nat × ET) := [(12, (.one (.int .i64))), (31, (.one (.int .u8))), (34, (.one (.int .u8))), (38, (.one (.int .u8))), (61, (.one (.int .i64))), (64, (.one (.int .i64))), (97, (.one (.int .i64))), (102, (.one (.int .i64))), (109, (.one (.int .i64))), (122, (.one (.int .u8))), (172, (.one (.int .u8)))]
noncomputable def laws_FnDrying_c : Callee := mkCallee laws_FnDrying_D laws_FnDrying_H laws_FnDrying_ir [.d (.one (.sl (.one (.int .u8)))), .d (.one (.sl (.one (.int .u8))))] [.d (.one .bool)] []
noncomputable def laws_FnDrying (a0 : List Int) (a1 : List Int) : Option (Bool) := laws_FnDrying_c.f (a0, a1, ())
noncomputable def laws_FnDrying_p0  (v0 : List Int) (v1 : List Int) : Option (Bool) :=
  goL laws_FnDrying_D laws_FnDrying_H (vleave laws_FnDrying_ir [.d (.one (.sl (.one (.int .u8)))), .d (.one (.sl (.one (.int .u8))))] [.d (.one .bool)] [] []) [.c laws_FnDrying_k2]
    ⟨[(0, .sl (.one (.int .u8)) v0), (1, .sl (.one (.int .u8)) v1)], []⟩
noncomputable def laws_FnDrying_p1  (v0 : List Int) (v1 : List Int) : Option (Bool) :=
  goL laws_FnDrying_D laws_FnDrying_H (vleave laws_FnDrying_ir [.d (.one (.sl (.one (.int .u8)))), .d (.one (.sl (.one (.int .u8))))] [.d (.one .bool)] [] []) [.c laws_FnDrying_k1]
    ⟨[(0, .sl (.one (.int .u8)) v0), (1, .sl (.one (.int .u8)) v1)], []⟩
noncomputable def laws_FnDrying_p2  (v0 : List Int) : Option (Bool) :=
  goL laws_FnDrying_D laws_FnDrying_H (vleave laws_FnDrying_ir [.d (.one (.sl (.one (.int .u8)))), .d (.one (.sl (.one (.int .u8))))] [.d (.one .bool)] [] []) [.c laws_FnDrying_k0]
    ⟨[(0, .sl (.one (.int .u8)) v0)], []⟩
theorem laws_FnDrying_eq (a0 : List Int) (a1 : List Int) : laws_FnDrying a0 a1 =
    (laws_b10Long a0).bind fun x1 =>
      if x1 then
        some true
      else
        (laws_b10Long a1).bind fun x2 =>
          if x2 then
            some true
          else
            laws_FnDrying_p0 a0 a1 :=
  (mk_f _ _ _ _ _ _ _ 4000).trans (by kernel_rfl)
theorem laws_FnDrying_p0_eq  (v0 : List Int) (v1 : List Int) : laws_FnDrying_p0 v0 v1 =
    (spec_DrawMoistureAfter v0).bind fun x1 =>
      (impl_MoistureAfter (x1.1.1, x1.1.2.1, x1.1.2.2.1, x1.1.2.2.2.1, ()) x1.2.1 x1.2.2).bind fun x2 =>
        (impl_EvenMoisture x1.2.1).bind fun x3 =>
          if (x2.2 == 0) then
            (impl_StagesFor (x1.1.1, x1.1.2.1, x1.1.2.2.1, x1.1.2.2.2.1, ()) [x1.2.1, x1.2.1] x1.2.2).bind fun x4 =>
              if (x3.2 != 0) then
                some false
              else
                if decide (x3.1 < 0) then
                  some false
                else
                  if decide (x3.1 > 280) then
                    some false
                  else
                    if decide (x2.1 < (if x3.1 < x1.1.2.1 then x3.1 else x1.1.2.1)) then
                      some false
                    else
                      if decide (x2.1 > (if x3.1 > x1.1.2.1 then x3.1 else x1.1.2.1)) then
                        some false
                      else
                        if (x4.2 != 0) then
                          some false
                        else
                          if ((x4.1.length : Int) != 2) then
                            some false
                          else
                            if decide (0 < (x4.1.length : Int)) then
                              (x4.1[0]?).bind fun x5 =>
                                if (x5 != x2.1) then
                                  some false
                                else
                                  if decide (1 < (x4.1.length : Int)) then
                                    (x4.1[1]?).bind fun x6 =>
                                      (laws_b10Abs (IntKind.i64.wrap (x6 - x3.1))).bind fun x7 =>
                                        (laws_b10Abs (IntKind.i64.wrap (x2.1 - x3.1))).bind fun x8 =>
                                          if decide (x7 > x8) then
                                            some false
                                          else
                                            laws_FnDrying_p1 v0 v1
                                  else
                                    none
                            else
                              none
          else
            laws_FnDrying_p1 v0 v1 :=
  (goL_dn _ _ _ 4000 _ _).trans (by kernel_rfl)
theorem laws_FnDrying_p1_eq  (v0 : List Int) (v1 : List Int) : laws_FnDrying_p1 v0 v1 =
    (spec_DrawDaysToDry v1).bind fun x1 =>
      (impl_DaysToDry (x1.1.1, x1.1.2.1, x1.1.2.2.1, x1.1.2.2.2.1, ()) x1.2.1 x1.2.2).bind fun x2 =>
        if (x2.2 == 0) then
          (impl_MoistureAfter (x1.1.1, x1.1.2.1, x1.1.2.2.1, x1.1.2.2.2.1, ()) x1.2.1 x2.1).bind fun x3 =>
            (impl_MoistureAfter (x1.1.1, x1.1.2.1, x1.1.2.2.1, x1.1.2.2.2.1, ()) x1.2.1 (IntKind.i64.wrap (x2.1 - 1))).bind fun x4 =>
              if (x3.2 != 0) then
                some false
              else
                if decide (x3.1 > x1.2.2) then
                  some false
                else
                  if decide (x2.1 > 0) then
                    if (x4.2 != 0) then
                      some false
                    else
                      if decide (x4.1 ≤ x1.2.2) then
                        some false
                      else
                        laws_FnDrying_p2 v0
                  else
                    laws_FnDrying_p2 v0
        else
          laws_FnDrying_p2 v0 :=
  (goL_dn _ _ _ 4000 _ _).trans (by kernel_rfl)
theorem laws_FnDrying_p2_eq  (v0 : List Int) : laws_FnDrying_p2 v0 =
    (spec_DrawCrackDays v0).bind fun x1 =>
      (impl_CrackDays (x1.1.1, x1.1.2.1, x1.1.2.2.1, x1.1.2.2.2.1, ()) x1.2.1 x1.2.2.1 x1.2.2.2).bind fun x2 =>
        if (x2.2 != 0) then
          some (x2.1 == 0)
        else
          (spec_MoistureAfter (x1.1.1, x1.1.2.1, x1.1.2.2.1, x1.1.2.2.2.1, ()) x1.2.1 1).bind fun x3 =>
            if decide (x2.1 ≥ 0) then
              if decide (x2.1 ≤ x1.2.2.2) then
                if (x1.2.2.2 == 0) then
                  some true
                else
                  if (x3.2 == 0) then
                    (laws_b10Abs (IntKind.i64.wrap (x3.1 - x1.1.2.1))).bind fun x4 =>
                      some (decide (x2.1 > 0) == decide (x4 > x1.2.2.1))
                  else
                    some false
              else
                some false
            else
              some false :=
  (goL_dn _ _ _ 4000 _ _).trans (by kernel_rfl)

end Go.Ab.P
