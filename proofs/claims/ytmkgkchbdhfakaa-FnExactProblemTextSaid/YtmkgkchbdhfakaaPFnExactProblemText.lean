/- Functions of the program: abstract forms, and what their runs give. Conditions: none. -/
import Derived.Test.YtmkgkchbdhfakaaL3
set_option maxRecDepth 100000
set_option linter.unusedVariables false
namespace Go.Ab.P
open Go.Ab
@[reducible] def T_Problem : ET := .agg (.cons (.int .i64) (.cons .str (.cons .str .nil)))
/- laws.szProblem -/
def laws_szProblem_ir : Fn := { np := 2, io := [], res := [.t 4], own := [false], body :=
  (.seq (.reg false [⟨some 2, true, .box 3 (.t 0), none⟩, ⟨some 4, false, .asg (.c (.int .i64 0)), none⟩] [1, 2] [2]) (.seq (.reg false [⟨some 5, false, .mv (.t 1), none⟩, ⟨some 6, false, .fa 1 (.t 2), none⟩, ⟨some 7, false, .ld none (.t 6), none⟩, ⟨some 8, false, .lens (.t 7), none⟩, ⟨some 9, false, .bin .sub (.t 5) (.t 8), none⟩, ⟨some 1, false, .asg (.t 9), none⟩] [1, 2] [2]) (.seq (.seq (.reg false [⟨some 10, false, .mv (.t 1), none⟩, ⟨some 11, false, .bin .lss (.t 10) (.c (.int .i64 0)), none⟩] [1, 2, 11] [2]) (.cond (.t 11) (.seq (.reg false [⟨some 4, false, .asg (.c (.int .i64 (-1))), none⟩] [4] []) .ret) .skip)) (.seq (.reg false [⟨some 12, false, .mv (.t 1), none⟩, ⟨some 13, false, .fa 2 (.t 2), none⟩, ⟨some 14, false, .ld none (.t 13), none⟩, ⟨some 15, false, .lens (.t 14), none⟩, ⟨some 16, false, .bin .sub (.t 12) (.t 15), none⟩, ⟨some 1, false, .asg (.t 16), none⟩] [1] []) (.seq (.seq (.reg false [⟨some 17, false, .mv (.t 1), none⟩, ⟨some 18, false, .bin .lss (.t 17) (.c (.int .i64 0)), none⟩] [1, 18] []) (.cond (.t 18) (.seq (.reg false [⟨some 4, false, .asg (.c (.int .i64 (-1))), none⟩] [4] []) .ret) .skip)) (.seq (.reg false [⟨some 19, false, .mv (.t 1), none⟩, ⟨some 4, false, .asg (.t 19), none⟩] [4] []) .ret)))))) }
noncomputable def laws_szProblem_D : List (Nat × Callee) := []
def laws_szProblem_H : List (Nat × ET) := []
noncomputable def laws_szProblem_c : Callee := mkCallee laws_szProblem_D laws_szProblem_H laws_szProblem_ir [.d T_Problem, .d (.one (.int .i64))] [.d (.one (.int .i64))] []
noncomputable def laws_szProblem (a0 : T_Problem.ty) (a1 : Int) : Option (Int) := laws_szProblem_c.f (a0, a1, ())
theorem laws_szProblem_eq (a0 : T_Problem.ty) (a1 : Int) : laws_szProblem a0 a1 =
    if decide (IntKind.i64.wrap (a1 - (a0.2.1.length : Int)) < 0) then
      some (-1)
    else
      if decide (IntKind.i64.wrap ((IntKind.i64.wrap (a1 - (a0.2.1.length : Int))) - (a0.2.2.1.length : Int)) < 0) then
        some (-1)
      else
        some (IntKind.i64.wrap ((IntKind.i64.wrap (a1 - (a0.2.1.length : Int))) - (a0.2.2.1.length : Int))) :=
  (mk_f _ _ _ _ _ _ _ 4000).trans (by kernel_rfl)

/- laws.toProblem -/
def laws_toProblem_ir : Fn := { np := 1, io := [], res := [.cell 2 (some 3)], own := [false], body :=
  (.seq (.reg false [⟨some 1, true, .box 3 (.t 0), none⟩, ⟨some 2, true, .alloc 3 (.agg [.int .i64 0, .str [], .str []]), none⟩] [1, 2] [1, 2]) (.seq (.reg false [⟨some 3, true, .alloc 3 (.agg [.int .i64 0, .str [], .str []]), none⟩] [1, 2, 3] [1, 2, 3]) (.seq (.reg false [⟨some 4, false, .fa 0 (.t 1), none⟩, ⟨some 5, false, .ld none (.t 4), none⟩, ⟨some 6, false, .fa 0 (.t 3), none⟩, ⟨none, true, .sto 1 (.t 6) (.t 5), none⟩] [1, 2, 3] [1, 2, 3]) (.seq (.reg false [⟨some 7, false, .fa 1 (.t 1), none⟩, ⟨some 8, false, .ld none (.t 7), none⟩, ⟨some 9, false, .fa 1 (.t 3), none⟩, ⟨none, true, .sto 1 (.t 9) (.t 8), none⟩] [1, 2, 3] [1, 2, 3]) (.seq (.reg false [⟨some 10, false, .fa 2 (.t 1), none⟩, ⟨some 11, false, .ld none (.t 10), none⟩, ⟨some 12, false, .fa 2 (.t 3), none⟩, ⟨none, true, .sto 1 (.t 12) (.t 11), none⟩] [2, 3] [2, 3]) (.seq (.reg false [⟨some 13, false, .ld (some 3) (.t 3), none⟩, ⟨none, true, .sto 3 (.t 2) (.t 13), none⟩] [2] [2]) .ret)))))) }
noncomputable def laws_toProblem_D : List (Nat × Callee) := []
def laws_toProblem_H : List (Nat × ET) := []
noncomputable def laws_toProblem_c : Callee := mkCallee laws_toProblem_D laws_toProblem_H laws_toProblem_ir [.d T_Problem] [.d T_Problem] []
noncomputable def laws_toProblem (a0 : T_Problem.ty) : Option (T_Problem.ty) := laws_toProblem_c.f (a0, ())
theorem laws_toProblem_eq (a0 : T_Problem.ty) : laws_toProblem a0 =
    some a0 :=
  (mk_f _ _ _ _ _ _ _ 4000).trans (by kernel_rfl)

/- spec.l00In -/
def spec_l00In_ir : Fn := { np := 3, io := [], res := [.t 6], own := [false], body :=
  (.seq (.reg false [⟨some 6, false, .asg (.c (.bool false)), none⟩] [0, 1, 2] []) (.seq (.reg false [⟨some 7, false, .mv (.t 0), none⟩, ⟨some 8, false, .mv (.t 1), none⟩, ⟨some 9, false, .bin .geq (.t 7) (.t 8), none⟩, ⟨some 10, false, .mv (.t 9), none⟩, ⟨some 11, false, .mv (.t 0), some (3, true)⟩, ⟨some 12, false, .mv (.t 2), some (3, true)⟩, ⟨some 13, false, .bin .leq (.t 11) (.t 12), some (3, true)⟩, ⟨some 14, false, .pick (.t 10) (.t 13) (.c (.bool false)), none⟩, ⟨some 6, false, .asg (.t 14), none⟩] [6] []) .ret)) }
noncomputable def spec_l00In_D : List (Nat × Callee) := []
def spec_l00In_H : List (Nat × ET) := []
noncomputable def spec_l00In_c : Callee := mkCallee spec_l00In_D spec_l00In_H spec_l00In_ir [.d (.one (.int .i64)), .d (.one (.int .i64)), .d (.one (.int .i64))] [.d (.one .bool)] []
noncomputable def spec_l00In (a0 : Int) (a1 : Int) (a2 : Int) : Option (Bool) := spec_l00In_c.f (a0, a1, a2, ())
theorem spec_l00In_eq (a0 : Int) (a1 : Int) (a2 : Int) : spec_l00In a0 a1 a2 =
    if decide (a0 ≥ a1) then
      some (decide (a0 ≤ a2))
    else
      some false :=
  (mk_f _ _ _ _ _ _ _ 4000).trans (by kernel_rfl)

/- spec.l31Kind -/
def spec_l31Kind_ir : Fn := { np := 1, io := [], res := [.t 2], own := [false], body :=
  (.seq (.reg false [⟨some 2, false, .asg (.c (.bool false)), none⟩] [0] []) (.seq (.reg false [⟨some 3, false, .mv (.t 0), none⟩, ⟨some 4, false, .call (.c (.fn 1 [])) [.t 3, .c (.int .i64 1), .c (.int .i64 5)], none⟩, ⟨some 2, false, .asg (.t 4), none⟩] [2] []) .ret)) }
noncomputable def spec_l31Kind_D : List (Nat × Callee) := [(1, spec_l00In_c)]
def spec_l31Kind_H : List (Nat × ET) := []
noncomputable def spec_l31Kind_c : Callee := mkCallee spec_l31Kind_D spec_l31Kind_H spec_l31Kind_ir [.d (.one (.int .i64))] [.d (.one .bool)] []
noncomputable def spec_l31Kind (a0 : Int) : Option (Bool) := spec_l31Kind_c.f (a0, ())
theorem spec_l31Kind_eq (a0 : Int) : spec_l31Kind a0 =
    (spec_l00In a0 1 5).bind fun x1 =>
      some x1 :=
  (mk_f _ _ _ _ _ _ _ 4000).trans (by kernel_rfl)

/- spec.l31Names -/
def spec_l31Names_ir : Fn := { np := 0, io := [], res := [.t 0], own := [false], body :=
  (.seq (.reg false [⟨some 0, true, .asg (.c (.nils 1)), none⟩] [] []) (.seq (.reg false [⟨some 1, false, .bsl 1 (.str []) 6 [(0, .c (.str [])), (1, .c (.str [111, 117, 116, 108, 105, 110, 101])), (2, .c (.str [115, 116, 114, 105, 110, 103])), (3, .c (.str [99, 108, 97, 109, 112])), (4, .c (.str [114, 101, 110, 116, 97, 108])), (5, .c (.str [99, 97, 115, 104]))], none⟩, ⟨some 0, true, .asg (.t 1), none⟩] [0] [0]) .ret)) }
noncomputable def spec_l31Names_D : List (Nat × Callee) := []
def spec_l31Names_H : List (Nat × ET) := [(0, (.one .str)), (1, (.one .str))]
noncomputable def spec_l31Names_c : Callee := mkCallee spec_l31Names_D spec_l31Names_H spec_l31Names_ir [] [.d (.one (.sl (.one .str)))] []
noncomputable def spec_l31Names  : Option (List (List UInt8)) := spec_l31Names_c.f (())
theorem spec_l31Names_eq  : spec_l31Names  =
    some [[], [111, 117, 116, 108, 105, 110, 101], [115, 116, 114, 105, 110, 103], [99, 108, 97, 109, 112], [114, 101, 110, 116, 97, 108], [99, 97, 115, 104]] :=
  (mk_f _ _ _ _ _ _ _ 4000).trans (by kernel_rfl)

/- spec.ProblemText -/
def spec_ProblemText_ir : Fn := { np := 1, io := [], res := [.t 2], own := [false], body :=
  (.seq (.reg false [⟨some 1, true, .box 3 (.t 0), none⟩, ⟨some 2, false, .asg (.c (.str [])), none⟩] [1] [1]) (.seq (.seq (.reg false [⟨some 3, false, .fa 0 (.t 1), none⟩, ⟨some 4, false, .ld none (.t 3), none⟩, ⟨some 5, false, .call (.c (.fn 3 [])) [.t 4], none⟩, ⟨some 6, false, .un .not (.t 5), none⟩] [1, 6] [1]) (.cond (.t 6) (.seq (.reg false [⟨some 2, false, .asg (.c (.str [])), none⟩] [2] []) .ret) .skip)) (.seq (.reg true [⟨some 7, false, .call (.c (.fn 2 [])) [], none⟩, ⟨some 8, false, .fa 0 (.t 1), none⟩, ⟨some 9, false, .ld none (.t 8), none⟩, ⟨some 10, false, .ia 1 (.t 7) (.t 9), none⟩, ⟨some 11, false, .ld none (.t 10), none⟩, ⟨some 12, false, .bin .add (.t 11) (.c (.str [32])), none⟩, ⟨some 13, false, .fa 1 (.t 1), none⟩, ⟨some 14, false, .ld none (.t 13), none⟩, ⟨some 15, false, .bin .add (.t 12) (.t 14), none⟩, ⟨some 16, false, .bin .add (.t 15) (.c (.str [32])), none⟩, ⟨some 17, false, .fa 2 (.t 1), none⟩, ⟨some 18, false, .ld none (.t 17), none⟩, ⟨some 19, false, .bin .add (.t 16) (.t 18), none⟩, ⟨some 2, false, .asg (.t 19), none⟩] [2] []) .ret))) }
noncomputable def spec_ProblemText_D : List (Nat × Callee) := [(2, spec_l31Names_c), (3, spec_l31Kind_c)]
def spec_ProblemText_H : List (Nat × ET) := [(7, (.one .str))]
noncomputable def spec_ProblemText_c : Callee := mkCallee spec_ProblemText_D spec_ProblemText_H spec_ProblemText_ir [.d T_Problem] [.d (.one .str)] []
noncomputable def spec_ProblemText (a0 : T_Problem.ty) : Option (List UInt8) := spec_ProblemText_c.f (a0, ())
theorem spec_ProblemText_eq (a0 : T_Problem.ty) : spec_ProblemText a0 =
    (spec_l31Kind a0.1).bind fun x1 =>
      if (!x1) then
        some []
      else
        (spec_l31Names).bind fun x2 =>
          if decide (0 ≤ a0.1) then
            (x2[a0.1.toNat]?).bind fun x3 =>
              if decide (x3.length + [32].length ≤ strMax) then
                if decide ((x3 ++ [32]).length + a0.2.1.length ≤ strMax) then
                  if decide (((x3 ++ [32]) ++ a0.2.1).length + [32].length ≤ strMax) then
                    if decide ((((x3 ++ [32]) ++ a0.2.1) ++ [32]).length + a0.2.2.1.length ≤ strMax) then
                      some ((((x3 ++ [32]) ++ a0.2.1) ++ [32]) ++ a0.2.2.1)
                    else
                      none
                  else
                    none
                else
                  none
              else
                none
          else
            none :=
  (mk_f _ _ _ _ _ _ _ 4000).trans (by kernel_rfl)

/- impl.at -/
def impl_at_ir : Fn := { np := 2, io := [], res := [.t 4], own := [false], body :=
  (.seq (.reg false [⟨some 4, false, .asg (.c (.bool false)), none⟩] [0, 1] []) (.seq (.reg false [⟨some 5, false, .mv (.t 0), none⟩, ⟨some 6, false, .bin .geq (.t 5) (.c (.int .i64 0)), none⟩, ⟨some 7, false, .mv (.t 6), none⟩, ⟨some 8, false, .mv (.t 0), some (2, true)⟩, ⟨some 9, false, .mv (.t 1), some (2, true)⟩, ⟨some 10, false, .bin .lss (.t 8) (.t 9), some (2, true)⟩, ⟨some 11, false, .pick (.t 7) (.t 10) (.c (.bool false)), none⟩, ⟨some 4, false, .asg (.t 11), none⟩] [4] []) .ret)) }
noncomputable def impl_at_D : List (Nat × Callee) := []
def impl_at_H : List (Nat × ET) := []
noncomputable def impl_at_c : Callee := mkCallee impl_at_D impl_at_H impl_at_ir [.d (.one (.int .i64)), .d (.one (.int .i64))] [.d (.one .bool)] []
noncomputable def impl_at (a0 : Int) (a1 : Int) : Option (Bool) := impl_at_c.f (a0, a1, ())
theorem impl_at_eq (a0 : Int) (a1 : Int) : impl_at a0 a1 =
    if decide (a0 ≥ 0) then
      some (decide (a0 < a1))
    else
      some false :=
  (mk_f _ _ _ _ _ _ _ 4000).trans (by kernel_rfl)

/- impl.pick -/
def impl_pick_ir : Fn := { np := 2, io := [], res := [.t 4], own := [false], body :=
  (.seq (.reg false [⟨some 4, false, .asg (.c (.str [])), none⟩] [0, 1] []) (.seq (.seq (.reg false [⟨some 5, false, .mv (.t 0), none⟩, ⟨some 6, false, .mv (.t 1), none⟩, ⟨some 7, false, .len (.t 6), none⟩, ⟨some 8, false, .call (.c (.fn 4 [])) [.t 5, .t 7], none⟩, ⟨some 9, false, .un .not (.t 8), none⟩] [0, 1, 9] []) (.cond (.t 9) (.seq (.reg false [⟨some 4, false, .asg (.c (.str [])), none⟩] [4] []) .ret) .skip)) (.seq (.reg false [⟨some 10, false, .mv (.t 1), none⟩, ⟨some 11, false, .mv (.t 0), none⟩, ⟨some 12, false, .ia 1 (.t 10) (.t 11), none⟩, ⟨some 13, false, .ld none (.t 12), none⟩, ⟨some 4, false, .asg (.t 13), none⟩] [4] []) .ret))) }
noncomputable def impl_pick_D : List (Nat × Callee) := [(4, impl_at_c)]
def impl_pick_H : List (Nat × ET) := [(6, (.one .str)), (10, (.one .str))]
noncomputable def impl_pick_c : Callee := mkCallee impl_pick_D impl_pick_H impl_pick_ir [.d (.one (.int .i64)), .d (.one (.sl (.one .str)))] [.d (.one .str)] []
noncomputable def impl_pick (a0 : Int) (a1 : List (List UInt8)) : Option (List UInt8) := impl_pick_c.f (a0, a1, ())
theorem impl_pick_eq (a0 : Int) (a1 : List (List UInt8)) : impl_pick a0 a1 =
    (impl_at a0 (a1.length : Int)).bind fun x1 =>
      if (!x1) then
        some []
      else
        if decide (0 ≤ a0) then
          (a1[a0.toNat]?).bind fun x2 =>
            some x2
        else
          none :=
  (mk_f _ _ _ _ _ _ _ 4000).trans (by kernel_rfl)

/- impl.ProblemName -/
def impl_ProblemName_ir : Fn := { np := 1, io := [], res := [.t 2], own := [false], body :=
  (.seq (.reg false [⟨some 2, false, .asg (.c (.str [])), none⟩] [0] []) (.seq (.reg false [⟨some 3, false, .mv (.t 0), none⟩, ⟨some 4, false, .bsl 1 (.str []) 6 [(0, .c (.str [])), (1, .c (.str [111, 117, 116, 108, 105, 110, 101])), (2, .c (.str [115, 116, 114, 105, 110, 103])), (3, .c (.str [99, 108, 97, 109, 112])), (4, .c (.str [114, 101, 110, 116, 97, 108])), (5, .c (.str [99, 97, 115, 104]))], none⟩, ⟨some 5, false, .call (.c (.fn 5 [])) [.t 3, .t 4], none⟩, ⟨some 2, false, .asg (.t 5), none⟩] [2] []) .ret)) }
noncomputable def impl_ProblemName_D : List (Nat × Callee) := [(5, impl_pick_c)]
def impl_ProblemName_H : List (Nat × ET) := [(4, (.one .str))]
noncomputable def impl_ProblemName_c : Callee := mkCallee impl_ProblemName_D impl_ProblemName_H impl_ProblemName_ir [.d (.one (.int .i64))] [.d (.one .str)] []
noncomputable def impl_ProblemName (a0 : Int) : Option (List UInt8) := impl_ProblemName_c.f (a0, ())
theorem impl_ProblemName_eq (a0 : Int) : impl_ProblemName a0 =
    (impl_pick a0 [[], [111, 117, 116, 108, 105, 110, 101], [115, 116, 114, 105, 110, 103], [99, 108, 97, 109, 112], [114, 101, 110, 116, 97, 108], [99, 97, 115, 104]]).bind fun x1 =>
      some x1 :=
  (mk_f _ _ _ _ _ _ _ 4000).trans (by kernel_rfl)

/- impl.ProblemText -/
def impl_ProblemText_ir : Fn := { np := 1, io := [], res := [.t 2], own := [false], body :=
  (.seq (.reg false [⟨some 1, true, .box 3 (.t 0), none⟩, ⟨some 2, false, .asg (.c (.str [])), none⟩] [1] [1]) (.seq (.reg false [⟨some 4, false, .fa 0 (.t 1), none⟩, ⟨some 5, false, .ld none (.t 4), none⟩, ⟨some 6, false, .call (.c (.fn 6 [])) [.t 5], none⟩, ⟨some 3, false, .asg (.t 6), none⟩] [1, 3] [1]) (.seq (.seq (.reg false [⟨some 7, false, .mv (.t 3), none⟩, ⟨some 8, false, .bin .eql (.t 7) (.c (.str [])), none⟩] [1, 3, 8] [1]) (.cond (.t 8) (.seq (.reg false [⟨some 2, false, .asg (.c (.str [])), none⟩] [2] []) .ret) .skip)) (.seq (.reg false [⟨some 9, false, .mv (.t 3), none⟩, ⟨some 10, false, .bin .add (.t 9) (.c (.str [32])), none⟩, ⟨some 11, false, .fa 1 (.t 1), none⟩, ⟨some 12, false, .ld none (.t 11), none⟩, ⟨some 13, false, .bin .add (.t 10) (.t 12), none⟩, ⟨some 14, false, .bin .add (.t 13) (.c (.str [32])), none⟩, ⟨some 15, false, .fa 2 (.t 1), none⟩, ⟨some 16, false, .ld none (.t 15), none⟩, ⟨some 17, false, .bin .add (.t 14) (.t 16), none⟩, ⟨some 2, false, .asg (.t 17), none⟩] [2] []) .ret)))) }
noncomputable def impl_ProblemText_D : List (Nat × Callee) := [(6, impl_ProblemName_c)]
def impl_ProblemText_H : List (Nat × ET) := []
noncomputable def impl_ProblemText_c : Callee := mkCallee impl_ProblemText_D impl_ProblemText_H impl_ProblemText_ir [.d T_Problem] [.d (.one .str)] []
noncomputable def impl_ProblemText (a0 : T_Problem.ty) : Option (List UInt8) := impl_ProblemText_c.f (a0, ())
theorem impl_ProblemText_eq (a0 : T_Problem.ty) : impl_ProblemText a0 =
    (impl_ProblemName a0.1).bind fun x1 =>
      if (x1 == []) then
        some []
      else
        if decide (x1.length + [32].length ≤ strMax) then
          if decide ((x1 ++ [32]).length + a0.2.1.length ≤ strMax) then
            if decide (((x1 ++ [32]) ++ a0.2.1).length + [32].length ≤ strMax) then
              if decide ((((x1 ++ [32]) ++ a0.2.1) ++ [32]).length + a0.2.2.1.length ≤ strMax) then
                some ((((x1 ++ [32]) ++ a0.2.1) ++ [32]) ++ a0.2.2.1)
              else
                none
            else
              none
          else
            none
        else
          none :=
  (mk_f _ _ _ _ _ _ _ 4000).trans (by kernel_rfl)

/- laws.FnExactProblemText -/
def laws_FnExactProblemText_ir : Fn := { np := 1, io := [], res := [.t 2], own := [false], body :=
  (.seq (.reg false [⟨some 1, true, .box 3 (.t 0), none⟩, ⟨some 2, false, .asg (.c (.bool false)), none⟩] [1] [1]) (.seq (.reg false [⟨some 3, false, .asg (.c (.int .i64 1048576)), none⟩] [1, 3] [1]) (.seq (.reg false [⟨some 6, false, .ld (some 3) (.t 1), none⟩, ⟨some 7, false, .mv (.t 3), none⟩, ⟨some 8, false, .call (.c (.fn 10 [])) [.t 6, .t 7], none⟩, ⟨some 3, false, .asg (.t 8), none⟩] [1, 3] [1]) (.seq (.seq (.reg false [⟨some 9, false, .mv (.t 3), none⟩, ⟨some 10, false, .bin .lss (.t 9) (.c (.int .i64 0)), none⟩] [1, 10] [1]) (.cond (.t 10) (.seq (.reg false [⟨some 2, false, .asg (.c (.bool true)), none⟩] [2] []) .ret) .skip)) (.seq (.reg false [⟨some 11, false, .ld (some 3) (.t 1), none⟩, ⟨some 12, false, .call (.c (.fn 7 [])) [.t 11], none⟩, ⟨some 13, false, .call (.c (.fn 9 [])) [.t 12], none⟩, ⟨some 4, false, .asg (.t 13), none⟩] [1, 4] [1]) (.seq (.reg false [⟨some 14, false, .ld (some 3) (.t 1), none⟩, ⟨some 15, false, .call (.c (.fn 7 [])) [.t 14], none⟩, ⟨some 16, false, .call (.c (.fn 8 [])) [.t 15], none⟩, ⟨some 5, false, .asg (.t 16), none⟩] [4, 5] []) (.seq (.seq (.reg false [⟨some 17, false, .mv (.t 5), none⟩, ⟨some 18, false, .mv (.t 4), none⟩, ⟨some 19, false, .bin .neq (.t 17) (.t 18), none⟩] [19] []) (.cond (.t 19) (.seq (.reg false [⟨some 2, false, .asg (.c (.bool false)), none⟩] [2] []) .ret) .skip)) (.seq (.reg false [⟨some 2, false, .asg (.c (.bool true)), none⟩] [2] []) .ret)))))))) }
noncomputable def laws_FnExactProblemText_D : List (Nat × Callee) := [(7, laws_toProblem_c), (8, impl_ProblemText_c), (9, spec_ProblemText_c), (10, laws_szProblem_c)]
def laws_FnExactProblemText_H : List (Nat × ET) := []
noncomputable def laws_FnExactProblemText_c : Callee := mkCallee laws_FnExactProblemText_D laws_FnExactProblemText_H laws_FnExactProblemText_ir [.d T_Problem] [.d (.one .bool)] []
noncomputable def laws_FnExactProblemText (a0 : T_Problem.ty) : Option (Bool) := laws_FnExactProblemText_c.f (a0, ())
theorem laws_FnExactProblemText_eq (a0 : T_Problem.ty) : laws_FnExactProblemText a0 =
    (laws_szProblem a0 1048576).bind fun x1 =>
      if decide (x1 < 0) then
        some true
      else
        (laws_toProblem a0).bind fun x2 =>
          (spec_ProblemText x2).bind fun x3 =>
            (laws_toProblem a0).bind fun x4 =>
              (impl_ProblemText x4).bind fun x5 =>
                if (!(x5 == x3)) then
                  some false
                else
                  some true :=
  (mk_f _ _ _ _ _ _ _ 4000).trans (by kernel_rfl)
end Go.Ab.P
