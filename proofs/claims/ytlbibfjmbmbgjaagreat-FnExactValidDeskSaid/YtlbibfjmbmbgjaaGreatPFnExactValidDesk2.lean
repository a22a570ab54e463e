/- Functions of the program: abstract forms, and what their runs give. Conditions: none. -/
import Derived.Test.YtlbibfjmbmbgjaaGreatPFnExactValidDesk1
set_option maxRecDepth 100000
set_option linter.unusedVariables false
namespace Go.Ab.P
open Go.Ab
/- impl.ValidWorks -/
def impl_ValidWorks_k0 : C :=
  .seq (.reg false [⟨some 8, false, .bin .lss (.t 7) (.t 6), none⟩] [0, 5, 6, 7, 8] []) (.seq (.cond (.t 8) .skip (.exit 0)) (.seq (.block 1 (.seq (.reg false [⟨some 9, false, .mv (.t 7), none⟩, ⟨some 10, false, .ia 4 (.t 5) (.t 7), none⟩, ⟨some 11, false, .ld (some 4) (.t 10), none⟩, ⟨some 4, true, .alloc 4 (.agg [.str [], .int .i64 0, .int .i64 0, .int .i64 0]), none⟩, ⟨some 3, false, .asg (.t 9), none⟩, ⟨none, true, .sto 4 (.t 4) (.t 11), none⟩] [0, 3, 4, 5, 6, 7] [4]) (.seq (.reg true [⟨some 12, false, .ld (some 4) (.t 4), none⟩, ⟨some 13, false, .call (.c (.fn 791 [])) [.t 12], none⟩, ⟨some 14, false, .un .not (.t 13), none⟩, ⟨some 15, false, .mv (.t 14), none⟩, ⟨some 16, false, .mv (.t 3), some (3, false)⟩, ⟨some 17, false, .bin .gtr (.t 16) (.c (.int .i64 0)), some (3, false)⟩, ⟨some 18, false, .mv (.t 17), some (3, false)⟩, ⟨some 19, false, .mv (.t 0), some (6, true)⟩, ⟨some 20, false, .mv (.t 3), some (6, true)⟩, ⟨some 21, false, .bin .sub (.t 20) (.c (.int .i64 1)), some (6, true)⟩, ⟨some 22, false, .ia 4 (.t 19) (.t 21), some (6, true)⟩, ⟨some 23, false, .fa 0 (.t 22), some (6, true)⟩, ⟨some 24, false, .ld none (.t 23), some (6, true)⟩, ⟨some 25, false, .fa 0 (.t 4), some (6, true)⟩, ⟨some 26, false, .ld none (.t 25), some (6, true)⟩, ⟨some 27, false, .bin .geq (.t 24) (.t 26), some (6, true)⟩, ⟨some 28, false, .pick (.t 18) (.t 27) (.c (.bool false)), some (3, false)⟩, ⟨some 29, false, .pick (.t 15) (.c (.bool true)) (.t 28), none⟩] [0, 5, 6, 7, 29] []) (.cond (.t 29) (.seq (.reg false [⟨some 2, false, .asg (.c (.bool false)), none⟩] [2] []) .ret) .skip)))) (.reg false [⟨some 30, false, .bin .add (.t 7) (.c (.int .i64 1)), none⟩, ⟨some 7, false, .mv (.t 30), none⟩] [0, 5, 6, 7] [])))
def impl_ValidWorks_k1 : C :=
  .norm [0, 5, 6, 7] [] impl_ValidWorks_k0
def impl_ValidWorks_k2 : C :=
  .seq (.reg false [⟨some 31, false, .mv (.t 0), none⟩, ⟨some 32, false, .len (.t 31), none⟩, ⟨some 33, false, .call (.c (.fn 21 [])) [.t 32, .c (.int .i64 8)], none⟩, ⟨some 2, false, .asg (.t 33), none⟩] [2] []) .ret
def impl_ValidWorks_ir : Fn := { np := 1, io := [], res := [.t 2], own := [false], body :=
  (.seq (.reg false [⟨some 2, false, .asg (.c (.bool false)), none⟩] [0] []) (.seq (.seq (.reg false [⟨some 5, false, .mv (.t 0), none⟩, ⟨some 6, false, .len (.t 5), none⟩, ⟨some 7, false, .mv (.c (.int .i64 0)), none⟩] [0, 5, 6, 7] []) (.block 0 (.loop impl_ValidWorks_k1))) impl_ValidWorks_k2)) }
noncomputable def impl_ValidWorks_D : List (Nat × Callee) := [(21, impl_few_c), (791, impl_Work_valid_c)]
def impl_ValidWorks_H : List (Nat × ET) := [(5, T_Peg), (19, T_Peg), (31, T_Peg)]
noncomputable def impl_ValidWorks_c : Callee := mkCallee impl_ValidWorks_D impl_ValidWorks_H impl_ValidWorks_ir [.d (.one (.sl T_Peg))] [.d (.one .bool)] []
noncomputable def impl_ValidWorks (a0 : List T_Peg.ty) : Option (Bool) := impl_ValidWorks_c.f (a0, ())
noncomputable def impl_ValidWorks_p0  (v0 : List T_Peg.ty) (v5 : List T_Peg.ty) (v6 : Int) (v7 : Int) : Option (Bool) :=
  goL impl_ValidWorks_D impl_ValidWorks_H (vleave impl_ValidWorks_ir [.d (.one (.sl T_Peg))] [.d (.one .bool)] [] []) [.c impl_ValidWorks_k0, .l impl_ValidWorks_k1, .e 0, .c impl_ValidWorks_k2]
    ⟨[(0, .sl T_Peg v0), (5, .sl T_Peg v5), (6, .int .i64 v6), (7, .int .i64 v7)], []⟩
theorem impl_ValidWorks_eq (a0 : List T_Peg.ty) : impl_ValidWorks a0 =
    impl_ValidWorks_p0 a0 a0 (a0.length : Int) 0 :=
  (mk_f _ _ _ _ _ _ _ 4000).trans (by kernel_rfl)
theorem impl_ValidWorks_p0_eq  (v0 : List T_Peg.ty) (v5 : List T_Peg.ty) (v6 : Int) (v7 : Int) : impl_ValidWorks_p0 v0 v5 v6 v7 =
    if decide (v7 < v6) then
      if decide (0 ≤ v7) then
        (v5[v7.toNat]?).bind fun x1 =>
          (impl_Work_valid x1).bind fun x2 =>
            if (!x2) then
              some false
            else
              if decide (v7 > 0) then
                if decide (0 ≤ IntKind.i64.wrap (v7 - 1)) then
                  (v0[(IntKind.i64.wrap (v7 - 1)).toNat]?).bind fun x3 =>
                    if (!Op.bytesLess x3.1 x1.1) then
                      some false
                    else
                      impl_ValidWorks_p0 v0 v5 v6 (IntKind.i64.wrap (v7 + 1))
                else
                  none
              else
                impl_ValidWorks_p0 v0 v5 v6 (IntKind.i64.wrap (v7 + 1))
      else
        none
    else
      (impl_few (v0.length : Int) 8).bind fun x4 =>
        some x4 :=
  (goL_dn _ _ _ 4000 _ _).trans (by kernel_rfl)

/- (impl.Paper).valid -/
def impl_Paper_valid_ir : Fn := { np := 1, io := [], res := [.t 2], own := [false], body :=
  (.seq (.reg false [⟨some 1, true, .box 5 (.t 0), none⟩, ⟨some 2, false, .asg (.c (.bool false)), none⟩] [1] [1]) (.seq (.reg false [⟨some 3, false, .fa 0 (.t 1), none⟩, ⟨some 4, false, .ld none (.t 3), none⟩, ⟨some 5, false, .call (.c (.fn 24 [])) [.t 4], none⟩, ⟨some 6, false, .mv (.t 5), none⟩, ⟨some 7, false, .fa 1 (.t 1), some (3, true)⟩, ⟨some 8, false, .ld none (.t 7), some (3, true)⟩, ⟨some 9, false, .call (.c (.fn 24 [])) [.t 8], some (3, true)⟩, ⟨some 10, false, .pick (.t 6) (.t 9) (.c (.bool false)), none⟩, ⟨some 11, false, .mv (.t 10), none⟩, ⟨some 12, false, .fa 2 (.t 1), some (8, true)⟩, ⟨some 13, false, .ld none (.t 12), some (8, true)⟩, ⟨some 14, false, .bin .leq (.c (.int .i64 1500)) (.t 13), some (8, true)⟩, ⟨some 15, false, .pick (.t 11) (.t 14) (.c (.bool false)), none⟩, ⟨some 16, false, .mv (.t 15), none⟩, ⟨some 17, false, .fa 2 (.t 1), some (13, true)⟩, ⟨some 18, false, .ld none (.t 17), some (13, true)⟩, ⟨some 19, false, .fa 3 (.t 1), some (13, true)⟩, ⟨some 20, false, .ld none (.t 19), some (13, true)⟩, ⟨some 21, false, .bin .leq (.t 18) (.t 20), some (13, true)⟩, ⟨some 22, false, .pick (.t 16) (.t 21) (.c (.bool false)), none⟩, ⟨some 23, false, .mv (.t 22), none⟩, ⟨some 24, false, .fa 3 (.t 1), some (20, true)⟩, ⟨some 25, false, .ld none (.t 24), some (20, true)⟩, ⟨some 26, false, .bin .leq (.t 25) (.c (.int .i64 2100)), some (20, true)⟩, ⟨some 27, false, .pick (.t 23) (.t 26) (.c (.bool false)), none⟩, ⟨some 28, false, .mv (.t 27), none⟩, ⟨some 29, false, .fa 4 (.t 1), some (25, true)⟩, ⟨some 30, false, .ld none (.t 29), some (25, true)⟩, ⟨some 31, false, .call (.c (.fn 23 [])) [.t 30, .c (.int .i64 1), .c (.int .i64 1000)], some (25, true)⟩, ⟨some 32, false, .pick (.t 28) (.t 31) (.c (.bool false)), none⟩, ⟨some 2, false, .asg (.t 32), none⟩] [2] []) .ret)) }
noncomputable def impl_Paper_valid_D : List (Nat × Callee) := [(23, impl_within_c), (24, impl_IsName_c)]
def impl_Paper_valid_H : List (Nat × ET) := []
noncomputable def impl_Paper_valid_c : Callee := mkCallee impl_Paper_valid_D impl_Paper_valid_H impl_Paper_valid_ir [.d T_Paper] [.d (.one .bool)] []
noncomputable def impl_Paper_valid (a0 : T_Paper.ty) : Option (Bool) := impl_Paper_valid_c.f (a0, ())
theorem impl_Paper_valid_eq (a0 : T_Paper.ty) : impl_Paper_valid a0 =
    (impl_IsName a0.1).bind fun x1 =>
      if x1 then
        (impl_IsName a0.2.1).bind fun x2 =>
          if x2 then
            if decide (1500 ≤ a0.2.2.1) then
              if decide (a0.2.2.1 ≤ a0.2.2.2.1) then
                if decide (a0.2.2.2.1 ≤ 2100) then
                  (impl_within a0.2.2.2.2.1 1 1000).bind fun x3 =>
                    some x3
                else
                  some false
              else
                some false
            else
              some false
          else
            some false
      else
        some false :=
  (mk_f _ _ _ _ _ _ _ 4000).trans (by kernel_rfl)

/- impl.ValidPapers -/
def impl_ValidPapers_k0 : C :=
  .seq (.reg false [⟨some 8, false, .bin .lss (.t 7) (.t 6), none⟩] [0, 5, 6, 7, 8] []) (.seq (.cond (.t 8) .skip (.exit 0)) (.seq (.block 1 (.seq (.reg false [⟨some 9, false, .mv (.t 7), none⟩, ⟨some 10, false, .ia 5 (.t 5) (.t 7), none⟩, ⟨some 11, false, .ld (some 5) (.t 10), none⟩, ⟨some 4, true, .alloc 5 (.agg [.str [], .str [], .int .i64 0, .int .i64 0, .int .i64 0]), none⟩, ⟨some 3, false, .asg (.t 9), none⟩, ⟨none, true, .sto 5 (.t 4) (.t 11), none⟩] [0, 3, 4, 5, 6, 7] [4]) (.seq (.reg true [⟨some 12, false, .ld (some 5) (.t 4), none⟩, ⟨some 13, false, .call (.c (.fn 809 [])) [.t 12], none⟩, ⟨some 14, false, .un .not (.t 13), none⟩, ⟨some 15, false, .mv (.t 14), none⟩, ⟨some 16, false, .mv (.t 3), some (3, false)⟩, ⟨some 17, false, .bin .gtr (.t 16) (.c (.int .i64 0)), some (3, false)⟩, ⟨some 18, false, .mv (.t 17), some (3, false)⟩, ⟨some 19, false, .mv (.t 0), some (6, true)⟩, ⟨some 20, false, .mv (.t 3), some (6, true)⟩, ⟨some 21, false, .bin .sub (.t 20) (.c (.int .i64 1)), some (6, true)⟩, ⟨some 22, false, .ia 5 (.t 19) (.t 21), some (6, true)⟩, ⟨some 23, false, .fa 0 (.t 22), some (6, true)⟩, ⟨some 24, false, .ld none (.t 23), some (6, true)⟩, ⟨some 25, false, .fa 0 (.t 4), some (6, true)⟩, ⟨some 26, false, .ld none (.t 25), some (6, true)⟩, ⟨some 27, false, .bin .geq (.t 24) (.t 26), some (6, true)⟩, ⟨some 28, false, .pick (.t 18) (.t 27) (.c (.bool false)), some (3, false)⟩, ⟨some 29, false, .pick (.t 15) (.c (.bool true)) (.t 28), none⟩] [0, 5, 6, 7, 29] []) (.cond (.t 29) (.seq (.reg false [⟨some 2, false, .asg (.c (.bool false)), none⟩] [2] []) .ret) .skip)))) (.reg false [⟨some 30, false, .bin .add (.t 7) (.c (.int .i64 1)), none⟩, ⟨some 7, false, .mv (.t 30), none⟩] [0, 5, 6, 7] [])))
def impl_ValidPapers_k1 : C :=
  .norm [0, 5, 6, 7] [] impl_ValidPapers_k0
def impl_ValidPapers_k2 : C :=
  .seq (.reg false [⟨some 31, false, .mv (.t 0), none⟩, ⟨some 32, false, .len (.t 31), none⟩, ⟨some 33, false, .call (.c (.fn 21 [])) [.t 32, .c (.int .i64 12)], none⟩, ⟨some 2, false, .asg (.t 33), none⟩] [2] []) .ret
def impl_ValidPapers_ir : Fn := { np := 1, io := [], res := [.t 2], own := [false], body :=
  (.seq (.reg false [⟨some 2, false, .asg (.c (.bool false)), none⟩] [0] []) (.seq (.seq (.reg false [⟨some 5, false, .mv (.t 0), none⟩, ⟨some 6, false, .len (.t 5), none⟩, ⟨some 7, false, .mv (.c (.int .i64 0)), none⟩] [0, 5, 6, 7] []) (.block 0 (.loop impl_ValidPapers_k1))) impl_ValidPapers_k2)) }
noncomputable def impl_ValidPapers_D : List (Nat × Callee) := [(21, impl_few_c), (809, impl_Paper_valid_c)]
def impl_ValidPapers_H : List (Nat × ET) := [(5, T_Paper), (19, T_Paper), (31, T_Paper)]
noncomputable def impl_ValidPapers_c : Callee := mkCallee impl_ValidPapers_D impl_ValidPapers_H impl_ValidPapers_ir [.d (.one (.sl T_Paper))] [.d (.one .bool)] []
noncomputable def impl_ValidPapers (a0 : List T_Paper.ty) : Option (Bool) := impl_ValidPapers_c.f (a0, ())
noncomputable def impl_ValidPapers_p0  (v0 : List T_Paper.ty) (v5 : List T_Paper.ty) (v6 : Int) (v7 : Int) : Option (Bool) :=
  goL impl_ValidPapers_D impl_ValidPapers_H (vleave impl_ValidPapers_ir [.d (.one (.sl T_Paper))] [.d (.one .bool)] [] []) [.c impl_ValidPapers_k0, .l impl_ValidPapers_k1, .e 0, .c impl_ValidPapers_k2]
    ⟨[(0, .sl T_Paper v0), (5, .sl T_Paper v5), (6, .int .i64 v6), (7, .int .i64 v7)], []⟩
theorem impl_ValidPapers_eq (a0 : List T_Paper.ty) : impl_ValidPapers a0 =
    impl_ValidPapers_p0 a0 a0 (a0.length : Int) 0 :=
  (mk_f _ _ _ _ _ _ _ 4000).trans (by kernel_rfl)
theorem impl_ValidPapers_p0_eq  (v0 : List T_Paper.ty) (v5 : List T_Paper.ty) (v6 : Int) (v7 : Int) : impl_ValidPapers_p0 v0 v5 v6 v7 =
    if decide (v7 < v6) then
      if decide (0 ≤ v7) then
        (v5[v7.toNat]?).bind fun x1 =>
          (impl_Paper_valid x1).bind fun x2 =>
            if (!x2) then
              some false
            else
              if decide (v7 > 0) then
                if decide (0 ≤ IntKind.i64.wrap (v7 - 1)) then
                  (v0[(IntKind.i64.wrap (v7 - 1)).toNat]?).bind fun x3 =>
                    if (!Op.bytesLess x3.1 x1.1) then
                      some false
                    else
                      impl_ValidPapers_p0 v0 v5 v6 (IntKind.i64.wrap (v7 + 1))
                else
                  none
              else
                impl_ValidPapers_p0 v0 v5 v6 (IntKind.i64.wrap (v7 + 1))
      else
        none
    else
      (impl_few (v0.length : Int) 12).bind fun x4 =>
        some x4 :=
  (goL_dn _ _ _ 4000 _ _).trans (by kernel_rfl)

/- impl.ValidDesk -/
def impl_ValidDesk_ir : Fn := { np := 1, io := [], res := [.t 2], own := [false], body :=
  (.seq (.reg false [⟨some 1, true, .box 12 (.t 0), none⟩, ⟨some 2, false, .asg (.c (.bool false)), none⟩] [1] [1, 2000, 2001, 2002, 2007, 2008, 2009, 2010, 2011]) (.seq (.reg false [⟨some 3, false, .fa 0 (.t 1), none⟩, ⟨some 4, false, .ld none (.t 3), none⟩, ⟨some 5, false, .call (.c (.fn 713 [])) [.t 4], none⟩, ⟨some 6, false, .mv (.t 5), none⟩, ⟨some 7, false, .fa 1 (.t 1), some (3, true)⟩, ⟨some 8, false, .ld none (.t 7), some (3, true)⟩, ⟨some 9, false, .call (.c (.fn 509 [])) [.t 8], some (3, true)⟩, ⟨some 10, false, .pick (.t 6) (.t 9) (.c (.bool false)), none⟩, ⟨some 11, false, .mv (.t 10), none⟩, ⟨some 12, false, .fa 2 (.t 1), some (8, true)⟩, ⟨some 13, false, .ld none (.t 12), some (8, true)⟩, ⟨some 14, false, .call (.c (.fn 714 [])) [.t 13], some (8, true)⟩, ⟨some 15, false, .pick (.t 11) (.t 14) (.c (.bool false)), none⟩, ⟨some 16, false, .mv (.t 15), none⟩, ⟨some 17, false, .fa 3 (.t 1), some (13, true)⟩, ⟨some 18, false, .ld (some 4) (.t 17), some (13, true)⟩, ⟨some 19, false, .call (.c (.fn 444 [])) [.t 18], some (13, true)⟩, ⟨some 20, false, .pick (.t 16) (.t 19) (.c (.bool false)), none⟩, ⟨some 21, false, .mv (.t 20), none⟩, ⟨some 22, false, .fa 7 (.t 1), some (18, true)⟩, ⟨some 23, false, .ld none (.t 22), some (18, true)⟩, ⟨some 24, false, .call (.c (.fn 468 [])) [.t 23], some (18, true)⟩, ⟨some 25, false, .pick (.t 21) (.t 24) (.c (.bool false)), none⟩, ⟨some 26, false, .mv (.t 25), none⟩, ⟨some 27, false, .fa 8 (.t 1), some (23, true)⟩, ⟨some 28, false, .ld none (.t 27), some (23, true)⟩, ⟨some 29, false, .call (.c (.fn 57 [])) [.t 28], some (23, true)⟩, ⟨some 30, false, .pick (.t 26) (.t 29) (.c (.bool false)), none⟩, ⟨some 31, false, .mv (.t 30), none⟩, ⟨some 32, false, .fa 9 (.t 1), some (28, true)⟩, ⟨some 33, false, .ld none (.t 32), some (28, true)⟩, ⟨some 34, false, .call (.c (.fn 472 [])) [.t 33], some (28, true)⟩, ⟨some 35, false, .pick (.t 31) (.t 34) (.c (.bool false)), none⟩, ⟨some 36, false, .mv (.t 35), none⟩, ⟨some 37, false, .fa 10 (.t 1), some (33, true)⟩, ⟨some 38, false, .ld none (.t 37), some (33, true)⟩, ⟨some 39, false, .call (.c (.fn 715 [])) [.t 38], some (33, true)⟩, ⟨some 40, false, .pick (.t 36) (.t 39) (.c (.bool false)), none⟩, ⟨some 41, false, .mv (.t 40), none⟩, ⟨some 42, false, .fa 11 (.t 1), some (38, true)⟩, ⟨some 43, false, .ld none (.t 42), some (38, true)⟩, ⟨some 44, false, .call (.c (.fn 635 [])) [.t 43], some (38, true)⟩, ⟨some 45, false, .pick (.t 41) (.t 44) (.c (.bool false)), none⟩, ⟨some 2, false, .asg (.t 45), none⟩] [2] []) .ret)) }
noncomputable def impl_ValidDesk_D : List (Nat × Callee) := [(57, impl_ValidPots_c), (444, impl_ValidNeck_c), (468, impl_ValidPegs_c), (472, impl_ValidModes_c), (509, impl_ValidRibs_c), (635, impl_ValidPapers_c), (713, impl_ValidStacks_c), (714, impl_ValidPlate_c), (715, impl_ValidWorks_c)]
def impl_ValidDesk_H : List (Nat × ET) := [(4, T_Peg), (8, T_Mode), (13, (.one (.sl (.one (.int .i64))))), (23, T_Peg), (28, T_Pot), (33, T_Mode), (38, T_Peg), (43, T_Paper)]
noncomputable def impl_ValidDesk_c : Callee := mkCallee impl_ValidDesk_D impl_ValidDesk_H impl_ValidDesk_ir [.d T_Desk] [.d (.one .bool)] []
noncomputable def impl_ValidDesk (a0 : T_Desk.ty) : Option (Bool) := impl_ValidDesk_c.f (a0, ())
theorem impl_ValidDesk_eq (a0 : T_Desk.ty) : impl_ValidDesk a0 =
    (impl_ValidStacks a0.1).bind fun x1 =>
      if x1 then
        (impl_ValidRibs a0.2.1).bind fun x2 =>
          if x2 then
            (impl_ValidPlate a0.2.2.1).bind fun x3 =>
              if x3 then
                (impl_ValidNeck (a0.2.2.2.1, a0.2.2.2.2.1, a0.2.2.2.2.2.1, a0.2.2.2.2.2.2.1, ())).bind fun x4 =>
                  if x4 then
                    (impl_ValidPegs a0.2.2.2.2.2.2.2.1).bind fun x5 =>
                      if x5 then
                        (impl_ValidPots a0.2.2.2.2.2.2.2.2.1).bind fun x6 =>
                          if x6 then
                            (impl_ValidModes a0.2.2.2.2.2.2.2.2.2.1).bind fun x7 =>
                              if x7 then
                                (impl_ValidWorks a0.2.2.2.2.2.2.2.2.2.2.1).bind fun x8 =>
                                  if x8 then
                                    (impl_ValidPapers a0.2.2.2.2.2.2.2.2.2.2.2.1).bind fun x9 =>
                                      some x9
                                  else
                                    some false
                              else
                                some false
                          else
                            some false
                      else
                        some false
                  else
                    some false
              else
                some false
          else
            some false
      else
        some false :=
  (mk_f _ _ _ _ _ _ _ 4000).trans (by kernel_rfl)

/- laws.eqStack -/
def laws_eqStack_ir : Fn := { np := 2, io := [], res := [.t 4], own := [false], body :=
  (.seq (.reg false [⟨some 2, true, .box 4 (.t 0), none⟩, ⟨some 3, true, .box 4 (.t 1), none⟩, ⟨some 4, false, .asg (.c (.bool false)), none⟩] [2, 3] [2, 3]) (.seq (.seq (.reg false [⟨some 5, false, .fa 0 (.t 2), none⟩, ⟨some 6, false, .ld none (.t 5), none⟩, ⟨some 7, false, .fa 0 (.t 3), none⟩, ⟨some 8, false, .ld none (.t 7), none⟩, ⟨some 9, false, .bin .neq (.t 6) (.t 8), none⟩] [2, 3, 9] [2, 3]) (.cond (.t 9) (.seq (.reg false [⟨some 4, false, .asg (.c (.bool false)), none⟩] [4] []) .ret) .skip)) (.seq (.seq (.reg false [⟨some 10, false, .fa 1 (.t 2), none⟩, ⟨some 11, false, .ld none (.t 10), none⟩, ⟨some 12, false, .fa 1 (.t 3), none⟩, ⟨some 13, false, .ld none (.t 12), none⟩, ⟨some 14, false, .bin .neq (.t 11) (.t 13), none⟩] [2, 3, 14] [2, 3]) (.cond (.t 14) (.seq (.reg false [⟨some 4, false, .asg (.c (.bool false)), none⟩] [4] []) .ret) .skip)) (.seq (.seq (.reg false [⟨some 15, false, .fa 2 (.t 2), none⟩, ⟨some 16, false, .ld none (.t 15), none⟩, ⟨some 17, false, .fa 2 (.t 3), none⟩, ⟨some 18, false, .ld none (.t 17), none⟩, ⟨some 19, false, .bin .neq (.t 16) (.t 18), none⟩] [2, 3, 19] [2, 3]) (.cond (.t 19) (.seq (.reg false [⟨some 4, false, .asg (.c (.bool false)), none⟩] [4] []) .ret) .skip)) (.seq (.seq (.reg false [⟨some 20, false, .fa 3 (.t 2), none⟩, ⟨some 21, false, .ld none (.t 20), none⟩, ⟨some 22, false, .fa 3 (.t 3), none⟩, ⟨some 23, false, .ld none (.t 22), none⟩, ⟨some 24, false, .bin .neq (.t 21) (.t 23), none⟩] [24] []) (.cond (.t 24) (.seq (.reg false [⟨some 4, false, .asg (.c (.bool false)), none⟩] [4] []) .ret) .skip)) (.seq (.reg false [⟨some 4, false, .asg (.c (.bool true)), none⟩] [4] []) .ret)))))) }
noncomputable def laws_eqStack_D : List (Nat × Callee) := []
def laws_eqStack_H : List (Nat × ET) := []
noncomputable def laws_eqStack_c : Callee := mkCallee laws_eqStack_D laws_eqStack_H laws_eqStack_ir [.d T_Peg, .d T_Peg] [.d (.one .bool)] []
noncomputable def laws_eqStack (a0 : T_Peg.ty) (a1 : T_Peg.ty) : Option (Bool) := laws_eqStack_c.f (a0, a1, ())
theorem laws_eqStack_eq (a0 : T_Peg.ty) (a1 : T_Peg.ty) : laws_eqStack a0 a1 =
    if (!(a0.1 == a1.1)) then
      some false
    else
      if (a0.2.1 != a1.2.1) then
        some false
      else
        if (a0.2.2.1 != a1.2.2.1) then
          some false
        else
          if (a0.2.2.2.1 != a1.2.2.2.1) then
            some false
          else
            some true :=
  (mk_f _ _ _ _ _ _ _ 4000).trans (by kernel_rfl)

/- laws.eqStackS -/
def laws_eqStackS_k0 : C :=
  .seq (.seq (.reg false [⟨some 11, false, .mv (.t 5), none⟩, ⟨some 12, false, .mv (.t 0), none⟩, ⟨some 13, false, .len (.t 12), none⟩, ⟨some 14, false, .bin .lss (.t 11) (.t 13), none⟩] [0, 1, 5, 14] []) (.cond (.t 14) .skip (.exit 0))) (.seq (.block 1 (.seq (.reg true [⟨some 17, false, .mv (.t 0), none⟩, ⟨some 18, false, .mv (.t 5), none⟩, ⟨some 19, false, .ia 4 (.t 17) (.t 18), none⟩, ⟨some 20, false, .ld (some 4) (.t 19), none⟩, ⟨some 21, false, .mv (.t 1), none⟩, ⟨some 22, false, .mv (.t 5), none⟩, ⟨some 23, false, .ia 4 (.t 21) (.t 22), none⟩, ⟨some 24, false, .ld (some 4) (.t 23), none⟩, ⟨some 25, false, .call (.c (.fn 881 [])) [.t 20, .t 24], none⟩, ⟨some 26, false, .un .not (.t 25), none⟩] [0, 1, 5, 26] []) (.cond (.t 26) (.seq (.reg false [⟨some 4, false, .asg (.c (.bool false)), none⟩] [4] []) .ret) .skip))) (.reg false [⟨some 15, false, .mv (.t 5), none⟩, ⟨some 16, false, .bin .add (.t 15) (.c (.int .i64 1)), none⟩, ⟨some 5, false, .asg (.t 16), none⟩] [0, 1, 5] []))
def laws_eqStackS_k1 : C :=
  .norm [0, 1, 5] [] laws_eqStackS_k0
def laws_eqStackS_k2 : C :=
  .seq (.reg false [⟨some 4, false, .asg (.c (.bool true)), none⟩] [4] []) .ret
def laws_eqStackS_ir : Fn := { np := 2, io := [], res := [.t 4], own := [false], body :=
  (.seq (.reg false [⟨some 4, false, .asg (.c (.bool false)), none⟩] [0, 1] []) (.seq (.seq (.reg false [⟨some 6, false, .mv (.t 0), none⟩, ⟨some 7, false, .len (.t 6), none⟩, ⟨some 8, false, .mv (.t 1), none⟩, ⟨some 9, false, .len (.t 8), none⟩, ⟨some 10, false, .bin .neq (.t 7) (.t 9), none⟩] [0, 1, 10] []) (.cond (.t 10) (.seq (.reg false [⟨some 4, false, .asg (.c (.bool false)), none⟩] [4] []) .ret) .skip)) (.seq (.seq (.reg false [⟨some 5, false, .asg (.c (.int .i64 0)), none⟩] [0, 1, 5] []) (.block 0 (.loop laws_eqStackS_k1))) laws_eqStackS_k2))) }
noncomputable def laws_eqStackS_D : List (Nat × Callee) := [(881, laws_eqStack_c)]
def laws_eqStackS_H : List (Nat × ET) := [(6, T_Peg), (8, T_Peg), (12, T_Peg), (17, T_Peg), (21, T_Peg)]
noncomputable def laws_eqStackS_c : Callee := mkCallee laws_eqStackS_D laws_eqStackS_H laws_eqStackS_ir [.d (.one (.sl T_Peg)), .d (.one (.sl T_Peg))] [.d (.one .bool)] []
noncomputable def laws_eqStackS (a0 : List T_Peg.ty) (a1 : List T_Peg.ty) : Option (Bool) := laws_eqStackS_c.f (a0, a1, ())
noncomputable def laws_eqStackS_p0  (v0 : List T_Peg.ty) (v1 : List T_Peg.ty) (v5 : Int) : Option (Bool) :=
  goL laws_eqStackS_D laws_eqStackS_H (vleave laws_eqStackS_ir [.d (.one (.sl T_Peg)), .d (.one (.sl T_Peg))] [.d (.one .bool)] [] []) [.c laws_eqStackS_k0, .l laws_eqStackS_k1, .e 0, .c laws_eqStackS_k2]
    ⟨[(0, .sl T_Peg v0), (1, .sl T_Peg v1), (5, .int .i64 v5)], []⟩
theorem laws_eqStackS_eq (a0 : List T_Peg.ty) (a1 : List T_Peg.ty) : laws_eqStackS a0 a1 =
    if ((a0.length : Int) != (a1.length : Int)) then
      some false
    else
      laws_eqStackS_p0 a0 a1 0 :=
  (mk_f _ _ _ _ _ _ _ 4000).trans (by kernel_rfl)
theorem laws_eqStackS_p0_eq  (v0 : List T_Peg.ty) (v1 : List T_Peg.ty) (v5 : Int) : laws_eqStackS_p0 v0 v1 v5 =
    if decide (v5 < (v0.length : Int)) then
      if decide (0 ≤ v5) then
        (v0[v5.toNat]?).bind fun x1 =>
          if decide (0 ≤ v5) then
            (v1[v5.toNat]?).bind fun x2 =>
              (laws_eqStack x1 x2).bind fun x3 =>
                if (!x3) then
                  some false
                else
                  laws_eqStackS_p0 v0 v1 (IntKind.i64.wrap (v5 + 1))
          else
            none
      else
        none
    else
      some true :=
  (goL_dn _ _ _ 4000 _ _).trans (by kernel_rfl)

/- laws.eqRib -/
def laws_eqRib_ir : Fn := { np := 2, io := [], res := [.t 4], own := [false], body :=
  (.seq (.reg false [⟨some 2, true, .box 3 (.t 0), none⟩, ⟨some 3, true, .box 3 (.t 1), none⟩, ⟨some 4, false, .asg (.c (.bool false)), none⟩] [2, 3] [2, 3]) (.seq (.seq (.reg false [⟨some 5, false, .fa 0 (.t 2), none⟩, ⟨some 6, false, .ld none (.t 5), none⟩, ⟨some 7, false, .fa 0 (.t 3), none⟩, ⟨some 8, false, .ld none (.t 7), none⟩, ⟨some 9, false, .bin .neq (.t 6) (.t 8), none⟩] [2, 3, 9] [2, 3]) (.cond (.t 9) (.seq (.reg false [⟨some 4, false, .asg (.c (.bool false)), none⟩] [4] []) .ret) .skip)) (.seq (.seq (.reg false [⟨some 10, false, .fa 1 (.t 2), none⟩, ⟨some 11, false, .ld none (.t 10), none⟩, ⟨some 12, false, .fa 1 (.t 3), none⟩, ⟨some 13, false, .ld none (.t 12), none⟩, ⟨some 14, false, .bin .neq (.t 11) (.t 13), none⟩] [2, 3, 14] [2, 3]) (.cond (.t 14) (.seq (.reg false [⟨some 4, false, .asg (.c (.bool false)), none⟩] [4] []) .ret) .skip)) (.seq (.seq (.reg false [⟨some 15, false, .fa 2 (.t 2), none⟩, ⟨some 16, false, .ld none (.t 15), none⟩, ⟨some 17, false, .fa 2 (.t 3), none⟩, ⟨some 18, false, .ld none (.t 17), none⟩, ⟨some 19, false, .bin .neq (.t 16) (.t 18), none⟩] [19] []) (.cond (.t 19) (.seq (.reg false [⟨some 4, false, .asg (.c (.bool false)), none⟩] [4] []) .ret) .skip)) (.seq (.reg false [⟨some 4, false, .asg (.c (.bool true)), none⟩] [4] []) .ret))))) }
noncomputable def laws_eqRib_D : List (Nat × Callee) := []
def laws_eqRib_H : List (Nat × ET) := []
noncomputable def laws_eqRib_c : Callee := mkCallee laws_eqRib_D laws_eqRib_H laws_eqRib_ir [.d T_Mode, .d T_Mode] [.d (.one .bool)] []
noncomputable def laws_eqRib (a0 : T_Mode.ty) (a1 : T_Mode.ty) : Option (Bool) := laws_eqRib_c.f (a0, a1, ())
theorem laws_eqRib_eq (a0 : T_Mode.ty) (a1 : T_Mode.ty) : laws_eqRib a0 a1 =
    if (!(a0.1 == a1.1)) then
      some false
    else
      if (a0.2.1 != a1.2.1) then
        some false
      else
        if (a0.2.2.1 != a1.2.2.1) then
          some false
        else
          some true :=
  (mk_f _ _ _ _ _ _ _ 4000).trans (by kernel_rfl)

/- laws.eqRibS -/
def laws_eqRibS_k0 : C :=
  .seq (.seq (.reg false [⟨some 11, false, .mv (.t 5), none⟩, ⟨some 12, false, .mv (.t 0), none⟩, ⟨some 13, false, .len (.t 12), none⟩, ⟨some 14, false, .bin .lss (.t 11) (.t 13), none⟩] [0, 1, 5, 14] []) (.cond (.t 14) .skip (.exit 0))) (.seq (.block 1 (.seq (.reg true [⟨some 17, false, .mv (.t 0), none⟩, ⟨some 18, false, .mv (.t 5), none⟩, ⟨some 19, false, .ia 3 (.t 17) (.t 18), none⟩, ⟨some 20, false, .ld (some 3) (.t 19), none⟩, ⟨some 21, false, .mv (.t 1), none⟩, ⟨some 22, false, .mv (.t 5), none⟩, ⟨some 23, false, .ia 3 (.t 21) (.t 22), none⟩, ⟨some 24, false, .ld (some 3) (.t 23), none⟩, ⟨some 25, false, .call (.c (.fn 882 [])) [.t 20, .t 24], none⟩, ⟨some 26, false, .un .not (.t 25), none⟩] [0, 1, 5, 26] []) (.cond (.t 26) (.seq (.reg false [⟨some 4, false, .asg (.c (.bool false)), none⟩] [4] []) .ret) .skip))) (.reg false [⟨some 15, false, .mv (.t 5), none⟩, ⟨some 16, false, .bin .add (.t 15) (.c (.int .i64 1)), none⟩, ⟨some 5, false, .asg (.t 16), none⟩] [0, 1, 5] []))
def laws_eqRibS_k1 : C :=
  .norm [0, 1, 5] [] laws_eqRibS_k0
def laws_eqRibS_k2 : C :=
  .seq (.reg false [⟨some 4, false, .asg (.c (.bool true)), none⟩] [4] []) .ret
def laws_eqRibS_ir : Fn := { np := 2, io := [], res := [.t 4], own := [false], body :=
  (.seq (.reg false [⟨some 4, false, .asg (.c (.bool false)), none⟩] [0, 1] []) (.seq (.seq (.reg false [⟨some 6, false, .mv (.t 0), none⟩, ⟨some 7, false, .len (.t 6), none⟩, ⟨some 8, false, .mv (.t 1), none⟩, ⟨some 9, false, .len (.t 8), none⟩, ⟨some 10, false, .bin .neq (.t 7) (.t 9), none⟩] [0, 1, 10] []) (.cond (.t 10) (.seq (.reg false [⟨some 4, false, .asg (.c (.bool false)), none⟩] [4] []) .ret) .skip)) (.seq (.seq (.reg false [⟨some 5, false, .asg (.c (.int .i64 0)), none⟩] [0, 1, 5] []) (.block 0 (.loop laws_eqRibS_k1))) laws_eqRibS_k2))) }
noncomputable def laws_eqRibS_D : List (Nat × Callee) := [(882, laws_eqRib_c)]
def laws_eqRibS_H : List (Nat × ET) := [(6, T_Mode), (8, T_Mode), (12, T_Mode), (17, T_Mode), (21, T_Mode)]
noncomputable def laws_eqRibS_c : Callee := mkCallee laws_eqRibS_D laws_eqRibS_H laws_eqRibS_ir [.d (.one (.sl T_Mode)), .d (.one (.sl T_Mode))] [.d (.one .bool)] []
noncomputable def laws_eqRibS (a0 : List T_Mode.ty) (a1 : List T_Mode.ty) : Option (Bool) := laws_eqRibS_c.f (a0, a1, ())
noncomputable def laws_eqRibS_p0  (v0 : List T_Mode.ty) (v1 : List T_Mode.ty) (v5 : Int) : Option (Bool) :=
  goL laws_eqRibS_D laws_eqRibS_H (vleave laws_eqRibS_ir [.d (.one (.sl T_Mode)), .d (.one (.sl T_Mode))] [.d (.one .bool)] [] []) [.c laws_eqRibS_k0, .l laws_eqRibS_k1, .e 0, .c laws_eqRibS_k2]
    ⟨[(0, .sl T_Mode v0), (1, .sl T_Mode v1), (5, .int .i64 v5)], []⟩
theorem laws_eqRibS_eq (a0 : List T_Mode.ty) (a1 : List T_Mode.ty) : laws_eqRibS a0 a1 =
    if ((a0.length : Int) != (a1.length : Int)) then
      some false
    else
      laws_eqRibS_p0 a0 a1 0 :=
  (mk_f _ _ _ _ _ _ _ 4000).trans (by kernel_rfl)
theorem laws_eqRibS_p0_eq  (v0 : List T_Mode.ty) (v1 : List T_Mode.ty) (v5 : Int) : laws_eqRibS_p0 v0 v1 v5 =
    if decide (v5 < (v0.length : Int)) then
      if decide (0 ≤ v5) then
        (v0[v5.toNat]?).bind fun x1 =>
          if decide (0 ≤ v5) then
            (v1[v5.toNat]?).bind fun x2 =>
              (laws_eqRib x1 x2).bind fun x3 =>
                if (!x3) then
                  some false
                else
                  laws_eqRibS_p0 v0 v1 (IntKind.i64.wrap (v5 + 1))
          else
            none
      else
        none
    else
      some true :=
  (goL_dn _ _ _ 4000 _ _).trans (by kernel_rfl)

/- laws.eqInt64S -/
def laws_eqInt64S_k0 : C :=
  .seq (.seq (.reg false [⟨some 11, false, .mv (.t 5), none⟩, ⟨some 12, false, .mv (.t 0), none⟩, ⟨some 13, false, .len (.t 12), none⟩, ⟨some 14, false, .bin .lss (.t 11) (.t 13), none⟩] [0, 1, 5, 14] []) (.cond (.t 14) .skip (.exit 0))) (.seq (.block 1 (.seq (.reg true [⟨some 17, false, .mv (.t 0), none⟩, ⟨some 18, false, .mv (.t 5), none⟩, ⟨some 19, false, .ia 1 (.t 17) (.t 18), none⟩, ⟨some 20, false, .ld none (.t 19), none⟩, ⟨some 21, false, .mv (.t 1), none⟩, ⟨some 22, false, .mv (.t 5), none⟩, ⟨some 23, false, .ia 1 (.t 21) (.t 22), none⟩, ⟨some 24, false, .ld none (.t 23), none⟩, ⟨some 25, false, .bin .neq (.t 20) (.t 24), none⟩] [0, 1, 5, 25] []) (.cond (.t 25) (.seq (.reg false [⟨some 4, false, .asg (.c (.bool false)), none⟩] [4] []) .ret) .skip))) (.reg false [⟨some 15, false, .mv (.t 5), none⟩, ⟨some 16, false, .bin .add (.t 15) (.c (.int .i64 1)), none⟩, ⟨some 5, false, .asg (.t 16), none⟩] [0, 1, 5] []))
def laws_eqInt64S_k1 : C :=
  .norm [0, 1, 5] [] laws_eqInt64S_k0
def laws_eqInt64S_k2 : C :=
  .seq (.reg false [⟨some 4, false, .asg (.c (.bool true)), none⟩] [4] []) .ret
def laws_eqInt64S_ir : Fn := { np := 2, io := [], res := [.t 4], own := [false], body :=
  (.seq (.reg false [⟨some 4, false, .asg (.c (.bool false)), none⟩] [0, 1] []) (.seq (.seq (.reg false [⟨some 6, false, .mv (.t 0), none⟩, ⟨some 7, false, .len (.t 6), none⟩, ⟨some 8, false, .mv (.t 1), none⟩, ⟨some 9, false, .len (.t 8), none⟩, ⟨some 10, false, .bin .neq (.t 7) (.t 9), none⟩] [0, 1, 10] []) (.cond (.t 10) (.seq (.reg false [⟨some 4, false, .asg (.c (.bool false)), none⟩] [4] []) .ret) .skip)) (.seq (.seq (.reg false [⟨some 5, false, .asg (.c (.int .i64 0)), none⟩] [0, 1, 5] []) (.block 0 (.loop laws_eqInt64S_k1))) laws_eqInt64S_k2))) }
noncomputable def laws_eqInt64S_D : List (Nat × Callee) := []
def laws_eqInt64S_H : List (Nat × ET) := [(6, (.one (.int .i64))), (8, (.one (.int .i64))), (12, (.one (.int .i64))), (17, (.one (.int .i64))), (21, (.one (.int .i64)))]
noncomputable def laws_eqInt64S_c : Callee := mkCallee laws_eqInt64S_D laws_eqInt64S_H laws_eqInt64S_ir [.d (.one (.sl (.one (.int .i64)))), .d (.one (.sl (.one (.int .i64))))] [.d (.one .bool)] []
noncomputable def laws_eqInt64S (a0 : List Int) (a1 : List Int) : Option (Bool) := laws_eqInt64S_c.f (a0, a1, ())
noncomputable def laws_eqInt64S_p0  (v0 : List Int) (v1 : List Int) (v5 : Int) : Option (Bool) :=
  goL laws_eqInt64S_D laws_eqInt64S_H (vleave laws_eqInt64S_ir [.d (.one (.sl (.one (.int .i64)))), .d (.one (.sl (.one (.int .i64))))] [.d (.one .bool)] [] []) [.c laws_eqInt64S_k0, .l laws_eqInt64S_k1, .e 0, .c laws_eqInt64S_k2]
    ⟨[(0, .sl (.one (.int .i64)) v0), (1, .sl (.one (.int .i64)) v1), (5, .int .i64 v5)], []⟩
theorem laws_eqInt64S_eq (a0 : List Int) (a1 : List Int) : laws_eqInt64S a0 a1 =
    if ((a0.length : Int) != (a1.length : Int)) then
      some false
    else
      laws_eqInt64S_p0 a0 a1 0 :=
  (mk_f _ _ _ _ _ _ _ 4000).trans (by kernel_rfl)
theorem laws_eqInt64S_p0_eq  (v0 : List Int) (v1 : List Int) (v5 : Int) : laws_eqInt64S_p0 v0 v1 v5 =
    if decide (v5 < (v0.length : Int)) then
      if decide (0 ≤ v5) then
        (v0[v5.toNat]?).bind fun x1 =>
          if decide (0 ≤ v5) then
            (v1[v5.toNat]?).bind fun x2 =>
              if (x1 != x2) then
                some false
              else
                laws_eqInt64S_p0 v0 v1 (IntKind.i64.wrap (v5 + 1))
          else
            none
      else
        none
    else
      some true :=
  (goL_dn _ _ _ 4000 _ _).trans (by kernel_rfl)

/- laws.eqInt64SS -/
def laws_eqInt64SS_k0 : C :=
  .seq (.seq (.reg false [⟨some 11, false, .mv (.t 5), none⟩, ⟨some 12, false, .mv (.t 0), none⟩, ⟨some 13, false, .len (.t 12), none⟩, ⟨some 14, false, .bin .lss (.t 11) (.t 13), none⟩] [0, 1, 5, 14] []) (.cond (.t 14) .skip (.exit 0))) (.seq (.block 1 (.seq (.reg true [⟨some 17, false, .mv (.t 0), none⟩, ⟨some 18, false, .mv (.t 5), none⟩, ⟨some 19, false, .ia 1 (.t 17) (.t 18), none⟩, ⟨some 20, false, .ld none (.t 19), none⟩, ⟨some 21, false, .mv (.t 1), none⟩, ⟨some 22, false, .mv (.t 5), none⟩, ⟨some 23, false, .ia 1 (.t 21) (.t 22), none⟩, ⟨some 24, false, .ld none (.t 23), none⟩, ⟨some 25, false, .call (.c (.fn 42 [])) [.t 20, .t 24], none⟩, ⟨some 26, false, .un .not (.t 25), none⟩] [0, 1, 5, 26] []) (.cond (.t 26) (.seq (.reg false [⟨some 4, false, .asg (.c (.bool false)), none⟩] [4] []) .ret) .skip))) (.reg false [⟨some 15, false, .mv (.t 5), none⟩, ⟨some 16, false, .bin .add (.t 15) (.c (.int .i64 1)), none⟩, ⟨some 5, false, .asg (.t 16), none⟩] [0, 1, 5] []))
def laws_eqInt64SS_k1 : C :=
  .norm [0, 1, 5] [] laws_eqInt64SS_k0
def laws_eqInt64SS_k2 : C :=
  .seq (.reg false [⟨some 4, false, .asg (.c (.bool true)), none⟩] [4] []) .ret
def laws_eqInt64SS_ir : Fn := { np := 2, io := [], res := [.t 4], own := [false], body :=
  (.seq (.reg false [⟨some 4, false, .asg (.c (.bool false)), none⟩] [0, 1] []) (.seq (.seq (.reg false [⟨some 6, false, .mv (.t 0), none⟩, ⟨some 7, false, .len (.t 6), none⟩, ⟨some 8, false, .mv (.t 1), none⟩, ⟨some 9, false, .len (.t 8), none⟩, ⟨some 10, false, .bin .neq (.t 7) (.t 9), none⟩] [0, 1, 10] []) (.cond (.t 10) (.seq (.reg false [⟨some 4, false, .asg (.c (.bool false)), none⟩] [4] []) .ret) .skip)) (.seq (.seq (.reg false [⟨some 5, false, .asg (.c (.int .i64 0)), none⟩] [0, 1, 5] []) (.block 0 (.loop laws_eqInt64SS_k1))) laws_eqInt64SS_k2))) }
noncomputable def laws_eqInt64SS_D : List (Nat × Callee) := [(42, laws_eqInt64S_c)]
def laws_eqInt64SS_H : List (Nat × ET) := [(6, (.one (.sl (.one (.int .i64))))), (8, (.one (.sl (.one (.int .i64))))), (12, (.one (.sl (.one (.int .i64))))), (17, (.one (.sl (.one (.int .i64))))), (20, (.one (.int .i64))), (21, (.one (.sl (.one (.int .i64))))), (24, (.one (.int .i64)))]
noncomputable def laws_eqInt64SS_c : Callee := mkCallee laws_eqInt64SS_D laws_eqInt64SS_H laws_eqInt64SS_ir [.d (.one (.sl (.one (.sl (.one (.int .i64)))))), .d (.one (.sl (.one (.sl (.one (.int .i64))))))] [.d (.one .bool)] []
noncomputable def laws_eqInt64SS (a0 : List (List Int)) (a1 : List (List Int)) : Option (Bool) := laws_eqInt64SS_c.f (a0, a1, ())
noncomputable def laws_eqInt64SS_p0  (v0 : List (List Int)) (v1 : List (List Int)) (v5 : Int) : Option (Bool) :=
  goL laws_eqInt64SS_D laws_eqInt64SS_H (vleave laws_eqInt64SS_ir [.d (.one (.sl (.one (.sl (.one (.int .i64)))))), .d (.one (.sl (.one (.sl (.one (.int .i64))))))] [.d (.one .bool)] [] []) [.c laws_eqInt64SS_k0, .l laws_eqInt64SS_k1, .e 0, .c laws_eqInt64SS_k2]
    ⟨[(0, .sl (.one (.sl (.one (.int .i64)))) v0), (1, .sl (.one (.sl (.one (.int .i64)))) v1), (5, .int .i64 v5)], []⟩
theorem laws_eqInt64SS_eq (a0 : List (List Int)) (a1 : List (List Int)) : laws_eqInt64SS a0 a1 =
    if ((a0.length : Int) != (a1.length : Int)) then
      some false
    else
      laws_eqInt64SS_p0 a0 a1 0 :=
  (mk_f _ _ _ _ _ _ _ 4000).trans (by kernel_rfl)
theorem laws_eqInt64SS_p0_eq  (v0 : List (List Int)) (v1 : List (List Int)) (v5 : Int) : laws_eqInt64SS_p0 v0 v1 v5 =
    if decide (v5 < (v0.length : Int)) then
      if decide (0 ≤ v5) then
        (v0[v5.toNat]?).bind fun x1 =>
          if decide (0 ≤ v5) then
            (v1[v5.toNat]?).bind fun x2 =>
              (laws_eqInt64S x1 x2).bind fun x3 =>
                if (!x3) then
                  some false
                else
                  laws_eqInt64SS_p0 v0 v1 (IntKind.i64.wrap (v5 + 1))
          else
            none
      else
        none
    else
      some true :=
  (goL_dn _ _ _ 4000 _ _).trans (by kernel_rfl)

/- laws.eqNeck -/
def laws_eqNeck_ir : Fn := { np := 2, io := [], res := [.t 4], own := [false], body :=
  (.seq (.reg false [⟨some 2, true, .box 4 (.t 0), none⟩, ⟨some 3, true, .box 4 (.t 1), none⟩, ⟨some 4, false, .asg (.c (.bool false)), none⟩] [2, 3] [2, 3]) (.seq (.seq (.reg false [⟨some 5, false, .fa 0 (.t 2), none⟩, ⟨some 6, false, .ld none (.t 5), none⟩, ⟨some 7, false, .fa 0 (.t 3), none⟩, ⟨some 8, false, .ld none (.t 7), none⟩, ⟨some 9, false, .bin .neq (.t 6) (.t 8), none⟩] [2, 3, 9] [2, 3]) (.cond (.t 9) (.seq (.reg false [⟨some 4, false, .asg (.c (.bool false)), none⟩] [4] []) .ret) .skip)) (.seq (.seq (.reg false [⟨some 10, false, .fa 1 (.t 2), none⟩, ⟨some 11, false, .ld none (.t 10), none⟩, ⟨some 12, false, .fa 1 (.t 3), none⟩, ⟨some 13, false, .ld none (.t 12), none⟩, ⟨some 14, false, .bin .neq (.t 11) (.t 13), none⟩] [2, 3, 14] [2, 3]) (.cond (.t 14) (.seq (.reg false [⟨some 4, false, .asg (.c (.bool false)), none⟩] [4] []) .ret) .skip)) (.seq (.seq (.reg false [⟨some 15, false, .fa 2 (.t 2), none⟩, ⟨some 16, false, .ld none (.t 15), none⟩, ⟨some 17, false, .fa 2 (.t 3), none⟩, ⟨some 18, false, .ld none (.t 17), none⟩, ⟨some 19, false, .bin .neq (.t 16) (.t 18), none⟩] [2, 3, 19] [2, 3]) (.cond (.t 19) (.seq (.reg false [⟨some 4, false, .asg (.c (.bool false)), none⟩] [4] []) .ret) .skip)) (.seq (.seq (.reg false [⟨some 20, false, .fa 3 (.t 2), none⟩, ⟨some 21, false, .ld none (.t 20), none⟩, ⟨some 22, false, .fa 3 (.t 3), none⟩, ⟨some 23, false, .ld none (.t 22), none⟩, ⟨some 24, false, .bin .neq (.t 21) (.t 23), none⟩] [24] []) (.cond (.t 24) (.seq (.reg false [⟨some 4, false, .asg (.c (.bool false)), none⟩] [4] []) .ret) .skip)) (.seq (.reg false [⟨some 4, false, .asg (.c (.bool true)), none⟩] [4] []) .ret)))))) }
noncomputable def laws_eqNeck_D : List (Nat × Callee) := []
def laws_eqNeck_H : List (Nat × ET) := []
noncomputable def laws_eqNeck_c : Callee := mkCallee laws_eqNeck_D laws_eqNeck_H laws_eqNeck_ir [.d T_Neck, .d T_Neck] [.d (.one .bool)] []
noncomputable def laws_eqNeck (a0 : T_Neck.ty) (a1 : T_Neck.ty) : Option (Bool) := laws_eqNeck_c.f (a0, a1, ())
theorem laws_eqNeck_eq (a0 : T_Neck.ty) (a1 : T_Neck.ty) : laws_eqNeck a0 a1 =
    if (a0.1 != a1.1) then
      some false
    else
      if (a0.2.1 != a1.2.1) then
        some false
      else
        if (a0.2.2.1 != a1.2.2.1) then
          some false
        else
          if (a0.2.2.2.1 != a1.2.2.2.1) then
            some false
          else
            some true :=
  (mk_f _ _ _ _ _ _ _ 4000).trans (by kernel_rfl)

/- laws.eqPeg -/
def laws_eqPeg_ir : Fn := { np := 2, io := [], res := [.t 4], own := [false], body :=
  (.seq (.reg false [⟨some 2, true, .box 4 (.t 0), none⟩, ⟨some 3, true, .box 4 (.t 1), none⟩, ⟨some 4, false, .asg (.c (.bool false)), none⟩] [2, 3] [2, 3]) (.seq (.seq (.reg false [⟨some 5, false, .fa 0 (.t 2), none⟩, ⟨some 6, false, .ld none (.t 5), none⟩, ⟨some 7, false, .fa 0 (.t 3), none⟩, ⟨some 8, false, .ld none (.t 7), none⟩, ⟨some 9, false, .bin .neq (.t 6) (.t 8), none⟩] [2, 3, 9] [2, 3]) (.cond (.t 9) (.seq (.reg false [⟨some 4, false, .asg (.c (.bool false)), none⟩] [4] []) .ret) .skip)) (.seq (.seq (.reg false [⟨some 10, false, .fa 1 (.t 2), none⟩, ⟨some 11, false, .ld none (.t 10), none⟩, ⟨some 12, false, .fa 1 (.t 3), none⟩, ⟨some 13, false, .ld none (.t 12), none⟩, ⟨some 14, false, .bin .neq (.t 11) (.t 13), none⟩] [2, 3, 14] [2, 3]) (.cond (.t 14) (.seq (.reg false [⟨some 4, false, .asg (.c (.bool false)), none⟩] [4] []) .ret) .skip)) (.seq (.seq (.reg false [⟨some 15, false, .fa 2 (.t 2), none⟩, ⟨some 16, false, .ld none (.t 15), none⟩, ⟨some 17, false, .fa 2 (.t 3), none⟩, ⟨some 18, false, .ld none (.t 17), none⟩, ⟨some 19, false, .bin .neq (.t 16) (.t 18), none⟩] [2, 3, 19] [2, 3]) (.cond (.t 19) (.seq (.reg false [⟨some 4, false, .asg (.c (.bool false)), none⟩] [4] []) .ret) .skip)) (.seq (.seq (.reg false [⟨some 20, false, .fa 3 (.t 2), none⟩, ⟨some 21, false, .ld none (.t 20), none⟩, ⟨some 22, false, .fa 3 (.t 3), none⟩, ⟨some 23, false, .ld none (.t 22), none⟩, ⟨some 24, false, .bin .neq (.t 21) (.t 23), none⟩] [24] []) (.cond (.t 24) (.seq (.reg false [⟨some 4, false, .asg (.c (.bool false)), none⟩] [4] []) .ret) .skip)) (.seq (.reg false [⟨some 4, false, .asg (.c (.bool true)), none⟩] [4] []) .ret)))))) }
noncomputable def laws_eqPeg_D : List (Nat × Callee) := []
def laws_eqPeg_H : List (Nat × ET) := []
noncomputable def laws_eqPeg_c : Callee := mkCallee laws_eqPeg_D laws_eqPeg_H laws_eqPeg_ir [.d T_Peg, .d T_Peg] [.d (.one .bool)] []
noncomputable def laws_eqPeg (a0 : T_Peg.ty) (a1 : T_Peg.ty) : Option (Bool) := laws_eqPeg_c.f (a0, a1, ())
theorem laws_eqPeg_eq (a0 : T_Peg.ty) (a1 : T_Peg.ty) : laws_eqPeg a0 a1 =
    if (!(a0.1 == a1.1)) then
      some false
    else
      if (a0.2.1 != a1.2.1) then
        some false
      else
        if (a0.2.2.1 != a1.2.2.1) then
          some false
        else
          if (a0.2.2.2.1 != a1.2.2.2.1) then
            some false
          else
            some true :=
  (mk_f _ _ _ _ _ _ _ 4000).trans (by kernel_rfl)

/- laws.eqPegS -/
def laws_eqPegS_k0 : C :=
  .seq (.seq (.reg false [⟨some 11, false, .mv (.t 5), none⟩, ⟨some 12, false, .mv (.t 0), none⟩, ⟨some 13, false, .len (.t 12), none⟩, ⟨some 14, false, .bin .lss (.t 11) (.t 13), none⟩] [0, 1, 5, 14] []) (.cond (.t 14) .skip (.exit 0))) (.seq (.block 1 (.seq (.reg true [⟨some 17, false, .mv (.t 0), none⟩, ⟨some 18, false, .mv (.t 5), none⟩, ⟨some 19, false, .ia 4 (.t 17) (.t 18), none⟩, ⟨some 20, false, .ld (some 4) (.t 19), none⟩, ⟨some 21, false, .mv (.t 1), none⟩, ⟨some 22, false, .mv (.t 5), none⟩, ⟨some 23, false, .ia 4 (.t 21) (.t 22), none⟩, ⟨some 24, false, .ld (some 4) (.t 23), none⟩, ⟨some 25, false, .call (.c (.fn 502 [])) [.t 20, .t 24], none⟩, ⟨some 26, false, .un .not (.t 25), none⟩] [0, 1, 5, 26] []) (.cond (.t 26) (.seq (.reg false [⟨some 4, false, .asg (.c (.bool false)), none⟩] [4] []) .ret) .skip))) (.reg false [⟨some 15, false, .mv (.t 5), none⟩, ⟨some 16, false, .bin .add (.t 15) (.c (.int .i64 1)), none⟩, ⟨some 5, false, .asg (.t 16), none⟩] [0, 1, 5] []))
def laws_eqPegS_k1 : C :=
  .norm [0, 1, 5] [] laws_eqPegS_k0
def laws_eqPegS_k2 : C :=
  .seq (.reg false [⟨some 4, false, .asg (.c (.bool true)), none⟩] [4] []) .ret
def laws_eqPegS_ir : Fn := { np := 2, io := [], res := [.t 4], own := [false], body :=
  (.seq (.reg false [⟨some 4, false, .asg (.c (.bool false)), none⟩] [0, 1] []) (.seq (.seq (.reg false [⟨some 6, false, .mv (.t 0), none⟩, ⟨some 7, false, .len (.t 6), none⟩, ⟨some 8, false, .mv (.t 1), none⟩, ⟨some 9, false, .len (.t 8), none⟩, ⟨some 10, false, .bin .neq (.t 7) (.t 9), none⟩] [0, 1, 10] []) (.cond (.t 10) (.seq (.reg false [⟨some 4, false, .asg (.c (.bool false)), none⟩] [4] []) .ret) .skip)) (.seq (.seq (.reg false [⟨some 5, false, .asg (.c (.int .i64 0)), none⟩] [0, 1, 5] []) (.block 0 (.loop laws_eqPegS_k1))) laws_eqPegS_k2))) }
noncomputable def laws_eqPegS_D : List (Nat × Callee) := [(502, laws_eqPeg_c)]
def laws_eqPegS_H : List (Nat × ET) := [(6, T_Peg), (8, T_Peg), (12, T_Peg), (17, T_Peg), (21, T_Peg)]
noncomputable def laws_eqPegS_c : Callee := mkCallee laws_eqPegS_D laws_eqPegS_H laws_eqPegS_ir [.d (.one (.sl T_Peg)), .d (.one (.sl T_Peg))] [.d (.one .bool)] []
noncomputable def laws_eqPegS (a0 : List T_Peg.ty) (a1 : List T_Peg.ty) : Option (Bool) := laws_eqPegS_c.f (a0, a1, ())
noncomputable def laws_eqPegS_p0  (v0 : List T_Peg.ty) (v1 : List T_Peg.ty) (v5 : Int) : Option (Bool) :=
  goL laws_eqPegS_D laws_eqPegS_H (vleave laws_eqPegS_ir [.d (.one (.sl T_Peg)), .d (.one (.sl T_Peg))] [.d (.one .bool)] [] []) [.c laws_eqPegS_k0, .l laws_eqPegS_k1, .e 0, .c laws_eqPegS_k2]
    ⟨[(0, .sl T_Peg v0), (1, .sl T_Peg v1), (5, .int .i64 v5)], []⟩
theorem laws_eqPegS_eq (a0 : List T_Peg.ty) (a1 : List T_Peg.ty) : laws_eqPegS a0 a1 =
    if ((a0.length : Int) != (a1.length : Int)) then
      some false
    else
      laws_eqPegS_p0 a0 a1 0 :=
  (mk_f _ _ _ _ _ _ _ 4000).trans (by kernel_rfl)
theorem laws_eqPegS_p0_eq  (v0 : List T_Peg.ty) (v1 : List T_Peg.ty) (v5 : Int) : laws_eqPegS_p0 v0 v1 v5 =
    if decide (v5 < (v0.length : Int)) then
      if decide (0 ≤ v5) then
        (v0[v5.toNat]?).bind fun x1 =>
          if decide (0 ≤ v5) then
            (v1[v5.toNat]?).bind fun x2 =>
              (laws_eqPeg x1 x2).bind fun x3 =>
                if (!x3) then
                  some false
                else
                  laws_eqPegS_p0 v0 v1 (IntKind.i64.wrap (v5 + 1))
          else
            none
      else
        none
    else
      some true :=
  (goL_dn _ _ _ 4000 _ _).trans (by kernel_rfl)

/- laws.eqPot -/
def laws_eqPot_ir : Fn := { np := 2, io := [], res := [.t 4], own := [false], body :=
  (.seq (.reg false [⟨some 2, true, .box 5 (.t 0), none⟩, ⟨some 3, true, .box 5 (.t 1), none⟩, ⟨some 4, false, .asg (.c (.bool false)), none⟩] [2, 3] [2, 3]) (.seq (.seq (.reg false [⟨some 5, false, .fa 0 (.t 2), none⟩, ⟨some 6, false, .ld none (.t 5), none⟩, ⟨some 7, false, .fa 0 (.t 3), none⟩, ⟨some 8, false, .ld none (.t 7), none⟩, ⟨some 9, false, .bin .neq (.t 6) (.t 8), none⟩] [2, 3, 9] [2, 3]) (.cond (.t 9) (.seq (.reg false [⟨some 4, false, .asg (.c (.bool false)), none⟩] [4] []) .ret) .skip)) (.seq (.seq (.reg false [⟨some 10, false, .fa 1 (.t 2), none⟩, ⟨some 11, false, .ld none (.t 10), none⟩, ⟨some 12, false, .fa 1 (.t 3), none⟩, ⟨some 13, false, .ld none (.t 12), none⟩, ⟨some 14, false, .bin .neq (.t 11) (.t 13), none⟩] [2, 3, 14] [2, 3]) (.cond (.t 14) (.seq (.reg false [⟨some 4, false, .asg (.c (.bool false)), none⟩] [4] []) .ret) .skip)) (.seq (.seq (.reg false [⟨some 15, false, .fa 2 (.t 2), none⟩, ⟨some 16, false, .ld none (.t 15), none⟩, ⟨some 17, false, .fa 2 (.t 3), none⟩, ⟨some 18, false, .ld none (.t 17), none⟩, ⟨some 19, false, .bin .neq (.t 16) (.t 18), none⟩] [2, 3, 19] [2, 3]) (.cond (.t 19) (.seq (.reg false [⟨some 4, false, .asg (.c (.bool false)), none⟩] [4] []) .ret) .skip)) (.seq (.seq (.reg false [⟨some 20, false, .fa 3 (.t 2), none⟩, ⟨some 21, false, .ld none (.t 20), none⟩, ⟨some 22, false, .fa 3 (.t 3), none⟩, ⟨some 23, false, .ld none (.t 22), none⟩, ⟨some 24, false, .bin .neq (.t 21) (.t 23), none⟩] [2, 3, 24] [2, 3]) (.cond (.t 24) (.seq (.reg false [⟨some 4, false, .asg (.c (.bool false)), none⟩] [4] []) .ret) .skip)) (.seq (.seq (.reg false [⟨some 25, false, .fa 4 (.t 2), none⟩, ⟨some 26, false, .ld none (.t 25), none⟩, ⟨some 27, false, .fa 4 (.t 3), none⟩, ⟨some 28, false, .ld none (.t 27), none⟩, ⟨some 29, false, .bin .neq (.t 26) (.t 28), none⟩] [29] []) (.cond (.t 29) (.seq (.reg false [⟨some 4, false, .asg (.c (.bool false)), none⟩] [4] []) .ret) .skip)) (.seq (.reg false [⟨some 4, false, .asg (.c (.bool true)), none⟩] [4] []) .ret))))))) }
noncomputable def laws_eqPot_D : List (Nat × Callee) := []
def laws_eqPot_H : List (Nat × ET) := []
noncomputable def laws_eqPot_c : Callee := mkCallee laws_eqPot_D laws_eqPot_H laws_eqPot_ir [.d T_Pot, .d T_Pot] [.d (.one .bool)] []
noncomputable def laws_eqPot (a0 : T_Pot.ty) (a1 : T_Pot.ty) : Option (Bool) := laws_eqPot_c.f (a0, a1, ())
theorem laws_eqPot_eq (a0 : T_Pot.ty) (a1 : T_Pot.ty) : laws_eqPot a0 a1 =
    if (!(a0.1 == a1.1)) then
      some false
    else
      if (a0.2.1 != a1.2.1) then
        some false
      else
        if (a0.2.2.1 != a1.2.2.1) then
          some false
        else
          if (a0.2.2.2.1 != a1.2.2.2.1) then
            some false
          else
            if (a0.2.2.2.2.1 != a1.2.2.2.2.1) then
              some false
            else
              some true :=
  (mk_f _ _ _ _ _ _ _ 4000).trans (by kernel_rfl)

/- laws.eqPotS -/
def laws_eqPotS_k0 : C :=
  .seq (.seq (.reg false [⟨some 11, false, .mv (.t 5), none⟩, ⟨some 12, false, .mv (.t 0), none⟩, ⟨some 13, false, .len (.t 12), none⟩, ⟨some 14, false, .bin .lss (.t 11) (.t 13), none⟩] [0, 1, 5, 14] []) (.cond (.t 14) .skip (.exit 0))) (.seq (.block 1 (.seq (.reg true [⟨some 17, false, .mv (.t 0), none⟩, ⟨some 18, false, .mv (.t 5), none⟩, ⟨some 19, false, .ia 5 (.t 17) (.t 18), none⟩, ⟨some 20, false, .ld (some 5) (.t 19), none⟩, ⟨some 21, false, .mv (.t 1), none⟩, ⟨some 22, false, .mv (.t 5), none⟩, ⟨some 23, false, .ia 5 (.t 21) (.t 22), none⟩, ⟨some 24, false, .ld (some 5) (.t 23), none⟩, ⟨some 25, false, .call (.c (.fn 58 [])) [.t 20, .t 24], none⟩, ⟨some 26, false, .un .not (.t 25), none⟩] [0, 1, 5, 26] []) (.cond (.t 26) (.seq (.reg false [⟨some 4, false, .asg (.c (.bool false)), none⟩] [4] []) .ret) .skip))) (.reg false [⟨some 15, false, .mv (.t 5), none⟩, ⟨some 16, false, .bin .add (.t 15) (.c (.int .i64 1)), none⟩, ⟨some 5, false, .asg (.t 16), none⟩] [0, 1, 5] []))
def laws_eqPotS_k1 : C :=
  .norm [0, 1, 5] [] laws_eqPotS_k0
def laws_eqPotS_k2 : C :=
  .seq (.reg false [⟨some 4, false, .asg (.c (.bool true)), none⟩] [4] []) .ret
def laws_eqPotS_ir : Fn := { np := 2, io := [], res := [.t 4], own := [false], body :=
  (.seq (.reg false [⟨some 4, false, .asg (.c (.bool false)), none⟩] [0, 1] []) (.seq (.seq (.reg false [⟨some 6, false, .mv (.t 0), none⟩, ⟨some 7, false, .len (.t 6), none⟩, ⟨some 8, false, .mv (.t 1), none⟩, ⟨some 9, false, .len (.t 8), none⟩, ⟨some 10, false, .bin .neq (.t 7) (.t 9), none⟩] [0, 1, 10] []) (.cond (.t 10) (.seq (.reg false [⟨some 4, false, .asg (.c (.bool false)), none⟩] [4] []) .ret) .skip)) (.seq (.seq (.reg false [⟨some 5, false, .asg (.c (.int .i64 0)), none⟩] [0, 1, 5] []) (.block 0 (.loop laws_eqPotS_k1))) laws_eqPotS_k2))) }
noncomputable def laws_eqPotS_D : List (Nat × Callee) := [(58, laws_eqPot_c)]
def laws_eqPotS_H : List (Nat × ET) := [(6, T_Pot), (8, T_Pot), (12, T_Pot), (17, T_Pot), (21, T_Pot)]
noncomputable def laws_eqPotS_c : Callee := mkCallee laws_eqPotS_D laws_eqPotS_H laws_eqPotS_ir [.d (.one (.sl T_Pot)), .d (.one (.sl T_Pot))] [.d (.one .bool)] []
noncomputable def laws_eqPotS (a0 : List T_Pot.ty) (a1 : List T_Pot.ty) : Option (Bool) := laws_eqPotS_c.f (a0, a1, ())
noncomputable def laws_eqPotS_p0  (v0 : List T_Pot.ty) (v1 : List T_Pot.ty) (v5 : Int) : Option (Bool) :=
  goL laws_eqPotS_D laws_eqPotS_H (vleave laws_eqPotS_ir [.d (.one (.sl T_Pot)), .d (.one (.sl T_Pot))] [.d (.one .bool)] [] []) [.c laws_eqPotS_k0, .l laws_eqPotS_k1, .e 0, .c laws_eqPotS_k2]
    ⟨[(0, .sl T_Pot v0), (1, .sl T_Pot v1), (5, .int .i64 v5)], []⟩
theorem laws_eqPotS_eq (a0 : List T_Pot.ty) (a1 : List T_Pot.ty) : laws_eqPotS a0 a1 =
    if ((a0.length : Int) != (a1.length : Int)) then
      some false
    else
      laws_eqPotS_p0 a0 a1 0 :=
  (mk_f _ _ _ _ _ _ _ 4000).trans (by kernel_rfl)
theorem laws_eqPotS_p0_eq  (v0 : List T_Pot.ty) (v1 : List T_Pot.ty) (v5 : Int) : laws_eqPotS_p0 v0 v1 v5 =
    if decide (v5 < (v0.length : Int)) then
      if decide (0 ≤ v5) then
        (v0[v5.toNat]?).bind fun x1 =>
          if decide (0 ≤ v5) then
            (v1[v5.toNat]?).bind fun x2 =>
              (laws_eqPot x1 x2).bind fun x3 =>
                if (!x3) then
                  some false
                else
                  laws_eqPotS_p0 v0 v1 (IntKind.i64.wrap (v5 + 1))
          else
            none
      else
        none
    else
      some true :=
  (goL_dn _ _ _ 4000 _ _).trans (by kernel_rfl)

/- laws.eqMode -/
def laws_eqMode_ir : Fn := { np := 2, io := [], res := [.t 4], own := [false], body :=
  (.seq (.reg false [⟨some 2, true, .box 3 (.t 0), none⟩, ⟨some 3, true, .box 3 (.t 1), none⟩, ⟨some 4, false, .asg (.c (.bool false)), none⟩] [2, 3] [2, 3]) (.seq (.seq (.reg false [⟨some 5, false, .fa 0 (.t 2), none⟩, ⟨some 6, false, .ld none (.t 5), none⟩, ⟨some 7, false, .fa 0 (.t 3), none⟩, ⟨some 8, false, .ld none (.t 7), none⟩, ⟨some 9, false, .bin .neq (.t 6) (.t 8), none⟩] [2, 3, 9] [2, 3]) (.cond (.t 9) (.seq (.reg false [⟨some 4, false, .asg (.c (.bool false)), none⟩] [4] []) .ret) .skip)) (.seq (.seq (.reg false [⟨some 10, false, .fa 1 (.t 2), none⟩, ⟨some 11, false, .ld none (.t 10), none⟩, ⟨some 12, false, .fa 1 (.t 3), none⟩, ⟨some 13, false, .ld none (.t 12), none⟩, ⟨some 14, false, .bin .neq (.t 11) (.t 13), none⟩] [2, 3, 14] [2, 3]) (.cond (.t 14) (.seq (.reg false [⟨some 4, false, .asg (.c (.bool false)), none⟩] [4] []) .ret) .skip)) (.seq (.seq (.reg false [⟨some 15, false, .fa 2 (.t 2), none⟩, ⟨some 16, false, .ld none (.t 15), none⟩, ⟨some 17, false, .fa 2 (.t 3), none⟩, ⟨some 18, false, .ld none (.t 17), none⟩, ⟨some 19, false, .bin .neq (.t 16) (.t 18), none⟩] [19] []) (.cond (.t 19) (.seq (.reg false [⟨some 4, false, .asg (.c (.bool false)), none⟩] [4] []) .ret) .skip)) (.seq (.reg false [⟨some 4, false, .asg (.c (.bool true)), none⟩] [4] []) .ret))))) }
noncomputable def laws_eqMode_D : List (Nat × Callee) := []
def laws_eqMode_H : List (Nat × ET) := []
noncomputable def laws_eqMode_c : Callee := mkCallee laws_eqMode_D laws_eqMode_H laws_eqMode_ir [.d T_Mode, .d T_Mode] [.d (.one .bool)] []
noncomputable def laws_eqMode (a0 : T_Mode.ty) (a1 : T_Mode.ty) : Option (Bool) := laws_eqMode_c.f (a0, a1, ())
theorem laws_eqMode_eq (a0 : T_Mode.ty) (a1 : T_Mode.ty) : laws_eqMode a0 a1 =
    if (!(a0.1 == a1.1)) then
      some false
    else
      if (a0.2.1 != a1.2.1) then
        some false
      else
        if (a0.2.2.1 != a1.2.2.1) then
          some false
        else
          some true :=
  (mk_f _ _ _ _ _ _ _ 4000).trans (by kernel_rfl)

/- laws.eqModeS -/
def laws_eqModeS_k0 : C :=
  .seq (.seq (.reg false [⟨some 11, false, .mv (.t 5), none⟩, ⟨some 12, false, .mv (.t 0), none⟩, ⟨some 13, false, .len (.t 12), none⟩, ⟨some 14, false, .bin .lss (.t 11) (.t 13), none⟩] [0, 1, 5, 14] []) (.cond (.t 14) .skip (.exit 0))) (.seq (.block 1 (.seq (.reg true [⟨some 17, false, .mv (.t 0), none⟩, ⟨some 18, false, .mv (.t 5), none⟩, ⟨some 19, false, .ia 3 (.t 17) (.t 18), none⟩, ⟨some 20, false, .ld (some 3) (.t 19), none⟩, ⟨some 21, false, .mv (.t 1), none⟩, ⟨some 22, false, .mv (.t 5), none⟩, ⟨some 23, false, .ia 3 (.t 21) (.t 22), none⟩, ⟨some 24, false, .ld (some 3) (.t 23), none⟩, ⟨some 25, false, .call (.c (.fn 883 [])) [.t 20, .t 24], none⟩, ⟨some 26, false, .un .not (.t 25), none⟩] [0, 1, 5, 26] []) (.cond (.t 26) (.seq (.reg false [⟨some 4, false, .asg (.c (.bool false)), none⟩] [4] []) .ret) .skip))) (.reg false [⟨some 15, false, .mv (.t 5), none⟩, ⟨some 16, false, .bin .add (.t 15) (.c (.int .i64 1)), none⟩, ⟨some 5, false, .asg (.t 16), none⟩] [0, 1, 5] []))
def laws_eqModeS_k1 : C :=
  .norm [0, 1, 5] [] laws_eqModeS_k0
def laws_eqModeS_k2 : C :=
  .seq (.reg false [⟨some 4, false, .asg (.c (.bool true)), none⟩] [4] []) .ret
def laws_eqModeS_ir : Fn := { np := 2, io := [], res := [.t 4], own := [false], body :=
  (.seq (.reg false [⟨some 4, false, .asg (.c (.bool false)), none⟩] [0, 1] []) (.seq (.seq (.reg false [⟨some 6, false, .mv (.t 0), none⟩, ⟨some 7, false, .len (.t 6), none⟩, ⟨some 8, false, .mv (.t 1), none⟩, ⟨some 9, false, .len (.t 8), none⟩, ⟨some 10, false, .bin .neq (.t 7) (.t 9), none⟩] [0, 1, 10] []) (.cond (.t 10) (.seq (.reg false [⟨some 4, false, .asg (.c (.bool false)), none⟩] [4] []) .ret) .skip)) (.seq (.seq (.reg false [⟨some 5, false, .asg (.c (.int .i64 0)), none⟩] [0, 1, 5] []) (.block 0 (.loop laws_eqModeS_k1))) laws_eqModeS_k2))) }
noncomputable def laws_eqModeS_D : List (Nat × Callee) := [(883, laws_eqMode_c)]
def laws_eqModeS_H : List (Nat × ET) := [(6, T_Mode), (8, T_Mode), (12, T_Mode), (17, T_Mode), (21, T_Mode)]
noncomputable def laws_eqModeS_c : Callee := mkCallee laws_eqModeS_D laws_eqModeS_H laws_eqModeS_ir [.d (.one (.sl T_Mode)), .d (.one (.sl T_Mode))] [.d (.one .bool)] []
noncomputable def laws_eqModeS (a0 : List T_Mode.ty) (a1 : List T_Mode.ty) : Option (Bool) := laws_eqModeS_c.f (a0, a1, ())
noncomputable def laws_eqModeS_p0  (v0 : List T_Mode.ty) (v1 : List T_Mode.ty) (v5 : Int) : Option (Bool) :=
  goL laws_eqModeS_D laws_eqModeS_H (vleave laws_eqModeS_ir [.d (.one (.sl T_Mode)), .d (.one (.sl T_Mode))] [.d (.one .bool)] [] []) [.c laws_eqModeS_k0, .l laws_eqModeS_k1, .e 0, .c laws_eqModeS_k2]
    ⟨[(0, .sl T_Mode v0), (1, .sl T_Mode v1), (5, .int .i64 v5)], []⟩
theorem laws_eqModeS_eq (a0 : List T_Mode.ty) (a1 : List T_Mode.ty) : laws_eqModeS a0 a1 =
    if ((a0.length : Int) != (a1.length : Int)) then
      some false
    else
      laws_eqModeS_p0 a0 a1 0 :=
  (mk_f _ _ _ _ _ _ _ 4000).trans (by kernel_rfl)
theorem laws_eqModeS_p0_eq  (v0 : List T_Mode.ty) (v1 : List T_Mode.ty) (v5 : Int) : laws_eqModeS_p0 v0 v1 v5 =
    if decide (v5 < (v0.length : Int)) then
      if decide (0 ≤ v5) then
        (v0[v5.toNat]?).bind fun x1 =>
          if decide (0 ≤ v5) then
            (v1[v5.toNat]?).bind fun x2 =>
              (laws_eqMode x1 x2).bind fun x3 =>
                if (!x3) then
                  some false
                else
                  laws_eqModeS_p0 v0 v1 (IntKind.i64.wrap (v5 + 1))
          else
            none
      else
        none
    else
      some true :=
  (goL_dn _ _ _ 4000 _ _).trans (by kernel_rfl)

/- laws.eqWork -/
def laws_eqWork_ir : Fn := { np := 2, io := [], res := [.t 4], own := [false], body :=
  (.seq (.reg false [⟨some 2, true, .box 4 (.t 0), none⟩, ⟨some 3, true, .box 4 (.t 1), none⟩, ⟨some 4, false, .asg (.c (.bool false)), none⟩] [2, 3] [2, 3]) (.seq (.seq (.reg false [⟨some 5, false, .fa 0 (.t 2), none⟩, ⟨some 6, false, .ld none (.t 5), none⟩, ⟨some 7, false, .fa 0 (.t 3), none⟩, ⟨some 8, false, .ld none (.t 7), none⟩, ⟨some 9, false, .bin .neq (.t 6) (.t 8), none⟩] [2, 3, 9] [2, 3]) (.cond (.t 9) (.seq (.reg false [⟨some 4, false, .asg (.c (.bool false)), none⟩] [4] []) .ret) .skip)) (.seq (.seq (.reg false [⟨some 10, false, .fa 1 (.t 2), none⟩, ⟨some 11, false, .ld none (.t 10), none⟩, ⟨some 12, false, .fa 1 (.t 3), none⟩, ⟨some 13, false, .ld none (.t 12), none⟩, ⟨some 14, false, .bin .neq (.t 11) (.t 13), none⟩] [2, 3, 14] [2, 3]) (.cond (.t 14) (.seq (.reg false [⟨some 4, false, .asg (.c (.bool false)), none⟩] [4] []) .ret) .skip)) (.seq (.seq (.reg false [⟨some 15, false, .fa 2 (.t 2), none⟩, ⟨some 16, false, .ld none (.t 15), none⟩, ⟨some 17, false, .fa 2 (.t 3), none⟩, ⟨some 18, false, .ld none (.t 17), none⟩, ⟨some 19, false, .bin .neq (.t 16) (.t 18), none⟩] [2, 3, 19] [2, 3]) (.cond (.t 19) (.seq (.reg false [⟨some 4, false, .asg (.c (.bool false)), none⟩] [4] []) .ret) .skip)) (.seq (.seq (.reg false [⟨some 20, false, .fa 3 (.t 2), none⟩, ⟨some 21, false, .ld none (.t 20), none⟩, ⟨some 22, false, .fa 3 (.t 3), none⟩, ⟨some 23, false, .ld none (.t 22), none⟩, ⟨some 24, false, .bin .neq (.t 21) (.t 23), none⟩] [24] []) (.cond (.t 24) (.seq (.reg false [⟨some 4, false, .asg (.c (.bool false)), none⟩] [4] []) .ret) .skip)) (.seq (.reg false [⟨some 4, false, .asg (.c (.bool true)), none⟩] [4] []) .ret)))))) }
noncomputable def laws_eqWork_D : List (Nat × Callee) := []
def laws_eqWork_H : List (Nat × ET) := []
noncomputable def laws_eqWork_c : Callee := mkCallee laws_eqWork_D laws_eqWork_H laws_eqWork_ir [.d T_Peg, .d T_Peg] [.d (.one .bool)] []
noncomputable def laws_eqWork (a0 : T_Peg.ty) (a1 : T_Peg.ty) : Option (Bool) := laws_eqWork_c.f (a0, a1, ())
theorem laws_eqWork_eq (a0 : T_Peg.ty) (a1 : T_Peg.ty) : laws_eqWork a0 a1 =
    if (!(a0.1 == a1.1)) then
      some false
    else
      if (a0.2.1 != a1.2.1) then
        some false
      else
        if (a0.2.2.1 != a1.2.2.1) then
          some false
        else
          if (a0.2.2.2.1 != a1.2.2.2.1) then
            some false
          else
            some true :=
  (mk_f _ _ _ _ _ _ _ 4000).trans (by kernel_rfl)

/- laws.eqWorkS -/
def laws_eqWorkS_k0 : C :=
  .seq (.seq (.reg false [⟨some 11, false, .mv (.t 5), none⟩, ⟨some 12, false, .mv (.t 0), none⟩, ⟨some 13, false, .len (.t 12), none⟩, ⟨some 14, false, .bin .lss (.t 11) (.t 13), none⟩] [0, 1, 5, 14] []) (.cond (.t 14) .skip (.exit 0))) (.seq (.block 1 (.seq (.reg true [⟨some 17, false, .mv (.t 0), none⟩, ⟨some 18, false, .mv (.t 5), none⟩, ⟨some 19, false, .ia 4 (.t 17) (.t 18), none⟩, ⟨some 20, false, .ld (some 4) (.t 19), none⟩, ⟨some 21, false, .mv (.t 1), none⟩, ⟨some 22, false, .mv (.t 5), none⟩, ⟨some 23, false, .ia 4 (.t 21) (.t 22), none⟩, ⟨some 24, false, .ld (some 4) (.t 23), none⟩, ⟨some 25, false, .call (.c (.fn 884 [])) [.t 20, .t 24], none⟩, ⟨some 26, false, .un .not (.t 25), none⟩] [0, 1, 5, 26] []) (.cond (.t 26) (.seq (.reg false [⟨some 4, false, .asg (.c (.bool false)), none⟩] [4] []) .ret) .skip))) (.reg false [⟨some 15, false, .mv (.t 5), none⟩, ⟨some 16, false, .bin .add (.t 15) (.c (.int .i64 1)), none⟩, ⟨some 5, false, .asg (.t 16), none⟩] [0, 1, 5] []))
def laws_eqWorkS_k1 : C :=
  .norm [0, 1, 5] [] laws_eqWorkS_k0
def laws_eqWorkS_k2 : C :=
  .seq (.reg false [⟨some 4, false, .asg (.c (.bool true)), none⟩] [4] []) .ret
def laws_eqWorkS_ir : Fn := { np := 2, io := [], res := [.t 4], own := [false], body :=
  (.seq (.reg false [⟨some 4, false, .asg (.c (.bool false)), none⟩] [0, 1] []) (.seq (.seq (.reg false [⟨some 6, false, .mv (.t 0), none⟩, ⟨some 7, false, .len (.t 6), none⟩, ⟨some 8, false, .mv (.t 1), none⟩, ⟨some 9, false, .len (.t 8), none⟩, ⟨some 10, false, .bin .neq (.t 7) (.t 9), none⟩] [0, 1, 10] []) (.cond (.t 10) (.seq (.reg false [⟨some 4, false, .asg (.c (.bool false)), none⟩] [4] []) .ret) .skip)) (.seq (.seq (.reg false [⟨some 5, false, .asg (.c (.int .i64 0)), none⟩] [0, 1, 5] []) (.block 0 (.loop laws_eqWorkS_k1))) laws_eqWorkS_k2))) }
noncomputable def laws_eqWorkS_D : List (Nat × Callee) := [(884, laws_eqWork_c)]
def laws_eqWorkS_H : List (Nat × ET) := [(6, T_Peg), (8, T_Peg), (12, T_Peg), (17, T_Peg), (21, T_Peg)]
noncomputable def laws_eqWorkS_c : Callee := mkCallee laws_eqWorkS_D laws_eqWorkS_H laws_eqWorkS_ir [.d (.one (.sl T_Peg)), .d (.one (.sl T_Peg))] [.d (.one .bool)] []
noncomputable def laws_eqWorkS (a0 : List T_Peg.ty) (a1 : List T_Peg.ty) : Option (Bool) := laws_eqWorkS_c.f (a0, a1, ())
noncomputable def laws_eqWorkS_p0  (v0 : List T_Peg.ty) (v1 : List T_Peg.ty) (v5 : Int) : Option (Bool) :=
  goL laws_eqWorkS_D laws_eqWorkS_H (vleave laws_eqWorkS_ir [.d (.one (.sl T_Peg)), .d (.one (.sl T_Peg))] [.d (.one .bool)] [] []) [.c laws_eqWorkS_k0, .l laws_eqWorkS_k1, .e 0, .c laws_eqWorkS_k2]
    ⟨[(0, .sl T_Peg v0), (1, .sl T_Peg v1), (5, .int .i64 v5)], []⟩
theorem laws_eqWorkS_eq (a0 : List T_Peg.ty) (a1 : List T_Peg.ty) : laws_eqWorkS a0 a1 =
    if ((a0.length : Int) != (a1.length : Int)) then
      some false
    else
      laws_eqWorkS_p0 a0 a1 0 :=
  (mk_f _ _ _ _ _ _ _ 4000).trans (by kernel_rfl)
theorem laws_eqWorkS_p0_eq  (v0 : List T_Peg.ty) (v1 : List T_Peg.ty) (v5 : Int) : laws_eqWorkS_p0 v0 v1 v5 =
    if decide (v5 < (v0.length : Int)) then
      if decide (0 ≤ v5) then
        (v0[v5.toNat]?).bind fun x1 =>
          if decide (0 ≤ v5) then
            (v1[v5.toNat]?).bind fun x2 =>
              (laws_eqWork x1 x2).bind fun x3 =>
                if (!x3) then
                  some false
                else
                  laws_eqWorkS_p0 v0 v1 (IntKind.i64.wrap (v5 + 1))
          else
            none
      else
        none
    else
      some true :=
  (goL_dn _ _ _ 4000 _ _).trans (by kernel_rfl)

/- laws.eqPaper -/
def laws_eqPaper_ir : Fn := { np := 2, io := [], res := [.t 4], own := [false], body :=
  (.seq (.reg false [⟨some 2, true, .box 5 (.t 0), none⟩, ⟨some 3, true, .box 5 (.t 1), none⟩, ⟨some 4, false, .asg (.c (.bool false)), none⟩] [2, 3] [2, 3]) (.seq (.seq (.reg false [⟨some 5, false, .fa 0 (.t 2), none⟩, ⟨some 6, false, .ld none (.t 5), none⟩, ⟨some 7, false, .fa 0 (.t 3), none⟩, ⟨some 8, false, .ld none (.t 7), none⟩, ⟨some 9, false, .bin .neq (.t 6) (.t 8), none⟩] [2, 3, 9] [2, 3]) (.cond (.t 9) (.seq (.reg false [⟨some 4, false, .asg (.c (.bool false)), none⟩] [4] []) .ret) .skip)) (.seq (.seq (.reg false [⟨some 10, false, .fa 1 (.t 2), none⟩, ⟨some 11, false, .ld none (.t 10), none⟩, ⟨some 12, false, .fa 1 (.t 3), none⟩, ⟨some 13, false, .ld none (.t 12), none⟩, ⟨some 14, false, .bin .neq (.t 11) (.t 13), none⟩] [2, 3, 14] [2, 3]) (.cond (.t 14) (.seq (.reg false [⟨some 4, false, .asg (.c (.bool false)), none⟩] [4] []) .ret) .skip)) (.seq (.seq (.reg false [⟨some 15, false, .fa 2 (.t 2), none⟩, ⟨some 16, false, .ld none (.t 15), none⟩, ⟨some 17, false, .fa 2 (.t 3), none⟩, ⟨some 18, false, .ld none (.t 17), none⟩, ⟨some 19, false, .bin .neq (.t 16) (.t 18), none⟩] [2, 3, 19] [2, 3]) (.cond (.t 19) (.seq (.reg false [⟨some 4, false, .asg (.c (.bool false)), none⟩] [4] []) .ret) .skip)) (.seq (.seq (.reg false [⟨some 20, false, .fa 3 (.t 2), none⟩, ⟨some 21, false, .ld none (.t 20), none⟩, ⟨some 22, false, .fa 3 (.t 3), none⟩, ⟨some 23, false, .ld none (.t 22), none⟩, ⟨some 24, false, .bin .neq (.t 21) (.t 23), none⟩] [2, 3, 24] [2, 3]) (.cond (.t 24) (.seq (.reg false [⟨some 4, false, .asg (.c (.bool false)), none⟩] [4] []) .ret) .skip)) (.seq (.seq (.reg false [⟨some 25, false, .fa 4 (.t 2), none⟩, ⟨some 26, false, .ld none (.t 25), none⟩, ⟨some 27, false, .fa 4 (.t 3), none⟩, ⟨some 28, false, .ld none (.t 27), none⟩, ⟨some 29, false, .bin .neq (.t 26) (.t 28), none⟩] [29] []) (.cond (.t 29) (.seq (.reg false [⟨some 4, false, .asg (.c (.bool false)), none⟩] [4] []) .ret) .skip)) (.seq (.reg false [⟨some 4, false, .asg (.c (.bool true)), none⟩] [4] []) .ret))))))) }
noncomputable def laws_eqPaper_D : List (Nat × Callee) := []
def laws_eqPaper_H : List (Nat × ET) := []
noncomputable def laws_eqPaper_c : Callee := mkCallee laws_eqPaper_D laws_eqPaper_H laws_eqPaper_ir [.d T_Paper, .d T_Paper] [.d (.one .bool)] []
noncomputable def laws_eqPaper (a0 : T_Paper.ty) (a1 : T_Paper.ty) : Option (Bool) := laws_eqPaper_c.f (a0, a1, ())
theorem laws_eqPaper_eq (a0 : T_Paper.ty) (a1 : T_Paper.ty) : laws_eqPaper a0 a1 =
    if (!(a0.1 == a1.1)) then
      some false
    else
      if (!(a0.2.1 == a1.2.1)) then
        some false
      else
        if (a0.2.2.1 != a1.2.2.1) then
          some false
        else
          if (a0.2.2.2.1 != a1.2.2.2.1) then
            some false
          else
            if (a0.2.2.2.2.1 != a1.2.2.2.2.1) then
              some false
            else
              some true :=
  (mk_f _ _ _ _ _ _ _ 4000).trans (by kernel_rfl)

/- laws.eqPaperS -/
def laws_eqPaperS_k0 : C :=
  .seq (.seq (.reg false [⟨some 11, false, .mv (.t 5), none⟩, ⟨some 12, false, .mv (.t 0), none⟩, ⟨some 13, false, .len (.t 12), none⟩, ⟨some 14, false, .bin .lss (.t 11) (.t 13), none⟩] [0, 1, 5, 14] []) (.cond (.t 14) .skip (.exit 0))) (.seq (.block 1 (.seq (.reg true [⟨some 17, false, .mv (.t 0), none⟩, ⟨some 18, false, .mv (.t 5), none⟩, ⟨some 19, false, .ia 5 (.t 17) (.t 18), none⟩, ⟨some 20, false, .ld (some 5) (.t 19), none⟩, ⟨some 21, false, .mv (.t 1), none⟩, ⟨some 22, false, .mv (.t 5), none⟩, ⟨some 23, false, .ia 5 (.t 21) (.t 22), none⟩, ⟨some 24, false, .ld (some 5) (.t 23), none⟩, ⟨some 25, false, .call (.c (.fn 728 [])) [.t 20, .t 24], none⟩, ⟨some 26, false, .un .not (.t 25), none⟩] [0, 1, 5, 26] []) (.cond (.t 26) (.seq (.reg false [⟨some 4, false, .asg (.c (.bool false)), none⟩] [4] []) .ret) .skip))) (.reg false [⟨some 15, false, .mv (.t 5), none⟩, ⟨some 16, false, .bin .add (.t 15) (.c (.int .i64 1)), none⟩, ⟨some 5, false, .asg (.t 16), none⟩] [0, 1, 5] []))
def laws_eqPaperS_k1 : C :=
  .norm [0, 1, 5] [] laws_eqPaperS_k0
def laws_eqPaperS_k2 : C :=
  .seq (.reg false [⟨some 4, false, .asg (.c (.bool true)), none⟩] [4] []) .ret
def laws_eqPaperS_ir : Fn := { np := 2, io := [], res := [.t 4], own := [false], body :=
  (.seq (.reg false [⟨some 4, false, .asg (.c (.bool false)), none⟩] [0, 1] []) (.seq (.seq (.reg false [⟨some 6, false, .mv (.t 0), none⟩, ⟨some 7, false, .len (.t 6), none⟩, ⟨some 8, false, .mv (.t 1), none⟩, ⟨some 9, false, .len (.t 8), none⟩, ⟨some 10, false, .bin .neq (.t 7) (.t 9), none⟩] [0, 1, 10] []) (.cond (.t 10) (.seq (.reg false [⟨some 4, false, .asg (.c (.bool false)), none⟩] [4] []) .ret) .skip)) (.seq (.seq (.reg false [⟨some 5, false, .asg (.c (.int .i64 0)), none⟩] [0, 1, 5] []) (.block 0 (.loop laws_eqPaperS_k1))) laws_eqPaperS_k2))) }
noncomputable def laws_eqPaperS_D : List (Nat × Callee) := [(728, laws_eqPaper_c)]
def laws_eqPaperS_H : List (Nat × ET) := [(6, T_Paper), (8, T_Paper), (12, T_Paper), (17, T_Paper), (21, T_Paper)]
noncomputable def laws_eqPaperS_c : Callee := mkCallee laws_eqPaperS_D laws_eqPaperS_H laws_eqPaperS_ir [.d (.one (.sl T_Paper)), .d (.one (.sl T_Paper))] [.d (.one .bool)] []
noncomputable def laws_eqPaperS (a0 : List T_Paper.ty) (a1 : List T_Paper.ty) : Option (Bool) := laws_eqPaperS_c.f (a0, a1, ())
noncomputable def laws_eqPaperS_p0  (v0 : List T_Paper.ty) (v1 : List T_Paper.ty) (v5 : Int) : Option (Bool) :=
  goL laws_eqPaperS_D laws_eqPaperS_H (vleave laws_eqPaperS_ir [.d (.one (.sl T_Paper)), .d (.one (.sl T_Paper))] [.d (.one .bool)] [] []) [.c laws_eqPaperS_k0, .l laws_eqPaperS_k1, .e 0, .c laws_eqPaperS_k2]
    ⟨[(0, .sl T_Paper v0), (1, .sl T_Paper v1), (5, .int .i64 v5)], []⟩
theorem laws_eqPaperS_eq (a0 : List T_Paper.ty) (a1 : List T_Paper.ty) : laws_eqPaperS a0 a1 =
    if ((a0.length : Int) != (a1.length : Int)) then
      some false
    else
      laws_eqPaperS_p0 a0 a1 0 :=
  (mk_f _ _ _ _ _ _ _ 4000).trans (by kernel_rfl)
theorem laws_eqPaperS_p0_eq  (v0 : List T_Paper.ty) (v1 : List T_Paper.ty) (v5 : Int) : laws_eqPaperS_p0 v0 v1 v5 =
    if decide (v5 < (v0.length : Int)) then
      if decide (0 ≤ v5) then
        (v0[v5.toNat]?).bind fun x1 =>
          if decide (0 ≤ v5) then
            (v1[v5.toNat]?).bind fun x2 =>
              (laws_eqPaper x1 x2).bind fun x3 =>
                if (!x3) then
                  some false
                else
                  laws_eqPaperS_p0 v0 v1 (IntKind.i64.wrap (v5 + 1))
          else
            none
      else
        none
    else
      some true :=
  (goL_dn _ _ _ 4000 _ _).trans (by kernel_rfl)

/- laws.eqDesk -/
def laws_eqDesk_ir : Fn := { np := 2, io := [], res := [.t 4], own := [false], body :=
  (.seq (.reg false [⟨some 2, true, .box 12 (.t 0), none⟩, ⟨some 3, true, .box 12 (.t 1), none⟩, ⟨some 4, false, .asg (.c (.bool false)), none⟩] [2, 3] [2, 3, 3000, 3001, 3002, 3007, 3008, 3009, 3010, 3011, 4000, 4001, 4002, 4007, 4008, 4009, 4010, 4011]) (.seq (.seq (.reg false [⟨some 5, false, .fa 0 (.t 2), none⟩, ⟨some 6, false, .ld none (.t 5), none⟩, ⟨some 7, false, .fa 0 (.t 3), none⟩, ⟨some 8, false, .ld none (.t 7), none⟩, ⟨some 9, false, .call (.c (.fn 582 [])) [.t 6, .t 8], none⟩, ⟨some 10, false, .un .not (.t 9), none⟩] [2, 3, 10] [2, 3, 3000, 3001, 3002, 3007, 3008, 3009, 3010, 3011, 4000, 4001, 4002, 4007, 4008, 4009, 4010, 4011]) (.cond (.t 10) (.seq (.reg false [⟨some 4, false, .asg (.c (.bool false)), none⟩] [4] []) .ret) .skip)) (.seq (.seq (.reg false [⟨some 11, false, .fa 1 (.t 2), none⟩, ⟨some 12, false, .ld none (.t 11), none⟩, ⟨some 13, false, .fa 1 (.t 3), none⟩, ⟨some 14, false, .ld none (.t 13), none⟩, ⟨some 15, false, .call (.c (.fn 581 [])) [.t 12, .t 14], none⟩, ⟨some 16, false, .un .not (.t 15), none⟩] [2, 3, 16] [2, 3, 3000, 3001, 3002, 3007, 3008, 3009, 3010, 3011, 4000, 4001, 4002, 4007, 4008, 4009, 4010, 4011]) (.cond (.t 16) (.seq (.reg false [⟨some 4, false, .asg (.c (.bool false)), none⟩] [4] []) .ret) .skip)) (.seq (.seq (.reg false [⟨some 17, false, .fa 2 (.t 2), none⟩, ⟨some 18, false, .ld none (.t 17), none⟩, ⟨some 19, false, .fa 2 (.t 3), none⟩, ⟨some 20, false, .ld none (.t 19), none⟩, ⟨some 21, false, .call (.c (.fn 580 [])) [.t 18, .t 20], none⟩, ⟨some 22, false, .un .not (.t 21), none⟩] [2, 3, 22] [2, 3, 3000, 3001, 3002, 3007, 3008, 3009, 3010, 3011, 4000, 4001, 4002, 4007, 4008, 4009, 4010, 4011]) (.cond (.t 22) (.seq (.reg false [⟨some 4, false, .asg (.c (.bool false)), none⟩] [4] []) .ret) .skip)) (.seq (.seq (.reg false [⟨some 23, false, .fa 3 (.t 2), none⟩, ⟨some 24, false, .ld (some 4) (.t 23), none⟩, ⟨some 25, false, .fa 3 (.t 3), none⟩, ⟨some 26, false, .ld (some 4) (.t 25), none⟩, ⟨some 27, false, .call (.c (.fn 579 [])) [.t 24, .t 26], none⟩, ⟨some 28, false, .un .not (.t 27), none⟩] [2, 3, 28] [2, 3, 3000, 3001, 3002, 3007, 3008, 3009, 3010, 3011, 4000, 4001, 4002, 4007, 4008, 4009, 4010, 4011]) (.cond (.t 28) (.seq (.reg false [⟨some 4, false, .asg (.c (.bool false)), none⟩] [4] []) .ret) .skip)) (.seq (.seq (.reg false [⟨some 29, false, .fa 7 (.t 2), none⟩, ⟨some 30, false, .ld none (.t 29), none⟩, ⟨some 31, false, .fa 7 (.t 3), none⟩, ⟨some 32, false, .ld none (.t 31), none⟩, ⟨some 33, false, .call (.c (.fn 124 [])) [.t 30, .t 32], none⟩, ⟨some 34, false, .un .not (.t 33), none⟩] [2, 3, 34] [2, 3, 3000, 3001, 3002, 3007, 3008, 3009, 3010, 3011, 4000, 4001, 4002, 4007, 4008, 4009, 4010, 4011]) (.cond (.t 34) (.seq (.reg false [⟨some 4, false, .asg (.c (.bool false)), none⟩] [4] []) .ret) .skip)) (.seq (.seq (.reg false [⟨some 35, false, .fa 8 (.t 2), none⟩, ⟨some 36, false, .ld none (.t 35), none⟩, ⟨some 37, false, .fa 8 (.t 3), none⟩, ⟨some 38, false, .ld none (.t 37), none⟩, ⟨some 39, false, .call (.c (.fn 60 [])) [.t 36, .t 38], none⟩, ⟨some 40, false, .un .not (.t 39), none⟩] [2, 3, 40] [2, 3, 3000, 3001, 3002, 3007, 3008, 3009, 3010, 3011, 4000, 4001, 4002, 4007, 4008, 4009, 4010, 4011]) (.cond (.t 40) (.seq (.reg false [⟨some 4, false, .asg (.c (.bool false)), none⟩] [4] []) .ret) .skip)) (.seq (.seq (.reg false [⟨some 41, false, .fa 9 (.t 2), none⟩, ⟨some 42, false, .ld none (.t 41), none⟩, ⟨some 43, false, .fa 9 (.t 3), none⟩, ⟨some 44, false, .ld none (.t 43), none⟩, ⟨some 45, false, .call (.c (.fn 578 [])) [.t 42, .t 44], none⟩, ⟨some 46, false, .un .not (.t 45), none⟩] [2, 3, 46] [2, 3, 3000, 3001, 3002, 3007, 3008, 3009, 3010, 3011, 4000, 4001, 4002, 4007, 4008, 4009, 4010, 4011]) (.cond (.t 46) (.seq (.reg false [⟨some 4, false, .asg (.c (.bool false)), none⟩] [4] []) .ret) .skip)) (.seq (.seq (.reg false [⟨some 47, false, .fa 10 (.t 2), none⟩, ⟨some 48, false, .ld none (.t 47), none⟩, ⟨some 49, false, .fa 10 (.t 3), none⟩, ⟨some 50, false, .ld none (.t 49), none⟩, ⟨some 51, false, .call (.c (.fn 577 [])) [.t 48, .t 50], none⟩, ⟨some 52, false, .un .not (.t 51), none⟩] [2, 3, 52] [2, 3, 3000, 3001, 3002, 3007, 3008, 3009, 3010, 3011, 4000, 4001, 4002, 4007, 4008, 4009, 4010, 4011]) (.cond (.t 52) (.seq (.reg false [⟨some 4, false, .asg (.c (.bool false)), none⟩] [4] []) .ret) .skip)) (.seq (.seq (.reg false [⟨some 53, false, .fa 11 (.t 2), none⟩, ⟨some 54, false, .ld none (.t 53), none⟩, ⟨some 55, false, .fa 11 (.t 3), none⟩, ⟨some 56, false, .ld none (.t 55), none⟩, ⟨some 57, false, .call (.c (.fn 298 [])) [.t 54, .t 56], none⟩, ⟨some 58, false, .un .not (.t 57), none⟩] [58] []) (.cond (.t 58) (.seq (.reg false [⟨some 4, false, .asg (.c (.bool false)), none⟩] [4] []) .ret) .skip)) (.seq (.reg false [⟨some 4, false, .asg (.c (.bool true)), none⟩] [4] []) .ret))))))))))) }
noncomputable def laws_eqDesk_D : List (Nat × Callee) := [(60, laws_eqPotS_c), (124, laws_eqPegS_c), (298, laws_eqPaperS_c), (577, laws_eqWorkS_c), (578, laws_eqModeS_c), (579, laws_eqNeck_c), (580, laws_eqInt64SS_c), (581, laws_eqRibS_c), (582, laws_eqStackS_c)]
def laws_eqDesk_H : List (Nat × ET) := [(6, T_Peg), (8, T_Peg), (12, T_Mode), (14, T_Mode), (18, (.one (.sl (.one (.int .i64))))), (20, (.one (.sl (.one (.int .i64))))), (30, T_Peg), (32, T_Peg), (36, T_Pot), (38, T_Pot), (42, T_Mode), (44, T_Mode), (48, T_Peg), (50, T_Peg), (54, T_Paper), (56, T_Paper)]
noncomputable def laws_eqDesk_c : Callee := mkCallee laws_eqDesk_D laws_eqDesk_H laws_eqDesk_ir [.d T_Desk, .d T_Desk] [.d (.one .bool)] []
noncomputable def laws_eqDesk (a0 : T_Desk.ty) (a1 : T_Desk.ty) : Option (Bool) := laws_eqDesk_c.f (a0, a1, ())
theorem laws_eqDesk_eq (a0 : T_Desk.ty) (a1 : T_Desk.ty) : laws_eqDesk a0 a1 =
    (laws_eqStackS a0.1 a1.1).bind fun x1 =>
      if (!x1) then
        some false
      else
        (laws_eqRibS a0.2.1 a1.2.1).bind fun x2 =>
          if (!x2) then
            some false
          else
            (laws_eqInt64SS a0.2.2.1 a1.2.2.1).bind fun x3 =>
              if (!x3) then
                some false
              else
                (laws_eqNeck (a0.2.2.2.1, a0.2.2.2.2.1, a0.2.2.2.2.2.1, a0.2.2.2.2.2.2.1, ()) (a1.2.2.2.1, a1.2.2.2.2.1, a1.2.2.2.2.2.1, a1.2.2.2.2.2.2.1, ())).bind fun x4 =>
                  if (!x4) then
                    some false
                  else
                    (laws_eqPegS a0.2.2.2.2.2.2.2.1 a1.2.2.2.2.2.2.2.1).bind fun x5 =>
                      if (!x5) then
                        some false
                      else
                        (laws_eqPotS a0.2.2.2.2.2.2.2.2.1 a1.2.2.2.2.2.2.2.2.1).bind fun x6 =>
                          if (!x6) then
                            some false
                          else
                            (laws_eqModeS a0.2.2.2.2.2.2.2.2.2.1 a1.2.2.2.2.2.2.2.2.2.1).bind fun x7 =>
                              if (!x7) then
                                some false
                              else
                                (laws_eqWorkS a0.2.2.2.2.2.2.2.2.2.2.1 a1.2.2.2.2.2.2.2.2.2.2.1).bind fun x8 =>
                                  if (!x8) then
                                    some false
                                  else
                                    (laws_eqPaperS a0.2.2.2.2.2.2.2.2.2.2.2.1 a1.2.2.2.2.2.2.2.2.2.2.2.1).bind fun x9 =>
                                      if (!x9) then
                                        some false
                                      else
                                        some true :=
  (mk_f _ _ _ _ _ _ _ 4000).trans (by kernel_rfl)

/- laws.FnExactValidDesk -/
def laws_FnExactValidDesk_ir : Fn := { np := 1, io := [], res := [.t 2], own := [false], body :=
  (.seq (.reg false [⟨some 1, true, .box 12 (.t 0), none⟩, ⟨some 2, false, .asg (.c (.bool false)), none⟩] [1] [1, 2000, 2001, 2002, 2007, 2008, 2009, 2010, 2011]) (.seq (.reg false [⟨some 3, false, .asg (.c (.int .i64 1048576)), none⟩] [1, 3] [1, 2000, 2001, 2002, 2007, 2008, 2009, 2010, 2011]) (.seq (.reg false [⟨some 7, false, .ld (some 12) (.t 1), none⟩, ⟨some 8, false, .mv (.t 3), none⟩, ⟨some 9, false, .call (.c (.fn 239 [])) [.t 7, .t 8], none⟩, ⟨some 3, false, .asg (.t 9), none⟩] [1, 3] [1, 2000, 2001, 2002, 2007, 2008, 2009, 2010, 2011]) (.seq (.seq (.reg false [⟨some 10, false, .mv (.t 3), none⟩, ⟨some 11, false, .bin .lss (.t 10) (.c (.int .i64 0)), none⟩] [1, 11] [1, 2000, 2001, 2002, 2007, 2008, 2009, 2010, 2011]) (.cond (.t 11) (.seq (.reg false [⟨some 2, false, .asg (.c (.bool true)), none⟩] [2] []) .ret) .skip)) (.seq (.reg false [⟨some 12, false, .ld (some 12) (.t 1), none⟩, ⟨some 13, false, .call (.c (.fn 236 [])) [.t 12], none⟩, ⟨some 14, false, .call (.c (.fn 289 [])) [.t 13], none⟩, ⟨some 4, false, .asg (.t 14), none⟩] [1, 4] [1, 2000, 2001, 2002, 2007, 2008, 2009, 2010, 2011]) (.seq (.reg false [⟨some 15, false, .ld (some 12) (.t 1), none⟩, ⟨some 16, false, .call (.c (.fn 236 [])) [.t 15], none⟩, ⟨some 5, true, .alloc 12 (.agg [.nils 4, .nils 3, .nils 1, .int .i64 0, .int .i64 0, .int .i64 0, .int .i64 0, .nils 4, .nils 5, .nils 3, .nils 4, .nils 5]), none⟩, ⟨none, true, .sto 12 (.t 5) (.t 16), none⟩] [1, 4, 5] [1, 5, 2000, 2001, 2002, 2007, 2008, 2009, 2010, 2011, 6000, 6001, 6002, 6007, 6008, 6009, 6010, 6011]) (.seq (.reg false [⟨some 17, false, .ld (some 12) (.t 5), none⟩, ⟨some 18, false, .call (.c (.fn 288 [])) [.t 17], none⟩, ⟨some 6, false, .asg (.t 18), none⟩] [1, 4, 5, 6] [1, 5, 2000, 2001, 2002, 2007, 2008, 2009, 2010, 2011, 6000, 6001, 6002, 6007, 6008, 6009, 6010, 6011]) (.seq (.seq (.reg false [⟨some 19, false, .mv (.t 6), none⟩, ⟨some 20, false, .mv (.t 4), none⟩, ⟨some 21, false, .eqb true (.t 19) (.t 20), none⟩] [1, 5, 21] [1, 5, 2000, 2001, 2002, 2007, 2008, 2009, 2010, 2011, 6000, 6001, 6002, 6007, 6008, 6009, 6010, 6011]) (.cond (.t 21) (.seq (.reg false [⟨some 2, false, .asg (.c (.bool false)), none⟩] [2] []) .ret) .skip)) (.seq (.seq (.reg true [⟨some 22, false, .ld (some 12) (.t 5), none⟩, ⟨some 23, false, .ld (some 12) (.t 1), none⟩, ⟨some 24, false, .call (.c (.fn 236 [])) [.t 23], none⟩, ⟨some 25, false, .call (.c (.fn 195 [])) [.t 22, .t 24], none⟩, ⟨some 26, false, .un .not (.t 25), none⟩] [26] []) (.cond (.t 26) (.seq (.reg false [⟨some 2, false, .asg (.c (.bool false)), none⟩] [2] []) .ret) .skip)) (.seq (.reg false [⟨some 2, false, .asg (.c (.bool true)), none⟩] [2] []) .ret)))))))))) }
noncomputable def laws_FnExactValidDesk_D : List (Nat × Callee) := [(195, laws_eqDesk_c), (236, laws_toDesk_c), (239, laws_szDesk_c), (288, impl_ValidDesk_c), (289, spec_ValidDesk_c)]
def laws_FnExactValidDesk_H : List (Nat × ET) := []
noncomputable def laws_FnExactValidDesk_c : Callee := mkCallee laws_FnExactValidDesk_D laws_FnExactValidDesk_H laws_FnExactValidDesk_ir [.d T_Desk] [.d (.one .bool)] []
noncomputable def laws_FnExactValidDesk (a0 : T_Desk.ty) : Option (Bool) := laws_FnExactValidDesk_c.f (a0, ())
theorem laws_FnExactValidDesk_eq (a0 : T_Desk.ty) : laws_FnExactValidDesk a0 =
    (laws_szDesk a0 1048576).bind fun x1 =>
      if decide (x1 < 0) then
        some true
      else
        (laws_toDesk a0).bind fun x2 =>
          (spec_ValidDesk x2).bind fun x3 =>
            (laws_toDesk a0).bind fun x4 =>
              (impl_ValidDesk x4).bind fun x5 =>
                if (!(x5 == x3)) then
                  some false
                else
                  (laws_toDesk a0).bind fun x6 =>
                    (laws_eqDesk x4 x6).bind fun x7 =>
                      if (!x7) then
                        some false
                      else
                        some true :=
  (mk_f _ _ _ _ _ _ _ 4000).trans (by kernel_rfl)

end Go.Ab.P
