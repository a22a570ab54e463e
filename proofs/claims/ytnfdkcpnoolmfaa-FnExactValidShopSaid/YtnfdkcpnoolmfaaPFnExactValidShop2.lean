/- Functions of the program: abstract forms, and what their runs give. Conditions: none. -/
import Derived.Test.YtnfdkcpnoolmfaaPFnExactValidShop1
set_option maxRecDepth 100000
set_option linter.unusedVariables false
namespace Go.Ab.P
open Go.Ab
/- laws.eqShop -/
def laws_eqShop_ir : Fn := { np := 2, io := [], res := [.t 4], own := [false], body :=
 (.seq (.reg false [⟨some 2, true, .box 8 (.t 0), none, false, []⟩, ⟨some 3, true, .box 8 (.t 1), none, false, []⟩, ⟨some 4, false, .asg (.c (.bool false)), none, false, []⟩] [2, 3] [2, 3, 3000, 3001, 3003, 3004, 3006, 3007, 4000, 4001, 4003, 4004, 4006, 4007]) (.seq (.seq (.reg false [⟨some 5, false, .fa 0 (.t 2), none, false, []⟩, ⟨some 6, false, .ld none (.t 5), none, false, []⟩, ⟨some 7, false, .fa 0 (.t 3), none, false, []⟩, ⟨some 8, false, .ld none (.t 7), none, false, []⟩, ⟨some 9, false, .call (.c (.fn 616 [])) [.t 6, .t 8], none, false, []⟩, ⟨some 10, false, .un .not (.t 9), none, false, []⟩] [2, 3, 10] [2, 3, 3000, 3001, 3003, 3004, 3006, 3007, 4000, 4001, 4003, 4004, 4006, 4007]) (.cond (.t 10) (.seq (.reg false [⟨some 4, false, .asg (.c (.bool false)), none, false, []⟩] [4] []) .ret) .skip)) (.seq (.seq (.reg false [⟨some 11, false, .fa 1 (.t 2), none, false, []⟩, ⟨some 12, false, .ld none (.t 11), none, false, []⟩, ⟨some 13, false, .fa 1 (.t 3), none, false, []⟩, ⟨some 14, false, .ld none (.t 13), none, false, []⟩, ⟨some 15, false, .call (.c (.fn 615 [])) [.t 12, .t 14], none, false, []⟩, ⟨some 16, false, .un .not (.t 15), none, false, []⟩] [2, 3, 16] [2, 3, 3000, 3001, 3003, 3004, 3006, 3007, 4000, 4001, 4003, 4004, 4006, 4007]) (.cond (.t 16) (.seq (.reg false [⟨some 4, false, .asg (.c (.bool false)), none, false, []⟩] [4] []) .ret) .skip)) (.seq (.seq (.reg false [⟨some 17, false, .fa 2 (.t 2), none, false, []⟩, ⟨some 18, false, .ld none (.t 17), none, false, []⟩, ⟨some 19, false, .fa 2 (.t 3), none, false, []⟩, ⟨some 20, false, .ld none (.t 19), none, false, []⟩, ⟨some 21, false, .bin .neq (.t 18) (.t 20), none, false, []⟩] [2, 3, 21] [2, 3, 3000, 3001, 3003, 3004, 3006, 3007, 4000, 4001, 4003, 4004, 4006, 4007]) (.cond (.t 21) (.seq (.reg false [⟨some 4, false, .asg (.c (.bool false)), none, false, []⟩] [4] []) .ret) .skip)) (.seq (.seq (.reg false [⟨some 22, false, .fa 3 (.t 2), none, false, []⟩, ⟨some 23, false, .ld none (.t 22), none, false, []⟩, ⟨some 24, false, .fa 3 (.t 3), none, false, []⟩, ⟨some 25, false, .ld none (.t 24), none, false, []⟩, ⟨some 26, false, .call (.c (.fn 614 [])) [.t 23, .t 25], none, false, []⟩, ⟨some 27, false, .un .not (.t 26), none, false, []⟩] [2, 3, 27] [2, 3, 3000, 3001, 3003, 3004, 3006, 3007, 4000, 4001, 4003, 4004, 4006, 4007]) (.cond (.t 27) (.seq (.reg false [⟨some 4, false, .asg (.c (.bool false)), none, false, []⟩] [4] []) .ret) .skip)) (.seq (.seq (.reg false [⟨some 28, false, .fa 4 (.t 2), none, false, []⟩, ⟨some 29, false, .ld none (.t 28), none, false, []⟩, ⟨some 30, false, .fa 4 (.t 3), none, false, []⟩, ⟨some 31, false, .ld none (.t 30), none, false, []⟩, ⟨some 32, false, .call (.c (.fn 42 [])) [.t 29, .t 31], none, false, []⟩, ⟨some 33, false, .un .not (.t 32), none, false, []⟩] [2, 3, 33] [2, 3, 3000, 3001, 3003, 3004, 3006, 3007, 4000, 4001, 4003, 4004, 4006, 4007]) (.cond (.t 33) (.seq (.reg false [⟨some 4, false, .asg (.c (.bool false)), none, false, []⟩] [4] []) .ret) .skip)) (.seq (.seq (.reg false [⟨some 34, false, .fa 5 (.t 2), none, false, []⟩, ⟨some 35, false, .ld none (.t 34), none, false, []⟩, ⟨some 36, false, .fa 5 (.t 3), none, false, []⟩, ⟨some 37, false, .ld none (.t 36), none, false, []⟩, ⟨some 38, false, .bin .neq (.t 35) (.t 37), none, false, []⟩] [2, 3, 38] [2, 3, 3000, 3001, 3003, 3004, 3006, 3007, 4000, 4001, 4003, 4004, 4006, 4007]) (.cond (.t 38) (.seq (.reg false [⟨some 4, false, .asg (.c (.bool false)), none, false, []⟩] [4] []) .ret) .skip)) (.seq (.seq (.reg false [⟨some 39, false, .fa 6 (.t 2), none, false, []⟩, ⟨some 40, false, .ld none (.t 39), none, false, []⟩, ⟨some 41, false, .fa 6 (.t 3), none, false, []⟩, ⟨some 42, false, .ld none (.t 41), none, false, []⟩, ⟨some 43, false, .call (.c (.fn 613 [])) [.t 40, .t 42], none, false, []⟩, ⟨some 44, false, .un .not (.t 43), none, false, []⟩] [2, 3, 44] [2, 3, 3000, 3001, 3003, 3004, 3006, 3007, 4000, 4001, 4003, 4004, 4006, 4007]) (.cond (.t 44) (.seq (.reg false [⟨some 4, false, .asg (.c (.bool false)), none, false, []⟩] [4] []) .ret) .skip)) (.seq (.seq (.reg false [⟨some 45, false, .fa 7 (.t 2), none, false, []⟩, ⟨some 46, false, .ld none (.t 45), none, false, []⟩, ⟨some 47, false, .fa 7 (.t 3), none, false, []⟩, ⟨some 48, false, .ld none (.t 47), none, false, []⟩, ⟨some 49, false, .call (.c (.fn 612 [])) [.t 46, .t 48], none, false, []⟩, ⟨some 50, false, .un .not (.t 49), none, false, []⟩] [50] []) (.cond (.t 50) (.seq (.reg false [⟨some 4, false, .asg (.c (.bool false)), none, false, []⟩] [4] []) .ret) .skip)) (.seq (.reg false [⟨some 4, false, .asg (.c (.bool true)), none, false, []⟩] [4] []) .ret)))))))))) }
noncomputable def laws_eqShop_D : List (Nat × Callee) := [(42, laws_eqInt64S_c), (612, laws_eqEntryS_c), (613, laws_eqRentalS_c), (614, laws_eqStepS_c), (615, laws_eqCordS_c), (616, laws_eqArcS_c)]
def laws_eqShop_H : List (Nat × ET) := [(6, T_Arc), (8, T_Arc), (12, T_Neck), (14, T_Neck), (23, T_Step), (25, T_Step), (29, (.one (.int .i64))), (31, (.one (.int .i64))), (40, T_Paper), (42, T_Paper), (46, T_Entry), (48, T_Entry)]
noncomputable def laws_eqShop_c : Callee := mkCallee laws_eqShop_D laws_eqShop_H laws_eqShop_ir [.d T_Shop, .d T_Shop] [.d (.one .bool)] []
noncomputable def laws_eqShop (a0 : T_Shop.ty) (a1 : T_Shop.ty) : Option (Bool) := laws_eqShop_c.f (a0, a1, ())
theorem laws_eqShop_eq (a0 : T_Shop.ty) (a1 : T_Shop.ty) : laws_eqShop a0 a1 =
  (laws_eqArcS a0.1 a1.1).bind fun x1 =>
   if (!x1) then
    some false
   else
    (laws_eqCordS a0.2.1 a1.2.1).bind fun x2 =>
     if (!x2) then
      some false
     else
      if (a0.2.2.1 != a1.2.2.1) then
       some false
      else
       (laws_eqStepS a0.2.2.2.1 a1.2.2.2.1).bind fun x3 =>
        if (!x3) then
         some false
        else
         (laws_eqInt64S a0.2.2.2.2.1 a1.2.2.2.2.1).bind fun x4 =>
          if (!x4) then
           some false
          else
           if (a0.2.2.2.2.2.1 != a1.2.2.2.2.2.1) then
            some false
           else
            (laws_eqRentalS a0.2.2.2.2.2.2.1 a1.2.2.2.2.2.2.1).bind fun x5 =>
             if (!x5) then
              some false
             else
              (laws_eqEntryS a0.2.2.2.2.2.2.2.1 a1.2.2.2.2.2.2.2.1).bind fun x6 =>
               if (!x6) then
                some false
               else
                some true :=
 (mk_f _ _ _ _ _ _ _ 4000).trans (by kernel_rfl)

/- laws.FnExactValidShop -/
def laws_FnExactValidShop_ir : Fn := { np := 1, io := [], res := [.t 2], own := [false], body :=
 (.seq (.reg false [⟨some 1, true, .box 8 (.t 0), none, false, []⟩, ⟨some 2, false, .asg (.c (.bool false)), none, false, []⟩] [1] [1, 2000, 2001, 2003, 2004, 2006, 2007]) (.seq (.reg false [⟨some 3, false, .asg (.c (.int .i64 1048576)), none, false, []⟩] [1, 3] [1, 2000, 2001, 2003, 2004, 2006, 2007]) (.seq (.reg false [⟨some 7, false, .ld (some 8) (.t 1), none, false, []⟩, ⟨some 8, false, .mv (.t 3), none, false, []⟩, ⟨some 9, false, .call (.c (.fn 203 [])) [.t 7, .t 8], none, false, []⟩, ⟨some 3, false, .asg (.t 9), none, false, []⟩] [1, 3] [1, 2000, 2001, 2003, 2004, 2006, 2007]) (.seq (.seq (.reg false [⟨some 10, false, .mv (.t 3), none, false, []⟩, ⟨some 11, false, .bin .lss (.t 10) (.c (.int .i64 0)), none, false, []⟩] [1, 11] [1, 2000, 2001, 2003, 2004, 2006, 2007]) (.cond (.t 11) (.seq (.reg false [⟨some 2, false, .asg (.c (.bool true)), none, false, []⟩] [2] []) .ret) .skip)) (.seq (.reg false [⟨some 12, false, .ld (some 8) (.t 1), none, false, []⟩, ⟨some 13, false, .call (.c (.fn 199 [])) [.t 12], none, false, []⟩, ⟨some 14, false, .call (.c (.fn 202 [])) [.t 13], none, false, []⟩, ⟨some 4, false, .asg (.t 14), none, false, []⟩] [1, 4] [1, 2000, 2001, 2003, 2004, 2006, 2007]) (.seq (.reg false [⟨some 15, false, .ld (some 8) (.t 1), none, false, []⟩, ⟨some 16, false, .call (.c (.fn 199 [])) [.t 15], none, false, []⟩, ⟨some 5, true, .alloc 8 (.agg [.nils 6, .nils 4, .int .i64 0, .nils 4, .nils 1, .int .i64 0, .nils 5, .nils 4]), none, false, []⟩, ⟨none, true, .sto 8 (.t 5) (.t 16), none, false, []⟩] [1, 4, 5] [1, 5, 2000, 2001, 2003, 2004, 2006, 2007, 6000, 6001, 6003, 6004, 6006, 6007]) (.seq (.reg false [⟨some 17, false, .ld (some 8) (.t 5), none, false, []⟩, ⟨some 18, false, .call (.c (.fn 201 [])) [.t 17], none, false, []⟩, ⟨some 6, false, .asg (.t 18), none, false, []⟩] [1, 4, 5, 6] [1, 5, 2000, 2001, 2003, 2004, 2006, 2007, 6000, 6001, 6003, 6004, 6006, 6007]) (.seq (.seq (.reg false [⟨some 19, false, .mv (.t 6), none, false, []⟩, ⟨some 20, false, .mv (.t 4), none, false, []⟩, ⟨some 21, false, .eqb true (.t 19) (.t 20), none, false, []⟩] [1, 5, 21] [1, 5, 2000, 2001, 2003, 2004, 2006, 2007, 6000, 6001, 6003, 6004, 6006, 6007]) (.cond (.t 21) (.seq (.reg false [⟨some 2, false, .asg (.c (.bool false)), none, false, []⟩] [2] []) .ret) .skip)) (.seq (.seq (.reg true [⟨some 22, false, .ld (some 8) (.t 5), none, false, []⟩, ⟨some 23, false, .ld (some 8) (.t 1), none, false, []⟩, ⟨some 24, false, .call (.c (.fn 199 [])) [.t 23], none, false, []⟩, ⟨some 25, false, .call (.c (.fn 200 [])) [.t 22, .t 24], none, false, []⟩, ⟨some 26, false, .un .not (.t 25), none, false, []⟩] [26] []) (.cond (.t 26) (.seq (.reg false [⟨some 2, false, .asg (.c (.bool false)), none, false, []⟩] [2] []) .ret) .skip)) (.seq (.reg false [⟨some 2, false, .asg (.c (.bool true)), none, false, []⟩] [2] []) .ret)))))))))) }
noncomputable def laws_FnExactValidShop_D : List (Nat × Callee) := [(199, laws_toShop_c), (200, laws_eqShop_c), (201, impl_ValidShop_c), (202, spec_ValidShop_c), (203, laws_szShop_c)]
def laws_FnExactValidShop_H : List (Nat × ET) := []
noncomputable def laws_FnExactValidShop_c : Callee := mkCallee laws_FnExactValidShop_D laws_FnExactValidShop_H laws_FnExactValidShop_ir [.d T_Shop] [.d (.one .bool)] []
noncomputable def laws_FnExactValidShop (a0 : T_Shop.ty) : Option (Bool) := laws_FnExactValidShop_c.f (a0, ())
theorem laws_FnExactValidShop_eq (a0 : T_Shop.ty) : laws_FnExactValidShop a0 =
  (laws_szShop a0 1048576).bind fun x1 =>
   if decide (x1 < 0) then
    some true
   else
    (laws_toShop a0).bind fun x2 =>
     (spec_ValidShop x2).bind fun x3 =>
      (laws_toShop a0).bind fun x4 =>
       (impl_ValidShop x4).bind fun x5 =>
        if (!(x5 == x3)) then
         some false
        else
         (laws_toShop a0).bind fun x6 =>
          (laws_eqShop x4 x6).bind fun x7 =>
           if (!x7) then
            some false
           else
            some true :=
 (mk_f _ _ _ _ _ _ _ 4000).trans (by kernel_rfl)

end Go.Ab.P
