/- Functions of the program: abstract forms, and what their runs give. Conditions: none. -/
import Derived.Test.YtmkgkchbdhfakaaL3
set_option maxRecDepth 100000
set_option linter.unusedVariables false
namespace Go.Ab.P
open Go.Ab
@[reducible] def T_Pot : ET := .agg (.cons .str (.cons (.int .i64) (.cons (.int .i64) (.cons (.int .i64) (.cons (.int .i64) .nil)))))
/- laws.szPot -/
def laws_szPot_ir : Fn := { np := 2, io := [], res := [.t 4], own := [false], body :=
  (.seq (.reg false [⟨some 2, true, .box 5 (.t 0), none⟩, ⟨some 4, false, .asg (.c (.int .i64 0)), none⟩] [1, 2] [2]) (.seq (.reg false [⟨some 5, false, .mv (.t 1), none⟩, ⟨some 6, false, .fa 0 (.t 2), none⟩, ⟨some 7, false, .ld none (.t 6), none⟩, ⟨some 8, false, .lens (.t 7), none⟩, ⟨some 9, false, .bin .sub (.t 5) (.t 8), none⟩, ⟨some 1, false, .asg (.t 9), none⟩] [1] []) (.seq (.seq (.reg false [⟨some 10, false, .mv (.t 1), none⟩, ⟨some 11, false, .bin .lss (.t 10) (.c (.int .i64 0)), none⟩] [1, 11] []) (.cond (.t 11) (.seq (.reg false [⟨some 4, false, .asg (.c (.int .i64 (-1))), none⟩] [4] []) .ret) .skip)) (.seq (.reg false [⟨some 12, false, .mv (.t 1), none⟩, ⟨some 4, false, .asg (.t 12), none⟩] [4] []) .ret)))) }
noncomputable def laws_szPot_D : List (Nat × Callee) := []
def laws_szPot_H : List (Nat × ET) := []
noncomputable def laws_szPot_c : Callee := mkCallee laws_szPot_D laws_szPot_H laws_szPot_ir [.d T_Pot, .d (.one (.int .i64))] [.d (.one (.int .i64))] []
noncomputable def laws_szPot (a0 : T_Pot.ty) (a1 : Int) : Option (Int) := laws_szPot_c.f (a0, a1, ())
theorem laws_szPot_eq (a0 : T_Pot.ty) (a1 : Int) : laws_szPot a0 a1 =
    if decide (IntKind.i64.wrap (a1 - (a0.1.length : Int)) < 0) then
      some (-1)
    else
      some (IntKind.i64.wrap (a1 - (a0.1.length : Int))) :=
  (mk_f _ _ _ _ _ _ _ 4000).trans (by kernel_rfl)

/- laws.szPotS -/
def laws_szPotS_k0 : C :=
  .seq (.seq (.reg false [⟨some 12, false, .mv (.t 5), none⟩, ⟨some 13, false, .mv (.t 0), none⟩, ⟨some 14, false, .len (.t 13), none⟩, ⟨some 15, false, .bin .lss (.t 12) (.t 14), none⟩] [0, 1, 5, 15] []) (.cond (.t 15) .skip (.exit 0))) (.seq (.block 1 (.seq (.reg false [⟨some 18, false, .mv (.t 0), none⟩, ⟨some 19, false, .mv (.t 5), none⟩, ⟨some 20, false, .ia 5 (.t 18) (.t 19), none⟩, ⟨some 21, false, .ld (some 5) (.t 20), none⟩, ⟨some 22, false, .mv (.t 1), none⟩, ⟨some 23, false, .call (.c (.fn 34 [])) [.t 21, .t 22], none⟩, ⟨some 1, false, .asg (.t 23), none⟩] [0, 1, 5] []) (.seq (.reg false [⟨some 24, false, .mv (.t 1), none⟩, ⟨some 25, false, .bin .lss (.t 24) (.c (.int .i64 0)), none⟩] [0, 1, 5, 25] []) (.cond (.t 25) (.seq (.reg false [⟨some 4, false, .asg (.c (.int .i64 (-1))), none⟩] [4] []) .ret) .skip)))) (.reg false [⟨some 16, false, .mv (.t 5), none⟩, ⟨some 17, false, .bin .add (.t 16) (.c (.int .i64 1)), none⟩, ⟨some 5, false, .asg (.t 17), none⟩] [0, 1, 5] []))
def laws_szPotS_k1 : C :=
  .norm [0, 1, 5] [] laws_szPotS_k0
def laws_szPotS_k2 : C :=
  .seq (.reg false [⟨some 26, false, .mv (.t 1), none⟩, ⟨some 4, false, .asg (.t 26), none⟩] [4] []) .ret
def laws_szPotS_ir : Fn := { np := 2, io := [], res := [.t 4], own := [false], body :=
  (.seq (.reg false [⟨some 4, false, .asg (.c (.int .i64 0)), none⟩] [0, 1] []) (.seq (.reg false [⟨some 6, false, .mv (.t 1), none⟩, ⟨some 7, false, .mv (.t 0), none⟩, ⟨some 8, false, .len (.t 7), none⟩, ⟨some 9, false, .bin .sub (.t 6) (.t 8), none⟩, ⟨some 1, false, .asg (.t 9), none⟩] [0, 1] []) (.seq (.seq (.reg false [⟨some 10, false, .mv (.t 1), none⟩, ⟨some 11, false, .bin .lss (.t 10) (.c (.int .i64 0)), none⟩] [0, 1, 11] []) (.cond (.t 11) (.seq (.reg false [⟨some 4, false, .asg (.c (.int .i64 (-1))), none⟩] [4] []) .ret) .skip)) (.seq (.seq (.reg false [⟨some 5, false, .asg (.c (.int .i64 0)), none⟩] [0, 1, 5] []) (.block 0 (.loop laws_szPotS_k1))) laws_szPotS_k2)))) }
noncomputable def laws_szPotS_D : List (Nat × Callee) := [(34, laws_szPot_c)]
def laws_szPotS_H : List (Nat × ET) := [(7, T_Pot), (13, T_Pot), (18, T_Pot)]
noncomputable def laws_szPotS_c : Callee := mkCallee laws_szPotS_D laws_szPotS_H laws_szPotS_ir [.d (.one (.sl T_Pot)), .d (.one (.int .i64))] [.d (.one (.int .i64))] []
noncomputable def laws_szPotS (a0 : List T_Pot.ty) (a1 : Int) : Option (Int) := laws_szPotS_c.f (a0, a1, ())
noncomputable def laws_szPotS_p0  (v0 : List T_Pot.ty) (v1 : Int) (v5 : Int) : Option (Int) :=
  goL laws_szPotS_D laws_szPotS_H (vleave laws_szPotS_ir [.d (.one (.sl T_Pot)), .d (.one (.int .i64))] [.d (.one (.int .i64))] [] []) [.c laws_szPotS_k0, .l laws_szPotS_k1, .e 0, .c laws_szPotS_k2]
    ⟨[(0, .sl T_Pot v0), (1, .int .i64 v1), (5, .int .i64 v5)], []⟩
theorem laws_szPotS_eq (a0 : List T_Pot.ty) (a1 : Int) : laws_szPotS a0 a1 =
    if decide (IntKind.i64.wrap (a1 - (a0.length : Int)) < 0) then
      some (-1)
    else
      laws_szPotS_p0 a0 (IntKind.i64.wrap (a1 - (a0.length : Int))) 0 :=
  (mk_f _ _ _ _ _ _ _ 4000).trans (by kernel_rfl)
theorem laws_szPotS_p0_eq  (v0 : List T_Pot.ty) (v1 : Int) (v5 : Int) : laws_szPotS_p0 v0 v1 v5 =
    if decide (v5 < (v0.length : Int)) then
      if decide (0 ≤ v5) then
        (v0[v5.toNat]?).bind fun x1 =>
          (laws_szPot x1 v1).bind fun x2 =>
            if decide (x2 < 0) then
              some (-1)
            else
              laws_szPotS_p0 v0 x2 (IntKind.i64.wrap (v5 + 1))
      else
        none
    else
      some v1 :=
  (goL_dn _ _ _ 4000 _ _).trans (by kernel_rfl)

/- laws.toPot -/
def laws_toPot_ir : Fn := { np := 1, io := [], res := [.cell 2 (some 5)], own := [false], body :=
  (.seq (.reg false [⟨some 1, true, .box 5 (.t 0), none⟩, ⟨some 2, true, .alloc 5 (.agg [.str [], .int .i64 0, .int .i64 0, .int .i64 0, .int .i64 0]), none⟩] [1, 2] [1, 2]) (.seq (.reg false [⟨some 3, true, .alloc 5 (.agg [.str [], .int .i64 0, .int .i64 0, .int .i64 0, .int .i64 0]), none⟩] [1, 2, 3] [1, 2, 3]) (.seq (.reg false [⟨some 4, false, .fa 0 (.t 1), none⟩, ⟨some 5, false, .ld none (.t 4), none⟩, ⟨some 6, false, .fa 0 (.t 3), none⟩, ⟨none, true, .sto 1 (.t 6) (.t 5), none⟩] [1, 2, 3] [1, 2, 3]) (.seq (.reg false [⟨some 7, false, .fa 1 (.t 1), none⟩, ⟨some 8, false, .ld none (.t 7), none⟩, ⟨some 9, false, .fa 1 (.t 3), none⟩, ⟨none, true, .sto 1 (.t 9) (.t 8), none⟩] [1, 2, 3] [1, 2, 3]) (.seq (.reg false [⟨some 10, false, .fa 2 (.t 1), none⟩, ⟨some 11, false, .ld none (.t 10), none⟩, ⟨some 12, false, .fa 2 (.t 3), none⟩, ⟨none, true, .sto 1 (.t 12) (.t 11), none⟩] [1, 2, 3] [1, 2, 3]) (.seq (.reg false [⟨some 13, false, .fa 3 (.t 1), none⟩, ⟨some 14, false, .ld none (.t 13), none⟩, ⟨some 15, false, .fa 3 (.t 3), none⟩, ⟨none, true, .sto 1 (.t 15) (.t 14), none⟩] [1, 2, 3] [1, 2, 3]) (.seq (.reg false [⟨some 16, false, .fa 4 (.t 1), none⟩, ⟨some 17, false, .ld none (.t 16), none⟩, ⟨some 18, false, .fa 4 (.t 3), none⟩, ⟨none, true, .sto 1 (.t 18) (.t 17), none⟩] [2, 3] [2, 3]) (.seq (.reg false [⟨some 19, false, .ld (some 5) (.t 3), none⟩, ⟨none, true, .sto 5 (.t 2) (.t 19), none⟩] [2] [2]) .ret)))))))) }
noncomputable def laws_toPot_D : List (Nat × Callee) := []
def laws_toPot_H : List (Nat × ET) := []
noncomputable def laws_toPot_c : Callee := mkCallee laws_toPot_D laws_toPot_H laws_toPot_ir [.d T_Pot] [.d T_Pot] []
noncomputable def laws_toPot (a0 : T_Pot.ty) : Option (T_Pot.ty) := laws_toPot_c.f (a0, ())
theorem laws_toPot_eq (a0 : T_Pot.ty) : laws_toPot a0 =
    some a0 :=
  (mk_f _ _ _ _ _ _ _ 4000).trans (by kernel_rfl)

/- laws.toPotS -/
def laws_toPotS_k0 : C :=
  .seq (.seq (.reg false [⟨some 8, false, .mv (.t 4), none⟩, ⟨some 9, false, .mv (.t 0), none⟩, ⟨some 10, false, .len (.t 9), none⟩, ⟨some 11, false, .bin .lss (.t 8) (.t 10), none⟩] [0, 3, 4, 11] [3]) (.cond (.t 11) .skip (.exit 0))) (.seq (.block 1 (.reg false [⟨some 14, false, .mv (.t 3), none⟩, ⟨some 15, false, .mv (.t 4), none⟩, ⟨some 16, false, .mv (.t 0), none⟩, ⟨some 17, false, .mv (.t 4), none⟩, ⟨some 18, false, .ia 5 (.t 16) (.t 17), none⟩, ⟨some 19, false, .ld (some 5) (.t 18), none⟩, ⟨some 20, false, .call (.c (.fn 31 [])) [.t 19], none⟩, ⟨some 21, false, .ia 5 (.t 14) (.t 15), none⟩, ⟨none, true, .sto 5 (.t 21) (.t 20), none⟩] [0, 3, 4] [3])) (.reg false [⟨some 12, false, .mv (.t 4), none⟩, ⟨some 13, false, .bin .add (.t 12) (.c (.int .i64 1)), none⟩, ⟨some 4, false, .asg (.t 13), none⟩] [0, 3, 4] [3]))
def laws_toPotS_k1 : C :=
  .norm [0, 3, 4] [3] laws_toPotS_k0
def laws_toPotS_k2 : C :=
  .seq (.reg false [⟨some 22, false, .mv (.t 3), none⟩, ⟨some 2, true, .asg (.t 22), none⟩] [2] [2, 3]) .ret
def laws_toPotS_ir : Fn := { np := 1, io := [], res := [.t 2], own := [true], body :=
  (.seq (.reg false [⟨some 2, true, .asg (.c (.nils 5)), none⟩] [0] []) (.seq (.reg false [⟨some 5, false, .mv (.t 0), none⟩, ⟨some 6, false, .len (.t 5), none⟩, ⟨some 7, false, .mks 5 48 (.agg [.str [], .int .i64 0, .int .i64 0, .int .i64 0, .int .i64 0]) (.t 6) (.t 6), none⟩, ⟨some 3, true, .asg (.t 7), none⟩] [0, 3] [3]) (.seq (.seq (.reg false [⟨some 4, false, .asg (.c (.int .i64 0)), none⟩] [0, 3, 4] [3]) (.block 0 (.loop laws_toPotS_k1))) laws_toPotS_k2))) }
noncomputable def laws_toPotS_D : List (Nat × Callee) := [(31, laws_toPot_c)]
def laws_toPotS_H : List (Nat × ET) := [(2, T_Pot), (3, T_Pot), (5, T_Pot), (7, T_Pot), (9, T_Pot), (14, T_Pot), (16, T_Pot), (22, T_Pot)]
noncomputable def laws_toPotS_c : Callee := mkCallee laws_toPotS_D laws_toPotS_H laws_toPotS_ir [.d (.one (.sl T_Pot))] [.tok T_Pot] []
noncomputable def laws_toPotS (a0 : List T_Pot.ty) : Option (List T_Pot.ty) := laws_toPotS_c.f (a0, ())
noncomputable def laws_toPotS_p0  (v0 : List T_Pot.ty) (v3n : Nat) (v4 : Int) (r3 : List T_Pot.ty) : Option (List T_Pot.ty) :=
  goL laws_toPotS_D laws_toPotS_H (vleave laws_toPotS_ir [.d (.one (.sl T_Pot))] [.tok T_Pot] [] []) [.c laws_toPotS_k0, .l laws_toPotS_k1, .e 0, .c laws_toPotS_k2]
    ⟨[(0, .sl T_Pot v0), (3, .view 3 0 v3n), (4, .int .i64 v4)], [(3, some (.sl T_Pot r3))]⟩
theorem laws_toPotS_eq (a0 : List T_Pot.ty) : laws_toPotS a0 =
    if decide (0 ≤ (a0.length : Int)) && decide ((a0.length : Int) ≤ (a0.length : Int)) && decide ((a0.length : Int) < (lim : Int)) then
      laws_toPotS_p0 a0 ((List.replicate ((a0.length : Int).toNat) (([], 0, 0, 0, 0, ()) : T_Pot.ty)).length) 0 (List.replicate ((a0.length : Int).toNat) (([], 0, 0, 0, 0, ()) : T_Pot.ty))
    else
      none :=
  (mk_f _ _ _ _ _ _ _ 4000).trans (by kernel_rfl)
theorem laws_toPotS_p0_eq  (v0 : List T_Pot.ty) (v3n : Nat) (v4 : Int) (r3 : List T_Pot.ty) : laws_toPotS_p0 v0 v3n v4 r3 =
    if decide (v4 < (v0.length : Int)) then
      if decide (0 ≤ v4) then
        (v0[v4.toNat]?).bind fun x1 =>
          (laws_toPot x1).bind fun x2 =>
            if decide (0 ≤ v4) && decide (v4 < (v3n : Int)) then
              (r3[v4.toNat]?).bind fun x3 =>
                laws_toPotS_p0 v0 v3n (IntKind.i64.wrap (v4 + 1)) (r3.set v4.toNat x2)
            else
              none
      else
        none
    else
      some (r3.take v3n) :=
  (goL_dn _ _ _ 4000 _ _).trans (by kernel_rfl)

/- spec.l01Small -/
def spec_l01Small_ir : Fn := { np := 1, io := [], res := [.t 2], own := [false], body :=
  (.seq (.reg false [⟨some 2, false, .asg (.c (.bool false)), none⟩] [0] []) (.seq (.reg false [⟨some 3, false, .mv (.t 0), none⟩, ⟨some 4, false, .bin .geq (.t 3) (.c (.int .u8 97)), none⟩, ⟨some 5, false, .mv (.t 4), none⟩, ⟨some 6, false, .mv (.t 0), some (2, true)⟩, ⟨some 7, false, .bin .leq (.t 6) (.c (.int .u8 122)), some (2, true)⟩, ⟨some 8, false, .pick (.t 5) (.t 7) (.c (.bool false)), none⟩, ⟨some 2, false, .asg (.t 8), none⟩] [2] []) .ret)) }
noncomputable def spec_l01Small_D : List (Nat × Callee) := []
def spec_l01Small_H : List (Nat × ET) := []
noncomputable def spec_l01Small_c : Callee := mkCallee spec_l01Small_D spec_l01Small_H spec_l01Small_ir [.d (.one (.int .u8))] [.d (.one .bool)] []
noncomputable def spec_l01Small (a0 : Int) : Option (Bool) := spec_l01Small_c.f (a0, ())
theorem spec_l01Small_eq (a0 : Int) : spec_l01Small a0 =
    if decide (a0 ≥ 97) then
      some (decide (a0 ≤ 122))
    else
      some false :=
  (mk_f _ _ _ _ _ _ _ 4000).trans (by kernel_rfl)

/- spec.l01Digit -/
def spec_l01Digit_ir : Fn := { np := 1, io := [], res := [.t 2], own := [false], body :=
  (.seq (.reg false [⟨some 2, false, .asg (.c (.bool false)), none⟩] [0] []) (.seq (.reg false [⟨some 3, false, .mv (.t 0), none⟩, ⟨some 4, false, .bin .geq (.t 3) (.c (.int .u8 48)), none⟩, ⟨some 5, false, .mv (.t 4), none⟩, ⟨some 6, false, .mv (.t 0), some (2, true)⟩, ⟨some 7, false, .bin .leq (.t 6) (.c (.int .u8 57)), some (2, true)⟩, ⟨some 8, false, .pick (.t 5) (.t 7) (.c (.bool false)), none⟩, ⟨some 2, false, .asg (.t 8), none⟩] [2] []) .ret)) }
noncomputable def spec_l01Digit_D : List (Nat × Callee) := []
def spec_l01Digit_H : List (Nat × ET) := []
noncomputable def spec_l01Digit_c : Callee := mkCallee spec_l01Digit_D spec_l01Digit_H spec_l01Digit_ir [.d (.one (.int .u8))] [.d (.one .bool)] []
noncomputable def spec_l01Digit (a0 : Int) : Option (Bool) := spec_l01Digit_c.f (a0, ())
theorem spec_l01Digit_eq (a0 : Int) : spec_l01Digit a0 =
    if decide (a0 ≥ 48) then
      some (decide (a0 ≤ 57))
    else
      some false :=
  (mk_f _ _ _ _ _ _ _ 4000).trans (by kernel_rfl)

/- spec.l01Name -/
def spec_l01Name_k0 : C :=
  .seq (.seq (.reg false [⟨some 17, false, .mv (.t 3), none⟩, ⟨some 18, false, .mv (.t 0), none⟩, ⟨some 19, false, .lens (.t 18), none⟩, ⟨some 20, false, .bin .lss (.t 17) (.t 19), none⟩] [0, 3, 20] []) (.cond (.t 20) .skip (.exit 0))) (.seq (.block 1 (.seq (.reg false [⟨some 23, false, .mv (.t 0), none⟩, ⟨some 24, false, .mv (.t 3), none⟩, ⟨some 25, false, .ix (.t 23) (.t 24), none⟩, ⟨some 26, false, .call (.c (.fn 11 [])) [.t 25], none⟩, ⟨some 27, false, .un .not (.t 26), none⟩, ⟨some 28, false, .mv (.t 27), none⟩, ⟨some 29, false, .mv (.t 0), some (5, true)⟩, ⟨some 30, false, .mv (.t 3), some (5, true)⟩, ⟨some 31, false, .ix (.t 29) (.t 30), some (5, true)⟩, ⟨some 32, false, .call (.c (.fn 12 [])) [.t 31], some (5, true)⟩, ⟨some 33, false, .un .not (.t 32), some (5, true)⟩, ⟨some 34, false, .pick (.t 28) (.t 33) (.c (.bool false)), none⟩] [0, 3, 34] []) (.cond (.t 34) (.seq (.reg false [⟨some 2, false, .asg (.c (.bool false)), none⟩] [2] []) .ret) .skip))) (.reg false [⟨some 21, false, .mv (.t 3), none⟩, ⟨some 22, false, .bin .add (.t 21) (.c (.int .i64 1)), none⟩, ⟨some 3, false, .asg (.t 22), none⟩] [0, 3] []))
def spec_l01Name_k1 : C :=
  .norm [0, 3] [] spec_l01Name_k0
def spec_l01Name_k2 : C :=
  .seq (.reg false [⟨some 2, false, .asg (.c (.bool true)), none⟩] [2] []) .ret
def spec_l01Name_k3 : C :=
  .seq (.seq (.reg false [⟨some 3, false, .asg (.c (.int .i64 0)), none⟩] [0, 3] []) (.block 0 (.loop spec_l01Name_k1))) spec_l01Name_k2
def spec_l01Name_ir : Fn := { np := 1, io := [], res := [.t 2], own := [false], body :=
  (.seq (.reg false [⟨some 2, false, .asg (.c (.bool false)), none⟩] [0] []) (.seq (.seq (.reg false [⟨some 4, false, .mv (.t 0), none⟩, ⟨some 5, false, .bin .eql (.t 4) (.c (.str [])), none⟩, ⟨some 6, false, .mv (.t 5), none⟩, ⟨some 7, false, .mv (.t 0), some (2, false)⟩, ⟨some 8, false, .lens (.t 7), some (2, false)⟩, ⟨some 9, false, .bin .gtr (.t 8) (.c (.int .i64 10)), some (2, false)⟩, ⟨some 10, false, .pick (.t 6) (.c (.bool true)) (.t 9), none⟩, ⟨some 11, false, .mv (.t 10), none⟩, ⟨some 12, false, .mv (.t 0), some (7, false)⟩, ⟨some 13, false, .ix (.t 12) (.c (.int .i64 0)), some (7, false)⟩, ⟨some 14, false, .call (.c (.fn 11 [])) [.t 13], some (7, false)⟩, ⟨some 15, false, .un .not (.t 14), some (7, false)⟩, ⟨some 16, false, .pick (.t 11) (.c (.bool true)) (.t 15), none⟩] [0, 16] []) (.cond (.t 16) (.seq (.reg false [⟨some 2, false, .asg (.c (.bool false)), none⟩] [2] []) .ret) .skip)) (.norm [0] [] spec_l01Name_k3))) }
noncomputable def spec_l01Name_D : List (Nat × Callee) := [(11, spec_l01Small_c), (12, spec_l01Digit_c)]
def spec_l01Name_H : List (Nat × ET) := []
noncomputable def spec_l01Name_c : Callee := mkCallee spec_l01Name_D spec_l01Name_H spec_l01Name_ir [.d (.one .str)] [.d (.one .bool)] []
noncomputable def spec_l01Name (a0 : List UInt8) : Option (Bool) := spec_l01Name_c.f (a0, ())
noncomputable def spec_l01Name_p0  (v0 : List UInt8) : Option (Bool) :=
  goL spec_l01Name_D spec_l01Name_H (vleave spec_l01Name_ir [.d (.one .str)] [.d (.one .bool)] [] []) [.c spec_l01Name_k3]
    ⟨[(0, .str v0)], []⟩
noncomputable def spec_l01Name_p1  (v0 : List UInt8) (v3 : Int) : Option (Bool) :=
  goL spec_l01Name_D spec_l01Name_H (vleave spec_l01Name_ir [.d (.one .str)] [.d (.one .bool)] [] []) [.c spec_l01Name_k0, .l spec_l01Name_k1, .e 0, .c spec_l01Name_k2]
    ⟨[(0, .str v0), (3, .int .i64 v3)], []⟩
theorem spec_l01Name_eq (a0 : List UInt8) : spec_l01Name a0 =
    if (a0 == []) then
      some false
    else
      if decide ((a0.length : Int) > 10) then
        some false
      else
        (a0[0]?).bind fun x1 =>
          (spec_l01Small (x1.toNat : Int)).bind fun x2 =>
            if (!x2) then
              some false
            else
              spec_l01Name_p0 a0 :=
  (mk_f _ _ _ _ _ _ _ 4000).trans (by kernel_rfl)
theorem spec_l01Name_p0_eq  (v0 : List UInt8) : spec_l01Name_p0 v0 =
    spec_l01Name_p1 v0 0 :=
  (goL_dn _ _ _ 4000 _ _).trans (by kernel_rfl)
theorem spec_l01Name_p1_eq  (v0 : List UInt8) (v3 : Int) : spec_l01Name_p1 v0 v3 =
    if decide (v3 < (v0.length : Int)) then
      if decide (0 ≤ v3) then
        (v0[v3.toNat]?).bind fun x1 =>
          (spec_l01Small (x1.toNat : Int)).bind fun x2 =>
            if (!x2) then
              if decide (0 ≤ v3) then
                (v0[v3.toNat]?).bind fun x3 =>
                  (spec_l01Digit (x3.toNat : Int)).bind fun x4 =>
                    if (!x4) then
                      some false
                    else
                      spec_l01Name_p1 v0 (IntKind.i64.wrap (v3 + 1))
              else
                none
            else
              spec_l01Name_p1 v0 (IntKind.i64.wrap (v3 + 1))
      else
        none
    else
      some true :=
  (goL_dn _ _ _ 4000 _ _).trans (by kernel_rfl)

/- spec.l00In -/
def spec_l00In_ir : Fn := { np := 3, io := [], res := [.t 6], own := [false], body :=
  (.seq (.reg false [⟨some 6, false, .asg (.c (.bool false)), none⟩] [0, 1, 2] []) (.seq (.reg false [⟨some 7, false, .mv (.t 0), none⟩, ⟨some 8, false, .mv (.t 1), none⟩, ⟨some 9, false, .bin .geq (.t 7) (.t 8), none⟩, ⟨some 10, false, .mv (.t 9), none⟩, ⟨some 11, false, .mv (.t 0), some (3, true)⟩, ⟨some 12, false, .mv (.t 2), some (3, true)⟩, ⟨some 13, false, .bin .leq (.t 11) (.t 12), some (3, true)⟩, ⟨some 14, false, .pick (.t 10) (.t 13) (.c (.bool false)), none⟩, ⟨some 6, false, .asg (.t 14), none⟩] [6] []) .ret)) }
noncomputable def spec_l00In_D : List (Nat × Callee) := []
def spec_l00In_H : List (Nat × ET) := []
noncomputable def spec_l00In_c : Callee := mkCallee spec_l00In_D spec_l00In_H spec_l00In_ir [.d (.one (.int .i64)), .d (.one (.int .i64)), .d (.one (.int .i64))] [.d (.one .bool)] []
noncomputable def spec_l00In (a0 : Int) (a1 : Int) (a2 : Int) : Option (Bool) := spec_l00In_c.f (a0, a1, a2, ())
theorem spec_l00In_eq (a0 : Int) (a1 : Int) (a2 : Int) : spec_l00In a0 a1 a2 =
    if decide (a0 ≥ a1) then
      some (decide (a0 ≤ a2))
    else
      some false :=
  (mk_f _ _ _ _ _ _ _ 4000).trans (by kernel_rfl)

/- spec.l14Grams -/
def spec_l14Grams_ir : Fn := { np := 1, io := [], res := [.t 2], own := [false], body :=
  (.seq (.reg false [⟨some 2, false, .asg (.c (.bool false)), none⟩] [0] []) (.seq (.reg false [⟨some 3, false, .mv (.t 0), none⟩, ⟨some 4, false, .call (.c (.fn 1 [])) [.t 3, .c (.int .i64 1), .c (.int .i64 10000)], none⟩, ⟨some 2, false, .asg (.t 4), none⟩] [2] []) .ret)) }
noncomputable def spec_l14Grams_D : List (Nat × Callee) := [(1, spec_l00In_c)]
def spec_l14Grams_H : List (Nat × ET) := []
noncomputable def spec_l14Grams_c : Callee := mkCallee spec_l14Grams_D spec_l14Grams_H spec_l14Grams_ir [.d (.one (.int .i64))] [.d (.one .bool)] []
noncomputable def spec_l14Grams (a0 : Int) : Option (Bool) := spec_l14Grams_c.f (a0, ())
theorem spec_l14Grams_eq (a0 : Int) : spec_l14Grams a0 =
    (spec_l00In a0 1 10000).bind fun x1 =>
      some x1 :=
  (mk_f _ _ _ _ _ _ _ 4000).trans (by kernel_rfl)

/- spec.l14Heat -/
def spec_l14Heat_ir : Fn := { np := 1, io := [], res := [.t 2], own := [false], body :=
  (.seq (.reg false [⟨some 2, false, .asg (.c (.bool false)), none⟩] [0] []) (.seq (.reg false [⟨some 3, false, .mv (.t 0), none⟩, ⟨some 4, false, .call (.c (.fn 1 [])) [.t 3, .c (.int .i64 20), .c (.int .i64 95)], none⟩, ⟨some 2, false, .asg (.t 4), none⟩] [2] []) .ret)) }
noncomputable def spec_l14Heat_D : List (Nat × Callee) := [(1, spec_l00In_c)]
def spec_l14Heat_H : List (Nat × ET) := []
noncomputable def spec_l14Heat_c : Callee := mkCallee spec_l14Heat_D spec_l14Heat_H spec_l14Heat_ir [.d (.one (.int .i64))] [.d (.one .bool)] []
noncomputable def spec_l14Heat (a0 : Int) : Option (Bool) := spec_l14Heat_c.f (a0, ())
theorem spec_l14Heat_eq (a0 : Int) : spec_l14Heat a0 =
    (spec_l00In a0 20 95).bind fun x1 =>
      some x1 :=
  (mk_f _ _ _ _ _ _ _ 4000).trans (by kernel_rfl)

/- spec.l14One -/
def spec_l14One_ir : Fn := { np := 1, io := [], res := [.t 2], own := [false], body :=
  (.seq (.reg false [⟨some 2, false, .asg (.c (.bool false)), none⟩] [0] []) (.seq (.reg false [⟨some 3, false, .mv (.t 0), none⟩, ⟨some 4, false, .nilck (.t 3), none⟩, ⟨some 5, false, .fa 0 (.t 4), none⟩, ⟨some 6, false, .ld none (.t 5), none⟩, ⟨some 7, false, .call (.c (.fn 13 [])) [.t 6], none⟩, ⟨some 8, false, .mv (.t 7), none⟩, ⟨some 9, false, .mv (.t 0), some (5, true)⟩, ⟨some 10, false, .nilck (.t 9), some (5, true)⟩, ⟨some 11, false, .fa 1 (.t 10), some (5, true)⟩, ⟨some 12, false, .ld none (.t 11), some (5, true)⟩, ⟨some 13, false, .call (.c (.fn 14 [])) [.t 12], some (5, true)⟩, ⟨some 14, false, .pick (.t 8) (.t 13) (.c (.bool false)), none⟩, ⟨some 15, false, .mv (.t 14), none⟩, ⟨some 16, false, .mv (.t 0), some (12, true)⟩, ⟨some 17, false, .nilck (.t 16), some (12, true)⟩, ⟨some 18, false, .fa 2 (.t 17), some (12, true)⟩, ⟨some 19, false, .ld none (.t 18), some (12, true)⟩, ⟨some 20, false, .call (.c (.fn 14 [])) [.t 19], some (12, true)⟩, ⟨some 21, false, .pick (.t 15) (.t 20) (.c (.bool false)), none⟩, ⟨some 22, false, .mv (.t 21), none⟩, ⟨some 23, false, .mv (.t 0), some (19, true)⟩, ⟨some 24, false, .nilck (.t 23), some (19, true)⟩, ⟨some 25, false, .fa 3 (.t 24), some (19, true)⟩, ⟨some 26, false, .ld none (.t 25), some (19, true)⟩, ⟨some 27, false, .call (.c (.fn 15 [])) [.t 26], some (19, true)⟩, ⟨some 28, false, .pick (.t 22) (.t 27) (.c (.bool false)), none⟩, ⟨some 29, false, .mv (.t 28), none⟩, ⟨some 30, false, .mv (.t 0), some (26, true)⟩, ⟨some 31, false, .nilck (.t 30), some (26, true)⟩, ⟨some 32, false, .fa 4 (.t 31), some (26, true)⟩, ⟨some 33, false, .ld none (.t 32), some (26, true)⟩, ⟨some 34, false, .call (.c (.fn 1 [])) [.t 33, .c (.int .i64 0), .c (.int .i64 1000)], some (26, true)⟩, ⟨some 35, false, .pick (.t 29) (.t 34) (.c (.bool false)), none⟩, ⟨some 2, false, .asg (.t 35), none⟩] [2] []) .ret)) }
noncomputable def spec_l14One_D : List (Nat × Callee) := [(1, spec_l00In_c), (13, spec_l01Name_c), (14, spec_l14Grams_c), (15, spec_l14Heat_c)]
def spec_l14One_H : List (Nat × ET) := []
noncomputable def spec_l14One_c : Callee := mkCallee spec_l14One_D spec_l14One_H spec_l14One_ir [.p T_Pot] [.d (.one .bool)] []
noncomputable def spec_l14One (a0 : T_Pot.ty) : Option (Bool) := spec_l14One_c.f (a0, ())
theorem spec_l14One_eq (a0 : T_Pot.ty) : spec_l14One a0 =
    (spec_l01Name a0.1).bind fun x1 =>
      if x1 then
        (spec_l14Grams a0.2.1).bind fun x2 =>
          if x2 then
            (spec_l14Grams a0.2.2.1).bind fun x3 =>
              if x3 then
                (spec_l14Heat a0.2.2.2.1).bind fun x4 =>
                  if x4 then
                    (spec_l00In a0.2.2.2.2.1 0 1000).bind fun x5 =>
                      some x5
                  else
                    some false
              else
                some false
          else
            some false
      else
        some false :=
  (mk_f _ _ _ _ _ _ _ 4000).trans (by kernel_rfl)

/- spec.l14Ok -/
def spec_l14Ok_k0 : C :=
  .seq (.seq (.reg false [⟨some 4, false, .mv (.t 3), none⟩, ⟨some 5, false, .mv (.t 0), none⟩, ⟨some 6, false, .len (.t 5), none⟩, ⟨some 7, false, .bin .lss (.t 4) (.t 6), none⟩] [0, 3, 7] []) (.cond (.t 7) .skip (.exit 0))) (.seq (.block 1 (.seq (.reg true [⟨some 10, false, .mv (.t 0), none⟩, ⟨some 11, false, .mv (.t 3), none⟩, ⟨some 12, false, .ia 5 (.t 10) (.t 11), none⟩, ⟨some 13, false, .call (.c (.fn 20 [])) [.t 12], none⟩, ⟨some 14, false, .un .not (.t 13), none⟩, ⟨some 15, false, .mv (.t 14), none⟩, ⟨some 16, false, .mv (.t 3), some (5, false)⟩, ⟨some 17, false, .bin .gtr (.t 16) (.c (.int .i64 0)), some (5, false)⟩, ⟨some 18, false, .mv (.t 17), some (5, false)⟩, ⟨some 19, false, .mv (.t 0), some (8, true)⟩, ⟨some 20, false, .mv (.t 3), some (8, true)⟩, ⟨some 21, false, .bin .sub (.t 20) (.c (.int .i64 1)), some (8, true)⟩, ⟨some 22, false, .ia 5 (.t 19) (.t 21), some (8, true)⟩, ⟨some 23, false, .fa 0 (.t 22), some (8, true)⟩, ⟨some 24, false, .ld none (.t 23), some (8, true)⟩, ⟨some 25, false, .mv (.t 0), some (8, true)⟩, ⟨some 26, false, .mv (.t 3), some (8, true)⟩, ⟨some 27, false, .ia 5 (.t 25) (.t 26), some (8, true)⟩, ⟨some 28, false, .fa 0 (.t 27), some (8, true)⟩, ⟨some 29, false, .ld none (.t 28), some (8, true)⟩, ⟨some 30, false, .bin .geq (.t 24) (.t 29), some (8, true)⟩, ⟨some 31, false, .pick (.t 18) (.t 30) (.c (.bool false)), some (5, false)⟩, ⟨some 32, false, .pick (.t 15) (.c (.bool true)) (.t 31), none⟩] [0, 3, 32] []) (.cond (.t 32) (.seq (.reg false [⟨some 2, false, .asg (.c (.bool false)), none⟩] [2] []) .ret) .skip))) (.reg false [⟨some 8, false, .mv (.t 3), none⟩, ⟨some 9, false, .bin .add (.t 8) (.c (.int .i64 1)), none⟩, ⟨some 3, false, .asg (.t 9), none⟩] [0, 3] []))
def spec_l14Ok_k1 : C :=
  .norm [0, 3] [] spec_l14Ok_k0
def spec_l14Ok_k2 : C :=
  .seq (.reg false [⟨some 33, false, .mv (.t 0), none⟩, ⟨some 34, false, .len (.t 33), none⟩, ⟨some 35, false, .bin .leq (.t 34) (.c (.int .i64 8)), none⟩, ⟨some 2, false, .asg (.t 35), none⟩] [2] []) .ret
def spec_l14Ok_ir : Fn := { np := 1, io := [], res := [.t 2], own := [false], body :=
  (.seq (.reg false [⟨some 2, false, .asg (.c (.bool false)), none⟩] [0] []) (.seq (.seq (.reg false [⟨some 3, false, .asg (.c (.int .i64 0)), none⟩] [0, 3] []) (.block 0 (.loop spec_l14Ok_k1))) spec_l14Ok_k2)) }
noncomputable def spec_l14Ok_D : List (Nat × Callee) := [(20, spec_l14One_c)]
def spec_l14Ok_H : List (Nat × ET) := [(5, T_Pot), (10, T_Pot), (19, T_Pot), (25, T_Pot), (33, T_Pot)]
noncomputable def spec_l14Ok_c : Callee := mkCallee spec_l14Ok_D spec_l14Ok_H spec_l14Ok_ir [.d (.one (.sl T_Pot))] [.d (.one .bool)] []
noncomputable def spec_l14Ok (a0 : List T_Pot.ty) : Option (Bool) := spec_l14Ok_c.f (a0, ())
noncomputable def spec_l14Ok_p0  (v0 : List T_Pot.ty) (v3 : Int) : Option (Bool) :=
  goL spec_l14Ok_D spec_l14Ok_H (vleave spec_l14Ok_ir [.d (.one (.sl T_Pot))] [.d (.one .bool)] [] []) [.c spec_l14Ok_k0, .l spec_l14Ok_k1, .e 0, .c spec_l14Ok_k2]
    ⟨[(0, .sl T_Pot v0), (3, .int .i64 v3)], []⟩
theorem spec_l14Ok_eq (a0 : List T_Pot.ty) : spec_l14Ok a0 =
    spec_l14Ok_p0 a0 0 :=
  (mk_f _ _ _ _ _ _ _ 4000).trans (by kernel_rfl)
theorem spec_l14Ok_p0_eq  (v0 : List T_Pot.ty) (v3 : Int) : spec_l14Ok_p0 v0 v3 =
    if decide (v3 < (v0.length : Int)) then
      if decide (0 ≤ v3) then
        (v0[v3.toNat]?).bind fun x1 =>
          (spec_l14One x1).bind fun x2 =>
            if (!x2) then
              some false
            else
              if decide (v3 > 0) then
                if decide (0 ≤ IntKind.i64.wrap (v3 - 1)) then
                  (v0[(IntKind.i64.wrap (v3 - 1)).toNat]?).bind fun x3 =>
                    if decide (0 ≤ v3) then
                      (v0[v3.toNat]?).bind fun x4 =>
                        if (!Op.bytesLess x3.1 x4.1) then
                          some false
                        else
                          spec_l14Ok_p0 v0 (IntKind.i64.wrap (v3 + 1))
                    else
                      none
                else
                  none
              else
                spec_l14Ok_p0 v0 (IntKind.i64.wrap (v3 + 1))
      else
        none
    else
      some (decide ((v0.length : Int) ≤ 8)) :=
  (goL_dn _ _ _ 4000 _ _).trans (by kernel_rfl)

/- spec.l14Joint -/
def spec_l14Joint_ir : Fn := { np := 2, io := [], res := [.t 4], own := [false], body :=
  (.seq (.reg false [⟨some 4, false, .asg (.c (.bool false)), none⟩] [0, 1] []) (.seq (.reg false [⟨some 5, false, .mv (.t 0), none⟩, ⟨some 6, false, .call (.c (.fn 1 [])) [.t 5, .c (.int .i64 0), .c (.int .i64 1000000)], none⟩, ⟨some 7, false, .mv (.t 6), none⟩, ⟨some 8, false, .mv (.t 1), some (2, true)⟩, ⟨some 9, false, .call (.c (.fn 1 [])) [.t 8, .c (.int .i64 1), .c (.int .i64 100000)], some (2, true)⟩, ⟨some 10, false, .pick (.t 7) (.t 9) (.c (.bool false)), none⟩, ⟨some 4, false, .asg (.t 10), none⟩] [4] []) .ret)) }
noncomputable def spec_l14Joint_D : List (Nat × Callee) := [(1, spec_l00In_c)]
def spec_l14Joint_H : List (Nat × ET) := []
noncomputable def spec_l14Joint_c : Callee := mkCallee spec_l14Joint_D spec_l14Joint_H spec_l14Joint_ir [.d (.one (.int .i64)), .d (.one (.int .i64))] [.d (.one .bool)] []
noncomputable def spec_l14Joint (a0 : Int) (a1 : Int) : Option (Bool) := spec_l14Joint_c.f (a0, a1, ())
theorem spec_l14Joint_eq (a0 : Int) (a1 : Int) : spec_l14Joint a0 a1 =
    (spec_l00In a0 0 1000000).bind fun x1 =>
      if x1 then
        (spec_l00In a1 1 100000).bind fun x2 =>
          some x2
      else
        some false :=
  (mk_f _ _ _ _ _ _ _ 4000).trans (by kernel_rfl)

/- spec.l14Seconds -/
def spec_l14Seconds_ir : Fn := { np := 1, io := [], res := [.t 2], own := [false], body :=
  (.seq (.reg false [⟨some 2, false, .asg (.c (.bool false)), none⟩] [0] []) (.seq (.reg false [⟨some 3, false, .mv (.t 0), none⟩, ⟨some 4, false, .call (.c (.fn 1 [])) [.t 3, .c (.int .i64 0), .c (.int .i64 1000)], none⟩, ⟨some 2, false, .asg (.t 4), none⟩] [2] []) .ret)) }
noncomputable def spec_l14Seconds_D : List (Nat × Callee) := [(1, spec_l00In_c)]
def spec_l14Seconds_H : List (Nat × ET) := []
noncomputable def spec_l14Seconds_c : Callee := mkCallee spec_l14Seconds_D spec_l14Seconds_H spec_l14Seconds_ir [.d (.one (.int .i64))] [.d (.one .bool)] []
noncomputable def spec_l14Seconds (a0 : Int) : Option (Bool) := spec_l14Seconds_c.f (a0, ())
theorem spec_l14Seconds_eq (a0 : Int) : spec_l14Seconds a0 =
    (spec_l00In a0 0 1000).bind fun x1 =>
      some x1 :=
  (mk_f _ _ _ _ _ _ _ 4000).trans (by kernel_rfl)

/- spec.l14Room -/
def spec_l14Room_ir : Fn := { np := 1, io := [], res := [.t 2], own := [false], body :=
  (.seq (.reg false [⟨some 2, false, .asg (.c (.bool false)), none⟩] [0] []) (.seq (.reg false [⟨some 3, false, .mv (.t 0), none⟩, ⟨some 4, false, .call (.c (.fn 1 [])) [.t 3, .c (.int .i64 0), .c (.int .i64 40)], none⟩, ⟨some 2, false, .asg (.t 4), none⟩] [2] []) .ret)) }
noncomputable def spec_l14Room_D : List (Nat × Callee) := [(1, spec_l00In_c)]
def spec_l14Room_H : List (Nat × ET) := []
noncomputable def spec_l14Room_c : Callee := mkCallee spec_l14Room_D spec_l14Room_H spec_l14Room_ir [.d (.one (.int .i64))] [.d (.one .bool)] []
noncomputable def spec_l14Room (a0 : Int) : Option (Bool) := spec_l14Room_c.f (a0, ())
theorem spec_l14Room_eq (a0 : Int) : spec_l14Room a0 =
    (spec_l00In a0 0 40).bind fun x1 =>
      some x1 :=
  (mk_f _ _ _ _ _ _ _ 4000).trans (by kernel_rfl)

/- spec.l01Div -/
def spec_l01Div_k0 : C :=
  .seq (.seq (.reg false [⟨some 11, false, .mv (.t 0), none⟩, ⟨some 12, false, .bin .lss (.t 11) (.c (.int .i64 0)), none⟩] [0, 1, 12] []) (.cond (.t 12) (.seq (.reg false [⟨some 13, false, .mv (.t 1), none⟩, ⟨some 14, false, .mv (.t 0), none⟩, ⟨some 15, false, .bin .mul (.c (.int .i64 2)) (.t 14), none⟩, ⟨some 16, false, .bin .sub (.t 13) (.t 15), none⟩, ⟨some 17, false, .mv (.t 1), none⟩, ⟨some 18, false, .bin .mul (.c (.int .i64 2)) (.t 17), none⟩, ⟨some 19, false, .bin .quo (.t 16) (.t 18), none⟩, ⟨some 20, false, .un .neg (.t 19), none⟩, ⟨some 4, false, .asg (.t 20), none⟩] [4] []) .ret) .skip)) (.seq (.reg false [⟨some 21, false, .mv (.t 0), none⟩, ⟨some 22, false, .bin .mul (.c (.int .i64 2)) (.t 21), none⟩, ⟨some 23, false, .mv (.t 1), none⟩, ⟨some 24, false, .bin .add (.t 22) (.t 23), none⟩, ⟨some 25, false, .mv (.t 1), none⟩, ⟨some 26, false, .bin .mul (.c (.int .i64 2)) (.t 25), none⟩, ⟨some 27, false, .bin .quo (.t 24) (.t 26), none⟩, ⟨some 4, false, .asg (.t 27), none⟩] [4] []) .ret)
def spec_l01Div_ir : Fn := { np := 2, io := [], res := [.t 4], own := [false], body :=
  (.seq (.reg false [⟨some 4, false, .asg (.c (.int .i64 0)), none⟩] [0, 1] []) (.seq (.seq (.reg false [⟨some 5, false, .mv (.t 1), none⟩, ⟨some 6, false, .bin .lss (.t 5) (.c (.int .i64 0)), none⟩] [0, 1, 6] []) (.cond (.t 6) (.seq (.reg false [⟨some 7, false, .mv (.t 0), none⟩, ⟨some 8, false, .un .neg (.t 7), none⟩, ⟨some 0, false, .asg (.t 8), none⟩] [0, 1] []) (.reg false [⟨some 9, false, .mv (.t 1), none⟩, ⟨some 10, false, .un .neg (.t 9), none⟩, ⟨some 1, false, .asg (.t 10), none⟩] [0, 1] [])) .skip)) (.norm [0, 1] [] spec_l01Div_k0))) }
noncomputable def spec_l01Div_D : List (Nat × Callee) := []
def spec_l01Div_H : List (Nat × ET) := []
noncomputable def spec_l01Div_c : Callee := mkCallee spec_l01Div_D spec_l01Div_H spec_l01Div_ir [.d (.one (.int .i64)), .d (.one (.int .i64))] [.d (.one (.int .i64))] []
noncomputable def spec_l01Div (a0 : Int) (a1 : Int) : Option (Int) := spec_l01Div_c.f (a0, a1, ())
noncomputable def spec_l01Div_p0  (v0 : Int) (v1 : Int) : Option (Int) :=
  goL spec_l01Div_D spec_l01Div_H (vleave spec_l01Div_ir [.d (.one (.int .i64)), .d (.one (.int .i64))] [.d (.one (.int .i64))] [] []) [.c spec_l01Div_k0]
    ⟨[(0, .int .i64 v0), (1, .int .i64 v1)], []⟩
theorem spec_l01Div_eq (a0 : Int) (a1 : Int) : spec_l01Div a0 a1 =
    if decide (a1 < 0) then
      spec_l01Div_p0 (IntKind.i64.wrap (0 - a0)) (IntKind.i64.wrap (0 - a1))
    else
      spec_l01Div_p0 a0 a1 :=
  (mk_f _ _ _ _ _ _ _ 4000).trans (by kernel_rfl)
theorem spec_l01Div_p0_eq  (v0 : Int) (v1 : Int) : spec_l01Div_p0 v0 v1 =
    if decide (v0 < 0) then
      if decide (IntKind.i64.wrap (2 * v1) = 0) then
        none
      else
        some (IntKind.i64.wrap (0 - (IntKind.i64.wrap ((IntKind.i64.wrap (v1 - (IntKind.i64.wrap (2 * v0)))).tdiv (IntKind.i64.wrap (2 * v1))))))
    else
      if decide (IntKind.i64.wrap (2 * v1) = 0) then
        none
      else
        some (IntKind.i64.wrap ((IntKind.i64.wrap ((IntKind.i64.wrap (2 * v0)) + v1)).tdiv (IntKind.i64.wrap (2 * v1)))) :=
  (goL_dn _ _ _ 4000 _ _).trans (by kernel_rfl)

/- spec.l00Max -/
def spec_l00Max_ir : Fn := { np := 2, io := [], res := [.t 4], own := [false], body :=
  (.seq (.reg false [⟨some 4, false, .asg (.c (.int .i64 0)), none⟩] [0, 1] []) (.seq (.seq (.reg false [⟨some 5, false, .mv (.t 0), none⟩, ⟨some 6, false, .mv (.t 1), none⟩, ⟨some 7, false, .bin .gtr (.t 5) (.t 6), none⟩] [0, 1, 7] []) (.cond (.t 7) (.seq (.reg false [⟨some 8, false, .mv (.t 0), none⟩, ⟨some 4, false, .asg (.t 8), none⟩] [4] []) .ret) .skip)) (.seq (.reg false [⟨some 9, false, .mv (.t 1), none⟩, ⟨some 4, false, .asg (.t 9), none⟩] [4] []) .ret))) }
noncomputable def spec_l00Max_D : List (Nat × Callee) := []
def spec_l00Max_H : List (Nat × ET) := []
noncomputable def spec_l00Max_c : Callee := mkCallee spec_l00Max_D spec_l00Max_H spec_l00Max_ir [.d (.one (.int .i64)), .d (.one (.int .i64))] [.d (.one (.int .i64))] []
noncomputable def spec_l00Max (a0 : Int) (a1 : Int) : Option (Int) := spec_l00Max_c.f (a0, a1, ())
theorem spec_l00Max_eq (a0 : Int) (a1 : Int) : spec_l00Max a0 a1 =
    if decide (a0 > a1) then
      some a0
    else
      some a1 :=
  (mk_f _ _ _ _ _ _ _ 4000).trans (by kernel_rfl)

/- spec.l14Strong -/
def spec_l14Strong_ir : Fn := { np := 1, io := [], res := [.t 2], own := [false], body :=
  (.seq (.reg false [⟨some 2, false, .asg (.c (.int .i64 0)), none⟩] [0] []) (.seq (.reg true [⟨some 3, false, .mv (.t 0), none⟩, ⟨some 4, false, .nilck (.t 3), none⟩, ⟨some 5, false, .fa 1 (.t 4), none⟩, ⟨some 6, false, .ld none (.t 5), none⟩, ⟨some 7, false, .bin .mul (.c (.int .i64 1000)) (.t 6), none⟩, ⟨some 8, false, .mv (.t 0), none⟩, ⟨some 9, false, .nilck (.t 8), none⟩, ⟨some 10, false, .fa 1 (.t 9), none⟩, ⟨some 11, false, .ld none (.t 10), none⟩, ⟨some 12, false, .mv (.t 0), none⟩, ⟨some 13, false, .nilck (.t 12), none⟩, ⟨some 14, false, .fa 2 (.t 13), none⟩, ⟨some 15, false, .ld none (.t 14), none⟩, ⟨some 16, false, .bin .add (.t 11) (.t 15), none⟩, ⟨some 17, false, .call (.c (.fn 16 [])) [.t 7, .t 16], none⟩, ⟨some 18, false, .mv (.t 0), none⟩, ⟨some 19, false, .nilck (.t 18), none⟩, ⟨some 20, false, .fa 4 (.t 19), none⟩, ⟨some 21, false, .ld none (.t 20), none⟩, ⟨some 22, false, .bin .mul (.c (.int .i64 2)) (.t 21), none⟩, ⟨some 23, false, .bin .sub (.t 17) (.t 22), none⟩, ⟨some 24, false, .mv (.t 0), none⟩, ⟨some 25, false, .nilck (.t 24), none⟩, ⟨some 26, false, .fa 3 (.t 25), none⟩, ⟨some 27, false, .ld none (.t 26), none⟩, ⟨some 28, false, .bin .sub (.t 27) (.c (.int .i64 70)), none⟩, ⟨some 29, false, .call (.c (.fn 17 [])) [.c (.int .i64 0), .t 28], none⟩, ⟨some 30, false, .bin .mul (.c (.int .i64 10)) (.t 29), none⟩, ⟨some 31, false, .bin .sub (.t 23) (.t 30), none⟩, ⟨some 32, false, .call (.c (.fn 17 [])) [.c (.int .i64 0), .t 31], none⟩, ⟨some 2, false, .asg (.t 32), none⟩] [2] []) .ret)) }
noncomputable def spec_l14Strong_D : List (Nat × Callee) := [(16, spec_l01Div_c), (17, spec_l00Max_c)]
def spec_l14Strong_H : List (Nat × ET) := []
noncomputable def spec_l14Strong_c : Callee := mkCallee spec_l14Strong_D spec_l14Strong_H spec_l14Strong_ir [.p T_Pot] [.d (.one (.int .i64))] []
noncomputable def spec_l14Strong (a0 : T_Pot.ty) : Option (Int) := spec_l14Strong_c.f (a0, ())
theorem spec_l14Strong_eq (a0 : T_Pot.ty) : spec_l14Strong a0 =
    (spec_l01Div (IntKind.i64.wrap (1000 * a0.2.1)) (IntKind.i64.wrap (a0.2.1 + a0.2.2.1))).bind fun x1 =>
      (spec_l00Max 0 (IntKind.i64.wrap (a0.2.2.2.1 - 70))).bind fun x2 =>
        (spec_l00Max 0 (IntKind.i64.wrap ((IntKind.i64.wrap (x1 - (IntKind.i64.wrap (2 * a0.2.2.2.2.1)))) - (IntKind.i64.wrap (10 * x2))))).bind fun x3 =>
          some x3 :=
  (mk_f _ _ _ _ _ _ _ 4000).trans (by kernel_rfl)

/- spec.l14Holds -/
def spec_l14Holds_ir : Fn := { np := 3, io := [], res := [.t 6], own := [false], body :=
  (.seq (.reg false [⟨some 6, false, .asg (.c (.bool false)), none⟩] [0, 1, 2] []) (.seq (.reg false [⟨some 7, false, .mv (.t 1), none⟩, ⟨some 8, false, .mv (.t 0), none⟩, ⟨some 9, false, .call (.c (.fn 50 [])) [.t 8], none⟩, ⟨some 10, false, .mv (.t 2), none⟩, ⟨some 11, false, .bin .mul (.t 9) (.t 10), none⟩, ⟨some 12, false, .bin .quo (.t 11) (.c (.int .i64 100)), none⟩, ⟨some 13, false, .bin .leq (.t 7) (.t 12), none⟩, ⟨some 6, false, .asg (.t 13), none⟩] [6] []) .ret)) }
noncomputable def spec_l14Holds_D : List (Nat × Callee) := [(50, spec_l14Strong_c)]
def spec_l14Holds_H : List (Nat × ET) := []
noncomputable def spec_l14Holds_c : Callee := mkCallee spec_l14Holds_D spec_l14Holds_H spec_l14Holds_ir [.p T_Pot, .d (.one (.int .i64)), .d (.one (.int .i64))] [.d (.one .bool)] []
noncomputable def spec_l14Holds (a0 : T_Pot.ty) (a1 : Int) (a2 : Int) : Option (Bool) := spec_l14Holds_c.f (a0, a1, a2, ())
theorem spec_l14Holds_eq (a0 : T_Pot.ty) (a1 : Int) (a2 : Int) : spec_l14Holds a0 a1 a2 =
    (spec_l14Strong a0).bind fun x1 =>
      some (decide (a1 ≤ IntKind.i64.wrap ((IntKind.i64.wrap (x1 * a2)).tdiv 100))) :=
  (mk_f _ _ _ _ _ _ _ 4000).trans (by kernel_rfl)

/- spec.l14Open -/
def spec_l14Open_ir : Fn := { np := 2, io := [], res := [.t 4], own := [false], body :=
  (.seq (.reg false [⟨some 4, false, .asg (.c (.int .i64 0)), none⟩] [0, 1] []) (.seq (.reg true [⟨some 5, false, .mv (.t 0), none⟩, ⟨some 6, false, .nilck (.t 5), none⟩, ⟨some 7, false, .fa 2 (.t 6), none⟩, ⟨some 8, false, .ld none (.t 7), none⟩, ⟨some 9, false, .bin .mul (.c (.int .i64 60)) (.t 8), none⟩, ⟨some 10, false, .mv (.t 0), none⟩, ⟨some 11, false, .nilck (.t 10), none⟩, ⟨some 12, false, .fa 1 (.t 11), none⟩, ⟨some 13, false, .ld none (.t 12), none⟩, ⟨some 14, false, .call (.c (.fn 16 [])) [.t 9, .t 13], none⟩, ⟨some 15, false, .mv (.t 1), none⟩, ⟨some 16, false, .bin .sub (.t 15) (.c (.int .i64 15)), none⟩, ⟨some 17, false, .bin .mul (.c (.int .i64 2)) (.t 16), none⟩, ⟨some 18, false, .bin .add (.t 14) (.t 17), none⟩, ⟨some 19, false, .mv (.t 0), none⟩, ⟨some 20, false, .nilck (.t 19), none⟩, ⟨some 21, false, .fa 3 (.t 20), none⟩, ⟨some 22, false, .ld none (.t 21), none⟩, ⟨some 23, false, .bin .add (.t 18) (.t 22), none⟩, ⟨some 24, false, .bin .sub (.t 23) (.c (.int .i64 60)), none⟩, ⟨some 25, false, .call (.c (.fn 17 [])) [.c (.int .i64 0), .t 24], none⟩, ⟨some 4, false, .asg (.t 25), none⟩] [4] []) .ret)) }
noncomputable def spec_l14Open_D : List (Nat × Callee) := [(16, spec_l01Div_c), (17, spec_l00Max_c)]
def spec_l14Open_H : List (Nat × ET) := []
noncomputable def spec_l14Open_c : Callee := mkCallee spec_l14Open_D spec_l14Open_H spec_l14Open_ir [.p T_Pot, .d (.one (.int .i64))] [.d (.one (.int .i64))] []
noncomputable def spec_l14Open (a0 : T_Pot.ty) (a1 : Int) : Option (Int) := spec_l14Open_c.f (a0, a1, ())
theorem spec_l14Open_eq (a0 : T_Pot.ty) (a1 : Int) : spec_l14Open a0 a1 =
    (spec_l01Div (IntKind.i64.wrap (60 * a0.2.2.1)) a0.2.1).bind fun x1 =>
      (spec_l00Max 0 (IntKind.i64.wrap ((IntKind.i64.wrap ((IntKind.i64.wrap (x1 + (IntKind.i64.wrap (2 * (IntKind.i64.wrap (a1 - 15)))))) + a0.2.2.2.1)) - 60))).bind fun x2 =>
        some x2 :=
  (mk_f _ _ _ _ _ _ _ 4000).trans (by kernel_rfl)

/- spec.PotFor -/
def spec_PotFor_k0 : C :=
  .seq (.seq (.reg false [⟨some 30, false, .mv (.t 12), none⟩, ⟨some 31, false, .mv (.t 0), none⟩, ⟨some 32, false, .len (.t 31), none⟩, ⟨some 33, false, .bin .lss (.t 30) (.t 32), none⟩] [0, 1, 2, 3, 4, 12, 33] []) (.cond (.t 33) .skip (.exit 0))) (.seq (.block 1 (.seq (.reg false [⟨some 36, false, .mv (.t 0), none⟩, ⟨some 37, false, .mv (.t 12), none⟩, ⟨some 38, false, .ia 5 (.t 36) (.t 37), none⟩, ⟨some 39, false, .mv (.t 1), none⟩, ⟨some 40, false, .mv (.t 2), none⟩, ⟨some 41, false, .call (.c (.fn 51 [])) [.t 38, .t 39, .t 40], none⟩, ⟨some 42, false, .mv (.t 41), none⟩, ⟨some 43, false, .mv (.t 0), some (6, true)⟩, ⟨some 44, false, .mv (.t 12), some (6, true)⟩, ⟨some 45, false, .ia 5 (.t 43) (.t 44), some (6, true)⟩, ⟨some 46, false, .mv (.t 4), some (6, true)⟩, ⟨some 47, false, .call (.c (.fn 18 [])) [.t 45, .t 46], some (6, true)⟩, ⟨some 48, false, .mv (.t 3), some (6, true)⟩, ⟨some 49, false, .bin .geq (.t 47) (.t 48), some (6, true)⟩, ⟨some 50, false, .pick (.t 42) (.t 49) (.c (.bool false)), none⟩] [0, 1, 2, 3, 4, 12, 50] []) (.cond (.t 50) (.seq (.reg false [⟨some 51, false, .mv (.t 12), none⟩, ⟨some 10, false, .asg (.t 51), none⟩, ⟨some 11, false, .asg (.c (.int .i64 0)), none⟩] [10, 11] []) .ret) .skip))) (.reg false [⟨some 34, false, .mv (.t 12), none⟩, ⟨some 35, false, .bin .add (.t 34) (.c (.int .i64 1)), none⟩, ⟨some 12, false, .asg (.t 35), none⟩] [0, 1, 2, 3, 4, 12] []))
def spec_PotFor_k1 : C :=
  .norm [0, 1, 2, 3, 4, 12] [] spec_PotFor_k0
def spec_PotFor_k2 : C :=
  .seq (.reg false [⟨some 10, false, .asg (.c (.int .i64 0)), none⟩, ⟨some 11, false, .asg (.c (.int .i64 3)), none⟩] [10, 11] []) .ret
def spec_PotFor_k3 : C :=
  .seq (.seq (.reg false [⟨some 12, false, .asg (.c (.int .i64 0)), none⟩] [0, 1, 2, 3, 4, 12] []) (.block 0 (.loop spec_PotFor_k1))) spec_PotFor_k2
def spec_PotFor_ir : Fn := { np := 5, io := [], res := [.t 10, .t 11], own := [false, false], body :=
  (.seq (.reg false [⟨some 10, false, .asg (.c (.int .i64 0)), none⟩, ⟨some 11, false, .asg (.c (.int .i64 0)), none⟩] [0, 1, 2, 3, 4] []) (.seq (.seq (.reg false [⟨some 13, false, .mv (.t 0), none⟩, ⟨some 14, false, .call (.c (.fn 53 [])) [.t 13], none⟩, ⟨some 15, false, .un .not (.t 14), none⟩] [0, 1, 2, 3, 4, 15] []) (.cond (.t 15) (.seq (.reg false [⟨some 10, false, .asg (.c (.int .i64 0)), none⟩, ⟨some 11, false, .asg (.c (.int .i64 1)), none⟩] [10, 11] []) .ret) .skip)) (.seq (.seq (.reg false [⟨some 16, false, .mv (.t 1), none⟩, ⟨some 17, false, .mv (.t 2), none⟩, ⟨some 18, false, .call (.c (.fn 52 [])) [.t 16, .t 17], none⟩, ⟨some 19, false, .un .not (.t 18), none⟩, ⟨some 20, false, .mv (.t 19), none⟩, ⟨some 21, false, .mv (.t 3), some (4, false)⟩, ⟨some 22, false, .call (.c (.fn 35 [])) [.t 21], some (4, false)⟩, ⟨some 23, false, .un .not (.t 22), some (4, false)⟩, ⟨some 24, false, .pick (.t 20) (.c (.bool true)) (.t 23), none⟩, ⟨some 25, false, .mv (.t 24), none⟩, ⟨some 26, false, .mv (.t 4), some (9, false)⟩, ⟨some 27, false, .call (.c (.fn 19 [])) [.t 26], some (9, false)⟩, ⟨some 28, false, .un .not (.t 27), some (9, false)⟩, ⟨some 29, false, .pick (.t 25) (.c (.bool true)) (.t 28), none⟩] [0, 1, 2, 3, 4, 29] []) (.cond (.t 29) (.seq (.reg false [⟨some 10, false, .asg (.c (.int .i64 0)), none⟩, ⟨some 11, false, .asg (.c (.int .i64 2)), none⟩] [10, 11] []) .ret) .skip)) (.norm [0, 1, 2, 3, 4] [] spec_PotFor_k3)))) }
noncomputable def spec_PotFor_D : List (Nat × Callee) := [(18, spec_l14Open_c), (19, spec_l14Room_c), (35, spec_l14Seconds_c), (51, spec_l14Holds_c), (52, spec_l14Joint_c), (53, spec_l14Ok_c)]
def spec_PotFor_H : List (Nat × ET) := [(13, T_Pot), (31, T_Pot), (36, T_Pot), (43, T_Pot)]
noncomputable def spec_PotFor_c : Callee := mkCallee spec_PotFor_D spec_PotFor_H spec_PotFor_ir [.d (.one (.sl T_Pot)), .d (.one (.int .i64)), .d (.one (.int .i64)), .d (.one (.int .i64)), .d (.one (.int .i64))] [.d (.one (.int .i64)), .d (.one (.int .i64))] []
noncomputable def spec_PotFor (a0 : List T_Pot.ty) (a1 : Int) (a2 : Int) (a3 : Int) (a4 : Int) : Option (Int × Int) := spec_PotFor_c.f (a0, a1, a2, a3, a4, ())
noncomputable def spec_PotFor_p0  (v0 : List T_Pot.ty) (v1 : Int) (v2 : Int) (v3 : Int) (v4 : Int) : Option (Int × Int) :=
  goL spec_PotFor_D spec_PotFor_H (vleave spec_PotFor_ir [.d (.one (.sl T_Pot)), .d (.one (.int .i64)), .d (.one (.int .i64)), .d (.one (.int .i64)), .d (.one (.int .i64))] [.d (.one (.int .i64)), .d (.one (.int .i64))] [] []) [.c spec_PotFor_k3]
    ⟨[(0, .sl T_Pot v0), (1, .int .i64 v1), (2, .int .i64 v2), (3, .int .i64 v3), (4, .int .i64 v4)], []⟩
noncomputable def spec_PotFor_p1  (v0 : List T_Pot.ty) (v1 : Int) (v2 : Int) (v3 : Int) (v4 : Int) (v12 : Int) : Option (Int × Int) :=
  goL spec_PotFor_D spec_PotFor_H (vleave spec_PotFor_ir [.d (.one (.sl T_Pot)), .d (.one (.int .i64)), .d (.one (.int .i64)), .d (.one (.int .i64)), .d (.one (.int .i64))] [.d (.one (.int .i64)), .d (.one (.int .i64))] [] []) [.c spec_PotFor_k0, .l spec_PotFor_k1, .e 0, .c spec_PotFor_k2]
    ⟨[(0, .sl T_Pot v0), (1, .int .i64 v1), (2, .int .i64 v2), (3, .int .i64 v3), (4, .int .i64 v4), (12, .int .i64 v12)], []⟩
theorem spec_PotFor_eq (a0 : List T_Pot.ty) (a1 : Int) (a2 : Int) (a3 : Int) (a4 : Int) : spec_PotFor a0 a1 a2 a3 a4 =
    (spec_l14Ok a0).bind fun x1 =>
      if (!x1) then
        some (0, 1)
      else
        (spec_l14Joint a1 a2).bind fun x2 =>
          if (!x2) then
            some (0, 2)
          else
            (spec_l14Seconds a3).bind fun x3 =>
              if (!x3) then
                some (0, 2)
              else
                (spec_l14Room a4).bind fun x4 =>
                  if (!x4) then
                    some (0, 2)
                  else
                    spec_PotFor_p0 a0 a1 a2 a3 a4 :=
  (mk_f _ _ _ _ _ _ _ 4000).trans (by kernel_rfl)
theorem spec_PotFor_p0_eq  (v0 : List T_Pot.ty) (v1 : Int) (v2 : Int) (v3 : Int) (v4 : Int) : spec_PotFor_p0 v0 v1 v2 v3 v4 =
    spec_PotFor_p1 v0 v1 v2 v3 v4 0 :=
  (goL_dn _ _ _ 4000 _ _).trans (by kernel_rfl)
theorem spec_PotFor_p1_eq  (v0 : List T_Pot.ty) (v1 : Int) (v2 : Int) (v3 : Int) (v4 : Int) (v12 : Int) : spec_PotFor_p1 v0 v1 v2 v3 v4 v12 =
    if decide (v12 < (v0.length : Int)) then
      if decide (0 ≤ v12) then
        (v0[v12.toNat]?).bind fun x1 =>
          (spec_l14Holds x1 v1 v2).bind fun x2 =>
            if x2 then
              if decide (0 ≤ v12) then
                (v0[v12.toNat]?).bind fun x3 =>
                  (spec_l14Open x3 v4).bind fun x4 =>
                    if decide (x4 ≥ v3) then
                      some (v12, 0)
                    else
                      spec_PotFor_p1 v0 v1 v2 v3 v4 (IntKind.i64.wrap (v12 + 1))
              else
                none
            else
              spec_PotFor_p1 v0 v1 v2 v3 v4 (IntKind.i64.wrap (v12 + 1))
      else
        none
    else
      some (0, 3) :=
  (goL_dn _ _ _ 4000 _ _).trans (by kernel_rfl)

/- impl.isDigit -/
def impl_isDigit_ir : Fn := { np := 1, io := [], res := [.t 2], own := [false], body :=
  (.seq (.reg false [⟨some 2, false, .asg (.c (.bool false)), none⟩] [0] []) (.seq (.reg false [⟨some 3, false, .mv (.t 0), none⟩, ⟨some 4, false, .bin .geq (.t 3) (.c (.int .u8 48)), none⟩, ⟨some 5, false, .mv (.t 4), none⟩, ⟨some 6, false, .mv (.t 0), some (2, true)⟩, ⟨some 7, false, .bin .leq (.t 6) (.c (.int .u8 57)), some (2, true)⟩, ⟨some 8, false, .pick (.t 5) (.t 7) (.c (.bool false)), none⟩, ⟨some 2, false, .asg (.t 8), none⟩] [2] []) .ret)) }
noncomputable def impl_isDigit_D : List (Nat × Callee) := []
def impl_isDigit_H : List (Nat × ET) := []
noncomputable def impl_isDigit_c : Callee := mkCallee impl_isDigit_D impl_isDigit_H impl_isDigit_ir [.d (.one (.int .u8))] [.d (.one .bool)] []
noncomputable def impl_isDigit (a0 : Int) : Option (Bool) := impl_isDigit_c.f (a0, ())
theorem impl_isDigit_eq (a0 : Int) : impl_isDigit a0 =
    if decide (a0 ≥ 48) then
      some (decide (a0 ≤ 57))
    else
      some false :=
  (mk_f _ _ _ _ _ _ _ 4000).trans (by kernel_rfl)

/- impl.few -/
def impl_few_ir : Fn := { np := 2, io := [], res := [.t 4], own := [false], body :=
  (.seq (.reg false [⟨some 4, false, .asg (.c (.bool false)), none⟩] [0, 1] []) (.seq (.reg false [⟨some 5, false, .mv (.t 0), none⟩, ⟨some 6, false, .mv (.t 1), none⟩, ⟨some 7, false, .bin .leq (.t 5) (.t 6), none⟩, ⟨some 4, false, .asg (.t 7), none⟩] [4] []) .ret)) }
noncomputable def impl_few_D : List (Nat × Callee) := []
def impl_few_H : List (Nat × ET) := []
noncomputable def impl_few_c : Callee := mkCallee impl_few_D impl_few_H impl_few_ir [.d (.one (.int .i64)), .d (.one (.int .i64))] [.d (.one .bool)] []
noncomputable def impl_few (a0 : Int) (a1 : Int) : Option (Bool) := impl_few_c.f (a0, a1, ())
theorem impl_few_eq (a0 : Int) (a1 : Int) : impl_few a0 a1 =
    some (decide (a0 ≤ a1)) :=
  (mk_f _ _ _ _ _ _ _ 4000).trans (by kernel_rfl)

/- impl.IsName -/
def impl_IsName_k0 : C :=
  .seq (.reg false [⟨some 21, false, .mv (.t 4), none⟩, ⟨some 22, false, .un .not (.t 21), none⟩, ⟨some 23, false, .mv (.t 22), none⟩, ⟨some 24, false, .mv (.t 3), some (2, true)⟩, ⟨some 25, false, .bin .eql (.t 24) (.c (.int .i64 0)), some (2, true)⟩, ⟨some 26, false, .mv (.t 25), some (2, true)⟩, ⟨some 27, false, .mv (.t 0), some (5, false)⟩, ⟨some 28, false, .mv (.t 3), some (5, false)⟩, ⟨some 29, false, .ix (.t 27) (.t 28), some (5, false)⟩, ⟨some 30, false, .call (.c (.fn 22 [])) [.t 29], some (5, false)⟩, ⟨some 31, false, .un .not (.t 30), some (5, false)⟩, ⟨some 32, false, .pick (.t 26) (.c (.bool true)) (.t 31), some (2, true)⟩, ⟨some 33, false, .pick (.t 23) (.t 32) (.c (.bool false)), none⟩] [0, 3, 33] []) (.cond (.t 33) (.seq (.reg false [⟨some 2, false, .asg (.c (.bool false)), none⟩] [2] []) .ret) .skip)
def impl_IsName_k1 : C :=
  .reg false [⟨some 9, false, .mv (.t 3), none⟩, ⟨some 10, false, .bin .add (.t 9) (.c (.int .i64 1)), none⟩, ⟨some 3, false, .asg (.t 10), none⟩] [0, 3] []
def impl_IsName_k2 : C :=
  .seq (.seq (.reg false [⟨some 5, false, .mv (.t 3), none⟩, ⟨some 6, false, .mv (.t 0), none⟩, ⟨some 7, false, .lens (.t 6), none⟩, ⟨some 8, false, .bin .lss (.t 5) (.t 7), none⟩] [0, 3, 8] []) (.cond (.t 8) .skip (.exit 0))) (.seq (.block 1 (.seq (.reg false [⟨some 11, false, .mv (.t 0), none⟩, ⟨some 12, false, .mv (.t 3), none⟩, ⟨some 13, false, .ix (.t 11) (.t 12), none⟩, ⟨some 14, false, .bin .geq (.t 13) (.c (.int .u8 97)), none⟩, ⟨some 15, false, .mv (.t 14), none⟩, ⟨some 16, false, .mv (.t 0), some (4, true)⟩, ⟨some 17, false, .mv (.t 3), some (4, true)⟩, ⟨some 18, false, .ix (.t 16) (.t 17), some (4, true)⟩, ⟨some 19, false, .bin .leq (.t 18) (.c (.int .u8 122)), some (4, true)⟩, ⟨some 20, false, .pick (.t 15) (.t 19) (.c (.bool false)), none⟩, ⟨some 4, false, .asg (.t 20), none⟩] [0, 3, 4] []) (.norm [0, 3, 4] [] impl_IsName_k0))) impl_IsName_k1)
def impl_IsName_k3 : C :=
  .norm [0, 3] [] impl_IsName_k2
def impl_IsName_k4 : C :=
  .seq (.reg false [⟨some 34, false, .mv (.t 0), none⟩, ⟨some 35, false, .bin .neq (.t 34) (.c (.str [])), none⟩, ⟨some 36, false, .mv (.t 35), none⟩, ⟨some 37, false, .mv (.t 0), some (2, true)⟩, ⟨some 38, false, .lens (.t 37), some (2, true)⟩, ⟨some 39, false, .call (.c (.fn 21 [])) [.t 38, .c (.int .i64 10)], some (2, true)⟩, ⟨some 40, false, .pick (.t 36) (.t 39) (.c (.bool false)), none⟩, ⟨some 2, false, .asg (.t 40), none⟩] [2] []) .ret
def impl_IsName_ir : Fn := { np := 1, io := [], res := [.t 2], own := [false], body :=
  (.seq (.reg false [⟨some 2, false, .asg (.c (.bool false)), none⟩] [0] []) (.seq (.seq (.reg false [⟨some 3, false, .asg (.c (.int .i64 0)), none⟩] [0, 3] []) (.block 0 (.loop impl_IsName_k3))) impl_IsName_k4)) }
noncomputable def impl_IsName_D : List (Nat × Callee) := [(21, impl_few_c), (22, impl_isDigit_c)]
def impl_IsName_H : List (Nat × ET) := []
noncomputable def impl_IsName_c : Callee := mkCallee impl_IsName_D impl_IsName_H impl_IsName_ir [.d (.one .str)] [.d (.one .bool)] []
noncomputable def impl_IsName (a0 : List UInt8) : Option (Bool) := impl_IsName_c.f (a0, ())
noncomputable def impl_IsName_p0  (v0 : List UInt8) (v3 : Int) : Option (Bool) :=
  goL impl_IsName_D impl_IsName_H (vleave impl_IsName_ir [.d (.one .str)] [.d (.one .bool)] [] []) [.c impl_IsName_k2, .l impl_IsName_k3, .e 0, .c impl_IsName_k4]
    ⟨[(0, .str v0), (3, .int .i64 v3)], []⟩
noncomputable def impl_IsName_p1  (v0 : List UInt8) (v3 : Int) (v4 : Bool) : Option (Bool) :=
  goL impl_IsName_D impl_IsName_H (vleave impl_IsName_ir [.d (.one .str)] [.d (.one .bool)] [] []) [.c impl_IsName_k0, .e 1, .c impl_IsName_k1, .l impl_IsName_k3, .e 0, .c impl_IsName_k4]
    ⟨[(0, .str v0), (3, .int .i64 v3), (4, .bool v4)], []⟩
theorem impl_IsName_eq (a0 : List UInt8) : impl_IsName a0 =
    impl_IsName_p0 a0 0 :=
  (mk_f _ _ _ _ _ _ _ 4000).trans (by kernel_rfl)
theorem impl_IsName_p0_eq  (v0 : List UInt8) (v3 : Int) : impl_IsName_p0 v0 v3 =
    if decide (v3 < (v0.length : Int)) then
      if decide (0 ≤ v3) then
        (v0[v3.toNat]?).bind fun x1 =>
          if decide ((x1.toNat : Int) ≥ 97) then
            if decide (0 ≤ v3) then
              (v0[v3.toNat]?).bind fun x2 =>
                impl_IsName_p1 v0 v3 (decide ((x2.toNat : Int) ≤ 122))
            else
              none
          else
            impl_IsName_p1 v0 v3 false
      else
        none
    else
      if (!(v0 == [])) then
        (impl_few (v0.length : Int) 10).bind fun x3 =>
          some x3
      else
        some false :=
  (goL_dn _ _ _ 4000 _ _).trans (by kernel_rfl)
theorem impl_IsName_p1_eq  (v0 : List UInt8) (v3 : Int) (v4 : Bool) : impl_IsName_p1 v0 v3 v4 =
    if (!v4) then
      if (v3 == 0) then
        some false
      else
        if decide (0 ≤ v3) then
          (v0[v3.toNat]?).bind fun x1 =>
            (impl_isDigit (x1.toNat : Int)).bind fun x2 =>
              if (!x2) then
                some false
              else
                impl_IsName_p0 v0 (IntKind.i64.wrap (v3 + 1))
        else
          none
    else
      impl_IsName_p0 v0 (IntKind.i64.wrap (v3 + 1)) :=
  (goL_dn _ _ _ 4000 _ _).trans (by kernel_rfl)

/- impl.within -/
def impl_within_ir : Fn := { np := 3, io := [], res := [.t 6], own := [false], body :=
  (.seq (.reg false [⟨some 6, false, .asg (.c (.bool false)), none⟩] [0, 1, 2] []) (.seq (.reg false [⟨some 7, false, .mv (.t 1), none⟩, ⟨some 8, false, .mv (.t 0), none⟩, ⟨some 9, false, .bin .leq (.t 7) (.t 8), none⟩, ⟨some 10, false, .mv (.t 9), none⟩, ⟨some 11, false, .mv (.t 0), some (3, true)⟩, ⟨some 12, false, .mv (.t 2), some (3, true)⟩, ⟨some 13, false, .bin .leq (.t 11) (.t 12), some (3, true)⟩, ⟨some 14, false, .pick (.t 10) (.t 13) (.c (.bool false)), none⟩, ⟨some 6, false, .asg (.t 14), none⟩] [6] []) .ret)) }
noncomputable def impl_within_D : List (Nat × Callee) := []
def impl_within_H : List (Nat × ET) := []
noncomputable def impl_within_c : Callee := mkCallee impl_within_D impl_within_H impl_within_ir [.d (.one (.int .i64)), .d (.one (.int .i64)), .d (.one (.int .i64))] [.d (.one .bool)] []
noncomputable def impl_within (a0 : Int) (a1 : Int) (a2 : Int) : Option (Bool) := impl_within_c.f (a0, a1, a2, ())
theorem impl_within_eq (a0 : Int) (a1 : Int) (a2 : Int) : impl_within a0 a1 a2 =
    if decide (a1 ≤ a0) then
      some (decide (a0 ≤ a2))
    else
      some false :=
  (mk_f _ _ _ _ _ _ _ 4000).trans (by kernel_rfl)

/- impl.isGrams -/
def impl_isGrams_ir : Fn := { np := 1, io := [], res := [.t 2], own := [false], body :=
  (.seq (.reg false [⟨some 2, false, .asg (.c (.bool false)), none⟩] [0] []) (.seq (.reg false [⟨some 3, false, .mv (.t 0), none⟩, ⟨some 4, false, .call (.c (.fn 23 [])) [.t 3, .c (.int .i64 1), .c (.int .i64 10000)], none⟩, ⟨some 2, false, .asg (.t 4), none⟩] [2] []) .ret)) }
noncomputable def impl_isGrams_D : List (Nat × Callee) := [(23, impl_within_c)]
def impl_isGrams_H : List (Nat × ET) := []
noncomputable def impl_isGrams_c : Callee := mkCallee impl_isGrams_D impl_isGrams_H impl_isGrams_ir [.d (.one (.int .i64))] [.d (.one .bool)] []
noncomputable def impl_isGrams (a0 : Int) : Option (Bool) := impl_isGrams_c.f (a0, ())
theorem impl_isGrams_eq (a0 : Int) : impl_isGrams a0 =
    (impl_within a0 1 10000).bind fun x1 =>
      some x1 :=
  (mk_f _ _ _ _ _ _ _ 4000).trans (by kernel_rfl)

/- impl.isHeat -/
def impl_isHeat_ir : Fn := { np := 1, io := [], res := [.t 2], own := [false], body :=
  (.seq (.reg false [⟨some 2, false, .asg (.c (.bool false)), none⟩] [0] []) (.seq (.reg false [⟨some 3, false, .mv (.t 0), none⟩, ⟨some 4, false, .call (.c (.fn 23 [])) [.t 3, .c (.int .i64 20), .c (.int .i64 95)], none⟩, ⟨some 2, false, .asg (.t 4), none⟩] [2] []) .ret)) }
noncomputable def impl_isHeat_D : List (Nat × Callee) := [(23, impl_within_c)]
def impl_isHeat_H : List (Nat × ET) := []
noncomputable def impl_isHeat_c : Callee := mkCallee impl_isHeat_D impl_isHeat_H impl_isHeat_ir [.d (.one (.int .i64))] [.d (.one .bool)] []
noncomputable def impl_isHeat (a0 : Int) : Option (Bool) := impl_isHeat_c.f (a0, ())
theorem impl_isHeat_eq (a0 : Int) : impl_isHeat a0 =
    (impl_within a0 20 95).bind fun x1 =>
      some x1 :=
  (mk_f _ _ _ _ _ _ _ 4000).trans (by kernel_rfl)

/- (impl.Pot).valid -/
def impl_Pot_valid_ir : Fn := { np := 1, io := [], res := [.t 2], own := [false], body :=
  (.seq (.reg false [⟨some 1, true, .box 5 (.t 0), none⟩, ⟨some 2, false, .asg (.c (.bool false)), none⟩] [1] [1]) (.seq (.reg false [⟨some 3, false, .fa 0 (.t 1), none⟩, ⟨some 4, false, .ld none (.t 3), none⟩, ⟨some 5, false, .call (.c (.fn 24 [])) [.t 4], none⟩, ⟨some 6, false, .mv (.t 5), none⟩, ⟨some 7, false, .fa 1 (.t 1), some (3, true)⟩, ⟨some 8, false, .ld none (.t 7), some (3, true)⟩, ⟨some 9, false, .call (.c (.fn 25 [])) [.t 8], some (3, true)⟩, ⟨some 10, false, .pick (.t 6) (.t 9) (.c (.bool false)), none⟩, ⟨some 11, false, .mv (.t 10), none⟩, ⟨some 12, false, .fa 2 (.t 1), some (8, true)⟩, ⟨some 13, false, .ld none (.t 12), some (8, true)⟩, ⟨some 14, false, .call (.c (.fn 25 [])) [.t 13], some (8, true)⟩, ⟨some 15, false, .pick (.t 11) (.t 14) (.c (.bool false)), none⟩, ⟨some 16, false, .mv (.t 15), none⟩, ⟨some 17, false, .fa 3 (.t 1), some (13, true)⟩, ⟨some 18, false, .ld none (.t 17), some (13, true)⟩, ⟨some 19, false, .call (.c (.fn 26 [])) [.t 18], some (13, true)⟩, ⟨some 20, false, .pick (.t 16) (.t 19) (.c (.bool false)), none⟩, ⟨some 21, false, .mv (.t 20), none⟩, ⟨some 22, false, .fa 4 (.t 1), some (18, true)⟩, ⟨some 23, false, .ld none (.t 22), some (18, true)⟩, ⟨some 24, false, .call (.c (.fn 23 [])) [.t 23, .c (.int .i64 0), .c (.int .i64 1000)], some (18, true)⟩, ⟨some 25, false, .pick (.t 21) (.t 24) (.c (.bool false)), none⟩, ⟨some 2, false, .asg (.t 25), none⟩] [2] []) .ret)) }
noncomputable def impl_Pot_valid_D : List (Nat × Callee) := [(23, impl_within_c), (24, impl_IsName_c), (25, impl_isGrams_c), (26, impl_isHeat_c)]
def impl_Pot_valid_H : List (Nat × ET) := []
noncomputable def impl_Pot_valid_c : Callee := mkCallee impl_Pot_valid_D impl_Pot_valid_H impl_Pot_valid_ir [.d T_Pot] [.d (.one .bool)] []
noncomputable def impl_Pot_valid (a0 : T_Pot.ty) : Option (Bool) := impl_Pot_valid_c.f (a0, ())
theorem impl_Pot_valid_eq (a0 : T_Pot.ty) : impl_Pot_valid a0 =
    (impl_IsName a0.1).bind fun x1 =>
      if x1 then
        (impl_isGrams a0.2.1).bind fun x2 =>
          if x2 then
            (impl_isGrams a0.2.2.1).bind fun x3 =>
              if x3 then
                (impl_isHeat a0.2.2.2.1).bind fun x4 =>
                  if x4 then
                    (impl_within a0.2.2.2.2.1 0 1000).bind fun x5 =>
                      some x5
                  else
                    some false
              else
                some false
          else
            some false
      else
        some false :=
  (mk_f _ _ _ _ _ _ _ 4000).trans (by kernel_rfl)

/- impl.ValidPots -/
def impl_ValidPots_k0 : C :=
  .seq (.reg false [⟨some 8, false, .bin .lss (.t 7) (.t 6), none⟩] [0, 5, 6, 7, 8] []) (.seq (.cond (.t 8) .skip (.exit 0)) (.seq (.block 1 (.seq (.reg false [⟨some 9, false, .mv (.t 7), none⟩, ⟨some 10, false, .ia 5 (.t 5) (.t 7), none⟩, ⟨some 11, false, .ld (some 5) (.t 10), none⟩, ⟨some 4, true, .alloc 5 (.agg [.str [], .int .i64 0, .int .i64 0, .int .i64 0, .int .i64 0]), none⟩, ⟨some 3, false, .asg (.t 9), none⟩, ⟨none, true, .sto 5 (.t 4) (.t 11), none⟩] [0, 3, 4, 5, 6, 7] [4]) (.seq (.reg true [⟨some 12, false, .ld (some 5) (.t 4), none⟩, ⟨some 13, false, .call (.c (.fn 30 [])) [.t 12], none⟩, ⟨some 14, false, .un .not (.t 13), none⟩, ⟨some 15, false, .mv (.t 14), none⟩, ⟨some 16, false, .mv (.t 3), some (3, false)⟩, ⟨some 17, false, .bin .gtr (.t 16) (.c (.int .i64 0)), some (3, false)⟩, ⟨some 18, false, .mv (.t 17), some (3, false)⟩, ⟨some 19, false, .mv (.t 0), some (6, true)⟩, ⟨some 20, false, .mv (.t 3), some (6, true)⟩, ⟨some 21, false, .bin .sub (.t 20) (.c (.int .i64 1)), some (6, true)⟩, ⟨some 22, false, .ia 5 (.t 19) (.t 21), some (6, true)⟩, ⟨some 23, false, .fa 0 (.t 22), some (6, true)⟩, ⟨some 24, false, .ld none (.t 23), some (6, true)⟩, ⟨some 25, false, .fa 0 (.t 4), some (6, true)⟩, ⟨some 26, false, .ld none (.t 25), some (6, true)⟩, ⟨some 27, false, .bin .geq (.t 24) (.t 26), some (6, true)⟩, ⟨some 28, false, .pick (.t 18) (.t 27) (.c (.bool false)), some (3, false)⟩, ⟨some 29, false, .pick (.t 15) (.c (.bool true)) (.t 28), none⟩] [0, 5, 6, 7, 29] []) (.cond (.t 29) (.seq (.reg false [⟨some 2, false, .asg (.c (.bool false)), none⟩] [2] []) .ret) .skip)))) (.reg false [⟨some 30, false, .bin .add (.t 7) (.c (.int .i64 1)), none⟩, ⟨some 7, false, .mv (.t 30), none⟩] [0, 5, 6, 7] [])))
def impl_ValidPots_k1 : C :=
  .norm [0, 5, 6, 7] [] impl_ValidPots_k0
def impl_ValidPots_k2 : C :=
  .seq (.reg false [⟨some 31, false, .mv (.t 0), none⟩, ⟨some 32, false, .len (.t 31), none⟩, ⟨some 33, false, .call (.c (.fn 21 [])) [.t 32, .c (.int .i64 8)], none⟩, ⟨some 2, false, .asg (.t 33), none⟩] [2] []) .ret
def impl_ValidPots_ir : Fn := { np := 1, io := [], res := [.t 2], own := [false], body :=
  (.seq (.reg false [⟨some 2, false, .asg (.c (.bool false)), none⟩] [0] []) (.seq (.seq (.reg false [⟨some 5, false, .mv (.t 0), none⟩, ⟨some 6, false, .len (.t 5), none⟩, ⟨some 7, false, .mv (.c (.int .i64 0)), none⟩] [0, 5, 6, 7] []) (.block 0 (.loop impl_ValidPots_k1))) impl_ValidPots_k2)) }
noncomputable def impl_ValidPots_D : List (Nat × Callee) := [(21, impl_few_c), (30, impl_Pot_valid_c)]
def impl_ValidPots_H : List (Nat × ET) := [(5, T_Pot), (19, T_Pot), (31, T_Pot)]
noncomputable def impl_ValidPots_c : Callee := mkCallee impl_ValidPots_D impl_ValidPots_H impl_ValidPots_ir [.d (.one (.sl T_Pot))] [.d (.one .bool)] []
noncomputable def impl_ValidPots (a0 : List T_Pot.ty) : Option (Bool) := impl_ValidPots_c.f (a0, ())
noncomputable def impl_ValidPots_p0  (v0 : List T_Pot.ty) (v5 : List T_Pot.ty) (v6 : Int) (v7 : Int) : Option (Bool) :=
  goL impl_ValidPots_D impl_ValidPots_H (vleave impl_ValidPots_ir [.d (.one (.sl T_Pot))] [.d (.one .bool)] [] []) [.c impl_ValidPots_k0, .l impl_ValidPots_k1, .e 0, .c impl_ValidPots_k2]
    ⟨[(0, .sl T_Pot v0), (5, .sl T_Pot v5), (6, .int .i64 v6), (7, .int .i64 v7)], []⟩
theorem impl_ValidPots_eq (a0 : List T_Pot.ty) : impl_ValidPots a0 =
    impl_ValidPots_p0 a0 a0 (a0.length : Int) 0 :=
  (mk_f _ _ _ _ _ _ _ 4000).trans (by kernel_rfl)
theorem impl_ValidPots_p0_eq  (v0 : List T_Pot.ty) (v5 : List T_Pot.ty) (v6 : Int) (v7 : Int) : impl_ValidPots_p0 v0 v5 v6 v7 =
    if decide (v7 < v6) then
      if decide (0 ≤ v7) then
        (v5[v7.toNat]?).bind fun x1 =>
          (impl_Pot_valid x1).bind fun x2 =>
            if (!x2) then
              some false
            else
              if decide (v7 > 0) then
                if decide (0 ≤ IntKind.i64.wrap (v7 - 1)) then
                  (v0[(IntKind.i64.wrap (v7 - 1)).toNat]?).bind fun x3 =>
                    if (!Op.bytesLess x3.1 x1.1) then
                      some false
                    else
                      impl_ValidPots_p0 v0 v5 v6 (IntKind.i64.wrap (v7 + 1))
                else
                  none
              else
                impl_ValidPots_p0 v0 v5 v6 (IntKind.i64.wrap (v7 + 1))
      else
        none
    else
      (impl_few (v0.length : Int) 8).bind fun x4 =>
        some x4 :=
  (goL_dn _ _ _ 4000 _ _).trans (by kernel_rfl)

/- impl.isJoint -/
def impl_isJoint_ir : Fn := { np := 2, io := [], res := [.t 4], own := [false], body :=
  (.seq (.reg false [⟨some 4, false, .asg (.c (.bool false)), none⟩] [0, 1] []) (.seq (.reg false [⟨some 5, false, .mv (.t 0), none⟩, ⟨some 6, false, .call (.c (.fn 23 [])) [.t 5, .c (.int .i64 0), .c (.int .i64 1000000)], none⟩, ⟨some 7, false, .mv (.t 6), none⟩, ⟨some 8, false, .mv (.t 1), some (2, true)⟩, ⟨some 9, false, .call (.c (.fn 23 [])) [.t 8, .c (.int .i64 1), .c (.int .i64 100000)], some (2, true)⟩, ⟨some 10, false, .pick (.t 7) (.t 9) (.c (.bool false)), none⟩, ⟨some 4, false, .asg (.t 10), none⟩] [4] []) .ret)) }
noncomputable def impl_isJoint_D : List (Nat × Callee) := [(23, impl_within_c)]
def impl_isJoint_H : List (Nat × ET) := []
noncomputable def impl_isJoint_c : Callee := mkCallee impl_isJoint_D impl_isJoint_H impl_isJoint_ir [.d (.one (.int .i64)), .d (.one (.int .i64))] [.d (.one .bool)] []
noncomputable def impl_isJoint (a0 : Int) (a1 : Int) : Option (Bool) := impl_isJoint_c.f (a0, a1, ())
theorem impl_isJoint_eq (a0 : Int) (a1 : Int) : impl_isJoint a0 a1 =
    (impl_within a0 0 1000000).bind fun x1 =>
      if x1 then
        (impl_within a1 1 100000).bind fun x2 =>
          some x2
      else
        some false :=
  (mk_f _ _ _ _ _ _ _ 4000).trans (by kernel_rfl)

/- impl.isSeconds -/
def impl_isSeconds_ir : Fn := { np := 1, io := [], res := [.t 2], own := [false], body :=
  (.seq (.reg false [⟨some 2, false, .asg (.c (.bool false)), none⟩] [0] []) (.seq (.reg false [⟨some 3, false, .mv (.t 0), none⟩, ⟨some 4, false, .call (.c (.fn 23 [])) [.t 3, .c (.int .i64 0), .c (.int .i64 1000)], none⟩, ⟨some 2, false, .asg (.t 4), none⟩] [2] []) .ret)) }
noncomputable def impl_isSeconds_D : List (Nat × Callee) := [(23, impl_within_c)]
def impl_isSeconds_H : List (Nat × ET) := []
noncomputable def impl_isSeconds_c : Callee := mkCallee impl_isSeconds_D impl_isSeconds_H impl_isSeconds_ir [.d (.one (.int .i64))] [.d (.one .bool)] []
noncomputable def impl_isSeconds (a0 : Int) : Option (Bool) := impl_isSeconds_c.f (a0, ())
theorem impl_isSeconds_eq (a0 : Int) : impl_isSeconds a0 =
    (impl_within a0 0 1000).bind fun x1 =>
      some x1 :=
  (mk_f _ _ _ _ _ _ _ 4000).trans (by kernel_rfl)

/- impl.isRoom -/
def impl_isRoom_ir : Fn := { np := 1, io := [], res := [.t 2], own := [false], body :=
  (.seq (.reg false [⟨some 2, false, .asg (.c (.bool false)), none⟩] [0] []) (.seq (.reg false [⟨some 3, false, .mv (.t 0), none⟩, ⟨some 4, false, .call (.c (.fn 23 [])) [.t 3, .c (.int .i64 0), .c (.int .i64 40)], none⟩, ⟨some 2, false, .asg (.t 4), none⟩] [2] []) .ret)) }
noncomputable def impl_isRoom_D : List (Nat × Callee) := [(23, impl_within_c)]
def impl_isRoom_H : List (Nat × ET) := []
noncomputable def impl_isRoom_c : Callee := mkCallee impl_isRoom_D impl_isRoom_H impl_isRoom_ir [.d (.one (.int .i64))] [.d (.one .bool)] []
noncomputable def impl_isRoom (a0 : Int) : Option (Bool) := impl_isRoom_c.f (a0, ())
theorem impl_isRoom_eq (a0 : Int) : impl_isRoom a0 =
    (impl_within a0 0 40).bind fun x1 =>
      some x1 :=
  (mk_f _ _ _ _ _ _ _ 4000).trans (by kernel_rfl)

/- impl.divRound -/
def impl_divRound_ir : Fn := { np := 2, io := [], res := [.t 4], own := [false], body :=
  (.seq (.reg false [⟨some 4, false, .asg (.c (.int .i64 0)), none⟩] [0, 1] []) (.seq (.reg false [⟨some 8, false, .mv (.t 0), none⟩, ⟨some 9, false, .bin .lss (.t 8) (.c (.int .i64 0)), none⟩, ⟨some 10, false, .mv (.t 1), none⟩, ⟨some 11, false, .bin .lss (.t 10) (.c (.int .i64 0)), none⟩, ⟨some 12, false, .eqb true (.t 9) (.t 11), none⟩, ⟨some 5, false, .asg (.t 12), none⟩] [0, 1, 5] []) (.seq (.reg false [⟨some 13, false, .mv (.t 0), none⟩, ⟨some 14, false, .mv (.t 0), none⟩, ⟨some 15, false, .un .neg (.t 14), none⟩, ⟨some 16, false, .max [.t 13, .t 15], none⟩, ⟨some 17, false, .mv (.t 1), none⟩, ⟨some 18, false, .mv (.t 1), none⟩, ⟨some 19, false, .un .neg (.t 18), none⟩, ⟨some 20, false, .max [.t 17, .t 19], none⟩, ⟨some 0, false, .asg (.t 16), none⟩, ⟨some 1, false, .asg (.t 20), none⟩] [0, 1, 5] []) (.seq (.reg false [⟨some 21, false, .mv (.t 0), none⟩, ⟨some 22, false, .mv (.t 1), none⟩, ⟨some 23, false, .bin .quo (.t 21) (.t 22), none⟩, ⟨some 6, false, .asg (.t 23), none⟩] [0, 1, 5, 6] []) (.seq (.seq (.reg false [⟨some 24, false, .mv (.t 0), none⟩, ⟨some 25, false, .mv (.t 1), none⟩, ⟨some 26, false, .bin .rem (.t 24) (.t 25), none⟩, ⟨some 7, false, .asg (.t 26), none⟩] [1, 5, 6, 7] []) (.seq (.reg false [⟨some 27, false, .mv (.t 7), none⟩, ⟨some 28, false, .mv (.t 1), none⟩, ⟨some 29, false, .mv (.t 7), none⟩, ⟨some 30, false, .bin .sub (.t 28) (.t 29), none⟩, ⟨some 31, false, .bin .geq (.t 27) (.t 30), none⟩] [5, 6, 31] []) (.cond (.t 31) (.reg false [⟨some 32, false, .mv (.t 6), none⟩, ⟨some 33, false, .bin .add (.t 32) (.c (.int .i64 1)), none⟩, ⟨some 6, false, .asg (.t 33), none⟩] [5, 6] []) .skip))) (.seq (.seq (.reg false [⟨some 34, false, .mv (.t 5), none⟩] [6, 34] []) (.cond (.t 34) (.seq (.reg false [⟨some 35, false, .mv (.t 6), none⟩, ⟨some 36, false, .un .neg (.t 35), none⟩, ⟨some 4, false, .asg (.t 36), none⟩] [4] []) .ret) .skip)) (.seq (.reg false [⟨some 37, false, .mv (.t 6), none⟩, ⟨some 4, false, .asg (.t 37), none⟩] [4] []) .ret))))))) }
noncomputable def impl_divRound_D : List (Nat × Callee) := []
def impl_divRound_H : List (Nat × ET) := []
noncomputable def impl_divRound_c : Callee := mkCallee impl_divRound_D impl_divRound_H impl_divRound_ir [.d (.one (.int .i64)), .d (.one (.int .i64))] [.d (.one (.int .i64))] []
noncomputable def impl_divRound (a0 : Int) (a1 : Int) : Option (Int) := impl_divRound_c.f (a0, a1, ())
theorem impl_divRound_eq (a0 : Int) (a1 : Int) : impl_divRound a0 a1 =
    if decide ((if IntKind.i64.wrap (0 - a1) > a1 then IntKind.i64.wrap (0 - a1) else a1) = 0) then
      none
    else
      if decide ((if IntKind.i64.wrap (0 - a1) > a1 then IntKind.i64.wrap (0 - a1) else a1) = 0) then
        none
      else
        if decide ((if IntKind.i64.wrap (0 - a0) > a0 then IntKind.i64.wrap (0 - a0) else a0).tmod (if IntKind.i64.wrap (0 - a1) > a1 then IntKind.i64.wrap (0 - a1) else a1) ≥ IntKind.i64.wrap ((if IntKind.i64.wrap (0 - a1) > a1 then IntKind.i64.wrap (0 - a1) else a1) - ((if IntKind.i64.wrap (0 - a0) > a0 then IntKind.i64.wrap (0 - a0) else a0).tmod (if IntKind.i64.wrap (0 - a1) > a1 then IntKind.i64.wrap (0 - a1) else a1)))) then
          if (!(decide (a0 < 0) == decide (a1 < 0))) then
            some (IntKind.i64.wrap (0 - (IntKind.i64.wrap ((IntKind.i64.wrap ((if IntKind.i64.wrap (0 - a0) > a0 then IntKind.i64.wrap (0 - a0) else a0).tdiv (if IntKind.i64.wrap (0 - a1) > a1 then IntKind.i64.wrap (0 - a1) else a1))) + 1))))
          else
            some (IntKind.i64.wrap ((IntKind.i64.wrap ((if IntKind.i64.wrap (0 - a0) > a0 then IntKind.i64.wrap (0 - a0) else a0).tdiv (if IntKind.i64.wrap (0 - a1) > a1 then IntKind.i64.wrap (0 - a1) else a1))) + 1))
        else
          if (!(decide (a0 < 0) == decide (a1 < 0))) then
            some (IntKind.i64.wrap (0 - (IntKind.i64.wrap ((if IntKind.i64.wrap (0 - a0) > a0 then IntKind.i64.wrap (0 - a0) else a0).tdiv (if IntKind.i64.wrap (0 - a1) > a1 then IntKind.i64.wrap (0 - a1) else a1)))))
          else
            some (IntKind.i64.wrap ((if IntKind.i64.wrap (0 - a0) > a0 then IntKind.i64.wrap (0 - a0) else a0).tdiv (if IntKind.i64.wrap (0 - a1) > a1 then IntKind.i64.wrap (0 - a1) else a1))) :=
  (mk_f _ _ _ _ _ _ _ 4000).trans (by kernel_rfl)

/- (impl.Pot).strength -/
def impl_Pot_strength_ir : Fn := { np := 1, io := [], res := [.t 2], own := [false], body :=
  (.seq (.reg false [⟨some 1, true, .box 5 (.t 0), none⟩, ⟨some 2, false, .asg (.c (.int .i64 0)), none⟩] [1] [1]) (.seq (.reg true [⟨some 3, false, .fa 1 (.t 1), none⟩, ⟨some 4, false, .ld none (.t 3), none⟩, ⟨some 5, false, .bin .mul (.c (.int .i64 1000)) (.t 4), none⟩, ⟨some 6, false, .fa 1 (.t 1), none⟩, ⟨some 7, false, .ld none (.t 6), none⟩, ⟨some 8, false, .fa 2 (.t 1), none⟩, ⟨some 9, false, .ld none (.t 8), none⟩, ⟨some 10, false, .bin .add (.t 7) (.t 9), none⟩, ⟨some 11, false, .call (.c (.fn 27 [])) [.t 5, .t 10], none⟩, ⟨some 12, false, .fa 4 (.t 1), none⟩, ⟨some 13, false, .ld none (.t 12), none⟩, ⟨some 14, false, .bin .mul (.c (.int .i64 2)) (.t 13), none⟩, ⟨some 15, false, .bin .sub (.t 11) (.t 14), none⟩, ⟨some 16, false, .fa 3 (.t 1), none⟩, ⟨some 17, false, .ld none (.t 16), none⟩, ⟨some 18, false, .bin .sub (.t 17) (.c (.int .i64 70)), none⟩, ⟨some 19, false, .max [.c (.int .i64 0), .t 18], none⟩, ⟨some 20, false, .bin .mul (.c (.int .i64 10)) (.t 19), none⟩, ⟨some 21, false, .bin .sub (.t 15) (.t 20), none⟩, ⟨some 22, false, .max [.c (.int .i64 0), .t 21], none⟩, ⟨some 2, false, .asg (.t 22), none⟩] [2] []) .ret)) }
noncomputable def impl_Pot_strength_D : List (Nat × Callee) := [(27, impl_divRound_c)]
def impl_Pot_strength_H : List (Nat × ET) := []
noncomputable def impl_Pot_strength_c : Callee := mkCallee impl_Pot_strength_D impl_Pot_strength_H impl_Pot_strength_ir [.d T_Pot] [.d (.one (.int .i64))] []
noncomputable def impl_Pot_strength (a0 : T_Pot.ty) : Option (Int) := impl_Pot_strength_c.f (a0, ())
theorem impl_Pot_strength_eq (a0 : T_Pot.ty) : impl_Pot_strength a0 =
    (impl_divRound (IntKind.i64.wrap (1000 * a0.2.1)) (IntKind.i64.wrap (a0.2.1 + a0.2.2.1))).bind fun x1 =>
      some (if IntKind.i64.wrap ((IntKind.i64.wrap (x1 - (IntKind.i64.wrap (2 * a0.2.2.2.2.1)))) - (IntKind.i64.wrap (10 * (if IntKind.i64.wrap (a0.2.2.2.1 - 70) > 0 then IntKind.i64.wrap (a0.2.2.2.1 - 70) else 0)))) > 0 then IntKind.i64.wrap ((IntKind.i64.wrap (x1 - (IntKind.i64.wrap (2 * a0.2.2.2.2.1)))) - (IntKind.i64.wrap (10 * (if IntKind.i64.wrap (a0.2.2.2.1 - 70) > 0 then IntKind.i64.wrap (a0.2.2.2.1 - 70) else 0)))) else 0) :=
  (mk_f _ _ _ _ _ _ _ 4000).trans (by kernel_rfl)

/- (impl.Pot).holdsJoint -/
def impl_Pot_holdsJoint_ir : Fn := { np := 3, io := [], res := [.t 6], own := [false], body :=
  (.seq (.reg false [⟨some 3, true, .box 5 (.t 0), none⟩, ⟨some 6, false, .asg (.c (.bool false)), none⟩] [1, 2, 3] [3]) (.seq (.reg false [⟨some 7, false, .mv (.t 1), none⟩, ⟨some 8, false, .ld (some 5) (.t 3), none⟩, ⟨some 9, false, .call (.c (.fn 54 [])) [.t 8], none⟩, ⟨some 10, false, .mv (.t 2), none⟩, ⟨some 11, false, .bin .mul (.t 9) (.t 10), none⟩, ⟨some 12, false, .bin .quo (.t 11) (.c (.int .i64 100)), none⟩, ⟨some 13, false, .bin .leq (.t 7) (.t 12), none⟩, ⟨some 6, false, .asg (.t 13), none⟩] [6] []) .ret)) }
noncomputable def impl_Pot_holdsJoint_D : List (Nat × Callee) := [(54, impl_Pot_strength_c)]
def impl_Pot_holdsJoint_H : List (Nat × ET) := []
noncomputable def impl_Pot_holdsJoint_c : Callee := mkCallee impl_Pot_holdsJoint_D impl_Pot_holdsJoint_H impl_Pot_holdsJoint_ir [.d T_Pot, .d (.one (.int .i64)), .d (.one (.int .i64))] [.d (.one .bool)] []
noncomputable def impl_Pot_holdsJoint (a0 : T_Pot.ty) (a1 : Int) (a2 : Int) : Option (Bool) := impl_Pot_holdsJoint_c.f (a0, a1, a2, ())
theorem impl_Pot_holdsJoint_eq (a0 : T_Pot.ty) (a1 : Int) (a2 : Int) : impl_Pot_holdsJoint a0 a1 a2 =
    (impl_Pot_strength a0).bind fun x1 =>
      some (decide (a1 ≤ IntKind.i64.wrap ((IntKind.i64.wrap (x1 * a2)).tdiv 100))) :=
  (mk_f _ _ _ _ _ _ _ 4000).trans (by kernel_rfl)

/- (impl.Pot).open -/
def impl_Pot_open_ir : Fn := { np := 2, io := [], res := [.t 4], own := [false], body :=
  (.seq (.reg false [⟨some 2, true, .box 5 (.t 0), none⟩, ⟨some 4, false, .asg (.c (.int .i64 0)), none⟩] [1, 2] [2]) (.seq (.reg true [⟨some 5, false, .fa 2 (.t 2), none⟩, ⟨some 6, false, .ld none (.t 5), none⟩, ⟨some 7, false, .bin .mul (.c (.int .i64 60)) (.t 6), none⟩, ⟨some 8, false, .fa 1 (.t 2), none⟩, ⟨some 9, false, .ld none (.t 8), none⟩, ⟨some 10, false, .call (.c (.fn 27 [])) [.t 7, .t 9], none⟩, ⟨some 11, false, .mv (.t 1), none⟩, ⟨some 12, false, .bin .sub (.t 11) (.c (.int .i64 15)), none⟩, ⟨some 13, false, .bin .mul (.c (.int .i64 2)) (.t 12), none⟩, ⟨some 14, false, .bin .add (.t 10) (.t 13), none⟩, ⟨some 15, false, .fa 3 (.t 2), none⟩, ⟨some 16, false, .ld none (.t 15), none⟩, ⟨some 17, false, .bin .add (.t 14) (.t 16), none⟩, ⟨some 18, false, .bin .sub (.t 17) (.c (.int .i64 60)), none⟩, ⟨some 19, false, .max [.c (.int .i64 0), .t 18], none⟩, ⟨some 4, false, .asg (.t 19), none⟩] [4] []) .ret)) }
noncomputable def impl_Pot_open_D : List (Nat × Callee) := [(27, impl_divRound_c)]
def impl_Pot_open_H : List (Nat × ET) := []
noncomputable def impl_Pot_open_c : Callee := mkCallee impl_Pot_open_D impl_Pot_open_H impl_Pot_open_ir [.d T_Pot, .d (.one (.int .i64))] [.d (.one (.int .i64))] []
noncomputable def impl_Pot_open (a0 : T_Pot.ty) (a1 : Int) : Option (Int) := impl_Pot_open_c.f (a0, a1, ())
theorem impl_Pot_open_eq (a0 : T_Pot.ty) (a1 : Int) : impl_Pot_open a0 a1 =
    (impl_divRound (IntKind.i64.wrap (60 * a0.2.2.1)) a0.2.1).bind fun x1 =>
      some (if IntKind.i64.wrap ((IntKind.i64.wrap ((IntKind.i64.wrap (x1 + (IntKind.i64.wrap (2 * (IntKind.i64.wrap (a1 - 15)))))) + a0.2.2.2.1)) - 60) > 0 then IntKind.i64.wrap ((IntKind.i64.wrap ((IntKind.i64.wrap (x1 + (IntKind.i64.wrap (2 * (IntKind.i64.wrap (a1 - 15)))))) + a0.2.2.2.1)) - 60) else 0) :=
  (mk_f _ _ _ _ _ _ _ 4000).trans (by kernel_rfl)

/- impl.PotFor -/
def impl_PotFor_k0 : C :=
  .seq (.reg false [⟨some 34, false, .bin .lss (.t 33) (.t 32), none⟩] [1, 2, 3, 4, 31, 32, 33, 34] []) (.seq (.cond (.t 34) .skip (.exit 0)) (.seq (.block 1 (.seq (.reg false [⟨some 35, false, .mv (.t 33), none⟩, ⟨some 36, false, .ia 5 (.t 31) (.t 33), none⟩, ⟨some 37, false, .ld (some 5) (.t 36), none⟩, ⟨some 13, true, .alloc 5 (.agg [.str [], .int .i64 0, .int .i64 0, .int .i64 0, .int .i64 0]), none⟩, ⟨some 12, false, .asg (.t 35), none⟩, ⟨none, true, .sto 5 (.t 13) (.t 37), none⟩] [1, 2, 3, 4, 12, 13, 31, 32, 33] [13]) (.seq (.reg false [⟨some 38, false, .ld (some 5) (.t 13), none⟩, ⟨some 39, false, .mv (.t 1), none⟩, ⟨some 40, false, .mv (.t 2), none⟩, ⟨some 41, false, .call (.c (.fn 55 [])) [.t 38, .t 39, .t 40], none⟩, ⟨some 42, false, .mv (.t 41), none⟩, ⟨some 43, false, .ld (some 5) (.t 13), some (4, true)⟩, ⟨some 44, false, .mv (.t 4), some (4, true)⟩, ⟨some 45, false, .call (.c (.fn 28 [])) [.t 43, .t 44], some (4, true)⟩, ⟨some 46, false, .mv (.t 3), some (4, true)⟩, ⟨some 47, false, .bin .geq (.t 45) (.t 46), some (4, true)⟩, ⟨some 48, false, .pick (.t 42) (.t 47) (.c (.bool false)), none⟩] [1, 2, 3, 4, 12, 31, 32, 33, 48] []) (.cond (.t 48) (.seq (.reg false [⟨some 49, false, .mv (.t 12), none⟩, ⟨some 10, false, .asg (.t 49), none⟩, ⟨some 11, false, .asg (.c (.int .i64 0)), none⟩] [10, 11] []) .ret) .skip)))) (.reg false [⟨some 50, false, .bin .add (.t 33) (.c (.int .i64 1)), none⟩, ⟨some 33, false, .mv (.t 50), none⟩] [1, 2, 3, 4, 31, 32, 33] [])))
def impl_PotFor_k1 : C :=
  .norm [1, 2, 3, 4, 31, 32, 33] [] impl_PotFor_k0
def impl_PotFor_k2 : C :=
  .seq (.reg false [⟨some 10, false, .asg (.c (.int .i64 0)), none⟩, ⟨some 11, false, .asg (.c (.int .i64 3)), none⟩] [10, 11] []) .ret
def impl_PotFor_k3 : C :=
  .seq (.seq (.reg false [⟨some 31, false, .mv (.t 0), none⟩, ⟨some 32, false, .len (.t 31), none⟩, ⟨some 33, false, .mv (.c (.int .i64 0)), none⟩] [1, 2, 3, 4, 31, 32, 33] []) (.block 0 (.loop impl_PotFor_k1))) impl_PotFor_k2
def impl_PotFor_ir : Fn := { np := 5, io := [], res := [.t 10, .t 11], own := [false, false], body :=
  (.seq (.reg false [⟨some 10, false, .asg (.c (.int .i64 0)), none⟩, ⟨some 11, false, .asg (.c (.int .i64 0)), none⟩] [0, 1, 2, 3, 4] []) (.seq (.seq (.reg false [⟨some 14, false, .mv (.t 0), none⟩, ⟨some 15, false, .call (.c (.fn 57 [])) [.t 14], none⟩, ⟨some 16, false, .un .not (.t 15), none⟩] [0, 1, 2, 3, 4, 16] []) (.cond (.t 16) (.seq (.reg false [⟨some 10, false, .asg (.c (.int .i64 0)), none⟩, ⟨some 11, false, .asg (.c (.int .i64 1)), none⟩] [10, 11] []) .ret) .skip)) (.seq (.seq (.reg false [⟨some 17, false, .mv (.t 1), none⟩, ⟨some 18, false, .mv (.t 2), none⟩, ⟨some 19, false, .call (.c (.fn 56 [])) [.t 17, .t 18], none⟩, ⟨some 20, false, .un .not (.t 19), none⟩, ⟨some 21, false, .mv (.t 20), none⟩, ⟨some 22, false, .mv (.t 3), some (4, false)⟩, ⟨some 23, false, .call (.c (.fn 36 [])) [.t 22], some (4, false)⟩, ⟨some 24, false, .un .not (.t 23), some (4, false)⟩, ⟨some 25, false, .pick (.t 21) (.c (.bool true)) (.t 24), none⟩, ⟨some 26, false, .mv (.t 25), none⟩, ⟨some 27, false, .mv (.t 4), some (9, false)⟩, ⟨some 28, false, .call (.c (.fn 29 [])) [.t 27], some (9, false)⟩, ⟨some 29, false, .un .not (.t 28), some (9, false)⟩, ⟨some 30, false, .pick (.t 26) (.c (.bool true)) (.t 29), none⟩] [0, 1, 2, 3, 4, 30] []) (.cond (.t 30) (.seq (.reg false [⟨some 10, false, .asg (.c (.int .i64 0)), none⟩, ⟨some 11, false, .asg (.c (.int .i64 2)), none⟩] [10, 11] []) .ret) .skip)) (.norm [0, 1, 2, 3, 4] [] impl_PotFor_k3)))) }
noncomputable def impl_PotFor_D : List (Nat × Callee) := [(28, impl_Pot_open_c), (29, impl_isRoom_c), (36, impl_isSeconds_c), (55, impl_Pot_holdsJoint_c), (56, impl_isJoint_c), (57, impl_ValidPots_c)]
def impl_PotFor_H : List (Nat × ET) := [(14, T_Pot), (31, T_Pot)]
noncomputable def impl_PotFor_c : Callee := mkCallee impl_PotFor_D impl_PotFor_H impl_PotFor_ir [.d (.one (.sl T_Pot)), .d (.one (.int .i64)), .d (.one (.int .i64)), .d (.one (.int .i64)), .d (.one (.int .i64))] [.d (.one (.int .i64)), .d (.one (.int .i64))] []
noncomputable def impl_PotFor (a0 : List T_Pot.ty) (a1 : Int) (a2 : Int) (a3 : Int) (a4 : Int) : Option (Int × Int) := impl_PotFor_c.f (a0, a1, a2, a3, a4, ())
noncomputable def impl_PotFor_p0  (v0 : List T_Pot.ty) (v1 : Int) (v2 : Int) (v3 : Int) (v4 : Int) : Option (Int × Int) :=
  goL impl_PotFor_D impl_PotFor_H (vleave impl_PotFor_ir [.d (.one (.sl T_Pot)), .d (.one (.int .i64)), .d (.one (.int .i64)), .d (.one (.int .i64)), .d (.one (.int .i64))] [.d (.one (.int .i64)), .d (.one (.int .i64))] [] []) [.c impl_PotFor_k3]
    ⟨[(0, .sl T_Pot v0), (1, .int .i64 v1), (2, .int .i64 v2), (3, .int .i64 v3), (4, .int .i64 v4)], []⟩
noncomputable def impl_PotFor_p1  (v1 : Int) (v2 : Int) (v3 : Int) (v4 : Int) (v31 : List T_Pot.ty) (v32 : Int) (v33 : Int) : Option (Int × Int) :=
  goL impl_PotFor_D impl_PotFor_H (vleave impl_PotFor_ir [.d (.one (.sl T_Pot)), .d (.one (.int .i64)), .d (.one (.int .i64)), .d (.one (.int .i64)), .d (.one (.int .i64))] [.d (.one (.int .i64)), .d (.one (.int .i64))] [] []) [.c impl_PotFor_k0, .l impl_PotFor_k1, .e 0, .c impl_PotFor_k2]
    ⟨[(1, .int .i64 v1), (2, .int .i64 v2), (3, .int .i64 v3), (4, .int .i64 v4), (31, .sl T_Pot v31), (32, .int .i64 v32), (33, .int .i64 v33)], []⟩
theorem impl_PotFor_eq (a0 : List T_Pot.ty) (a1 : Int) (a2 : Int) (a3 : Int) (a4 : Int) : impl_PotFor a0 a1 a2 a3 a4 =
    (impl_ValidPots a0).bind fun x1 =>
      if (!x1) then
        some (0, 1)
      else
        (impl_isJoint a1 a2).bind fun x2 =>
          if (!x2) then
            some (0, 2)
          else
            (impl_isSeconds a3).bind fun x3 =>
              if (!x3) then
                some (0, 2)
              else
                (impl_isRoom a4).bind fun x4 =>
                  if (!x4) then
                    some (0, 2)
                  else
                    impl_PotFor_p0 a0 a1 a2 a3 a4 :=
  (mk_f _ _ _ _ _ _ _ 4000).trans (by kernel_rfl)
theorem impl_PotFor_p0_eq  (v0 : List T_Pot.ty) (v1 : Int) (v2 : Int) (v3 : Int) (v4 : Int) : impl_PotFor_p0 v0 v1 v2 v3 v4 =
    impl_PotFor_p1 v1 v2 v3 v4 v0 (v0.length : Int) 0 :=
  (goL_dn _ _ _ 4000 _ _).trans (by kernel_rfl)
theorem impl_PotFor_p1_eq  (v1 : Int) (v2 : Int) (v3 : Int) (v4 : Int) (v31 : List T_Pot.ty) (v32 : Int) (v33 : Int) : impl_PotFor_p1 v1 v2 v3 v4 v31 v32 v33 =
    if decide (v33 < v32) then
      if decide (0 ≤ v33) then
        (v31[v33.toNat]?).bind fun x1 =>
          (impl_Pot_holdsJoint x1 v1 v2).bind fun x2 =>
            if x2 then
              (impl_Pot_open x1 v4).bind fun x3 =>
                if decide (x3 ≥ v3) then
                  some (v33, 0)
                else
                  impl_PotFor_p1 v1 v2 v3 v4 v31 v32 (IntKind.i64.wrap (v33 + 1))
            else
              impl_PotFor_p1 v1 v2 v3 v4 v31 v32 (IntKind.i64.wrap (v33 + 1))
      else
        none
    else
      some (0, 3) :=
  (goL_dn _ _ _ 4000 _ _).trans (by kernel_rfl)

/- laws.eqPot -/
def laws_eqPot_ir : Fn := { np := 2, io := [], res := [.t 4], own := [false], body :=
  (.seq (.reg false [⟨some 2, true, .box 5 (.t 0), none⟩, ⟨some 3, true, .box 5 (.t 1), none⟩, ⟨some 4, false, .asg (.c (.bool false)), none⟩] [2, 3] [2, 3]) (.seq (.seq (.reg false [⟨some 5, false, .fa 0 (.t 2), none⟩, ⟨some 6, false, .ld none (.t 5), none⟩, ⟨some 7, false, .fa 0 (.t 3), none⟩, ⟨some 8, false, .ld none (.t 7), none⟩, ⟨some 9, false, .bin .neq (.t 6) (.t 8), none⟩] [2, 3, 9] [2, 3]) (.cond (.t 9) (.seq (.reg false [⟨some 4, false, .asg (.c (.bool false)), none⟩] [4] []) .ret) .skip)) (.seq (.seq (.reg false [⟨some 10, false, .fa 1 (.t 2), none⟩, ⟨some 11, false, .ld none (.t 10), none⟩, ⟨some 12, false, .fa 1 (.t 3), none⟩, ⟨some 13, false, .ld none (.t 12), none⟩, ⟨some 14, false, .bin .neq (.t 11) (.t 13), none⟩] [2, 3, 14] [2, 3]) (.cond (.t 14) (.seq (.reg false [⟨some 4, false, .asg (.c (.bool false)), none⟩] [4] []) .ret) .skip)) (.seq (.seq (.reg false [⟨some 15, false, .fa 2 (.t 2), none⟩, ⟨some 16, false, .ld none (.t 15), none⟩, ⟨some 17, false, .fa 2 (.t 3), none⟩, ⟨some 18, false, .ld none (.t 17), none⟩, ⟨some 19, false, .bin .neq (.t 16) (.t 18), none⟩] [2, 3, 19] [2, 3]) (.cond (.t 19) (.seq (.reg false [⟨some 4, false, .asg (.c (.bool false)), none⟩] [4] []) .ret) .skip)) (.seq (.seq (.reg false [⟨some 20, false, .fa 3 (.t 2), none⟩, ⟨some 21, false, .ld none (.t 20), none⟩, ⟨some 22, false, .fa 3 (.t 3), none⟩, ⟨some 23, false, .ld none (.t 22), none⟩, ⟨some 24, false, .bin .neq (.t 21) (.t 23), none⟩] [2, 3, 24] [2, 3]) (.cond (.t 24) (.seq (.reg false [⟨some 4, false, .asg (.c (.bool false)), none⟩] [4] []) .ret) .skip)) (.seq (.seq (.reg false [⟨some 25, false, .fa 4 (.t 2), none⟩, ⟨some 26, false, .ld none (.t 25), none⟩, ⟨some 27, false, .fa 4 (.t 3), none⟩, ⟨some 28, false, .ld none (.t 27), none⟩, ⟨some 29, false, .bin .neq (.t 26) (.t 28), none⟩] [29] []) (.cond (.t 29) (.seq (.reg false [⟨some 4, false, .asg (.c (.bool false)), none⟩] [4] []) .ret) .skip)) (.seq (.reg false [⟨some 4, false, .asg (.c (.bool true)), none⟩] [4] []) .ret))))))) }
noncomputable def laws_eqPot_D : List (Nat × Callee) := []
def laws_eqPot_H : List (Nat × ET) := []
noncomputable def laws_eqPot_c : Callee := mkCallee laws_eqPot_D laws_eqPot_H laws_eqPot_ir [.d T_Pot, .d T_Pot] [.d (.one .bool)] []
noncomputable def laws_eqPot (a0 : T_Pot.ty) (a1 : T_Pot.ty) : Option (Bool) := laws_eqPot_c.f (a0, a1, ())
theorem laws_eqPot_eq (a0 : T_Pot.ty) (a1 : T_Pot.ty) : laws_eqPot a0 a1 =
    if (!(a0.1 == a1.1)) then
      some false
    else
      if (a0.2.1 != a1.2.1) then
        some false
      else
        if (a0.2.2.1 != a1.2.2.1) then
          some false
        else
          if (a0.2.2.2.1 != a1.2.2.2.1) then
            some false
          else
            if (a0.2.2.2.2.1 != a1.2.2.2.2.1) then
              some false
            else
              some true :=
  (mk_f _ _ _ _ _ _ _ 4000).trans (by kernel_rfl)

/- laws.eqPotS -/
def laws_eqPotS_k0 : C :=
  .seq (.seq (.reg false [⟨some 11, false, .mv (.t 5), none⟩, ⟨some 12, false, .mv (.t 0), none⟩, ⟨some 13, false, .len (.t 12), none⟩, ⟨some 14, false, .bin .lss (.t 11) (.t 13), none⟩] [0, 1, 5, 14] []) (.cond (.t 14) .skip (.exit 0))) (.seq (.block 1 (.seq (.reg true [⟨some 17, false, .mv (.t 0), none⟩, ⟨some 18, false, .mv (.t 5), none⟩, ⟨some 19, false, .ia 5 (.t 17) (.t 18), none⟩, ⟨some 20, false, .ld (some 5) (.t 19), none⟩, ⟨some 21, false, .mv (.t 1), none⟩, ⟨some 22, false, .mv (.t 5), none⟩, ⟨some 23, false, .ia 5 (.t 21) (.t 22), none⟩, ⟨some 24, false, .ld (some 5) (.t 23), none⟩, ⟨some 25, false, .call (.c (.fn 58 [])) [.t 20, .t 24], none⟩, ⟨some 26, false, .un .not (.t 25), none⟩] [0, 1, 5, 26] []) (.cond (.t 26) (.seq (.reg false [⟨some 4, false, .asg (.c (.bool false)), none⟩] [4] []) .ret) .skip))) (.reg false [⟨some 15, false, .mv (.t 5), none⟩, ⟨some 16, false, .bin .add (.t 15) (.c (.int .i64 1)), none⟩, ⟨some 5, false, .asg (.t 16), none⟩] [0, 1, 5] []))
def laws_eqPotS_k1 : C :=
  .norm [0, 1, 5] [] laws_eqPotS_k0
def laws_eqPotS_k2 : C :=
  .seq (.reg false [⟨some 4, false, .asg (.c (.bool true)), none⟩] [4] []) .ret
def laws_eqPotS_ir : Fn := { np := 2, io := [], res := [.t 4], own := [false], body :=
  (.seq (.reg false [⟨some 4, false, .asg (.c (.bool false)), none⟩] [0, 1] []) (.seq (.seq (.reg false [⟨some 6, false, .mv (.t 0), none⟩, ⟨some 7, false, .len (.t 6), none⟩, ⟨some 8, false, .mv (.t 1), none⟩, ⟨some 9, false, .len (.t 8), none⟩, ⟨some 10, false, .bin .neq (.t 7) (.t 9), none⟩] [0, 1, 10] []) (.cond (.t 10) (.seq (.reg false [⟨some 4, false, .asg (.c (.bool false)), none⟩] [4] []) .ret) .skip)) (.seq (.seq (.reg false [⟨some 5, false, .asg (.c (.int .i64 0)), none⟩] [0, 1, 5] []) (.block 0 (.loop laws_eqPotS_k1))) laws_eqPotS_k2))) }
noncomputable def laws_eqPotS_D : List (Nat × Callee) := [(58, laws_eqPot_c)]
def laws_eqPotS_H : List (Nat × ET) := [(6, T_Pot), (8, T_Pot), (12, T_Pot), (17, T_Pot), (21, T_Pot)]
noncomputable def laws_eqPotS_c : Callee := mkCallee laws_eqPotS_D laws_eqPotS_H laws_eqPotS_ir [.d (.one (.sl T_Pot)), .d (.one (.sl T_Pot))] [.d (.one .bool)] []
noncomputable def laws_eqPotS (a0 : List T_Pot.ty) (a1 : List T_Pot.ty) : Option (Bool) := laws_eqPotS_c.f (a0, a1, ())
noncomputable def laws_eqPotS_p0  (v0 : List T_Pot.ty) (v1 : List T_Pot.ty) (v5 : Int) : Option (Bool) :=
  goL laws_eqPotS_D laws_eqPotS_H (vleave laws_eqPotS_ir [.d (.one (.sl T_Pot)), .d (.one (.sl T_Pot))] [.d (.one .bool)] [] []) [.c laws_eqPotS_k0, .l laws_eqPotS_k1, .e 0, .c laws_eqPotS_k2]
    ⟨[(0, .sl T_Pot v0), (1, .sl T_Pot v1), (5, .int .i64 v5)], []⟩
theorem laws_eqPotS_eq (a0 : List T_Pot.ty) (a1 : List T_Pot.ty) : laws_eqPotS a0 a1 =
    if ((a0.length : Int) != (a1.length : Int)) then
      some false
    else
      laws_eqPotS_p0 a0 a1 0 :=
  (mk_f _ _ _ _ _ _ _ 4000).trans (by kernel_rfl)
theorem laws_eqPotS_p0_eq  (v0 : List T_Pot.ty) (v1 : List T_Pot.ty) (v5 : Int) : laws_eqPotS_p0 v0 v1 v5 =
    if decide (v5 < (v0.length : Int)) then
      if decide (0 ≤ v5) then
        (v0[v5.toNat]?).bind fun x1 =>
          if decide (0 ≤ v5) then
            (v1[v5.toNat]?).bind fun x2 =>
              (laws_eqPot x1 x2).bind fun x3 =>
                if (!x3) then
                  some false
                else
                  laws_eqPotS_p0 v0 v1 (IntKind.i64.wrap (v5 + 1))
          else
            none
      else
        none
    else
      some true :=
  (goL_dn _ _ _ 4000 _ _).trans (by kernel_rfl)

/- laws.FnExactPotFor -/
def laws_FnExactPotFor_k0 : C :=
  .seq (.seq (.reg false [⟨some 51, false, .mv (.t 14), none⟩, ⟨some 52, false, .mv (.t 0), none⟩, ⟨some 53, false, .call (.c (.fn 59 [])) [.t 52], none⟩, ⟨some 54, false, .call (.c (.fn 60 [])) [.t 51, .t 53], none⟩, ⟨some 55, false, .un .not (.t 54), none⟩] [55] []) (.cond (.t 55) (.seq (.reg false [⟨some 10, false, .asg (.c (.bool false)), none⟩] [10] []) .ret) .skip)) (.seq (.reg false [⟨some 10, false, .asg (.c (.bool true)), none⟩] [10] []) .ret)
def laws_FnExactPotFor_ir : Fn := { np := 5, io := [], res := [.t 10], own := [false], body :=
  (.seq (.reg false [⟨some 10, false, .asg (.c (.bool false)), none⟩] [0, 1, 2, 3, 4] []) (.seq (.reg false [⟨some 11, false, .asg (.c (.int .i64 1048576)), none⟩] [0, 1, 2, 3, 4, 11] []) (.seq (.reg false [⟨some 17, false, .mv (.t 0), none⟩, ⟨some 18, false, .mv (.t 11), none⟩, ⟨some 19, false, .call (.c (.fn 63 [])) [.t 17, .t 18], none⟩, ⟨some 11, false, .asg (.t 19), none⟩] [0, 1, 2, 3, 4, 11] []) (.seq (.seq (.reg false [⟨some 20, false, .mv (.t 11), none⟩, ⟨some 21, false, .bin .lss (.t 20) (.c (.int .i64 0)), none⟩] [0, 1, 2, 3, 4, 21] []) (.cond (.t 21) (.seq (.reg false [⟨some 10, false, .asg (.c (.bool true)), none⟩] [10] []) .ret) .skip)) (.seq (.reg false [⟨some 23, false, .mv (.t 0), none⟩, ⟨some 24, false, .call (.c (.fn 59 [])) [.t 23], none⟩, ⟨some 25, false, .mv (.t 1), none⟩, ⟨some 26, false, .mv (.t 2), none⟩, ⟨some 27, false, .mv (.t 3), none⟩, ⟨some 28, false, .mv (.t 4), none⟩, ⟨some 29, false, .call (.c (.fn 62 [])) [.t 24, .t 25, .t 26, .t 27, .t 28], none⟩, ⟨some 22, false, .mv (.t 29), none⟩, ⟨some 30, false, .ext (.t 22) 0, none⟩, ⟨some 31, false, .ext (.t 22) 1, none⟩, ⟨some 12, false, .asg (.t 30), none⟩, ⟨some 13, false, .asg (.t 31), none⟩] [0, 1, 2, 3, 4, 12, 13] []) (.seq (.reg false [⟨some 32, false, .mv (.t 0), none⟩, ⟨some 33, false, .call (.c (.fn 59 [])) [.t 32], none⟩, ⟨some 14, true, .asg (.t 33), none⟩] [0, 1, 2, 3, 4, 12, 13, 14] [14]) (.seq (.reg false [⟨some 35, false, .mv (.t 14), none⟩, ⟨some 36, false, .mv (.t 1), none⟩, ⟨some 37, false, .mv (.t 2), none⟩, ⟨some 38, false, .mv (.t 3), none⟩, ⟨some 39, false, .mv (.t 4), none⟩, ⟨some 40, false, .call (.c (.fn 61 [])) [.t 35, .t 36, .t 37, .t 38, .t 39], none⟩, ⟨some 34, false, .mv (.t 40), none⟩, ⟨some 41, false, .ext (.t 34) 0, none⟩, ⟨some 42, false, .ext (.t 34) 1, none⟩, ⟨some 15, false, .asg (.t 41), none⟩, ⟨some 16, false, .asg (.t 42), none⟩] [0, 12, 13, 14, 15, 16] [14]) (.seq (.seq (.reg false [⟨some 43, false, .mv (.t 15), none⟩, ⟨some 44, false, .mv (.t 12), none⟩, ⟨some 45, false, .bin .neq (.t 43) (.t 44), none⟩, ⟨some 46, false, .mv (.t 45), none⟩, ⟨some 47, false, .mv (.t 16), some (3, false)⟩, ⟨some 48, false, .mv (.t 13), some (3, false)⟩, ⟨some 49, false, .bin .neq (.t 47) (.t 48), some (3, false)⟩, ⟨some 50, false, .pick (.t 46) (.c (.bool true)) (.t 49), none⟩] [0, 14, 50] [14]) (.cond (.t 50) (.seq (.reg false [⟨some 10, false, .asg (.c (.bool false)), none⟩] [10] []) .ret) .skip)) (.norm [0, 14] [14] laws_FnExactPotFor_k0))))))))) }
noncomputable def laws_FnExactPotFor_D : List (Nat × Callee) := [(59, laws_toPotS_c), (60, laws_eqPotS_c), (61, impl_PotFor_c), (62, spec_PotFor_c), (63, laws_szPotS_c)]
def laws_FnExactPotFor_H : List (Nat × ET) := [(14, T_Pot), (17, T_Pot), (23, T_Pot), (24, T_Pot), (32, T_Pot), (33, T_Pot), (35, T_Pot), (51, T_Pot), (52, T_Pot), (53, T_Pot)]
noncomputable def laws_FnExactPotFor_c : Callee := mkCallee laws_FnExactPotFor_D laws_FnExactPotFor_H laws_FnExactPotFor_ir [.d (.one (.sl T_Pot)), .d (.one (.int .i64)), .d (.one (.int .i64)), .d (.one (.int .i64)), .d (.one (.int .i64))] [.d (.one .bool)] []
noncomputable def laws_FnExactPotFor (a0 : List T_Pot.ty) (a1 : Int) (a2 : Int) (a3 : Int) (a4 : Int) : Option (Bool) := laws_FnExactPotFor_c.f (a0, a1, a2, a3, a4, ())
noncomputable def laws_FnExactPotFor_p0  (v0 : List T_Pot.ty) (r14 : List T_Pot.ty) : Option (Bool) :=
  goL laws_FnExactPotFor_D laws_FnExactPotFor_H (vleave laws_FnExactPotFor_ir [.d (.one (.sl T_Pot)), .d (.one (.int .i64)), .d (.one (.int .i64)), .d (.one (.int .i64)), .d (.one (.int .i64))] [.d (.one .bool)] [] []) [.c laws_FnExactPotFor_k0]
    ⟨[(0, .sl T_Pot v0), (14, .view 14 0 r14.length)], [(14, some (.sl T_Pot r14))]⟩
theorem laws_FnExactPotFor_eq (a0 : List T_Pot.ty) (a1 : Int) (a2 : Int) (a3 : Int) (a4 : Int) : laws_FnExactPotFor a0 a1 a2 a3 a4 =
    (laws_szPotS a0 1048576).bind fun x1 =>
      if decide (x1 < 0) then
        some true
      else
        (laws_toPotS a0).bind fun x2 =>
          (spec_PotFor x2 a1 a2 a3 a4).bind fun x3 =>
            (laws_toPotS a0).bind fun x4 =>
              (impl_PotFor (x4.take x4.length) a1 a2 a3 a4).bind fun x5 =>
                if (x5.1 != x3.1) then
                  some false
                else
                  if (x5.2 != x3.2) then
                    some false
                  else
                    laws_FnExactPotFor_p0 a0 x4 :=
  (mk_f _ _ _ _ _ _ _ 4000).trans (by kernel_rfl)
theorem laws_FnExactPotFor_p0_eq  (v0 : List T_Pot.ty) (r14 : List T_Pot.ty) : laws_FnExactPotFor_p0 v0 r14 =
    (laws_toPotS v0).bind fun x1 =>
      (laws_eqPotS (r14.take r14.length) x1).bind fun x2 =>
        if (!x2) then
          some false
        else
          some true :=
  (goL_dn _ _ _ 4000 _ _).trans (by kernel_rfl)

end Go.Ab.P
