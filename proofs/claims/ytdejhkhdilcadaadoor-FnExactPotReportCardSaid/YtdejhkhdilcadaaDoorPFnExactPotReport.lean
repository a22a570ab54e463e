/- Functions of the program: abstract forms, and what their runs give. Conditions: none. -/
import Derived.Test.YtdejhkhdilcadaaDoorL4
set_option maxRecDepth 100000
set_option linter.unusedVariables false
namespace Go.Ab.P
open Go.Ab
@[reducible] def T_Pot : ET := .agg (.cons .str (.cons (.int .i64) (.cons (.int .i64) (.cons (.int .i64) (.cons (.int .i64) .nil)))))
/- laws.szPot -/
def laws_szPot_ir : Fn := { np := 2, io := [], res := [.t 4], own := [false], body :=
 (.seq (.reg false [.W 2 (.box 5 (.t 0)), .V 4 (.asg (.c (.int .i64 0)))] [1, 2] [2]) (.seq (.reg false [.V 5 (.mv (.t 1)), .V 6 (.fa 0 (.t 2)), .V 7 (.ld none (.t 6)), .V 8 (.lens (.t 7)), .V 9 (.bin .sub (.t 5) (.t 8)), .V 1 (.asg (.t 9))] [1] []) (.seq (.seq (.reg false [.V 10 (.mv (.t 1)), .V 11 (.bin .lss (.t 10) (.c (.int .i64 0)))] [1, 11] []) (.cond (.t 11) (.seq (.reg false [.V 4 (.asg (.c (.int .i64 (-1))))] [4] []) .ret) .skip)) (.seq (.reg false [.V 12 (.mv (.t 1)), .V 4 (.asg (.t 12))] [4] []) .ret)))) }
noncomputable def laws_szPot_D : List (Nat × Callee) := []
def laws_szPot_H : List (Nat × ET) := []
noncomputable def laws_szPot_c : Callee := mkCallee laws_szPot_D laws_szPot_H laws_szPot_ir [.d T_Pot, .d (.one (.int .i64))] [.d (.one (.int .i64))] []
noncomputable def laws_szPot (a0 : T_Pot.ty) (a1 : Int) : Option (Int) := laws_szPot_c.f (a0, a1, ())
theorem laws_szPot_eq (a0 : T_Pot.ty) (a1 : Int) : laws_szPot a0 a1 =
  if decide (IntKind.i64.wrap (a1 - (a0.1.length : Int)) < 0) then
   some (-1)
  else
   some (IntKind.i64.wrap (a1 - (a0.1.length : Int))) :=
 (mk_f _ _ _ _ _ _ _ 4000).trans (by kernel_rfl)

/- laws.szPotS -/
def laws_szPotS_k0 : C :=
 .seq (.seq (.reg false [.V 12 (.mv (.t 5)), .V 13 (.mv (.t 0)), .V 14 (.len (.t 13)), .V 15 (.bin .lss (.t 12) (.t 14))] [0, 1, 5, 15] []) (.cond (.t 15) .skip (.exit 0))) (.seq (.block 1 (.seq (.reg false [.V 18 (.mv (.t 0)), .V 19 (.mv (.t 5)), .V 20 (.ia 5 (.t 18) (.t 19)), .V 21 (.ld (some 5) (.t 20)), .V 22 (.mv (.t 1)), .V 23 (.call (.c (.fn 34 [])) [.t 21, .t 22]), .V 1 (.asg (.t 23))] [0, 1, 5] []) (.seq (.reg false [.V 24 (.mv (.t 1)), .V 25 (.bin .lss (.t 24) (.c (.int .i64 0)))] [0, 1, 5, 25] []) (.cond (.t 25) (.seq (.reg false [.V 4 (.asg (.c (.int .i64 (-1))))] [4] []) .ret) .skip)))) (.reg false [.V 16 (.mv (.t 5)), .V 17 (.bin .add (.t 16) (.c (.int .i64 1))), .V 5 (.asg (.t 17))] [0, 1, 5] []))
def laws_szPotS_k1 : C :=
 .norm [0, 1, 5] [] laws_szPotS_k0
def laws_szPotS_k2 : C :=
 .seq (.reg false [.V 26 (.mv (.t 1)), .V 4 (.asg (.t 26))] [4] []) .ret
def laws_szPotS_ir : Fn := { np := 2, io := [], res := [.t 4], own := [false], body :=
 (.seq (.reg false [.V 4 (.asg (.c (.int .i64 0)))] [0, 1] []) (.seq (.reg false [.V 6 (.mv (.t 1)), .V 7 (.mv (.t 0)), .V 8 (.len (.t 7)), .V 9 (.bin .sub (.t 6) (.t 8)), .V 1 (.asg (.t 9))] [0, 1] []) (.seq (.seq (.reg false [.V 10 (.mv (.t 1)), .V 11 (.bin .lss (.t 10) (.c (.int .i64 0)))] [0, 1, 11] []) (.cond (.t 11) (.seq (.reg false [.V 4 (.asg (.c (.int .i64 (-1))))] [4] []) .ret) .skip)) (.seq (.seq (.reg false [.V 5 (.asg (.c (.int .i64 0)))] [0, 1, 5] []) (.block 0 (.loop laws_szPotS_k1))) laws_szPotS_k2)))) }
noncomputable def laws_szPotS_D : List (Nat × Callee) := [(34, laws_szPot_c)]
def laws_szPotS_H : List (Nat × ET) := [(7, T_Pot), (13, T_Pot), (18, T_Pot)]
noncomputable def laws_szPotS_c : Callee := mkCallee laws_szPotS_D laws_szPotS_H laws_szPotS_ir [.d (.one (.sl T_Pot)), .d (.one (.int .i64))] [.d (.one (.int .i64))] []
noncomputable def laws_szPotS (a0 : List T_Pot.ty) (a1 : Int) : Option (Int) := laws_szPotS_c.f (a0, a1, ())
noncomputable def laws_szPotS_p0  (v0 : List T_Pot.ty) (v1 : Int) (v5 : Int) : Option (Int) :=
 goL laws_szPotS_D laws_szPotS_H (vleave laws_szPotS_ir [.d (.one (.sl T_Pot)), .d (.one (.int .i64))] [.d (.one (.int .i64))] [] []) [.c laws_szPotS_k0, .l laws_szPotS_k1, .e 0, .c laws_szPotS_k2]
  ⟨[(0, .sl T_Pot v0), (1, .int .i64 v1), (5, .int .i64 v5)], []⟩
theorem laws_szPotS_eq (a0 : List T_Pot.ty) (a1 : Int) : laws_szPotS a0 a1 =
  if decide (IntKind.i64.wrap (a1 - (a0.length : Int)) < 0) then
   some (-1)
  else
   laws_szPotS_p0 a0 (IntKind.i64.wrap (a1 - (a0.length : Int))) 0 :=
 (mk_f _ _ _ _ _ _ _ 4000).trans (by kernel_rfl)
theorem laws_szPotS_p0_eq  (v0 : List T_Pot.ty) (v1 : Int) (v5 : Int) : laws_szPotS_p0 v0 v1 v5 =
  if decide (v5 < (v0.length : Int)) then
   if decide (0 ≤ v5) then
    (v0[v5.toNat]?).bind fun x1 =>
     (laws_szPot x1 v1).bind fun x2 =>
      if decide (x2 < 0) then
       some (-1)
      else
       laws_szPotS_p0 v0 x2 (IntKind.i64.wrap (v5 + 1))
   else
    none
  else
   some v1 :=
 (goL_dn _ _ _ 4000 _ _).trans (by kernel_rfl)

/- laws.toPot -/
def laws_toPot_ir : Fn := { np := 1, io := [], res := [.cell 2 (some 5)], own := [false], body :=
 (.seq (.reg false [.W 1 (.box 5 (.t 0)), .W 2 (.alloc 5 (.agg [.str [], .int .i64 0, .int .i64 0, .int .i64 0, .int .i64 0]))] [1, 2] [1, 2]) (.seq (.reg false [.W 3 (.alloc 5 (.agg [.str [], .int .i64 0, .int .i64 0, .int .i64 0, .int .i64 0]))] [1, 2, 3] [1, 2, 3]) (.seq (.reg false [.V 4 (.fa 0 (.t 1)), .V 5 (.ld none (.t 4)), .V 6 (.fa 0 (.t 3)), ⟨none, true, .sto 1 (.t 6) (.t 5), none, false, []⟩] [1, 2, 3] [1, 2, 3]) (.seq (.reg false [.V 7 (.fa 1 (.t 1)), .V 8 (.ld none (.t 7)), .V 9 (.fa 1 (.t 3)), ⟨none, true, .sto 1 (.t 9) (.t 8), none, false, []⟩] [1, 2, 3] [1, 2, 3]) (.seq (.reg false [.V 10 (.fa 2 (.t 1)), .V 11 (.ld none (.t 10)), .V 12 (.fa 2 (.t 3)), ⟨none, true, .sto 1 (.t 12) (.t 11), none, false, []⟩] [1, 2, 3] [1, 2, 3]) (.seq (.reg false [.V 13 (.fa 3 (.t 1)), .V 14 (.ld none (.t 13)), .V 15 (.fa 3 (.t 3)), ⟨none, true, .sto 1 (.t 15) (.t 14), none, false, []⟩] [1, 2, 3] [1, 2, 3]) (.seq (.reg false [.V 16 (.fa 4 (.t 1)), .V 17 (.ld none (.t 16)), .V 18 (.fa 4 (.t 3)), ⟨none, true, .sto 1 (.t 18) (.t 17), none, false, []⟩] [2, 3] [2, 3]) (.seq (.reg false [.V 19 (.ld (some 5) (.t 3)), ⟨none, true, .sto 5 (.t 2) (.t 19), none, false, []⟩] [2] [2]) .ret)))))))) }
noncomputable def laws_toPot_D : List (Nat × Callee) := []
def laws_toPot_H : List (Nat × ET) := []
noncomputable def laws_toPot_c : Callee := mkCallee laws_toPot_D laws_toPot_H laws_toPot_ir [.d T_Pot] [.d T_Pot] []
noncomputable def laws_toPot (a0 : T_Pot.ty) : Option (T_Pot.ty) := laws_toPot_c.f (a0, ())
theorem laws_toPot_eq (a0 : T_Pot.ty) : laws_toPot a0 =
  some a0 :=
 (mk_f _ _ _ _ _ _ _ 4000).trans (by kernel_rfl)

/- laws.toPotS -/
def laws_toPotS_k0 : C :=
 .seq (.seq (.reg false [.V 8 (.mv (.t 4)), .V 9 (.mv (.t 0)), .V 10 (.len (.t 9)), .V 11 (.bin .lss (.t 8) (.t 10))] [0, 3, 4, 11] [3]) (.cond (.t 11) .skip (.exit 0))) (.seq (.block 1 (.reg false [.V 14 (.mv (.t 3)), .V 15 (.mv (.t 4)), .V 16 (.mv (.t 0)), .V 17 (.mv (.t 4)), .V 18 (.ia 5 (.t 16) (.t 17)), .V 19 (.ld (some 5) (.t 18)), .V 20 (.call (.c (.fn 31 [])) [.t 19]), .V 21 (.ia 5 (.t 14) (.t 15)), ⟨none, true, .sto 5 (.t 21) (.t 20), none, false, []⟩] [0, 3, 4] [3])) (.reg false [.V 12 (.mv (.t 4)), .V 13 (.bin .add (.t 12) (.c (.int .i64 1))), .V 4 (.asg (.t 13))] [0, 3, 4] [3]))
def laws_toPotS_k1 : C :=
 .norm [0, 3, 4] [3] laws_toPotS_k0
def laws_toPotS_k2 : C :=
 .seq (.reg false [.V 22 (.mv (.t 3)), .W 2 (.asg (.t 22))] [2] [2, 3]) .ret
def laws_toPotS_ir : Fn := { np := 1, io := [], res := [.t 2], own := [true], body :=
 (.seq (.reg false [.W 2 (.asg (.c (.nils 5)))] [0] []) (.seq (.reg false [.V 5 (.mv (.t 0)), .V 6 (.len (.t 5)), .V 7 (.mks 5 48 (.agg [.str [], .int .i64 0, .int .i64 0, .int .i64 0, .int .i64 0]) (.t 6) (.t 6)), .W 3 (.asg (.t 7))] [0, 3] [3]) (.seq (.seq (.reg false [.V 4 (.asg (.c (.int .i64 0)))] [0, 3, 4] [3]) (.block 0 (.loop laws_toPotS_k1))) laws_toPotS_k2))) }
noncomputable def laws_toPotS_D : List (Nat × Callee) := [(31, laws_toPot_c)]
def laws_toPotS_H : List (Nat × ET) := [(2, T_Pot), (3, T_Pot), (5, T_Pot), (7, T_Pot), (9, T_Pot), (14, T_Pot), (16, T_Pot), (22, T_Pot)]
noncomputable def laws_toPotS_c : Callee := mkCallee laws_toPotS_D laws_toPotS_H laws_toPotS_ir [.d (.one (.sl T_Pot))] [.tok T_Pot] []
noncomputable def laws_toPotS (a0 : List T_Pot.ty) : Option (List T_Pot.ty) := laws_toPotS_c.f (a0, ())
noncomputable def laws_toPotS_p0  (v0 : List T_Pot.ty) (v3n : Nat) (v4 : Int) (r3 : List T_Pot.ty) : Option (List T_Pot.ty) :=
 goL laws_toPotS_D laws_toPotS_H (vleave laws_toPotS_ir [.d (.one (.sl T_Pot))] [.tok T_Pot] [] []) [.c laws_toPotS_k0, .l laws_toPotS_k1, .e 0, .c laws_toPotS_k2]
  ⟨[(0, .sl T_Pot v0), (3, .view 3 0 v3n), (4, .int .i64 v4)], [(3, some (.sl T_Pot r3))]⟩
theorem laws_toPotS_eq (a0 : List T_Pot.ty) : laws_toPotS a0 =
  if decide (0 ≤ (a0.length : Int)) && decide ((a0.length : Int) ≤ (a0.length : Int)) && decide ((a0.length : Int).toNat < lim) then
   laws_toPotS_p0 a0 ((List.replicate ((a0.length : Int).toNat) (([], 0, 0, 0, 0, ()) : T_Pot.ty)).length) 0 (List.replicate ((a0.length : Int).toNat) (([], 0, 0, 0, 0, ()) : T_Pot.ty))
  else
   none :=
 (mk_f _ _ _ _ _ _ _ 4000).trans (by kernel_rfl)
theorem laws_toPotS_p0_eq  (v0 : List T_Pot.ty) (v3n : Nat) (v4 : Int) (r3 : List T_Pot.ty) : laws_toPotS_p0 v0 v3n v4 r3 =
  if decide (v4 < (v0.length : Int)) then
   if decide (0 ≤ v4) then
    (v0[v4.toNat]?).bind fun x1 =>
     (laws_toPot x1).bind fun x2 =>
      if decide (0 ≤ v4) && decide (v4 < (v3n : Int)) then
       (r3[v4.toNat]?).bind fun x3 =>
        laws_toPotS_p0 v0 v3n (IntKind.i64.wrap (v4 + 1)) (r3.set v4.toNat x2)
      else
       none
   else
    none
  else
   some (r3.take v3n) :=
 (goL_dn _ _ _ 4000 _ _).trans (by kernel_rfl)

/- spec.l01Small -/
def spec_l01Small_ir : Fn := { np := 1, io := [], res := [.t 2], own := [false], body :=
 (.seq (.reg false [.V 2 (.asg (.c (.bool false)))] [0] []) (.seq (.reg false [.V 3 (.mv (.t 0)), .V 4 (.bin .geq (.t 3) (.c (.int .u8 97))), .V 5 (.mv (.t 4)), .G 6 (.mv (.t 0)) 2 true, .G 7 (.bin .leq (.t 6) (.c (.int .u8 122))) 2 true, .V 8 (.pick (.t 5) (.t 7) (.c (.bool false))), .V 2 (.asg (.t 8))] [2] []) .ret)) }
noncomputable def spec_l01Small_D : List (Nat × Callee) := []
def spec_l01Small_H : List (Nat × ET) := []
noncomputable def spec_l01Small_c : Callee := mkCallee spec_l01Small_D spec_l01Small_H spec_l01Small_ir [.d (.one (.int .u8))] [.d (.one .bool)] []
noncomputable def spec_l01Small (a0 : Int) : Option (Bool) := spec_l01Small_c.f (a0, ())
theorem spec_l01Small_eq (a0 : Int) : spec_l01Small a0 =
  if decide (a0 ≥ 97) then
   some (decide (a0 ≤ 122))
  else
   some false :=
 (mk_f _ _ _ _ _ _ _ 4000).trans (by kernel_rfl)

/- spec.l01Digit -/
def spec_l01Digit_ir : Fn := { np := 1, io := [], res := [.t 2], own := [false], body :=
 (.seq (.reg false [.V 2 (.asg (.c (.bool false)))] [0] []) (.seq (.reg false [.V 3 (.mv (.t 0)), .V 4 (.bin .geq (.t 3) (.c (.int .u8 48))), .V 5 (.mv (.t 4)), .G 6 (.mv (.t 0)) 2 true, .G 7 (.bin .leq (.t 6) (.c (.int .u8 57))) 2 true, .V 8 (.pick (.t 5) (.t 7) (.c (.bool false))), .V 2 (.asg (.t 8))] [2] []) .ret)) }
noncomputable def spec_l01Digit_D : List (Nat × Callee) := []
def spec_l01Digit_H : List (Nat × ET) := []
noncomputable def spec_l01Digit_c : Callee := mkCallee spec_l01Digit_D spec_l01Digit_H spec_l01Digit_ir [.d (.one (.int .u8))] [.d (.one .bool)] []
noncomputable def spec_l01Digit (a0 : Int) : Option (Bool) := spec_l01Digit_c.f (a0, ())
theorem spec_l01Digit_eq (a0 : Int) : spec_l01Digit a0 =
  if decide (a0 ≥ 48) then
   some (decide (a0 ≤ 57))
  else
   some false :=
 (mk_f _ _ _ _ _ _ _ 4000).trans (by kernel_rfl)

/- spec.l01Name -/
def spec_l01Name_k0 : C :=
 .seq (.seq (.reg false [.V 17 (.mv (.t 3)), .V 18 (.mv (.t 0)), .V 19 (.lens (.t 18)), .V 20 (.bin .lss (.t 17) (.t 19))] [0, 3, 20] []) (.cond (.t 20) .skip (.exit 0))) (.seq (.block 1 (.seq (.reg false [.V 23 (.mv (.t 0)), .V 24 (.mv (.t 3)), .V 25 (.ix (.t 23) (.t 24)), .V 26 (.call (.c (.fn 11 [])) [.t 25]), .V 27 (.un .not (.t 26)), .V 28 (.mv (.t 27)), .G 29 (.mv (.t 0)) 5 true, .G 30 (.mv (.t 3)) 5 true, .G 31 (.ix (.t 29) (.t 30)) 5 true, .G 32 (.call (.c (.fn 12 [])) [.t 31]) 5 true, .G 33 (.un .not (.t 32)) 5 true, .V 34 (.pick (.t 28) (.t 33) (.c (.bool false)))] [0, 3, 34] []) (.cond (.t 34) (.seq (.reg false [.V 2 (.asg (.c (.bool false)))] [2] []) .ret) .skip))) (.reg false [.V 21 (.mv (.t 3)), .V 22 (.bin .add (.t 21) (.c (.int .i64 1))), .V 3 (.asg (.t 22))] [0, 3] []))
def spec_l01Name_k1 : C :=
 .norm [0, 3] [] spec_l01Name_k0
def spec_l01Name_k2 : C :=
 .seq (.reg false [.V 2 (.asg (.c (.bool true)))] [2] []) .ret
def spec_l01Name_k3 : C :=
 .seq (.seq (.reg false [.V 3 (.asg (.c (.int .i64 0)))] [0, 3] []) (.block 0 (.loop spec_l01Name_k1))) spec_l01Name_k2
def spec_l01Name_ir : Fn := { np := 1, io := [], res := [.t 2], own := [false], body :=
 (.seq (.reg false [.V 2 (.asg (.c (.bool false)))] [0] []) (.seq (.seq (.reg false [.V 4 (.mv (.t 0)), .V 5 (.bin .eql (.t 4) (.c (.str []))), .V 6 (.mv (.t 5)), .G 7 (.mv (.t 0)) 2 false, .G 8 (.lens (.t 7)) 2 false, .G 9 (.bin .gtr (.t 8) (.c (.int .i64 10))) 2 false, .V 10 (.pick (.t 6) (.c (.bool true)) (.t 9)), .V 11 (.mv (.t 10)), .G 12 (.mv (.t 0)) 7 false, .G 13 (.ix (.t 12) (.c (.int .i64 0))) 7 false, .G 14 (.call (.c (.fn 11 [])) [.t 13]) 7 false, .G 15 (.un .not (.t 14)) 7 false, .V 16 (.pick (.t 11) (.c (.bool true)) (.t 15))] [0, 16] []) (.cond (.t 16) (.seq (.reg false [.V 2 (.asg (.c (.bool false)))] [2] []) .ret) .skip)) (.norm [0] [] spec_l01Name_k3))) }
noncomputable def spec_l01Name_D : List (Nat × Callee) := [(11, spec_l01Small_c), (12, spec_l01Digit_c)]
def spec_l01Name_H : List (Nat × ET) := []
noncomputable def spec_l01Name_c : Callee := mkCallee spec_l01Name_D spec_l01Name_H spec_l01Name_ir [.d (.one .str)] [.d (.one .bool)] []
noncomputable def spec_l01Name (a0 : List UInt8) : Option (Bool) := spec_l01Name_c.f (a0, ())
noncomputable def spec_l01Name_p0  (v0 : List UInt8) : Option (Bool) :=
 goL spec_l01Name_D spec_l01Name_H (vleave spec_l01Name_ir [.d (.one .str)] [.d (.one .bool)] [] []) [.c spec_l01Name_k3]
  ⟨[(0, .str v0)], []⟩
noncomputable def spec_l01Name_p1  (v0 : List UInt8) (v3 : Int) : Option (Bool) :=
 goL spec_l01Name_D spec_l01Name_H (vleave spec_l01Name_ir [.d (.one .str)] [.d (.one .bool)] [] []) [.c spec_l01Name_k0, .l spec_l01Name_k1, .e 0, .c spec_l01Name_k2]
  ⟨[(0, .str v0), (3, .int .i64 v3)], []⟩
theorem spec_l01Name_eq (a0 : List UInt8) : spec_l01Name a0 =
  if (a0 == []) then
   some false
  else
   if decide ((a0.length : Int) > 10) then
    some false
   else
    (a0[0]?).bind fun x1 =>
     (spec_l01Small (x1.toNat : Int)).bind fun x2 =>
      if (!x2) then
       some false
      else
       spec_l01Name_p0 a0 :=
 (mk_f _ _ _ _ _ _ _ 4000).trans (by kernel_rfl)
theorem spec_l01Name_p0_eq  (v0 : List UInt8) : spec_l01Name_p0 v0 =
  spec_l01Name_p1 v0 0 :=
 (goL_dn _ _ _ 4000 _ _).trans (by kernel_rfl)
theorem spec_l01Name_p1_eq  (v0 : List UInt8) (v3 : Int) : spec_l01Name_p1 v0 v3 =
  if decide (v3 < (v0.length : Int)) then
   if decide (0 ≤ v3) then
    (v0[v3.toNat]?).bind fun x1 =>
     (spec_l01Small (x1.toNat : Int)).bind fun x2 =>
      if (!x2) then
       if decide (0 ≤ v3) then
        (v0[v3.toNat]?).bind fun x3 =>
         (spec_l01Digit (x3.toNat : Int)).bind fun x4 =>
          if (!x4) then
           some false
          else
           spec_l01Name_p1 v0 (IntKind.i64.wrap (v3 + 1))
       else
        none
      else
       spec_l01Name_p1 v0 (IntKind.i64.wrap (v3 + 1))
   else
    none
  else
   some true :=
 (goL_dn _ _ _ 4000 _ _).trans (by kernel_rfl)

/- spec.l00In -/
def spec_l00In_ir : Fn := { np := 3, io := [], res := [.t 6], own := [false], body :=
 (.seq (.reg false [.V 6 (.asg (.c (.bool false)))] [0, 1, 2] []) (.seq (.reg false [.V 7 (.mv (.t 0)), .V 8 (.mv (.t 1)), .V 9 (.bin .geq (.t 7) (.t 8)), .V 10 (.mv (.t 9)), .G 11 (.mv (.t 0)) 3 true, .G 12 (.mv (.t 2)) 3 true, .G 13 (.bin .leq (.t 11) (.t 12)) 3 true, .V 14 (.pick (.t 10) (.t 13) (.c (.bool false))), .V 6 (.asg (.t 14))] [6] []) .ret)) }
noncomputable def spec_l00In_D : List (Nat × Callee) := []
def spec_l00In_H : List (Nat × ET) := []
noncomputable def spec_l00In_c : Callee := mkCallee spec_l00In_D spec_l00In_H spec_l00In_ir [.d (.one (.int .i64)), .d (.one (.int .i64)), .d (.one (.int .i64))] [.d (.one .bool)] []
noncomputable def spec_l00In (a0 : Int) (a1 : Int) (a2 : Int) : Option (Bool) := spec_l00In_c.f (a0, a1, a2, ())
theorem spec_l00In_eq (a0 : Int) (a1 : Int) (a2 : Int) : spec_l00In a0 a1 a2 =
  if decide (a0 ≥ a1) then
   some (decide (a0 ≤ a2))
  else
   some false :=
 (mk_f _ _ _ _ _ _ _ 4000).trans (by kernel_rfl)

/- spec.l14Grams -/
def spec_l14Grams_ir : Fn := { np := 1, io := [], res := [.t 2], own := [false], body :=
 (.seq (.reg false [.V 2 (.asg (.c (.bool false)))] [0] []) (.seq (.reg false [.V 3 (.mv (.t 0)), .V 4 (.call (.c (.fn 1 [])) [.t 3, .c (.int .i64 1), .c (.int .i64 10000)]), .V 2 (.asg (.t 4))] [2] []) .ret)) }
noncomputable def spec_l14Grams_D : List (Nat × Callee) := [(1, spec_l00In_c)]
def spec_l14Grams_H : List (Nat × ET) := []
noncomputable def spec_l14Grams_c : Callee := mkCallee spec_l14Grams_D spec_l14Grams_H spec_l14Grams_ir [.d (.one (.int .i64))] [.d (.one .bool)] []
noncomputable def spec_l14Grams (a0 : Int) : Option (Bool) := spec_l14Grams_c.f (a0, ())
theorem spec_l14Grams_eq (a0 : Int) : spec_l14Grams a0 =
  (spec_l00In a0 1 10000).bind fun x1 =>
   some x1 :=
 (mk_f _ _ _ _ _ _ _ 4000).trans (by kernel_rfl)

/- spec.l14Heat -/
def spec_l14Heat_ir : Fn := { np := 1, io := [], res := [.t 2], own := [false], body :=
 (.seq (.reg false [.V 2 (.asg (.c (.bool false)))] [0] []) (.seq (.reg false [.V 3 (.mv (.t 0)), .V 4 (.call (.c (.fn 1 [])) [.t 3, .c (.int .i64 20), .c (.int .i64 95)]), .V 2 (.asg (.t 4))] [2] []) .ret)) }
noncomputable def spec_l14Heat_D : List (Nat × Callee) := [(1, spec_l00In_c)]
def spec_l14Heat_H : List (Nat × ET) := []
noncomputable def spec_l14Heat_c : Callee := mkCallee spec_l14Heat_D spec_l14Heat_H spec_l14Heat_ir [.d (.one (.int .i64))] [.d (.one .bool)] []
noncomputable def spec_l14Heat (a0 : Int) : Option (Bool) := spec_l14Heat_c.f (a0, ())
theorem spec_l14Heat_eq (a0 : Int) : spec_l14Heat a0 =
  (spec_l00In a0 20 95).bind fun x1 =>
   some x1 :=
 (mk_f _ _ _ _ _ _ _ 4000).trans (by kernel_rfl)

/- spec.l14One -/
def spec_l14One_ir : Fn := { np := 1, io := [], res := [.t 2], own := [false], body :=
 (.seq (.reg false [.V 2 (.asg (.c (.bool false)))] [0] []) (.seq (.reg false [.V 3 (.mv (.t 0)), .V 4 (.nilck (.t 3)), .V 5 (.fa 0 (.t 4)), .V 6 (.ld none (.t 5)), .V 7 (.call (.c (.fn 13 [])) [.t 6]), .V 8 (.mv (.t 7)), .G 9 (.mv (.t 0)) 5 true, .G 10 (.nilck (.t 9)) 5 true, .G 11 (.fa 1 (.t 10)) 5 true, .G 12 (.ld none (.t 11)) 5 true, .G 13 (.call (.c (.fn 14 [])) [.t 12]) 5 true, .V 14 (.pick (.t 8) (.t 13) (.c (.bool false))), .V 15 (.mv (.t 14)), .G 16 (.mv (.t 0)) 12 true, .G 17 (.nilck (.t 16)) 12 true, .G 18 (.fa 2 (.t 17)) 12 true, .G 19 (.ld none (.t 18)) 12 true, .G 20 (.call (.c (.fn 14 [])) [.t 19]) 12 true, .V 21 (.pick (.t 15) (.t 20) (.c (.bool false))), .V 22 (.mv (.t 21)), .G 23 (.mv (.t 0)) 19 true, .G 24 (.nilck (.t 23)) 19 true, .G 25 (.fa 3 (.t 24)) 19 true, .G 26 (.ld none (.t 25)) 19 true, .G 27 (.call (.c (.fn 15 [])) [.t 26]) 19 true, .V 28 (.pick (.t 22) (.t 27) (.c (.bool false))), .V 29 (.mv (.t 28)), .G 30 (.mv (.t 0)) 26 true, .G 31 (.nilck (.t 30)) 26 true, .G 32 (.fa 4 (.t 31)) 26 true, .G 33 (.ld none (.t 32)) 26 true, .G 34 (.call (.c (.fn 1 [])) [.t 33, .c (.int .i64 0), .c (.int .i64 1000)]) 26 true, .V 35 (.pick (.t 29) (.t 34) (.c (.bool false))), .V 2 (.asg (.t 35))] [2] []) .ret)) }
noncomputable def spec_l14One_D : List (Nat × Callee) := [(1, spec_l00In_c), (13, spec_l01Name_c), (14, spec_l14Grams_c), (15, spec_l14Heat_c)]
def spec_l14One_H : List (Nat × ET) := []
noncomputable def spec_l14One_c : Callee := mkCallee spec_l14One_D spec_l14One_H spec_l14One_ir [.p T_Pot] [.d (.one .bool)] []
noncomputable def spec_l14One (a0 : T_Pot.ty) : Option (Bool) := spec_l14One_c.f (a0, ())
theorem spec_l14One_eq (a0 : T_Pot.ty) : spec_l14One a0 =
  (spec_l01Name a0.1).bind fun x1 =>
   if x1 then
    (spec_l14Grams a0.2.1).bind fun x2 =>
     if x2 then
      (spec_l14Grams a0.2.2.1).bind fun x3 =>
       if x3 then
        (spec_l14Heat a0.2.2.2.1).bind fun x4 =>
         if x4 then
          (spec_l00In a0.2.2.2.2.1 0 1000).bind fun x5 =>
           some x5
         else
          some false
       else
        some false
     else
      some false
   else
    some false :=
 (mk_f _ _ _ _ _ _ _ 4000).trans (by kernel_rfl)

/- spec.l14Ok -/
def spec_l14Ok_k0 : C :=
 .seq (.seq (.reg false [.V 4 (.mv (.t 3)), .V 5 (.mv (.t 0)), .V 6 (.len (.t 5)), .V 7 (.bin .lss (.t 4) (.t 6))] [0, 3, 7] []) (.cond (.t 7) .skip (.exit 0))) (.seq (.block 1 (.seq (.reg true [.V 10 (.mv (.t 0)), .V 11 (.mv (.t 3)), .V 12 (.ia 5 (.t 10) (.t 11)), .V 13 (.call (.c (.fn 20 [])) [.t 12]), .V 14 (.un .not (.t 13)), .V 15 (.mv (.t 14)), .G 16 (.mv (.t 3)) 5 false, .G 17 (.bin .gtr (.t 16) (.c (.int .i64 0))) 5 false, .G 18 (.mv (.t 17)) 5 false, .G 19 (.mv (.t 0)) 8 true, .G 20 (.mv (.t 3)) 8 true, .G 21 (.bin .sub (.t 20) (.c (.int .i64 1))) 8 true, .G 22 (.ia 5 (.t 19) (.t 21)) 8 true, .G 23 (.fa 0 (.t 22)) 8 true, .G 24 (.ld none (.t 23)) 8 true, .G 25 (.mv (.t 0)) 8 true, .G 26 (.mv (.t 3)) 8 true, .G 27 (.ia 5 (.t 25) (.t 26)) 8 true, .G 28 (.fa 0 (.t 27)) 8 true, .G 29 (.ld none (.t 28)) 8 true, .G 30 (.bin .geq (.t 24) (.t 29)) 8 true, .G 31 (.pick (.t 18) (.t 30) (.c (.bool false))) 5 false, .V 32 (.pick (.t 15) (.c (.bool true)) (.t 31))] [0, 3, 32] []) (.cond (.t 32) (.seq (.reg false [.V 2 (.asg (.c (.bool false)))] [2] []) .ret) .skip))) (.reg false [.V 8 (.mv (.t 3)), .V 9 (.bin .add (.t 8) (.c (.int .i64 1))), .V 3 (.asg (.t 9))] [0, 3] []))
def spec_l14Ok_k1 : C :=
 .norm [0, 3] [] spec_l14Ok_k0
def spec_l14Ok_k2 : C :=
 .seq (.reg false [.V 33 (.mv (.t 0)), .V 34 (.len (.t 33)), .V 35 (.bin .leq (.t 34) (.c (.int .i64 8))), .V 2 (.asg (.t 35))] [2] []) .ret
def spec_l14Ok_ir : Fn := { np := 1, io := [], res := [.t 2], own := [false], body :=
 (.seq (.reg false [.V 2 (.asg (.c (.bool false)))] [0] []) (.seq (.seq (.reg false [.V 3 (.asg (.c (.int .i64 0)))] [0, 3] []) (.block 0 (.loop spec_l14Ok_k1))) spec_l14Ok_k2)) }
noncomputable def spec_l14Ok_D : List (Nat × Callee) := [(20, spec_l14One_c)]
def spec_l14Ok_H : List (Nat × ET) := [(5, T_Pot), (10, T_Pot), (19, T_Pot), (25, T_Pot), (33, T_Pot)]
noncomputable def spec_l14Ok_c : Callee := mkCallee spec_l14Ok_D spec_l14Ok_H spec_l14Ok_ir [.d (.one (.sl T_Pot))] [.d (.one .bool)] []
noncomputable def spec_l14Ok (a0 : List T_Pot.ty) : Option (Bool) := spec_l14Ok_c.f (a0, ())
noncomputable def spec_l14Ok_p0  (v0 : List T_Pot.ty) (v3 : Int) : Option (Bool) :=
 goL spec_l14Ok_D spec_l14Ok_H (vleave spec_l14Ok_ir [.d (.one (.sl T_Pot))] [.d (.one .bool)] [] []) [.c spec_l14Ok_k0, .l spec_l14Ok_k1, .e 0, .c spec_l14Ok_k2]
  ⟨[(0, .sl T_Pot v0), (3, .int .i64 v3)], []⟩
theorem spec_l14Ok_eq (a0 : List T_Pot.ty) : spec_l14Ok a0 =
  spec_l14Ok_p0 a0 0 :=
 (mk_f _ _ _ _ _ _ _ 4000).trans (by kernel_rfl)
theorem spec_l14Ok_p0_eq  (v0 : List T_Pot.ty) (v3 : Int) : spec_l14Ok_p0 v0 v3 =
  if decide (v3 < (v0.length : Int)) then
   if decide (0 ≤ v3) then
    (v0[v3.toNat]?).bind fun x1 =>
     (spec_l14One x1).bind fun x2 =>
      if (!x2) then
       some false
      else
       if decide (v3 > 0) then
        if decide (0 ≤ IntKind.i64.wrap (v3 - 1)) then
         (v0[(IntKind.i64.wrap (v3 - 1)).toNat]?).bind fun x3 =>
          if decide (0 ≤ v3) then
           (v0[v3.toNat]?).bind fun x4 =>
            if (!Op.bytesLess x3.1 x4.1) then
             some false
            else
             spec_l14Ok_p0 v0 (IntKind.i64.wrap (v3 + 1))
          else
           none
        else
         none
       else
        spec_l14Ok_p0 v0 (IntKind.i64.wrap (v3 + 1))
   else
    none
  else
   some (decide ((v0.length : Int) ≤ 8)) :=
 (goL_dn _ _ _ 4000 _ _).trans (by kernel_rfl)

/- spec.l01Dec -/
def spec_l01Dec_k0 : C :=
 .reg false [.V 22 (.mv (.t 3)), .V 23 (.mv (.t 5)), .V 24 (.bin .add (.c (.int .i64 48)) (.t 23)), .V 25 (.conv (.int .u8) (.t 24)), .V 26 (.bsl 1 (.int .u8 0) 1 [(0, .t 25)]), .W 27 (.app 1 1 (.t 22) (.t 26)), .W 3 (.asg (.t 27))] [0, 3, 4] [3]
def spec_l01Dec_k1 : C :=
 .reg false [.V 14 (.mv (.t 4)), .V 15 (.bin .quo (.t 14) (.c (.int .i64 10))), .V 4 (.asg (.t 15))] [0, 3, 4] [3]
def spec_l01Dec_k2 : C :=
 .seq (.seq (.reg false [.V 12 (.mv (.t 4)), .V 13 (.bin .neq (.t 12) (.c (.int .i64 0)))] [0, 3, 4, 13] [3]) (.cond (.t 13) .skip (.exit 0))) (.seq (.block 1 (.seq (.reg false [.V 16 (.mv (.t 4)), .V 17 (.bin .rem (.t 16) (.c (.int .i64 10))), .V 5 (.asg (.t 17))] [0, 3, 4, 5] [3]) (.seq (.seq (.reg false [.V 18 (.mv (.t 5)), .V 19 (.bin .lss (.t 18) (.c (.int .i64 0)))] [0, 3, 4, 5, 19] [3]) (.cond (.t 19) (.reg false [.V 20 (.mv (.t 5)), .V 21 (.un .neg (.t 20)), .V 5 (.asg (.t 21))] [0, 3, 4, 5] [3]) .skip)) (.norm [0, 3, 4, 5] [3] spec_l01Dec_k0)))) spec_l01Dec_k1)
def spec_l01Dec_k3 : C :=
 .norm [0, 3, 4] [3] spec_l01Dec_k2
def spec_l01Dec_k4 : C :=
 .seq (.seq (.reg false [.V 37 (.mv (.t 7)), .V 38 (.bin .geq (.t 37) (.c (.int .i64 0)))] [3, 6, 7, 38] [3, 6]) (.cond (.t 38) .skip (.exit 2))) (.seq (.block 3 (.reg false [.V 41 (.mv (.t 6)), .V 42 (.mv (.t 3)), .V 43 (.mv (.t 7)), .V 44 (.ia 1 (.t 42) (.t 43)), .V 45 (.ld none (.t 44)), .V 46 (.bsl 1 (.int .u8 0) 1 [(0, .t 45)]), .W 47 (.app 1 1 (.t 41) (.t 46)), .W 6 (.asg (.t 47))] [3, 6, 7] [3, 6])) (.reg false [.V 39 (.mv (.t 7)), .V 40 (.bin .sub (.t 39) (.c (.int .i64 1))), .V 7 (.asg (.t 40))] [3, 6, 7] [3, 6]))
def spec_l01Dec_k5 : C :=
 .norm [3, 6, 7] [3, 6] spec_l01Dec_k4
def spec_l01Dec_k6 : C :=
 .seq (.reg false [.V 48 (.mv (.t 6)), .V 49 (.conv .bytesStr (.t 48)), .V 2 (.asg (.t 49))] [2] []) .ret
def spec_l01Dec_k7 : C :=
 .seq (.reg false [.V 33 (.bsl 1 (.int .u8 0) 0 []), .W 6 (.asg (.t 33))] [3, 6] [3, 6]) (.seq (.seq (.reg false [.V 34 (.mv (.t 3)), .V 35 (.len (.t 34)), .V 36 (.bin .sub (.t 35) (.c (.int .i64 1))), .V 7 (.asg (.t 36))] [3, 6, 7] [3, 6]) (.block 2 (.loop spec_l01Dec_k5))) spec_l01Dec_k6)
def spec_l01Dec_k8 : C :=
 .seq (.seq (.reg false [.V 28 (.mv (.t 0)), .V 29 (.bin .lss (.t 28) (.c (.int .i64 0)))] [3, 29] [3]) (.cond (.t 29) (.reg false [.V 30 (.mv (.t 3)), .V 31 (.bsl 1 (.int .u8 0) 1 [(0, .c (.int .u8 45))]), .W 32 (.app 1 1 (.t 30) (.t 31)), .W 3 (.asg (.t 32))] [3] [3]) .skip)) (.norm [3] [3] spec_l01Dec_k7)
def spec_l01Dec_ir : Fn := { np := 1, io := [], res := [.t 2], own := [false], body :=
 (.seq (.reg false [.V 2 (.asg (.c (.str [])))] [0] []) (.seq (.seq (.reg false [.V 8 (.mv (.t 0)), .V 9 (.bin .eql (.t 8) (.c (.int .i64 0)))] [0, 9] []) (.cond (.t 9) (.seq (.reg false [.V 2 (.asg (.c (.str [48])))] [2] []) .ret) .skip)) (.seq (.reg false [.V 10 (.bsl 1 (.int .u8 0) 0 []), .W 3 (.asg (.t 10))] [0, 3] [3]) (.seq (.seq (.reg false [.V 11 (.mv (.t 0)), .V 4 (.asg (.t 11))] [0, 3, 4] [3]) (.block 0 (.loop spec_l01Dec_k3))) spec_l01Dec_k8)))) }
noncomputable def spec_l01Dec_D : List (Nat × Callee) := []
def spec_l01Dec_H : List (Nat × ET) := [(3, (.one (.int .u8))), (6, (.one (.int .u8))), (10, (.one (.int .u8))), (22, (.one (.int .u8))), (26, (.one (.int .u8))), (27, (.one (.int .u8))), (30, (.one (.int .u8))), (31, (.one (.int .u8))), (32, (.one (.int .u8))), (33, (.one (.int .u8))), (34, (.one (.int .u8))), (41, (.one (.int .u8))), (42, (.one (.int .u8))), (46, (.one (.int .u8))), (47, (.one (.int .u8))), (48, (.one (.int .u8)))]
noncomputable def spec_l01Dec_c : Callee := mkCallee spec_l01Dec_D spec_l01Dec_H spec_l01Dec_ir [.d (.one (.int .i64))] [.d (.one .str)] []
noncomputable def spec_l01Dec (a0 : Int) : Option (List UInt8) := spec_l01Dec_c.f (a0, ())
noncomputable def spec_l01Dec_p0  (v0 : Int) (v4 : Int) (r3 : List Int) : Option (List UInt8) :=
 goL spec_l01Dec_D spec_l01Dec_H (vleave spec_l01Dec_ir [.d (.one (.int .i64))] [.d (.one .str)] [] []) [.c spec_l01Dec_k2, .l spec_l01Dec_k3, .e 0, .c spec_l01Dec_k8]
  ⟨[(0, .int .i64 v0), (3, .view 3 0 r3.length), (4, .int .i64 v4)], [(3, some (.sl (.one (.int .u8)) r3))]⟩
noncomputable def spec_l01Dec_p1  (v0 : Int) (v4 : Int) (v5 : Int) (r3 : List Int) : Option (List UInt8) :=
 goL spec_l01Dec_D spec_l01Dec_H (vleave spec_l01Dec_ir [.d (.one (.int .i64))] [.d (.one .str)] [] []) [.c spec_l01Dec_k0, .e 1, .c spec_l01Dec_k1, .l spec_l01Dec_k3, .e 0, .c spec_l01Dec_k8]
  ⟨[(0, .int .i64 v0), (3, .view 3 0 r3.length), (4, .int .i64 v4), (5, .int .i64 v5)], [(3, some (.sl (.one (.int .u8)) r3))]⟩
noncomputable def spec_l01Dec_p2  (r3 : List Int) : Option (List UInt8) :=
 goL spec_l01Dec_D spec_l01Dec_H (vleave spec_l01Dec_ir [.d (.one (.int .i64))] [.d (.one .str)] [] []) [.c spec_l01Dec_k7]
  ⟨[(3, .view 3 0 r3.length)], [(3, some (.sl (.one (.int .u8)) r3))]⟩
noncomputable def spec_l01Dec_p3  (v7 : Int) (r3 : List Int) (r6 : List Int) : Option (List UInt8) :=
 goL spec_l01Dec_D spec_l01Dec_H (vleave spec_l01Dec_ir [.d (.one (.int .i64))] [.d (.one .str)] [] []) [.c spec_l01Dec_k4, .l spec_l01Dec_k5, .e 2, .c spec_l01Dec_k6]
  ⟨[(3, .view 3 0 r3.length), (6, .view 6 0 r6.length), (7, .int .i64 v7)], [(3, some (.sl (.one (.int .u8)) r3)), (6, some (.sl (.one (.int .u8)) r6))]⟩
theorem spec_l01Dec_eq (a0 : Int) : spec_l01Dec a0 =
  if (a0 == 0) then
   some [48]
  else
   spec_l01Dec_p0 a0 a0 [] :=
 (mk_f _ _ _ _ _ _ _ 4000).trans (by kernel_rfl)
theorem spec_l01Dec_p0_eq  (v0 : Int) (v4 : Int) (r3 : List Int) : spec_l01Dec_p0 v0 v4 r3 =
  if (v4 != 0) then
   if decide (v4.tmod 10 < 0) then
    spec_l01Dec_p1 v0 v4 (IntKind.i64.wrap (0 - (v4.tmod 10))) r3
   else
    spec_l01Dec_p1 v0 v4 (v4.tmod 10) r3
  else
   if decide (v0 < 0) then
    if decide (r3.length + 1 < lim) then
     spec_l01Dec_p2 ((r3.take r3.length) ++ [45])
    else
     none
   else
    spec_l01Dec_p2 r3 :=
 (goL_dn _ _ _ 4000 _ _).trans (by kernel_rfl)
theorem spec_l01Dec_p1_eq  (v0 : Int) (v4 : Int) (v5 : Int) (r3 : List Int) : spec_l01Dec_p1 v0 v4 v5 r3 =
  if decide (r3.length + 1 < lim) then
   spec_l01Dec_p0 v0 (IntKind.i64.wrap (v4.tdiv 10)) ((r3.take r3.length) ++ [IntKind.u8.wrap (IntKind.i64.wrap (48 + v5))])
  else
   none :=
 (goL_dn _ _ _ 4000 _ _).trans (by kernel_rfl)
theorem spec_l01Dec_p2_eq  (r3 : List Int) : spec_l01Dec_p2 r3 =
  spec_l01Dec_p3 (IntKind.i64.wrap ((r3.length : Int) - 1)) r3 [] :=
 (goL_dn _ _ _ 4000 _ _).trans (by kernel_rfl)
theorem spec_l01Dec_p3_eq  (v7 : Int) (r3 : List Int) (r6 : List Int) : spec_l01Dec_p3 v7 r3 r6 =
  if decide (v7 ≥ 0) then
   if decide (0 ≤ v7) && decide (v7 < (r3.length : Int)) then
    (r3[v7.toNat]?).bind fun x1 =>
     if decide (r6.length + 1 < lim) then
      spec_l01Dec_p3 (IntKind.i64.wrap (v7 - 1)) r3 ((r6.take r6.length) ++ [x1])
     else
      none
   else
    none
  else
   some ((r6.take r6.length).map vu8) :=
 (goL_dn _ _ _ 4000 _ _).trans (by kernel_rfl)

/- spec.l01Div -/
def spec_l01Div_k0 : C :=
 .seq (.seq (.reg false [.V 11 (.mv (.t 0)), .V 12 (.bin .lss (.t 11) (.c (.int .i64 0)))] [0, 1, 12] []) (.cond (.t 12) (.seq (.reg false [.V 13 (.mv (.t 1)), .V 14 (.mv (.t 0)), .V 15 (.bin .mul (.c (.int .i64 2)) (.t 14)), .V 16 (.bin .sub (.t 13) (.t 15)), .V 17 (.mv (.t 1)), .V 18 (.bin .mul (.c (.int .i64 2)) (.t 17)), .V 19 (.bin .quo (.t 16) (.t 18)), .V 20 (.un .neg (.t 19)), .V 4 (.asg (.t 20))] [4] []) .ret) .skip)) (.seq (.reg false [.V 21 (.mv (.t 0)), .V 22 (.bin .mul (.c (.int .i64 2)) (.t 21)), .V 23 (.mv (.t 1)), .V 24 (.bin .add (.t 22) (.t 23)), .V 25 (.mv (.t 1)), .V 26 (.bin .mul (.c (.int .i64 2)) (.t 25)), .V 27 (.bin .quo (.t 24) (.t 26)), .V 4 (.asg (.t 27))] [4] []) .ret)
def spec_l01Div_ir : Fn := { np := 2, io := [], res := [.t 4], own := [false], body :=
 (.seq (.reg false [.V 4 (.asg (.c (.int .i64 0)))] [0, 1] []) (.seq (.seq (.reg false [.V 5 (.mv (.t 1)), .V 6 (.bin .lss (.t 5) (.c (.int .i64 0)))] [0, 1, 6] []) (.cond (.t 6) (.seq (.reg false [.V 7 (.mv (.t 0)), .V 8 (.un .neg (.t 7)), .V 0 (.asg (.t 8))] [0, 1] []) (.reg false [.V 9 (.mv (.t 1)), .V 10 (.un .neg (.t 9)), .V 1 (.asg (.t 10))] [0, 1] [])) .skip)) (.norm [0, 1] [] spec_l01Div_k0))) }
noncomputable def spec_l01Div_D : List (Nat × Callee) := []
def spec_l01Div_H : List (Nat × ET) := []
noncomputable def spec_l01Div_c : Callee := mkCallee spec_l01Div_D spec_l01Div_H spec_l01Div_ir [.d (.one (.int .i64)), .d (.one (.int .i64))] [.d (.one (.int .i64))] []
noncomputable def spec_l01Div (a0 : Int) (a1 : Int) : Option (Int) := spec_l01Div_c.f (a0, a1, ())
noncomputable def spec_l01Div_p0  (v0 : Int) (v1 : Int) : Option (Int) :=
 goL spec_l01Div_D spec_l01Div_H (vleave spec_l01Div_ir [.d (.one (.int .i64)), .d (.one (.int .i64))] [.d (.one (.int .i64))] [] []) [.c spec_l01Div_k0]
  ⟨[(0, .int .i64 v0), (1, .int .i64 v1)], []⟩
theorem spec_l01Div_eq (a0 : Int) (a1 : Int) : spec_l01Div a0 a1 =
  if decide (a1 < 0) then
   spec_l01Div_p0 (IntKind.i64.wrap (0 - a0)) (IntKind.i64.wrap (0 - a1))
  else
   spec_l01Div_p0 a0 a1 :=
 (mk_f _ _ _ _ _ _ _ 4000).trans (by kernel_rfl)
theorem spec_l01Div_p0_eq  (v0 : Int) (v1 : Int) : spec_l01Div_p0 v0 v1 =
  if decide (v0 < 0) then
   if decide (IntKind.i64.wrap (2 * v1) = 0) then
    none
   else
    some (IntKind.i64.wrap (0 - (IntKind.i64.wrap ((IntKind.i64.wrap (v1 - (IntKind.i64.wrap (2 * v0)))).tdiv (IntKind.i64.wrap (2 * v1))))))
  else
   if decide (IntKind.i64.wrap (2 * v1) = 0) then
    none
   else
    some (IntKind.i64.wrap ((IntKind.i64.wrap ((IntKind.i64.wrap (2 * v0)) + v1)).tdiv (IntKind.i64.wrap (2 * v1)))) :=
 (goL_dn _ _ _ 4000 _ _).trans (by kernel_rfl)

/- spec.l00Max -/
def spec_l00Max_ir : Fn := { np := 2, io := [], res := [.t 4], own := [false], body :=
 (.seq (.reg false [.V 4 (.asg (.c (.int .i64 0)))] [0, 1] []) (.seq (.seq (.reg false [.V 5 (.mv (.t 0)), .V 6 (.mv (.t 1)), .V 7 (.bin .gtr (.t 5) (.t 6))] [0, 1, 7] []) (.cond (.t 7) (.seq (.reg false [.V 8 (.mv (.t 0)), .V 4 (.asg (.t 8))] [4] []) .ret) .skip)) (.seq (.reg false [.V 9 (.mv (.t 1)), .V 4 (.asg (.t 9))] [4] []) .ret))) }
noncomputable def spec_l00Max_D : List (Nat × Callee) := []
def spec_l00Max_H : List (Nat × ET) := []
noncomputable def spec_l00Max_c : Callee := mkCallee spec_l00Max_D spec_l00Max_H spec_l00Max_ir [.d (.one (.int .i64)), .d (.one (.int .i64))] [.d (.one (.int .i64))] []
noncomputable def spec_l00Max (a0 : Int) (a1 : Int) : Option (Int) := spec_l00Max_c.f (a0, a1, ())
theorem spec_l00Max_eq (a0 : Int) (a1 : Int) : spec_l00Max a0 a1 =
  if decide (a0 > a1) then
   some a0
  else
   some a1 :=
 (mk_f _ _ _ _ _ _ _ 4000).trans (by kernel_rfl)

/- spec.l14Strong -/
def spec_l14Strong_ir : Fn := { np := 1, io := [], res := [.t 2], own := [false], body :=
 (.seq (.reg false [.V 2 (.asg (.c (.int .i64 0)))] [0] []) (.seq (.reg true [.V 3 (.mv (.t 0)), .V 4 (.nilck (.t 3)), .V 5 (.fa 1 (.t 4)), .V 6 (.ld none (.t 5)), .V 7 (.bin .mul (.c (.int .i64 1000)) (.t 6)), .V 8 (.mv (.t 0)), .V 9 (.nilck (.t 8)), .V 10 (.fa 1 (.t 9)), .V 11 (.ld none (.t 10)), .V 12 (.mv (.t 0)), .V 13 (.nilck (.t 12)), .V 14 (.fa 2 (.t 13)), .V 15 (.ld none (.t 14)), .V 16 (.bin .add (.t 11) (.t 15)), .V 17 (.call (.c (.fn 16 [])) [.t 7, .t 16]), .V 18 (.mv (.t 0)), .V 19 (.nilck (.t 18)), .V 20 (.fa 4 (.t 19)), .V 21 (.ld none (.t 20)), .V 22 (.bin .mul (.c (.int .i64 2)) (.t 21)), .V 23 (.bin .sub (.t 17) (.t 22)), .V 24 (.mv (.t 0)), .V 25 (.nilck (.t 24)), .V 26 (.fa 3 (.t 25)), .V 27 (.ld none (.t 26)), .V 28 (.bin .sub (.t 27) (.c (.int .i64 70))), .V 29 (.call (.c (.fn 17 [])) [.c (.int .i64 0), .t 28]), .V 30 (.bin .mul (.c (.int .i64 10)) (.t 29)), .V 31 (.bin .sub (.t 23) (.t 30)), .V 32 (.call (.c (.fn 17 [])) [.c (.int .i64 0), .t 31]), .V 2 (.asg (.t 32))] [2] []) .ret)) }
noncomputable def spec_l14Strong_D : List (Nat × Callee) := [(16, spec_l01Div_c), (17, spec_l00Max_c)]
def spec_l14Strong_H : List (Nat × ET) := []
noncomputable def spec_l14Strong_c : Callee := mkCallee spec_l14Strong_D spec_l14Strong_H spec_l14Strong_ir [.p T_Pot] [.d (.one (.int .i64))] []
noncomputable def spec_l14Strong (a0 : T_Pot.ty) : Option (Int) := spec_l14Strong_c.f (a0, ())
theorem spec_l14Strong_eq (a0 : T_Pot.ty) : spec_l14Strong a0 =
  (spec_l01Div (IntKind.i64.wrap (1000 * a0.2.1)) (IntKind.i64.wrap (a0.2.1 + a0.2.2.1))).bind fun x1 =>
   (spec_l00Max 0 (IntKind.i64.wrap (a0.2.2.2.1 - 70))).bind fun x2 =>
    (spec_l00Max 0 (IntKind.i64.wrap ((IntKind.i64.wrap (x1 - (IntKind.i64.wrap (2 * a0.2.2.2.2.1)))) - (IntKind.i64.wrap (10 * x2))))).bind fun x3 =>
     some x3 :=
 (mk_f _ _ _ _ _ _ _ 4000).trans (by kernel_rfl)

/- spec.l02Ten -/
def spec_l02Ten_k0 : C :=
 .seq (.seq (.reg false [.V 5 (.mv (.t 4)), .V 6 (.mv (.t 0)), .V 7 (.bin .lss (.t 5) (.t 6))] [0, 3, 4, 7] []) (.cond (.t 7) .skip (.exit 0))) (.seq (.block 1 (.reg false [.V 10 (.mv (.t 3)), .V 11 (.bin .mul (.t 10) (.c (.int .i64 10))), .V 3 (.asg (.t 11))] [0, 3, 4] [])) (.reg false [.V 8 (.mv (.t 4)), .V 9 (.bin .add (.t 8) (.c (.int .i64 1))), .V 4 (.asg (.t 9))] [0, 3, 4] []))
def spec_l02Ten_k1 : C :=
 .norm [0, 3, 4] [] spec_l02Ten_k0
def spec_l02Ten_k2 : C :=
 .seq (.reg false [.V 12 (.mv (.t 3)), .V 2 (.asg (.t 12))] [2] []) .ret
def spec_l02Ten_ir : Fn := { np := 1, io := [], res := [.t 2], own := [false], body :=
 (.seq (.reg false [.V 2 (.asg (.c (.int .i64 0)))] [0] []) (.seq (.reg false [.V 3 (.asg (.c (.int .i64 1)))] [0, 3] []) (.seq (.seq (.reg false [.V 4 (.asg (.c (.int .i64 0)))] [0, 3, 4] []) (.block 0 (.loop spec_l02Ten_k1))) spec_l02Ten_k2))) }
noncomputable def spec_l02Ten_D : List (Nat × Callee) := []
def spec_l02Ten_H : List (Nat × ET) := []
noncomputable def spec_l02Ten_c : Callee := mkCallee spec_l02Ten_D spec_l02Ten_H spec_l02Ten_ir [.d (.one (.int .i64))] [.d (.one (.int .i64))] []
noncomputable def spec_l02Ten (a0 : Int) : Option (Int) := spec_l02Ten_c.f (a0, ())
noncomputable def spec_l02Ten_p0  (v0 : Int) (v3 : Int) (v4 : Int) : Option (Int) :=
 goL spec_l02Ten_D spec_l02Ten_H (vleave spec_l02Ten_ir [.d (.one (.int .i64))] [.d (.one (.int .i64))] [] []) [.c spec_l02Ten_k0, .l spec_l02Ten_k1, .e 0, .c spec_l02Ten_k2]
  ⟨[(0, .int .i64 v0), (3, .int .i64 v3), (4, .int .i64 v4)], []⟩
theorem spec_l02Ten_eq (a0 : Int) : spec_l02Ten a0 =
  spec_l02Ten_p0 a0 1 0 :=
 (mk_f _ _ _ _ _ _ _ 4000).trans (by kernel_rfl)
theorem spec_l02Ten_p0_eq  (v0 : Int) (v3 : Int) (v4 : Int) : spec_l02Ten_p0 v0 v3 v4 =
  if decide (v4 < v0) then
   spec_l02Ten_p0 v0 (IntKind.i64.wrap (v3 * 10)) (IntKind.i64.wrap (v4 + 1))
  else
   some v3 :=
 (goL_dn _ _ _ 4000 _ _).trans (by kernel_rfl)

/- spec.l02Fixed -/
def spec_l02Fixed_k0 : C :=
 .seq (.reg false [.V 12 (.mv (.t 1)), .V 13 (.call (.c (.fn 960 [])) [.t 12]), .V 6 (.asg (.t 13))] [0, 5, 6] []) (.seq (.reg false [.V 14 (.mv (.t 0)), .V 15 (.mv (.t 6)), .V 16 (.bin .rem (.t 14) (.t 15)), .V 17 (.mv (.t 6)), .V 18 (.bin .add (.t 16) (.t 17)), .V 19 (.call (.c (.fn 726 [])) [.t 18]), .V 7 (.asg (.t 19))] [0, 5, 6, 7] []) (.seq (.reg true [.V 20 (.mv (.t 5)), .V 21 (.mv (.t 0)), .V 22 (.mv (.t 6)), .V 23 (.bin .quo (.t 21) (.t 22)), .V 24 (.call (.c (.fn 726 [])) [.t 23]), .V 25 (.bin .add (.t 20) (.t 24)), .V 26 (.bin .add (.t 25) (.c (.str [46]))), .V 27 (.mv (.t 7)), .V 28 (.slcs (.t 27) (some (.c (.int .i64 1))) none), .V 29 (.bin .add (.t 26) (.t 28)), .V 4 (.asg (.t 29))] [4] []) .ret))
def spec_l02Fixed_ir : Fn := { np := 2, io := [], res := [.t 4], own := [false], body :=
 (.seq (.reg false [.V 4 (.asg (.c (.str [])))] [0, 1] []) (.seq (.reg false [.V 5 (.asg (.c (.str [])))] [0, 1, 5] []) (.seq (.seq (.reg false [.V 8 (.mv (.t 0)), .V 9 (.bin .lss (.t 8) (.c (.int .i64 0)))] [0, 1, 5, 9] []) (.cond (.t 9) (.seq (.reg false [.V 5 (.asg (.c (.str [45])))] [0, 1, 5] []) (.reg false [.V 10 (.mv (.t 0)), .V 11 (.un .neg (.t 10)), .V 0 (.asg (.t 11))] [0, 1, 5] [])) .skip)) (.norm [0, 1, 5] [] spec_l02Fixed_k0)))) }
noncomputable def spec_l02Fixed_D : List (Nat × Callee) := [(726, spec_l01Dec_c), (960, spec_l02Ten_c)]
def spec_l02Fixed_H : List (Nat × ET) := []
noncomputable def spec_l02Fixed_c : Callee := mkCallee spec_l02Fixed_D spec_l02Fixed_H spec_l02Fixed_ir [.d (.one (.int .i64)), .d (.one (.int .i64))] [.d (.one .str)] []
noncomputable def spec_l02Fixed (a0 : Int) (a1 : Int) : Option (List UInt8) := spec_l02Fixed_c.f (a0, a1, ())
noncomputable def spec_l02Fixed_p0  (v0 : Int) (v1 : Int) (v5 : List UInt8) : Option (List UInt8) :=
 goL spec_l02Fixed_D spec_l02Fixed_H (vleave spec_l02Fixed_ir [.d (.one (.int .i64)), .d (.one (.int .i64))] [.d (.one .str)] [] []) [.c spec_l02Fixed_k0]
  ⟨[(0, .int .i64 v0), (1, .int .i64 v1), (5, .str v5)], []⟩
theorem spec_l02Fixed_eq (a0 : Int) (a1 : Int) : spec_l02Fixed a0 a1 =
  if decide (a0 < 0) then
   spec_l02Fixed_p0 (IntKind.i64.wrap (0 - a0)) a1 [45]
  else
   spec_l02Fixed_p0 a0 a1 [] :=
 (mk_f _ _ _ _ _ _ _ 4000).trans (by kernel_rfl)
theorem spec_l02Fixed_p0_eq  (v0 : Int) (v1 : Int) (v5 : List UInt8) : spec_l02Fixed_p0 v0 v1 v5 =
  (spec_l02Ten v1).bind fun x1 =>
   if decide (x1 = 0) then
    none
   else
    (spec_l01Dec (IntKind.i64.wrap ((v0.tmod x1) + x1))).bind fun x2 =>
     if decide (x1 = 0) then
      none
     else
      (spec_l01Dec (IntKind.i64.wrap (v0.tdiv x1))).bind fun x3 =>
       if decide (v5.length + x3.length ≤ strMax) then
        if decide ((v5 ++ x3).length + [46].length ≤ strMax) then
         if decide (1 ≤ (x2.length : Int)) then
          if decide (((v5 ++ x3) ++ [46]).length + (x2.drop 1).length ≤ strMax) then
           some (((v5 ++ x3) ++ [46]) ++ (x2.drop 1))
          else
           none
         else
          none
        else
         none
       else
        none :=
 (goL_dn _ _ _ 4000 _ _).trans (by kernel_rfl)

/- spec.l30Table -/
def spec_l30Table_k0 : C :=
 .seq (.seq (.reg false [.V 18 (.mv (.t 5)), .V 19 (.mv (.t 0)), .V 20 (.mv (.t 4)), .V 21 (.ia 1 (.t 19) (.t 20)), .V 22 (.ld none (.t 21)), .V 23 (.len (.t 22)), .V 24 (.bin .lss (.t 18) (.t 23))] [0, 3, 4, 5, 24] [3]) (.cond (.t 24) .skip (.exit 2))) (.seq (.block 3 (.seq (.reg true [.V 27 (.mv (.t 0)), .V 28 (.mv (.t 4)), .V 29 (.ia 1 (.t 27) (.t 28)), .V 30 (.ld none (.t 29)), .V 31 (.mv (.t 5)), .V 32 (.ia 1 (.t 30) (.t 31)), .V 33 (.ld none (.t 32)), .V 34 (.lens (.t 33)), .V 35 (.mv (.t 3)), .V 36 (.mv (.t 5)), .V 37 (.ia 1 (.t 35) (.t 36)), .V 38 (.ld none (.t 37)), .V 39 (.bin .gtr (.t 34) (.t 38))] [0, 3, 4, 5, 39] [3]) (.cond (.t 39) (.reg false [.V 40 (.mv (.t 3)), .V 41 (.mv (.t 5)), .V 42 (.mv (.t 0)), .V 43 (.mv (.t 4)), .V 44 (.ia 1 (.t 42) (.t 43)), .V 45 (.ld none (.t 44)), .V 46 (.mv (.t 5)), .V 47 (.ia 1 (.t 45) (.t 46)), .V 48 (.ld none (.t 47)), .V 49 (.lens (.t 48)), .V 50 (.ia 1 (.t 40) (.t 41)), ⟨none, true, .sto 1 (.t 50) (.t 49), none, false, []⟩] [0, 3, 4, 5] [3]) .skip))) (.reg false [.V 25 (.mv (.t 5)), .V 26 (.bin .add (.t 25) (.c (.int .i64 1))), .V 5 (.asg (.t 26))] [0, 3, 4, 5] [3]))
def spec_l30Table_k1 : C :=
 .norm [0, 3, 4, 5] [3] spec_l30Table_k0
def spec_l30Table_k2 : C :=
 .reg false [.V 16 (.mv (.t 4)), .V 17 (.bin .add (.t 16) (.c (.int .i64 1))), .V 4 (.asg (.t 17))] [0, 3, 4] [3]
def spec_l30Table_k3 : C :=
 .seq (.seq (.reg false [.V 12 (.mv (.t 4)), .V 13 (.mv (.t 0)), .V 14 (.len (.t 13)), .V 15 (.bin .lss (.t 12) (.t 14))] [0, 3, 4, 15] [3]) (.cond (.t 15) .skip (.exit 0))) (.seq (.block 1 (.seq (.reg false [.V 5 (.asg (.c (.int .i64 0)))] [0, 3, 4, 5] [3]) (.block 2 (.loop spec_l30Table_k1)))) spec_l30Table_k2)
def spec_l30Table_k4 : C :=
 .norm [0, 3, 4] [3] spec_l30Table_k3
def spec_l30Table_k5 : C :=
 .seq (.seq (.reg false [.V 88 (.mv (.t 10)), .V 89 (.mv (.t 3)), .V 90 (.mv (.t 9)), .V 91 (.ia 1 (.t 89) (.t 90)), .V 92 (.ld none (.t 91)), .V 93 (.bin .lss (.t 88) (.t 92))] [0, 3, 6, 7, 8, 9, 10, 93] [3, 6]) (.cond (.t 93) .skip (.exit 8))) (.seq (.block 9 (.reg false [.V 96 (.mv (.t 8)), .V 97 (.bin .add (.t 96) (.c (.str [32]))), .V 8 (.asg (.t 97))] [0, 3, 6, 7, 8, 9, 10] [3, 6])) (.reg false [.V 94 (.mv (.t 10)), .V 95 (.bin .add (.t 94) (.c (.int .i64 1))), .V 10 (.asg (.t 95))] [0, 3, 6, 7, 8, 9, 10] [3, 6]))
def spec_l30Table_k6 : C :=
 .norm [0, 3, 6, 7, 8, 9, 10] [3, 6] spec_l30Table_k5
def spec_l30Table_k7 : C :=
 .seq (.reg false [.V 71 (.mv (.t 8)), .V 72 (.mv (.t 0)), .V 73 (.mv (.t 7)), .V 74 (.ia 1 (.t 72) (.t 73)), .V 75 (.ld none (.t 74)), .V 76 (.mv (.t 9)), .V 77 (.ia 1 (.t 75) (.t 76)), .V 78 (.ld none (.t 77)), .V 79 (.bin .add (.t 71) (.t 78)), .V 8 (.asg (.t 79))] [0, 3, 6, 7, 8, 9] [3, 6]) (.seq (.reg false [.V 80 (.mv (.t 0)), .V 81 (.mv (.t 7)), .V 82 (.ia 1 (.t 80) (.t 81)), .V 83 (.ld none (.t 82)), .V 84 (.mv (.t 9)), .V 85 (.ia 1 (.t 83) (.t 84)), .V 86 (.ld none (.t 85)), .V 87 (.lens (.t 86)), .V 10 (.asg (.t 87))] [0, 3, 6, 7, 8, 9, 10] [3, 6]) (.block 8 (.loop spec_l30Table_k6)))
def spec_l30Table_k8 : C :=
 .reg false [.V 65 (.mv (.t 9)), .V 66 (.bin .add (.t 65) (.c (.int .i64 1))), .V 9 (.asg (.t 66))] [0, 3, 6, 7, 8, 9] [3, 6]
def spec_l30Table_k9 : C :=
 .seq (.seq (.reg false [.V 58 (.mv (.t 9)), .V 59 (.mv (.t 0)), .V 60 (.mv (.t 7)), .V 61 (.ia 1 (.t 59) (.t 60)), .V 62 (.ld none (.t 61)), .V 63 (.len (.t 62)), .V 64 (.bin .lss (.t 58) (.t 63))] [0, 3, 6, 7, 8, 9, 64] [3, 6]) (.cond (.t 64) .skip (.exit 6))) (.seq (.block 7 (.seq (.seq (.reg false [.V 67 (.mv (.t 9)), .V 68 (.bin .gtr (.t 67) (.c (.int .i64 0)))] [0, 3, 6, 7, 8, 9, 68] [3, 6]) (.cond (.t 68) (.reg false [.V 69 (.mv (.t 8)), .V 70 (.bin .add (.t 69) (.c (.str [32, 32]))), .V 8 (.asg (.t 70))] [0, 3, 6, 7, 8, 9] [3, 6]) .skip)) (.norm [0, 3, 6, 7, 8, 9] [3, 6] spec_l30Table_k7))) spec_l30Table_k8)
def spec_l30Table_k10 : C :=
 .norm [0, 3, 6, 7, 8, 9] [3, 6] spec_l30Table_k9
def spec_l30Table_k11 : C :=
 .seq (.seq (.reg false [.V 98 (.mv (.t 8)), .V 99 (.lens (.t 98)), .V 100 (.bin .gtr (.t 99) (.c (.int .i64 0))), .V 101 (.mv (.t 100)), .G 102 (.mv (.t 8)) 3 true, .G 103 (.mv (.t 8)) 3 true, .G 104 (.lens (.t 103)) 3 true, .G 105 (.bin .sub (.t 104) (.c (.int .i64 1))) 3 true, .G 106 (.ix (.t 102) (.t 105)) 3 true, .G 107 (.bin .eql (.t 106) (.c (.int .u8 32))) 3 true, .V 108 (.pick (.t 101) (.t 107) (.c (.bool false)))] [0, 3, 6, 7, 8, 108] [3, 6]) (.cond (.t 108) .skip (.exit 10))) (.block 11 (.reg false [.V 109 (.mv (.t 8)), .V 110 (.mv (.t 8)), .V 111 (.lens (.t 110)), .V 112 (.bin .sub (.t 111) (.c (.int .i64 1))), .V 113 (.slcs (.t 109) none (some (.t 112))), .V 8 (.asg (.t 113))] [0, 3, 6, 7, 8] [3, 6]))
def spec_l30Table_k12 : C :=
 .norm [0, 3, 6, 7, 8] [3, 6] spec_l30Table_k11
def spec_l30Table_k13 : C :=
 .reg false [.V 114 (.mv (.t 6)), .V 115 (.mv (.t 8)), .V 116 (.bsl 1 (.str []) 1 [(0, .t 115)]), .W 117 (.app 1 16 (.t 114) (.t 116)), .W 6 (.asg (.t 117))] [0, 3, 6, 7] [3, 6]
def spec_l30Table_k14 : C :=
 .seq (.block 10 (.loop spec_l30Table_k12)) spec_l30Table_k13
def spec_l30Table_k15 : C :=
 .reg false [.V 56 (.mv (.t 7)), .V 57 (.bin .add (.t 56) (.c (.int .i64 1))), .V 7 (.asg (.t 57))] [0, 3, 6, 7] [3, 6]
def spec_l30Table_k16 : C :=
 .seq (.seq (.reg false [.V 52 (.mv (.t 7)), .V 53 (.mv (.t 0)), .V 54 (.len (.t 53)), .V 55 (.bin .lss (.t 52) (.t 54))] [0, 3, 6, 7, 55] [3, 6]) (.cond (.t 55) .skip (.exit 4))) (.seq (.block 5 (.seq (.reg false [.V 8 (.asg (.c (.str [])))] [0, 3, 6, 7, 8] [3, 6]) (.seq (.seq (.reg false [.V 9 (.asg (.c (.int .i64 0)))] [0, 3, 6, 7, 8, 9] [3, 6]) (.block 6 (.loop spec_l30Table_k10))) spec_l30Table_k14))) spec_l30Table_k15)
def spec_l30Table_k17 : C :=
 .norm [0, 3, 6, 7] [3, 6] spec_l30Table_k16
def spec_l30Table_k18 : C :=
 .seq (.reg false [.V 118 (.mv (.t 6)), .W 2 (.asg (.t 118))] [2] [2, 6]) .ret
def spec_l30Table_k19 : C :=
 .seq (.reg false [.V 51 (.bsl 1 (.str []) 0 []), .W 6 (.asg (.t 51))] [0, 3, 6] [3, 6]) (.seq (.seq (.reg false [.V 7 (.asg (.c (.int .i64 0)))] [0, 3, 6, 7] [3, 6]) (.block 4 (.loop spec_l30Table_k17))) spec_l30Table_k18)
def spec_l30Table_ir : Fn := { np := 1, io := [], res := [.t 2], own := [true], body :=
 (.seq (.reg false [.W 2 (.asg (.c (.nils 1)))] [0] []) (.seq (.reg false [.V 11 (.mks 1 8 (.int .i64 0) (.c (.int .i64 12)) (.c (.int .i64 12))), .W 3 (.asg (.t 11))] [0, 3] [3]) (.seq (.seq (.reg false [.V 4 (.asg (.c (.int .i64 0)))] [0, 3, 4] [3]) (.block 0 (.loop spec_l30Table_k4))) spec_l30Table_k19))) }
noncomputable def spec_l30Table_D : List (Nat × Callee) := []
def spec_l30Table_H : List (Nat × ET) := [(2, (.one .str)), (3, (.one (.int .i64))), (6, (.one .str)), (11, (.one (.int .i64))), (13, (.one (.sl (.one .str)))), (19, (.one (.sl (.one .str)))), (22, (.one .str)), (27, (.one (.sl (.one .str)))), (30, (.one .str)), (35, (.one (.int .i64))), (40, (.one (.int .i64))), (42, (.one (.sl (.one .str)))), (45, (.one .str)), (51, (.one .str)), (53, (.one (.sl (.one .str)))), (59, (.one (.sl (.one .str)))), (62, (.one .str)), (72, (.one (.sl (.one .str)))), (75, (.one .str)), (80, (.one (.sl (.one .str)))), (83, (.one .str)), (89, (.one (.int .i64))), (114, (.one .str)), (116, (.one .str)), (117, (.one .str)), (118, (.one .str))]
noncomputable def spec_l30Table_c : Callee := mkCallee spec_l30Table_D spec_l30Table_H spec_l30Table_ir [.d (.one (.sl (.one (.sl (.one .str)))))] [.tok (.one .str)] []
noncomputable def spec_l30Table (a0 : List (List (List UInt8))) : Option (List (List UInt8)) := spec_l30Table_c.f (a0, ())
noncomputable def spec_l30Table_p0  (v0 : List (List (List UInt8))) (v3n : Nat) (v4 : Int) (r3 : List Int) : Option (List (List UInt8)) :=
 goL spec_l30Table_D spec_l30Table_H (vleave spec_l30Table_ir [.d (.one (.sl (.one (.sl (.one .str)))))] [.tok (.one .str)] [] []) [.c spec_l30Table_k3, .l spec_l30Table_k4, .e 0, .c spec_l30Table_k19]
  ⟨[(0, .sl (.one (.sl (.one .str))) v0), (3, .view 3 0 v3n), (4, .int .i64 v4)], [(3, some (.sl (.one (.int .i64)) r3))]⟩
noncomputable def spec_l30Table_p1  (v0 : List (List (List UInt8))) (v3n : Nat) (v4 : Int) (v5 : Int) (r3 : List Int) : Option (List (List UInt8)) :=
 goL spec_l30Table_D spec_l30Table_H (vleave spec_l30Table_ir [.d (.one (.sl (.one (.sl (.one .str)))))] [.tok (.one .str)] [] []) [.c spec_l30Table_k0, .l spec_l30Table_k1, .e 2, .e 1, .c spec_l30Table_k2, .l spec_l30Table_k4, .e 0, .c spec_l30Table_k19]
  ⟨[(0, .sl (.one (.sl (.one .str))) v0), (3, .view 3 0 v3n), (4, .int .i64 v4), (5, .int .i64 v5)], [(3, some (.sl (.one (.int .i64)) r3))]⟩
noncomputable def spec_l30Table_p2  (v0 : List (List (List UInt8))) (v3n : Nat) (v7 : Int) (r3 : List Int) (r6 : List (List UInt8)) : Option (List (List UInt8)) :=
 goL spec_l30Table_D spec_l30Table_H (vleave spec_l30Table_ir [.d (.one (.sl (.one (.sl (.one .str)))))] [.tok (.one .str)] [] []) [.c spec_l30Table_k16, .l spec_l30Table_k17, .e 4, .c spec_l30Table_k18]
  ⟨[(0, .sl (.one (.sl (.one .str))) v0), (3, .view 3 0 v3n), (6, .view 6 0 r6.length), (7, .int .i64 v7)], [(3, some (.sl (.one (.int .i64)) r3)), (6, some (.sl (.one .str) r6))]⟩
noncomputable def spec_l30Table_p3  (v0 : List (List (List UInt8))) (v3n : Nat) (v7 : Int) (v8 : List UInt8) (v9 : Int) (r3 : List Int) (r6 : List (List UInt8)) : Option (List (List UInt8)) :=
 goL spec_l30Table_D spec_l30Table_H (vleave spec_l30Table_ir [.d (.one (.sl (.one (.sl (.one .str)))))] [.tok (.one .str)] [] []) [.c spec_l30Table_k9, .l spec_l30Table_k10, .e 6, .c spec_l30Table_k14, .e 5, .c spec_l30Table_k15, .l spec_l30Table_k17, .e 4, .c spec_l30Table_k18]
  ⟨[(0, .sl (.one (.sl (.one .str))) v0), (3, .view 3 0 v3n), (6, .view 6 0 r6.length), (7, .int .i64 v7), (8, .str v8), (9, .int .i64 v9)], [(3, some (.sl (.one (.int .i64)) r3)), (6, some (.sl (.one .str) r6))]⟩
noncomputable def spec_l30Table_p4  (v0 : List (List (List UInt8))) (v3n : Nat) (v7 : Int) (v8 : List UInt8) (v9 : Int) (r3 : List Int) (r6 : List (List UInt8)) : Option (List (List UInt8)) :=
 goL spec_l30Table_D spec_l30Table_H (vleave spec_l30Table_ir [.d (.one (.sl (.one (.sl (.one .str)))))] [.tok (.one .str)] [] []) [.c spec_l30Table_k7, .e 7, .c spec_l30Table_k8, .l spec_l30Table_k10, .e 6, .c spec_l30Table_k14, .e 5, .c spec_l30Table_k15, .l spec_l30Table_k17, .e 4, .c spec_l30Table_k18]
  ⟨[(0, .sl (.one (.sl (.one .str))) v0), (3, .view 3 0 v3n), (6, .view 6 0 r6.length), (7, .int .i64 v7), (8, .str v8), (9, .int .i64 v9)], [(3, some (.sl (.one (.int .i64)) r3)), (6, some (.sl (.one .str) r6))]⟩
noncomputable def spec_l30Table_p5  (v0 : List (List (List UInt8))) (v3n : Nat) (v7 : Int) (v8 : List UInt8) (r3 : List Int) (r6 : List (List UInt8)) : Option (List (List UInt8)) :=
 goL spec_l30Table_D spec_l30Table_H (vleave spec_l30Table_ir [.d (.one (.sl (.one (.sl (.one .str)))))] [.tok (.one .str)] [] []) [.c spec_l30Table_k11, .l spec_l30Table_k12, .e 10, .c spec_l30Table_k13, .e 5, .c spec_l30Table_k15, .l spec_l30Table_k17, .e 4, .c spec_l30Table_k18]
  ⟨[(0, .sl (.one (.sl (.one .str))) v0), (3, .view 3 0 v3n), (6, .view 6 0 r6.length), (7, .int .i64 v7), (8, .str v8)], [(3, some (.sl (.one (.int .i64)) r3)), (6, some (.sl (.one .str) r6))]⟩
noncomputable def spec_l30Table_p6  (v0 : List (List (List UInt8))) (v3n : Nat) (v7 : Int) (v8 : List UInt8) (v9 : Int) (v10 : Int) (r3 : List Int) (r6 : List (List UInt8)) : Option (List (List UInt8)) :=
 goL spec_l30Table_D spec_l30Table_H (vleave spec_l30Table_ir [.d (.one (.sl (.one (.sl (.one .str)))))] [.tok (.one .str)] [] []) [.c spec_l30Table_k5, .l spec_l30Table_k6, .e 8, .e 7, .c spec_l30Table_k8, .l spec_l30Table_k10, .e 6, .c spec_l30Table_k14, .e 5, .c spec_l30Table_k15, .l spec_l30Table_k17, .e 4, .c spec_l30Table_k18]
  ⟨[(0, .sl (.one (.sl (.one .str))) v0), (3, .view 3 0 v3n), (6, .view 6 0 r6.length), (7, .int .i64 v7), (8, .str v8), (9, .int .i64 v9), (10, .int .i64 v10)], [(3, some (.sl (.one (.int .i64)) r3)), (6, some (.sl (.one .str) r6))]⟩
theorem spec_l30Table_eq (a0 : List (List (List UInt8))) : spec_l30Table a0 =
  spec_l30Table_p0 a0 12 0 [0, 0, 0, 0, 0, 0, 0, 0, 0, 0, 0, 0] :=
 (mk_f _ _ _ _ _ _ _ 4000).trans (by kernel_rfl)
theorem spec_l30Table_p0_eq  (v0 : List (List (List UInt8))) (v3n : Nat) (v4 : Int) (r3 : List Int) : spec_l30Table_p0 v0 v3n v4 r3 =
  if decide (v4 < (v0.length : Int)) then
   spec_l30Table_p1 v0 v3n v4 0 r3
  else
   spec_l30Table_p2 v0 v3n 0 r3 [] :=
 (goL_dn _ _ _ 4000 _ _).trans (by kernel_rfl)
theorem spec_l30Table_p1_eq  (v0 : List (List (List UInt8))) (v3n : Nat) (v4 : Int) (v5 : Int) (r3 : List Int) : spec_l30Table_p1 v0 v3n v4 v5 r3 =
  if decide (0 ≤ v4) then
   (v0[v4.toNat]?).bind fun x1 =>
    if decide (v5 < (x1.length : Int)) then
     if decide (0 ≤ v4) then
      (v0[v4.toNat]?).bind fun x2 =>
       if decide (0 ≤ v5) then
        (x2[v5.toNat]?).bind fun x3 =>
         if decide (0 ≤ v5) && decide (v5 < (v3n : Int)) then
          (r3[v5.toNat]?).bind fun x4 =>
           if decide ((x3.length : Int) > x4) then
            if decide (0 ≤ v4) then
             (v0[v4.toNat]?).bind fun x5 =>
              if decide (0 ≤ v5) then
               (x5[v5.toNat]?).bind fun x6 =>
                if decide (0 ≤ v5) && decide (v5 < (v3n : Int)) then
                 (r3[v5.toNat]?).bind fun x7 =>
                  spec_l30Table_p1 v0 v3n v4 (IntKind.i64.wrap (v5 + 1)) (r3.set v5.toNat (x6.length : Int))
                else
                 none
              else
               none
            else
             none
           else
            spec_l30Table_p1 v0 v3n v4 (IntKind.i64.wrap (v5 + 1)) r3
         else
          none
       else
        none
     else
      none
    else
     spec_l30Table_p0 v0 v3n (IntKind.i64.wrap (v4 + 1)) r3
  else
   none :=
 (goL_dn _ _ _ 4000 _ _).trans (by kernel_rfl)
theorem spec_l30Table_p2_eq  (v0 : List (List (List UInt8))) (v3n : Nat) (v7 : Int) (r3 : List Int) (r6 : List (List UInt8)) : spec_l30Table_p2 v0 v3n v7 r3 r6 =
  if decide (v7 < (v0.length : Int)) then
   spec_l30Table_p3 v0 v3n v7 [] 0 r3 r6
  else
   some (r6.take r6.length) :=
 (goL_dn _ _ _ 4000 _ _).trans (by kernel_rfl)
theorem spec_l30Table_p3_eq  (v0 : List (List (List UInt8))) (v3n : Nat) (v7 : Int) (v8 : List UInt8) (v9 : Int) (r3 : List Int) (r6 : List (List UInt8)) : spec_l30Table_p3 v0 v3n v7 v8 v9 r3 r6 =
  if decide (0 ≤ v7) then
   (v0[v7.toNat]?).bind fun x1 =>
    if decide (v9 < (x1.length : Int)) then
     if decide (v9 > 0) then
      if decide (v8.length + [32, 32].length ≤ strMax) then
       spec_l30Table_p4 v0 v3n v7 (v8 ++ [32, 32]) v9 r3 r6
      else
       none
     else
      spec_l30Table_p4 v0 v3n v7 v8 v9 r3 r6
    else
     spec_l30Table_p5 v0 v3n v7 v8 r3 r6
  else
   none :=
 (goL_dn _ _ _ 4000 _ _).trans (by kernel_rfl)
theorem spec_l30Table_p4_eq  (v0 : List (List (List UInt8))) (v3n : Nat) (v7 : Int) (v8 : List UInt8) (v9 : Int) (r3 : List Int) (r6 : List (List UInt8)) : spec_l30Table_p4 v0 v3n v7 v8 v9 r3 r6 =
  if decide (0 ≤ v7) then
   (v0[v7.toNat]?).bind fun x1 =>
    if decide (0 ≤ v9) then
     (x1[v9.toNat]?).bind fun x2 =>
      if decide (v8.length + x2.length ≤ strMax) then
       if decide (0 ≤ v7) then
        (v0[v7.toNat]?).bind fun x3 =>
         if decide (0 ≤ v9) then
          (x3[v9.toNat]?).bind fun x4 =>
           spec_l30Table_p6 v0 v3n v7 (v8 ++ x2) v9 (x4.length : Int) r3 r6
         else
          none
       else
        none
      else
       none
    else
     none
  else
   none :=
 (goL_dn _ _ _ 4000 _ _).trans (by kernel_rfl)
theorem spec_l30Table_p5_eq  (v0 : List (List (List UInt8))) (v3n : Nat) (v7 : Int) (v8 : List UInt8) (r3 : List Int) (r6 : List (List UInt8)) : spec_l30Table_p5 v0 v3n v7 v8 r3 r6 =
  if decide ((v8.length : Int) > 0) then
   if decide (0 ≤ IntKind.i64.wrap ((v8.length : Int) - 1)) then
    (v8[(IntKind.i64.wrap ((v8.length : Int) - 1)).toNat]?).bind fun x1 =>
     if ((x1.toNat : Int) == 32) then
      if decide (0 ≤ IntKind.i64.wrap ((v8.length : Int) - 1)) && decide (IntKind.i64.wrap ((v8.length : Int) - 1) ≤ (v8.length : Int)) then
       spec_l30Table_p5 v0 v3n v7 (v8.take ((IntKind.i64.wrap ((v8.length : Int) - 1)).toNat)) r3 r6
      else
       none
     else
      if decide (r6.length + 1 < lim) then
       spec_l30Table_p2 v0 v3n (IntKind.i64.wrap (v7 + 1)) r3 ((r6.take r6.length) ++ [v8])
      else
       none
   else
    none
  else
   if decide (r6.length + 1 < lim) then
    spec_l30Table_p2 v0 v3n (IntKind.i64.wrap (v7 + 1)) r3 ((r6.take r6.length) ++ [v8])
   else
    none :=
 (goL_dn _ _ _ 4000 _ _).trans (by kernel_rfl)
theorem spec_l30Table_p6_eq  (v0 : List (List (List UInt8))) (v3n : Nat) (v7 : Int) (v8 : List UInt8) (v9 : Int) (v10 : Int) (r3 : List Int) (r6 : List (List UInt8)) : spec_l30Table_p6 v0 v3n v7 v8 v9 v10 r3 r6 =
  if decide (0 ≤ v9) && decide (v9 < (v3n : Int)) then
   (r3[v9.toNat]?).bind fun x1 =>
    if decide (v10 < x1) then
     if decide (v8.length + [32].length ≤ strMax) then
      spec_l30Table_p6 v0 v3n v7 (v8 ++ [32]) v9 (IntKind.i64.wrap (v10 + 1)) r3 r6
     else
      none
    else
     spec_l30Table_p3 v0 v3n v7 v8 (IntKind.i64.wrap (v9 + 1)) r3 r6
  else
   none :=
 (goL_dn _ _ _ 4000 _ _).trans (by kernel_rfl)

/- spec.l30Line -/
def spec_l30Line_k0 : C :=
 .seq (.seq (.reg false [.V 4 (.mv (.t 3)), .V 5 (.mv (.t 0)), .V 6 (.lens (.t 5)), .V 7 (.bin .lss (.t 4) (.t 6))] [0, 3, 7] []) (.cond (.t 7) .skip (.exit 0))) (.seq (.block 1 (.seq (.reg false [.V 10 (.mv (.t 0)), .V 11 (.mv (.t 3)), .V 12 (.ix (.t 10) (.t 11)), .V 13 (.bin .lss (.t 12) (.c (.int .u8 32))), .V 14 (.mv (.t 13)), .G 15 (.mv (.t 0)) 4 false, .G 16 (.mv (.t 3)) 4 false, .G 17 (.ix (.t 15) (.t 16)) 4 false, .G 18 (.bin .gtr (.t 17) (.c (.int .u8 126))) 4 false, .V 19 (.pick (.t 14) (.c (.bool true)) (.t 18))] [0, 3, 19] []) (.cond (.t 19) (.seq (.reg false [.V 2 (.asg (.c (.bool false)))] [2] []) .ret) .skip))) (.reg false [.V 8 (.mv (.t 3)), .V 9 (.bin .add (.t 8) (.c (.int .i64 1))), .V 3 (.asg (.t 9))] [0, 3] []))
def spec_l30Line_k1 : C :=
 .norm [0, 3] [] spec_l30Line_k0
def spec_l30Line_k2 : C :=
 .seq (.reg false [.V 20 (.mv (.t 0)), .V 21 (.lens (.t 20)), .V 22 (.bin .leq (.t 21) (.c (.int .i64 100))), .V 2 (.asg (.t 22))] [2] []) .ret
def spec_l30Line_ir : Fn := { np := 1, io := [], res := [.t 2], own := [false], body :=
 (.seq (.reg false [.V 2 (.asg (.c (.bool false)))] [0] []) (.seq (.seq (.reg false [.V 3 (.asg (.c (.int .i64 0)))] [0, 3] []) (.block 0 (.loop spec_l30Line_k1))) spec_l30Line_k2)) }
noncomputable def spec_l30Line_D : List (Nat × Callee) := []
def spec_l30Line_H : List (Nat × ET) := []
noncomputable def spec_l30Line_c : Callee := mkCallee spec_l30Line_D spec_l30Line_H spec_l30Line_ir [.d (.one .str)] [.d (.one .bool)] []
noncomputable def spec_l30Line (a0 : List UInt8) : Option (Bool) := spec_l30Line_c.f (a0, ())
noncomputable def spec_l30Line_p0  (v0 : List UInt8) (v3 : Int) : Option (Bool) :=
 goL spec_l30Line_D spec_l30Line_H (vleave spec_l30Line_ir [.d (.one .str)] [.d (.one .bool)] [] []) [.c spec_l30Line_k0, .l spec_l30Line_k1, .e 0, .c spec_l30Line_k2]
  ⟨[(0, .str v0), (3, .int .i64 v3)], []⟩
theorem spec_l30Line_eq (a0 : List UInt8) : spec_l30Line a0 =
  spec_l30Line_p0 a0 0 :=
 (mk_f _ _ _ _ _ _ _ 4000).trans (by kernel_rfl)
theorem spec_l30Line_p0_eq  (v0 : List UInt8) (v3 : Int) : spec_l30Line_p0 v0 v3 =
  if decide (v3 < (v0.length : Int)) then
   if decide (0 ≤ v3) then
    (v0[v3.toNat]?).bind fun x1 =>
     if decide ((x1.toNat : Int) < 32) then
      some false
     else
      if decide (0 ≤ v3) then
       (v0[v3.toNat]?).bind fun x2 =>
        if decide ((x2.toNat : Int) > 126) then
         some false
        else
         spec_l30Line_p0 v0 (IntKind.i64.wrap (v3 + 1))
      else
       none
   else
    none
  else
   some (decide ((v0.length : Int) ≤ 100)) :=
 (goL_dn _ _ _ 4000 _ _).trans (by kernel_rfl)

/- spec.l30Ok -/
def spec_l30Ok_k0 : C :=
 .seq (.seq (.reg false [.V 4 (.mv (.t 3)), .V 5 (.mv (.t 0)), .V 6 (.len (.t 5)), .V 7 (.bin .lss (.t 4) (.t 6))] [0, 3, 7] []) (.cond (.t 7) .skip (.exit 0))) (.seq (.block 1 (.seq (.reg false [.V 10 (.mv (.t 0)), .V 11 (.mv (.t 3)), .V 12 (.ia 1 (.t 10) (.t 11)), .V 13 (.ld none (.t 12)), .V 14 (.call (.c (.fn 988 [])) [.t 13]), .V 15 (.un .not (.t 14))] [0, 3, 15] []) (.cond (.t 15) (.seq (.reg false [.V 2 (.asg (.c (.bool false)))] [2] []) .ret) .skip))) (.reg false [.V 8 (.mv (.t 3)), .V 9 (.bin .add (.t 8) (.c (.int .i64 1))), .V 3 (.asg (.t 9))] [0, 3] []))
def spec_l30Ok_k1 : C :=
 .norm [0, 3] [] spec_l30Ok_k0
def spec_l30Ok_k2 : C :=
 .seq (.reg false [.V 16 (.mv (.t 0)), .V 17 (.len (.t 16)), .V 18 (.bin .leq (.t 17) (.c (.int .i64 200))), .V 2 (.asg (.t 18))] [2] []) .ret
def spec_l30Ok_ir : Fn := { np := 1, io := [], res := [.t 2], own := [false], body :=
 (.seq (.reg false [.V 2 (.asg (.c (.bool false)))] [0] []) (.seq (.seq (.reg false [.V 3 (.asg (.c (.int .i64 0)))] [0, 3] []) (.block 0 (.loop spec_l30Ok_k1))) spec_l30Ok_k2)) }
noncomputable def spec_l30Ok_D : List (Nat × Callee) := [(988, spec_l30Line_c)]
def spec_l30Ok_H : List (Nat × ET) := [(5, (.one .str)), (10, (.one .str)), (16, (.one .str))]
noncomputable def spec_l30Ok_c : Callee := mkCallee spec_l30Ok_D spec_l30Ok_H spec_l30Ok_ir [.d (.one (.sl (.one .str)))] [.d (.one .bool)] []
noncomputable def spec_l30Ok (a0 : List (List UInt8)) : Option (Bool) := spec_l30Ok_c.f (a0, ())
noncomputable def spec_l30Ok_p0  (v0 : List (List UInt8)) (v3 : Int) : Option (Bool) :=
 goL spec_l30Ok_D spec_l30Ok_H (vleave spec_l30Ok_ir [.d (.one (.sl (.one .str)))] [.d (.one .bool)] [] []) [.c spec_l30Ok_k0, .l spec_l30Ok_k1, .e 0, .c spec_l30Ok_k2]
  ⟨[(0, .sl (.one .str) v0), (3, .int .i64 v3)], []⟩
theorem spec_l30Ok_eq (a0 : List (List UInt8)) : spec_l30Ok a0 =
  spec_l30Ok_p0 a0 0 :=
 (mk_f _ _ _ _ _ _ _ 4000).trans (by kernel_rfl)
theorem spec_l30Ok_p0_eq  (v0 : List (List UInt8)) (v3 : Int) : spec_l30Ok_p0 v0 v3 =
  if decide (v3 < (v0.length : Int)) then
   if decide (0 ≤ v3) then
    (v0[v3.toNat]?).bind fun x1 =>
     (spec_l30Line x1).bind fun x2 =>
      if (!x2) then
       some false
      else
       spec_l30Ok_p0 v0 (IntKind.i64.wrap (v3 + 1))
   else
    none
  else
   some (decide ((v0.length : Int) ≤ 200)) :=
 (goL_dn _ _ _ 4000 _ _).trans (by kernel_rfl)

/- spec.l30Done -/
def spec_l30Done_ir : Fn := { np := 1, io := [], res := [.t 2, .t 3], own := [false, false], body :=
 (.seq (.reg false [.W 2 (.asg (.c (.nils 1))), .V 3 (.asg (.c (.int .i64 0)))] [0] []) (.seq (.seq (.reg false [.V 4 (.mv (.t 0)), .V 5 (.call (.c (.fn 822 [])) [.t 4]), .V 6 (.un .not (.t 5))] [0, 6] []) (.cond (.t 6) (.seq (.reg false [.W 2 (.asg (.c (.nils 1))), .V 3 (.asg (.c (.int .i64 5)))] [2, 3] [2]) .ret) .skip)) (.seq (.reg false [.V 7 (.mv (.t 0)), .W 2 (.asg (.t 7)), .V 3 (.asg (.c (.int .i64 0)))] [2, 3] [2]) .ret))) }
noncomputable def spec_l30Done_D : List (Nat × Callee) := [(822, spec_l30Ok_c)]
def spec_l30Done_H : List (Nat × ET) := [(2, (.one .str)), (4, (.one .str)), (7, (.one .str))]
noncomputable def spec_l30Done_c : Callee := mkCallee spec_l30Done_D spec_l30Done_H spec_l30Done_ir [.d (.one (.sl (.one .str)))] [.d (.one (.sl (.one .str))), .d (.one (.int .i64))] []
noncomputable def spec_l30Done (a0 : List (List UInt8)) : Option (List (List UInt8) × Int) := spec_l30Done_c.f (a0, ())
theorem spec_l30Done_eq (a0 : List (List UInt8)) : spec_l30Done a0 =
  (spec_l30Ok a0).bind fun x1 =>
   if (!x1) then
    some ([], 5)
   else
    some (a0, 0) :=
 (mk_f _ _ _ _ _ _ _ 4000).trans (by kernel_rfl)

/- spec.PotReport -/
def spec_PotReport_k0 : C :=
 .seq (.seq (.reg false [.V 12 (.mv (.t 5)), .V 13 (.mv (.t 0)), .V 14 (.len (.t 13)), .V 15 (.bin .lss (.t 12) (.t 14))] [0, 4, 5, 15] [4]) (.cond (.t 15) .skip (.exit 0))) (.seq (.block 1 (.seq (.reg false [.V 18 (.mv (.t 0)), .V 19 (.mv (.t 5)), .V 20 (.ia 5 (.t 18) (.t 19)), .V 6 (.asg (.t 20))] [0, 4, 5, 6] [4]) (.reg true [.V 21 (.mv (.t 4)), .V 22 (.mv (.t 6)), .V 23 (.nilck (.t 22)), .V 24 (.fa 0 (.t 23)), .V 25 (.ld none (.t 24)), .V 26 (.mv (.t 6)), .V 27 (.nilck (.t 26)), .V 28 (.fa 1 (.t 27)), .V 29 (.ld none (.t 28)), .V 30 (.call (.c (.fn 726 [])) [.t 29]), .V 31 (.mv (.t 6)), .V 32 (.nilck (.t 31)), .V 33 (.fa 2 (.t 32)), .V 34 (.ld none (.t 33)), .V 35 (.call (.c (.fn 726 [])) [.t 34]), .V 36 (.mv (.t 6)), .V 37 (.call (.c (.fn 50 [])) [.t 36]), .V 38 (.call (.c (.fn 746 [])) [.t 37, .c (.int .i64 1)]), .V 39 (.bsl 1 (.str []) 4 [(0, .t 25), (1, .t 30), (2, .t 35), (3, .t 38)]), ⟨some 40, true, .bsl 1 (.sl 1 []) 1 [(0, .t 39)], none, false, [4]⟩, .W 41 (.app 1 24 (.t 21) (.t 40)), .W 4 (.asg (.t 41))] [0, 4, 5] [4]))) (.reg false [.V 16 (.mv (.t 5)), .V 17 (.bin .add (.t 16) (.c (.int .i64 1))), .V 5 (.asg (.t 17))] [0, 4, 5] [4]))
def spec_PotReport_k1 : C :=
 .norm [0, 4, 5] [4] spec_PotReport_k0
def spec_PotReport_k2 : C :=
 .seq (.reg false [.V 42 (.mv (.t 4)), .V 43 (.call (.c (.fn 627 [])) [.t 42]), .W 44 (.call (.c (.fn 516 [])) [.t 43]), .V 45 (.ext (.t 44) 0), .V 46 (.ext (.t 44) 1), .W 2 (.asg (.t 45)), .V 3 (.asg (.t 46))] [2, 3] [2]) .ret
def spec_PotReport_ir : Fn := { np := 1, io := [], res := [.t 2, .t 3], own := [false, false], body :=
 (.seq (.reg false [.W 2 (.asg (.c (.nils 1))), .V 3 (.asg (.c (.int .i64 0)))] [0] []) (.seq (.seq (.reg false [.V 7 (.mv (.t 0)), .V 8 (.call (.c (.fn 53 [])) [.t 7]), .V 9 (.un .not (.t 8))] [0, 9] []) (.cond (.t 9) (.seq (.reg false [.W 2 (.asg (.c (.nils 1))), .V 3 (.asg (.c (.int .i64 1)))] [2, 3] [2]) .ret) .skip)) (.seq (.reg false [.V 10 (.bsl 1 (.str []) 4 [(0, .c (.str [112, 111, 116])), (1, .c (.str [100, 114, 121])), (2, .c (.str [119, 97, 116, 101, 114])), (3, .c (.str [115, 116, 114, 101, 110, 103, 116, 104]))]), .W 11 (.bsl 1 (.sl 1 []) 1 [(0, .t 10)]), .W 4 (.asg (.t 11))] [0, 4] [4]) (.seq (.seq (.reg false [.V 5 (.asg (.c (.int .i64 0)))] [0, 4, 5] [4]) (.block 0 (.loop spec_PotReport_k1))) spec_PotReport_k2)))) }
noncomputable def spec_PotReport_D : List (Nat × Callee) := [(50, spec_l14Strong_c), (53, spec_l14Ok_c), (516, spec_l30Done_c), (627, spec_l30Table_c), (726, spec_l01Dec_c), (746, spec_l02Fixed_c)]
def spec_PotReport_H : List (Nat × ET) := [(2, (.one .str)), (4, (.one (.sl (.one .str)))), (7, T_Pot), (10, (.one .str)), (11, (.one (.sl (.one .str)))), (13, T_Pot), (18, T_Pot), (21, (.one (.sl (.one .str)))), (39, (.one .str)), (40, (.one (.sl (.one .str)))), (41, (.one (.sl (.one .str)))), (42, (.one (.sl (.one .str)))), (43, (.one .str)), (45, (.one .str))]
noncomputable def spec_PotReport_c : Callee := mkCallee spec_PotReport_D spec_PotReport_H spec_PotReport_ir [.d (.one (.sl T_Pot))] [.d (.one (.sl (.one .str))), .d (.one (.int .i64))] []
noncomputable def spec_PotReport (a0 : List T_Pot.ty) : Option (List (List UInt8) × Int) := spec_PotReport_c.f (a0, ())
noncomputable def spec_PotReport_p0  (v0 : List T_Pot.ty) (v5 : Int) (r4 : List (List (List UInt8))) : Option (List (List UInt8) × Int) :=
 goL spec_PotReport_D spec_PotReport_H (vleave spec_PotReport_ir [.d (.one (.sl T_Pot))] [.d (.one (.sl (.one .str))), .d (.one (.int .i64))] [] []) [.c spec_PotReport_k0, .l spec_PotReport_k1, .e 0, .c spec_PotReport_k2]
  ⟨[(0, .sl T_Pot v0), (4, .view 4 0 r4.length), (5, .int .i64 v5)], [(4, some (.sl (.one (.sl (.one .str))) r4))]⟩
theorem spec_PotReport_eq (a0 : List T_Pot.ty) : spec_PotReport a0 =
  (spec_l14Ok a0).bind fun x1 =>
   if (!x1) then
    some ([], 1)
   else
    spec_PotReport_p0 a0 0 [[[112, 111, 116], [100, 114, 121], [119, 97, 116, 101, 114], [115, 116, 114, 101, 110, 103, 116, 104]]] :=
 (mk_f _ _ _ _ _ _ _ 4000).trans (by kernel_rfl)
theorem spec_PotReport_p0_eq  (v0 : List T_Pot.ty) (v5 : Int) (r4 : List (List (List UInt8))) : spec_PotReport_p0 v0 v5 r4 =
  if decide (v5 < (v0.length : Int)) then
   if decide (0 ≤ v5) then
    (v0[v5.toNat]?).bind fun x1 =>
     (spec_l01Dec x1.2.1).bind fun x2 =>
      (spec_l01Dec x1.2.2.1).bind fun x3 =>
       (spec_l14Strong x1).bind fun x4 =>
        (spec_l02Fixed x4 1).bind fun x5 =>
         if decide (r4.length + 1 < lim) then
          spec_PotReport_p0 v0 (IntKind.i64.wrap (v5 + 1)) ((r4.take r4.length) ++ [[x1.1, x2, x3, x5]])
         else
          none
   else
    none
  else
   (spec_l30Table (r4.take r4.length)).bind fun x6 =>
    (spec_l30Done x6).bind fun x7 =>
     some (x7.1, x7.2) :=
 (goL_dn _ _ _ 4000 _ _).trans (by kernel_rfl)

/- impl.isDigit -/
def impl_isDigit_ir : Fn := { np := 1, io := [], res := [.t 2], own := [false], body :=
 (.seq (.reg false [.V 2 (.asg (.c (.bool false)))] [0] []) (.seq (.reg false [.V 3 (.mv (.t 0)), .V 4 (.bin .geq (.t 3) (.c (.int .u8 48))), .V 5 (.mv (.t 4)), .G 6 (.mv (.t 0)) 2 true, .G 7 (.bin .leq (.t 6) (.c (.int .u8 57))) 2 true, .V 8 (.pick (.t 5) (.t 7) (.c (.bool false))), .V 2 (.asg (.t 8))] [2] []) .ret)) }
noncomputable def impl_isDigit_D : List (Nat × Callee) := []
def impl_isDigit_H : List (Nat × ET) := []
noncomputable def impl_isDigit_c : Callee := mkCallee impl_isDigit_D impl_isDigit_H impl_isDigit_ir [.d (.one (.int .u8))] [.d (.one .bool)] []
noncomputable def impl_isDigit (a0 : Int) : Option (Bool) := impl_isDigit_c.f (a0, ())
theorem impl_isDigit_eq (a0 : Int) : impl_isDigit a0 =
  if decide (a0 ≥ 48) then
   some (decide (a0 ≤ 57))
  else
   some false :=
 (mk_f _ _ _ _ _ _ _ 4000).trans (by kernel_rfl)

/- impl.few -/
def impl_few_ir : Fn := { np := 2, io := [], res := [.t 4], own := [false], body :=
 (.seq (.reg false [.V 4 (.asg (.c (.bool false)))] [0, 1] []) (.seq (.reg false [.V 5 (.mv (.t 0)), .V 6 (.mv (.t 1)), .V 7 (.bin .leq (.t 5) (.t 6)), .V 4 (.asg (.t 7))] [4] []) .ret)) }
noncomputable def impl_few_D : List (Nat × Callee) := []
def impl_few_H : List (Nat × ET) := []
noncomputable def impl_few_c : Callee := mkCallee impl_few_D impl_few_H impl_few_ir [.d (.one (.int .i64)), .d (.one (.int .i64))] [.d (.one .bool)] []
noncomputable def impl_few (a0 : Int) (a1 : Int) : Option (Bool) := impl_few_c.f (a0, a1, ())
theorem impl_few_eq (a0 : Int) (a1 : Int) : impl_few a0 a1 =
  some (decide (a0 ≤ a1)) :=
 (mk_f _ _ _ _ _ _ _ 4000).trans (by kernel_rfl)

/- impl.IsName -/
def impl_IsName_k0 : C :=
 .seq (.reg false [.V 21 (.mv (.t 4)), .V 22 (.un .not (.t 21)), .V 23 (.mv (.t 22)), .G 24 (.mv (.t 3)) 2 true, .G 25 (.bin .eql (.t 24) (.c (.int .i64 0))) 2 true, .G 26 (.mv (.t 25)) 2 true, .G 27 (.mv (.t 0)) 5 false, .G 28 (.mv (.t 3)) 5 false, .G 29 (.ix (.t 27) (.t 28)) 5 false, .G 30 (.call (.c (.fn 22 [])) [.t 29]) 5 false, .G 31 (.un .not (.t 30)) 5 false, .G 32 (.pick (.t 26) (.c (.bool true)) (.t 31)) 2 true, .V 33 (.pick (.t 23) (.t 32) (.c (.bool false)))] [0, 3, 33] []) (.cond (.t 33) (.seq (.reg false [.V 2 (.asg (.c (.bool false)))] [2] []) .ret) .skip)
def impl_IsName_k1 : C :=
 .reg false [.V 9 (.mv (.t 3)), .V 10 (.bin .add (.t 9) (.c (.int .i64 1))), .V 3 (.asg (.t 10))] [0, 3] []
def impl_IsName_k2 : C :=
 .seq (.seq (.reg false [.V 5 (.mv (.t 3)), .V 6 (.mv (.t 0)), .V 7 (.lens (.t 6)), .V 8 (.bin .lss (.t 5) (.t 7))] [0, 3, 8] []) (.cond (.t 8) .skip (.exit 0))) (.seq (.block 1 (.seq (.reg false [.V 11 (.mv (.t 0)), .V 12 (.mv (.t 3)), .V 13 (.ix (.t 11) (.t 12)), .V 14 (.bin .geq (.t 13) (.c (.int .u8 97))), .V 15 (.mv (.t 14)), .G 16 (.mv (.t 0)) 4 true, .G 17 (.mv (.t 3)) 4 true, .G 18 (.ix (.t 16) (.t 17)) 4 true, .G 19 (.bin .leq (.t 18) (.c (.int .u8 122))) 4 true, .V 20 (.pick (.t 15) (.t 19) (.c (.bool false))), .V 4 (.asg (.t 20))] [0, 3, 4] []) (.norm [0, 3, 4] [] impl_IsName_k0))) impl_IsName_k1)
def impl_IsName_k3 : C :=
 .norm [0, 3] [] impl_IsName_k2
def impl_IsName_k4 : C :=
 .seq (.reg false [.V 34 (.mv (.t 0)), .V 35 (.bin .neq (.t 34) (.c (.str []))), .V 36 (.mv (.t 35)), .G 37 (.mv (.t 0)) 2 true, .G 38 (.lens (.t 37)) 2 true, .G 39 (.call (.c (.fn 21 [])) [.t 38, .c (.int .i64 10)]) 2 true, .V 40 (.pick (.t 36) (.t 39) (.c (.bool false))), .V 2 (.asg (.t 40))] [2] []) .ret
def impl_IsName_ir : Fn := { np := 1, io := [], res := [.t 2], own := [false], body :=
 (.seq (.reg false [.V 2 (.asg (.c (.bool false)))] [0] []) (.seq (.seq (.reg false [.V 3 (.asg (.c (.int .i64 0)))] [0, 3] []) (.block 0 (.loop impl_IsName_k3))) impl_IsName_k4)) }
noncomputable def impl_IsName_D : List (Nat × Callee) := [(21, impl_few_c), (22, impl_isDigit_c)]
def impl_IsName_H : List (Nat × ET) := []
noncomputable def impl_IsName_c : Callee := mkCallee impl_IsName_D impl_IsName_H impl_IsName_ir [.d (.one .str)] [.d (.one .bool)] []
noncomputable def impl_IsName (a0 : List UInt8) : Option (Bool) := impl_IsName_c.f (a0, ())
noncomputable def impl_IsName_p0  (v0 : List UInt8) (v3 : Int) : Option (Bool) :=
 goL impl_IsName_D impl_IsName_H (vleave impl_IsName_ir [.d (.one .str)] [.d (.one .bool)] [] []) [.c impl_IsName_k2, .l impl_IsName_k3, .e 0, .c impl_IsName_k4]
  ⟨[(0, .str v0), (3, .int .i64 v3)], []⟩
noncomputable def impl_IsName_p1  (v0 : List UInt8) (v3 : Int) (v4 : Bool) : Option (Bool) :=
 goL impl_IsName_D impl_IsName_H (vleave impl_IsName_ir [.d (.one .str)] [.d (.one .bool)] [] []) [.c impl_IsName_k0, .e 1, .c impl_IsName_k1, .l impl_IsName_k3, .e 0, .c impl_IsName_k4]
  ⟨[(0, .str v0), (3, .int .i64 v3), (4, .bool v4)], []⟩
theorem impl_IsName_eq (a0 : List UInt8) : impl_IsName a0 =
  impl_IsName_p0 a0 0 :=
 (mk_f _ _ _ _ _ _ _ 4000).trans (by kernel_rfl)
theorem impl_IsName_p0_eq  (v0 : List UInt8) (v3 : Int) : impl_IsName_p0 v0 v3 =
  if decide (v3 < (v0.length : Int)) then
   if decide (0 ≤ v3) then
    (v0[v3.toNat]?).bind fun x1 =>
     if decide ((x1.toNat : Int) ≥ 97) then
      if decide (0 ≤ v3) then
       (v0[v3.toNat]?).bind fun x2 =>
        impl_IsName_p1 v0 v3 (decide ((x2.toNat : Int) ≤ 122))
      else
       none
     else
      impl_IsName_p1 v0 v3 false
   else
    none
  else
   if (!(v0 == [])) then
    (impl_few (v0.length : Int) 10).bind fun x3 =>
     some x3
   else
    some false :=
 (goL_dn _ _ _ 4000 _ _).trans (by kernel_rfl)
theorem impl_IsName_p1_eq  (v0 : List UInt8) (v3 : Int) (v4 : Bool) : impl_IsName_p1 v0 v3 v4 =
  if (!v4) then
   if (v3 == 0) then
    some false
   else
    if decide (0 ≤ v3) then
     (v0[v3.toNat]?).bind fun x1 =>
      (impl_isDigit (x1.toNat : Int)).bind fun x2 =>
       if (!x2) then
        some false
       else
        impl_IsName_p0 v0 (IntKind.i64.wrap (v3 + 1))
    else
     none
  else
   impl_IsName_p0 v0 (IntKind.i64.wrap (v3 + 1)) :=
 (goL_dn _ _ _ 4000 _ _).trans (by kernel_rfl)

/- impl.within -/
def impl_within_ir : Fn := { np := 3, io := [], res := [.t 6], own := [false], body :=
 (.seq (.reg false [.V 6 (.asg (.c (.bool false)))] [0, 1, 2] []) (.seq (.reg false [.V 7 (.mv (.t 1)), .V 8 (.mv (.t 0)), .V 9 (.bin .leq (.t 7) (.t 8)), .V 10 (.mv (.t 9)), .G 11 (.mv (.t 0)) 3 true, .G 12 (.mv (.t 2)) 3 true, .G 13 (.bin .leq (.t 11) (.t 12)) 3 true, .V 14 (.pick (.t 10) (.t 13) (.c (.bool false))), .V 6 (.asg (.t 14))] [6] []) .ret)) }
noncomputable def impl_within_D : List (Nat × Callee) := []
def impl_within_H : List (Nat × ET) := []
noncomputable def impl_within_c : Callee := mkCallee impl_within_D impl_within_H impl_within_ir [.d (.one (.int .i64)), .d (.one (.int .i64)), .d (.one (.int .i64))] [.d (.one .bool)] []
noncomputable def impl_within (a0 : Int) (a1 : Int) (a2 : Int) : Option (Bool) := impl_within_c.f (a0, a1, a2, ())
theorem impl_within_eq (a0 : Int) (a1 : Int) (a2 : Int) : impl_within a0 a1 a2 =
  if decide (a1 ≤ a0) then
   some (decide (a0 ≤ a2))
  else
   some false :=
 (mk_f _ _ _ _ _ _ _ 4000).trans (by kernel_rfl)

/- impl.isGrams -/
def impl_isGrams_ir : Fn := { np := 1, io := [], res := [.t 2], own := [false], body :=
 (.seq (.reg false [.V 2 (.asg (.c (.bool false)))] [0] []) (.seq (.reg false [.V 3 (.mv (.t 0)), .V 4 (.call (.c (.fn 23 [])) [.t 3, .c (.int .i64 1), .c (.int .i64 10000)]), .V 2 (.asg (.t 4))] [2] []) .ret)) }
noncomputable def impl_isGrams_D : List (Nat × Callee) := [(23, impl_within_c)]
def impl_isGrams_H : List (Nat × ET) := []
noncomputable def impl_isGrams_c : Callee := mkCallee impl_isGrams_D impl_isGrams_H impl_isGrams_ir [.d (.one (.int .i64))] [.d (.one .bool)] []
noncomputable def impl_isGrams (a0 : Int) : Option (Bool) := impl_isGrams_c.f (a0, ())
theorem impl_isGrams_eq (a0 : Int) : impl_isGrams a0 =
  (impl_within a0 1 10000).bind fun x1 =>
   some x1 :=
 (mk_f _ _ _ _ _ _ _ 4000).trans (by kernel_rfl)

/- impl.isHeat -/
def impl_isHeat_ir : Fn := { np := 1, io := [], res := [.t 2], own := [false], body :=
 (.seq (.reg false [.V 2 (.asg (.c (.bool false)))] [0] []) (.seq (.reg false [.V 3 (.mv (.t 0)), .V 4 (.call (.c (.fn 23 [])) [.t 3, .c (.int .i64 20), .c (.int .i64 95)]), .V 2 (.asg (.t 4))] [2] []) .ret)) }
noncomputable def impl_isHeat_D : List (Nat × Callee) := [(23, impl_within_c)]
def impl_isHeat_H : List (Nat × ET) := []
noncomputable def impl_isHeat_c : Callee := mkCallee impl_isHeat_D impl_isHeat_H impl_isHeat_ir [.d (.one (.int .i64))] [.d (.one .bool)] []
noncomputable def impl_isHeat (a0 : Int) : Option (Bool) := impl_isHeat_c.f (a0, ())
theorem impl_isHeat_eq (a0 : Int) : impl_isHeat a0 =
  (impl_within a0 20 95).bind fun x1 =>
   some x1 :=
 (mk_f _ _ _ _ _ _ _ 4000).trans (by kernel_rfl)

/- (impl.Pot).valid -/
def impl_Pot_valid_ir : Fn := { np := 1, io := [], res := [.t 2], own := [false], body :=
 (.seq (.reg false [.W 1 (.box 5 (.t 0)), .V 2 (.asg (.c (.bool false)))] [1] [1]) (.seq (.reg false [.V 3 (.fa 0 (.t 1)), .V 4 (.ld none (.t 3)), .V 5 (.call (.c (.fn 24 [])) [.t 4]), .V 6 (.mv (.t 5)), .G 7 (.fa 1 (.t 1)) 3 true, .G 8 (.ld none (.t 7)) 3 true, .G 9 (.call (.c (.fn 25 [])) [.t 8]) 3 true, .V 10 (.pick (.t 6) (.t 9) (.c (.bool false))), .V 11 (.mv (.t 10)), .G 12 (.fa 2 (.t 1)) 8 true, .G 13 (.ld none (.t 12)) 8 true, .G 14 (.call (.c (.fn 25 [])) [.t 13]) 8 true, .V 15 (.pick (.t 11) (.t 14) (.c (.bool false))), .V 16 (.mv (.t 15)), .G 17 (.fa 3 (.t 1)) 13 true, .G 18 (.ld none (.t 17)) 13 true, .G 19 (.call (.c (.fn 26 [])) [.t 18]) 13 true, .V 20 (.pick (.t 16) (.t 19) (.c (.bool false))), .V 21 (.mv (.t 20)), .G 22 (.fa 4 (.t 1)) 18 true, .G 23 (.ld none (.t 22)) 18 true, .G 24 (.call (.c (.fn 23 [])) [.t 23, .c (.int .i64 0), .c (.int .i64 1000)]) 18 true, .V 25 (.pick (.t 21) (.t 24) (.c (.bool false))), .V 2 (.asg (.t 25))] [2] []) .ret)) }
noncomputable def impl_Pot_valid_D : List (Nat × Callee) := [(23, impl_within_c), (24, impl_IsName_c), (25, impl_isGrams_c), (26, impl_isHeat_c)]
def impl_Pot_valid_H : List (Nat × ET) := []
noncomputable def impl_Pot_valid_c : Callee := mkCallee impl_Pot_valid_D impl_Pot_valid_H impl_Pot_valid_ir [.d T_Pot] [.d (.one .bool)] []
noncomputable def impl_Pot_valid (a0 : T_Pot.ty) : Option (Bool) := impl_Pot_valid_c.f (a0, ())
theorem impl_Pot_valid_eq (a0 : T_Pot.ty) : impl_Pot_valid a0 =
  (impl_IsName a0.1).bind fun x1 =>
   if x1 then
    (impl_isGrams a0.2.1).bind fun x2 =>
     if x2 then
      (impl_isGrams a0.2.2.1).bind fun x3 =>
       if x3 then
        (impl_isHeat a0.2.2.2.1).bind fun x4 =>
         if x4 then
          (impl_within a0.2.2.2.2.1 0 1000).bind fun x5 =>
           some x5
         else
          some false
       else
        some false
     else
      some false
   else
    some false :=
 (mk_f _ _ _ _ _ _ _ 4000).trans (by kernel_rfl)

/- impl.ValidPots -/
def impl_ValidPots_k0 : C :=
 .seq (.reg false [.V 8 (.bin .lss (.t 7) (.t 6))] [0, 5, 6, 7, 8] []) (.seq (.cond (.t 8) .skip (.exit 0)) (.seq (.block 1 (.seq (.reg false [.V 9 (.mv (.t 7)), .V 10 (.ia 5 (.t 5) (.t 7)), .V 11 (.ld (some 5) (.t 10)), .W 4 (.alloc 5 (.agg [.str [], .int .i64 0, .int .i64 0, .int .i64 0, .int .i64 0])), .V 3 (.asg (.t 9)), ⟨none, true, .sto 5 (.t 4) (.t 11), none, false, []⟩] [0, 3, 4, 5, 6, 7] [4]) (.seq (.reg true [.V 12 (.ld (some 5) (.t 4)), .V 13 (.call (.c (.fn 30 [])) [.t 12]), .V 14 (.un .not (.t 13)), .V 15 (.mv (.t 14)), .G 16 (.mv (.t 3)) 3 false, .G 17 (.bin .gtr (.t 16) (.c (.int .i64 0))) 3 false, .G 18 (.mv (.t 17)) 3 false, .G 19 (.mv (.t 0)) 6 true, .G 20 (.mv (.t 3)) 6 true, .G 21 (.bin .sub (.t 20) (.c (.int .i64 1))) 6 true, .G 22 (.ia 5 (.t 19) (.t 21)) 6 true, .G 23 (.fa 0 (.t 22)) 6 true, .G 24 (.ld none (.t 23)) 6 true, .G 25 (.fa 0 (.t 4)) 6 true, .G 26 (.ld none (.t 25)) 6 true, .G 27 (.bin .geq (.t 24) (.t 26)) 6 true, .G 28 (.pick (.t 18) (.t 27) (.c (.bool false))) 3 false, .V 29 (.pick (.t 15) (.c (.bool true)) (.t 28))] [0, 5, 6, 7, 29] []) (.cond (.t 29) (.seq (.reg false [.V 2 (.asg (.c (.bool false)))] [2] []) .ret) .skip)))) (.reg false [.V 30 (.bin .add (.t 7) (.c (.int .i64 1))), .V 7 (.mv (.t 30))] [0, 5, 6, 7] [])))
def impl_ValidPots_k1 : C :=
 .norm [0, 5, 6, 7] [] impl_ValidPots_k0
def impl_ValidPots_k2 : C :=
 .seq (.reg false [.V 31 (.mv (.t 0)), .V 32 (.len (.t 31)), .V 33 (.call (.c (.fn 21 [])) [.t 32, .c (.int .i64 8)]), .V 2 (.asg (.t 33))] [2] []) .ret
def impl_ValidPots_ir : Fn := { np := 1, io := [], res := [.t 2], own := [false], body :=
 (.seq (.reg false [.V 2 (.asg (.c (.bool false)))] [0] []) (.seq (.seq (.reg false [.V 5 (.mv (.t 0)), .V 6 (.len (.t 5)), .V 7 (.mv (.c (.int .i64 0)))] [0, 5, 6, 7] []) (.block 0 (.loop impl_ValidPots_k1))) impl_ValidPots_k2)) }
noncomputable def impl_ValidPots_D : List (Nat × Callee) := [(21, impl_few_c), (30, impl_Pot_valid_c)]
def impl_ValidPots_H : List (Nat × ET) := [(5, T_Pot), (19, T_Pot), (31, T_Pot)]
noncomputable def impl_ValidPots_c : Callee := mkCallee impl_ValidPots_D impl_ValidPots_H impl_ValidPots_ir [.d (.one (.sl T_Pot))] [.d (.one .bool)] []
noncomputable def impl_ValidPots (a0 : List T_Pot.ty) : Option (Bool) := impl_ValidPots_c.f (a0, ())
noncomputable def impl_ValidPots_p0  (v0 : List T_Pot.ty) (v5 : List T_Pot.ty) (v6 : Int) (v7 : Int) : Option (Bool) :=
 goL impl_ValidPots_D impl_ValidPots_H (vleave impl_ValidPots_ir [.d (.one (.sl T_Pot))] [.d (.one .bool)] [] []) [.c impl_ValidPots_k0, .l impl_ValidPots_k1, .e 0, .c impl_ValidPots_k2]
  ⟨[(0, .sl T_Pot v0), (5, .sl T_Pot v5), (6, .int .i64 v6), (7, .int .i64 v7)], []⟩
theorem impl_ValidPots_eq (a0 : List T_Pot.ty) : impl_ValidPots a0 =
  impl_ValidPots_p0 a0 a0 (a0.length : Int) 0 :=
 (mk_f _ _ _ _ _ _ _ 4000).trans (by kernel_rfl)
theorem impl_ValidPots_p0_eq  (v0 : List T_Pot.ty) (v5 : List T_Pot.ty) (v6 : Int) (v7 : Int) : impl_ValidPots_p0 v0 v5 v6 v7 =
  if decide (v7 < v6) then
   if decide (0 ≤ v7) then
    (v5[v7.toNat]?).bind fun x1 =>
     (impl_Pot_valid x1).bind fun x2 =>
      if (!x2) then
       some false
      else
       if decide (v7 > 0) then
        if decide (0 ≤ IntKind.i64.wrap (v7 - 1)) then
         (v0[(IntKind.i64.wrap (v7 - 1)).toNat]?).bind fun x3 =>
          if (!Op.bytesLess x3.1 x1.1) then
           some false
          else
           impl_ValidPots_p0 v0 v5 v6 (IntKind.i64.wrap (v7 + 1))
        else
         none
       else
        impl_ValidPots_p0 v0 v5 v6 (IntKind.i64.wrap (v7 + 1))
   else
    none
  else
   (impl_few (v0.length : Int) 8).bind fun x4 =>
    some x4 :=
 (goL_dn _ _ _ 4000 _ _).trans (by kernel_rfl)

/- strconv.FormatInt -/
noncomputable def strconv_FormatInt_c : Callee := formatIntC
noncomputable def strconv_FormatInt (a0 : Int) (a1 : Int) : Option (List UInt8) := strconv_FormatInt_c.f (a0, a1, ())
theorem strconv_FormatInt_eq (a0 : Int) (a1 : Int) : strconv_FormatInt a0 a1 = if decide (a1 = 10) && (decide (-9223372036854775808 ≤ a0) && decide (a0 ≤ 9223372036854775807)) then some (Lib.itoa a0) else none := rfl

/- impl.Decimal -/
def impl_Decimal_ir : Fn := { np := 1, io := [], res := [.t 2], own := [false], body :=
 (.seq (.reg false [.V 2 (.asg (.c (.str [])))] [0] []) (.seq (.reg false [.V 3 (.mv (.t 0)), .V 4 (.call (.c (.fn 864 [])) [.t 3, .c (.int .i64 10)]), .V 2 (.asg (.t 4))] [2] []) .ret)) }
noncomputable def impl_Decimal_D : List (Nat × Callee) := [(864, strconv_FormatInt_c)]
def impl_Decimal_H : List (Nat × ET) := []
noncomputable def impl_Decimal_c : Callee := mkCallee impl_Decimal_D impl_Decimal_H impl_Decimal_ir [.d (.one (.int .i64))] [.d (.one .str)] []
noncomputable def impl_Decimal (a0 : Int) : Option (List UInt8) := impl_Decimal_c.f (a0, ())
theorem impl_Decimal_eq (a0 : Int) : impl_Decimal a0 =
  (strconv_FormatInt a0 10).bind fun x1 =>
   some x1 :=
 (mk_f _ _ _ _ _ _ _ 4000).trans (by kernel_rfl)

/- impl.divRound -/
def impl_divRound_ir : Fn := { np := 2, io := [], res := [.t 4], own := [false], body :=
 (.seq (.reg false [.V 4 (.asg (.c (.int .i64 0)))] [0, 1] []) (.seq (.reg false [.V 8 (.mv (.t 0)), .V 9 (.bin .lss (.t 8) (.c (.int .i64 0))), .V 10 (.mv (.t 1)), .V 11 (.bin .lss (.t 10) (.c (.int .i64 0))), .V 12 (.eqb true (.t 9) (.t 11)), .V 5 (.asg (.t 12))] [0, 1, 5] []) (.seq (.reg false [.V 13 (.mv (.t 0)), .V 14 (.mv (.t 0)), .V 15 (.un .neg (.t 14)), .V 16 (.max [.t 13, .t 15]), .V 17 (.mv (.t 1)), .V 18 (.mv (.t 1)), .V 19 (.un .neg (.t 18)), .V 20 (.max [.t 17, .t 19]), .V 0 (.asg (.t 16)), .V 1 (.asg (.t 20))] [0, 1, 5] []) (.seq (.reg false [.V 21 (.mv (.t 0)), .V 22 (.mv (.t 1)), .V 23 (.bin .quo (.t 21) (.t 22)), .V 6 (.asg (.t 23))] [0, 1, 5, 6] []) (.seq (.seq (.reg false [.V 24 (.mv (.t 0)), .V 25 (.mv (.t 1)), .V 26 (.bin .rem (.t 24) (.t 25)), .V 7 (.asg (.t 26))] [1, 5, 6, 7] []) (.seq (.reg false [.V 27 (.mv (.t 7)), .V 28 (.mv (.t 1)), .V 29 (.mv (.t 7)), .V 30 (.bin .sub (.t 28) (.t 29)), .V 31 (.bin .geq (.t 27) (.t 30))] [5, 6, 31] []) (.cond (.t 31) (.reg false [.V 32 (.mv (.t 6)), .V 33 (.bin .add (.t 32) (.c (.int .i64 1))), .V 6 (.asg (.t 33))] [5, 6] []) .skip))) (.seq (.seq (.reg false [.V 34 (.mv (.t 5))] [6, 34] []) (.cond (.t 34) (.seq (.reg false [.V 35 (.mv (.t 6)), .V 36 (.un .neg (.t 35)), .V 4 (.asg (.t 36))] [4] []) .ret) .skip)) (.seq (.reg false [.V 37 (.mv (.t 6)), .V 4 (.asg (.t 37))] [4] []) .ret))))))) }
noncomputable def impl_divRound_D : List (Nat × Callee) := []
def impl_divRound_H : List (Nat × ET) := []
noncomputable def impl_divRound_c : Callee := mkCallee impl_divRound_D impl_divRound_H impl_divRound_ir [.d (.one (.int .i64)), .d (.one (.int .i64))] [.d (.one (.int .i64))] []
noncomputable def impl_divRound (a0 : Int) (a1 : Int) : Option (Int) := impl_divRound_c.f (a0, a1, ())
theorem impl_divRound_eq (a0 : Int) (a1 : Int) : impl_divRound a0 a1 =
  if decide ((if IntKind.i64.wrap (0 - a1) > a1 then IntKind.i64.wrap (0 - a1) else a1) = 0) then
   none
  else
   if decide ((if IntKind.i64.wrap (0 - a1) > a1 then IntKind.i64.wrap (0 - a1) else a1) = 0) then
    none
   else
    if decide ((if IntKind.i64.wrap (0 - a0) > a0 then IntKind.i64.wrap (0 - a0) else a0).tmod (if IntKind.i64.wrap (0 - a1) > a1 then IntKind.i64.wrap (0 - a1) else a1) ≥ IntKind.i64.wrap ((if IntKind.i64.wrap (0 - a1) > a1 then IntKind.i64.wrap (0 - a1) else a1) - ((if IntKind.i64.wrap (0 - a0) > a0 then IntKind.i64.wrap (0 - a0) else a0).tmod (if IntKind.i64.wrap (0 - a1) > a1 then IntKind.i64.wrap (0 - a1) else a1)))) then
     if (!(decide (a0 < 0) == decide (a1 < 0))) then
      some (IntKind.i64.wrap (0 - (IntKind.i64.wrap ((IntKind.i64.wrap ((if IntKind.i64.wrap (0 - a0) > a0 then IntKind.i64.wrap (0 - a0) else a0).tdiv (if IntKind.i64.wrap (0 - a1) > a1 then IntKind.i64.wrap (0 - a1) else a1))) + 1))))
     else
      some (IntKind.i64.wrap ((IntKind.i64.wrap ((if IntKind.i64.wrap (0 - a0) > a0 then IntKind.i64.wrap (0 - a0) else a0).tdiv (if IntKind.i64.wrap (0 - a1) > a1 then IntKind.i64.wrap (0 - a1) else a1))) + 1))
    else
     if (!(decide (a0 < 0) == decide (a1 < 0))) then
      some (IntKind.i64.wrap (0 - (IntKind.i64.wrap ((if IntKind.i64.wrap (0 - a0) > a0 then IntKind.i64.wrap (0 - a0) else a0).tdiv (if IntKind.i64.wrap (0 - a1) > a1 then IntKind.i64.wrap (0 - a1) else a1)))))
     else
      some (IntKind.i64.wrap ((if IntKind.i64.wrap (0 - a0) > a0 then IntKind.i64.wrap (0 - a0) else a0).tdiv (if IntKind.i64.wrap (0 - a1) > a1 then IntKind.i64.wrap (0 - a1) else a1))) :=
 (mk_f _ _ _ _ _ _ _ 4000).trans (by kernel_rfl)

/- (impl.Pot).strength -/
def impl_Pot_strength_ir : Fn := { np := 1, io := [], res := [.t 2], own := [false], body :=
 (.seq (.reg false [.W 1 (.box 5 (.t 0)), .V 2 (.asg (.c (.int .i64 0)))] [1] [1]) (.seq (.reg true [.V 3 (.fa 1 (.t 1)), .V 4 (.ld none (.t 3)), .V 5 (.bin .mul (.c (.int .i64 1000)) (.t 4)), .V 6 (.fa 1 (.t 1)), .V 7 (.ld none (.t 6)), .V 8 (.fa 2 (.t 1)), .V 9 (.ld none (.t 8)), .V 10 (.bin .add (.t 7) (.t 9)), .V 11 (.call (.c (.fn 27 [])) [.t 5, .t 10]), .V 12 (.fa 4 (.t 1)), .V 13 (.ld none (.t 12)), .V 14 (.bin .mul (.c (.int .i64 2)) (.t 13)), .V 15 (.bin .sub (.t 11) (.t 14)), .V 16 (.fa 3 (.t 1)), .V 17 (.ld none (.t 16)), .V 18 (.bin .sub (.t 17) (.c (.int .i64 70))), .V 19 (.max [.c (.int .i64 0), .t 18]), .V 20 (.bin .mul (.c (.int .i64 10)) (.t 19)), .V 21 (.bin .sub (.t 15) (.t 20)), .V 22 (.max [.c (.int .i64 0), .t 21]), .V 2 (.asg (.t 22))] [2] []) .ret)) }
noncomputable def impl_Pot_strength_D : List (Nat × Callee) := [(27, impl_divRound_c)]
def impl_Pot_strength_H : List (Nat × ET) := []
noncomputable def impl_Pot_strength_c : Callee := mkCallee impl_Pot_strength_D impl_Pot_strength_H impl_Pot_strength_ir [.d T_Pot] [.d (.one (.int .i64))] []
noncomputable def impl_Pot_strength (a0 : T_Pot.ty) : Option (Int) := impl_Pot_strength_c.f (a0, ())
theorem impl_Pot_strength_eq (a0 : T_Pot.ty) : impl_Pot_strength a0 =
  (impl_divRound (IntKind.i64.wrap (1000 * a0.2.1)) (IntKind.i64.wrap (a0.2.1 + a0.2.2.1))).bind fun x1 =>
   some (if IntKind.i64.wrap ((IntKind.i64.wrap (x1 - (IntKind.i64.wrap (2 * a0.2.2.2.2.1)))) - (IntKind.i64.wrap (10 * (if IntKind.i64.wrap (a0.2.2.2.1 - 70) > 0 then IntKind.i64.wrap (a0.2.2.2.1 - 70) else 0)))) > 0 then IntKind.i64.wrap ((IntKind.i64.wrap (x1 - (IntKind.i64.wrap (2 * a0.2.2.2.2.1)))) - (IntKind.i64.wrap (10 * (if IntKind.i64.wrap (a0.2.2.2.1 - 70) > 0 then IntKind.i64.wrap (a0.2.2.2.1 - 70) else 0)))) else 0) :=
 (mk_f _ _ _ _ _ _ _ 4000).trans (by kernel_rfl)

/- strings.Repeat -/
noncomputable def strings_Repeat_c : Callee := repeatC
noncomputable def strings_Repeat (a0 : List UInt8) (a1 : Int) : Option (List UInt8) := strings_Repeat_c.f (a0, a1, ())
theorem strings_Repeat_eq (a0 : List UInt8) (a1 : Int) : strings_Repeat a0 a1 = if decide (0 ≤ a1) && (decide (a1 ≤ 9223372036854775807) && decide (a0.length * a1.toNat ≤ 140737488355328)) then some (Lib.repeatL a0 a1.toNat) else none := rfl

/- impl.padded -/
def impl_padded_ir : Fn := { np := 2, io := [], res := [.t 4], own := [false], body :=
 (.seq (.reg false [.V 4 (.asg (.c (.str [])))] [0, 1] []) (.seq (.reg false [.V 6 (.mv (.t 0)), .V 7 (.call (.c (.fn 524 [])) [.t 6]), .V 5 (.asg (.t 7))] [1, 5] []) (.seq (.reg false [.V 8 (.mv (.t 1)), .V 9 (.mv (.t 5)), .V 10 (.lens (.t 9)), .V 11 (.bin .sub (.t 8) (.t 10)), .V 12 (.max [.c (.int .i64 0), .t 11]), .V 13 (.call (.c (.fn 518 [])) [.c (.str [48]), .t 12]), .V 14 (.mv (.t 5)), .V 15 (.bin .add (.t 13) (.t 14)), .V 4 (.asg (.t 15))] [4] []) .ret))) }
noncomputable def impl_padded_D : List (Nat × Callee) := [(518, strings_Repeat_c), (524, impl_Decimal_c)]
def impl_padded_H : List (Nat × ET) := []
noncomputable def impl_padded_c : Callee := mkCallee impl_padded_D impl_padded_H impl_padded_ir [.d (.one (.int .i64)), .d (.one (.int .i64))] [.d (.one .str)] []
noncomputable def impl_padded (a0 : Int) (a1 : Int) : Option (List UInt8) := impl_padded_c.f (a0, a1, ())
theorem impl_padded_eq (a0 : Int) (a1 : Int) : impl_padded a0 a1 =
  (impl_Decimal a0).bind fun x1 =>
   (strings_Repeat [48] (if IntKind.i64.wrap (a1 - (x1.length : Int)) > 0 then IntKind.i64.wrap (a1 - (x1.length : Int)) else 0)).bind fun x2 =>
    if decide (x2.length + x1.length ≤ strMax) then
     some (x2 ++ x1)
    else
     none :=
 (mk_f _ _ _ _ _ _ _ 4000).trans (by kernel_rfl)

/- impl.FixedText -/
def impl_FixedText_k0 : C :=
 .seq (.reg false [.V 16 (.mv (.t 0)), .V 17 (.mv (.t 0)), .V 18 (.un .neg (.t 17)), .V 19 (.max [.t 16, .t 18]), .V 20 (.mv (.t 1)), .V 21 (.bin .add (.t 20) (.c (.int .i64 1))), .V 22 (.call (.c (.fn 668 [])) [.t 19, .t 21]), .V 5 (.asg (.t 22))] [0, 1, 5] []) (.seq (.reg false [.V 23 (.mv (.t 5)), .V 24 (.lens (.t 23)), .V 25 (.mv (.t 1)), .V 26 (.bin .sub (.t 24) (.t 25)), .V 6 (.asg (.t 26))] [0, 5, 6] []) (.seq (.reg true [.V 27 (.mv (.t 5)), .V 28 (.mv (.t 6)), .V 29 (.slcs (.t 27) none (some (.t 28))), .V 30 (.bin .add (.t 29) (.c (.str [46]))), .V 31 (.mv (.t 5)), .V 32 (.mv (.t 6)), .V 33 (.slcs (.t 31) (some (.t 32)) none), .V 34 (.bin .add (.t 30) (.t 33)), .V 7 (.asg (.t 34))] [0, 7] []) (.seq (.seq (.reg false [.V 35 (.mv (.t 0)), .V 36 (.bin .lss (.t 35) (.c (.int .i64 0)))] [7, 36] []) (.cond (.t 36) (.reg false [.V 37 (.mv (.t 7)), .V 38 (.bin .add (.c (.str [45])) (.t 37)), .V 7 (.asg (.t 38))] [7] []) .skip)) (.seq (.reg false [.V 39 (.mv (.t 7)), .V 4 (.asg (.t 39))] [4] []) .ret))))
def impl_FixedText_ir : Fn := { np := 2, io := [], res := [.t 4], own := [false], body :=
 (.seq (.reg false [.V 4 (.asg (.c (.str [])))] [0, 1] []) (.seq (.seq (.reg false [.V 8 (.mv (.t 0)), .V 9 (.call (.c (.fn 23 [])) [.t 8, .c (.int .i64 (-1000000000)), .c (.int .i64 1000000000)]), .V 10 (.un .not (.t 9)), .V 11 (.mv (.t 10)), .G 12 (.mv (.t 1)) 3 false, .G 13 (.call (.c (.fn 23 [])) [.t 12, .c (.int .i64 1), .c (.int .i64 6)]) 3 false, .G 14 (.un .not (.t 13)) 3 false, .V 15 (.pick (.t 11) (.c (.bool true)) (.t 14))] [0, 1, 15] []) (.cond (.t 15) (.seq (.reg false [.V 4 (.asg (.c (.str [])))] [4] []) .ret) .skip)) (.norm [0, 1] [] impl_FixedText_k0))) }
noncomputable def impl_FixedText_D : List (Nat × Callee) := [(23, impl_within_c), (668, impl_padded_c)]
def impl_FixedText_H : List (Nat × ET) := []
noncomputable def impl_FixedText_c : Callee := mkCallee impl_FixedText_D impl_FixedText_H impl_FixedText_ir [.d (.one (.int .i64)), .d (.one (.int .i64))] [.d (.one .str)] []
noncomputable def impl_FixedText (a0 : Int) (a1 : Int) : Option (List UInt8) := impl_FixedText_c.f (a0, a1, ())
noncomputable def impl_FixedText_p0  (v0 : Int) (v1 : Int) : Option (List UInt8) :=
 goL impl_FixedText_D impl_FixedText_H (vleave impl_FixedText_ir [.d (.one (.int .i64)), .d (.one (.int .i64))] [.d (.one .str)] [] []) [.c impl_FixedText_k0]
  ⟨[(0, .int .i64 v0), (1, .int .i64 v1)], []⟩
theorem impl_FixedText_eq (a0 : Int) (a1 : Int) : impl_FixedText a0 a1 =
  (impl_within a0 (-1000000000) 1000000000).bind fun x1 =>
   if (!x1) then
    some []
   else
    (impl_within a1 1 6).bind fun x2 =>
     if (!x2) then
      some []
     else
      impl_FixedText_p0 a0 a1 :=
 (mk_f _ _ _ _ _ _ _ 4000).trans (by kernel_rfl)
theorem impl_FixedText_p0_eq  (v0 : Int) (v1 : Int) : impl_FixedText_p0 v0 v1 =
  (impl_padded (if IntKind.i64.wrap (0 - v0) > v0 then IntKind.i64.wrap (0 - v0) else v0) (IntKind.i64.wrap (v1 + 1))).bind fun x1 =>
   if decide (0 ≤ IntKind.i64.wrap ((x1.length : Int) - v1)) && decide (IntKind.i64.wrap ((x1.length : Int) - v1) ≤ (x1.length : Int)) then
    if decide ((x1.take ((IntKind.i64.wrap ((x1.length : Int) - v1)).toNat)).length + [46].length ≤ strMax) then
     if decide (0 ≤ IntKind.i64.wrap ((x1.length : Int) - v1)) && decide (IntKind.i64.wrap ((x1.length : Int) - v1) ≤ (x1.length : Int)) then
      if decide (((x1.take ((IntKind.i64.wrap ((x1.length : Int) - v1)).toNat)) ++ [46]).length + (x1.drop ((IntKind.i64.wrap ((x1.length : Int) - v1)).toNat)).length ≤ strMax) then
       if decide (v0 < 0) then
        if decide ([45].length + (((x1.take ((IntKind.i64.wrap ((x1.length : Int) - v1)).toNat)) ++ [46]) ++ (x1.drop ((IntKind.i64.wrap ((x1.length : Int) - v1)).toNat))).length ≤ strMax) then
         some ([45] ++ (((x1.take ((IntKind.i64.wrap ((x1.length : Int) - v1)).toNat)) ++ [46]) ++ (x1.drop ((IntKind.i64.wrap ((x1.length : Int) - v1)).toNat))))
        else
         none
       else
        some (((x1.take ((IntKind.i64.wrap ((x1.length : Int) - v1)).toNat)) ++ [46]) ++ (x1.drop ((IntKind.i64.wrap ((x1.length : Int) - v1)).toNat)))
      else
       none
     else
      none
    else
     none
   else
    none :=
 (goL_dn _ _ _ 4000 _ _).trans (by kernel_rfl)

/- impl.areCells -/
def impl_areCells_k0 : C :=
 .seq (.seq (.reg false [.V 12 (.mv (.t 5)), .V 13 (.mv (.t 4)), .V 14 (.lens (.t 13)), .V 15 (.bin .lss (.t 12) (.t 14))] [0, 4, 5, 6, 7, 8, 15] []) (.cond (.t 15) .skip (.exit 2))) (.seq (.block 3 (.seq (.reg false [.V 18 (.mv (.t 4)), .V 19 (.mv (.t 5)), .V 20 (.ix (.t 18) (.t 19)), .V 21 (.conv (.int .i64) (.t 20)), .V 22 (.call (.c (.fn 23 [])) [.t 21, .c (.int .i64 33), .c (.int .i64 126)]), .V 23 (.un .not (.t 22))] [0, 4, 5, 6, 7, 8, 23] []) (.cond (.t 23) (.seq (.reg false [.V 2 (.asg (.c (.bool false)))] [2] []) .ret) .skip))) (.reg false [.V 16 (.mv (.t 5)), .V 17 (.bin .add (.t 16) (.c (.int .i64 1))), .V 5 (.asg (.t 17))] [0, 4, 5, 6, 7, 8] []))
def impl_areCells_k1 : C :=
 .norm [0, 4, 5, 6, 7, 8] [] impl_areCells_k0
def impl_areCells_k2 : C :=
 .reg false [.V 24 (.bin .add (.t 8) (.c (.int .i64 1))), .V 8 (.mv (.t 24))] [0, 6, 7, 8] []
def impl_areCells_k3 : C :=
 .seq (.reg false [.V 9 (.bin .lss (.t 8) (.t 7))] [0, 6, 7, 8, 9] []) (.seq (.cond (.t 9) .skip (.exit 0)) (.seq (.block 1 (.seq (.reg false [.V 10 (.ia 1 (.t 6) (.t 8)), .V 11 (.ld none (.t 10)), .V 4 (.asg (.t 11))] [0, 4, 6, 7, 8] []) (.seq (.reg false [.V 5 (.asg (.c (.int .i64 0)))] [0, 4, 5, 6, 7, 8] []) (.block 2 (.loop impl_areCells_k1))))) impl_areCells_k2))
def impl_areCells_k4 : C :=
 .norm [0, 6, 7, 8] [] impl_areCells_k3
def impl_areCells_k5 : C :=
 .seq (.reg false [.V 25 (.mv (.t 0)), .V 26 (.len (.t 25)), .V 27 (.call (.c (.fn 21 [])) [.t 26, .c (.int .i64 12)]), .V 2 (.asg (.t 27))] [2] []) .ret
def impl_areCells_ir : Fn := { np := 1, io := [], res := [.t 2], own := [false], body :=
 (.seq (.reg false [.V 2 (.asg (.c (.bool false)))] [0] []) (.seq (.seq (.reg false [.V 6 (.mv (.t 0)), .V 7 (.len (.t 6)), .V 8 (.mv (.c (.int .i64 0)))] [0, 6, 7, 8] []) (.block 0 (.loop impl_areCells_k4))) impl_areCells_k5)) }
noncomputable def impl_areCells_D : List (Nat × Callee) := [(21, impl_few_c), (23, impl_within_c)]
def impl_areCells_H : List (Nat × ET) := [(6, (.one .str)), (25, (.one .str))]
noncomputable def impl_areCells_c : Callee := mkCallee impl_areCells_D impl_areCells_H impl_areCells_ir [.d (.one (.sl (.one .str)))] [.d (.one .bool)] []
noncomputable def impl_areCells (a0 : List (List UInt8)) : Option (Bool) := impl_areCells_c.f (a0, ())
noncomputable def impl_areCells_p0  (v0 : List (List UInt8)) (v6 : List (List UInt8)) (v7 : Int) (v8 : Int) : Option (Bool) :=
 goL impl_areCells_D impl_areCells_H (vleave impl_areCells_ir [.d (.one (.sl (.one .str)))] [.d (.one .bool)] [] []) [.c impl_areCells_k3, .l impl_areCells_k4, .e 0, .c impl_areCells_k5]
  ⟨[(0, .sl (.one .str) v0), (6, .sl (.one .str) v6), (7, .int .i64 v7), (8, .int .i64 v8)], []⟩
noncomputable def impl_areCells_p1  (v0 : List (List UInt8)) (v4 : List UInt8) (v5 : Int) (v6 : List (List UInt8)) (v7 : Int) (v8 : Int) : Option (Bool) :=
 goL impl_areCells_D impl_areCells_H (vleave impl_areCells_ir [.d (.one (.sl (.one .str)))] [.d (.one .bool)] [] []) [.c impl_areCells_k0, .l impl_areCells_k1, .e 2, .e 1, .c impl_areCells_k2, .l impl_areCells_k4, .e 0, .c impl_areCells_k5]
  ⟨[(0, .sl (.one .str) v0), (4, .str v4), (5, .int .i64 v5), (6, .sl (.one .str) v6), (7, .int .i64 v7), (8, .int .i64 v8)], []⟩
theorem impl_areCells_eq (a0 : List (List UInt8)) : impl_areCells a0 =
  impl_areCells_p0 a0 a0 (a0.length : Int) 0 :=
 (mk_f _ _ _ _ _ _ _ 4000).trans (by kernel_rfl)
theorem impl_areCells_p0_eq  (v0 : List (List UInt8)) (v6 : List (List UInt8)) (v7 : Int) (v8 : Int) : impl_areCells_p0 v0 v6 v7 v8 =
  if decide (v8 < v7) then
   if decide (0 ≤ v8) then
    (v6[v8.toNat]?).bind fun x1 =>
     impl_areCells_p1 v0 x1 0 v6 v7 v8
   else
    none
  else
   (impl_few (v0.length : Int) 12).bind fun x2 =>
    some x2 :=
 (goL_dn _ _ _ 4000 _ _).trans (by kernel_rfl)
theorem impl_areCells_p1_eq  (v0 : List (List UInt8)) (v4 : List UInt8) (v5 : Int) (v6 : List (List UInt8)) (v7 : Int) (v8 : Int) : impl_areCells_p1 v0 v4 v5 v6 v7 v8 =
  if decide (v5 < (v4.length : Int)) then
   if decide (0 ≤ v5) then
    (v4[v5.toNat]?).bind fun x1 =>
     (impl_within (IntKind.i64.wrap (x1.toNat : Int)) 33 126).bind fun x2 =>
      if (!x2) then
       some false
      else
       impl_areCells_p1 v0 v4 (IntKind.i64.wrap (v5 + 1)) v6 v7 v8
   else
    none
  else
   impl_areCells_p0 v0 v6 v7 (IntKind.i64.wrap (v8 + 1)) :=
 (goL_dn _ _ _ 4000 _ _).trans (by kernel_rfl)

/- strings.Join -/
noncomputable def strings_Join_c : Callee := joinC
noncomputable def strings_Join (a0 : List (List UInt8)) (a1 : List UInt8) : Option (List UInt8) := strings_Join_c.f (a0, a1, ())
theorem strings_Join_eq (a0 : List (List UInt8)) (a1 : List UInt8) : strings_Join a0 a1 = if decide (a0.length ≤ 140737488355328) && decide ((Lib.join a0 a1).length ≤ 140737488355328) then some (Lib.join a0 a1) else none := rfl

/- strings.trimRightByte -/
def strings_trimRightByte_k0 : C :=
 .seq (.seq (.reg false [.V 5 (.mv (.t 0)), .V 6 (.lens (.t 5)), .V 7 (.bin .gtr (.t 6) (.c (.int .i64 0))), .V 8 (.mv (.t 7)), .G 9 (.mv (.t 0)) 3 true, .G 10 (.mv (.t 0)) 3 true, .G 11 (.lens (.t 10)) 3 true, .G 12 (.bin .sub (.t 11) (.c (.int .i64 1))) 3 true, .G 13 (.ix (.t 9) (.t 12)) 3 true, .G 14 (.mv (.t 1)) 3 true, .G 15 (.bin .eql (.t 13) (.t 14)) 3 true, .V 16 (.pick (.t 8) (.t 15) (.c (.bool false)))] [0, 1, 16] []) (.cond (.t 16) .skip (.exit 0))) (.block 1 (.reg false [.V 17 (.mv (.t 0)), .V 18 (.mv (.t 0)), .V 19 (.lens (.t 18)), .V 20 (.bin .sub (.t 19) (.c (.int .i64 1))), .V 21 (.slcs (.t 17) none (some (.t 20))), .V 0 (.asg (.t 21))] [0, 1] []))
def strings_trimRightByte_k1 : C :=
 .norm [0, 1] [] strings_trimRightByte_k0
def strings_trimRightByte_k2 : C :=
 .seq (.reg false [.V 22 (.mv (.t 0)), .V 4 (.asg (.t 22))] [4] []) .ret
def strings_trimRightByte_ir : Fn := { np := 2, io := [], res := [.t 4], own := [false], body :=
 (.seq (.reg false [.V 4 (.asg (.c (.str [])))] [0, 1] []) (.seq (.block 0 (.loop strings_trimRightByte_k1)) strings_trimRightByte_k2)) }
noncomputable def strings_trimRightByte_D : List (Nat × Callee) := []
def strings_trimRightByte_H : List (Nat × ET) := []
noncomputable def strings_trimRightByte_c : Callee := mkCallee strings_trimRightByte_D strings_trimRightByte_H strings_trimRightByte_ir [.d (.one .str), .d (.one (.int .u8))] [.d (.one .str)] []
noncomputable def strings_trimRightByte (a0 : List UInt8) (a1 : Int) : Option (List UInt8) := strings_trimRightByte_c.f (a0, a1, ())
noncomputable def strings_trimRightByte_p0  (v0 : List UInt8) (v1 : Int) : Option (List UInt8) :=
 goL strings_trimRightByte_D strings_trimRightByte_H (vleave strings_trimRightByte_ir [.d (.one .str), .d (.one (.int .u8))] [.d (.one .str)] [] []) [.c strings_trimRightByte_k0, .l strings_trimRightByte_k1, .e 0, .c strings_trimRightByte_k2]
  ⟨[(0, .str v0), (1, .int .u8 v1)], []⟩
theorem strings_trimRightByte_eq (a0 : List UInt8) (a1 : Int) : strings_trimRightByte a0 a1 =
  strings_trimRightByte_p0 a0 a1 :=
 (mk_f _ _ _ _ _ _ _ 4000).trans (by kernel_rfl)
theorem strings_trimRightByte_p0_eq  (v0 : List UInt8) (v1 : Int) : strings_trimRightByte_p0 v0 v1 =
  if decide ((v0.length : Int) > 0) then
   if decide (0 ≤ IntKind.i64.wrap ((v0.length : Int) - 1)) then
    (v0[(IntKind.i64.wrap ((v0.length : Int) - 1)).toNat]?).bind fun x1 =>
     if ((x1.toNat : Int) == v1) then
      if decide (0 ≤ IntKind.i64.wrap ((v0.length : Int) - 1)) && decide (IntKind.i64.wrap ((v0.length : Int) - 1) ≤ (v0.length : Int)) then
       strings_trimRightByte_p0 (v0.take ((IntKind.i64.wrap ((v0.length : Int) - 1)).toNat)) v1
      else
       none
     else
      some v0
   else
    none
  else
   some v0 :=
 (goL_dn _ _ _ 4000 _ _).trans (by kernel_rfl)

/- strings.TrimRight -/
def strings_TrimRight_k0 : C :=
 .seq (.reg false [.V 22 (.mv (.t 0)), .V 23 (.mv (.t 1)), .V 24 (.ix (.t 23) (.c (.int .i64 0))), .V 25 (.call (.c (.fn 911 [])) [.t 22, .t 24]), .V 4 (.asg (.t 25))] [4] []) .ret
def strings_TrimRight_k1 : C :=
 .seq (.seq (.reg false [.V 14 (.mv (.t 1)), .V 15 (.lens (.t 14)), .V 16 (.bin .eql (.t 15) (.c (.int .i64 1))), .V 17 (.mv (.t 16)), .G 18 (.mv (.t 1)) 3 true, .G 19 (.ix (.t 18) (.c (.int .i64 0))) 3 true, .G 20 (.bin .lss (.t 19) (.c (.int .u8 128))) 3 true, .V 21 (.pick (.t 17) (.t 20) (.c (.bool false)))] [0, 1, 21] []) (.cond (.t 21) (.norm [0, 1] [] strings_TrimRight_k0) .skip)) .stop
def strings_TrimRight_ir : Fn := { np := 2, io := [], res := [.t 4], own := [false], body :=
 (.seq (.reg false [.V 4 (.asg (.c (.str [])))] [0, 1] []) (.seq (.seq (.reg false [.V 7 (.mv (.t 0)), .V 8 (.bin .eql (.t 7) (.c (.str []))), .V 9 (.mv (.t 8)), .G 10 (.mv (.t 1)) 2 false, .G 11 (.bin .eql (.t 10) (.c (.str []))) 2 false, .V 12 (.pick (.t 9) (.c (.bool true)) (.t 11))] [0, 1, 12] []) (.cond (.t 12) (.seq (.reg false [.V 13 (.mv (.t 0)), .V 4 (.asg (.t 13))] [4] []) .ret) .skip)) (.norm [0, 1] [] strings_TrimRight_k1))) }
noncomputable def strings_TrimRight_D : List (Nat × Callee) := [(911, strings_trimRightByte_c)]
def strings_TrimRight_H : List (Nat × ET) := []
noncomputable def strings_TrimRight_c : Callee := mkCallee strings_TrimRight_D strings_TrimRight_H strings_TrimRight_ir [.d (.one .str), .d (.one .str)] [.d (.one .str)] []
noncomputable def strings_TrimRight (a0 : List UInt8) (a1 : List UInt8) : Option (List UInt8) := strings_TrimRight_c.f (a0, a1, ())
noncomputable def strings_TrimRight_p0  (v0 : List UInt8) (v1 : List UInt8) : Option (List UInt8) :=
 goL strings_TrimRight_D strings_TrimRight_H (vleave strings_TrimRight_ir [.d (.one .str), .d (.one .str)] [.d (.one .str)] [] []) [.c strings_TrimRight_k1]
  ⟨[(0, .str v0), (1, .str v1)], []⟩
noncomputable def strings_TrimRight_p1  (v0 : List UInt8) (v1 : List UInt8) : Option (List UInt8) :=
 goL strings_TrimRight_D strings_TrimRight_H (vleave strings_TrimRight_ir [.d (.one .str), .d (.one .str)] [.d (.one .str)] [] []) [.c strings_TrimRight_k0, .c .stop]
  ⟨[(0, .str v0), (1, .str v1)], []⟩
theorem strings_TrimRight_eq (a0 : List UInt8) (a1 : List UInt8) : strings_TrimRight a0 a1 =
  if (a0 == []) then
   some a0
  else
   if (a1 == []) then
    some a0
   else
    strings_TrimRight_p0 a0 a1 :=
 (mk_f _ _ _ _ _ _ _ 4000).trans (by kernel_rfl)
theorem strings_TrimRight_p0_eq  (v0 : List UInt8) (v1 : List UInt8) : strings_TrimRight_p0 v0 v1 =
  if ((v1.length : Int) == 1) then
   (v1[0]?).bind fun x1 =>
    if decide ((x1.toNat : Int) < 128) then
     strings_TrimRight_p1 v0 v1
    else
     none
  else
   none :=
 (goL_dn _ _ _ 4000 _ _).trans (by kernel_rfl)
theorem strings_TrimRight_p1_eq  (v0 : List UInt8) (v1 : List UInt8) : strings_TrimRight_p1 v0 v1 =
  (v1[0]?).bind fun x1 =>
   (strings_trimRightByte v0 (x1.toNat : Int)).bind fun x2 =>
    some x2 :=
 (goL_dn _ _ _ 4000 _ _).trans (by kernel_rfl)

/- impl.isLine -/
def impl_isLine_k0 : C :=
 .seq (.seq (.reg false [.V 4 (.mv (.t 3)), .V 5 (.mv (.t 0)), .V 6 (.lens (.t 5)), .V 7 (.bin .lss (.t 4) (.t 6))] [0, 3, 7] []) (.cond (.t 7) .skip (.exit 0))) (.seq (.block 1 (.seq (.reg false [.V 10 (.mv (.t 0)), .V 11 (.mv (.t 3)), .V 12 (.ix (.t 10) (.t 11)), .V 13 (.conv (.int .i64) (.t 12)), .V 14 (.call (.c (.fn 23 [])) [.t 13, .c (.int .i64 32), .c (.int .i64 126)]), .V 15 (.un .not (.t 14))] [0, 3, 15] []) (.cond (.t 15) (.seq (.reg false [.V 2 (.asg (.c (.bool false)))] [2] []) .ret) .skip))) (.reg false [.V 8 (.mv (.t 3)), .V 9 (.bin .add (.t 8) (.c (.int .i64 1))), .V 3 (.asg (.t 9))] [0, 3] []))
def impl_isLine_k1 : C :=
 .norm [0, 3] [] impl_isLine_k0
def impl_isLine_k2 : C :=
 .seq (.reg false [.V 16 (.mv (.t 0)), .V 17 (.lens (.t 16)), .V 18 (.call (.c (.fn 21 [])) [.t 17, .c (.int .i64 100)]), .V 2 (.asg (.t 18))] [2] []) .ret
def impl_isLine_ir : Fn := { np := 1, io := [], res := [.t 2], own := [false], body :=
 (.seq (.reg false [.V 2 (.asg (.c (.bool false)))] [0] []) (.seq (.seq (.reg false [.V 3 (.asg (.c (.int .i64 0)))] [0, 3] []) (.block 0 (.loop impl_isLine_k1))) impl_isLine_k2)) }
noncomputable def impl_isLine_D : List (Nat × Callee) := [(21, impl_few_c), (23, impl_within_c)]
def impl_isLine_H : List (Nat × ET) := []
noncomputable def impl_isLine_c : Callee := mkCallee impl_isLine_D impl_isLine_H impl_isLine_ir [.d (.one .str)] [.d (.one .bool)] []
noncomputable def impl_isLine (a0 : List UInt8) : Option (Bool) := impl_isLine_c.f (a0, ())
noncomputable def impl_isLine_p0  (v0 : List UInt8) (v3 : Int) : Option (Bool) :=
 goL impl_isLine_D impl_isLine_H (vleave impl_isLine_ir [.d (.one .str)] [.d (.one .bool)] [] []) [.c impl_isLine_k0, .l impl_isLine_k1, .e 0, .c impl_isLine_k2]
  ⟨[(0, .str v0), (3, .int .i64 v3)], []⟩
theorem impl_isLine_eq (a0 : List UInt8) : impl_isLine a0 =
  impl_isLine_p0 a0 0 :=
 (mk_f _ _ _ _ _ _ _ 4000).trans (by kernel_rfl)
theorem impl_isLine_p0_eq  (v0 : List UInt8) (v3 : Int) : impl_isLine_p0 v0 v3 =
  if decide (v3 < (v0.length : Int)) then
   if decide (0 ≤ v3) then
    (v0[v3.toNat]?).bind fun x1 =>
     (impl_within (IntKind.i64.wrap (x1.toNat : Int)) 32 126).bind fun x2 =>
      if (!x2) then
       some false
      else
       impl_isLine_p0 v0 (IntKind.i64.wrap (v3 + 1))
   else
    none
  else
   (impl_few (v0.length : Int) 100).bind fun x3 =>
    some x3 :=
 (goL_dn _ _ _ 4000 _ _).trans (by kernel_rfl)

/- impl.ValidReport$1 -/
def impl_ValidReport_1_ir : Fn := { np := 1, io := [], res := [.t 2], own := [false], body :=
 (.seq (.reg false [.V 2 (.asg (.c (.bool false)))] [0] []) (.seq (.reg false [.V 3 (.mv (.t 0)), .V 4 (.call (.c (.fn 1024 [])) [.t 3]), .V 5 (.un .not (.t 4)), .V 2 (.asg (.t 5))] [2] []) .ret)) }
noncomputable def impl_ValidReport_1_D : List (Nat × Callee) := [(1024, impl_isLine_c)]
def impl_ValidReport_1_H : List (Nat × ET) := []
noncomputable def impl_ValidReport_1_c : Callee := mkCallee impl_ValidReport_1_D impl_ValidReport_1_H impl_ValidReport_1_ir [.d (.one .str)] [.d (.one .bool)] []
noncomputable def impl_ValidReport_1 (a0 : List UInt8) : Option (Bool) := impl_ValidReport_1_c.f (a0, ())
theorem impl_ValidReport_1_eq (a0 : List UInt8) : impl_ValidReport_1 a0 =
  (impl_isLine a0).bind fun x1 =>
   some (!x1) :=
 (mk_f _ _ _ _ _ _ _ 4000).trans (by kernel_rfl)

/- slices.IndexFunc[[]string,string]@impl.ValidReport$1 -/
def slices_IndexFunc___string_string__impl_ValidReport_1_k0 : C :=
 .seq (.reg false [.V 9 (.bin .lss (.t 8) (.t 7))] [0, 1, 7, 8, 9] []) (.seq (.cond (.t 9) .skip (.exit 0)) (.seq (.block 1 (.seq (.reg false [.V 10 (.mv (.t 8)), .V 5 (.asg (.t 10))] [0, 1, 5, 7, 8] []) (.seq (.reg false [.V 11 (.mv (.t 1)), .V 12 (.mv (.t 0)), .V 13 (.mv (.t 5)), .V 14 (.ia 1 (.t 12) (.t 13)), .V 15 (.ld none (.t 14)), .V 16 (.call (.t 11) [.t 15])] [0, 1, 5, 7, 8, 16] []) (.cond (.t 16) (.seq (.reg false [.V 17 (.mv (.t 5)), .V 4 (.asg (.t 17))] [4] []) .ret) .skip)))) (.reg false [.V 18 (.bin .add (.t 8) (.c (.int .i64 1))), .V 8 (.mv (.t 18))] [0, 1, 7, 8] [])))
def slices_IndexFunc___string_string__impl_ValidReport_1_k1 : C :=
 .norm [0, 1, 7, 8] [] slices_IndexFunc___string_string__impl_ValidReport_1_k0
def slices_IndexFunc___string_string__impl_ValidReport_1_k2 : C :=
 .seq (.reg false [.V 4 (.asg (.c (.int .i64 (-1))))] [4] []) .ret
def slices_IndexFunc___string_string__impl_ValidReport_1_ir : Fn := { np := 2, io := [], res := [.t 4], own := [false], body :=
 (.seq (.reg false [.V 4 (.asg (.c (.int .i64 0)))] [0, 1] []) (.seq (.seq (.reg false [.V 6 (.mv (.t 0)), .V 7 (.len (.t 6)), .V 8 (.mv (.c (.int .i64 0)))] [0, 1, 7, 8] []) (.block 0 (.loop slices_IndexFunc___string_string__impl_ValidReport_1_k1))) slices_IndexFunc___string_string__impl_ValidReport_1_k2)) }
noncomputable def slices_IndexFunc___string_string__impl_ValidReport_1_D : List (Nat × Callee) := [(872, impl_ValidReport_1_c)]
def slices_IndexFunc___string_string__impl_ValidReport_1_H : List (Nat × ET) := [(6, (.one .str)), (12, (.one .str))]
noncomputable def slices_IndexFunc___string_string__impl_ValidReport_1_c : Callee := mkCallee slices_IndexFunc___string_string__impl_ValidReport_1_D slices_IndexFunc___string_string__impl_ValidReport_1_H slices_IndexFunc___string_string__impl_ValidReport_1_ir [.d (.one (.sl (.one .str))), .fn 872 []] [.d (.one (.int .i64))] []
noncomputable def slices_IndexFunc___string_string__impl_ValidReport_1 (a0 : List (List UInt8)) (a1 : Unit) : Option (Int) := slices_IndexFunc___string_string__impl_ValidReport_1_c.f (a0, a1, ())
noncomputable def slices_IndexFunc___string_string__impl_ValidReport_1_p0  (v0 : List (List UInt8)) (v7 : Int) (v8 : Int) : Option (Int) :=
 goL slices_IndexFunc___string_string__impl_ValidReport_1_D slices_IndexFunc___string_string__impl_ValidReport_1_H (vleave slices_IndexFunc___string_string__impl_ValidReport_1_ir [.d (.one (.sl (.one .str))), .fn 872 []] [.d (.one (.int .i64))] [] []) [.c slices_IndexFunc___string_string__impl_ValidReport_1_k0, .l slices_IndexFunc___string_string__impl_ValidReport_1_k1, .e 0, .c slices_IndexFunc___string_string__impl_ValidReport_1_k2]
  ⟨[(0, .sl (.one .str) v0), (1, .fn 872 []), (7, .int .i64 v7), (8, .int .i64 v8)], []⟩
theorem slices_IndexFunc___string_string__impl_ValidReport_1_eq (a0 : List (List UInt8)) (a1 : Unit) : slices_IndexFunc___string_string__impl_ValidReport_1 a0 a1 =
  slices_IndexFunc___string_string__impl_ValidReport_1_p0 a0 (a0.length : Int) 0 :=
 (mk_f _ _ _ _ _ _ _ 4000).trans (by kernel_rfl)
theorem slices_IndexFunc___string_string__impl_ValidReport_1_p0_eq  (v0 : List (List UInt8)) (v7 : Int) (v8 : Int) : slices_IndexFunc___string_string__impl_ValidReport_1_p0 v0 v7 v8 =
  if decide (v8 < v7) then
   if decide (0 ≤ v8) then
    (v0[v8.toNat]?).bind fun x1 =>
     (impl_ValidReport_1 x1).bind fun x2 =>
      if x2 then
       some v8
      else
       slices_IndexFunc___string_string__impl_ValidReport_1_p0 v0 v7 (IntKind.i64.wrap (v8 + 1))
   else
    none
  else
   some (-1) :=
 (goL_dn _ _ _ 4000 _ _).trans (by kernel_rfl)

/- slices.ContainsFunc[[]string,string]@impl.ValidReport$1 -/
def slices_ContainsFunc___string_string__impl_ValidReport_1_ir : Fn := { np := 2, io := [], res := [.t 4], own := [false], body :=
 (.seq (.reg false [.V 4 (.asg (.c (.bool false)))] [0, 1] []) (.seq (.reg false [.V 5 (.mv (.t 0)), .V 6 (.mv (.t 1)), .V 7 (.call (.c (.fn 1237 [])) [.t 5, .t 6]), .V 8 (.bin .geq (.t 7) (.c (.int .i64 0))), .V 4 (.asg (.t 8))] [4] []) .ret)) }
noncomputable def slices_ContainsFunc___string_string__impl_ValidReport_1_D : List (Nat × Callee) := [(872, impl_ValidReport_1_c), (1237, slices_IndexFunc___string_string__impl_ValidReport_1_c)]
def slices_ContainsFunc___string_string__impl_ValidReport_1_H : List (Nat × ET) := [(5, (.one .str))]
noncomputable def slices_ContainsFunc___string_string__impl_ValidReport_1_c : Callee := mkCallee slices_ContainsFunc___string_string__impl_ValidReport_1_D slices_ContainsFunc___string_string__impl_ValidReport_1_H slices_ContainsFunc___string_string__impl_ValidReport_1_ir [.d (.one (.sl (.one .str))), .fn 872 []] [.d (.one .bool)] []
noncomputable def slices_ContainsFunc___string_string__impl_ValidReport_1 (a0 : List (List UInt8)) (a1 : Unit) : Option (Bool) := slices_ContainsFunc___string_string__impl_ValidReport_1_c.f (a0, a1, ())
theorem slices_ContainsFunc___string_string__impl_ValidReport_1_eq (a0 : List (List UInt8)) (a1 : Unit) : slices_ContainsFunc___string_string__impl_ValidReport_1 a0 a1 =
  (slices_IndexFunc___string_string__impl_ValidReport_1 a0 ()).bind fun x1 =>
   some (decide (x1 ≥ 0)) :=
 (mk_f _ _ _ _ _ _ _ 4000).trans (by kernel_rfl)

/- impl.ValidReport -/
def impl_ValidReport_ir : Fn := { np := 1, io := [], res := [.t 2], own := [false], body :=
 (.seq (.reg false [.V 2 (.asg (.c (.bool false)))] [0] []) (.seq (.reg false [.V 3 (.mv (.t 0)), .V 4 (.len (.t 3)), .V 5 (.call (.c (.fn 21 [])) [.t 4, .c (.int .i64 200)]), .V 6 (.mv (.t 5)), .G 7 (.mv (.t 0)) 3 true, .G 8 (.call (.c (.fn 1238 [])) [.t 7, .c (.fn 872 [])]) 3 true, .G 9 (.un .not (.t 8)) 3 true, .V 10 (.pick (.t 6) (.t 9) (.c (.bool false))), .V 2 (.asg (.t 10))] [2] []) .ret)) }
noncomputable def impl_ValidReport_D : List (Nat × Callee) := [(21, impl_few_c), (872, impl_ValidReport_1_c), (1238, slices_ContainsFunc___string_string__impl_ValidReport_1_c)]
def impl_ValidReport_H : List (Nat × ET) := [(3, (.one .str)), (7, (.one .str))]
noncomputable def impl_ValidReport_c : Callee := mkCallee impl_ValidReport_D impl_ValidReport_H impl_ValidReport_ir [.d (.one (.sl (.one .str)))] [.d (.one .bool)] []
noncomputable def impl_ValidReport (a0 : List (List UInt8)) : Option (Bool) := impl_ValidReport_c.f (a0, ())
theorem impl_ValidReport_eq (a0 : List (List UInt8)) : impl_ValidReport a0 =
  (impl_few (a0.length : Int) 200).bind fun x1 =>
   if x1 then
    (slices_ContainsFunc___string_string__impl_ValidReport_1 a0 ()).bind fun x2 =>
     some (!x2)
   else
    some false :=
 (mk_f _ _ _ _ _ _ _ 4000).trans (by kernel_rfl)

/- impl.report -/
def impl_report_ir : Fn := { np := 1, io := [true], res := [.t 2, .t 3], own := [true, false], body :=
 (.seq (.reg false [.W 2 (.asg (.c (.nils 1))), .V 3 (.asg (.c (.int .i64 0)))] [0] [0]) (.seq (.seq (.reg false [.V 4 (.mv (.t 0)), .V 5 (.call (.c (.fn 566 [])) [.t 4]), .V 6 (.un .not (.t 5))] [0, 6] [0]) (.cond (.t 6) (.seq (.reg false [.W 2 (.asg (.c (.nils 1))), .V 3 (.asg (.c (.int .i64 5)))] [0, 2, 3] [0, 2]) .ret) .skip)) (.seq (.reg false [.V 7 (.mv (.t 0)), .W 2 (.asg (.t 7)), .V 3 (.asg (.c (.int .i64 0)))] [0, 2, 3] [0, 2]) .ret))), gone := [0] }
noncomputable def impl_report_D : List (Nat × Callee) := [(566, impl_ValidReport_c)]
def impl_report_H : List (Nat × ET) := [(2, (.one .str)), (4, (.one .str)), (7, (.one .str))]
noncomputable def impl_report_c : Callee := mkCallee impl_report_D impl_report_H impl_report_ir [.ios (.one .str)] [.tok (.one .str), .d (.one (.int .i64))] [.gone]
noncomputable def impl_report (a0 : List (List UInt8)) : Option (List (List UInt8) × Int × Unit) := impl_report_c.f (a0, ())
theorem impl_report_eq (a0 : List (List UInt8)) : impl_report a0 =
  (impl_ValidReport (a0.take a0.length)).bind fun x1 =>
   if (!x1) then
    some ([], 5, ())
   else
    some ((a0.take a0.length), 0, ()) :=
 (mk_f _ _ _ _ _ _ _ 4000).trans (by kernel_rfl)

/- impl.TableLines -/
def impl_TableLines_k0 : C :=
 .seq (.reg false [.V 27 (.bin .lss (.t 26) (.t 25))] [0, 4, 15, 16, 17, 24, 25, 26, 27] [4, 6]) (.seq (.cond (.t 27) .skip (.exit 2)) (.seq (.block 3 (.seq (.reg false [.V 28 (.mv (.t 26)), .V 29 (.ia 1 (.t 24) (.t 26)), .V 30 (.ld none (.t 29)), .V 7 (.asg (.t 28)), .V 8 (.asg (.t 30))] [0, 4, 7, 8, 15, 16, 17, 24, 25, 26] [4, 6]) (.reg false [.V 31 (.mv (.t 7)), .V 32 (.mv (.t 7)), .V 33 (.iaa 12 1 (.t 4) (.t 32)), .V 34 (.ld none (.t 33)), .V 35 (.mv (.t 8)), .V 36 (.lens (.t 35)), .V 37 (.max [.t 34, .t 36]), .V 38 (.iaa 12 1 (.t 4) (.t 31)), ⟨none, true, .sto 1 (.t 38) (.t 37), none, false, []⟩] [0, 4, 15, 16, 17, 24, 25, 26] [4, 6]))) (.reg false [.V 39 (.bin .add (.t 26) (.c (.int .i64 1))), .V 26 (.mv (.t 39))] [0, 4, 15, 16, 17, 24, 25, 26] [4, 6])))
def impl_TableLines_k1 : C :=
 .norm [0, 4, 15, 16, 17, 24, 25, 26] [4, 6] impl_TableLines_k0
def impl_TableLines_k2 : C :=
 .reg false [.V 40 (.bin .add (.t 17) (.c (.int .i64 1))), .V 17 (.mv (.t 40))] [0, 4, 15, 16, 17] [4]
def impl_TableLines_k3 : C :=
 .seq (.reg false [.V 18 (.bin .lss (.t 17) (.t 16))] [0, 4, 15, 16, 17, 18] [4]) (.seq (.cond (.t 18) .skip (.exit 0)) (.seq (.block 1 (.seq (.reg false [.V 19 (.ia 1 (.t 15) (.t 17)), .V 20 (.ld none (.t 19)), .W 6 (.asg (.t 20))] [0, 4, 6, 15, 16, 17] [4, 6]) (.seq (.seq (.reg false [.V 21 (.mv (.t 6)), .V 22 (.call (.c (.fn 632 [])) [.t 21]), .V 23 (.un .not (.t 22))] [0, 4, 6, 15, 16, 17, 23] [4, 6]) (.cond (.t 23) (.seq (.reg false [.W 2 (.asg (.c (.nils 1))), .V 3 (.asg (.c (.int .i64 2)))] [2, 3] [2]) .ret) .skip)) (.seq (.reg false [.V 24 (.mv (.t 6)), .V 25 (.len (.t 24)), .V 26 (.mv (.c (.int .i64 0)))] [0, 4, 15, 16, 17, 24, 25, 26] [4, 6]) (.block 2 (.loop impl_TableLines_k1)))))) impl_TableLines_k2))
def impl_TableLines_k4 : C :=
 .norm [0, 4, 15, 16, 17] [4] impl_TableLines_k3
def impl_TableLines_k5 : C :=
 .seq (.reg false [.V 52 (.bin .lss (.t 51) (.t 50))] [4, 9, 12, 42, 43, 44, 49, 50, 51, 52] [4, 9, 11, 12]) (.seq (.cond (.t 52) .skip (.exit 6)) (.seq (.block 7 (.seq (.reg false [.V 53 (.mv (.t 51)), .V 54 (.ia 1 (.t 49) (.t 51)), .V 55 (.ld none (.t 54)), .V 13 (.asg (.t 53)), .V 14 (.asg (.t 55))] [4, 9, 12, 13, 14, 42, 43, 44, 49, 50, 51] [4, 9, 11, 12]) (.reg false [.V 56 (.mv (.t 12)), .V 57 (.mv (.t 14)), .V 58 (.mv (.t 13)), .V 59 (.iaa 12 1 (.t 4) (.t 58)), .V 60 (.ld none (.t 59)), .V 61 (.mv (.t 14)), .V 62 (.lens (.t 61)), .V 63 (.bin .sub (.t 60) (.t 62)), .V 64 (.call (.c (.fn 518 [])) [.c (.str [32]), .t 63]), .V 65 (.bin .add (.t 57) (.t 64)), .V 66 (.bsl 1 (.str []) 1 [(0, .t 65)]), .W 67 (.app 1 16 (.t 56) (.t 66)), .W 12 (.asg (.t 67))] [4, 9, 12, 42, 43, 44, 49, 50, 51] [4, 9, 11, 12]))) (.reg false [.V 68 (.bin .add (.t 51) (.c (.int .i64 1))), .V 51 (.mv (.t 68))] [4, 9, 12, 42, 43, 44, 49, 50, 51] [4, 9, 11, 12])))
def impl_TableLines_k6 : C :=
 .norm [4, 9, 12, 42, 43, 44, 49, 50, 51] [4, 9, 11, 12] impl_TableLines_k5
def impl_TableLines_k7 : C :=
 .reg false [.V 69 (.mv (.t 9)), .V 70 (.mv (.t 12)), .V 71 (.call (.c (.fn 630 [])) [.t 70, .c (.str [32, 32])]), .V 72 (.call (.c (.fn 631 [])) [.t 71, .c (.str [32])]), .V 73 (.bsl 1 (.str []) 1 [(0, .t 72)]), .W 74 (.app 1 16 (.t 69) (.t 73)), .W 9 (.asg (.t 74))] [4, 9, 42, 43, 44] [4, 9]
def impl_TableLines_k8 : C :=
 .reg false [.V 75 (.bin .add (.t 44) (.c (.int .i64 1))), .V 44 (.mv (.t 75))] [4, 9, 42, 43, 44] [4, 9]
def impl_TableLines_k9 : C :=
 .seq (.reg false [.V 45 (.bin .lss (.t 44) (.t 43))] [4, 9, 42, 43, 44, 45] [4, 9]) (.seq (.cond (.t 45) .skip (.exit 4)) (.seq (.block 5 (.seq (.reg false [.V 46 (.ia 1 (.t 42) (.t 44)), .V 47 (.ld none (.t 46)), .W 11 (.asg (.t 47))] [4, 9, 11, 42, 43, 44] [4, 9, 11]) (.seq (.reg false [.V 48 (.bsl 1 (.str []) 0 []), .W 12 (.asg (.t 48))] [4, 9, 11, 12, 42, 43, 44] [4, 9, 11, 12]) (.seq (.seq (.reg false [.V 49 (.mv (.t 11)), .V 50 (.len (.t 49)), .V 51 (.mv (.c (.int .i64 0)))] [4, 9, 12, 42, 43, 44, 49, 50, 51] [4, 9, 11, 12]) (.block 6 (.loop impl_TableLines_k6))) impl_TableLines_k7)))) impl_TableLines_k8))
def impl_TableLines_k10 : C :=
 .norm [4, 9, 42, 43, 44] [4, 9] impl_TableLines_k9
def impl_TableLines_k11 : C :=
 .seq (.reg false [.V 76 (.mv (.t 9)), .W 77 (.call (.c (.fn 517 [])) [.t 76]), .V 78 (.ext (.t 77) 0), .V 79 (.ext (.t 77) 1), .W 2 (.asg (.t 78)), .V 3 (.asg (.t 79))] [2, 3] [2]) .ret
def impl_TableLines_k12 : C :=
 .seq (.reg false [.V 41 (.bsl 1 (.str []) 0 []), .W 9 (.asg (.t 41))] [0, 4, 9] [4, 9]) (.seq (.seq (.reg false [.V 42 (.mv (.t 0)), .V 43 (.len (.t 42)), .V 44 (.mv (.c (.int .i64 0)))] [4, 9, 42, 43, 44] [4, 9]) (.block 4 (.loop impl_TableLines_k10))) impl_TableLines_k11)
def impl_TableLines_ir : Fn := { np := 1, io := [], res := [.t 2, .t 3], own := [true, false], body :=
 (.seq (.reg false [.W 2 (.asg (.c (.nils 1))), .V 3 (.asg (.c (.int .i64 0)))] [0] []) (.seq (.reg false [.W 4 (.alloc 12 (.agg [.int .i64 0, .int .i64 0, .int .i64 0, .int .i64 0, .int .i64 0, .int .i64 0, .int .i64 0, .int .i64 0, .int .i64 0, .int .i64 0, .int .i64 0, .int .i64 0]))] [0, 4] [4]) (.seq (.seq (.reg false [.V 15 (.mv (.t 0)), .V 16 (.len (.t 15)), .V 17 (.mv (.c (.int .i64 0)))] [0, 4, 15, 16, 17] [4]) (.block 0 (.loop impl_TableLines_k4))) impl_TableLines_k12))) }
noncomputable def impl_TableLines_D : List (Nat × Callee) := [(517, impl_report_c), (518, strings_Repeat_c), (630, strings_Join_c), (631, strings_TrimRight_c), (632, impl_areCells_c)]
def impl_TableLines_H : List (Nat × ET) := [(2, (.one .str)), (6, (.one .str)), (9, (.one .str)), (11, (.one .str)), (12, (.one .str)), (15, (.one (.sl (.one .str)))), (20, (.one .str)), (21, (.one .str)), (24, (.one .str)), (41, (.one .str)), (42, (.one (.sl (.one .str)))), (47, (.one .str)), (48, (.one .str)), (49, (.one .str)), (56, (.one .str)), (66, (.one .str)), (67, (.one .str)), (69, (.one .str)), (70, (.one .str)), (73, (.one .str)), (74, (.one .str)), (76, (.one .str)), (78, (.one .str))]
noncomputable def impl_TableLines_c : Callee := mkCallee impl_TableLines_D impl_TableLines_H impl_TableLines_ir [.d (.one (.sl (.one (.sl (.one .str)))))] [.tok (.one .str), .d (.one (.int .i64))] []
noncomputable def impl_TableLines (a0 : List (List (List UInt8))) : Option (List (List UInt8) × Int) := impl_TableLines_c.f (a0, ())
noncomputable def impl_TableLines_p0  (v0 : List (List (List UInt8))) (v15 : List (List (List UInt8))) (v16 : Int) (v17 : Int) (r4_0 : Int) (r4_1 : Int) (r4_2 : Int) (r4_3 : Int) (r4_4 : Int) (r4_5 : Int) (r4_6 : Int) (r4_7 : Int) (r4_8 : Int) (r4_9 : Int) (r4_10 : Int) (r4_11 : Int) : Option (List (List UInt8) × Int) :=
 goL impl_TableLines_D impl_TableLines_H (vleave impl_TableLines_ir [.d (.one (.sl (.one (.sl (.one .str)))))] [.tok (.one .str), .d (.one (.int .i64))] [] []) [.c impl_TableLines_k3, .l impl_TableLines_k4, .e 0, .c impl_TableLines_k12]
  ⟨[(0, .sl (.one (.sl (.one .str))) v0), (4, .loc 4 0 0), (15, .sl (.one (.sl (.one .str))) v15), (16, .int .i64 v16), (17, .int .i64 v17)], [(4, some (.var 12 (.agg [.int .i64 r4_0, .int .i64 r4_1, .int .i64 r4_2, .int .i64 r4_3, .int .i64 r4_4, .int .i64 r4_5, .int .i64 r4_6, .int .i64 r4_7, .int .i64 r4_8, .int .i64 r4_9, .int .i64 r4_10, .int .i64 r4_11])))]⟩
noncomputable def impl_TableLines_p1  (v0 : List (List (List UInt8))) (v15 : List (List (List UInt8))) (v16 : Int) (v17 : Int) (v24 : List (List UInt8)) (v25 : Int) (v26 : Int) (r4_0 : Int) (r4_1 : Int) (r4_2 : Int) (r4_3 : Int) (r4_4 : Int) (r4_5 : Int) (r4_6 : Int) (r4_7 : Int) (r4_8 : Int) (r4_9 : Int) (r4_10 : Int) (r4_11 : Int) : Option (List (List UInt8) × Int) :=
 goL impl_TableLines_D impl_TableLines_H (vleave impl_TableLines_ir [.d (.one (.sl (.one (.sl (.one .str)))))] [.tok (.one .str), .d (.one (.int .i64))] [] []) [.c impl_TableLines_k0, .l impl_TableLines_k1, .e 2, .e 1, .c impl_TableLines_k2, .l impl_TableLines_k4, .e 0, .c impl_TableLines_k12]
  ⟨[(0, .sl (.one (.sl (.one .str))) v0), (4, .loc 4 0 0), (15, .sl (.one (.sl (.one .str))) v15), (16, .int .i64 v16), (17, .int .i64 v17), (24, .sl (.one .str) v24), (25, .int .i64 v25), (26, .int .i64 v26)], [(4, some (.var 12 (.agg [.int .i64 r4_0, .int .i64 r4_1, .int .i64 r4_2, .int .i64 r4_3, .int .i64 r4_4, .int .i64 r4_5, .int .i64 r4_6, .int .i64 r4_7, .int .i64 r4_8, .int .i64 r4_9, .int .i64 r4_10, .int .i64 r4_11]))), (6, none)]⟩
noncomputable def impl_TableLines_p2  (v42 : List (List (List UInt8))) (v43 : Int) (v44 : Int) (r4_0 : Int) (r4_1 : Int) (r4_2 : Int) (r4_3 : Int) (r4_4 : Int) (r4_5 : Int) (r4_6 : Int) (r4_7 : Int) (r4_8 : Int) (r4_9 : Int) (r4_10 : Int) (r4_11 : Int) (r9 : List (List UInt8)) : Option (List (List UInt8) × Int) :=
 goL impl_TableLines_D impl_TableLines_H (vleave impl_TableLines_ir [.d (.one (.sl (.one (.sl (.one .str)))))] [.tok (.one .str), .d (.one (.int .i64))] [] []) [.c impl_TableLines_k9, .l impl_TableLines_k10, .e 4, .c impl_TableLines_k11]
  ⟨[(4, .loc 4 0 0), (9, .view 9 0 r9.length), (42, .sl (.one (.sl (.one .str))) v42), (43, .int .i64 v43), (44, .int .i64 v44)], [(4, some (.var 12 (.agg [.int .i64 r4_0, .int .i64 r4_1, .int .i64 r4_2, .int .i64 r4_3, .int .i64 r4_4, .int .i64 r4_5, .int .i64 r4_6, .int .i64 r4_7, .int .i64 r4_8, .int .i64 r4_9, .int .i64 r4_10, .int .i64 r4_11]))), (9, some (.sl (.one .str) r9))]⟩
noncomputable def impl_TableLines_p3  (v42 : List (List (List UInt8))) (v43 : Int) (v44 : Int) (v49 : List (List UInt8)) (v50 : Int) (v51 : Int) (r4_0 : Int) (r4_1 : Int) (r4_2 : Int) (r4_3 : Int) (r4_4 : Int) (r4_5 : Int) (r4_6 : Int) (r4_7 : Int) (r4_8 : Int) (r4_9 : Int) (r4_10 : Int) (r4_11 : Int) (r9 : List (List UInt8)) (r12 : List (List UInt8)) : Option (List (List UInt8) × Int) :=
 goL impl_TableLines_D impl_TableLines_H (vleave impl_TableLines_ir [.d (.one (.sl (.one (.sl (.one .str)))))] [.tok (.one .str), .d (.one (.int .i64))] [] []) [.c impl_TableLines_k5, .l impl_TableLines_k6, .e 6, .c impl_TableLines_k7, .e 5, .c impl_TableLines_k8, .l impl_TableLines_k10, .e 4, .c impl_TableLines_k11]
  ⟨[(4, .loc 4 0 0), (9, .view 9 0 r9.length), (12, .view 12 0 r12.length), (42, .sl (.one (.sl (.one .str))) v42), (43, .int .i64 v43), (44, .int .i64 v44), (49, .sl (.one .str) v49), (50, .int .i64 v50), (51, .int .i64 v51)], [(4, some (.var 12 (.agg [.int .i64 r4_0, .int .i64 r4_1, .int .i64 r4_2, .int .i64 r4_3, .int .i64 r4_4, .int .i64 r4_5, .int .i64 r4_6, .int .i64 r4_7, .int .i64 r4_8, .int .i64 r4_9, .int .i64 r4_10, .int .i64 r4_11]))), (9, some (.sl (.one .str) r9)), (11, none), (12, some (.sl (.one .str) r12))]⟩
theorem impl_TableLines_eq (a0 : List (List (List UInt8))) : impl_TableLines a0 =
  impl_TableLines_p0 a0 a0 (a0.length : Int) 0 0 0 0 0 0 0 0 0 0 0 0 0 :=
 (mk_f _ _ _ _ _ _ _ 4000).trans (by kernel_rfl)
theorem impl_TableLines_p0_eq  (v0 : List (List (List UInt8))) (v15 : List (List (List UInt8))) (v16 : Int) (v17 : Int) (r4_0 : Int) (r4_1 : Int) (r4_2 : Int) (r4_3 : Int) (r4_4 : Int) (r4_5 : Int) (r4_6 : Int) (r4_7 : Int) (r4_8 : Int) (r4_9 : Int) (r4_10 : Int) (r4_11 : Int) : impl_TableLines_p0 v0 v15 v16 v17 r4_0 r4_1 r4_2 r4_3 r4_4 r4_5 r4_6 r4_7 r4_8 r4_9 r4_10 r4_11 =
  if decide (v17 < v16) then
   if decide (0 ≤ v17) then
    (v15[v17.toNat]?).bind fun x1 =>
     (impl_areCells x1).bind fun x2 =>
      if (!x2) then
       some ([], 2)
      else
       impl_TableLines_p1 v0 v15 v16 v17 x1 (x1.length : Int) 0 r4_0 r4_1 r4_2 r4_3 r4_4 r4_5 r4_6 r4_7 r4_8 r4_9 r4_10 r4_11
   else
    none
  else
   impl_TableLines_p2 v0 (v0.length : Int) 0 r4_0 r4_1 r4_2 r4_3 r4_4 r4_5 r4_6 r4_7 r4_8 r4_9 r4_10 r4_11 [] :=
 (goL_dn _ _ _ 4000 _ _).trans (by kernel_rfl)
theorem impl_TableLines_p1_eq  (v0 : List (List (List UInt8))) (v15 : List (List (List UInt8))) (v16 : Int) (v17 : Int) (v24 : List (List UInt8)) (v25 : Int) (v26 : Int) (r4_0 : Int) (r4_1 : Int) (r4_2 : Int) (r4_3 : Int) (r4_4 : Int) (r4_5 : Int) (r4_6 : Int) (r4_7 : Int) (r4_8 : Int) (r4_9 : Int) (r4_10 : Int) (r4_11 : Int) : impl_TableLines_p1 v0 v15 v16 v17 v24 v25 v26 r4_0 r4_1 r4_2 r4_3 r4_4 r4_5 r4_6 r4_7 r4_8 r4_9 r4_10 r4_11 =
  if decide (v26 < v25) then
   if decide (0 ≤ v26) then
    (v24[v26.toNat]?).bind fun x1 =>
     if decide (v26 = 0) then
      if decide (v26 = 0) then
       impl_TableLines_p1 v0 v15 v16 v17 v24 v25 (IntKind.i64.wrap (v26 + 1)) (if (x1.length : Int) > r4_0 then (x1.length : Int) else r4_0) r4_1 r4_2 r4_3 r4_4 r4_5 r4_6 r4_7 r4_8 r4_9 r4_10 r4_11
      else
       if decide (v26 = 1) then
        impl_TableLines_p1 v0 v15 v16 v17 v24 v25 (IntKind.i64.wrap (v26 + 1)) r4_0 (if (x1.length : Int) > r4_0 then (x1.length : Int) else r4_0) r4_2 r4_3 r4_4 r4_5 r4_6 r4_7 r4_8 r4_9 r4_10 r4_11
       else
        if decide (v26 = 2) then
         impl_TableLines_p1 v0 v15 v16 v17 v24 v25 (IntKind.i64.wrap (v26 + 1)) r4_0 r4_1 (if (x1.length : Int) > r4_0 then (x1.length : Int) else r4_0) r4_3 r4_4 r4_5 r4_6 r4_7 r4_8 r4_9 r4_10 r4_11
        else
         if decide (v26 = 3) then
          impl_TableLines_p1 v0 v15 v16 v17 v24 v25 (IntKind.i64.wrap (v26 + 1)) r4_0 r4_1 r4_2 (if (x1.length : Int) > r4_0 then (x1.length : Int) else r4_0) r4_4 r4_5 r4_6 r4_7 r4_8 r4_9 r4_10 r4_11
         else
          if decide (v26 = 4) then
           impl_TableLines_p1 v0 v15 v16 v17 v24 v25 (IntKind.i64.wrap (v26 + 1)) r4_0 r4_1 r4_2 r4_3 (if (x1.length : Int) > r4_0 then (x1.length : Int) else r4_0) r4_5 r4_6 r4_7 r4_8 r4_9 r4_10 r4_11
          else
           if decide (v26 = 5) then
            impl_TableLines_p1 v0 v15 v16 v17 v24 v25 (IntKind.i64.wrap (v26 + 1)) r4_0 r4_1 r4_2 r4_3 r4_4 (if (x1.length : Int) > r4_0 then (x1.length : Int) else r4_0) r4_6 r4_7 r4_8 r4_9 r4_10 r4_11
           else
            if decide (v26 = 6) then
             impl_TableLines_p1 v0 v15 v16 v17 v24 v25 (IntKind.i64.wrap (v26 + 1)) r4_0 r4_1 r4_2 r4_3 r4_4 r4_5 (if (x1.length : Int) > r4_0 then (x1.length : Int) else r4_0) r4_7 r4_8 r4_9 r4_10 r4_11
            else
             if decide (v26 = 7) then
              impl_TableLines_p1 v0 v15 v16 v17 v24 v25 (IntKind.i64.wrap (v26 + 1)) r4_0 r4_1 r4_2 r4_3 r4_4 r4_5 r4_6 (if (x1.length : Int) > r4_0 then (x1.length : Int) else r4_0) r4_8 r4_9 r4_10 r4_11
             else
              if decide (v26 = 8) then
               impl_TableLines_p1 v0 v15 v16 v17 v24 v25 (IntKind.i64.wrap (v26 + 1)) r4_0 r4_1 r4_2 r4_3 r4_4 r4_5 r4_6 r4_7 (if (x1.length : Int) > r4_0 then (x1.length : Int) else r4_0) r4_9 r4_10 r4_11
              else
               if decide (v26 = 9) then
                impl_TableLines_p1 v0 v15 v16 v17 v24 v25 (IntKind.i64.wrap (v26 + 1)) r4_0 r4_1 r4_2 r4_3 r4_4 r4_5 r4_6 r4_7 r4_8 (if (x1.length : Int) > r4_0 then (x1.length : Int) else r4_0) r4_10 r4_11
               else
                if decide (v26 = 10) then
                 impl_TableLines_p1 v0 v15 v16 v17 v24 v25 (IntKind.i64.wrap (v26 + 1)) r4_0 r4_1 r4_2 r4_3 r4_4 r4_5 r4_6 r4_7 r4_8 r4_9 (if (x1.length : Int) > r4_0 then (x1.length : Int) else r4_0) r4_11
                else
                 if decide (v26 = 11) then
                  impl_TableLines_p1 v0 v15 v16 v17 v24 v25 (IntKind.i64.wrap (v26 + 1)) r4_0 r4_1 r4_2 r4_3 r4_4 r4_5 r4_6 r4_7 r4_8 r4_9 r4_10 (if (x1.length : Int) > r4_0 then (x1.length : Int) else r4_0)
                 else
                  none
     else
      if decide (v26 = 1) then
       if decide (v26 = 0) then
        impl_TableLines_p1 v0 v15 v16 v17 v24 v25 (IntKind.i64.wrap (v26 + 1)) (if (x1.length : Int) > r4_1 then (x1.length : Int) else r4_1) r4_1 r4_2 r4_3 r4_4 r4_5 r4_6 r4_7 r4_8 r4_9 r4_10 r4_11
       else
        if decide (v26 = 1) then
         impl_TableLines_p1 v0 v15 v16 v17 v24 v25 (IntKind.i64.wrap (v26 + 1)) r4_0 (if (x1.length : Int) > r4_1 then (x1.length : Int) else r4_1) r4_2 r4_3 r4_4 r4_5 r4_6 r4_7 r4_8 r4_9 r4_10 r4_11
        else
         if decide (v26 = 2) then
          impl_TableLines_p1 v0 v15 v16 v17 v24 v25 (IntKind.i64.wrap (v26 + 1)) r4_0 r4_1 (if (x1.length : Int) > r4_1 then (x1.length : Int) else r4_1) r4_3 r4_4 r4_5 r4_6 r4_7 r4_8 r4_9 r4_10 r4_11
         else
          if decide (v26 = 3) then
           impl_TableLines_p1 v0 v15 v16 v17 v24 v25 (IntKind.i64.wrap (v26 + 1)) r4_0 r4_1 r4_2 (if (x1.length : Int) > r4_1 then (x1.length : Int) else r4_1) r4_4 r4_5 r4_6 r4_7 r4_8 r4_9 r4_10 r4_11
          else
           if decide (v26 = 4) then
            impl_TableLines_p1 v0 v15 v16 v17 v24 v25 (IntKind.i64.wrap (v26 + 1)) r4_0 r4_1 r4_2 r4_3 (if (x1.length : Int) > r4_1 then (x1.length : Int) else r4_1) r4_5 r4_6 r4_7 r4_8 r4_9 r4_10 r4_11
           else
            if decide (v26 = 5) then
             impl_TableLines_p1 v0 v15 v16 v17 v24 v25 (IntKind.i64.wrap (v26 + 1)) r4_0 r4_1 r4_2 r4_3 r4_4 (if (x1.length : Int) > r4_1 then (x1.length : Int) else r4_1) r4_6 r4_7 r4_8 r4_9 r4_10 r4_11
            else
             if decide (v26 = 6) then
              impl_TableLines_p1 v0 v15 v16 v17 v24 v25 (IntKind.i64.wrap (v26 + 1)) r4_0 r4_1 r4_2 r4_3 r4_4 r4_5 (if (x1.length : Int) > r4_1 then (x1.length : Int) else r4_1) r4_7 r4_8 r4_9 r4_10 r4_11
             else
              if decide (v26 = 7) then
               impl_TableLines_p1 v0 v15 v16 v17 v24 v25 (IntKind.i64.wrap (v26 + 1)) r4_0 r4_1 r4_2 r4_3 r4_4 r4_5 r4_6 (if (x1.length : Int) > r4_1 then (x1.length : Int) else r4_1) r4_8 r4_9 r4_10 r4_11
              else
               if decide (v26 = 8) then
                impl_TableLines_p1 v0 v15 v16 v17 v24 v25 (IntKind.i64.wrap (v26 + 1)) r4_0 r4_1 r4_2 r4_3 r4_4 r4_5 r4_6 r4_7 (if (x1.length : Int) > r4_1 then (x1.length : Int) else r4_1) r4_9 r4_10 r4_11
               else
                if decide (v26 = 9) then
                 impl_TableLines_p1 v0 v15 v16 v17 v24 v25 (IntKind.i64.wrap (v26 + 1)) r4_0 r4_1 r4_2 r4_3 r4_4 r4_5 r4_6 r4_7 r4_8 (if (x1.length : Int) > r4_1 then (x1.length : Int) else r4_1) r4_10 r4_11
                else
                 if decide (v26 = 10) then
                  impl_TableLines_p1 v0 v15 v16 v17 v24 v25 (IntKind.i64.wrap (v26 + 1)) r4_0 r4_1 r4_2 r4_3 r4_4 r4_5 r4_6 r4_7 r4_8 r4_9 (if (x1.length : Int) > r4_1 then (x1.length : Int) else r4_1) r4_11
                 else
                  if decide (v26 = 11) then
                   impl_TableLines_p1 v0 v15 v16 v17 v24 v25 (IntKind.i64.wrap (v26 + 1)) r4_0 r4_1 r4_2 r4_3 r4_4 r4_5 r4_6 r4_7 r4_8 r4_9 r4_10 (if (x1.length : Int) > r4_1 then (x1.length : Int) else r4_1)
                  else
                   none
      else
       if decide (v26 = 2) then
        if decide (v26 = 0) then
         impl_TableLines_p1 v0 v15 v16 v17 v24 v25 (IntKind.i64.wrap (v26 + 1)) (if (x1.length : Int) > r4_2 then (x1.length : Int) else r4_2) r4_1 r4_2 r4_3 r4_4 r4_5 r4_6 r4_7 r4_8 r4_9 r4_10 r4_11
        else
         if decide (v26 = 1) then
          impl_TableLines_p1 v0 v15 v16 v17 v24 v25 (IntKind.i64.wrap (v26 + 1)) r4_0 (if (x1.length : Int) > r4_2 then (x1.length : Int) else r4_2) r4_2 r4_3 r4_4 r4_5 r4_6 r4_7 r4_8 r4_9 r4_10 r4_11
         else
          if decide (v26 = 2) then
           impl_TableLines_p1 v0 v15 v16 v17 v24 v25 (IntKind.i64.wrap (v26 + 1)) r4_0 r4_1 (if (x1.length : Int) > r4_2 then (x1.length : Int) else r4_2) r4_3 r4_4 r4_5 r4_6 r4_7 r4_8 r4_9 r4_10 r4_11
          else
           if decide (v26 = 3) then
            impl_TableLines_p1 v0 v15 v16 v17 v24 v25 (IntKind.i64.wrap (v26 + 1)) r4_0 r4_1 r4_2 (if (x1.length : Int) > r4_2 then (x1.length : Int) else r4_2) r4_4 r4_5 r4_6 r4_7 r4_8 r4_9 r4_10 r4_11
           else
            if decide (v26 = 4) then
             impl_TableLines_p1 v0 v15 v16 v17 v24 v25 (IntKind.i64.wrap (v26 + 1)) r4_0 r4_1 r4_2 r4_3 (if (x1.length : Int) > r4_2 then (x1.length : Int) else r4_2) r4_5 r4_6 r4_7 r4_8 r4_9 r4_10 r4_11
            else
             if decide (v26 = 5) then
              impl_TableLines_p1 v0 v15 v16 v17 v24 v25 (IntKind.i64.wrap (v26 + 1)) r4_0 r4_1 r4_2 r4_3 r4_4 (if (x1.length : Int) > r4_2 then (x1.length : Int) else r4_2) r4_6 r4_7 r4_8 r4_9 r4_10 r4_11
             else
              if decide (v26 = 6) then
               impl_TableLines_p1 v0 v15 v16 v17 v24 v25 (IntKind.i64.wrap (v26 + 1)) r4_0 r4_1 r4_2 r4_3 r4_4 r4_5 (if (x1.length : Int) > r4_2 then (x1.length : Int) else r4_2) r4_7 r4_8 r4_9 r4_10 r4_11
              else
               if decide (v26 = 7) then
                impl_TableLines_p1 v0 v15 v16 v17 v24 v25 (IntKind.i64.wrap (v26 + 1)) r4_0 r4_1 r4_2 r4_3 r4_4 r4_5 r4_6 (if (x1.length : Int) > r4_2 then (x1.length : Int) else r4_2) r4_8 r4_9 r4_10 r4_11
               else
                if decide (v26 = 8) then
                 impl_TableLines_p1 v0 v15 v16 v17 v24 v25 (IntKind.i64.wrap (v26 + 1)) r4_0 r4_1 r4_2 r4_3 r4_4 r4_5 r4_6 r4_7 (if (x1.length : Int) > r4_2 then (x1.length : Int) else r4_2) r4_9 r4_10 r4_11
                else
                 if decide (v26 = 9) then
                  impl_TableLines_p1 v0 v15 v16 v17 v24 v25 (IntKind.i64.wrap (v26 + 1)) r4_0 r4_1 r4_2 r4_3 r4_4 r4_5 r4_6 r4_7 r4_8 (if (x1.length : Int) > r4_2 then (x1.length : Int) else r4_2) r4_10 r4_11
                 else
                  if decide (v26 = 10) then
                   impl_TableLines_p1 v0 v15 v16 v17 v24 v25 (IntKind.i64.wrap (v26 + 1)) r4_0 r4_1 r4_2 r4_3 r4_4 r4_5 r4_6 r4_7 r4_8 r4_9 (if (x1.length : Int) > r4_2 then (x1.length : Int) else r4_2) r4_11
                  else
                   if decide (v26 = 11) then
                    impl_TableLines_p1 v0 v15 v16 v17 v24 v25 (IntKind.i64.wrap (v26 + 1)) r4_0 r4_1 r4_2 r4_3 r4_4 r4_5 r4_6 r4_7 r4_8 r4_9 r4_10 (if (x1.length : Int) > r4_2 then (x1.length : Int) else r4_2)
                   else
                    none
       else
        if decide (v26 = 3) then
         if decide (v26 = 0) then
          impl_TableLines_p1 v0 v15 v16 v17 v24 v25 (IntKind.i64.wrap (v26 + 1)) (if (x1.length : Int) > r4_3 then (x1.length : Int) else r4_3) r4_1 r4_2 r4_3 r4_4 r4_5 r4_6 r4_7 r4_8 r4_9 r4_10 r4_11
         else
          if decide (v26 = 1) then
           impl_TableLines_p1 v0 v15 v16 v17 v24 v25 (IntKind.i64.wrap (v26 + 1)) r4_0 (if (x1.length : Int) > r4_3 then (x1.length : Int) else r4_3) r4_2 r4_3 r4_4 r4_5 r4_6 r4_7 r4_8 r4_9 r4_10 r4_11
          else
           if decide (v26 = 2) then
            impl_TableLines_p1 v0 v15 v16 v17 v24 v25 (IntKind.i64.wrap (v26 + 1)) r4_0 r4_1 (if (x1.length : Int) > r4_3 then (x1.length : Int) else r4_3) r4_3 r4_4 r4_5 r4_6 r4_7 r4_8 r4_9 r4_10 r4_11
           else
            if decide (v26 = 3) then
             impl_TableLines_p1 v0 v15 v16 v17 v24 v25 (IntKind.i64.wrap (v26 + 1)) r4_0 r4_1 r4_2 (if (x1.length : Int) > r4_3 then (x1.length : Int) else r4_3) r4_4 r4_5 r4_6 r4_7 r4_8 r4_9 r4_10 r4_11
            else
             if decide (v26 = 4) then
              impl_TableLines_p1 v0 v15 v16 v17 v24 v25 (IntKind.i64.wrap (v26 + 1)) r4_0 r4_1 r4_2 r4_3 (if (x1.length : Int) > r4_3 then (x1.length : Int) else r4_3) r4_5 r4_6 r4_7 r4_8 r4_9 r4_10 r4_11
             else
              if decide (v26 = 5) then
               impl_TableLines_p1 v0 v15 v16 v17 v24 v25 (IntKind.i64.wrap (v26 + 1)) r4_0 r4_1 r4_2 r4_3 r4_4 (if (x1.length : Int) > r4_3 then (x1.length : Int) else r4_3) r4_6 r4_7 r4_8 r4_9 r4_10 r4_11
              else
               if decide (v26 = 6) then
                impl_TableLines_p1 v0 v15 v16 v17 v24 v25 (IntKind.i64.wrap (v26 + 1)) r4_0 r4_1 r4_2 r4_3 r4_4 r4_5 (if (x1.length : Int) > r4_3 then (x1.length : Int) else r4_3) r4_7 r4_8 r4_9 r4_10 r4_11
               else
                if decide (v26 = 7) then
                 impl_TableLines_p1 v0 v15 v16 v17 v24 v25 (IntKind.i64.wrap (v26 + 1)) r4_0 r4_1 r4_2 r4_3 r4_4 r4_5 r4_6 (if (x1.length : Int) > r4_3 then (x1.length : Int) else r4_3) r4_8 r4_9 r4_10 r4_11
                else
                 if decide (v26 = 8) then
                  impl_TableLines_p1 v0 v15 v16 v17 v24 v25 (IntKind.i64.wrap (v26 + 1)) r4_0 r4_1 r4_2 r4_3 r4_4 r4_5 r4_6 r4_7 (if (x1.length : Int) > r4_3 then (x1.length : Int) else r4_3) r4_9 r4_10 r4_11
                 else
                  if decide (v26 = 9) then
                   impl_TableLines_p1 v0 v15 v16 v17 v24 v25 (IntKind.i64.wrap (v26 + 1)) r4_0 r4_1 r4_2 r4_3 r4_4 r4_5 r4_6 r4_7 r4_8 (if (x1.length : Int) > r4_3 then (x1.length : Int) else r4_3) r4_10 r4_11
                  else
                   if decide (v26 = 10) then
                    impl_TableLines_p1 v0 v15 v16 v17 v24 v25 (IntKind.i64.wrap (v26 + 1)) r4_0 r4_1 r4_2 r4_3 r4_4 r4_5 r4_6 r4_7 r4_8 r4_9 (if (x1.length : Int) > r4_3 then (x1.length : Int) else r4_3) r4_11
                   else
                    if decide (v26 = 11) then
                     impl_TableLines_p1 v0 v15 v16 v17 v24 v25 (IntKind.i64.wrap (v26 + 1)) r4_0 r4_1 r4_2 r4_3 r4_4 r4_5 r4_6 r4_7 r4_8 r4_9 r4_10 (if (x1.length : Int) > r4_3 then (x1.length : Int) else r4_3)
                    else
                     none
        else
         if decide (v26 = 4) then
          if decide (v26 = 0) then
           impl_TableLines_p1 v0 v15 v16 v17 v24 v25 (IntKind.i64.wrap (v26 + 1)) (if (x1.length : Int) > r4_4 then (x1.length : Int) else r4_4) r4_1 r4_2 r4_3 r4_4 r4_5 r4_6 r4_7 r4_8 r4_9 r4_10 r4_11
          else
           if decide (v26 = 1) then
            impl_TableLines_p1 v0 v15 v16 v17 v24 v25 (IntKind.i64.wrap (v26 + 1)) r4_0 (if (x1.length : Int) > r4_4 then (x1.length : Int) else r4_4) r4_2 r4_3 r4_4 r4_5 r4_6 r4_7 r4_8 r4_9 r4_10 r4_11
           else
            if decide (v26 = 2) then
             impl_TableLines_p1 v0 v15 v16 v17 v24 v25 (IntKind.i64.wrap (v26 + 1)) r4_0 r4_1 (if (x1.length : Int) > r4_4 then (x1.length : Int) else r4_4) r4_3 r4_4 r4_5 r4_6 r4_7 r4_8 r4_9 r4_10 r4_11
            else
             if decide (v26 = 3) then
              impl_TableLines_p1 v0 v15 v16 v17 v24 v25 (IntKind.i64.wrap (v26 + 1)) r4_0 r4_1 r4_2 (if (x1.length : Int) > r4_4 then (x1.length : Int) else r4_4) r4_4 r4_5 r4_6 r4_7 r4_8 r4_9 r4_10 r4_11
             else
              if decide (v26 = 4) then
               impl_TableLines_p1 v0 v15 v16 v17 v24 v25 (IntKind.i64.wrap (v26 + 1)) r4_0 r4_1 r4_2 r4_3 (if (x1.length : Int) > r4_4 then (x1.length : Int) else r4_4) r4_5 r4_6 r4_7 r4_8 r4_9 r4_10 r4_11
              else
               if decide (v26 = 5) then
                impl_TableLines_p1 v0 v15 v16 v17 v24 v25 (IntKind.i64.wrap (v26 + 1)) r4_0 r4_1 r4_2 r4_3 r4_4 (if (x1.length : Int) > r4_4 then (x1.length : Int) else r4_4) r4_6 r4_7 r4_8 r4_9 r4_10 r4_11
               else
                if decide (v26 = 6) then
                 impl_TableLines_p1 v0 v15 v16 v17 v24 v25 (IntKind.i64.wrap (v26 + 1)) r4_0 r4_1 r4_2 r4_3 r4_4 r4_5 (if (x1.length : Int) > r4_4 then (x1.length : Int) else r4_4) r4_7 r4_8 r4_9 r4_10 r4_11
                else
                 if decide (v26 = 7) then
                  impl_TableLines_p1 v0 v15 v16 v17 v24 v25 (IntKind.i64.wrap (v26 + 1)) r4_0 r4_1 r4_2 r4_3 r4_4 r4_5 r4_6 (if (x1.length : Int) > r4_4 then (x1.length : Int) else r4_4) r4_8 r4_9 r4_10 r4_11
                 else
                  if decide (v26 = 8) then
                   impl_TableLines_p1 v0 v15 v16 v17 v24 v25 (IntKind.i64.wrap (v26 + 1)) r4_0 r4_1 r4_2 r4_3 r4_4 r4_5 r4_6 r4_7 (if (x1.length : Int) > r4_4 then (x1.length : Int) else r4_4) r4_9 r4_10 r4_11
                  else
                   if decide (v26 = 9) then
                    impl_TableLines_p1 v0 v15 v16 v17 v24 v25 (IntKind.i64.wrap (v26 + 1)) r4_0 r4_1 r4_2 r4_3 r4_4 r4_5 r4_6 r4_7 r4_8 (if (x1.length : Int) > r4_4 then (x1.length : Int) else r4_4) r4_10 r4_11
                   else
                    if decide (v26 = 10) then
                     impl_TableLines_p1 v0 v15 v16 v17 v24 v25 (IntKind.i64.wrap (v26 + 1)) r4_0 r4_1 r4_2 r4_3 r4_4 r4_5 r4_6 r4_7 r4_8 r4_9 (if (x1.length : Int) > r4_4 then (x1.length : Int) else r4_4) r4_11
                    else
                     if decide (v26 = 11) then
                      impl_TableLines_p1 v0 v15 v16 v17 v24 v25 (IntKind.i64.wrap (v26 + 1)) r4_0 r4_1 r4_2 r4_3 r4_4 r4_5 r4_6 r4_7 r4_8 r4_9 r4_10 (if (x1.length : Int) > r4_4 then (x1.length : Int) else r4_4)
                     else
                      none
         else
          if decide (v26 = 5) then
           if decide (v26 = 0) then
            impl_TableLines_p1 v0 v15 v16 v17 v24 v25 (IntKind.i64.wrap (v26 + 1)) (if (x1.length : Int) > r4_5 then (x1.length : Int) else r4_5) r4_1 r4_2 r4_3 r4_4 r4_5 r4_6 r4_7 r4_8 r4_9 r4_10 r4_11
           else
            if decide (v26 = 1) then
             impl_TableLines_p1 v0 v15 v16 v17 v24 v25 (IntKind.i64.wrap (v26 + 1)) r4_0 (if (x1.length : Int) > r4_5 then (x1.length : Int) else r4_5) r4_2 r4_3 r4_4 r4_5 r4_6 r4_7 r4_8 r4_9 r4_10 r4_11
            else
             if decide (v26 = 2) then
              impl_TableLines_p1 v0 v15 v16 v17 v24 v25 (IntKind.i64.wrap (v26 + 1)) r4_0 r4_1 (if (x1.length : Int) > r4_5 then (x1.length : Int) else r4_5) r4_3 r4_4 r4_5 r4_6 r4_7 r4_8 r4_9 r4_10 r4_11
             else
              if decide (v26 = 3) then
               impl_TableLines_p1 v0 v15 v16 v17 v24 v25 (IntKind.i64.wrap (v26 + 1)) r4_0 r4_1 r4_2 (if (x1.length : Int) > r4_5 then (x1.length : Int) else r4_5) r4_4 r4_5 r4_6 r4_7 r4_8 r4_9 r4_10 r4_11
              else
               if decide (v26 = 4) then
                impl_TableLines_p1 v0 v15 v16 v17 v24 v25 (IntKind.i64.wrap (v26 + 1)) r4_0 r4_1 r4_2 r4_3 (if (x1.length : Int) > r4_5 then (x1.length : Int) else r4_5) r4_5 r4_6 r4_7 r4_8 r4_9 r4_10 r4_11
               else
                if decide (v26 = 5) then
                 impl_TableLines_p1 v0 v15 v16 v17 v24 v25 (IntKind.i64.wrap (v26 + 1)) r4_0 r4_1 r4_2 r4_3 r4_4 (if (x1.length : Int) > r4_5 then (x1.length : Int) else r4_5) r4_6 r4_7 r4_8 r4_9 r4_10 r4_11
                else
                 if decide (v26 = 6) then
                  impl_TableLines_p1 v0 v15 v16 v17 v24 v25 (IntKind.i64.wrap (v26 + 1)) r4_0 r4_1 r4_2 r4_3 r4_4 r4_5 (if (x1.length : Int) > r4_5 then (x1.length : Int) else r4_5) r4_7 r4_8 r4_9 r4_10 r4_11
                 else
                  if decide (v26 = 7) then
                   impl_TableLines_p1 v0 v15 v16 v17 v24 v25 (IntKind.i64.wrap (v26 + 1)) r4_0 r4_1 r4_2 r4_3 r4_4 r4_5 r4_6 (if (x1.length : Int) > r4_5 then (x1.length : Int) else r4_5) r4_8 r4_9 r4_10 r4_11
                  else
                   if decide (v26 = 8) then
                    impl_TableLines_p1 v0 v15 v16 v17 v24 v25 (IntKind.i64.wrap (v26 + 1)) r4_0 r4_1 r4_2 r4_3 r4_4 r4_5 r4_6 r4_7 (if (x1.length : Int) > r4_5 then (x1.length : Int) else r4_5) r4_9 r4_10 r4_11
                   else
                    if decide (v26 = 9) then
                     impl_TableLines_p1 v0 v15 v16 v17 v24 v25 (IntKind.i64.wrap (v26 + 1)) r4_0 r4_1 r4_2 r4_3 r4_4 r4_5 r4_6 r4_7 r4_8 (if (x1.length : Int) > r4_5 then (x1.length : Int) else r4_5) r4_10 r4_11
                    else
                     if decide (v26 = 10) then
                      impl_TableLines_p1 v0 v15 v16 v17 v24 v25 (IntKind.i64.wrap (v26 + 1)) r4_0 r4_1 r4_2 r4_3 r4_4 r4_5 r4_6 r4_7 r4_8 r4_9 (if (x1.length : Int) > r4_5 then (x1.length : Int) else r4_5) r4_11
                     else
                      if decide (v26 = 11) then
                       impl_TableLines_p1 v0 v15 v16 v17 v24 v25 (IntKind.i64.wrap (v26 + 1)) r4_0 r4_1 r4_2 r4_3 r4_4 r4_5 r4_6 r4_7 r4_8 r4_9 r4_10 (if (x1.length : Int) > r4_5 then (x1.length : Int) else r4_5)
                      else
                       none
          else
           if decide (v26 = 6) then
            if decide (v26 = 0) then
             impl_TableLines_p1 v0 v15 v16 v17 v24 v25 (IntKind.i64.wrap (v26 + 1)) (if (x1.length : Int) > r4_6 then (x1.length : Int) else r4_6) r4_1 r4_2 r4_3 r4_4 r4_5 r4_6 r4_7 r4_8 r4_9 r4_10 r4_11
            else
             if decide (v26 = 1) then
              impl_TableLines_p1 v0 v15 v16 v17 v24 v25 (IntKind.i64.wrap (v26 + 1)) r4_0 (if (x1.length : Int) > r4_6 then (x1.length : Int) else r4_6) r4_2 r4_3 r4_4 r4_5 r4_6 r4_7 r4_8 r4_9 r4_10 r4_11
             else
              if decide (v26 = 2) then
               impl_TableLines_p1 v0 v15 v16 v17 v24 v25 (IntKind.i64.wrap (v26 + 1)) r4_0 r4_1 (if (x1.length : Int) > r4_6 then (x1.length : Int) else r4_6) r4_3 r4_4 r4_5 r4_6 r4_7 r4_8 r4_9 r4_10 r4_11
              else
               if decide (v26 = 3) then
                impl_TableLines_p1 v0 v15 v16 v17 v24 v25 (IntKind.i64.wrap (v26 + 1)) r4_0 r4_1 r4_2 (if (x1.length : Int) > r4_6 then (x1.length : Int) else r4_6) r4_4 r4_5 r4_6 r4_7 r4_8 r4_9 r4_10 r4_11
               else
                if decide (v26 = 4) then
                 impl_TableLines_p1 v0 v15 v16 v17 v24 v25 (IntKind.i64.wrap (v26 + 1)) r4_0 r4_1 r4_2 r4_3 (if (x1.length : Int) > r4_6 then (x1.length : Int) else r4_6) r4_5 r4_6 r4_7 r4_8 r4_9 r4_10 r4_11
                else
                 if decide (v26 = 5) then
                  impl_TableLines_p1 v0 v15 v16 v17 v24 v25 (IntKind.i64.wrap (v26 + 1)) r4_0 r4_1 r4_2 r4_3 r4_4 (if (x1.length : Int) > r4_6 then (x1.length : Int) else r4_6) r4_6 r4_7 r4_8 r4_9 r4_10 r4_11
                 else
                  if decide (v26 = 6) then
                   impl_TableLines_p1 v0 v15 v16 v17 v24 v25 (IntKind.i64.wrap (v26 + 1)) r4_0 r4_1 r4_2 r4_3 r4_4 r4_5 (if (x1.length : Int) > r4_6 then (x1.length : Int) else r4_6) r4_7 r4_8 r4_9 r4_10 r4_11
                  else
                   if decide (v26 = 7) then
                    impl_TableLines_p1 v0 v15 v16 v17 v24 v25 (IntKind.i64.wrap (v26 + 1)) r4_0 r4_1 r4_2 r4_3 r4_4 r4_5 r4_6 (if (x1.length : Int) > r4_6 then (x1.length : Int) else r4_6) r4_8 r4_9 r4_10 r4_11
                   else
                    if decide (v26 = 8) then
                     impl_TableLines_p1 v0 v15 v16 v17 v24 v25 (IntKind.i64.wrap (v26 + 1)) r4_0 r4_1 r4_2 r4_3 r4_4 r4_5 r4_6 r4_7 (if (x1.length : Int) > r4_6 then (x1.length : Int) else r4_6) r4_9 r4_10 r4_11
                    else
                     if decide (v26 = 9) then
                      impl_TableLines_p1 v0 v15 v16 v17 v24 v25 (IntKind.i64.wrap (v26 + 1)) r4_0 r4_1 r4_2 r4_3 r4_4 r4_5 r4_6 r4_7 r4_8 (if (x1.length : Int) > r4_6 then (x1.length : Int) else r4_6) r4_10 r4_11
                     else
                      if decide (v26 = 10) then
                       impl_TableLines_p1 v0 v15 v16 v17 v24 v25 (IntKind.i64.wrap (v26 + 1)) r4_0 r4_1 r4_2 r4_3 r4_4 r4_5 r4_6 r4_7 r4_8 r4_9 (if (x1.length : Int) > r4_6 then (x1.length : Int) else r4_6) r4_11
                      else
                       if decide (v26 = 11) then
                        impl_TableLines_p1 v0 v15 v16 v17 v24 v25 (IntKind.i64.wrap (v26 + 1)) r4_0 r4_1 r4_2 r4_3 r4_4 r4_5 r4_6 r4_7 r4_8 r4_9 r4_10 (if (x1.length : Int) > r4_6 then (x1.length : Int) else r4_6)
                       else
                        none
           else
            if decide (v26 = 7) then
             if decide (v26 = 0) then
              impl_TableLines_p1 v0 v15 v16 v17 v24 v25 (IntKind.i64.wrap (v26 + 1)) (if (x1.length : Int) > r4_7 then (x1.length : Int) else r4_7) r4_1 r4_2 r4_3 r4_4 r4_5 r4_6 r4_7 r4_8 r4_9 r4_10 r4_11
             else
              if decide (v26 = 1) then
               impl_TableLines_p1 v0 v15 v16 v17 v24 v25 (IntKind.i64.wrap (v26 + 1)) r4_0 (if (x1.length : Int) > r4_7 then (x1.length : Int) else r4_7) r4_2 r4_3 r4_4 r4_5 r4_6 r4_7 r4_8 r4_9 r4_10 r4_11
              else
               if decide (v26 = 2) then
                impl_TableLines_p1 v0 v15 v16 v17 v24 v25 (IntKind.i64.wrap (v26 + 1)) r4_0 r4_1 (if (x1.length : Int) > r4_7 then (x1.length : Int) else r4_7) r4_3 r4_4 r4_5 r4_6 r4_7 r4_8 r4_9 r4_10 r4_11
               else
                if decide (v26 = 3) then
                 impl_TableLines_p1 v0 v15 v16 v17 v24 v25 (IntKind.i64.wrap (v26 + 1)) r4_0 r4_1 r4_2 (if (x1.length : Int) > r4_7 then (x1.length : Int) else r4_7) r4_4 r4_5 r4_6 r4_7 r4_8 r4_9 r4_10 r4_11
                else
                 if decide (v26 = 4) then
                  impl_TableLines_p1 v0 v15 v16 v17 v24 v25 (IntKind.i64.wrap (v26 + 1)) r4_0 r4_1 r4_2 r4_3 (if (x1.length : Int) > r4_7 then (x1.length : Int) else r4_7) r4_5 r4_6 r4_7 r4_8 r4_9 r4_10 r4_11
                 else
                  if decide (v26 = 5) then
                   impl_TableLines_p1 v0 v15 v16 v17 v24 v25 (IntKind.i64.wrap (v26 + 1)) r4_0 r4_1 r4_2 r4_3 r4_4 (if (x1.length : Int) > r4_7 then (x1.length : Int) else r4_7) r4_6 r4_7 r4_8 r4_9 r4_10 r4_11
                  else
                   if decide (v26 = 6) then
                    impl_TableLines_p1 v0 v15 v16 v17 v24 v25 (IntKind.i64.wrap (v26 + 1)) r4_0 r4_1 r4_2 r4_3 r4_4 r4_5 (if (x1.length : Int) > r4_7 then (x1.length : Int) else r4_7) r4_7 r4_8 r4_9 r4_10 r4_11
                   else
                    if decide (v26 = 7) then
                     impl_TableLines_p1 v0 v15 v16 v17 v24 v25 (IntKind.i64.wrap (v26 + 1)) r4_0 r4_1 r4_2 r4_3 r4_4 r4_5 r4_6 (if (x1.length : Int) > r4_7 then (x1.length : Int) else r4_7) r4_8 r4_9 r4_10 r4_11
                    else
                     if decide (v26 = 8) then
                      impl_TableLines_p1 v0 v15 v16 v17 v24 v25 (IntKind.i64.wrap (v26 + 1)) r4_0 r4_1 r4_2 r4_3 r4_4 r4_5 r4_6 r4_7 (if (x1.length : Int) > r4_7 then (x1.length : Int) else r4_7) r4_9 r4_10 r4_11
                     else
                      if decide (v26 = 9) then
                       impl_TableLines_p1 v0 v15 v16 v17 v24 v25 (IntKind.i64.wrap (v26 + 1)) r4_0 r4_1 r4_2 r4_3 r4_4 r4_5 r4_6 r4_7 r4_8 (if (x1.length : Int) > r4_7 then (x1.length : Int) else r4_7) r4_10 r4_11
                      else
                       if decide (v26 = 10) then
                        impl_TableLines_p1 v0 v15 v16 v17 v24 v25 (IntKind.i64.wrap (v26 + 1)) r4_0 r4_1 r4_2 r4_3 r4_4 r4_5 r4_6 r4_7 r4_8 r4_9 (if (x1.length : Int) > r4_7 then (x1.length : Int) else r4_7) r4_11
                       else
                        if decide (v26 = 11) then
                         impl_TableLines_p1 v0 v15 v16 v17 v24 v25 (IntKind.i64.wrap (v26 + 1)) r4_0 r4_1 r4_2 r4_3 r4_4 r4_5 r4_6 r4_7 r4_8 r4_9 r4_10 (if (x1.length : Int) > r4_7 then (x1.length : Int) else r4_7)
                        else
                         none
            else
             if decide (v26 = 8) then
              if decide (v26 = 0) then
               impl_TableLines_p1 v0 v15 v16 v17 v24 v25 (IntKind.i64.wrap (v26 + 1)) (if (x1.length : Int) > r4_8 then (x1.length : Int) else r4_8) r4_1 r4_2 r4_3 r4_4 r4_5 r4_6 r4_7 r4_8 r4_9 r4_10 r4_11
              else
               if decide (v26 = 1) then
                impl_TableLines_p1 v0 v15 v16 v17 v24 v25 (IntKind.i64.wrap (v26 + 1)) r4_0 (if (x1.length : Int) > r4_8 then (x1.length : Int) else r4_8) r4_2 r4_3 r4_4 r4_5 r4_6 r4_7 r4_8 r4_9 r4_10 r4_11
               else
                if decide (v26 = 2) then
                 impl_TableLines_p1 v0 v15 v16 v17 v24 v25 (IntKind.i64.wrap (v26 + 1)) r4_0 r4_1 (if (x1.length : Int) > r4_8 then (x1.length : Int) else r4_8) r4_3 r4_4 r4_5 r4_6 r4_7 r4_8 r4_9 r4_10 r4_11
                else
                 if decide (v26 = 3) then
                  impl_TableLines_p1 v0 v15 v16 v17 v24 v25 (IntKind.i64.wrap (v26 + 1)) r4_0 r4_1 r4_2 (if (x1.length : Int) > r4_8 then (x1.length : Int) else r4_8) r4_4 r4_5 r4_6 r4_7 r4_8 r4_9 r4_10 r4_11
                 else
                  if decide (v26 = 4) then
                   impl_TableLines_p1 v0 v15 v16 v17 v24 v25 (IntKind.i64.wrap (v26 + 1)) r4_0 r4_1 r4_2 r4_3 (if (x1.length : Int) > r4_8 then (x1.length : Int) else r4_8) r4_5 r4_6 r4_7 r4_8 r4_9 r4_10 r4_11
                  else
                   if decide (v26 = 5) then
                    impl_TableLines_p1 v0 v15 v16 v17 v24 v25 (IntKind.i64.wrap (v26 + 1)) r4_0 r4_1 r4_2 r4_3 r4_4 (if (x1.length : Int) > r4_8 then (x1.length : Int) else r4_8) r4_6 r4_7 r4_8 r4_9 r4_10 r4_11
                   else
                    if decide (v26 = 6) then
                     impl_TableLines_p1 v0 v15 v16 v17 v24 v25 (IntKind.i64.wrap (v26 + 1)) r4_0 r4_1 r4_2 r4_3 r4_4 r4_5 (if (x1.length : Int) > r4_8 then (x1.length : Int) else r4_8) r4_7 r4_8 r4_9 r4_10 r4_11
                    else
                     if decide (v26 = 7) then
                      impl_TableLines_p1 v0 v15 v16 v17 v24 v25 (IntKind.i64.wrap (v26 + 1)) r4_0 r4_1 r4_2 r4_3 r4_4 r4_5 r4_6 (if (x1.length : Int) > r4_8 then (x1.length : Int) else r4_8) r4_8 r4_9 r4_10 r4_11
                     else
                      if decide (v26 = 8) then
                       impl_TableLines_p1 v0 v15 v16 v17 v24 v25 (IntKind.i64.wrap (v26 + 1)) r4_0 r4_1 r4_2 r4_3 r4_4 r4_5 r4_6 r4_7 (if (x1.length : Int) > r4_8 then (x1.length : Int) else r4_8) r4_9 r4_10 r4_11
                      else
                       if decide (v26 = 9) then
                        impl_TableLines_p1 v0 v15 v16 v17 v24 v25 (IntKind.i64.wrap (v26 + 1)) r4_0 r4_1 r4_2 r4_3 r4_4 r4_5 r4_6 r4_7 r4_8 (if (x1.length : Int) > r4_8 then (x1.length : Int) else r4_8) r4_10 r4_11
                       else
                        if decide (v26 = 10) then
                         impl_TableLines_p1 v0 v15 v16 v17 v24 v25 (IntKind.i64.wrap (v26 + 1)) r4_0 r4_1 r4_2 r4_3 r4_4 r4_5 r4_6 r4_7 r4_8 r4_9 (if (x1.length : Int) > r4_8 then (x1.length : Int) else r4_8) r4_11
                        else
                         if decide (v26 = 11) then
                          impl_TableLines_p1 v0 v15 v16 v17 v24 v25 (IntKind.i64.wrap (v26 + 1)) r4_0 r4_1 r4_2 r4_3 r4_4 r4_5 r4_6 r4_7 r4_8 r4_9 r4_10 (if (x1.length : Int) > r4_8 then (x1.length : Int) else r4_8)
                         else
                          none
             else
              if decide (v26 = 9) then
               if decide (v26 = 0) then
                impl_TableLines_p1 v0 v15 v16 v17 v24 v25 (IntKind.i64.wrap (v26 + 1)) (if (x1.length : Int) > r4_9 then (x1.length : Int) else r4_9) r4_1 r4_2 r4_3 r4_4 r4_5 r4_6 r4_7 r4_8 r4_9 r4_10 r4_11
               else
                if decide (v26 = 1) then
                 impl_TableLines_p1 v0 v15 v16 v17 v24 v25 (IntKind.i64.wrap (v26 + 1)) r4_0 (if (x1.length : Int) > r4_9 then (x1.length : Int) else r4_9) r4_2 r4_3 r4_4 r4_5 r4_6 r4_7 r4_8 r4_9 r4_10 r4_11
                else
                 if decide (v26 = 2) then
                  impl_TableLines_p1 v0 v15 v16 v17 v24 v25 (IntKind.i64.wrap (v26 + 1)) r4_0 r4_1 (if (x1.length : Int) > r4_9 then (x1.length : Int) else r4_9) r4_3 r4_4 r4_5 r4_6 r4_7 r4_8 r4_9 r4_10 r4_11
                 else
                  if decide (v26 = 3) then
                   impl_TableLines_p1 v0 v15 v16 v17 v24 v25 (IntKind.i64.wrap (v26 + 1)) r4_0 r4_1 r4_2 (if (x1.length : Int) > r4_9 then (x1.length : Int) else r4_9) r4_4 r4_5 r4_6 r4_7 r4_8 r4_9 r4_10 r4_11
                  else
                   if decide (v26 = 4) then
                    impl_TableLines_p1 v0 v15 v16 v17 v24 v25 (IntKind.i64.wrap (v26 + 1)) r4_0 r4_1 r4_2 r4_3 (if (x1.length : Int) > r4_9 then (x1.length : Int) else r4_9) r4_5 r4_6 r4_7 r4_8 r4_9 r4_10 r4_11
                   else
                    if decide (v26 = 5) then
                     impl_TableLines_p1 v0 v15 v16 v17 v24 v25 (IntKind.i64.wrap (v26 + 1)) r4_0 r4_1 r4_2 r4_3 r4_4 (if (x1.length : Int) > r4_9 then (x1.length : Int) else r4_9) r4_6 r4_7 r4_8 r4_9 r4_10 r4_11
                    else
                     if decide (v26 = 6) then
                      impl_TableLines_p1 v0 v15 v16 v17 v24 v25 (IntKind.i64.wrap (v26 + 1)) r4_0 r4_1 r4_2 r4_3 r4_4 r4_5 (if (x1.length : Int) > r4_9 then (x1.length : Int) else r4_9) r4_7 r4_8 r4_9 r4_10 r4_11
                     else
                      if decide (v26 = 7) then
                       impl_TableLines_p1 v0 v15 v16 v17 v24 v25 (IntKind.i64.wrap (v26 + 1)) r4_0 r4_1 r4_2 r4_3 r4_4 r4_5 r4_6 (if (x1.length : Int) > r4_9 then (x1.length : Int) else r4_9) r4_8 r4_9 r4_10 r4_11
                      else
                       if decide (v26 = 8) then
                        impl_TableLines_p1 v0 v15 v16 v17 v24 v25 (IntKind.i64.wrap (v26 + 1)) r4_0 r4_1 r4_2 r4_3 r4_4 r4_5 r4_6 r4_7 (if (x1.length : Int) > r4_9 then (x1.length : Int) else r4_9) r4_9 r4_10 r4_11
                       else
                        if decide (v26 = 9) then
                         impl_TableLines_p1 v0 v15 v16 v17 v24 v25 (IntKind.i64.wrap (v26 + 1)) r4_0 r4_1 r4_2 r4_3 r4_4 r4_5 r4_6 r4_7 r4_8 (if (x1.length : Int) > r4_9 then (x1.length : Int) else r4_9) r4_10 r4_11
                        else
                         if decide (v26 = 10) then
                          impl_TableLines_p1 v0 v15 v16 v17 v24 v25 (IntKind.i64.wrap (v26 + 1)) r4_0 r4_1 r4_2 r4_3 r4_4 r4_5 r4_6 r4_7 r4_8 r4_9 (if (x1.length : Int) > r4_9 then (x1.length : Int) else r4_9) r4_11
                         else
                          if decide (v26 = 11) then
                           impl_TableLines_p1 v0 v15 v16 v17 v24 v25 (IntKind.i64.wrap (v26 + 1)) r4_0 r4_1 r4_2 r4_3 r4_4 r4_5 r4_6 r4_7 r4_8 r4_9 r4_10 (if (x1.length : Int) > r4_9 then (x1.length : Int) else r4_9)
                          else
                           none
              else
               if decide (v26 = 10) then
                if decide (v26 = 0) then
                 impl_TableLines_p1 v0 v15 v16 v17 v24 v25 (IntKind.i64.wrap (v26 + 1)) (if (x1.length : Int) > r4_10 then (x1.length : Int) else r4_10) r4_1 r4_2 r4_3 r4_4 r4_5 r4_6 r4_7 r4_8 r4_9 r4_10 r4_11
                else
                 if decide (v26 = 1) then
                  impl_TableLines_p1 v0 v15 v16 v17 v24 v25 (IntKind.i64.wrap (v26 + 1)) r4_0 (if (x1.length : Int) > r4_10 then (x1.length : Int) else r4_10) r4_2 r4_3 r4_4 r4_5 r4_6 r4_7 r4_8 r4_9 r4_10 r4_11
                 else
                  if decide (v26 = 2) then
                   impl_TableLines_p1 v0 v15 v16 v17 v24 v25 (IntKind.i64.wrap (v26 + 1)) r4_0 r4_1 (if (x1.length : Int) > r4_10 then (x1.length : Int) else r4_10) r4_3 r4_4 r4_5 r4_6 r4_7 r4_8 r4_9 r4_10 r4_11
                  else
                   if decide (v26 = 3) then
                    impl_TableLines_p1 v0 v15 v16 v17 v24 v25 (IntKind.i64.wrap (v26 + 1)) r4_0 r4_1 r4_2 (if (x1.length : Int) > r4_10 then (x1.length : Int) else r4_10) r4_4 r4_5 r4_6 r4_7 r4_8 r4_9 r4_10 r4_11
                   else
                    if decide (v26 = 4) then
                     impl_TableLines_p1 v0 v15 v16 v17 v24 v25 (IntKind.i64.wrap (v26 + 1)) r4_0 r4_1 r4_2 r4_3 (if (x1.length : Int) > r4_10 then (x1.length : Int) else r4_10) r4_5 r4_6 r4_7 r4_8 r4_9 r4_10 r4_11
                    else
                     if decide (v26 = 5) then
                      impl_TableLines_p1 v0 v15 v16 v17 v24 v25 (IntKind.i64.wrap (v26 + 1)) r4_0 r4_1 r4_2 r4_3 r4_4 (if (x1.length : Int) > r4_10 then (x1.length : Int) else r4_10) r4_6 r4_7 r4_8 r4_9 r4_10 r4_11
                     else
                      if decide (v26 = 6) then
                       impl_TableLines_p1 v0 v15 v16 v17 v24 v25 (IntKind.i64.wrap (v26 + 1)) r4_0 r4_1 r4_2 r4_3 r4_4 r4_5 (if (x1.length : Int) > r4_10 then (x1.length : Int) else r4_10) r4_7 r4_8 r4_9 r4_10 r4_11
                      else
                       if decide (v26 = 7) then
                        impl_TableLines_p1 v0 v15 v16 v17 v24 v25 (IntKind.i64.wrap (v26 + 1)) r4_0 r4_1 r4_2 r4_3 r4_4 r4_5 r4_6 (if (x1.length : Int) > r4_10 then (x1.length : Int) else r4_10) r4_8 r4_9 r4_10 r4_11
                       else
                        if decide (v26 = 8) then
                         impl_TableLines_p1 v0 v15 v16 v17 v24 v25 (IntKind.i64.wrap (v26 + 1)) r4_0 r4_1 r4_2 r4_3 r4_4 r4_5 r4_6 r4_7 (if (x1.length : Int) > r4_10 then (x1.length : Int) else r4_10) r4_9 r4_10 r4_11
                        else
                         if decide (v26 = 9) then
                          impl_TableLines_p1 v0 v15 v16 v17 v24 v25 (IntKind.i64.wrap (v26 + 1)) r4_0 r4_1 r4_2 r4_3 r4_4 r4_5 r4_6 r4_7 r4_8 (if (x1.length : Int) > r4_10 then (x1.length : Int) else r4_10) r4_10 r4_11
                         else
                          if decide (v26 = 10) then
                           impl_TableLines_p1 v0 v15 v16 v17 v24 v25 (IntKind.i64.wrap (v26 + 1)) r4_0 r4_1 r4_2 r4_3 r4_4 r4_5 r4_6 r4_7 r4_8 r4_9 (if (x1.length : Int) > r4_10 then (x1.length : Int) else r4_10) r4_11
                          else
                           if decide (v26 = 11) then
                            impl_TableLines_p1 v0 v15 v16 v17 v24 v25 (IntKind.i64.wrap (v26 + 1)) r4_0 r4_1 r4_2 r4_3 r4_4 r4_5 r4_6 r4_7 r4_8 r4_9 r4_10 (if (x1.length : Int) > r4_10 then (x1.length : Int) else r4_10)
                           else
                            none
               else
                if decide (v26 = 11) then
                 if decide (v26 = 0) then
                  impl_TableLines_p1 v0 v15 v16 v17 v24 v25 (IntKind.i64.wrap (v26 + 1)) (if (x1.length : Int) > r4_11 then (x1.length : Int) else r4_11) r4_1 r4_2 r4_3 r4_4 r4_5 r4_6 r4_7 r4_8 r4_9 r4_10 r4_11
                 else
                  if decide (v26 = 1) then
                   impl_TableLines_p1 v0 v15 v16 v17 v24 v25 (IntKind.i64.wrap (v26 + 1)) r4_0 (if (x1.length : Int) > r4_11 then (x1.length : Int) else r4_11) r4_2 r4_3 r4_4 r4_5 r4_6 r4_7 r4_8 r4_9 r4_10 r4_11
                  else
                   if decide (v26 = 2) then
                    impl_TableLines_p1 v0 v15 v16 v17 v24 v25 (IntKind.i64.wrap (v26 + 1)) r4_0 r4_1 (if (x1.length : Int) > r4_11 then (x1.length : Int) else r4_11) r4_3 r4_4 r4_5 r4_6 r4_7 r4_8 r4_9 r4_10 r4_11
                   else
                    if decide (v26 = 3) then
                     impl_TableLines_p1 v0 v15 v16 v17 v24 v25 (IntKind.i64.wrap (v26 + 1)) r4_0 r4_1 r4_2 (if (x1.length : Int) > r4_11 then (x1.length : Int) else r4_11) r4_4 r4_5 r4_6 r4_7 r4_8 r4_9 r4_10 r4_11
                    else
                     if decide (v26 = 4) then
                      impl_TableLines_p1 v0 v15 v16 v17 v24 v25 (IntKind.i64.wrap (v26 + 1)) r4_0 r4_1 r4_2 r4_3 (if (x1.length : Int) > r4_11 then (x1.length : Int) else r4_11) r4_5 r4_6 r4_7 r4_8 r4_9 r4_10 r4_11
                     else
                      if decide (v26 = 5) then
                       impl_TableLines_p1 v0 v15 v16 v17 v24 v25 (IntKind.i64.wrap (v26 + 1)) r4_0 r4_1 r4_2 r4_3 r4_4 (if (x1.length : Int) > r4_11 then (x1.length : Int) else r4_11) r4_6 r4_7 r4_8 r4_9 r4_10 r4_11
                      else
                       if decide (v26 = 6) then
                        impl_TableLines_p1 v0 v15 v16 v17 v24 v25 (IntKind.i64.wrap (v26 + 1)) r4_0 r4_1 r4_2 r4_3 r4_4 r4_5 (if (x1.length : Int) > r4_11 then (x1.length : Int) else r4_11) r4_7 r4_8 r4_9 r4_10 r4_11
                       else
                        if decide (v26 = 7) then
                         impl_TableLines_p1 v0 v15 v16 v17 v24 v25 (IntKind.i64.wrap (v26 + 1)) r4_0 r4_1 r4_2 r4_3 r4_4 r4_5 r4_6 (if (x1.length : Int) > r4_11 then (x1.length : Int) else r4_11) r4_8 r4_9 r4_10 r4_11
                        else
                         if decide (v26 = 8) then
                          impl_TableLines_p1 v0 v15 v16 v17 v24 v25 (IntKind.i64.wrap (v26 + 1)) r4_0 r4_1 r4_2 r4_3 r4_4 r4_5 r4_6 r4_7 (if (x1.length : Int) > r4_11 then (x1.length : Int) else r4_11) r4_9 r4_10 r4_11
                         else
                          if decide (v26 = 9) then
                           impl_TableLines_p1 v0 v15 v16 v17 v24 v25 (IntKind.i64.wrap (v26 + 1)) r4_0 r4_1 r4_2 r4_3 r4_4 r4_5 r4_6 r4_7 r4_8 (if (x1.length : Int) > r4_11 then (x1.length : Int) else r4_11) r4_10 r4_11
                          else
                           if decide (v26 = 10) then
                            impl_TableLines_p1 v0 v15 v16 v17 v24 v25 (IntKind.i64.wrap (v26 + 1)) r4_0 r4_1 r4_2 r4_3 r4_4 r4_5 r4_6 r4_7 r4_8 r4_9 (if (x1.length : Int) > r4_11 then (x1.length : Int) else r4_11) r4_11
                           else
                            if decide (v26 = 11) then
                             impl_TableLines_p1 v0 v15 v16 v17 v24 v25 (IntKind.i64.wrap (v26 + 1)) r4_0 r4_1 r4_2 r4_3 r4_4 r4_5 r4_6 r4_7 r4_8 r4_9 r4_10 (if (x1.length : Int) > r4_11 then (x1.length : Int) else r4_11)
                            else
                             none
                else
                 none
   else
    none
  else
   impl_TableLines_p0 v0 v15 v16 (IntKind.i64.wrap (v17 + 1)) r4_0 r4_1 r4_2 r4_3 r4_4 r4_5 r4_6 r4_7 r4_8 r4_9 r4_10 r4_11 :=
 (goL_dn _ _ _ 4000 _ _).trans (by kernel_rfl)
theorem impl_TableLines_p2_eq  (v42 : List (List (List UInt8))) (v43 : Int) (v44 : Int) (r4_0 : Int) (r4_1 : Int) (r4_2 : Int) (r4_3 : Int) (r4_4 : Int) (r4_5 : Int) (r4_6 : Int) (r4_7 : Int) (r4_8 : Int) (r4_9 : Int) (r4_10 : Int) (r4_11 : Int) (r9 : List (List UInt8)) : impl_TableLines_p2 v42 v43 v44 r4_0 r4_1 r4_2 r4_3 r4_4 r4_5 r4_6 r4_7 r4_8 r4_9 r4_10 r4_11 r9 =
  if decide (v44 < v43) then
   if decide (0 ≤ v44) then
    (v42[v44.toNat]?).bind fun x1 =>
     impl_TableLines_p3 v42 v43 v44 x1 (x1.length : Int) 0 r4_0 r4_1 r4_2 r4_3 r4_4 r4_5 r4_6 r4_7 r4_8 r4_9 r4_10 r4_11 r9 []
   else
    none
  else
   if decide (r9.length = r9.length) then
    (impl_report r9).bind fun x2 =>
     some ((x2.1.take x2.1.length), x2.2.1)
   else
    none :=
 (goL_dn _ _ _ 4000 _ _).trans (by kernel_rfl)
theorem impl_TableLines_p3_eq  (v42 : List (List (List UInt8))) (v43 : Int) (v44 : Int) (v49 : List (List UInt8)) (v50 : Int) (v51 : Int) (r4_0 : Int) (r4_1 : Int) (r4_2 : Int) (r4_3 : Int) (r4_4 : Int) (r4_5 : Int) (r4_6 : Int) (r4_7 : Int) (r4_8 : Int) (r4_9 : Int) (r4_10 : Int) (r4_11 : Int) (r9 : List (List UInt8)) (r12 : List (List UInt8)) : impl_TableLines_p3 v42 v43 v44 v49 v50 v51 r4_0 r4_1 r4_2 r4_3 r4_4 r4_5 r4_6 r4_7 r4_8 r4_9 r4_10 r4_11 r9 r12 =
  if decide (v51 < v50) then
   if decide (0 ≤ v51) then
    (v49[v51.toNat]?).bind fun x1 =>
     if decide (v51 = 0) then
      (strings_Repeat [32] (IntKind.i64.wrap (r4_0 - (x1.length : Int)))).bind fun x2 =>
       if decide (x1.length + x2.length ≤ strMax) then
        if decide (r12.length + 1 < lim) then
         impl_TableLines_p3 v42 v43 v44 v49 v50 (IntKind.i64.wrap (v51 + 1)) r4_0 r4_1 r4_2 r4_3 r4_4 r4_5 r4_6 r4_7 r4_8 r4_9 r4_10 r4_11 r9 ((r12.take r12.length) ++ [x1 ++ x2])
        else
         none
       else
        none
     else
      if decide (v51 = 1) then
       (strings_Repeat [32] (IntKind.i64.wrap (r4_1 - (x1.length : Int)))).bind fun x3 =>
        if decide (x1.length + x3.length ≤ strMax) then
         if decide (r12.length + 1 < lim) then
          impl_TableLines_p3 v42 v43 v44 v49 v50 (IntKind.i64.wrap (v51 + 1)) r4_0 r4_1 r4_2 r4_3 r4_4 r4_5 r4_6 r4_7 r4_8 r4_9 r4_10 r4_11 r9 ((r12.take r12.length) ++ [x1 ++ x3])
         else
          none
        else
         none
      else
       if decide (v51 = 2) then
        (strings_Repeat [32] (IntKind.i64.wrap (r4_2 - (x1.length : Int)))).bind fun x4 =>
         if decide (x1.length + x4.length ≤ strMax) then
          if decide (r12.length + 1 < lim) then
           impl_TableLines_p3 v42 v43 v44 v49 v50 (IntKind.i64.wrap (v51 + 1)) r4_0 r4_1 r4_2 r4_3 r4_4 r4_5 r4_6 r4_7 r4_8 r4_9 r4_10 r4_11 r9 ((r12.take r12.length) ++ [x1 ++ x4])
          else
           none
         else
          none
       else
        if decide (v51 = 3) then
         (strings_Repeat [32] (IntKind.i64.wrap (r4_3 - (x1.length : Int)))).bind fun x5 =>
          if decide (x1.length + x5.length ≤ strMax) then
           if decide (r12.length + 1 < lim) then
            impl_TableLines_p3 v42 v43 v44 v49 v50 (IntKind.i64.wrap (v51 + 1)) r4_0 r4_1 r4_2 r4_3 r4_4 r4_5 r4_6 r4_7 r4_8 r4_9 r4_10 r4_11 r9 ((r12.take r12.length) ++ [x1 ++ x5])
           else
            none
          else
           none
        else
         if decide (v51 = 4) then
          (strings_Repeat [32] (IntKind.i64.wrap (r4_4 - (x1.length : Int)))).bind fun x6 =>
           if decide (x1.length + x6.length ≤ strMax) then
            if decide (r12.length + 1 < lim) then
             impl_TableLines_p3 v42 v43 v44 v49 v50 (IntKind.i64.wrap (v51 + 1)) r4_0 r4_1 r4_2 r4_3 r4_4 r4_5 r4_6 r4_7 r4_8 r4_9 r4_10 r4_11 r9 ((r12.take r12.length) ++ [x1 ++ x6])
            else
             none
           else
            none
         else
          if decide (v51 = 5) then
           (strings_Repeat [32] (IntKind.i64.wrap (r4_5 - (x1.length : Int)))).bind fun x7 =>
            if decide (x1.length + x7.length ≤ strMax) then
             if decide (r12.length + 1 < lim) then
              impl_TableLines_p3 v42 v43 v44 v49 v50 (IntKind.i64.wrap (v51 + 1)) r4_0 r4_1 r4_2 r4_3 r4_4 r4_5 r4_6 r4_7 r4_8 r4_9 r4_10 r4_11 r9 ((r12.take r12.length) ++ [x1 ++ x7])
             else
              none
            else
             none
          else
           if decide (v51 = 6) then
            (strings_Repeat [32] (IntKind.i64.wrap (r4_6 - (x1.length : Int)))).bind fun x8 =>
             if decide (x1.length + x8.length ≤ strMax) then
              if decide (r12.length + 1 < lim) then
               impl_TableLines_p3 v42 v43 v44 v49 v50 (IntKind.i64.wrap (v51 + 1)) r4_0 r4_1 r4_2 r4_3 r4_4 r4_5 r4_6 r4_7 r4_8 r4_9 r4_10 r4_11 r9 ((r12.take r12.length) ++ [x1 ++ x8])
              else
               none
             else
              none
           else
            if decide (v51 = 7) then
             (strings_Repeat [32] (IntKind.i64.wrap (r4_7 - (x1.length : Int)))).bind fun x9 =>
              if decide (x1.length + x9.length ≤ strMax) then
               if decide (r12.length + 1 < lim) then
                impl_TableLines_p3 v42 v43 v44 v49 v50 (IntKind.i64.wrap (v51 + 1)) r4_0 r4_1 r4_2 r4_3 r4_4 r4_5 r4_6 r4_7 r4_8 r4_9 r4_10 r4_11 r9 ((r12.take r12.length) ++ [x1 ++ x9])
               else
                none
              else
               none
            else
             if decide (v51 = 8) then
              (strings_Repeat [32] (IntKind.i64.wrap (r4_8 - (x1.length : Int)))).bind fun x10 =>
               if decide (x1.length + x10.length ≤ strMax) then
                if decide (r12.length + 1 < lim) then
                 impl_TableLines_p3 v42 v43 v44 v49 v50 (IntKind.i64.wrap (v51 + 1)) r4_0 r4_1 r4_2 r4_3 r4_4 r4_5 r4_6 r4_7 r4_8 r4_9 r4_10 r4_11 r9 ((r12.take r12.length) ++ [x1 ++ x10])
                else
                 none
               else
                none
             else
              if decide (v51 = 9) then
               (strings_Repeat [32] (IntKind.i64.wrap (r4_9 - (x1.length : Int)))).bind fun x11 =>
                if decide (x1.length + x11.length ≤ strMax) then
                 if decide (r12.length + 1 < lim) then
                  impl_TableLines_p3 v42 v43 v44 v49 v50 (IntKind.i64.wrap (v51 + 1)) r4_0 r4_1 r4_2 r4_3 r4_4 r4_5 r4_6 r4_7 r4_8 r4_9 r4_10 r4_11 r9 ((r12.take r12.length) ++ [x1 ++ x11])
                 else
                  none
                else
                 none
              else
               if decide (v51 = 10) then
                (strings_Repeat [32] (IntKind.i64.wrap (r4_10 - (x1.length : Int)))).bind fun x12 =>
                 if decide (x1.length + x12.length ≤ strMax) then
                  if decide (r12.length + 1 < lim) then
                   impl_TableLines_p3 v42 v43 v44 v49 v50 (IntKind.i64.wrap (v51 + 1)) r4_0 r4_1 r4_2 r4_3 r4_4 r4_5 r4_6 r4_7 r4_8 r4_9 r4_10 r4_11 r9 ((r12.take r12.length) ++ [x1 ++ x12])
                  else
                   none
                 else
                  none
               else
                if decide (v51 = 11) then
                 (strings_Repeat [32] (IntKind.i64.wrap (r4_11 - (x1.length : Int)))).bind fun x13 =>
                  if decide (x1.length + x13.length ≤ strMax) then
                   if decide (r12.length + 1 < lim) then
                    impl_TableLines_p3 v42 v43 v44 v49 v50 (IntKind.i64.wrap (v51 + 1)) r4_0 r4_1 r4_2 r4_3 r4_4 r4_5 r4_6 r4_7 r4_8 r4_9 r4_10 r4_11 r9 ((r12.take r12.length) ++ [x1 ++ x13])
                   else
                    none
                  else
                   none
                else
                 none
   else
    none
  else
   (strings_Join (r12.take r12.length) [32, 32]).bind fun x14 =>
    (strings_TrimRight x14 [32]).bind fun x15 =>
     if decide (r9.length + 1 < lim) then
      impl_TableLines_p2 v42 v43 (IntKind.i64.wrap (v44 + 1)) r4_0 r4_1 r4_2 r4_3 r4_4 r4_5 r4_6 r4_7 r4_8 r4_9 r4_10 r4_11 ((r9.take r9.length) ++ [x15])
     else
      none :=
 (goL_dn _ _ _ 4000 _ _).trans (by kernel_rfl)

/- impl.PotReport -/
def impl_PotReport_k0 : C :=
 .seq (.reg false [.V 15 (.bin .lss (.t 14) (.t 13))] [4, 12, 13, 14, 15] [4]) (.seq (.cond (.t 15) .skip (.exit 0)) (.seq (.block 1 (.seq (.reg false [.V 16 (.ia 5 (.t 12) (.t 14)), .V 17 (.ld (some 5) (.t 16)), .W 6 (.alloc 5 (.agg [.str [], .int .i64 0, .int .i64 0, .int .i64 0, .int .i64 0])), ⟨none, true, .sto 5 (.t 6) (.t 17), none, false, []⟩] [4, 6, 12, 13, 14] [4, 6]) (.reg true [.V 18 (.mv (.t 4)), .V 19 (.fa 0 (.t 6)), .V 20 (.ld none (.t 19)), .V 21 (.fa 1 (.t 6)), .V 22 (.ld none (.t 21)), .V 23 (.call (.c (.fn 524 [])) [.t 22]), .V 24 (.fa 2 (.t 6)), .V 25 (.ld none (.t 24)), .V 26 (.call (.c (.fn 524 [])) [.t 25]), .V 27 (.ld (some 5) (.t 6)), .V 28 (.call (.c (.fn 54 [])) [.t 27]), .V 29 (.call (.c (.fn 251 [])) [.t 28, .c (.int .i64 1)]), .V 30 (.bsl 1 (.str []) 4 [(0, .t 20), (1, .t 23), (2, .t 26), (3, .t 29)]), ⟨some 31, true, .bsl 1 (.sl 1 []) 1 [(0, .t 30)], none, false, [4]⟩, .W 32 (.app 1 24 (.t 18) (.t 31)), .W 4 (.asg (.t 32))] [4, 12, 13, 14] [4]))) (.reg false [.V 33 (.bin .add (.t 14) (.c (.int .i64 1))), .V 14 (.mv (.t 33))] [4, 12, 13, 14] [4])))
def impl_PotReport_k1 : C :=
 .norm [4, 12, 13, 14] [4] impl_PotReport_k0
def impl_PotReport_k2 : C :=
 .seq (.reg false [.V 34 (.mv (.t 4)), .V 35 (.call (.c (.fn 219 [])) [.t 34]), .V 36 (.ext (.t 35) 0), .V 37 (.ext (.t 35) 1), .W 2 (.asg (.t 36)), .V 3 (.asg (.t 37))] [2, 3] [2]) .ret
def impl_PotReport_ir : Fn := { np := 1, io := [], res := [.t 2, .t 3], own := [true, false], body :=
 (.seq (.reg false [.W 2 (.asg (.c (.nils 1))), .V 3 (.asg (.c (.int .i64 0)))] [0] []) (.seq (.seq (.reg false [.V 7 (.mv (.t 0)), .V 8 (.call (.c (.fn 57 [])) [.t 7]), .V 9 (.un .not (.t 8))] [0, 9] []) (.cond (.t 9) (.seq (.reg false [.W 2 (.asg (.c (.nils 1))), .V 3 (.asg (.c (.int .i64 1)))] [2, 3] [2]) .ret) .skip)) (.seq (.reg false [.V 10 (.bsl 1 (.str []) 4 [(0, .c (.str [112, 111, 116])), (1, .c (.str [100, 114, 121])), (2, .c (.str [119, 97, 116, 101, 114])), (3, .c (.str [115, 116, 114, 101, 110, 103, 116, 104]))]), .W 11 (.bsl 1 (.sl 1 []) 1 [(0, .t 10)]), .W 4 (.asg (.t 11))] [0, 4] [4]) (.seq (.seq (.reg false [.V 12 (.mv (.t 0)), .V 13 (.len (.t 12)), .V 14 (.mv (.c (.int .i64 0)))] [4, 12, 13, 14] [4]) (.block 0 (.loop impl_PotReport_k1))) impl_PotReport_k2)))) }
noncomputable def impl_PotReport_D : List (Nat × Callee) := [(54, impl_Pot_strength_c), (57, impl_ValidPots_c), (219, impl_TableLines_c), (251, impl_FixedText_c), (524, impl_Decimal_c)]
def impl_PotReport_H : List (Nat × ET) := [(2, (.one .str)), (4, (.one (.sl (.one .str)))), (7, T_Pot), (10, (.one .str)), (11, (.one (.sl (.one .str)))), (12, T_Pot), (18, (.one (.sl (.one .str)))), (30, (.one .str)), (31, (.one (.sl (.one .str)))), (32, (.one (.sl (.one .str)))), (34, (.one (.sl (.one .str)))), (36, (.one .str))]
noncomputable def impl_PotReport_c : Callee := mkCallee impl_PotReport_D impl_PotReport_H impl_PotReport_ir [.d (.one (.sl T_Pot))] [.tok (.one .str), .d (.one (.int .i64))] []
noncomputable def impl_PotReport (a0 : List T_Pot.ty) : Option (List (List UInt8) × Int) := impl_PotReport_c.f (a0, ())
noncomputable def impl_PotReport_p0  (v12 : List T_Pot.ty) (v13 : Int) (v14 : Int) (r4 : List (List (List UInt8))) : Option (List (List UInt8) × Int) :=
 goL impl_PotReport_D impl_PotReport_H (vleave impl_PotReport_ir [.d (.one (.sl T_Pot))] [.tok (.one .str), .d (.one (.int .i64))] [] []) [.c impl_PotReport_k0, .l impl_PotReport_k1, .e 0, .c impl_PotReport_k2]
  ⟨[(4, .view 4 0 r4.length), (12, .sl T_Pot v12), (13, .int .i64 v13), (14, .int .i64 v14)], [(4, some (.sl (.one (.sl (.one .str))) r4))]⟩
theorem impl_PotReport_eq (a0 : List T_Pot.ty) : impl_PotReport a0 =
  (impl_ValidPots a0).bind fun x1 =>
   if (!x1) then
    some ([], 1)
   else
    impl_PotReport_p0 a0 (a0.length : Int) 0 [[[112, 111, 116], [100, 114, 121], [119, 97, 116, 101, 114], [115, 116, 114, 101, 110, 103, 116, 104]]] :=
 (mk_f _ _ _ _ _ _ _ 4000).trans (by kernel_rfl)
theorem impl_PotReport_p0_eq  (v12 : List T_Pot.ty) (v13 : Int) (v14 : Int) (r4 : List (List (List UInt8))) : impl_PotReport_p0 v12 v13 v14 r4 =
  if decide (v14 < v13) then
   if decide (0 ≤ v14) then
    (v12[v14.toNat]?).bind fun x1 =>
     (impl_Decimal x1.2.1).bind fun x2 =>
      (impl_Decimal x1.2.2.1).bind fun x3 =>
       (impl_Pot_strength x1).bind fun x4 =>
        (impl_FixedText x4 1).bind fun x5 =>
         if decide (r4.length + 1 < lim) then
          impl_PotReport_p0 v12 v13 (IntKind.i64.wrap (v14 + 1)) ((r4.take r4.length) ++ [[x1.1, x2, x3, x5]])
         else
          none
   else
    none
  else
   (impl_TableLines (r4.take r4.length)).bind fun x6 =>
    some ((x6.1.take x6.1.length), x6.2) :=
 (goL_dn _ _ _ 4000 _ _).trans (by kernel_rfl)

/- laws.eqStringS -/
def laws_eqStringS_k0 : C :=
 .seq (.seq (.reg false [.V 11 (.mv (.t 5)), .V 12 (.mv (.t 0)), .V 13 (.len (.t 12)), .V 14 (.bin .lss (.t 11) (.t 13))] [0, 1, 5, 14] []) (.cond (.t 14) .skip (.exit 0))) (.seq (.block 1 (.seq (.reg true [.V 17 (.mv (.t 0)), .V 18 (.mv (.t 5)), .V 19 (.ia 1 (.t 17) (.t 18)), .V 20 (.ld none (.t 19)), .V 21 (.mv (.t 1)), .V 22 (.mv (.t 5)), .V 23 (.ia 1 (.t 21) (.t 22)), .V 24 (.ld none (.t 23)), .V 25 (.bin .neq (.t 20) (.t 24))] [0, 1, 5, 25] []) (.cond (.t 25) (.seq (.reg false [.V 4 (.asg (.c (.bool false)))] [4] []) .ret) .skip))) (.reg false [.V 15 (.mv (.t 5)), .V 16 (.bin .add (.t 15) (.c (.int .i64 1))), .V 5 (.asg (.t 16))] [0, 1, 5] []))
def laws_eqStringS_k1 : C :=
 .norm [0, 1, 5] [] laws_eqStringS_k0
def laws_eqStringS_k2 : C :=
 .seq (.reg false [.V 4 (.asg (.c (.bool true)))] [4] []) .ret
def laws_eqStringS_ir : Fn := { np := 2, io := [], res := [.t 4], own := [false], body :=
 (.seq (.reg false [.V 4 (.asg (.c (.bool false)))] [0, 1] []) (.seq (.seq (.reg false [.V 6 (.mv (.t 0)), .V 7 (.len (.t 6)), .V 8 (.mv (.t 1)), .V 9 (.len (.t 8)), .V 10 (.bin .neq (.t 7) (.t 9))] [0, 1, 10] []) (.cond (.t 10) (.seq (.reg false [.V 4 (.asg (.c (.bool false)))] [4] []) .ret) .skip)) (.seq (.seq (.reg false [.V 5 (.asg (.c (.int .i64 0)))] [0, 1, 5] []) (.block 0 (.loop laws_eqStringS_k1))) laws_eqStringS_k2))) }
noncomputable def laws_eqStringS_D : List (Nat × Callee) := []
def laws_eqStringS_H : List (Nat × ET) := [(6, (.one .str)), (8, (.one .str)), (12, (.one .str)), (17, (.one .str)), (21, (.one .str))]
noncomputable def laws_eqStringS_c : Callee := mkCallee laws_eqStringS_D laws_eqStringS_H laws_eqStringS_ir [.d (.one (.sl (.one .str))), .d (.one (.sl (.one .str)))] [.d (.one .bool)] []
noncomputable def laws_eqStringS (a0 : List (List UInt8)) (a1 : List (List UInt8)) : Option (Bool) := laws_eqStringS_c.f (a0, a1, ())
noncomputable def laws_eqStringS_p0  (v0 : List (List UInt8)) (v1 : List (List UInt8)) (v5 : Int) : Option (Bool) :=
 goL laws_eqStringS_D laws_eqStringS_H (vleave laws_eqStringS_ir [.d (.one (.sl (.one .str))), .d (.one (.sl (.one .str)))] [.d (.one .bool)] [] []) [.c laws_eqStringS_k0, .l laws_eqStringS_k1, .e 0, .c laws_eqStringS_k2]
  ⟨[(0, .sl (.one .str) v0), (1, .sl (.one .str) v1), (5, .int .i64 v5)], []⟩
theorem laws_eqStringS_eq (a0 : List (List UInt8)) (a1 : List (List UInt8)) : laws_eqStringS a0 a1 =
  if ((a0.length : Int) != (a1.length : Int)) then
   some false
  else
   laws_eqStringS_p0 a0 a1 0 :=
 (mk_f _ _ _ _ _ _ _ 4000).trans (by kernel_rfl)
theorem laws_eqStringS_p0_eq  (v0 : List (List UInt8)) (v1 : List (List UInt8)) (v5 : Int) : laws_eqStringS_p0 v0 v1 v5 =
  if decide (v5 < (v0.length : Int)) then
   if decide (0 ≤ v5) then
    (v0[v5.toNat]?).bind fun x1 =>
     if decide (0 ≤ v5) then
      (v1[v5.toNat]?).bind fun x2 =>
       if (!(x1 == x2)) then
        some false
       else
        laws_eqStringS_p0 v0 v1 (IntKind.i64.wrap (v5 + 1))
     else
      none
   else
    none
  else
   some true :=
 (goL_dn _ _ _ 4000 _ _).trans (by kernel_rfl)

/- laws.eqPot -/
def laws_eqPot_ir : Fn := { np := 2, io := [], res := [.t 4], own := [false], body :=
 (.seq (.reg false [.W 2 (.box 5 (.t 0)), .W 3 (.box 5 (.t 1)), .V 4 (.asg (.c (.bool false)))] [2, 3] [2, 3]) (.seq (.seq (.reg false [.V 5 (.fa 0 (.t 2)), .V 6 (.ld none (.t 5)), .V 7 (.fa 0 (.t 3)), .V 8 (.ld none (.t 7)), .V 9 (.bin .neq (.t 6) (.t 8))] [2, 3, 9] [2, 3]) (.cond (.t 9) (.seq (.reg false [.V 4 (.asg (.c (.bool false)))] [4] []) .ret) .skip)) (.seq (.seq (.reg false [.V 10 (.fa 1 (.t 2)), .V 11 (.ld none (.t 10)), .V 12 (.fa 1 (.t 3)), .V 13 (.ld none (.t 12)), .V 14 (.bin .neq (.t 11) (.t 13))] [2, 3, 14] [2, 3]) (.cond (.t 14) (.seq (.reg false [.V 4 (.asg (.c (.bool false)))] [4] []) .ret) .skip)) (.seq (.seq (.reg false [.V 15 (.fa 2 (.t 2)), .V 16 (.ld none (.t 15)), .V 17 (.fa 2 (.t 3)), .V 18 (.ld none (.t 17)), .V 19 (.bin .neq (.t 16) (.t 18))] [2, 3, 19] [2, 3]) (.cond (.t 19) (.seq (.reg false [.V 4 (.asg (.c (.bool false)))] [4] []) .ret) .skip)) (.seq (.seq (.reg false [.V 20 (.fa 3 (.t 2)), .V 21 (.ld none (.t 20)), .V 22 (.fa 3 (.t 3)), .V 23 (.ld none (.t 22)), .V 24 (.bin .neq (.t 21) (.t 23))] [2, 3, 24] [2, 3]) (.cond (.t 24) (.seq (.reg false [.V 4 (.asg (.c (.bool false)))] [4] []) .ret) .skip)) (.seq (.seq (.reg false [.V 25 (.fa 4 (.t 2)), .V 26 (.ld none (.t 25)), .V 27 (.fa 4 (.t 3)), .V 28 (.ld none (.t 27)), .V 29 (.bin .neq (.t 26) (.t 28))] [29] []) (.cond (.t 29) (.seq (.reg false [.V 4 (.asg (.c (.bool false)))] [4] []) .ret) .skip)) (.seq (.reg false [.V 4 (.asg (.c (.bool true)))] [4] []) .ret))))))) }
noncomputable def laws_eqPot_D : List (Nat × Callee) := []
def laws_eqPot_H : List (Nat × ET) := []
noncomputable def laws_eqPot_c : Callee := mkCallee laws_eqPot_D laws_eqPot_H laws_eqPot_ir [.d T_Pot, .d T_Pot] [.d (.one .bool)] []
noncomputable def laws_eqPot (a0 : T_Pot.ty) (a1 : T_Pot.ty) : Option (Bool) := laws_eqPot_c.f (a0, a1, ())
theorem laws_eqPot_eq (a0 : T_Pot.ty) (a1 : T_Pot.ty) : laws_eqPot a0 a1 =
  if (!(a0.1 == a1.1)) then
   some false
  else
   if (a0.2.1 != a1.2.1) then
    some false
   else
    if (a0.2.2.1 != a1.2.2.1) then
     some false
    else
     if (a0.2.2.2.1 != a1.2.2.2.1) then
      some false
     else
      if (a0.2.2.2.2.1 != a1.2.2.2.2.1) then
       some false
      else
       some true :=
 (mk_f _ _ _ _ _ _ _ 4000).trans (by kernel_rfl)

/- laws.eqPotS -/
def laws_eqPotS_k0 : C :=
 .seq (.seq (.reg false [.V 11 (.mv (.t 5)), .V 12 (.mv (.t 0)), .V 13 (.len (.t 12)), .V 14 (.bin .lss (.t 11) (.t 13))] [0, 1, 5, 14] []) (.cond (.t 14) .skip (.exit 0))) (.seq (.block 1 (.seq (.reg true [.V 17 (.mv (.t 0)), .V 18 (.mv (.t 5)), .V 19 (.ia 5 (.t 17) (.t 18)), .V 20 (.ld (some 5) (.t 19)), .V 21 (.mv (.t 1)), .V 22 (.mv (.t 5)), .V 23 (.ia 5 (.t 21) (.t 22)), .V 24 (.ld (some 5) (.t 23)), .V 25 (.call (.c (.fn 58 [])) [.t 20, .t 24]), .V 26 (.un .not (.t 25))] [0, 1, 5, 26] []) (.cond (.t 26) (.seq (.reg false [.V 4 (.asg (.c (.bool false)))] [4] []) .ret) .skip))) (.reg false [.V 15 (.mv (.t 5)), .V 16 (.bin .add (.t 15) (.c (.int .i64 1))), .V 5 (.asg (.t 16))] [0, 1, 5] []))
def laws_eqPotS_k1 : C :=
 .norm [0, 1, 5] [] laws_eqPotS_k0
def laws_eqPotS_k2 : C :=
 .seq (.reg false [.V 4 (.asg (.c (.bool true)))] [4] []) .ret
def laws_eqPotS_ir : Fn := { np := 2, io := [], res := [.t 4], own := [false], body :=
 (.seq (.reg false [.V 4 (.asg (.c (.bool false)))] [0, 1] []) (.seq (.seq (.reg false [.V 6 (.mv (.t 0)), .V 7 (.len (.t 6)), .V 8 (.mv (.t 1)), .V 9 (.len (.t 8)), .V 10 (.bin .neq (.t 7) (.t 9))] [0, 1, 10] []) (.cond (.t 10) (.seq (.reg false [.V 4 (.asg (.c (.bool false)))] [4] []) .ret) .skip)) (.seq (.seq (.reg false [.V 5 (.asg (.c (.int .i64 0)))] [0, 1, 5] []) (.block 0 (.loop laws_eqPotS_k1))) laws_eqPotS_k2))) }
noncomputable def laws_eqPotS_D : List (Nat × Callee) := [(58, laws_eqPot_c)]
def laws_eqPotS_H : List (Nat × ET) := [(6, T_Pot), (8, T_Pot), (12, T_Pot), (17, T_Pot), (21, T_Pot)]
noncomputable def laws_eqPotS_c : Callee := mkCallee laws_eqPotS_D laws_eqPotS_H laws_eqPotS_ir [.d (.one (.sl T_Pot)), .d (.one (.sl T_Pot))] [.d (.one .bool)] []
noncomputable def laws_eqPotS (a0 : List T_Pot.ty) (a1 : List T_Pot.ty) : Option (Bool) := laws_eqPotS_c.f (a0, a1, ())
noncomputable def laws_eqPotS_p0  (v0 : List T_Pot.ty) (v1 : List T_Pot.ty) (v5 : Int) : Option (Bool) :=
 goL laws_eqPotS_D laws_eqPotS_H (vleave laws_eqPotS_ir [.d (.one (.sl T_Pot)), .d (.one (.sl T_Pot))] [.d (.one .bool)] [] []) [.c laws_eqPotS_k0, .l laws_eqPotS_k1, .e 0, .c laws_eqPotS_k2]
  ⟨[(0, .sl T_Pot v0), (1, .sl T_Pot v1), (5, .int .i64 v5)], []⟩
theorem laws_eqPotS_eq (a0 : List T_Pot.ty) (a1 : List T_Pot.ty) : laws_eqPotS a0 a1 =
  if ((a0.length : Int) != (a1.length : Int)) then
   some false
  else
   laws_eqPotS_p0 a0 a1 0 :=
 (mk_f _ _ _ _ _ _ _ 4000).trans (by kernel_rfl)
theorem laws_eqPotS_p0_eq  (v0 : List T_Pot.ty) (v1 : List T_Pot.ty) (v5 : Int) : laws_eqPotS_p0 v0 v1 v5 =
  if decide (v5 < (v0.length : Int)) then
   if decide (0 ≤ v5) then
    (v0[v5.toNat]?).bind fun x1 =>
     if decide (0 ≤ v5) then
      (v1[v5.toNat]?).bind fun x2 =>
       (laws_eqPot x1 x2).bind fun x3 =>
        if (!x3) then
         some false
        else
         laws_eqPotS_p0 v0 v1 (IntKind.i64.wrap (v5 + 1))
     else
      none
   else
    none
  else
   some true :=
 (goL_dn _ _ _ 4000 _ _).trans (by kernel_rfl)

/- laws.markText -/
def laws_markText_k0 : C :=
 .seq (.seq (.reg false [.V 6 (.mv (.t 0)), .V 7 (.bin .gtr (.t 6) (.c (.int .i64 0)))] [0, 3, 7] []) (.cond (.t 7) .skip (.exit 0))) (.block 1 (.seq (.reg false [.V 8 (.mv (.t 0)), .V 9 (.bin .rem (.t 8) (.c (.int .i64 10))), .V 10 (.bin .add (.c (.int .i64 48)) (.t 9)), .V 11 (.conv (.int .u8) (.t 10)), .V 12 (.bsl 1 (.int .u8 0) 1 [(0, .t 11)]), .V 13 (.conv .bytesStr (.t 12)), .V 14 (.mv (.t 3)), .V 15 (.bin .add (.t 13) (.t 14)), .V 3 (.asg (.t 15))] [0, 3] []) (.reg false [.V 16 (.mv (.t 0)), .V 17 (.bin .quo (.t 16) (.c (.int .i64 10))), .V 0 (.asg (.t 17))] [0, 3] [])))
def laws_markText_k1 : C :=
 .norm [0, 3] [] laws_markText_k0
def laws_markText_k2 : C :=
 .seq (.reg false [.V 18 (.mv (.t 3)), .V 19 (.bin .add (.c (.str [109])) (.t 18)), .V 2 (.asg (.t 19))] [2] []) .ret
def laws_markText_ir : Fn := { np := 1, io := [], res := [.t 2], own := [false], body :=
 (.seq (.reg false [.V 2 (.asg (.c (.str [])))] [0] []) (.seq (.seq (.reg false [.V 4 (.mv (.t 0)), .V 5 (.bin .leq (.t 4) (.c (.int .i64 0)))] [0, 5] []) (.cond (.t 5) (.seq (.reg false [.V 2 (.asg (.c (.str [109, 48])))] [2] []) .ret) .skip)) (.seq (.reg false [.V 3 (.asg (.c (.str [])))] [0, 3] []) (.seq (.block 0 (.loop laws_markText_k1)) laws_markText_k2)))) }
noncomputable def laws_markText_D : List (Nat × Callee) := []
def laws_markText_H : List (Nat × ET) := [(12, (.one (.int .u8)))]
noncomputable def laws_markText_c : Callee := mkCallee laws_markText_D laws_markText_H laws_markText_ir [.d (.one (.int .i64))] [.d (.one .str)] []
noncomputable def laws_markText (a0 : Int) : Option (List UInt8) := laws_markText_c.f (a0, ())
noncomputable def laws_markText_p0  (v0 : Int) (v3 : List UInt8) : Option (List UInt8) :=
 goL laws_markText_D laws_markText_H (vleave laws_markText_ir [.d (.one (.int .i64))] [.d (.one .str)] [] []) [.c laws_markText_k0, .l laws_markText_k1, .e 0, .c laws_markText_k2]
  ⟨[(0, .int .i64 v0), (3, .str v3)], []⟩
theorem laws_markText_eq (a0 : Int) : laws_markText a0 =
  if decide (a0 ≤ 0) then
   some [109, 48]
  else
   laws_markText_p0 a0 [] :=
 (mk_f _ _ _ _ _ _ _ 4000).trans (by kernel_rfl)
theorem laws_markText_p0_eq  (v0 : Int) (v3 : List UInt8) : laws_markText_p0 v0 v3 =
  if decide (v0 > 0) then
   if decide (([IntKind.u8.wrap (IntKind.i64.wrap (48 + (v0.tmod 10)))].map vu8).length + v3.length ≤ strMax) then
    laws_markText_p0 (IntKind.i64.wrap (v0.tdiv 10)) (([IntKind.u8.wrap (IntKind.i64.wrap (48 + (v0.tmod 10)))].map vu8) ++ v3)
   else
    none
  else
   if decide ([109].length + v3.length ≤ strMax) then
    some ([109] ++ v3)
   else
    none :=
 (goL_dn _ _ _ 4000 _ _).trans (by kernel_rfl)

/- laws.markPotS -/
def laws_markPotS_k0 : C :=
 .seq (.seq (.reg false [.V 6 (.mv (.t 5)), .V 7 (.mv (.t 0)), .V 8 (.len (.t 7)), .V 9 (.bin .lss (.t 6) (.t 8))] [0, 1, 5, 9] [0]) (.cond (.t 9) .skip (.exit 0))) (.seq (.block 1 (.seq (.reg false [.V 12 (.mv (.t 0)), .V 13 (.mv (.t 5)), .V 14 (.mv (.t 1)), .V 15 (.call (.c (.fn 40 [])) [.t 14]), .V 16 (.ia 5 (.t 12) (.t 13)), .V 17 (.fa 0 (.t 16)), ⟨none, true, .sto 1 (.t 17) (.t 15), none, false, []⟩] [0, 1, 5] [0]) (.seq (.reg false [.V 18 (.mv (.t 1)), .V 19 (.bin .add (.t 18) (.c (.int .i64 1))), .V 1 (.asg (.t 19))] [0, 1, 5] [0]) (.seq (.reg false [.V 20 (.mv (.t 0)), .V 21 (.mv (.t 5)), .V 22 (.mv (.t 1)), .V 23 (.ia 5 (.t 20) (.t 21)), .V 24 (.fa 1 (.t 23)), ⟨none, true, .sto 1 (.t 24) (.t 22), none, false, []⟩] [0, 1, 5] [0]) (.seq (.reg false [.V 25 (.mv (.t 1)), .V 26 (.bin .add (.t 25) (.c (.int .i64 1))), .V 1 (.asg (.t 26))] [0, 1, 5] [0]) (.seq (.reg false [.V 27 (.mv (.t 0)), .V 28 (.mv (.t 5)), .V 29 (.mv (.t 1)), .V 30 (.ia 5 (.t 27) (.t 28)), .V 31 (.fa 2 (.t 30)), ⟨none, true, .sto 1 (.t 31) (.t 29), none, false, []⟩] [0, 1, 5] [0]) (.seq (.reg false [.V 32 (.mv (.t 1)), .V 33 (.bin .add (.t 32) (.c (.int .i64 1))), .V 1 (.asg (.t 33))] [0, 1, 5] [0]) (.seq (.reg false [.V 34 (.mv (.t 0)), .V 35 (.mv (.t 5)), .V 36 (.mv (.t 1)), .V 37 (.ia 5 (.t 34) (.t 35)), .V 38 (.fa 3 (.t 37)), ⟨none, true, .sto 1 (.t 38) (.t 36), none, false, []⟩] [0, 1, 5] [0]) (.seq (.reg false [.V 39 (.mv (.t 1)), .V 40 (.bin .add (.t 39) (.c (.int .i64 1))), .V 1 (.asg (.t 40))] [0, 1, 5] [0]) (.seq (.reg false [.V 41 (.mv (.t 0)), .V 42 (.mv (.t 5)), .V 43 (.mv (.t 1)), .V 44 (.ia 5 (.t 41) (.t 42)), .V 45 (.fa 4 (.t 44)), ⟨none, true, .sto 1 (.t 45) (.t 43), none, false, []⟩] [0, 1, 5] [0]) (.reg false [.V 46 (.mv (.t 1)), .V 47 (.bin .add (.t 46) (.c (.int .i64 1))), .V 1 (.asg (.t 47))] [0, 1, 5] [0]))))))))))) (.reg false [.V 10 (.mv (.t 5)), .V 11 (.bin .add (.t 10) (.c (.int .i64 1))), .V 5 (.asg (.t 11))] [0, 1, 5] [0]))
def laws_markPotS_k1 : C :=
 .norm [0, 1, 5] [0] laws_markPotS_k0
def laws_markPotS_k2 : C :=
 .seq (.reg false [.V 48 (.mv (.t 1)), .V 4 (.asg (.t 48))] [0, 4] [0]) .ret
def laws_markPotS_ir : Fn := { np := 2, io := [true, false], res := [.t 4], own := [false], body :=
 (.seq (.reg false [.V 4 (.asg (.c (.int .i64 0)))] [0, 1] [0]) (.seq (.seq (.reg false [.V 5 (.asg (.c (.int .i64 0)))] [0, 1, 5] [0]) (.block 0 (.loop laws_markPotS_k1))) laws_markPotS_k2)) }
noncomputable def laws_markPotS_D : List (Nat × Callee) := [(40, laws_markText_c)]
def laws_markPotS_H : List (Nat × ET) := [(7, T_Pot), (12, T_Pot), (20, T_Pot), (27, T_Pot), (34, T_Pot), (41, T_Pot)]
noncomputable def laws_markPotS_c : Callee := mkCallee laws_markPotS_D laws_markPotS_H laws_markPotS_ir [.ios T_Pot, .d (.one (.int .i64))] [.d (.one (.int .i64))] [.ios T_Pot]
noncomputable def laws_markPotS (a0 : List T_Pot.ty) (a1 : Int) : Option (Int × List T_Pot.ty) := laws_markPotS_c.f (a0, a1, ())
noncomputable def laws_markPotS_p0 (l0 : Nat) (v0n : Nat) (v1 : Int) (v5 : Int) (r0 : List T_Pot.ty) : Option (Int × List T_Pot.ty) :=
 goL laws_markPotS_D laws_markPotS_H (vleave laws_markPotS_ir [.ios T_Pot, .d (.one (.int .i64))] [.d (.one (.int .i64))] [.ios T_Pot] [l0]) [.c laws_markPotS_k0, .l laws_markPotS_k1, .e 0, .c laws_markPotS_k2]
  ⟨[(0, .view 0 0 v0n), (1, .int .i64 v1), (5, .int .i64 v5)], [(0, some (.sl T_Pot r0))]⟩
theorem laws_markPotS_eq (a0 : List T_Pot.ty) (a1 : Int) : laws_markPotS a0 a1 =
  laws_markPotS_p0 a0.length a0.length a1 0 a0 :=
 (mk_f _ _ _ _ _ _ _ 4000).trans (by kernel_rfl)
theorem laws_markPotS_p0_eq (l0 : Nat) (v0n : Nat) (v1 : Int) (v5 : Int) (r0 : List T_Pot.ty) : laws_markPotS_p0 l0 v0n v1 v5 r0 =
  if decide (v5 < (v0n : Int)) then
   (laws_markText v1).bind fun x1 =>
    if decide (0 ≤ v5) && decide (v5 < (v0n : Int)) then
     (r0[v5.toNat]?).bind fun x2 =>
      if decide (0 ≤ v5) && decide (v5 < (v0n : Int)) then
       ((r0.set v5.toNat (x1, x2.2.1, x2.2.2.1, x2.2.2.2.1, x2.2.2.2.2.1, ()))[v5.toNat]?).bind fun x3 =>
        if decide (0 ≤ v5) && decide (v5 < (v0n : Int)) then
         (((r0.set v5.toNat (x1, x2.2.1, x2.2.2.1, x2.2.2.2.1, x2.2.2.2.2.1, ())).set v5.toNat (x3.1, IntKind.i64.wrap (v1 + 1), x3.2.2.1, x3.2.2.2.1, x3.2.2.2.2.1, ()))[v5.toNat]?).bind fun x4 =>
          if decide (0 ≤ v5) && decide (v5 < (v0n : Int)) then
           ((((r0.set v5.toNat (x1, x2.2.1, x2.2.2.1, x2.2.2.2.1, x2.2.2.2.2.1, ())).set v5.toNat (x3.1, IntKind.i64.wrap (v1 + 1), x3.2.2.1, x3.2.2.2.1, x3.2.2.2.2.1, ())).set v5.toNat (x4.1, x4.2.1, IntKind.i64.wrap ((IntKind.i64.wrap (v1 + 1)) + 1), x4.2.2.2.1, x4.2.2.2.2.1, ()))[v5.toNat]?).bind fun x5 =>
            if decide (0 ≤ v5) && decide (v5 < (v0n : Int)) then
             (((((r0.set v5.toNat (x1, x2.2.1, x2.2.2.1, x2.2.2.2.1, x2.2.2.2.2.1, ())).set v5.toNat (x3.1, IntKind.i64.wrap (v1 + 1), x3.2.2.1, x3.2.2.2.1, x3.2.2.2.2.1, ())).set v5.toNat (x4.1, x4.2.1, IntKind.i64.wrap ((IntKind.i64.wrap (v1 + 1)) + 1), x4.2.2.2.1, x4.2.2.2.2.1, ())).set v5.toNat (x5.1, x5.2.1, x5.2.2.1, IntKind.i64.wrap ((IntKind.i64.wrap ((IntKind.i64.wrap (v1 + 1)) + 1)) + 1), x5.2.2.2.2.1, ()))[v5.toNat]?).bind fun x6 =>
              laws_markPotS_p0 l0 v0n (IntKind.i64.wrap ((IntKind.i64.wrap ((IntKind.i64.wrap ((IntKind.i64.wrap ((IntKind.i64.wrap (v1 + 1)) + 1)) + 1)) + 1)) + 1)) (IntKind.i64.wrap (v5 + 1)) (((((r0.set v5.toNat (x1, x2.2.1, x2.2.2.1, x2.2.2.2.1, x2.2.2.2.2.1, ())).set v5.toNat (x3.1, IntKind.i64.wrap (v1 + 1), x3.2.2.1, x3.2.2.2.1, x3.2.2.2.2.1, ())).set v5.toNat (x4.1, x4.2.1, IntKind.i64.wrap ((IntKind.i64.wrap (v1 + 1)) + 1), x4.2.2.2.1, x4.2.2.2.2.1, ())).set v5.toNat (x5.1, x5.2.1, x5.2.2.1, IntKind.i64.wrap ((IntKind.i64.wrap ((IntKind.i64.wrap (v1 + 1)) + 1)) + 1), x5.2.2.2.2.1, ())).set v5.toNat (x6.1, x6.2.1, x6.2.2.1, x6.2.2.2.1, IntKind.i64.wrap ((IntKind.i64.wrap ((IntKind.i64.wrap ((IntKind.i64.wrap (v1 + 1)) + 1)) + 1)) + 1), ()))
            else
             none
          else
           none
        else
         none
      else
       none
    else
     none
  else
   if decide (r0.length = l0) then
    some (v1, r0)
   else
    none :=
 (goL_dn _ _ _ 4000 _ _).trans (by kernel_rfl)

/- laws.markStringS -/
def laws_markStringS_k0 : C :=
 .seq (.seq (.reg false [.V 6 (.mv (.t 5)), .V 7 (.mv (.t 0)), .V 8 (.len (.t 7)), .V 9 (.bin .lss (.t 6) (.t 8))] [0, 1, 5, 9] [0]) (.cond (.t 9) .skip (.exit 0))) (.seq (.block 1 (.seq (.reg false [.V 12 (.mv (.t 0)), .V 13 (.mv (.t 5)), .V 14 (.mv (.t 1)), .V 15 (.call (.c (.fn 40 [])) [.t 14]), .V 16 (.ia 1 (.t 12) (.t 13)), ⟨none, true, .sto 1 (.t 16) (.t 15), none, false, []⟩] [0, 1, 5] [0]) (.reg false [.V 17 (.mv (.t 1)), .V 18 (.bin .add (.t 17) (.c (.int .i64 1))), .V 1 (.asg (.t 18))] [0, 1, 5] [0]))) (.reg false [.V 10 (.mv (.t 5)), .V 11 (.bin .add (.t 10) (.c (.int .i64 1))), .V 5 (.asg (.t 11))] [0, 1, 5] [0]))
def laws_markStringS_k1 : C :=
 .norm [0, 1, 5] [0] laws_markStringS_k0
def laws_markStringS_k2 : C :=
 .seq (.reg false [.V 19 (.mv (.t 1)), .V 4 (.asg (.t 19))] [0, 4] [0]) .ret
def laws_markStringS_ir : Fn := { np := 2, io := [true, false], res := [.t 4], own := [false], body :=
 (.seq (.reg false [.V 4 (.asg (.c (.int .i64 0)))] [0, 1] [0]) (.seq (.seq (.reg false [.V 5 (.asg (.c (.int .i64 0)))] [0, 1, 5] [0]) (.block 0 (.loop laws_markStringS_k1))) laws_markStringS_k2)) }
noncomputable def laws_markStringS_D : List (Nat × Callee) := [(40, laws_markText_c)]
def laws_markStringS_H : List (Nat × ET) := [(7, (.one .str)), (12, (.one .str))]
noncomputable def laws_markStringS_c : Callee := mkCallee laws_markStringS_D laws_markStringS_H laws_markStringS_ir [.ios (.one .str), .d (.one (.int .i64))] [.d (.one (.int .i64))] [.ios (.one .str)]
noncomputable def laws_markStringS (a0 : List (List UInt8)) (a1 : Int) : Option (Int × List (List UInt8)) := laws_markStringS_c.f (a0, a1, ())
noncomputable def laws_markStringS_p0 (l0 : Nat) (v0n : Nat) (v1 : Int) (v5 : Int) (r0 : List (List UInt8)) : Option (Int × List (List UInt8)) :=
 goL laws_markStringS_D laws_markStringS_H (vleave laws_markStringS_ir [.ios (.one .str), .d (.one (.int .i64))] [.d (.one (.int .i64))] [.ios (.one .str)] [l0]) [.c laws_markStringS_k0, .l laws_markStringS_k1, .e 0, .c laws_markStringS_k2]
  ⟨[(0, .view 0 0 v0n), (1, .int .i64 v1), (5, .int .i64 v5)], [(0, some (.sl (.one .str) r0))]⟩
theorem laws_markStringS_eq (a0 : List (List UInt8)) (a1 : Int) : laws_markStringS a0 a1 =
  laws_markStringS_p0 a0.length a0.length a1 0 a0 :=
 (mk_f _ _ _ _ _ _ _ 4000).trans (by kernel_rfl)
theorem laws_markStringS_p0_eq (l0 : Nat) (v0n : Nat) (v1 : Int) (v5 : Int) (r0 : List (List UInt8)) : laws_markStringS_p0 l0 v0n v1 v5 r0 =
  if decide (v5 < (v0n : Int)) then
   (laws_markText v1).bind fun x1 =>
    if decide (0 ≤ v5) && decide (v5 < (v0n : Int)) then
     (r0[v5.toNat]?).bind fun x2 =>
      laws_markStringS_p0 l0 v0n (IntKind.i64.wrap (v1 + 1)) (IntKind.i64.wrap (v5 + 1)) (r0.set v5.toNat x1)
    else
     none
  else
   if decide (r0.length = l0) then
    some (v1, r0)
   else
    none :=
 (goL_dn _ _ _ 4000 _ _).trans (by kernel_rfl)

/- laws.heldStringS -/
def laws_heldStringS_k0 : C :=
 .seq (.seq (.reg false [.V 6 (.mv (.t 5)), .V 7 (.mv (.t 0)), .V 8 (.len (.t 7)), .V 9 (.bin .lss (.t 6) (.t 8))] [0, 1, 5, 9] []) (.cond (.t 9) .skip (.exit 0))) (.seq (.block 1 (.seq (.seq (.reg true [.V 12 (.mv (.t 0)), .V 13 (.mv (.t 5)), .V 14 (.ia 1 (.t 12) (.t 13)), .V 15 (.ld none (.t 14)), .V 16 (.mv (.t 1)), .V 17 (.call (.c (.fn 40 [])) [.t 16]), .V 18 (.bin .neq (.t 15) (.t 17))] [0, 1, 5, 18] []) (.cond (.t 18) (.seq (.reg false [.V 4 (.asg (.c (.int .i64 (-1))))] [4] []) .ret) .skip)) (.reg false [.V 19 (.mv (.t 1)), .V 20 (.bin .add (.t 19) (.c (.int .i64 1))), .V 1 (.asg (.t 20))] [0, 1, 5] []))) (.reg false [.V 10 (.mv (.t 5)), .V 11 (.bin .add (.t 10) (.c (.int .i64 1))), .V 5 (.asg (.t 11))] [0, 1, 5] []))
def laws_heldStringS_k1 : C :=
 .norm [0, 1, 5] [] laws_heldStringS_k0
def laws_heldStringS_k2 : C :=
 .seq (.reg false [.V 21 (.mv (.t 1)), .V 4 (.asg (.t 21))] [4] []) .ret
def laws_heldStringS_ir : Fn := { np := 2, io := [], res := [.t 4], own := [false], body :=
 (.seq (.reg false [.V 4 (.asg (.c (.int .i64 0)))] [0, 1] []) (.seq (.seq (.reg false [.V 5 (.asg (.c (.int .i64 0)))] [0, 1, 5] []) (.block 0 (.loop laws_heldStringS_k1))) laws_heldStringS_k2)) }
noncomputable def laws_heldStringS_D : List (Nat × Callee) := [(40, laws_markText_c)]
def laws_heldStringS_H : List (Nat × ET) := [(7, (.one .str)), (12, (.one .str))]
noncomputable def laws_heldStringS_c : Callee := mkCallee laws_heldStringS_D laws_heldStringS_H laws_heldStringS_ir [.d (.one (.sl (.one .str))), .d (.one (.int .i64))] [.d (.one (.int .i64))] []
noncomputable def laws_heldStringS (a0 : List (List UInt8)) (a1 : Int) : Option (Int) := laws_heldStringS_c.f (a0, a1, ())
noncomputable def laws_heldStringS_p0  (v0 : List (List UInt8)) (v1 : Int) (v5 : Int) : Option (Int) :=
 goL laws_heldStringS_D laws_heldStringS_H (vleave laws_heldStringS_ir [.d (.one (.sl (.one .str))), .d (.one (.int .i64))] [.d (.one (.int .i64))] [] []) [.c laws_heldStringS_k0, .l laws_heldStringS_k1, .e 0, .c laws_heldStringS_k2]
  ⟨[(0, .sl (.one .str) v0), (1, .int .i64 v1), (5, .int .i64 v5)], []⟩
theorem laws_heldStringS_eq (a0 : List (List UInt8)) (a1 : Int) : laws_heldStringS a0 a1 =
  laws_heldStringS_p0 a0 a1 0 :=
 (mk_f _ _ _ _ _ _ _ 4000).trans (by kernel_rfl)
theorem laws_heldStringS_p0_eq  (v0 : List (List UInt8)) (v1 : Int) (v5 : Int) : laws_heldStringS_p0 v0 v1 v5 =
  if decide (v5 < (v0.length : Int)) then
   if decide (0 ≤ v5) then
    (v0[v5.toNat]?).bind fun x1 =>
     (laws_markText v1).bind fun x2 =>
      if (!(x1 == x2)) then
       some (-1)
      else
       laws_heldStringS_p0 v0 (IntKind.i64.wrap (v1 + 1)) (IntKind.i64.wrap (v5 + 1))
   else
    none
  else
   some v1 :=
 (goL_dn _ _ _ 4000 _ _).trans (by kernel_rfl)

/- laws.FnExactPotReport -/
def laws_FnExactPotReport_k0 : C :=
 .seq (.reg false [.V 11 (.asg (.c (.int .i64 1)))] [7, 10, 11] [7]) (.seq (.reg false [.V 88 (.mv (.t 7)), .V 89 (.mv (.t 11)), .V 90 (.call (.c (.fn 136 [])) [.t 88, .t 89]), .V 11 (.asg (.t 90))] [10, 11] []) (.seq (.seq (.reg false [.V 91 (.mv (.t 11)), .V 92 (.bin .lss (.t 91) (.c (.int .i64 0)))] [10, 11, 92] []) (.cond (.t 92) (.seq (.reg false [.V 2 (.asg (.c (.bool false)))] [2] []) .ret) .skip)) (.seq (.seq (.reg false [.V 93 (.mv (.t 11)), .V 94 (.mv (.t 10)), .V 95 (.bin .neq (.t 93) (.t 94))] [95] []) (.cond (.t 95) (.seq (.reg false [.V 2 (.asg (.c (.bool false)))] [2] []) .ret) .skip)) (.seq (.reg false [.V 2 (.asg (.c (.bool true)))] [2] []) .ret))))
def laws_FnExactPotReport_k1 : C :=
 .seq (.reg false [.V 10 (.asg (.c (.int .i64 1)))] [0, 4, 5, 7, 10] [4, 7]) (.seq (.reg false [.V 62 (.mv (.t 7)), .V 63 (.mv (.t 10)), .W 64 (.call (.c (.fn 139 [])) [.t 62, .t 63]), .V 10 (.asg (.t 64))] [0, 4, 5, 7, 10] [4, 7]) (.seq (.reg false [.V 11 (.asg (.c (.int .i64 1)))] [0, 4, 5, 7, 10, 11] [4, 7]) (.seq (.reg false [.V 65 (.mv (.t 7)), .V 66 (.mv (.t 11)), .V 67 (.call (.c (.fn 136 [])) [.t 65, .t 66]), .V 11 (.asg (.t 67))] [0, 4, 5, 7, 10, 11] [4, 7]) (.seq (.seq (.reg false [.V 68 (.mv (.t 11)), .V 69 (.bin .lss (.t 68) (.c (.int .i64 0)))] [0, 4, 5, 7, 10, 11, 69] [4, 7]) (.cond (.t 69) (.seq (.reg false [.V 2 (.asg (.c (.bool false)))] [2] []) .ret) .skip)) (.seq (.seq (.reg false [.V 70 (.mv (.t 11)), .V 71 (.mv (.t 10)), .V 72 (.bin .neq (.t 70) (.t 71))] [0, 4, 5, 7, 10, 72] [4, 7]) (.cond (.t 72) (.seq (.reg false [.V 2 (.asg (.c (.bool false)))] [2] []) .ret) .skip)) (.seq (.reg false [.V 74 (.mv (.t 0)), .V 75 (.call (.c (.fn 59 [])) [.t 74]), .V 76 (.call (.c (.fn 322 [])) [.t 75]), .V 73 (.mv (.t 76)), .V 77 (.ext (.t 73) 0), .V 78 (.ext (.t 73) 1), .W 12 (.asg (.t 77)), .V 13 (.asg (.t 78))] [4, 5, 7, 10, 12, 13] [4, 7, 12]) (.seq (.seq (.reg false [.V 79 (.mv (.t 12)), .V 80 (.mv (.t 4)), .V 81 (.call (.c (.fn 137 [])) [.t 79, .t 80]), .V 82 (.un .not (.t 81)), .V 83 (.mv (.t 82)), .G 84 (.mv (.t 13)) 4 false, .G 85 (.mv (.t 5)) 4 false, .G 86 (.bin .neq (.t 84) (.t 85)) 4 false, .V 87 (.pick (.t 83) (.c (.bool true)) (.t 86))] [7, 10, 87] [7]) (.cond (.t 87) (.seq (.reg false [.V 2 (.asg (.c (.bool false)))] [2] []) .ret) .skip)) (.norm [7, 10] [7] laws_FnExactPotReport_k0))))))))
def laws_FnExactPotReport_k2 : C :=
 .seq (.seq (.reg false [.V 41 (.mv (.t 6)), .V 42 (.mv (.t 0)), .V 43 (.call (.c (.fn 59 [])) [.t 42]), .V 44 (.call (.c (.fn 60 [])) [.t 41, .t 43]), .V 45 (.un .not (.t 44))] [0, 4, 5, 6, 7, 8, 45] [4, 6, 7]) (.cond (.t 45) (.seq (.reg false [.V 2 (.asg (.c (.bool false)))] [2] []) .ret) .skip)) (.seq (.reg false [.V 9 (.asg (.c (.int .i64 1)))] [0, 4, 5, 6, 7, 8, 9] [4, 6, 7]) (.seq (.reg false [.V 46 (.mv (.t 6)), .V 47 (.mv (.t 9)), .W 48 (.call (.c (.fn 323 [])) [.t 46, .t 47]), .V 9 (.asg (.t 48))] [0, 4, 5, 7, 8, 9] [4, 7]) (.seq (.seq (.reg false [.V 49 (.mv (.t 9)), .V 50 (.bin .lss (.t 49) (.c (.int .i64 0))), .V 51 (.mv (.t 50)), .G 52 (.mv (.t 7)) 2 false, .G 53 (.mv (.t 4)) 2 false, .G 54 (.call (.c (.fn 137 [])) [.t 52, .t 53]) 2 false, .G 55 (.un .not (.t 54)) 2 false, .V 56 (.pick (.t 51) (.c (.bool true)) (.t 55)), .V 57 (.mv (.t 56)), .G 58 (.mv (.t 8)) 8 false, .G 59 (.mv (.t 5)) 8 false, .G 60 (.bin .neq (.t 58) (.t 59)) 8 false, .V 61 (.pick (.t 57) (.c (.bool true)) (.t 60))] [0, 4, 5, 7, 61] [4, 7]) (.cond (.t 61) (.seq (.reg false [.V 2 (.asg (.c (.bool false)))] [2] []) .ret) .skip)) (.norm [0, 4, 5, 7] [4, 7] laws_FnExactPotReport_k1))))
def laws_FnExactPotReport_ir : Fn := { np := 1, io := [], res := [.t 2], own := [false], body :=
 (.seq (.reg false [.V 2 (.asg (.c (.bool false)))] [0] []) (.seq (.reg false [.V 3 (.asg (.c (.int .i64 1048576)))] [0, 3] []) (.seq (.reg false [.V 14 (.mv (.t 0)), .V 15 (.mv (.t 3)), .V 16 (.call (.c (.fn 63 [])) [.t 14, .t 15]), .V 3 (.asg (.t 16))] [0, 3] []) (.seq (.seq (.reg false [.V 17 (.mv (.t 3)), .V 18 (.bin .lss (.t 17) (.c (.int .i64 0)))] [0, 18] []) (.cond (.t 18) (.seq (.reg false [.V 2 (.asg (.c (.bool true)))] [2] []) .ret) .skip)) (.seq (.reg false [.V 20 (.mv (.t 0)), .V 21 (.call (.c (.fn 59 [])) [.t 20]), .W 22 (.call (.c (.fn 324 [])) [.t 21]), .V 19 (.mv (.t 22)), .V 23 (.ext (.t 19) 0), .V 24 (.ext (.t 19) 1), .W 4 (.asg (.t 23)), .V 5 (.asg (.t 24))] [0, 4, 5] [4]) (.seq (.reg false [.V 25 (.mv (.t 0)), .V 26 (.call (.c (.fn 59 [])) [.t 25]), .W 6 (.asg (.t 26))] [0, 4, 5, 6] [4, 6]) (.seq (.reg false [.V 28 (.mv (.t 6)), .V 29 (.call (.c (.fn 322 [])) [.t 28]), .V 27 (.mv (.t 29)), .V 30 (.ext (.t 27) 0), .V 31 (.ext (.t 27) 1), .W 7 (.asg (.t 30)), .V 8 (.asg (.t 31))] [0, 4, 5, 6, 7, 8] [4, 6, 7]) (.seq (.seq (.reg false [.V 32 (.mv (.t 7)), .V 33 (.mv (.t 4)), .V 34 (.call (.c (.fn 137 [])) [.t 32, .t 33]), .V 35 (.un .not (.t 34)), .V 36 (.mv (.t 35)), .G 37 (.mv (.t 8)) 4 false, .G 38 (.mv (.t 5)) 4 false, .G 39 (.bin .neq (.t 37) (.t 38)) 4 false, .V 40 (.pick (.t 36) (.c (.bool true)) (.t 39))] [0, 4, 5, 6, 7, 8, 40] [4, 6, 7]) (.cond (.t 40) (.seq (.reg false [.V 2 (.asg (.c (.bool false)))] [2] []) .ret) .skip)) (.norm [0, 4, 5, 6, 7, 8] [4, 6, 7] laws_FnExactPotReport_k2))))))))) }
noncomputable def laws_FnExactPotReport_D : List (Nat × Callee) := [(59, laws_toPotS_c), (60, laws_eqPotS_c), (63, laws_szPotS_c), (136, laws_heldStringS_c), (137, laws_eqStringS_c), (139, laws_markStringS_c), (322, impl_PotReport_c), (323, laws_markPotS_c), (324, spec_PotReport_c)]
def laws_FnExactPotReport_H : List (Nat × ET) := [(4, (.one .str)), (6, T_Pot), (7, (.one .str)), (12, (.one .str)), (14, T_Pot), (20, T_Pot), (21, T_Pot), (23, (.one .str)), (25, T_Pot), (26, T_Pot), (28, T_Pot), (30, (.one .str)), (32, (.one .str)), (33, (.one .str)), (41, T_Pot), (42, T_Pot), (43, T_Pot), (46, T_Pot), (52, (.one .str)), (53, (.one .str)), (62, (.one .str)), (65, (.one .str)), (74, T_Pot), (75, T_Pot), (77, (.one .str)), (79, (.one .str)), (80, (.one .str)), (88, (.one .str))]
noncomputable def laws_FnExactPotReport_c : Callee := mkCallee laws_FnExactPotReport_D laws_FnExactPotReport_H laws_FnExactPotReport_ir [.d (.one (.sl T_Pot))] [.d (.one .bool)] []
noncomputable def laws_FnExactPotReport (a0 : List T_Pot.ty) : Option (Bool) := laws_FnExactPotReport_c.f (a0, ())
noncomputable def laws_FnExactPotReport_p0  (v0 : List T_Pot.ty) (v4 : List (List UInt8)) (v5 : Int) (v8 : Int) (r6 : List T_Pot.ty) (r7 : List (List UInt8)) : Option (Bool) :=
 goL laws_FnExactPotReport_D laws_FnExactPotReport_H (vleave laws_FnExactPotReport_ir [.d (.one (.sl T_Pot))] [.d (.one .bool)] [] []) [.c laws_FnExactPotReport_k2]
  ⟨[(0, .sl T_Pot v0), (4, .sl (.one .str) v4), (5, .int .i64 v5), (6, .view 6 0 r6.length), (7, .view 7 0 r7.length), (8, .int .i64 v8)], [(4, none), (6, some (.sl T_Pot r6)), (7, some (.sl (.one .str) r7))]⟩
noncomputable def laws_FnExactPotReport_p1  (v0 : List T_Pot.ty) (v4 : List (List UInt8)) (v5 : Int) (r7 : List (List UInt8)) : Option (Bool) :=
 goL laws_FnExactPotReport_D laws_FnExactPotReport_H (vleave laws_FnExactPotReport_ir [.d (.one (.sl T_Pot))] [.d (.one .bool)] [] []) [.c laws_FnExactPotReport_k1]
  ⟨[(0, .sl T_Pot v0), (4, .sl (.one .str) v4), (5, .int .i64 v5), (7, .view 7 0 r7.length)], [(4, none), (7, some (.sl (.one .str) r7))]⟩
noncomputable def laws_FnExactPotReport_p2  (v7n : Nat) (v10 : Int) (r7 : List (List UInt8)) : Option (Bool) :=
 goL laws_FnExactPotReport_D laws_FnExactPotReport_H (vleave laws_FnExactPotReport_ir [.d (.one (.sl T_Pot))] [.d (.one .bool)] [] []) [.c laws_FnExactPotReport_k0]
  ⟨[(7, .view 7 0 v7n), (10, .int .i64 v10)], [(7, some (.sl (.one .str) r7))]⟩
theorem laws_FnExactPotReport_eq (a0 : List T_Pot.ty) : laws_FnExactPotReport a0 =
  (laws_szPotS a0 1048576).bind fun x1 =>
   if decide (x1 < 0) then
    some true
   else
    (laws_toPotS a0).bind fun x2 =>
     (spec_PotReport x2).bind fun x3 =>
      (laws_toPotS a0).bind fun x4 =>
       (impl_PotReport (x4.take x4.length)).bind fun x5 =>
        (laws_eqStringS (x5.1.take x5.1.length) x3.1).bind fun x6 =>
         if (!x6) then
          some false
         else
          if (x5.2 != x3.2) then
           some false
          else
           laws_FnExactPotReport_p0 a0 x3.1 x3.2 x5.2 x4 x5.1 :=
 (mk_f _ _ _ _ _ _ _ 4000).trans (by kernel_rfl)
theorem laws_FnExactPotReport_p0_eq  (v0 : List T_Pot.ty) (v4 : List (List UInt8)) (v5 : Int) (v8 : Int) (r6 : List T_Pot.ty) (r7 : List (List UInt8)) : laws_FnExactPotReport_p0 v0 v4 v5 v8 r6 r7 =
  (laws_toPotS v0).bind fun x1 =>
   (laws_eqPotS (r6.take r6.length) x1).bind fun x2 =>
    if (!x2) then
     some false
    else
     if decide (r6.length = r6.length) then
      (laws_markPotS r6 1).bind fun x3 =>
       if decide (x3.1 < 0) then
        some false
       else
        (laws_eqStringS (r7.take r7.length) v4).bind fun x4 =>
         if (!x4) then
          some false
         else
          if (v8 != v5) then
           some false
          else
           laws_FnExactPotReport_p1 v0 v4 v5 r7
     else
      none :=
 (goL_dn _ _ _ 4000 _ _).trans (by kernel_rfl)
theorem laws_FnExactPotReport_p1_eq  (v0 : List T_Pot.ty) (v4 : List (List UInt8)) (v5 : Int) (r7 : List (List UInt8)) : laws_FnExactPotReport_p1 v0 v4 v5 r7 =
  if decide (r7.length = r7.length) then
   (laws_markStringS r7 1).bind fun x1 =>
    (laws_heldStringS (x1.2.take r7.length) 1).bind fun x2 =>
     if decide (x2 < 0) then
      some false
     else
      if (x2 != x1.1) then
       some false
      else
       (laws_toPotS v0).bind fun x3 =>
        (impl_PotReport x3).bind fun x4 =>
         (laws_eqStringS (x4.1.take x4.1.length) v4).bind fun x5 =>
          if (!x5) then
           some false
          else
           if (x4.2 != v5) then
            some false
           else
            laws_FnExactPotReport_p2 r7.length x1.1 x1.2
  else
   none :=
 (goL_dn _ _ _ 4000 _ _).trans (by kernel_rfl)
theorem laws_FnExactPotReport_p2_eq  (v7n : Nat) (v10 : Int) (r7 : List (List UInt8)) : laws_FnExactPotReport_p2 v7n v10 r7 =
  (laws_heldStringS (r7.take v7n) 1).bind fun x1 =>
   if decide (x1 < 0) then
    some false
   else
    if (x1 != v10) then
     some false
    else
     some true :=
 (goL_dn _ _ _ 4000 _ _).trans (by kernel_rfl)

end Go.Ab.P
