/- Functions of the program: abstract forms, and what their runs give. Conditions: none. -/
import Derived.Test.YtdejhkhdilcadaaL4
set_option maxRecDepth 100000
set_option linter.unusedVariables false
namespace Go.Ab.P
open Go.Ab
@[reducible] def T_Peg : ET := .agg (.cons .str (.cons (.int .i64) (.cons (.int .i64) (.cons (.int .i64) .nil))))
/- laws.szPeg -/
def laws_szPeg_ir : Fn := { np := 2, io := [], res := [.t 4], own := [false], body :=
 (.seq (.reg false [.W 2 (.box 4 (.t 0)), .V 4 (.asg (.c (.int .i64 0)))] [1, 2] [2]) (.seq (.reg false [.V 5 (.mv (.t 1)), .V 6 (.fa 0 (.t 2)), .V 7 (.ld none (.t 6)), .V 8 (.lens (.t 7)), .V 9 (.bin .sub (.t 5) (.t 8)), .V 1 (.asg (.t 9))] [1] []) (.seq (.seq (.reg false [.V 10 (.mv (.t 1)), .V 11 (.bin .lss (.t 10) (.c (.int .i64 0)))] [1, 11] []) (.cond (.t 11) (.seq (.reg false [.V 4 (.asg (.c (.int .i64 (-1))))] [4] []) .ret) .skip)) (.seq (.reg false [.V 12 (.mv (.t 1)), .V 4 (.asg (.t 12))] [4] []) .ret)))) }
noncomputable def laws_szPeg_D : List (Nat × Callee) := []
def laws_szPeg_H : List (Nat × ET) := []
noncomputable def laws_szPeg_c : Callee := mkCallee laws_szPeg_D laws_szPeg_H laws_szPeg_ir [.d T_Peg, .d (.one (.int .i64))] [.d (.one (.int .i64))] []
noncomputable def laws_szPeg (a0 : T_Peg.ty) (a1 : Int) : Option (Int) := laws_szPeg_c.f (a0, a1, ())
theorem laws_szPeg_eq (a0 : T_Peg.ty) (a1 : Int) : laws_szPeg a0 a1 =
  if decide (IntKind.i64.wrap (a1 - (a0.1.length : Int)) < 0) then
   some (-1)
  else
   some (IntKind.i64.wrap (a1 - (a0.1.length : Int))) :=
 (mk_f _ _ _ _ _ _ _ 4000).trans (by kernel_rfl)

/- laws.szPegS -/
def laws_szPegS_k0 : C :=
 .seq (.seq (.reg false [.V 12 (.mv (.t 5)), .V 13 (.mv (.t 0)), .V 14 (.len (.t 13)), .V 15 (.bin .lss (.t 12) (.t 14))] [0, 1, 5, 15] []) (.cond (.t 15) .skip (.exit 0))) (.seq (.block 1 (.seq (.reg false [.V 18 (.mv (.t 0)), .V 19 (.mv (.t 5)), .V 20 (.ia 4 (.t 18) (.t 19)), .V 21 (.ld (some 4) (.t 20)), .V 22 (.mv (.t 1)), .V 23 (.call (.c (.fn 493 [])) [.t 21, .t 22]), .V 1 (.asg (.t 23))] [0, 1, 5] []) (.seq (.reg false [.V 24 (.mv (.t 1)), .V 25 (.bin .lss (.t 24) (.c (.int .i64 0)))] [0, 1, 5, 25] []) (.cond (.t 25) (.seq (.reg false [.V 4 (.asg (.c (.int .i64 (-1))))] [4] []) .ret) .skip)))) (.reg false [.V 16 (.mv (.t 5)), .V 17 (.bin .add (.t 16) (.c (.int .i64 1))), .V 5 (.asg (.t 17))] [0, 1, 5] []))
def laws_szPegS_k1 : C :=
 .norm [0, 1, 5] [] laws_szPegS_k0
def laws_szPegS_k2 : C :=
 .seq (.reg false [.V 26 (.mv (.t 1)), .V 4 (.asg (.t 26))] [4] []) .ret
def laws_szPegS_ir : Fn := { np := 2, io := [], res := [.t 4], own := [false], body :=
 (.seq (.reg false [.V 4 (.asg (.c (.int .i64 0)))] [0, 1] []) (.seq (.reg false [.V 6 (.mv (.t 1)), .V 7 (.mv (.t 0)), .V 8 (.len (.t 7)), .V 9 (.bin .sub (.t 6) (.t 8)), .V 1 (.asg (.t 9))] [0, 1] []) (.seq (.seq (.reg false [.V 10 (.mv (.t 1)), .V 11 (.bin .lss (.t 10) (.c (.int .i64 0)))] [0, 1, 11] []) (.cond (.t 11) (.seq (.reg false [.V 4 (.asg (.c (.int .i64 (-1))))] [4] []) .ret) .skip)) (.seq (.seq (.reg false [.V 5 (.asg (.c (.int .i64 0)))] [0, 1, 5] []) (.block 0 (.loop laws_szPegS_k1))) laws_szPegS_k2)))) }
noncomputable def laws_szPegS_D : List (Nat × Callee) := [(493, laws_szPeg_c)]
def laws_szPegS_H : List (Nat × ET) := [(7, T_Peg), (13, T_Peg), (18, T_Peg)]
noncomputable def laws_szPegS_c : Callee := mkCallee laws_szPegS_D laws_szPegS_H laws_szPegS_ir [.d (.one (.sl T_Peg)), .d (.one (.int .i64))] [.d (.one (.int .i64))] []
noncomputable def laws_szPegS (a0 : List T_Peg.ty) (a1 : Int) : Option (Int) := laws_szPegS_c.f (a0, a1, ())
noncomputable def laws_szPegS_p0  (v0 : List T_Peg.ty) (v1 : Int) (v5 : Int) : Option (Int) :=
 goL laws_szPegS_D laws_szPegS_H (vleave laws_szPegS_ir [.d (.one (.sl T_Peg)), .d (.one (.int .i64))] [.d (.one (.int .i64))] [] []) [.c laws_szPegS_k0, .l laws_szPegS_k1, .e 0, .c laws_szPegS_k2]
  ⟨[(0, .sl T_Peg v0), (1, .int .i64 v1), (5, .int .i64 v5)], []⟩
theorem laws_szPegS_eq (a0 : List T_Peg.ty) (a1 : Int) : laws_szPegS a0 a1 =
  if decide (IntKind.i64.wrap (a1 - (a0.length : Int)) < 0) then
   some (-1)
  else
   laws_szPegS_p0 a0 (IntKind.i64.wrap (a1 - (a0.length : Int))) 0 :=
 (mk_f _ _ _ _ _ _ _ 4000).trans (by kernel_rfl)
theorem laws_szPegS_p0_eq  (v0 : List T_Peg.ty) (v1 : Int) (v5 : Int) : laws_szPegS_p0 v0 v1 v5 =
  if decide (v5 < (v0.length : Int)) then
   if decide (0 ≤ v5) then
    (v0[v5.toNat]?).bind fun x1 =>
     (laws_szPeg x1 v1).bind fun x2 =>
      if decide (x2 < 0) then
       some (-1)
      else
       laws_szPegS_p0 v0 x2 (IntKind.i64.wrap (v5 + 1))
   else
    none
  else
   some v1 :=
 (goL_dn _ _ _ 4000 _ _).trans (by kernel_rfl)

/- laws.toPeg -/
def laws_toPeg_ir : Fn := { np := 1, io := [], res := [.cell 2 (some 4)], own := [false], body :=
 (.seq (.reg false [.W 1 (.box 4 (.t 0)), .W 2 (.alloc 4 (.agg [.str [], .int .i64 0, .int .i64 0, .int .i64 0]))] [1, 2] [1, 2]) (.seq (.reg false [.W 3 (.alloc 4 (.agg [.str [], .int .i64 0, .int .i64 0, .int .i64 0]))] [1, 2, 3] [1, 2, 3]) (.seq (.reg false [.V 4 (.fa 0 (.t 1)), .V 5 (.ld none (.t 4)), .V 6 (.fa 0 (.t 3)), ⟨none, true, .sto 1 (.t 6) (.t 5), none, false, []⟩] [1, 2, 3] [1, 2, 3]) (.seq (.reg false [.V 7 (.fa 1 (.t 1)), .V 8 (.ld none (.t 7)), .V 9 (.fa 1 (.t 3)), ⟨none, true, .sto 1 (.t 9) (.t 8), none, false, []⟩] [1, 2, 3] [1, 2, 3]) (.seq (.reg false [.V 10 (.fa 2 (.t 1)), .V 11 (.ld none (.t 10)), .V 12 (.fa 2 (.t 3)), ⟨none, true, .sto 1 (.t 12) (.t 11), none, false, []⟩] [1, 2, 3] [1, 2, 3]) (.seq (.reg false [.V 13 (.fa 3 (.t 1)), .V 14 (.ld none (.t 13)), .V 15 (.fa 3 (.t 3)), ⟨none, true, .sto 1 (.t 15) (.t 14), none, false, []⟩] [2, 3] [2, 3]) (.seq (.reg false [.V 16 (.ld (some 4) (.t 3)), ⟨none, true, .sto 4 (.t 2) (.t 16), none, false, []⟩] [2] [2]) .ret))))))) }
noncomputable def laws_toPeg_D : List (Nat × Callee) := []
def laws_toPeg_H : List (Nat × ET) := []
noncomputable def laws_toPeg_c : Callee := mkCallee laws_toPeg_D laws_toPeg_H laws_toPeg_ir [.d T_Peg] [.d T_Peg] []
noncomputable def laws_toPeg (a0 : T_Peg.ty) : Option (T_Peg.ty) := laws_toPeg_c.f (a0, ())
theorem laws_toPeg_eq (a0 : T_Peg.ty) : laws_toPeg a0 =
  some a0 :=
 (mk_f _ _ _ _ _ _ _ 4000).trans (by kernel_rfl)

/- laws.toPegS -/
def laws_toPegS_k0 : C :=
 .seq (.seq (.reg false [.V 8 (.mv (.t 4)), .V 9 (.mv (.t 0)), .V 10 (.len (.t 9)), .V 11 (.bin .lss (.t 8) (.t 10))] [0, 3, 4, 11] [3]) (.cond (.t 11) .skip (.exit 0))) (.seq (.block 1 (.reg false [.V 14 (.mv (.t 3)), .V 15 (.mv (.t 4)), .V 16 (.mv (.t 0)), .V 17 (.mv (.t 4)), .V 18 (.ia 4 (.t 16) (.t 17)), .V 19 (.ld (some 4) (.t 18)), .V 20 (.call (.c (.fn 498 [])) [.t 19]), .V 21 (.ia 4 (.t 14) (.t 15)), ⟨none, true, .sto 4 (.t 21) (.t 20), none, false, []⟩] [0, 3, 4] [3])) (.reg false [.V 12 (.mv (.t 4)), .V 13 (.bin .add (.t 12) (.c (.int .i64 1))), .V 4 (.asg (.t 13))] [0, 3, 4] [3]))
def laws_toPegS_k1 : C :=
 .norm [0, 3, 4] [3] laws_toPegS_k0
def laws_toPegS_k2 : C :=
 .seq (.reg false [.V 22 (.mv (.t 3)), .W 2 (.asg (.t 22))] [2] [2, 3]) .ret
def laws_toPegS_ir : Fn := { np := 1, io := [], res := [.t 2], own := [true], body :=
 (.seq (.reg false [.W 2 (.asg (.c (.nils 4)))] [0] []) (.seq (.reg false [.V 5 (.mv (.t 0)), .V 6 (.len (.t 5)), .V 7 (.mks 4 40 (.agg [.str [], .int .i64 0, .int .i64 0, .int .i64 0]) (.t 6) (.t 6)), .W 3 (.asg (.t 7))] [0, 3] [3]) (.seq (.seq (.reg false [.V 4 (.asg (.c (.int .i64 0)))] [0, 3, 4] [3]) (.block 0 (.loop laws_toPegS_k1))) laws_toPegS_k2))) }
noncomputable def laws_toPegS_D : List (Nat × Callee) := [(498, laws_toPeg_c)]
def laws_toPegS_H : List (Nat × ET) := [(2, T_Peg), (3, T_Peg), (5, T_Peg), (7, T_Peg), (9, T_Peg), (14, T_Peg), (16, T_Peg), (22, T_Peg)]
noncomputable def laws_toPegS_c : Callee := mkCallee laws_toPegS_D laws_toPegS_H laws_toPegS_ir [.d (.one (.sl T_Peg))] [.tok T_Peg] []
noncomputable def laws_toPegS (a0 : List T_Peg.ty) : Option (List T_Peg.ty) := laws_toPegS_c.f (a0, ())
noncomputable def laws_toPegS_p0  (v0 : List T_Peg.ty) (v3n : Nat) (v4 : Int) (r3 : List T_Peg.ty) : Option (List T_Peg.ty) :=
 goL laws_toPegS_D laws_toPegS_H (vleave laws_toPegS_ir [.d (.one (.sl T_Peg))] [.tok T_Peg] [] []) [.c laws_toPegS_k0, .l laws_toPegS_k1, .e 0, .c laws_toPegS_k2]
  ⟨[(0, .sl T_Peg v0), (3, .view 3 0 v3n), (4, .int .i64 v4)], [(3, some (.sl T_Peg r3))]⟩
theorem laws_toPegS_eq (a0 : List T_Peg.ty) : laws_toPegS a0 =
  if decide (0 ≤ (a0.length : Int)) && decide ((a0.length : Int) ≤ (a0.length : Int)) && decide ((a0.length : Int).toNat < lim) then
   laws_toPegS_p0 a0 ((List.replicate ((a0.length : Int).toNat) (([], 0, 0, 0, ()) : T_Peg.ty)).length) 0 (List.replicate ((a0.length : Int).toNat) (([], 0, 0, 0, ()) : T_Peg.ty))
  else
   none :=
 (mk_f _ _ _ _ _ _ _ 4000).trans (by kernel_rfl)
theorem laws_toPegS_p0_eq  (v0 : List T_Peg.ty) (v3n : Nat) (v4 : Int) (r3 : List T_Peg.ty) : laws_toPegS_p0 v0 v3n v4 r3 =
  if decide (v4 < (v0.length : Int)) then
   if decide (0 ≤ v4) then
    (v0[v4.toNat]?).bind fun x1 =>
     (laws_toPeg x1).bind fun x2 =>
      if decide (0 ≤ v4) && decide (v4 < (v3n : Int)) then
       (r3[v4.toNat]?).bind fun x3 =>
        laws_toPegS_p0 v0 v3n (IntKind.i64.wrap (v4 + 1)) (r3.set v4.toNat x2)
      else
       none
   else
    none
  else
   some (r3.take v3n) :=
 (goL_dn _ _ _ 4000 _ _).trans (by kernel_rfl)

/- laws.toInt64S -/
def laws_toInt64S_k0 : C :=
 .seq (.seq (.reg false [.V 8 (.mv (.t 4)), .V 9 (.mv (.t 0)), .V 10 (.len (.t 9)), .V 11 (.bin .lss (.t 8) (.t 10))] [0, 3, 4, 11] [3]) (.cond (.t 11) .skip (.exit 0))) (.seq (.block 1 (.reg false [.V 14 (.mv (.t 3)), .V 15 (.mv (.t 4)), .V 16 (.mv (.t 0)), .V 17 (.mv (.t 4)), .V 18 (.ia 1 (.t 16) (.t 17)), .V 19 (.ld none (.t 18)), .V 20 (.ia 1 (.t 14) (.t 15)), ⟨none, true, .sto 1 (.t 20) (.t 19), none, false, []⟩] [0, 3, 4] [3])) (.reg false [.V 12 (.mv (.t 4)), .V 13 (.bin .add (.t 12) (.c (.int .i64 1))), .V 4 (.asg (.t 13))] [0, 3, 4] [3]))
def laws_toInt64S_k1 : C :=
 .norm [0, 3, 4] [3] laws_toInt64S_k0
def laws_toInt64S_k2 : C :=
 .seq (.reg false [.V 21 (.mv (.t 3)), .W 2 (.asg (.t 21))] [2] [2, 3]) .ret
def laws_toInt64S_ir : Fn := { np := 1, io := [], res := [.t 2], own := [true], body :=
 (.seq (.reg false [.W 2 (.asg (.c (.nils 1)))] [0] []) (.seq (.reg false [.V 5 (.mv (.t 0)), .V 6 (.len (.t 5)), .V 7 (.mks 1 8 (.int .i64 0) (.t 6) (.t 6)), .W 3 (.asg (.t 7))] [0, 3] [3]) (.seq (.seq (.reg false [.V 4 (.asg (.c (.int .i64 0)))] [0, 3, 4] [3]) (.block 0 (.loop laws_toInt64S_k1))) laws_toInt64S_k2))) }
noncomputable def laws_toInt64S_D : List (Nat × Callee) := []
def laws_toInt64S_H : List (Nat × ET) := [(2, (.one (.int .i64))), (3, (.one (.int .i64))), (5, (.one (.int .i64))), (7, (.one (.int .i64))), (9, (.one (.int .i64))), (14, (.one (.int .i64))), (16, (.one (.int .i64))), (21, (.one (.int .i64)))]
noncomputable def laws_toInt64S_c : Callee := mkCallee laws_toInt64S_D laws_toInt64S_H laws_toInt64S_ir [.d (.one (.sl (.one (.int .i64))))] [.tok (.one (.int .i64))] []
noncomputable def laws_toInt64S (a0 : List Int) : Option (List Int) := laws_toInt64S_c.f (a0, ())
noncomputable def laws_toInt64S_p0  (v0 : List Int) (v3n : Nat) (v4 : Int) (r3 : List Int) : Option (List Int) :=
 goL laws_toInt64S_D laws_toInt64S_H (vleave laws_toInt64S_ir [.d (.one (.sl (.one (.int .i64))))] [.tok (.one (.int .i64))] [] []) [.c laws_toInt64S_k0, .l laws_toInt64S_k1, .e 0, .c laws_toInt64S_k2]
  ⟨[(0, .sl (.one (.int .i64)) v0), (3, .view 3 0 v3n), (4, .int .i64 v4)], [(3, some (.sl (.one (.int .i64)) r3))]⟩
theorem laws_toInt64S_eq (a0 : List Int) : laws_toInt64S a0 =
  if decide (0 ≤ (a0.length : Int)) && decide ((a0.length : Int) ≤ (a0.length : Int)) && decide ((a0.length : Int).toNat < lim) then
   laws_toInt64S_p0 a0 ((List.replicate ((a0.length : Int).toNat) (0 : Int)).length) 0 (List.replicate ((a0.length : Int).toNat) (0 : Int))
  else
   none :=
 (mk_f _ _ _ _ _ _ _ 4000).trans (by kernel_rfl)
theorem laws_toInt64S_p0_eq  (v0 : List Int) (v3n : Nat) (v4 : Int) (r3 : List Int) : laws_toInt64S_p0 v0 v3n v4 r3 =
  if decide (v4 < (v0.length : Int)) then
   if decide (0 ≤ v4) then
    (v0[v4.toNat]?).bind fun x1 =>
     if decide (0 ≤ v4) && decide (v4 < (v3n : Int)) then
      (r3[v4.toNat]?).bind fun x2 =>
       laws_toInt64S_p0 v0 v3n (IntKind.i64.wrap (v4 + 1)) (r3.set v4.toNat x1)
     else
      none
   else
    none
  else
   some (r3.take v3n) :=
 (goL_dn _ _ _ 4000 _ _).trans (by kernel_rfl)

/- spec.l01Small -/
def spec_l01Small_ir : Fn := { np := 1, io := [], res := [.t 2], own := [false], body :=
 (.seq (.reg false [.V 2 (.asg (.c (.bool false)))] [0] []) (.seq (.reg false [.V 3 (.mv (.t 0)), .V 4 (.bin .geq (.t 3) (.c (.int .u8 97))), .V 5 (.mv (.t 4)), .G 6 (.mv (.t 0)) 2 true, .G 7 (.bin .leq (.t 6) (.c (.int .u8 122))) 2 true, .V 8 (.pick (.t 5) (.t 7) (.c (.bool false))), .V 2 (.asg (.t 8))] [2] []) .ret)) }
noncomputable def spec_l01Small_D : List (Nat × Callee) := []
def spec_l01Small_H : List (Nat × ET) := []
noncomputable def spec_l01Small_c : Callee := mkCallee spec_l01Small_D spec_l01Small_H spec_l01Small_ir [.d (.one (.int .u8))] [.d (.one .bool)] []
noncomputable def spec_l01Small (a0 : Int) : Option (Bool) := spec_l01Small_c.f (a0, ())
theorem spec_l01Small_eq (a0 : Int) : spec_l01Small a0 =
  if decide (a0 ≥ 97) then
   some (decide (a0 ≤ 122))
  else
   some false :=
 (mk_f _ _ _ _ _ _ _ 4000).trans (by kernel_rfl)

/- spec.l01Digit -/
def spec_l01Digit_ir : Fn := { np := 1, io := [], res := [.t 2], own := [false], body :=
 (.seq (.reg false [.V 2 (.asg (.c (.bool false)))] [0] []) (.seq (.reg false [.V 3 (.mv (.t 0)), .V 4 (.bin .geq (.t 3) (.c (.int .u8 48))), .V 5 (.mv (.t 4)), .G 6 (.mv (.t 0)) 2 true, .G 7 (.bin .leq (.t 6) (.c (.int .u8 57))) 2 true, .V 8 (.pick (.t 5) (.t 7) (.c (.bool false))), .V 2 (.asg (.t 8))] [2] []) .ret)) }
noncomputable def spec_l01Digit_D : List (Nat × Callee) := []
def spec_l01Digit_H : List (Nat × ET) := []
noncomputable def spec_l01Digit_c : Callee := mkCallee spec_l01Digit_D spec_l01Digit_H spec_l01Digit_ir [.d (.one (.int .u8))] [.d (.one .bool)] []
noncomputable def spec_l01Digit (a0 : Int) : Option (Bool) := spec_l01Digit_c.f (a0, ())
theorem spec_l01Digit_eq (a0 : Int) : spec_l01Digit a0 =
  if decide (a0 ≥ 48) then
   some (decide (a0 ≤ 57))
  else
   some false :=
 (mk_f _ _ _ _ _ _ _ 4000).trans (by kernel_rfl)

/- spec.l01Name -/
def spec_l01Name_k0 : C :=
 .seq (.seq (.reg false [.V 17 (.mv (.t 3)), .V 18 (.mv (.t 0)), .V 19 (.lens (.t 18)), .V 20 (.bin .lss (.t 17) (.t 19))] [0, 3, 20] []) (.cond (.t 20) .skip (.exit 0))) (.seq (.block 1 (.seq (.reg false [.V 23 (.mv (.t 0)), .V 24 (.mv (.t 3)), .V 25 (.ix (.t 23) (.t 24)), .V 26 (.call (.c (.fn 11 [])) [.t 25]), .V 27 (.un .not (.t 26)), .V 28 (.mv (.t 27)), .G 29 (.mv (.t 0)) 5 true, .G 30 (.mv (.t 3)) 5 true, .G 31 (.ix (.t 29) (.t 30)) 5 true, .G 32 (.call (.c (.fn 12 [])) [.t 31]) 5 true, .G 33 (.un .not (.t 32)) 5 true, .V 34 (.pick (.t 28) (.t 33) (.c (.bool false)))] [0, 3, 34] []) (.cond (.t 34) (.seq (.reg false [.V 2 (.asg (.c (.bool false)))] [2] []) .ret) .skip))) (.reg false [.V 21 (.mv (.t 3)), .V 22 (.bin .add (.t 21) (.c (.int .i64 1))), .V 3 (.asg (.t 22))] [0, 3] []))
def spec_l01Name_k1 : C :=
 .norm [0, 3] [] spec_l01Name_k0
def spec_l01Name_k2 : C :=
 .seq (.reg false [.V 2 (.asg (.c (.bool true)))] [2] []) .ret
def spec_l01Name_k3 : C :=
 .seq (.seq (.reg false [.V 3 (.asg (.c (.int .i64 0)))] [0, 3] []) (.block 0 (.loop spec_l01Name_k1))) spec_l01Name_k2
def spec_l01Name_ir : Fn := { np := 1, io := [], res := [.t 2], own := [false], body :=
 (.seq (.reg false [.V 2 (.asg (.c (.bool false)))] [0] []) (.seq (.seq (.reg false [.V 4 (.mv (.t 0)), .V 5 (.bin .eql (.t 4) (.c (.str []))), .V 6 (.mv (.t 5)), .G 7 (.mv (.t 0)) 2 false, .G 8 (.lens (.t 7)) 2 false, .G 9 (.bin .gtr (.t 8) (.c (.int .i64 10))) 2 false, .V 10 (.pick (.t 6) (.c (.bool true)) (.t 9)), .V 11 (.mv (.t 10)), .G 12 (.mv (.t 0)) 7 false, .G 13 (.ix (.t 12) (.c (.int .i64 0))) 7 false, .G 14 (.call (.c (.fn 11 [])) [.t 13]) 7 false, .G 15 (.un .not (.t 14)) 7 false, .V 16 (.pick (.t 11) (.c (.bool true)) (.t 15))] [0, 16] []) (.cond (.t 16) (.seq (.reg false [.V 2 (.asg (.c (.bool false)))] [2] []) .ret) .skip)) (.norm [0] [] spec_l01Name_k3))) }
noncomputable def spec_l01Name_D : List (Nat × Callee) := [(11, spec_l01Small_c), (12, spec_l01Digit_c)]
def spec_l01Name_H : List (Nat × ET) := []
noncomputable def spec_l01Name_c : Callee := mkCallee spec_l01Name_D spec_l01Name_H spec_l01Name_ir [.d (.one .str)] [.d (.one .bool)] []
noncomputable def spec_l01Name (a0 : List UInt8) : Option (Bool) := spec_l01Name_c.f (a0, ())
noncomputable def spec_l01Name_p0  (v0 : List UInt8) : Option (Bool) :=
 goL spec_l01Name_D spec_l01Name_H (vleave spec_l01Name_ir [.d (.one .str)] [.d (.one .bool)] [] []) [.c spec_l01Name_k3]
  ⟨[(0, .str v0)], []⟩
noncomputable def spec_l01Name_p1  (v0 : List UInt8) (v3 : Int) : Option (Bool) :=
 goL spec_l01Name_D spec_l01Name_H (vleave spec_l01Name_ir [.d (.one .str)] [.d (.one .bool)] [] []) [.c spec_l01Name_k0, .l spec_l01Name_k1, .e 0, .c spec_l01Name_k2]
  ⟨[(0, .str v0), (3, .int .i64 v3)], []⟩
theorem spec_l01Name_eq (a0 : List UInt8) : spec_l01Name a0 =
  if (a0 == []) then
   some false
  else
   if decide ((a0.length : Int) > 10) then
    some false
   else
    (a0[0]?).bind fun x1 =>
     (spec_l01Small (x1.toNat : Int)).bind fun x2 =>
      if (!x2) then
       some false
      else
       spec_l01Name_p0 a0 :=
 (mk_f _ _ _ _ _ _ _ 4000).trans (by kernel_rfl)
theorem spec_l01Name_p0_eq  (v0 : List UInt8) : spec_l01Name_p0 v0 =
  spec_l01Name_p1 v0 0 :=
 (goL_dn _ _ _ 4000 _ _).trans (by kernel_rfl)
theorem spec_l01Name_p1_eq  (v0 : List UInt8) (v3 : Int) : spec_l01Name_p1 v0 v3 =
  if decide (v3 < (v0.length : Int)) then
   if decide (0 ≤ v3) then
    (v0[v3.toNat]?).bind fun x1 =>
     (spec_l01Small (x1.toNat : Int)).bind fun x2 =>
      if (!x2) then
       if decide (0 ≤ v3) then
        (v0[v3.toNat]?).bind fun x3 =>
         (spec_l01Digit (x3.toNat : Int)).bind fun x4 =>
          if (!x4) then
           some false
          else
           spec_l01Name_p1 v0 (IntKind.i64.wrap (v3 + 1))
       else
        none
      else
       spec_l01Name_p1 v0 (IntKind.i64.wrap (v3 + 1))
   else
    none
  else
   some true :=
 (goL_dn _ _ _ 4000 _ _).trans (by kernel_rfl)

/- spec.l00In -/
def spec_l00In_ir : Fn := { np := 3, io := [], res := [.t 6], own := [false], body :=
 (.seq (.reg false [.V 6 (.asg (.c (.bool false)))] [0, 1, 2] []) (.seq (.reg false [.V 7 (.mv (.t 0)), .V 8 (.mv (.t 1)), .V 9 (.bin .geq (.t 7) (.t 8)), .V 10 (.mv (.t 9)), .G 11 (.mv (.t 0)) 3 true, .G 12 (.mv (.t 2)) 3 true, .G 13 (.bin .leq (.t 11) (.t 12)) 3 true, .V 14 (.pick (.t 10) (.t 13) (.c (.bool false))), .V 6 (.asg (.t 14))] [6] []) .ret)) }
noncomputable def spec_l00In_D : List (Nat × Callee) := []
def spec_l00In_H : List (Nat × ET) := []
noncomputable def spec_l00In_c : Callee := mkCallee spec_l00In_D spec_l00In_H spec_l00In_ir [.d (.one (.int .i64)), .d (.one (.int .i64)), .d (.one (.int .i64))] [.d (.one .bool)] []
noncomputable def spec_l00In (a0 : Int) (a1 : Int) (a2 : Int) : Option (Bool) := spec_l00In_c.f (a0, a1, a2, ())
theorem spec_l00In_eq (a0 : Int) (a1 : Int) (a2 : Int) : spec_l00In a0 a1 a2 =
  if decide (a0 ≥ a1) then
   some (decide (a0 ≤ a2))
  else
   some false :=
 (mk_f _ _ _ _ _ _ _ 4000).trans (by kernel_rfl)

/- spec.l12Hole -/
def spec_l12Hole_ir : Fn := { np := 1, io := [], res := [.t 2], own := [false], body :=
 (.seq (.reg false [.V 2 (.asg (.c (.bool false)))] [0] []) (.seq (.reg false [.V 3 (.mv (.t 0)), .V 4 (.call (.c (.fn 1 [])) [.t 3, .c (.int .i64 20), .c (.int .i64 200)]), .V 2 (.asg (.t 4))] [2] []) .ret)) }
noncomputable def spec_l12Hole_D : List (Nat × Callee) := [(1, spec_l00In_c)]
def spec_l12Hole_H : List (Nat × ET) := []
noncomputable def spec_l12Hole_c : Callee := mkCallee spec_l12Hole_D spec_l12Hole_H spec_l12Hole_ir [.d (.one (.int .i64))] [.d (.one .bool)] []
noncomputable def spec_l12Hole (a0 : Int) : Option (Bool) := spec_l12Hole_c.f (a0, ())
theorem spec_l12Hole_eq (a0 : Int) : spec_l12Hole a0 =
  (spec_l00In a0 20 200).bind fun x1 =>
   some x1 :=
 (mk_f _ _ _ _ _ _ _ 4000).trans (by kernel_rfl)

/- spec.l12One -/
def spec_l12One_ir : Fn := { np := 1, io := [], res := [.t 2], own := [false], body :=
 (.seq (.reg false [.V 2 (.asg (.c (.bool false)))] [0] []) (.seq (.reg false [.V 3 (.mv (.t 0)), .V 4 (.nilck (.t 3)), .V 5 (.fa 0 (.t 4)), .V 6 (.ld none (.t 5)), .V 7 (.call (.c (.fn 13 [])) [.t 6]), .V 8 (.mv (.t 7)), .G 9 (.mv (.t 0)) 5 true, .G 10 (.nilck (.t 9)) 5 true, .G 11 (.fa 1 (.t 10)) 5 true, .G 12 (.ld none (.t 11)) 5 true, .G 13 (.call (.c (.fn 495 [])) [.t 12]) 5 true, .V 14 (.pick (.t 8) (.t 13) (.c (.bool false))), .V 15 (.mv (.t 14)), .G 16 (.mv (.t 0)) 12 true, .G 17 (.nilck (.t 16)) 12 true, .G 18 (.fa 2 (.t 17)) 12 true, .G 19 (.ld none (.t 18)) 12 true, .G 20 (.call (.c (.fn 1 [])) [.t 19, .c (.int .i64 100), .c (.int .i64 1000)]) 12 true, .V 21 (.pick (.t 15) (.t 20) (.c (.bool false))), .V 22 (.mv (.t 21)), .G 23 (.mv (.t 0)) 19 true, .G 24 (.nilck (.t 23)) 19 true, .G 25 (.fa 3 (.t 24)) 19 true, .G 26 (.ld none (.t 25)) 19 true, .G 27 (.call (.c (.fn 1 [])) [.t 26, .c (.int .i64 10), .c (.int .i64 100)]) 19 true, .V 28 (.pick (.t 22) (.t 27) (.c (.bool false))), .V 2 (.asg (.t 28))] [2] []) .ret)) }
noncomputable def spec_l12One_D : List (Nat × Callee) := [(1, spec_l00In_c), (13, spec_l01Name_c), (495, spec_l12Hole_c)]
def spec_l12One_H : List (Nat × ET) := []
noncomputable def spec_l12One_c : Callee := mkCallee spec_l12One_D spec_l12One_H spec_l12One_ir [.p T_Peg] [.d (.one .bool)] []
noncomputable def spec_l12One (a0 : T_Peg.ty) : Option (Bool) := spec_l12One_c.f (a0, ())
theorem spec_l12One_eq (a0 : T_Peg.ty) : spec_l12One a0 =
  (spec_l01Name a0.1).bind fun x1 =>
   if x1 then
    (spec_l12Hole a0.2.1).bind fun x2 =>
     if x2 then
      (spec_l00In a0.2.2.1 100 1000).bind fun x3 =>
       if x3 then
        (spec_l00In a0.2.2.2.1 10 100).bind fun x4 =>
         some x4
       else
        some false
     else
      some false
   else
    some false :=
 (mk_f _ _ _ _ _ _ _ 4000).trans (by kernel_rfl)

/- spec.l12Ok -/
def spec_l12Ok_k0 : C :=
 .seq (.seq (.reg false [.V 4 (.mv (.t 3)), .V 5 (.mv (.t 0)), .V 6 (.len (.t 5)), .V 7 (.bin .lss (.t 4) (.t 6))] [0, 3, 7] []) (.cond (.t 7) .skip (.exit 0))) (.seq (.block 1 (.seq (.reg true [.V 10 (.mv (.t 0)), .V 11 (.mv (.t 3)), .V 12 (.ia 4 (.t 10) (.t 11)), .V 13 (.call (.c (.fn 800 [])) [.t 12]), .V 14 (.un .not (.t 13)), .V 15 (.mv (.t 14)), .G 16 (.mv (.t 3)) 5 false, .G 17 (.bin .gtr (.t 16) (.c (.int .i64 0))) 5 false, .G 18 (.mv (.t 17)) 5 false, .G 19 (.mv (.t 0)) 8 true, .G 20 (.mv (.t 3)) 8 true, .G 21 (.bin .sub (.t 20) (.c (.int .i64 1))) 8 true, .G 22 (.ia 4 (.t 19) (.t 21)) 8 true, .G 23 (.fa 0 (.t 22)) 8 true, .G 24 (.ld none (.t 23)) 8 true, .G 25 (.mv (.t 0)) 8 true, .G 26 (.mv (.t 3)) 8 true, .G 27 (.ia 4 (.t 25) (.t 26)) 8 true, .G 28 (.fa 0 (.t 27)) 8 true, .G 29 (.ld none (.t 28)) 8 true, .G 30 (.bin .geq (.t 24) (.t 29)) 8 true, .G 31 (.pick (.t 18) (.t 30) (.c (.bool false))) 5 false, .V 32 (.pick (.t 15) (.c (.bool true)) (.t 31))] [0, 3, 32] []) (.cond (.t 32) (.seq (.reg false [.V 2 (.asg (.c (.bool false)))] [2] []) .ret) .skip))) (.reg false [.V 8 (.mv (.t 3)), .V 9 (.bin .add (.t 8) (.c (.int .i64 1))), .V 3 (.asg (.t 9))] [0, 3] []))
def spec_l12Ok_k1 : C :=
 .norm [0, 3] [] spec_l12Ok_k0
def spec_l12Ok_k2 : C :=
 .seq (.reg false [.V 33 (.mv (.t 0)), .V 34 (.len (.t 33)), .V 35 (.bin .leq (.t 34) (.c (.int .i64 8))), .V 2 (.asg (.t 35))] [2] []) .ret
def spec_l12Ok_ir : Fn := { np := 1, io := [], res := [.t 2], own := [false], body :=
 (.seq (.reg false [.V 2 (.asg (.c (.bool false)))] [0] []) (.seq (.seq (.reg false [.V 3 (.asg (.c (.int .i64 0)))] [0, 3] []) (.block 0 (.loop spec_l12Ok_k1))) spec_l12Ok_k2)) }
noncomputable def spec_l12Ok_D : List (Nat × Callee) := [(800, spec_l12One_c)]
def spec_l12Ok_H : List (Nat × ET) := [(5, T_Peg), (10, T_Peg), (19, T_Peg), (25, T_Peg), (33, T_Peg)]
noncomputable def spec_l12Ok_c : Callee := mkCallee spec_l12Ok_D spec_l12Ok_H spec_l12Ok_ir [.d (.one (.sl T_Peg))] [.d (.one .bool)] []
noncomputable def spec_l12Ok (a0 : List T_Peg.ty) : Option (Bool) := spec_l12Ok_c.f (a0, ())
noncomputable def spec_l12Ok_p0  (v0 : List T_Peg.ty) (v3 : Int) : Option (Bool) :=
 goL spec_l12Ok_D spec_l12Ok_H (vleave spec_l12Ok_ir [.d (.one (.sl T_Peg))] [.d (.one .bool)] [] []) [.c spec_l12Ok_k0, .l spec_l12Ok_k1, .e 0, .c spec_l12Ok_k2]
  ⟨[(0, .sl T_Peg v0), (3, .int .i64 v3)], []⟩
theorem spec_l12Ok_eq (a0 : List T_Peg.ty) : spec_l12Ok a0 =
  spec_l12Ok_p0 a0 0 :=
 (mk_f _ _ _ _ _ _ _ 4000).trans (by kernel_rfl)
theorem spec_l12Ok_p0_eq  (v0 : List T_Peg.ty) (v3 : Int) : spec_l12Ok_p0 v0 v3 =
  if decide (v3 < (v0.length : Int)) then
   if decide (0 ≤ v3) then
    (v0[v3.toNat]?).bind fun x1 =>
     (spec_l12One x1).bind fun x2 =>
      if (!x2) then
       some false
      else
       if decide (v3 > 0) then
        if decide (0 ≤ IntKind.i64.wrap (v3 - 1)) then
         (v0[(IntKind.i64.wrap (v3 - 1)).toNat]?).bind fun x3 =>
          if decide (0 ≤ v3) then
           (v0[v3.toNat]?).bind fun x4 =>
            if (!Op.bytesLess x3.1 x4.1) then
             some false
            else
             spec_l12Ok_p0 v0 (IntKind.i64.wrap (v3 + 1))
          else
           none
        else
         none
       else
        spec_l12Ok_p0 v0 (IntKind.i64.wrap (v3 + 1))
   else
    none
  else
   some (decide ((v0.length : Int) ≤ 8)) :=
 (goL_dn _ _ _ 4000 _ _).trans (by kernel_rfl)

/- spec.l12Way -/
def spec_l12Way_ir : Fn := { np := 1, io := [], res := [.t 2], own := [false], body :=
 (.seq (.reg false [.V 2 (.asg (.c (.bool false)))] [0] []) (.seq (.reg false [.V 3 (.mv (.t 0)), .V 4 (.call (.c (.fn 1 [])) [.t 3, .c (.int .i64 0), .c (.int .i64 1000)]), .V 2 (.asg (.t 4))] [2] []) .ret)) }
noncomputable def spec_l12Way_D : List (Nat × Callee) := [(1, spec_l00In_c)]
def spec_l12Way_H : List (Nat × ET) := []
noncomputable def spec_l12Way_c : Callee := mkCallee spec_l12Way_D spec_l12Way_H spec_l12Way_ir [.d (.one (.int .i64))] [.d (.one .bool)] []
noncomputable def spec_l12Way (a0 : Int) : Option (Bool) := spec_l12Way_c.f (a0, ())
theorem spec_l12Way_eq (a0 : Int) : spec_l12Way a0 =
  (spec_l00In a0 0 1000).bind fun x1 =>
   some x1 :=
 (mk_f _ _ _ _ _ _ _ 4000).trans (by kernel_rfl)

/- spec.l00Max -/
def spec_l00Max_ir : Fn := { np := 2, io := [], res := [.t 4], own := [false], body :=
 (.seq (.reg false [.V 4 (.asg (.c (.int .i64 0)))] [0, 1] []) (.seq (.seq (.reg false [.V 5 (.mv (.t 0)), .V 6 (.mv (.t 1)), .V 7 (.bin .gtr (.t 5) (.t 6))] [0, 1, 7] []) (.cond (.t 7) (.seq (.reg false [.V 8 (.mv (.t 0)), .V 4 (.asg (.t 8))] [4] []) .ret) .skip)) (.seq (.reg false [.V 9 (.mv (.t 1)), .V 4 (.asg (.t 9))] [4] []) .ret))) }
noncomputable def spec_l00Max_D : List (Nat × Callee) := []
def spec_l00Max_H : List (Nat × ET) := []
noncomputable def spec_l00Max_c : Callee := mkCallee spec_l00Max_D spec_l00Max_H spec_l00Max_ir [.d (.one (.int .i64)), .d (.one (.int .i64))] [.d (.one (.int .i64))] []
noncomputable def spec_l00Max (a0 : Int) (a1 : Int) : Option (Int) := spec_l00Max_c.f (a0, a1, ())
theorem spec_l00Max_eq (a0 : Int) (a1 : Int) : spec_l00Max a0 a1 =
  if decide (a0 > a1) then
   some a0
  else
   some a1 :=
 (mk_f _ _ _ _ _ _ _ 4000).trans (by kernel_rfl)

/- spec.l12In -/
def spec_l12In_ir : Fn := { np := 2, io := [], res := [.t 4], own := [false], body :=
 (.seq (.reg false [.V 4 (.asg (.c (.int .i64 0)))] [0, 1] []) (.seq (.reg true [.V 6 (.mv (.t 1)), .V 7 (.mv (.t 0)), .V 8 (.nilck (.t 7)), .V 9 (.fa 1 (.t 8)), .V 10 (.ld none (.t 9)), .V 11 (.bin .sub (.t 6) (.t 10)), .V 12 (.call (.c (.fn 17 [])) [.c (.int .i64 0), .t 11]), .V 13 (.mv (.t 0)), .V 14 (.nilck (.t 13)), .V 15 (.fa 3 (.t 14)), .V 16 (.ld none (.t 15)), .V 17 (.bin .mul (.t 12) (.t 16)), .V 5 (.asg (.t 17))] [0, 5] []) (.seq (.seq (.reg false [.V 18 (.mv (.t 5)), .V 19 (.mv (.t 0)), .V 20 (.nilck (.t 19)), .V 21 (.fa 2 (.t 20)), .V 22 (.ld none (.t 21)), .V 23 (.bin .gtr (.t 18) (.t 22))] [5, 23] []) (.cond (.t 23) (.seq (.reg false [.V 4 (.asg (.c (.int .i64 (-1))))] [4] []) .ret) .skip)) (.seq (.reg false [.V 24 (.mv (.t 5)), .V 4 (.asg (.t 24))] [4] []) .ret)))) }
noncomputable def spec_l12In_D : List (Nat × Callee) := [(17, spec_l00Max_c)]
def spec_l12In_H : List (Nat × ET) := []
noncomputable def spec_l12In_c : Callee := mkCallee spec_l12In_D spec_l12In_H spec_l12In_ir [.p T_Peg, .d (.one (.int .i64))] [.d (.one (.int .i64))] []
noncomputable def spec_l12In (a0 : T_Peg.ty) (a1 : Int) : Option (Int) := spec_l12In_c.f (a0, a1, ())
theorem spec_l12In_eq (a0 : T_Peg.ty) (a1 : Int) : spec_l12In a0 a1 =
  (spec_l00Max 0 (IntKind.i64.wrap (a1 - a0.2.1))).bind fun x1 =>
   if decide (IntKind.i64.wrap (x1 * a0.2.2.2.1) > a0.2.2.1) then
    some (-1)
   else
    some (IntKind.i64.wrap (x1 * a0.2.2.2.1)) :=
 (mk_f _ _ _ _ _ _ _ 4000).trans (by kernel_rfl)

/- spec.l00Has -/
def spec_l00Has_k0 : C :=
 .seq (.seq (.reg false [.V 6 (.mv (.t 5)), .V 7 (.mv (.t 0)), .V 8 (.len (.t 7)), .V 9 (.bin .lss (.t 6) (.t 8))] [0, 1, 5, 9] []) (.cond (.t 9) .skip (.exit 0))) (.seq (.block 1 (.seq (.reg false [.V 12 (.mv (.t 0)), .V 13 (.mv (.t 5)), .V 14 (.ia 1 (.t 12) (.t 13)), .V 15 (.ld none (.t 14)), .V 16 (.mv (.t 1)), .V 17 (.bin .eql (.t 15) (.t 16))] [0, 1, 5, 17] []) (.cond (.t 17) (.seq (.reg false [.V 4 (.asg (.c (.bool true)))] [4] []) .ret) .skip))) (.reg false [.V 10 (.mv (.t 5)), .V 11 (.bin .add (.t 10) (.c (.int .i64 1))), .V 5 (.asg (.t 11))] [0, 1, 5] []))
def spec_l00Has_k1 : C :=
 .norm [0, 1, 5] [] spec_l00Has_k0
def spec_l00Has_k2 : C :=
 .seq (.reg false [.V 4 (.asg (.c (.bool false)))] [4] []) .ret
def spec_l00Has_ir : Fn := { np := 2, io := [], res := [.t 4], own := [false], body :=
 (.seq (.reg false [.V 4 (.asg (.c (.bool false)))] [0, 1] []) (.seq (.seq (.reg false [.V 5 (.asg (.c (.int .i64 0)))] [0, 1, 5] []) (.block 0 (.loop spec_l00Has_k1))) spec_l00Has_k2)) }
noncomputable def spec_l00Has_D : List (Nat × Callee) := []
def spec_l00Has_H : List (Nat × ET) := [(7, (.one (.int .i64))), (12, (.one (.int .i64)))]
noncomputable def spec_l00Has_c : Callee := mkCallee spec_l00Has_D spec_l00Has_H spec_l00Has_ir [.d (.one (.sl (.one (.int .i64)))), .d (.one (.int .i64))] [.d (.one .bool)] []
noncomputable def spec_l00Has (a0 : List Int) (a1 : Int) : Option (Bool) := spec_l00Has_c.f (a0, a1, ())
noncomputable def spec_l00Has_p0  (v0 : List Int) (v1 : Int) (v5 : Int) : Option (Bool) :=
 goL spec_l00Has_D spec_l00Has_H (vleave spec_l00Has_ir [.d (.one (.sl (.one (.int .i64)))), .d (.one (.int .i64))] [.d (.one .bool)] [] []) [.c spec_l00Has_k0, .l spec_l00Has_k1, .e 0, .c spec_l00Has_k2]
  ⟨[(0, .sl (.one (.int .i64)) v0), (1, .int .i64 v1), (5, .int .i64 v5)], []⟩
theorem spec_l00Has_eq (a0 : List Int) (a1 : Int) : spec_l00Has a0 a1 =
  spec_l00Has_p0 a0 a1 0 :=
 (mk_f _ _ _ _ _ _ _ 4000).trans (by kernel_rfl)
theorem spec_l00Has_p0_eq  (v0 : List Int) (v1 : Int) (v5 : Int) : spec_l00Has_p0 v0 v1 v5 =
  if decide (v5 < (v0.length : Int)) then
   if decide (0 ≤ v5) then
    (v0[v5.toNat]?).bind fun x1 =>
     if (x1 == v1) then
      some true
     else
      spec_l00Has_p0 v0 v1 (IntKind.i64.wrap (v5 + 1))
   else
    none
  else
   some false :=
 (goL_dn _ _ _ 4000 _ _).trans (by kernel_rfl)

/- spec.l00Own -/
def spec_l00Own_ir : Fn := { np := 1, io := [], res := [.t 2], own := [true], body :=
 (.seq (.reg false [.W 2 (.asg (.c (.nils 1)))] [0] []) (.seq (.reg false [.V 3 (.bsl 1 (.int .i64 0) 0 []), .V 4 (.mv (.t 0)), .W 5 (.app 1 8 (.t 3) (.t 4)), .W 2 (.asg (.t 5))] [2] [2]) .ret)) }
noncomputable def spec_l00Own_D : List (Nat × Callee) := []
def spec_l00Own_H : List (Nat × ET) := [(2, (.one (.int .i64))), (3, (.one (.int .i64))), (4, (.one (.int .i64))), (5, (.one (.int .i64)))]
noncomputable def spec_l00Own_c : Callee := mkCallee spec_l00Own_D spec_l00Own_H spec_l00Own_ir [.d (.one (.sl (.one (.int .i64))))] [.tok (.one (.int .i64))] []
noncomputable def spec_l00Own (a0 : List Int) : Option (List Int) := spec_l00Own_c.f (a0, ())
theorem spec_l00Own_eq (a0 : List Int) : spec_l00Own a0 =
  if decide (0 + a0.length < lim) then
   some (([] ++ a0).take (([] ++ a0).length))
  else
   none :=
 (mk_f _ _ _ _ _ _ _ 4000).trans (by kernel_rfl)

/- spec.l12Fit -/
def spec_l12Fit_k0 : C :=
 .seq (.reg false [.V 49 (.mv (.t 3)), .V 50 (.call (.c (.fn 854 [])) [.t 49]), .V 51 (.mv (.t 11)), .V 52 (.bsl 1 (.int .i64 0) 1 [(0, .t 51)]), .W 53 (.app 1 8 (.t 50) (.t 52)), .W 13 (.asg (.t 53))] [0, 1, 2, 3, 10, 11, 13] [13]) (.seq (.reg false [.V 55 (.mv (.t 0)), .V 56 (.mv (.t 1)), .V 57 (.mv (.t 2)), .V 58 (.mv (.t 13)), .W 59 (.call (.c (.fn 494 [])) [.t 55, .t 56, .t 57, .t 58]), .V 54 (.mv (.t 59)), .V 60 (.ext (.t 54) 0), .V 61 (.ext (.t 54) 1), .W 14 (.asg (.t 60)), .V 15 (.asg (.t 61))] [0, 1, 2, 3, 10, 11, 14, 15] [14]) (.seq (.reg false [.V 62 (.mv (.t 15))] [0, 1, 2, 3, 10, 11, 14, 62] [14]) (.cond (.t 62) (.seq (.reg false [.V 63 (.mv (.t 14)), .W 8 (.asg (.t 63)), .V 9 (.asg (.c (.bool true)))] [8, 9] [8, 14]) .ret) .skip)))
def spec_l12Fit_k1 : C :=
 .reg false [.V 27 (.mv (.t 11)), .V 28 (.bin .add (.t 27) (.c (.int .i64 1))), .V 11 (.asg (.t 28))] [0, 1, 2, 3, 10, 11] []
def spec_l12Fit_k2 : C :=
 .seq (.seq (.reg false [.V 23 (.mv (.t 11)), .V 24 (.mv (.t 0)), .V 25 (.len (.t 24)), .V 26 (.bin .lss (.t 23) (.t 25))] [0, 1, 2, 3, 10, 11, 26] []) (.cond (.t 26) .skip (.exit 0))) (.seq (.block 1 (.seq (.reg true [.V 29 (.mv (.t 0)), .V 30 (.mv (.t 11)), .V 31 (.ia 4 (.t 29) (.t 30)), .V 32 (.mv (.t 1)), .V 33 (.mv (.t 10)), .V 34 (.ia 1 (.t 32) (.t 33)), .V 35 (.ld none (.t 34)), .V 36 (.call (.c (.fn 799 [])) [.t 31, .t 35]), .V 12 (.asg (.t 36))] [0, 1, 2, 3, 10, 11, 12] []) (.seq (.seq (.reg false [.V 37 (.mv (.t 3)), .V 38 (.mv (.t 11)), .V 39 (.call (.c (.fn 855 [])) [.t 37, .t 38]), .V 40 (.mv (.t 39)), .G 41 (.mv (.t 12)) 3 false, .G 42 (.bin .lss (.t 41) (.c (.int .i64 0))) 3 false, .V 43 (.pick (.t 40) (.c (.bool true)) (.t 42)), .V 44 (.mv (.t 43)), .G 45 (.mv (.t 12)) 7 false, .G 46 (.mv (.t 2)) 7 false, .G 47 (.bin .gtr (.t 45) (.t 46)) 7 false, .V 48 (.pick (.t 44) (.c (.bool true)) (.t 47))] [0, 1, 2, 3, 10, 11, 48] []) (.cond (.t 48) (.exit 1) .skip)) (.norm [0, 1, 2, 3, 10, 11] [] spec_l12Fit_k0)))) spec_l12Fit_k1)
def spec_l12Fit_k3 : C :=
 .norm [0, 1, 2, 3, 10, 11] [] spec_l12Fit_k2
def spec_l12Fit_k4 : C :=
 .seq (.reg false [.W 8 (.asg (.c (.nils 1))), .V 9 (.asg (.c (.bool false)))] [8, 9] [8, 14]) .ret
def spec_l12Fit_ir : Fn := { np := 4, io := [], res := [.t 8, .t 9], own := [false, false], body :=
 (.seq (.reg false [.W 8 (.asg (.c (.nils 1))), .V 9 (.asg (.c (.bool false)))] [0, 1, 2, 3] []) (.seq (.reg false [.V 16 (.mv (.t 3)), .V 17 (.len (.t 16)), .V 10 (.asg (.t 17))] [0, 1, 2, 3, 10] []) (.seq (.seq (.reg false [.V 18 (.mv (.t 10)), .V 19 (.mv (.t 1)), .V 20 (.len (.t 19)), .V 21 (.bin .eql (.t 18) (.t 20))] [0, 1, 2, 3, 10, 21] []) (.cond (.t 21) (.seq (.reg false [.V 22 (.mv (.t 3)), .W 8 (.asg (.t 22)), .V 9 (.asg (.c (.bool true)))] [8, 9] [8, 14]) .ret) .skip)) (.seq (.seq (.reg false [.V 11 (.asg (.c (.int .i64 0)))] [0, 1, 2, 3, 10, 11] []) (.block 0 (.loop spec_l12Fit_k3))) spec_l12Fit_k4)))) }
def spec_l12Fit_H : List (Nat × ET) := [(8, (.one (.int .i64))), (13, (.one (.int .i64))), (14, (.one (.int .i64))), (16, (.one (.int .i64))), (19, (.one (.int .i64))), (22, (.one (.int .i64))), (24, T_Peg), (29, T_Peg), (32, (.one (.int .i64))), (37, (.one (.int .i64))), (49, (.one (.int .i64))), (50, (.one (.int .i64))), (52, (.one (.int .i64))), (53, (.one (.int .i64))), (55, T_Peg), (56, (.one (.int .i64))), (58, (.one (.int .i64))), (60, (.one (.int .i64))), (63, (.one (.int .i64)))]
noncomputable def spec_l12Fit_F : Nat → tysU [.d (.one (.sl T_Peg)), .d (.one (.sl (.one (.int .i64)))), .d (.one (.int .i64)), .d (.one (.sl (.one (.int .i64))))] → Option (tys1 ([.d (.one (.sl (.one (.int .i64)))), .d (.one .bool)] ++ []))
 | 0 => fun _ => none
 | n + 1 => (mkCallee [(494, ⟨[], [.d (.one (.sl T_Peg)), .d (.one (.sl (.one (.int .i64)))), .d (.one (.int .i64)), .d (.one (.sl (.one (.int .i64))))], [.d (.one (.sl (.one (.int .i64)))), .d (.one .bool)], [], spec_l12Fit_F n⟩), (799, spec_l12In_c), (854, spec_l00Own_c), (855, spec_l00Has_c)] spec_l12Fit_H spec_l12Fit_ir [.d (.one (.sl T_Peg)), .d (.one (.sl (.one (.int .i64)))), .d (.one (.int .i64)), .d (.one (.sl (.one (.int .i64))))] [.d (.one (.sl (.one (.int .i64)))), .d (.one .bool)] []).f
noncomputable def spec_l12Fit_D (n : Nat) : List (Nat × Callee) := [(494, ⟨[], [.d (.one (.sl T_Peg)), .d (.one (.sl (.one (.int .i64)))), .d (.one (.int .i64)), .d (.one (.sl (.one (.int .i64))))], [.d (.one (.sl (.one (.int .i64)))), .d (.one .bool)], [], spec_l12Fit_F n⟩), (799, spec_l12In_c), (854, spec_l00Own_c), (855, spec_l00Has_c)]
noncomputable def spec_l12Fit_c : Callee := ⟨[], [.d (.one (.sl T_Peg)), .d (.one (.sl (.one (.int .i64)))), .d (.one (.int .i64)), .d (.one (.sl (.one (.int .i64))))], [.d (.one (.sl (.one (.int .i64)))), .d (.one .bool)], [], spec_l12Fit_F 1000⟩
noncomputable def spec_l12Fit_N (n : Nat) : Callee := ⟨[], [.d (.one (.sl T_Peg)), .d (.one (.sl (.one (.int .i64)))), .d (.one (.int .i64)), .d (.one (.sl (.one (.int .i64))))], [.d (.one (.sl (.one (.int .i64)))), .d (.one .bool)], [], spec_l12Fit_F n⟩
theorem spec_l12Fit_N_eq (n : Nat) : spec_l12Fit_N (n + 1) = mkCallee (spec_l12Fit_D n) spec_l12Fit_H spec_l12Fit_ir [.d (.one (.sl T_Peg)), .d (.one (.sl (.one (.int .i64)))), .d (.one (.int .i64)), .d (.one (.sl (.one (.int .i64))))] [.d (.one (.sl (.one (.int .i64)))), .d (.one .bool)] [] := rfl
noncomputable def spec_l12Fit (n : Nat) (a0 : List T_Peg.ty) (a1 : List Int) (a2 : Int) (a3 : List Int) : Option (List Int × Bool) := spec_l12Fit_F n (a0, a1, a2, a3, ())
noncomputable def spec_l12Fit_p0 (n : Nat)  (v0 : List T_Peg.ty) (v1 : List Int) (v2 : Int) (v3 : List Int) (v10 : Int) (v11 : Int) : Option (List Int × Bool) :=
 goL (spec_l12Fit_D n) spec_l12Fit_H (vleave spec_l12Fit_ir [.d (.one (.sl T_Peg)), .d (.one (.sl (.one (.int .i64)))), .d (.one (.int .i64)), .d (.one (.sl (.one (.int .i64))))] [.d (.one (.sl (.one (.int .i64)))), .d (.one .bool)] [] []) [.c spec_l12Fit_k2, .l spec_l12Fit_k3, .e 0, .c spec_l12Fit_k4]
  ⟨[(0, .sl T_Peg v0), (1, .sl (.one (.int .i64)) v1), (2, .int .i64 v2), (3, .sl (.one (.int .i64)) v3), (10, .int .i64 v10), (11, .int .i64 v11)], []⟩
noncomputable def spec_l12Fit_p1 (n : Nat)  (v0 : List T_Peg.ty) (v1 : List Int) (v2 : Int) (v3 : List Int) (v10 : Int) (v11 : Int) : Option (List Int × Bool) :=
 goL (spec_l12Fit_D n) spec_l12Fit_H (vleave spec_l12Fit_ir [.d (.one (.sl T_Peg)), .d (.one (.sl (.one (.int .i64)))), .d (.one (.int .i64)), .d (.one (.sl (.one (.int .i64))))] [.d (.one (.sl (.one (.int .i64)))), .d (.one .bool)] [] []) [.c spec_l12Fit_k0, .e 1, .c spec_l12Fit_k1, .l spec_l12Fit_k3, .e 0, .c spec_l12Fit_k4]
  ⟨[(0, .sl T_Peg v0), (1, .sl (.one (.int .i64)) v1), (2, .int .i64 v2), (3, .sl (.one (.int .i64)) v3), (10, .int .i64 v10), (11, .int .i64 v11)], []⟩
theorem spec_l12Fit_eq (n : Nat) (a0 : List T_Peg.ty) (a1 : List Int) (a2 : Int) (a3 : List Int) : spec_l12Fit (n + 1) a0 a1 a2 a3 =
  if ((a3.length : Int) == (a1.length : Int)) then
   some (a3, true)
  else
   spec_l12Fit_p0 n a0 a1 a2 a3 (a3.length : Int) 0 :=
 (mk_f (spec_l12Fit_D n) spec_l12Fit_H spec_l12Fit_ir [.d (.one (.sl T_Peg)), .d (.one (.sl (.one (.int .i64)))), .d (.one (.int .i64)), .d (.one (.sl (.one (.int .i64))))] [.d (.one (.sl (.one (.int .i64)))), .d (.one .bool)] [] (a0, a1, a2, a3, ()) 4000).trans (by kernel_rfl)
theorem spec_l12Fit_p0_eq (n : Nat)  (v0 : List T_Peg.ty) (v1 : List Int) (v2 : Int) (v3 : List Int) (v10 : Int) (v11 : Int) : spec_l12Fit_p0 n v0 v1 v2 v3 v10 v11 =
  if decide (v11 < (v0.length : Int)) then
   if decide (0 ≤ v11) then
    (v0[v11.toNat]?).bind fun x1 =>
     if decide (0 ≤ v10) then
      (v1[v10.toNat]?).bind fun x2 =>
       (spec_l12In x1 x2).bind fun x3 =>
        (spec_l00Has v3 v11).bind fun x4 =>
         if x4 then
          spec_l12Fit_p0 n v0 v1 v2 v3 v10 (IntKind.i64.wrap (v11 + 1))
         else
          if decide (x3 < 0) then
           spec_l12Fit_p0 n v0 v1 v2 v3 v10 (IntKind.i64.wrap (v11 + 1))
          else
           if decide (x3 > v2) then
            spec_l12Fit_p0 n v0 v1 v2 v3 v10 (IntKind.i64.wrap (v11 + 1))
           else
            spec_l12Fit_p1 n v0 v1 v2 v3 v10 v11
     else
      none
   else
    none
  else
   some ([], false) :=
 (goL_dn _ _ _ 4000 _ _).trans (by kernel_rfl)
theorem spec_l12Fit_p1_eq (n : Nat)  (v0 : List T_Peg.ty) (v1 : List Int) (v2 : Int) (v3 : List Int) (v10 : Int) (v11 : Int) : spec_l12Fit_p1 n v0 v1 v2 v3 v10 v11 =
  (spec_l00Own v3).bind fun x1 =>
   if decide (x1.length + 1 < lim) then
    (spec_l12Fit n v0 v1 v2 ((x1 ++ [v11]).take ((x1 ++ [v11]).length))).bind fun x2 =>
     if x2.2 then
      some (x2.1, true)
     else
      spec_l12Fit_p0 n v0 v1 v2 v3 v10 (IntKind.i64.wrap (v11 + 1))
   else
    none :=
 (goL_dn _ _ _ 4000 _ _).trans (by kernel_rfl)

/- spec.FitPegs -/
def spec_FitPegs_k0 : C :=
 .seq (.seq (.reg false [.V 22 (.mv (.t 8)), .V 23 (.mv (.t 1)), .V 24 (.len (.t 23)), .V 25 (.bin .lss (.t 22) (.t 24))] [0, 1, 2, 8, 25] []) (.cond (.t 25) .skip (.exit 0))) (.seq (.block 1 (.seq (.reg false [.V 28 (.mv (.t 1)), .V 29 (.mv (.t 8)), .V 30 (.ia 1 (.t 28) (.t 29)), .V 31 (.ld none (.t 30)), .V 32 (.call (.c (.fn 495 [])) [.t 31]), .V 33 (.un .not (.t 32))] [0, 1, 2, 8, 33] []) (.cond (.t 33) (.seq (.reg false [.W 6 (.asg (.c (.nils 1))), .V 7 (.asg (.c (.int .i64 2)))] [6, 7] [6, 9]) .ret) .skip))) (.reg false [.V 26 (.mv (.t 8)), .V 27 (.bin .add (.t 26) (.c (.int .i64 1))), .V 8 (.asg (.t 27))] [0, 1, 2, 8] []))
def spec_FitPegs_k1 : C :=
 .norm [0, 1, 2, 8] [] spec_FitPegs_k0
def spec_FitPegs_k2 : C :=
 .seq (.seq (.reg false [.V 34 (.mv (.t 1)), .V 35 (.len (.t 34)), .V 36 (.mv (.t 0)), .V 37 (.len (.t 36)), .V 38 (.bin .neq (.t 35) (.t 37))] [0, 1, 2, 38] []) (.cond (.t 38) (.seq (.reg false [.W 6 (.asg (.c (.nils 1))), .V 7 (.asg (.c (.int .i64 7)))] [6, 7] [6, 9]) .ret) .skip)) (.seq (.reg false [.V 40 (.mv (.t 0)), .V 41 (.mv (.t 1)), .V 42 (.mv (.t 2)), .V 43 (.bsl 1 (.int .i64 0) 0 []), .W 44 (.call (.c (.fn 494 [])) [.t 40, .t 41, .t 42, .t 43]), .V 39 (.mv (.t 44)), .V 45 (.ext (.t 39) 0), .V 46 (.ext (.t 39) 1), .W 9 (.asg (.t 45)), .V 10 (.asg (.t 46))] [9, 10] [9]) (.seq (.seq (.reg false [.V 47 (.mv (.t 10)), .V 48 (.un .not (.t 47))] [9, 48] [9]) (.cond (.t 48) (.seq (.reg false [.W 6 (.asg (.c (.nils 1))), .V 7 (.asg (.c (.int .i64 3)))] [6, 7] [6, 9]) .ret) .skip)) (.seq (.reg false [.V 49 (.mv (.t 9)), .W 6 (.asg (.t 49)), .V 7 (.asg (.c (.int .i64 0)))] [6, 7] [6, 9]) .ret)))
def spec_FitPegs_k3 : C :=
 .seq (.seq (.reg false [.V 8 (.asg (.c (.int .i64 0)))] [0, 1, 2, 8] []) (.block 0 (.loop spec_FitPegs_k1))) spec_FitPegs_k2
def spec_FitPegs_ir : Fn := { np := 3, io := [], res := [.t 6, .t 7], own := [false, false], body :=
 (.seq (.reg false [.W 6 (.asg (.c (.nils 1))), .V 7 (.asg (.c (.int .i64 0)))] [0, 1, 2] []) (.seq (.seq (.reg false [.V 11 (.mv (.t 0)), .V 12 (.call (.c (.fn 497 [])) [.t 11]), .V 13 (.un .not (.t 12))] [0, 1, 2, 13] []) (.cond (.t 13) (.seq (.reg false [.W 6 (.asg (.c (.nils 1))), .V 7 (.asg (.c (.int .i64 1)))] [6, 7] [6, 9]) .ret) .skip)) (.seq (.seq (.reg false [.V 14 (.mv (.t 2)), .V 15 (.call (.c (.fn 496 [])) [.t 14]), .V 16 (.un .not (.t 15)), .V 17 (.mv (.t 16)), .G 18 (.mv (.t 1)) 3 false, .G 19 (.len (.t 18)) 3 false, .G 20 (.bin .gtr (.t 19) (.c (.int .i64 8))) 3 false, .V 21 (.pick (.t 17) (.c (.bool true)) (.t 20))] [0, 1, 2, 21] []) (.cond (.t 21) (.seq (.reg false [.W 6 (.asg (.c (.nils 1))), .V 7 (.asg (.c (.int .i64 2)))] [6, 7] [6, 9]) .ret) .skip)) (.norm [0, 1, 2] [] spec_FitPegs_k3)))) }
noncomputable def spec_FitPegs_D : List (Nat × Callee) := [(494, spec_l12Fit_c), (495, spec_l12Hole_c), (496, spec_l12Way_c), (497, spec_l12Ok_c)]
def spec_FitPegs_H : List (Nat × ET) := [(6, (.one (.int .i64))), (9, (.one (.int .i64))), (11, T_Peg), (18, (.one (.int .i64))), (23, (.one (.int .i64))), (28, (.one (.int .i64))), (34, (.one (.int .i64))), (36, T_Peg), (40, T_Peg), (41, (.one (.int .i64))), (43, (.one (.int .i64))), (45, (.one (.int .i64))), (49, (.one (.int .i64)))]
noncomputable def spec_FitPegs_c : Callee := mkCallee spec_FitPegs_D spec_FitPegs_H spec_FitPegs_ir [.d (.one (.sl T_Peg)), .d (.one (.sl (.one (.int .i64)))), .d (.one (.int .i64))] [.d (.one (.sl (.one (.int .i64)))), .d (.one (.int .i64))] []
noncomputable def spec_FitPegs (a0 : List T_Peg.ty) (a1 : List Int) (a2 : Int) : Option (List Int × Int) := spec_FitPegs_c.f (a0, a1, a2, ())
noncomputable def spec_FitPegs_p0  (v0 : List T_Peg.ty) (v1 : List Int) (v2 : Int) : Option (List Int × Int) :=
 goL spec_FitPegs_D spec_FitPegs_H (vleave spec_FitPegs_ir [.d (.one (.sl T_Peg)), .d (.one (.sl (.one (.int .i64)))), .d (.one (.int .i64))] [.d (.one (.sl (.one (.int .i64)))), .d (.one (.int .i64))] [] []) [.c spec_FitPegs_k3]
  ⟨[(0, .sl T_Peg v0), (1, .sl (.one (.int .i64)) v1), (2, .int .i64 v2)], []⟩
noncomputable def spec_FitPegs_p1  (v0 : List T_Peg.ty) (v1 : List Int) (v2 : Int) (v8 : Int) : Option (List Int × Int) :=
 goL spec_FitPegs_D spec_FitPegs_H (vleave spec_FitPegs_ir [.d (.one (.sl T_Peg)), .d (.one (.sl (.one (.int .i64)))), .d (.one (.int .i64))] [.d (.one (.sl (.one (.int .i64)))), .d (.one (.int .i64))] [] []) [.c spec_FitPegs_k0, .l spec_FitPegs_k1, .e 0, .c spec_FitPegs_k2]
  ⟨[(0, .sl T_Peg v0), (1, .sl (.one (.int .i64)) v1), (2, .int .i64 v2), (8, .int .i64 v8)], []⟩
theorem spec_FitPegs_eq (a0 : List T_Peg.ty) (a1 : List Int) (a2 : Int) : spec_FitPegs a0 a1 a2 =
  (spec_l12Ok a0).bind fun x1 =>
   if (!x1) then
    some ([], 1)
   else
    (spec_l12Way a2).bind fun x2 =>
     if (!x2) then
      some ([], 2)
     else
      if decide ((a1.length : Int) > 8) then
       some ([], 2)
      else
       spec_FitPegs_p0 a0 a1 a2 :=
 (mk_f _ _ _ _ _ _ _ 4000).trans (by kernel_rfl)
theorem spec_FitPegs_p0_eq  (v0 : List T_Peg.ty) (v1 : List Int) (v2 : Int) : spec_FitPegs_p0 v0 v1 v2 =
  spec_FitPegs_p1 v0 v1 v2 0 :=
 (goL_dn _ _ _ 4000 _ _).trans (by kernel_rfl)
theorem spec_FitPegs_p1_eq  (v0 : List T_Peg.ty) (v1 : List Int) (v2 : Int) (v8 : Int) : spec_FitPegs_p1 v0 v1 v2 v8 =
  if decide (v8 < (v1.length : Int)) then
   if decide (0 ≤ v8) then
    (v1[v8.toNat]?).bind fun x1 =>
     (spec_l12Hole x1).bind fun x2 =>
      if (!x2) then
       some ([], 2)
      else
       spec_FitPegs_p1 v0 v1 v2 (IntKind.i64.wrap (v8 + 1))
   else
    none
  else
   if ((v1.length : Int) != (v0.length : Int)) then
    some ([], 7)
   else
    (spec_l12Fit 1000 v0 v1 v2 []).bind fun x3 =>
     if (!x3.2) then
      some ([], 3)
     else
      some (x3.1, 0) :=
 (goL_dn _ _ _ 4000 _ _).trans (by kernel_rfl)

/- impl.isDigit -/
def impl_isDigit_ir : Fn := { np := 1, io := [], res := [.t 2], own := [false], body :=
 (.seq (.reg false [.V 2 (.asg (.c (.bool false)))] [0] []) (.seq (.reg false [.V 3 (.mv (.t 0)), .V 4 (.bin .geq (.t 3) (.c (.int .u8 48))), .V 5 (.mv (.t 4)), .G 6 (.mv (.t 0)) 2 true, .G 7 (.bin .leq (.t 6) (.c (.int .u8 57))) 2 true, .V 8 (.pick (.t 5) (.t 7) (.c (.bool false))), .V 2 (.asg (.t 8))] [2] []) .ret)) }
noncomputable def impl_isDigit_D : List (Nat × Callee) := []
def impl_isDigit_H : List (Nat × ET) := []
noncomputable def impl_isDigit_c : Callee := mkCallee impl_isDigit_D impl_isDigit_H impl_isDigit_ir [.d (.one (.int .u8))] [.d (.one .bool)] []
noncomputable def impl_isDigit (a0 : Int) : Option (Bool) := impl_isDigit_c.f (a0, ())
theorem impl_isDigit_eq (a0 : Int) : impl_isDigit a0 =
  if decide (a0 ≥ 48) then
   some (decide (a0 ≤ 57))
  else
   some false :=
 (mk_f _ _ _ _ _ _ _ 4000).trans (by kernel_rfl)

/- impl.few -/
def impl_few_ir : Fn := { np := 2, io := [], res := [.t 4], own := [false], body :=
 (.seq (.reg false [.V 4 (.asg (.c (.bool false)))] [0, 1] []) (.seq (.reg false [.V 5 (.mv (.t 0)), .V 6 (.mv (.t 1)), .V 7 (.bin .leq (.t 5) (.t 6)), .V 4 (.asg (.t 7))] [4] []) .ret)) }
noncomputable def impl_few_D : List (Nat × Callee) := []
def impl_few_H : List (Nat × ET) := []
noncomputable def impl_few_c : Callee := mkCallee impl_few_D impl_few_H impl_few_ir [.d (.one (.int .i64)), .d (.one (.int .i64))] [.d (.one .bool)] []
noncomputable def impl_few (a0 : Int) (a1 : Int) : Option (Bool) := impl_few_c.f (a0, a1, ())
theorem impl_few_eq (a0 : Int) (a1 : Int) : impl_few a0 a1 =
  some (decide (a0 ≤ a1)) :=
 (mk_f _ _ _ _ _ _ _ 4000).trans (by kernel_rfl)

/- impl.IsName -/
def impl_IsName_k0 : C :=
 .seq (.reg false [.V 21 (.mv (.t 4)), .V 22 (.un .not (.t 21)), .V 23 (.mv (.t 22)), .G 24 (.mv (.t 3)) 2 true, .G 25 (.bin .eql (.t 24) (.c (.int .i64 0))) 2 true, .G 26 (.mv (.t 25)) 2 true, .G 27 (.mv (.t 0)) 5 false, .G 28 (.mv (.t 3)) 5 false, .G 29 (.ix (.t 27) (.t 28)) 5 false, .G 30 (.call (.c (.fn 22 [])) [.t 29]) 5 false, .G 31 (.un .not (.t 30)) 5 false, .G 32 (.pick (.t 26) (.c (.bool true)) (.t 31)) 2 true, .V 33 (.pick (.t 23) (.t 32) (.c (.bool false)))] [0, 3, 33] []) (.cond (.t 33) (.seq (.reg false [.V 2 (.asg (.c (.bool false)))] [2] []) .ret) .skip)
def impl_IsName_k1 : C :=
 .reg false [.V 9 (.mv (.t 3)), .V 10 (.bin .add (.t 9) (.c (.int .i64 1))), .V 3 (.asg (.t 10))] [0, 3] []
def impl_IsName_k2 : C :=
 .seq (.seq (.reg false [.V 5 (.mv (.t 3)), .V 6 (.mv (.t 0)), .V 7 (.lens (.t 6)), .V 8 (.bin .lss (.t 5) (.t 7))] [0, 3, 8] []) (.cond (.t 8) .skip (.exit 0))) (.seq (.block 1 (.seq (.reg false [.V 11 (.mv (.t 0)), .V 12 (.mv (.t 3)), .V 13 (.ix (.t 11) (.t 12)), .V 14 (.bin .geq (.t 13) (.c (.int .u8 97))), .V 15 (.mv (.t 14)), .G 16 (.mv (.t 0)) 4 true, .G 17 (.mv (.t 3)) 4 true, .G 18 (.ix (.t 16) (.t 17)) 4 true, .G 19 (.bin .leq (.t 18) (.c (.int .u8 122))) 4 true, .V 20 (.pick (.t 15) (.t 19) (.c (.bool false))), .V 4 (.asg (.t 20))] [0, 3, 4] []) (.norm [0, 3, 4] [] impl_IsName_k0))) impl_IsName_k1)
def impl_IsName_k3 : C :=
 .norm [0, 3] [] impl_IsName_k2
def impl_IsName_k4 : C :=
 .seq (.reg false [.V 34 (.mv (.t 0)), .V 35 (.bin .neq (.t 34) (.c (.str []))), .V 36 (.mv (.t 35)), .G 37 (.mv (.t 0)) 2 true, .G 38 (.lens (.t 37)) 2 true, .G 39 (.call (.c (.fn 21 [])) [.t 38, .c (.int .i64 10)]) 2 true, .V 40 (.pick (.t 36) (.t 39) (.c (.bool false))), .V 2 (.asg (.t 40))] [2] []) .ret
def impl_IsName_ir : Fn := { np := 1, io := [], res := [.t 2], own := [false], body :=
 (.seq (.reg false [.V 2 (.asg (.c (.bool false)))] [0] []) (.seq (.seq (.reg false [.V 3 (.asg (.c (.int .i64 0)))] [0, 3] []) (.block 0 (.loop impl_IsName_k3))) impl_IsName_k4)) }
noncomputable def impl_IsName_D : List (Nat × Callee) := [(21, impl_few_c), (22, impl_isDigit_c)]
def impl_IsName_H : List (Nat × ET) := []
noncomputable def impl_IsName_c : Callee := mkCallee impl_IsName_D impl_IsName_H impl_IsName_ir [.d (.one .str)] [.d (.one .bool)] []
noncomputable def impl_IsName (a0 : List UInt8) : Option (Bool) := impl_IsName_c.f (a0, ())
noncomputable def impl_IsName_p0  (v0 : List UInt8) (v3 : Int) : Option (Bool) :=
 goL impl_IsName_D impl_IsName_H (vleave impl_IsName_ir [.d (.one .str)] [.d (.one .bool)] [] []) [.c impl_IsName_k2, .l impl_IsName_k3, .e 0, .c impl_IsName_k4]
  ⟨[(0, .str v0), (3, .int .i64 v3)], []⟩
noncomputable def impl_IsName_p1  (v0 : List UInt8) (v3 : Int) (v4 : Bool) : Option (Bool) :=
 goL impl_IsName_D impl_IsName_H (vleave impl_IsName_ir [.d (.one .str)] [.d (.one .bool)] [] []) [.c impl_IsName_k0, .e 1, .c impl_IsName_k1, .l impl_IsName_k3, .e 0, .c impl_IsName_k4]
  ⟨[(0, .str v0), (3, .int .i64 v3), (4, .bool v4)], []⟩
theorem impl_IsName_eq (a0 : List UInt8) : impl_IsName a0 =
  impl_IsName_p0 a0 0 :=
 (mk_f _ _ _ _ _ _ _ 4000).trans (by kernel_rfl)
theorem impl_IsName_p0_eq  (v0 : List UInt8) (v3 : Int) : impl_IsName_p0 v0 v3 =
  if decide (v3 < (v0.length : Int)) then
   if decide (0 ≤ v3) then
    (v0[v3.toNat]?).bind fun x1 =>
     if decide ((x1.toNat : Int) ≥ 97) then
      if decide (0 ≤ v3) then
       (v0[v3.toNat]?).bind fun x2 =>
        impl_IsName_p1 v0 v3 (decide ((x2.toNat : Int) ≤ 122))
      else
       none
     else
      impl_IsName_p1 v0 v3 false
   else
    none
  else
   if (!(v0 == [])) then
    (impl_few (v0.length : Int) 10).bind fun x3 =>
     some x3
   else
    some false :=
 (goL_dn _ _ _ 4000 _ _).trans (by kernel_rfl)
theorem impl_IsName_p1_eq  (v0 : List UInt8) (v3 : Int) (v4 : Bool) : impl_IsName_p1 v0 v3 v4 =
  if (!v4) then
   if (v3 == 0) then
    some false
   else
    if decide (0 ≤ v3) then
     (v0[v3.toNat]?).bind fun x1 =>
      (impl_isDigit (x1.toNat : Int)).bind fun x2 =>
       if (!x2) then
        some false
       else
        impl_IsName_p0 v0 (IntKind.i64.wrap (v3 + 1))
    else
     none
  else
   impl_IsName_p0 v0 (IntKind.i64.wrap (v3 + 1)) :=
 (goL_dn _ _ _ 4000 _ _).trans (by kernel_rfl)

/- impl.within -/
def impl_within_ir : Fn := { np := 3, io := [], res := [.t 6], own := [false], body :=
 (.seq (.reg false [.V 6 (.asg (.c (.bool false)))] [0, 1, 2] []) (.seq (.reg false [.V 7 (.mv (.t 1)), .V 8 (.mv (.t 0)), .V 9 (.bin .leq (.t 7) (.t 8)), .V 10 (.mv (.t 9)), .G 11 (.mv (.t 0)) 3 true, .G 12 (.mv (.t 2)) 3 true, .G 13 (.bin .leq (.t 11) (.t 12)) 3 true, .V 14 (.pick (.t 10) (.t 13) (.c (.bool false))), .V 6 (.asg (.t 14))] [6] []) .ret)) }
noncomputable def impl_within_D : List (Nat × Callee) := []
def impl_within_H : List (Nat × ET) := []
noncomputable def impl_within_c : Callee := mkCallee impl_within_D impl_within_H impl_within_ir [.d (.one (.int .i64)), .d (.one (.int .i64)), .d (.one (.int .i64))] [.d (.one .bool)] []
noncomputable def impl_within (a0 : Int) (a1 : Int) (a2 : Int) : Option (Bool) := impl_within_c.f (a0, a1, a2, ())
theorem impl_within_eq (a0 : Int) (a1 : Int) (a2 : Int) : impl_within a0 a1 a2 =
  if decide (a1 ≤ a0) then
   some (decide (a0 ≤ a2))
  else
   some false :=
 (mk_f _ _ _ _ _ _ _ 4000).trans (by kernel_rfl)

/- impl.isHole -/
def impl_isHole_ir : Fn := { np := 1, io := [], res := [.t 2], own := [false], body :=
 (.seq (.reg false [.V 2 (.asg (.c (.bool false)))] [0] []) (.seq (.reg false [.V 3 (.mv (.t 0)), .V 4 (.call (.c (.fn 23 [])) [.t 3, .c (.int .i64 20), .c (.int .i64 200)]), .V 2 (.asg (.t 4))] [2] []) .ret)) }
noncomputable def impl_isHole_D : List (Nat × Callee) := [(23, impl_within_c)]
def impl_isHole_H : List (Nat × ET) := []
noncomputable def impl_isHole_c : Callee := mkCallee impl_isHole_D impl_isHole_H impl_isHole_ir [.d (.one (.int .i64))] [.d (.one .bool)] []
noncomputable def impl_isHole (a0 : Int) : Option (Bool) := impl_isHole_c.f (a0, ())
theorem impl_isHole_eq (a0 : Int) : impl_isHole a0 =
  (impl_within a0 20 200).bind fun x1 =>
   some x1 :=
 (mk_f _ _ _ _ _ _ _ 4000).trans (by kernel_rfl)

/- (impl.Peg).valid -/
def impl_Peg_valid_ir : Fn := { np := 1, io := [], res := [.t 2], own := [false], body :=
 (.seq (.reg false [.W 1 (.box 4 (.t 0)), .V 2 (.asg (.c (.bool false)))] [1] [1]) (.seq (.reg false [.V 3 (.fa 0 (.t 1)), .V 4 (.ld none (.t 3)), .V 5 (.call (.c (.fn 24 [])) [.t 4]), .V 6 (.mv (.t 5)), .G 7 (.fa 1 (.t 1)) 3 true, .G 8 (.ld none (.t 7)) 3 true, .G 9 (.call (.c (.fn 500 [])) [.t 8]) 3 true, .V 10 (.pick (.t 6) (.t 9) (.c (.bool false))), .V 11 (.mv (.t 10)), .G 12 (.fa 2 (.t 1)) 8 true, .G 13 (.ld none (.t 12)) 8 true, .G 14 (.call (.c (.fn 23 [])) [.t 13, .c (.int .i64 100), .c (.int .i64 1000)]) 8 true, .V 15 (.pick (.t 11) (.t 14) (.c (.bool false))), .V 16 (.mv (.t 15)), .G 17 (.fa 3 (.t 1)) 13 true, .G 18 (.ld none (.t 17)) 13 true, .G 19 (.call (.c (.fn 23 [])) [.t 18, .c (.int .i64 10), .c (.int .i64 100)]) 13 true, .V 20 (.pick (.t 16) (.t 19) (.c (.bool false))), .V 2 (.asg (.t 20))] [2] []) .ret)) }
noncomputable def impl_Peg_valid_D : List (Nat × Callee) := [(23, impl_within_c), (24, impl_IsName_c), (500, impl_isHole_c)]
def impl_Peg_valid_H : List (Nat × ET) := []
noncomputable def impl_Peg_valid_c : Callee := mkCallee impl_Peg_valid_D impl_Peg_valid_H impl_Peg_valid_ir [.d T_Peg] [.d (.one .bool)] []
noncomputable def impl_Peg_valid (a0 : T_Peg.ty) : Option (Bool) := impl_Peg_valid_c.f (a0, ())
theorem impl_Peg_valid_eq (a0 : T_Peg.ty) : impl_Peg_valid a0 =
  (impl_IsName a0.1).bind fun x1 =>
   if x1 then
    (impl_isHole a0.2.1).bind fun x2 =>
     if x2 then
      (impl_within a0.2.2.1 100 1000).bind fun x3 =>
       if x3 then
        (impl_within a0.2.2.2.1 10 100).bind fun x4 =>
         some x4
       else
        some false
     else
      some false
   else
    some false :=
 (mk_f _ _ _ _ _ _ _ 4000).trans (by kernel_rfl)

/- impl.ValidPegs -/
def impl_ValidPegs_k0 : C :=
 .seq (.reg false [.V 8 (.bin .lss (.t 7) (.t 6))] [0, 5, 6, 7, 8] []) (.seq (.cond (.t 8) .skip (.exit 0)) (.seq (.block 1 (.seq (.reg false [.V 9 (.mv (.t 7)), .V 10 (.ia 4 (.t 5) (.t 7)), .V 11 (.ld (some 4) (.t 10)), .W 4 (.alloc 4 (.agg [.str [], .int .i64 0, .int .i64 0, .int .i64 0])), .V 3 (.asg (.t 9)), ⟨none, true, .sto 4 (.t 4) (.t 11), none, false, []⟩] [0, 3, 4, 5, 6, 7] [4]) (.seq (.reg true [.V 12 (.ld (some 4) (.t 4)), .V 13 (.call (.c (.fn 796 [])) [.t 12]), .V 14 (.un .not (.t 13)), .V 15 (.mv (.t 14)), .G 16 (.mv (.t 3)) 3 false, .G 17 (.bin .gtr (.t 16) (.c (.int .i64 0))) 3 false, .G 18 (.mv (.t 17)) 3 false, .G 19 (.mv (.t 0)) 6 true, .G 20 (.mv (.t 3)) 6 true, .G 21 (.bin .sub (.t 20) (.c (.int .i64 1))) 6 true, .G 22 (.ia 4 (.t 19) (.t 21)) 6 true, .G 23 (.fa 0 (.t 22)) 6 true, .G 24 (.ld none (.t 23)) 6 true, .G 25 (.fa 0 (.t 4)) 6 true, .G 26 (.ld none (.t 25)) 6 true, .G 27 (.bin .geq (.t 24) (.t 26)) 6 true, .G 28 (.pick (.t 18) (.t 27) (.c (.bool false))) 3 false, .V 29 (.pick (.t 15) (.c (.bool true)) (.t 28))] [0, 5, 6, 7, 29] []) (.cond (.t 29) (.seq (.reg false [.V 2 (.asg (.c (.bool false)))] [2] []) .ret) .skip)))) (.reg false [.V 30 (.bin .add (.t 7) (.c (.int .i64 1))), .V 7 (.mv (.t 30))] [0, 5, 6, 7] [])))
def impl_ValidPegs_k1 : C :=
 .norm [0, 5, 6, 7] [] impl_ValidPegs_k0
def impl_ValidPegs_k2 : C :=
 .seq (.reg false [.V 31 (.mv (.t 0)), .V 32 (.len (.t 31)), .V 33 (.call (.c (.fn 21 [])) [.t 32, .c (.int .i64 8)]), .V 2 (.asg (.t 33))] [2] []) .ret
def impl_ValidPegs_ir : Fn := { np := 1, io := [], res := [.t 2], own := [false], body :=
 (.seq (.reg false [.V 2 (.asg (.c (.bool false)))] [0] []) (.seq (.seq (.reg false [.V 5 (.mv (.t 0)), .V 6 (.len (.t 5)), .V 7 (.mv (.c (.int .i64 0)))] [0, 5, 6, 7] []) (.block 0 (.loop impl_ValidPegs_k1))) impl_ValidPegs_k2)) }
noncomputable def impl_ValidPegs_D : List (Nat × Callee) := [(21, impl_few_c), (796, impl_Peg_valid_c)]
def impl_ValidPegs_H : List (Nat × ET) := [(5, T_Peg), (19, T_Peg), (31, T_Peg)]
noncomputable def impl_ValidPegs_c : Callee := mkCallee impl_ValidPegs_D impl_ValidPegs_H impl_ValidPegs_ir [.d (.one (.sl T_Peg))] [.d (.one .bool)] []
noncomputable def impl_ValidPegs (a0 : List T_Peg.ty) : Option (Bool) := impl_ValidPegs_c.f (a0, ())
noncomputable def impl_ValidPegs_p0  (v0 : List T_Peg.ty) (v5 : List T_Peg.ty) (v6 : Int) (v7 : Int) : Option (Bool) :=
 goL impl_ValidPegs_D impl_ValidPegs_H (vleave impl_ValidPegs_ir [.d (.one (.sl T_Peg))] [.d (.one .bool)] [] []) [.c impl_ValidPegs_k0, .l impl_ValidPegs_k1, .e 0, .c impl_ValidPegs_k2]
  ⟨[(0, .sl T_Peg v0), (5, .sl T_Peg v5), (6, .int .i64 v6), (7, .int .i64 v7)], []⟩
theorem impl_ValidPegs_eq (a0 : List T_Peg.ty) : impl_ValidPegs a0 =
  impl_ValidPegs_p0 a0 a0 (a0.length : Int) 0 :=
 (mk_f _ _ _ _ _ _ _ 4000).trans (by kernel_rfl)
theorem impl_ValidPegs_p0_eq  (v0 : List T_Peg.ty) (v5 : List T_Peg.ty) (v6 : Int) (v7 : Int) : impl_ValidPegs_p0 v0 v5 v6 v7 =
  if decide (v7 < v6) then
   if decide (0 ≤ v7) then
    (v5[v7.toNat]?).bind fun x1 =>
     (impl_Peg_valid x1).bind fun x2 =>
      if (!x2) then
       some false
      else
       if decide (v7 > 0) then
        if decide (0 ≤ IntKind.i64.wrap (v7 - 1)) then
         (v0[(IntKind.i64.wrap (v7 - 1)).toNat]?).bind fun x3 =>
          if (!Op.bytesLess x3.1 x1.1) then
           some false
          else
           impl_ValidPegs_p0 v0 v5 v6 (IntKind.i64.wrap (v7 + 1))
        else
         none
       else
        impl_ValidPegs_p0 v0 v5 v6 (IntKind.i64.wrap (v7 + 1))
   else
    none
  else
   (impl_few (v0.length : Int) 8).bind fun x4 =>
    some x4 :=
 (goL_dn _ _ _ 4000 _ _).trans (by kernel_rfl)

/- impl.isWay -/
def impl_isWay_ir : Fn := { np := 1, io := [], res := [.t 2], own := [false], body :=
 (.seq (.reg false [.V 2 (.asg (.c (.bool false)))] [0] []) (.seq (.reg false [.V 3 (.mv (.t 0)), .V 4 (.call (.c (.fn 23 [])) [.t 3, .c (.int .i64 0), .c (.int .i64 1000)]), .V 2 (.asg (.t 4))] [2] []) .ret)) }
noncomputable def impl_isWay_D : List (Nat × Callee) := [(23, impl_within_c)]
def impl_isWay_H : List (Nat × ET) := []
noncomputable def impl_isWay_c : Callee := mkCallee impl_isWay_D impl_isWay_H impl_isWay_ir [.d (.one (.int .i64))] [.d (.one .bool)] []
noncomputable def impl_isWay (a0 : Int) : Option (Bool) := impl_isWay_c.f (a0, ())
theorem impl_isWay_eq (a0 : Int) : impl_isWay a0 =
  (impl_within a0 0 1000).bind fun x1 =>
   some x1 :=
 (mk_f _ _ _ _ _ _ _ 4000).trans (by kernel_rfl)

/- (impl.Peg).wayIn -/
def impl_Peg_wayIn_ir : Fn := { np := 2, io := [], res := [.t 4, .t 5], own := [false, false], body :=
 (.seq (.reg false [.W 2 (.box 4 (.t 0)), .V 4 (.asg (.c (.int .i64 0))), .V 5 (.asg (.c (.bool false)))] [1, 2] [2]) (.seq (.reg false [.V 7 (.mv (.t 1)), .V 8 (.fa 1 (.t 2)), .V 9 (.ld none (.t 8)), .V 10 (.bin .sub (.t 7) (.t 9)), .V 11 (.max [.c (.int .i64 0), .t 10]), .V 12 (.fa 3 (.t 2)), .V 13 (.ld none (.t 12)), .V 14 (.bin .mul (.t 11) (.t 13)), .V 6 (.asg (.t 14))] [2, 6] [2]) (.seq (.reg true [.V 15 (.mv (.t 6)), .V 16 (.mv (.t 6)), .V 17 (.fa 2 (.t 2)), .V 18 (.ld none (.t 17)), .V 19 (.bin .leq (.t 16) (.t 18)), .V 4 (.asg (.t 15)), .V 5 (.asg (.t 19))] [4, 5] []) .ret))) }
noncomputable def impl_Peg_wayIn_D : List (Nat × Callee) := []
def impl_Peg_wayIn_H : List (Nat × ET) := []
noncomputable def impl_Peg_wayIn_c : Callee := mkCallee impl_Peg_wayIn_D impl_Peg_wayIn_H impl_Peg_wayIn_ir [.d T_Peg, .d (.one (.int .i64))] [.d (.one (.int .i64)), .d (.one .bool)] []
noncomputable def impl_Peg_wayIn (a0 : T_Peg.ty) (a1 : Int) : Option (Int × Bool) := impl_Peg_wayIn_c.f (a0, a1, ())
theorem impl_Peg_wayIn_eq (a0 : T_Peg.ty) (a1 : Int) : impl_Peg_wayIn a0 a1 =
  some (IntKind.i64.wrap ((if IntKind.i64.wrap (a1 - a0.2.1) > 0 then IntKind.i64.wrap (a1 - a0.2.1) else 0) * a0.2.2.2.1), decide (IntKind.i64.wrap ((if IntKind.i64.wrap (a1 - a0.2.1) > 0 then IntKind.i64.wrap (a1 - a0.2.1) else 0) * a0.2.2.2.1) ≤ a0.2.2.1)) :=
 (mk_f _ _ _ _ _ _ _ 4000).trans (by kernel_rfl)

/- impl.clone[int64] -/
def impl_clone_int64__ir : Fn := { np := 1, io := [], res := [.t 2], own := [true], body :=
 (.seq (.reg false [.W 2 (.asg (.c (.nils 1)))] [0] []) (.seq (.reg false [.V 3 (.mv (.t 0)), .V 4 (.len (.t 3)), .V 5 (.mks 1 8 (.int .i64 0) (.c (.int .i64 0)) (.t 4)), .V 6 (.mv (.t 0)), .W 7 (.app 1 8 (.t 5) (.t 6)), .W 2 (.asg (.t 7))] [2] [2]) .ret)) }
noncomputable def impl_clone_int64__D : List (Nat × Callee) := []
def impl_clone_int64__H : List (Nat × ET) := [(2, (.one (.int .i64))), (3, (.one (.int .i64))), (5, (.one (.int .i64))), (6, (.one (.int .i64))), (7, (.one (.int .i64)))]
noncomputable def impl_clone_int64__c : Callee := mkCallee impl_clone_int64__D impl_clone_int64__H impl_clone_int64__ir [.d (.one (.sl (.one (.int .i64))))] [.tok (.one (.int .i64))] []
noncomputable def impl_clone_int64_ (a0 : List Int) : Option (List Int) := impl_clone_int64__c.f (a0, ())
theorem impl_clone_int64__eq (a0 : List Int) : impl_clone_int64_ a0 =
  if decide (0 ≤ (a0.length : Int)) && decide ((a0.length : Int).toNat < lim) then
   if decide (0 + a0.length < lim) then
    some (([] ++ a0).take (([] ++ a0).length))
   else
    none
  else
   none :=
 (mk_f _ _ _ _ _ _ _ 4000).trans (by kernel_rfl)

/- impl.fit -/
def impl_fit_k0 : C :=
 .seq (.reg false [.V 35 (.bin .lss (.t 34) (.t 33))] [0, 1, 2, 3, 10, 11, 12, 25, 26, 27, 32, 33, 34, 35] [3, 11]) (.seq (.cond (.t 35) .skip (.exit 2)) (.seq (.block 3 (.seq (.reg false [.V 36 (.ia 1 (.t 32) (.t 34)), .V 37 (.ld none (.t 36)), .V 14 (.asg (.t 37))] [0, 1, 2, 3, 10, 11, 12, 14, 25, 26, 27, 32, 33, 34] [3, 11]) (.reg false [.V 38 (.mv (.t 12)), .V 39 (.mv (.t 38)), .G 40 (.mv (.t 14)) 1 false, .G 41 (.mv (.t 10)) 1 false, .G 42 (.bin .eql (.t 40) (.t 41)) 1 false, .V 43 (.pick (.t 39) (.c (.bool true)) (.t 42)), .V 12 (.asg (.t 43))] [0, 1, 2, 3, 10, 11, 12, 25, 26, 27, 32, 33, 34] [3, 11]))) (.reg false [.V 44 (.bin .add (.t 34) (.c (.int .i64 1))), .V 34 (.mv (.t 44))] [0, 1, 2, 3, 10, 11, 12, 25, 26, 27, 32, 33, 34] [3, 11])))
def impl_fit_k1 : C :=
 .norm [0, 1, 2, 3, 10, 11, 12, 25, 26, 27, 32, 33, 34] [3, 11] impl_fit_k0
def impl_fit_k2 : C :=
 .seq (.reg false [.V 66 (.mv (.t 0)), .V 67 (.mv (.t 1)), .V 68 (.mv (.t 2)), .V 69 (.mv (.t 3)), .V 70 (.call (.c (.fn 624 [])) [.t 69]), .V 71 (.mv (.t 10)), .V 72 (.bsl 1 (.int .i64 0) 1 [(0, .t 71)]), .W 73 (.app 1 8 (.t 70) (.t 72)), .W 74 (.call (.c (.fn 499 [])) [.t 66, .t 67, .t 68, .t 73]), .V 65 (.mv (.t 74)), .V 75 (.ext (.t 65) 0), .V 76 (.ext (.t 65) 1), .W 17 (.asg (.t 75)), .V 18 (.asg (.t 76))] [0, 1, 2, 3, 17, 18, 25, 26, 27] [3, 17]) (.seq (.reg false [.V 77 (.mv (.t 18))] [0, 1, 2, 3, 17, 25, 26, 27, 77] [3, 17]) (.cond (.t 77) (.seq (.reg false [.V 78 (.mv (.t 17)), .W 8 (.asg (.t 78)), .V 9 (.asg (.c (.bool true)))] [3, 8, 9] [3, 8, 17]) .ret) .skip))
def impl_fit_k3 : C :=
 .seq (.reg true [.V 46 (.ld (some 4) (.t 11)), .V 47 (.mv (.t 1)), .V 48 (.mv (.t 3)), .V 49 (.len (.t 48)), .V 50 (.ia 1 (.t 47) (.t 49)), .V 51 (.ld none (.t 50)), .V 52 (.call (.c (.fn 795 [])) [.t 46, .t 51]), .V 45 (.mv (.t 52)), .V 53 (.ext (.t 45) 0), .V 54 (.ext (.t 45) 1), .V 15 (.asg (.t 53)), .V 16 (.asg (.t 54))] [0, 1, 2, 3, 10, 12, 15, 16, 25, 26, 27] [3]) (.seq (.seq (.reg false [.V 55 (.mv (.t 12)), .V 56 (.mv (.t 55)), .G 57 (.mv (.t 16)) 1 false, .G 58 (.un .not (.t 57)) 1 false, .V 59 (.pick (.t 56) (.c (.bool true)) (.t 58)), .V 60 (.mv (.t 59)), .G 61 (.mv (.t 15)) 5 false, .G 62 (.mv (.t 2)) 5 false, .G 63 (.bin .gtr (.t 61) (.t 62)) 5 false, .V 64 (.pick (.t 60) (.c (.bool true)) (.t 63))] [0, 1, 2, 3, 10, 25, 26, 27, 64] [3]) (.cond (.t 64) (.exit 1) .skip)) (.norm [0, 1, 2, 3, 10, 25, 26, 27] [3] impl_fit_k2))
def impl_fit_k4 : C :=
 .reg false [.V 79 (.bin .add (.t 27) (.c (.int .i64 1))), .V 27 (.mv (.t 79))] [0, 1, 2, 3, 25, 26, 27] [3]
def impl_fit_k5 : C :=
 .seq (.reg false [.V 28 (.bin .lss (.t 27) (.t 26))] [0, 1, 2, 3, 25, 26, 27, 28] [3]) (.seq (.cond (.t 28) .skip (.exit 0)) (.seq (.block 1 (.seq (.reg false [.V 29 (.mv (.t 27)), .V 30 (.ia 4 (.t 25) (.t 27)), .V 31 (.ld (some 4) (.t 30)), .W 11 (.alloc 4 (.agg [.str [], .int .i64 0, .int .i64 0, .int .i64 0])), .V 10 (.asg (.t 29)), ⟨none, true, .sto 4 (.t 11) (.t 31), none, false, []⟩] [0, 1, 2, 3, 10, 11, 25, 26, 27] [3, 11]) (.seq (.reg false [.V 12 (.asg (.c (.bool false)))] [0, 1, 2, 3, 10, 11, 12, 25, 26, 27] [3, 11]) (.seq (.seq (.reg false [.V 32 (.mv (.t 3)), .V 33 (.len (.t 32)), .V 34 (.mv (.c (.int .i64 0)))] [0, 1, 2, 3, 10, 11, 12, 25, 26, 27, 32, 33, 34] [3, 11]) (.block 2 (.loop impl_fit_k1))) impl_fit_k3)))) impl_fit_k4))
def impl_fit_k6 : C :=
 .norm [0, 1, 2, 3, 25, 26, 27] [3] impl_fit_k5
def impl_fit_k7 : C :=
 .seq (.reg false [.W 8 (.asg (.c (.nils 1))), .V 9 (.asg (.c (.bool false)))] [3, 8, 9] [3, 8, 17]) .ret
def impl_fit_ir : Fn := { np := 4, io := [false, false, false, true], res := [.t 8, .t 9], own := [true, false], body :=
 (.seq (.reg false [.W 8 (.asg (.c (.nils 1))), .V 9 (.asg (.c (.bool false)))] [0, 1, 2, 3] [3]) (.seq (.seq (.reg false [.V 19 (.mv (.t 3)), .V 20 (.len (.t 19)), .V 21 (.mv (.t 1)), .V 22 (.len (.t 21)), .V 23 (.bin .eql (.t 20) (.t 22))] [0, 1, 2, 3, 23] [3]) (.cond (.t 23) (.seq (.reg false [.V 24 (.mv (.t 3)), .W 8 (.asg (.t 24)), .V 9 (.asg (.c (.bool true)))] [3, 8, 9] [3, 8, 17]) .ret) .skip)) (.seq (.seq (.reg false [.V 25 (.mv (.t 0)), .V 26 (.len (.t 25)), .V 27 (.mv (.c (.int .i64 0)))] [0, 1, 2, 3, 25, 26, 27] [3]) (.block 0 (.loop impl_fit_k6))) impl_fit_k7))), gone := [3] }
def impl_fit_H : List (Nat × ET) := [(8, (.one (.int .i64))), (17, (.one (.int .i64))), (19, (.one (.int .i64))), (21, (.one (.int .i64))), (24, (.one (.int .i64))), (25, T_Peg), (32, (.one (.int .i64))), (47, (.one (.int .i64))), (48, (.one (.int .i64))), (66, T_Peg), (67, (.one (.int .i64))), (69, (.one (.int .i64))), (70, (.one (.int .i64))), (72, (.one (.int .i64))), (73, (.one (.int .i64))), (75, (.one (.int .i64))), (78, (.one (.int .i64)))]
noncomputable def impl_fit_F : Nat → tysU [.d (.one (.sl T_Peg)), .d (.one (.sl (.one (.int .i64)))), .d (.one (.int .i64)), .ios (.one (.int .i64))] → Option (tys1 ([.tok (.one (.int .i64)), .d (.one .bool)] ++ [.gone]))
 | 0 => fun _ => none
 | n + 1 => (mkCallee [(499, ⟨[false, false, false, true], [.d (.one (.sl T_Peg)), .d (.one (.sl (.one (.int .i64)))), .d (.one (.int .i64)), .ios (.one (.int .i64))], [.tok (.one (.int .i64)), .d (.one .bool)], [.gone], impl_fit_F n⟩), (624, impl_clone_int64__c), (795, impl_Peg_wayIn_c)] impl_fit_H impl_fit_ir [.d (.one (.sl T_Peg)), .d (.one (.sl (.one (.int .i64)))), .d (.one (.int .i64)), .ios (.one (.int .i64))] [.tok (.one (.int .i64)), .d (.one .bool)] [.gone]).f
noncomputable def impl_fit_D (n : Nat) : List (Nat × Callee) := [(499, ⟨[false, false, false, true], [.d (.one (.sl T_Peg)), .d (.one (.sl (.one (.int .i64)))), .d (.one (.int .i64)), .ios (.one (.int .i64))], [.tok (.one (.int .i64)), .d (.one .bool)], [.gone], impl_fit_F n⟩), (624, impl_clone_int64__c), (795, impl_Peg_wayIn_c)]
noncomputable def impl_fit_c : Callee := ⟨[false, false, false, true], [.d (.one (.sl T_Peg)), .d (.one (.sl (.one (.int .i64)))), .d (.one (.int .i64)), .ios (.one (.int .i64))], [.tok (.one (.int .i64)), .d (.one .bool)], [.gone], impl_fit_F 1000⟩
noncomputable def impl_fit_N (n : Nat) : Callee := ⟨[false, false, false, true], [.d (.one (.sl T_Peg)), .d (.one (.sl (.one (.int .i64)))), .d (.one (.int .i64)), .ios (.one (.int .i64))], [.tok (.one (.int .i64)), .d (.one .bool)], [.gone], impl_fit_F n⟩
theorem impl_fit_N_eq (n : Nat) : impl_fit_N (n + 1) = mkCallee (impl_fit_D n) impl_fit_H impl_fit_ir [.d (.one (.sl T_Peg)), .d (.one (.sl (.one (.int .i64)))), .d (.one (.int .i64)), .ios (.one (.int .i64))] [.tok (.one (.int .i64)), .d (.one .bool)] [.gone] := rfl
noncomputable def impl_fit (n : Nat) (a0 : List T_Peg.ty) (a1 : List Int) (a2 : Int) (a3 : List Int) : Option (List Int × Bool × Unit) := impl_fit_F n (a0, a1, a2, a3, ())
noncomputable def impl_fit_p0 (n : Nat) (l3 : Nat) (v0 : List T_Peg.ty) (v1 : List Int) (v2 : Int) (v25 : List T_Peg.ty) (v26 : Int) (v27 : Int) (r3 : List Int) : Option (List Int × Bool × Unit) :=
 goL (impl_fit_D n) impl_fit_H (vleave impl_fit_ir [.d (.one (.sl T_Peg)), .d (.one (.sl (.one (.int .i64)))), .d (.one (.int .i64)), .ios (.one (.int .i64))] [.tok (.one (.int .i64)), .d (.one .bool)] [.gone] [l3]) [.c impl_fit_k5, .l impl_fit_k6, .e 0, .c impl_fit_k7]
  ⟨[(0, .sl T_Peg v0), (1, .sl (.one (.int .i64)) v1), (2, .int .i64 v2), (3, .view 3 0 r3.length), (25, .sl T_Peg v25), (26, .int .i64 v26), (27, .int .i64 v27)], [(3, some (.sl (.one (.int .i64)) r3))]⟩
noncomputable def impl_fit_p1 (n : Nat) (l3 : Nat) (v0 : List T_Peg.ty) (v1 : List Int) (v2 : Int) (v10 : Int) (v12 : Bool) (v25 : List T_Peg.ty) (v26 : Int) (v27 : Int) (v33 : Int) (v34 : Int) (r3 : List Int) (r11_0 : List UInt8) (r11_1 : Int) (r11_2 : Int) (r11_3 : Int) : Option (List Int × Bool × Unit) :=
 goL (impl_fit_D n) impl_fit_H (vleave impl_fit_ir [.d (.one (.sl T_Peg)), .d (.one (.sl (.one (.int .i64)))), .d (.one (.int .i64)), .ios (.one (.int .i64))] [.tok (.one (.int .i64)), .d (.one .bool)] [.gone] [l3]) [.c impl_fit_k0, .l impl_fit_k1, .e 2, .c impl_fit_k3, .e 1, .c impl_fit_k4, .l impl_fit_k6, .e 0, .c impl_fit_k7]
  ⟨[(0, .sl T_Peg v0), (1, .sl (.one (.int .i64)) v1), (2, .int .i64 v2), (3, .view 3 0 r3.length), (10, .int .i64 v10), (11, .loc 11 0 0), (12, .bool v12), (25, .sl T_Peg v25), (26, .int .i64 v26), (27, .int .i64 v27), (32, .view 3 0 r3.length), (33, .int .i64 v33), (34, .int .i64 v34)], [(3, some (.sl (.one (.int .i64)) r3)), (11, some (.var 4 (.agg [.str r11_0, .int .i64 r11_1, .int .i64 r11_2, .int .i64 r11_3])))]⟩
noncomputable def impl_fit_p2 (n : Nat) (l3 : Nat) (v0 : List T_Peg.ty) (v1 : List Int) (v2 : Int) (v10 : Int) (v25 : List T_Peg.ty) (v26 : Int) (v27 : Int) (r3 : List Int) : Option (List Int × Bool × Unit) :=
 goL (impl_fit_D n) impl_fit_H (vleave impl_fit_ir [.d (.one (.sl T_Peg)), .d (.one (.sl (.one (.int .i64)))), .d (.one (.int .i64)), .ios (.one (.int .i64))] [.tok (.one (.int .i64)), .d (.one .bool)] [.gone] [l3]) [.c impl_fit_k2, .e 1, .c impl_fit_k4, .l impl_fit_k6, .e 0, .c impl_fit_k7]
  ⟨[(0, .sl T_Peg v0), (1, .sl (.one (.int .i64)) v1), (2, .int .i64 v2), (3, .view 3 0 r3.length), (10, .int .i64 v10), (25, .sl T_Peg v25), (26, .int .i64 v26), (27, .int .i64 v27)], [(3, some (.sl (.one (.int .i64)) r3))]⟩
theorem impl_fit_eq (n : Nat) (a0 : List T_Peg.ty) (a1 : List Int) (a2 : Int) (a3 : List Int) : impl_fit (n + 1) a0 a1 a2 a3 =
  if ((a3.length : Int) == (a1.length : Int)) then
   some ((a3.take a3.length), true, ())
  else
   impl_fit_p0 n a3.length a0 a1 a2 a0 (a0.length : Int) 0 a3 :=
 (mk_f (impl_fit_D n) impl_fit_H impl_fit_ir [.d (.one (.sl T_Peg)), .d (.one (.sl (.one (.int .i64)))), .d (.one (.int .i64)), .ios (.one (.int .i64))] [.tok (.one (.int .i64)), .d (.one .bool)] [.gone] (a0, a1, a2, a3, ()) 4000).trans (by kernel_rfl)
theorem impl_fit_p0_eq (n : Nat) (l3 : Nat) (v0 : List T_Peg.ty) (v1 : List Int) (v2 : Int) (v25 : List T_Peg.ty) (v26 : Int) (v27 : Int) (r3 : List Int) : impl_fit_p0 n l3 v0 v1 v2 v25 v26 v27 r3 =
  if decide (v27 < v26) then
   if decide (0 ≤ v27) then
    (v25[v27.toNat]?).bind fun x1 =>
     impl_fit_p1 n l3 v0 v1 v2 v27 false v25 v26 v27 (r3.length : Int) 0 r3 x1.1 x1.2.1 x1.2.2.1 x1.2.2.2.1
   else
    none
  else
   some ([], false, ()) :=
 (goL_dn _ _ _ 4000 _ _).trans (by kernel_rfl)
theorem impl_fit_p1_eq (n : Nat) (l3 : Nat) (v0 : List T_Peg.ty) (v1 : List Int) (v2 : Int) (v10 : Int) (v12 : Bool) (v25 : List T_Peg.ty) (v26 : Int) (v27 : Int) (v33 : Int) (v34 : Int) (r3 : List Int) (r11_0 : List UInt8) (r11_1 : Int) (r11_2 : Int) (r11_3 : Int) : impl_fit_p1 n l3 v0 v1 v2 v10 v12 v25 v26 v27 v33 v34 r3 r11_0 r11_1 r11_2 r11_3 =
  if decide (v34 < v33) then
   if decide (0 ≤ v34) && decide (v34 < (r3.length : Int)) then
    (r3[v34.toNat]?).bind fun x1 =>
     if v12 then
      impl_fit_p1 n l3 v0 v1 v2 v10 true v25 v26 v27 v33 (IntKind.i64.wrap (v34 + 1)) r3 r11_0 r11_1 r11_2 r11_3
     else
      impl_fit_p1 n l3 v0 v1 v2 v10 (x1 == v10) v25 v26 v27 v33 (IntKind.i64.wrap (v34 + 1)) r3 r11_0 r11_1 r11_2 r11_3
   else
    none
  else
   if decide (0 ≤ (r3.length : Int)) then
    (v1[(r3.length : Int).toNat]?).bind fun x2 =>
     (impl_Peg_wayIn (r11_0, r11_1, r11_2, r11_3, ()) x2).bind fun x3 =>
      if v12 then
       impl_fit_p0 n l3 v0 v1 v2 v25 v26 (IntKind.i64.wrap (v27 + 1)) r3
      else
       if (!x3.2) then
        impl_fit_p0 n l3 v0 v1 v2 v25 v26 (IntKind.i64.wrap (v27 + 1)) r3
       else
        if decide (x3.1 > v2) then
         impl_fit_p0 n l3 v0 v1 v2 v25 v26 (IntKind.i64.wrap (v27 + 1)) r3
        else
         impl_fit_p2 n l3 v0 v1 v2 v10 v25 v26 v27 r3
   else
    none :=
 (goL_dn _ _ _ 4000 _ _).trans (by kernel_rfl)
theorem impl_fit_p2_eq (n : Nat) (l3 : Nat) (v0 : List T_Peg.ty) (v1 : List Int) (v2 : Int) (v10 : Int) (v25 : List T_Peg.ty) (v26 : Int) (v27 : Int) (r3 : List Int) : impl_fit_p2 n l3 v0 v1 v2 v10 v25 v26 v27 r3 =
  (impl_clone_int64_ (r3.take r3.length)).bind fun x1 =>
   if decide (x1.length + 1 < lim) then
    if decide ((x1 ++ [v10]).length = (x1 ++ [v10]).length) then
     (impl_fit n v0 v1 v2 (x1 ++ [v10])).bind fun x2 =>
      if x2.2.1 then
       some ((x2.1.take x2.1.length), true, ())
      else
       impl_fit_p0 n l3 v0 v1 v2 v25 v26 (IntKind.i64.wrap (v27 + 1)) r3
    else
     none
   else
    none :=
 (goL_dn _ _ _ 4000 _ _).trans (by kernel_rfl)

/- impl.FitPegs -/
def impl_FitPegs_k0 : C :=
 .seq (.reg false [.V 27 (.bin .lss (.t 26) (.t 25))] [0, 1, 2, 24, 25, 26, 27] []) (.seq (.cond (.t 27) .skip (.exit 0)) (.seq (.block 1 (.seq (.reg false [.V 28 (.ia 1 (.t 24) (.t 26)), .V 29 (.ld none (.t 28)), .V 9 (.asg (.t 29))] [0, 1, 2, 9, 24, 25, 26] []) (.seq (.reg false [.V 30 (.mv (.t 9)), .V 31 (.call (.c (.fn 500 [])) [.t 30]), .V 32 (.un .not (.t 31))] [0, 1, 2, 24, 25, 26, 32] []) (.cond (.t 32) (.seq (.reg false [.W 6 (.asg (.c (.nils 1))), .V 7 (.asg (.c (.int .i64 2)))] [6, 7] [6, 10]) .ret) .skip)))) (.reg false [.V 33 (.bin .add (.t 26) (.c (.int .i64 1))), .V 26 (.mv (.t 33))] [0, 1, 2, 24, 25, 26] [])))
def impl_FitPegs_k1 : C :=
 .norm [0, 1, 2, 24, 25, 26] [] impl_FitPegs_k0
def impl_FitPegs_k2 : C :=
 .seq (.seq (.reg false [.V 34 (.mv (.t 1)), .V 35 (.len (.t 34)), .V 36 (.mv (.t 0)), .V 37 (.len (.t 36)), .V 38 (.bin .neq (.t 35) (.t 37))] [0, 1, 2, 38] []) (.cond (.t 38) (.seq (.reg false [.W 6 (.asg (.c (.nils 1))), .V 7 (.asg (.c (.int .i64 7)))] [6, 7] [6, 10]) .ret) .skip)) (.seq (.reg false [.V 40 (.mv (.t 0)), .V 41 (.mv (.t 1)), .V 42 (.mv (.t 2)), .W 43 (.call (.c (.fn 499 [])) [.t 40, .t 41, .t 42, .c (.nils 1)]), .V 39 (.mv (.t 43)), .V 44 (.ext (.t 39) 0), .V 45 (.ext (.t 39) 1), .W 10 (.asg (.t 44)), .V 11 (.asg (.t 45))] [10, 11] [10]) (.seq (.seq (.reg false [.V 46 (.mv (.t 11)), .V 47 (.un .not (.t 46))] [10, 47] [10]) (.cond (.t 47) (.seq (.reg false [.W 6 (.asg (.c (.nils 1))), .V 7 (.asg (.c (.int .i64 3)))] [6, 7] [6, 10]) .ret) .skip)) (.seq (.reg false [.V 48 (.mv (.t 10)), .W 6 (.asg (.t 48)), .V 7 (.asg (.c (.int .i64 0)))] [6, 7] [6, 10]) .ret)))
def impl_FitPegs_k3 : C :=
 .seq (.seq (.reg false [.V 24 (.mv (.t 1)), .V 25 (.len (.t 24)), .V 26 (.mv (.c (.int .i64 0)))] [0, 1, 2, 24, 25, 26] []) (.block 0 (.loop impl_FitPegs_k1))) impl_FitPegs_k2
def impl_FitPegs_ir : Fn := { np := 3, io := [], res := [.t 6, .t 7], own := [true, false], body :=
 (.seq (.reg false [.W 6 (.asg (.c (.nils 1))), .V 7 (.asg (.c (.int .i64 0)))] [0, 1, 2] []) (.seq (.seq (.reg false [.V 12 (.mv (.t 0)), .V 13 (.call (.c (.fn 468 [])) [.t 12]), .V 14 (.un .not (.t 13))] [0, 1, 2, 14] []) (.cond (.t 14) (.seq (.reg false [.W 6 (.asg (.c (.nils 1))), .V 7 (.asg (.c (.int .i64 1)))] [6, 7] [6, 10]) .ret) .skip)) (.seq (.seq (.reg false [.V 15 (.mv (.t 2)), .V 16 (.call (.c (.fn 501 [])) [.t 15]), .V 17 (.un .not (.t 16)), .V 18 (.mv (.t 17)), .G 19 (.mv (.t 1)) 3 false, .G 20 (.len (.t 19)) 3 false, .G 21 (.call (.c (.fn 21 [])) [.t 20, .c (.int .i64 8)]) 3 false, .G 22 (.un .not (.t 21)) 3 false, .V 23 (.pick (.t 18) (.c (.bool true)) (.t 22))] [0, 1, 2, 23] []) (.cond (.t 23) (.seq (.reg false [.W 6 (.asg (.c (.nils 1))), .V 7 (.asg (.c (.int .i64 2)))] [6, 7] [6, 10]) .ret) .skip)) (.norm [0, 1, 2] [] impl_FitPegs_k3)))) }
noncomputable def impl_FitPegs_D : List (Nat × Callee) := [(21, impl_few_c), (468, impl_ValidPegs_c), (499, impl_fit_c), (500, impl_isHole_c), (501, impl_isWay_c)]
def impl_FitPegs_H : List (Nat × ET) := [(6, (.one (.int .i64))), (10, (.one (.int .i64))), (12, T_Peg), (19, (.one (.int .i64))), (24, (.one (.int .i64))), (34, (.one (.int .i64))), (36, T_Peg), (40, T_Peg), (41, (.one (.int .i64))), (44, (.one (.int .i64))), (48, (.one (.int .i64)))]
noncomputable def impl_FitPegs_c : Callee := mkCallee impl_FitPegs_D impl_FitPegs_H impl_FitPegs_ir [.d (.one (.sl T_Peg)), .d (.one (.sl (.one (.int .i64)))), .d (.one (.int .i64))] [.tok (.one (.int .i64)), .d (.one (.int .i64))] []
noncomputable def impl_FitPegs (a0 : List T_Peg.ty) (a1 : List Int) (a2 : Int) : Option (List Int × Int) := impl_FitPegs_c.f (a0, a1, a2, ())
noncomputable def impl_FitPegs_p0  (v0 : List T_Peg.ty) (v1 : List Int) (v2 : Int) : Option (List Int × Int) :=
 goL impl_FitPegs_D impl_FitPegs_H (vleave impl_FitPegs_ir [.d (.one (.sl T_Peg)), .d (.one (.sl (.one (.int .i64)))), .d (.one (.int .i64))] [.tok (.one (.int .i64)), .d (.one (.int .i64))] [] []) [.c impl_FitPegs_k3]
  ⟨[(0, .sl T_Peg v0), (1, .sl (.one (.int .i64)) v1), (2, .int .i64 v2)], []⟩
noncomputable def impl_FitPegs_p1  (v0 : List T_Peg.ty) (v1 : List Int) (v2 : Int) (v24 : List Int) (v25 : Int) (v26 : Int) : Option (List Int × Int) :=
 goL impl_FitPegs_D impl_FitPegs_H (vleave impl_FitPegs_ir [.d (.one (.sl T_Peg)), .d (.one (.sl (.one (.int .i64)))), .d (.one (.int .i64))] [.tok (.one (.int .i64)), .d (.one (.int .i64))] [] []) [.c impl_FitPegs_k0, .l impl_FitPegs_k1, .e 0, .c impl_FitPegs_k2]
  ⟨[(0, .sl T_Peg v0), (1, .sl (.one (.int .i64)) v1), (2, .int .i64 v2), (24, .sl (.one (.int .i64)) v24), (25, .int .i64 v25), (26, .int .i64 v26)], []⟩
theorem impl_FitPegs_eq (a0 : List T_Peg.ty) (a1 : List Int) (a2 : Int) : impl_FitPegs a0 a1 a2 =
  (impl_ValidPegs a0).bind fun x1 =>
   if (!x1) then
    some ([], 1)
   else
    (impl_isWay a2).bind fun x2 =>
     if (!x2) then
      some ([], 2)
     else
      (impl_few (a1.length : Int) 8).bind fun x3 =>
       if (!x3) then
        some ([], 2)
       else
        impl_FitPegs_p0 a0 a1 a2 :=
 (mk_f _ _ _ _ _ _ _ 4000).trans (by kernel_rfl)
theorem impl_FitPegs_p0_eq  (v0 : List T_Peg.ty) (v1 : List Int) (v2 : Int) : impl_FitPegs_p0 v0 v1 v2 =
  impl_FitPegs_p1 v0 v1 v2 v1 (v1.length : Int) 0 :=
 (goL_dn _ _ _ 4000 _ _).trans (by kernel_rfl)
theorem impl_FitPegs_p1_eq  (v0 : List T_Peg.ty) (v1 : List Int) (v2 : Int) (v24 : List Int) (v25 : Int) (v26 : Int) : impl_FitPegs_p1 v0 v1 v2 v24 v25 v26 =
  if decide (v26 < v25) then
   if decide (0 ≤ v26) then
    (v24[v26.toNat]?).bind fun x1 =>
     (impl_isHole x1).bind fun x2 =>
      if (!x2) then
       some ([], 2)
      else
       impl_FitPegs_p1 v0 v1 v2 v24 v25 (IntKind.i64.wrap (v26 + 1))
   else
    none
  else
   if ((v1.length : Int) != (v0.length : Int)) then
    some ([], 7)
   else
    (impl_fit 1000 v0 v1 v2 []).bind fun x3 =>
     if (!x3.2.1) then
      some ([], 3)
     else
      some ((x3.1.take x3.1.length), 0) :=
 (goL_dn _ _ _ 4000 _ _).trans (by kernel_rfl)

/- laws.eqInt64S -/
def laws_eqInt64S_k0 : C :=
 .seq (.seq (.reg false [.V 11 (.mv (.t 5)), .V 12 (.mv (.t 0)), .V 13 (.len (.t 12)), .V 14 (.bin .lss (.t 11) (.t 13))] [0, 1, 5, 14] []) (.cond (.t 14) .skip (.exit 0))) (.seq (.block 1 (.seq (.reg true [.V 17 (.mv (.t 0)), .V 18 (.mv (.t 5)), .V 19 (.ia 1 (.t 17) (.t 18)), .V 20 (.ld none (.t 19)), .V 21 (.mv (.t 1)), .V 22 (.mv (.t 5)), .V 23 (.ia 1 (.t 21) (.t 22)), .V 24 (.ld none (.t 23)), .V 25 (.bin .neq (.t 20) (.t 24))] [0, 1, 5, 25] []) (.cond (.t 25) (.seq (.reg false [.V 4 (.asg (.c (.bool false)))] [4] []) .ret) .skip))) (.reg false [.V 15 (.mv (.t 5)), .V 16 (.bin .add (.t 15) (.c (.int .i64 1))), .V 5 (.asg (.t 16))] [0, 1, 5] []))
def laws_eqInt64S_k1 : C :=
 .norm [0, 1, 5] [] laws_eqInt64S_k0
def laws_eqInt64S_k2 : C :=
 .seq (.reg false [.V 4 (.asg (.c (.bool true)))] [4] []) .ret
def laws_eqInt64S_ir : Fn := { np := 2, io := [], res := [.t 4], own := [false], body :=
 (.seq (.reg false [.V 4 (.asg (.c (.bool false)))] [0, 1] []) (.seq (.seq (.reg false [.V 6 (.mv (.t 0)), .V 7 (.len (.t 6)), .V 8 (.mv (.t 1)), .V 9 (.len (.t 8)), .V 10 (.bin .neq (.t 7) (.t 9))] [0, 1, 10] []) (.cond (.t 10) (.seq (.reg false [.V 4 (.asg (.c (.bool false)))] [4] []) .ret) .skip)) (.seq (.seq (.reg false [.V 5 (.asg (.c (.int .i64 0)))] [0, 1, 5] []) (.block 0 (.loop laws_eqInt64S_k1))) laws_eqInt64S_k2))) }
noncomputable def laws_eqInt64S_D : List (Nat × Callee) := []
def laws_eqInt64S_H : List (Nat × ET) := [(6, (.one (.int .i64))), (8, (.one (.int .i64))), (12, (.one (.int .i64))), (17, (.one (.int .i64))), (21, (.one (.int .i64)))]
noncomputable def laws_eqInt64S_c : Callee := mkCallee laws_eqInt64S_D laws_eqInt64S_H laws_eqInt64S_ir [.d (.one (.sl (.one (.int .i64)))), .d (.one (.sl (.one (.int .i64))))] [.d (.one .bool)] []
noncomputable def laws_eqInt64S (a0 : List Int) (a1 : List Int) : Option (Bool) := laws_eqInt64S_c.f (a0, a1, ())
noncomputable def laws_eqInt64S_p0  (v0 : List Int) (v1 : List Int) (v5 : Int) : Option (Bool) :=
 goL laws_eqInt64S_D laws_eqInt64S_H (vleave laws_eqInt64S_ir [.d (.one (.sl (.one (.int .i64)))), .d (.one (.sl (.one (.int .i64))))] [.d (.one .bool)] [] []) [.c laws_eqInt64S_k0, .l laws_eqInt64S_k1, .e 0, .c laws_eqInt64S_k2]
  ⟨[(0, .sl (.one (.int .i64)) v0), (1, .sl (.one (.int .i64)) v1), (5, .int .i64 v5)], []⟩
theorem laws_eqInt64S_eq (a0 : List Int) (a1 : List Int) : laws_eqInt64S a0 a1 =
  if ((a0.length : Int) != (a1.length : Int)) then
   some false
  else
   laws_eqInt64S_p0 a0 a1 0 :=
 (mk_f _ _ _ _ _ _ _ 4000).trans (by kernel_rfl)
theorem laws_eqInt64S_p0_eq  (v0 : List Int) (v1 : List Int) (v5 : Int) : laws_eqInt64S_p0 v0 v1 v5 =
  if decide (v5 < (v0.length : Int)) then
   if decide (0 ≤ v5) then
    (v0[v5.toNat]?).bind fun x1 =>
     if decide (0 ≤ v5) then
      (v1[v5.toNat]?).bind fun x2 =>
       if (x1 != x2) then
        some false
       else
        laws_eqInt64S_p0 v0 v1 (IntKind.i64.wrap (v5 + 1))
     else
      none
   else
    none
  else
   some true :=
 (goL_dn _ _ _ 4000 _ _).trans (by kernel_rfl)

/- laws.eqPeg -/
def laws_eqPeg_ir : Fn := { np := 2, io := [], res := [.t 4], own := [false], body :=
 (.seq (.reg false [.W 2 (.box 4 (.t 0)), .W 3 (.box 4 (.t 1)), .V 4 (.asg (.c (.bool false)))] [2, 3] [2, 3]) (.seq (.seq (.reg false [.V 5 (.fa 0 (.t 2)), .V 6 (.ld none (.t 5)), .V 7 (.fa 0 (.t 3)), .V 8 (.ld none (.t 7)), .V 9 (.bin .neq (.t 6) (.t 8))] [2, 3, 9] [2, 3]) (.cond (.t 9) (.seq (.reg false [.V 4 (.asg (.c (.bool false)))] [4] []) .ret) .skip)) (.seq (.seq (.reg false [.V 10 (.fa 1 (.t 2)), .V 11 (.ld none (.t 10)), .V 12 (.fa 1 (.t 3)), .V 13 (.ld none (.t 12)), .V 14 (.bin .neq (.t 11) (.t 13))] [2, 3, 14] [2, 3]) (.cond (.t 14) (.seq (.reg false [.V 4 (.asg (.c (.bool false)))] [4] []) .ret) .skip)) (.seq (.seq (.reg false [.V 15 (.fa 2 (.t 2)), .V 16 (.ld none (.t 15)), .V 17 (.fa 2 (.t 3)), .V 18 (.ld none (.t 17)), .V 19 (.bin .neq (.t 16) (.t 18))] [2, 3, 19] [2, 3]) (.cond (.t 19) (.seq (.reg false [.V 4 (.asg (.c (.bool false)))] [4] []) .ret) .skip)) (.seq (.seq (.reg false [.V 20 (.fa 3 (.t 2)), .V 21 (.ld none (.t 20)), .V 22 (.fa 3 (.t 3)), .V 23 (.ld none (.t 22)), .V 24 (.bin .neq (.t 21) (.t 23))] [24] []) (.cond (.t 24) (.seq (.reg false [.V 4 (.asg (.c (.bool false)))] [4] []) .ret) .skip)) (.seq (.reg false [.V 4 (.asg (.c (.bool true)))] [4] []) .ret)))))) }
noncomputable def laws_eqPeg_D : List (Nat × Callee) := []
def laws_eqPeg_H : List (Nat × ET) := []
noncomputable def laws_eqPeg_c : Callee := mkCallee laws_eqPeg_D laws_eqPeg_H laws_eqPeg_ir [.d T_Peg, .d T_Peg] [.d (.one .bool)] []
noncomputable def laws_eqPeg (a0 : T_Peg.ty) (a1 : T_Peg.ty) : Option (Bool) := laws_eqPeg_c.f (a0, a1, ())
theorem laws_eqPeg_eq (a0 : T_Peg.ty) (a1 : T_Peg.ty) : laws_eqPeg a0 a1 =
  if (!(a0.1 == a1.1)) then
   some false
  else
   if (a0.2.1 != a1.2.1) then
    some false
   else
    if (a0.2.2.1 != a1.2.2.1) then
     some false
    else
     if (a0.2.2.2.1 != a1.2.2.2.1) then
      some false
     else
      some true :=
 (mk_f _ _ _ _ _ _ _ 4000).trans (by kernel_rfl)

/- laws.eqPegS -/
def laws_eqPegS_k0 : C :=
 .seq (.seq (.reg false [.V 11 (.mv (.t 5)), .V 12 (.mv (.t 0)), .V 13 (.len (.t 12)), .V 14 (.bin .lss (.t 11) (.t 13))] [0, 1, 5, 14] []) (.cond (.t 14) .skip (.exit 0))) (.seq (.block 1 (.seq (.reg true [.V 17 (.mv (.t 0)), .V 18 (.mv (.t 5)), .V 19 (.ia 4 (.t 17) (.t 18)), .V 20 (.ld (some 4) (.t 19)), .V 21 (.mv (.t 1)), .V 22 (.mv (.t 5)), .V 23 (.ia 4 (.t 21) (.t 22)), .V 24 (.ld (some 4) (.t 23)), .V 25 (.call (.c (.fn 502 [])) [.t 20, .t 24]), .V 26 (.un .not (.t 25))] [0, 1, 5, 26] []) (.cond (.t 26) (.seq (.reg false [.V 4 (.asg (.c (.bool false)))] [4] []) .ret) .skip))) (.reg false [.V 15 (.mv (.t 5)), .V 16 (.bin .add (.t 15) (.c (.int .i64 1))), .V 5 (.asg (.t 16))] [0, 1, 5] []))
def laws_eqPegS_k1 : C :=
 .norm [0, 1, 5] [] laws_eqPegS_k0
def laws_eqPegS_k2 : C :=
 .seq (.reg false [.V 4 (.asg (.c (.bool true)))] [4] []) .ret
def laws_eqPegS_ir : Fn := { np := 2, io := [], res := [.t 4], own := [false], body :=
 (.seq (.reg false [.V 4 (.asg (.c (.bool false)))] [0, 1] []) (.seq (.seq (.reg false [.V 6 (.mv (.t 0)), .V 7 (.len (.t 6)), .V 8 (.mv (.t 1)), .V 9 (.len (.t 8)), .V 10 (.bin .neq (.t 7) (.t 9))] [0, 1, 10] []) (.cond (.t 10) (.seq (.reg false [.V 4 (.asg (.c (.bool false)))] [4] []) .ret) .skip)) (.seq (.seq (.reg false [.V 5 (.asg (.c (.int .i64 0)))] [0, 1, 5] []) (.block 0 (.loop laws_eqPegS_k1))) laws_eqPegS_k2))) }
noncomputable def laws_eqPegS_D : List (Nat × Callee) := [(502, laws_eqPeg_c)]
def laws_eqPegS_H : List (Nat × ET) := [(6, T_Peg), (8, T_Peg), (12, T_Peg), (17, T_Peg), (21, T_Peg)]
noncomputable def laws_eqPegS_c : Callee := mkCallee laws_eqPegS_D laws_eqPegS_H laws_eqPegS_ir [.d (.one (.sl T_Peg)), .d (.one (.sl T_Peg))] [.d (.one .bool)] []
noncomputable def laws_eqPegS (a0 : List T_Peg.ty) (a1 : List T_Peg.ty) : Option (Bool) := laws_eqPegS_c.f (a0, a1, ())
noncomputable def laws_eqPegS_p0  (v0 : List T_Peg.ty) (v1 : List T_Peg.ty) (v5 : Int) : Option (Bool) :=
 goL laws_eqPegS_D laws_eqPegS_H (vleave laws_eqPegS_ir [.d (.one (.sl T_Peg)), .d (.one (.sl T_Peg))] [.d (.one .bool)] [] []) [.c laws_eqPegS_k0, .l laws_eqPegS_k1, .e 0, .c laws_eqPegS_k2]
  ⟨[(0, .sl T_Peg v0), (1, .sl T_Peg v1), (5, .int .i64 v5)], []⟩
theorem laws_eqPegS_eq (a0 : List T_Peg.ty) (a1 : List T_Peg.ty) : laws_eqPegS a0 a1 =
  if ((a0.length : Int) != (a1.length : Int)) then
   some false
  else
   laws_eqPegS_p0 a0 a1 0 :=
 (mk_f _ _ _ _ _ _ _ 4000).trans (by kernel_rfl)
theorem laws_eqPegS_p0_eq  (v0 : List T_Peg.ty) (v1 : List T_Peg.ty) (v5 : Int) : laws_eqPegS_p0 v0 v1 v5 =
  if decide (v5 < (v0.length : Int)) then
   if decide (0 ≤ v5) then
    (v0[v5.toNat]?).bind fun x1 =>
     if decide (0 ≤ v5) then
      (v1[v5.toNat]?).bind fun x2 =>
       (laws_eqPeg x1 x2).bind fun x3 =>
        if (!x3) then
         some false
        else
         laws_eqPegS_p0 v0 v1 (IntKind.i64.wrap (v5 + 1))
     else
      none
   else
    none
  else
   some true :=
 (goL_dn _ _ _ 4000 _ _).trans (by kernel_rfl)

/- laws.markText -/
def laws_markText_k0 : C :=
 .seq (.seq (.reg false [.V 6 (.mv (.t 0)), .V 7 (.bin .gtr (.t 6) (.c (.int .i64 0)))] [0, 3, 7] []) (.cond (.t 7) .skip (.exit 0))) (.block 1 (.seq (.reg false [.V 8 (.mv (.t 0)), .V 9 (.bin .rem (.t 8) (.c (.int .i64 10))), .V 10 (.bin .add (.c (.int .i64 48)) (.t 9)), .V 11 (.conv (.int .u8) (.t 10)), .V 12 (.bsl 1 (.int .u8 0) 1 [(0, .t 11)]), .V 13 (.conv .bytesStr (.t 12)), .V 14 (.mv (.t 3)), .V 15 (.bin .add (.t 13) (.t 14)), .V 3 (.asg (.t 15))] [0, 3] []) (.reg false [.V 16 (.mv (.t 0)), .V 17 (.bin .quo (.t 16) (.c (.int .i64 10))), .V 0 (.asg (.t 17))] [0, 3] [])))
def laws_markText_k1 : C :=
 .norm [0, 3] [] laws_markText_k0
def laws_markText_k2 : C :=
 .seq (.reg false [.V 18 (.mv (.t 3)), .V 19 (.bin .add (.c (.str [109])) (.t 18)), .V 2 (.asg (.t 19))] [2] []) .ret
def laws_markText_ir : Fn := { np := 1, io := [], res := [.t 2], own := [false], body :=
 (.seq (.reg false [.V 2 (.asg (.c (.str [])))] [0] []) (.seq (.seq (.reg false [.V 4 (.mv (.t 0)), .V 5 (.bin .leq (.t 4) (.c (.int .i64 0)))] [0, 5] []) (.cond (.t 5) (.seq (.reg false [.V 2 (.asg (.c (.str [109, 48])))] [2] []) .ret) .skip)) (.seq (.reg false [.V 3 (.asg (.c (.str [])))] [0, 3] []) (.seq (.block 0 (.loop laws_markText_k1)) laws_markText_k2)))) }
noncomputable def laws_markText_D : List (Nat × Callee) := []
def laws_markText_H : List (Nat × ET) := [(12, (.one (.int .u8)))]
noncomputable def laws_markText_c : Callee := mkCallee laws_markText_D laws_markText_H laws_markText_ir [.d (.one (.int .i64))] [.d (.one .str)] []
noncomputable def laws_markText (a0 : Int) : Option (List UInt8) := laws_markText_c.f (a0, ())
noncomputable def laws_markText_p0  (v0 : Int) (v3 : List UInt8) : Option (List UInt8) :=
 goL laws_markText_D laws_markText_H (vleave laws_markText_ir [.d (.one (.int .i64))] [.d (.one .str)] [] []) [.c laws_markText_k0, .l laws_markText_k1, .e 0, .c laws_markText_k2]
  ⟨[(0, .int .i64 v0), (3, .str v3)], []⟩
theorem laws_markText_eq (a0 : Int) : laws_markText a0 =
  if decide (a0 ≤ 0) then
   some [109, 48]
  else
   laws_markText_p0 a0 [] :=
 (mk_f _ _ _ _ _ _ _ 4000).trans (by kernel_rfl)
theorem laws_markText_p0_eq  (v0 : Int) (v3 : List UInt8) : laws_markText_p0 v0 v3 =
  if decide (v0 > 0) then
   if decide (([IntKind.u8.wrap (IntKind.i64.wrap (48 + (v0.tmod 10)))].map vu8).length + v3.length ≤ strMax) then
    laws_markText_p0 (IntKind.i64.wrap (v0.tdiv 10)) (([IntKind.u8.wrap (IntKind.i64.wrap (48 + (v0.tmod 10)))].map vu8) ++ v3)
   else
    none
  else
   if decide ([109].length + v3.length ≤ strMax) then
    some ([109] ++ v3)
   else
    none :=
 (goL_dn _ _ _ 4000 _ _).trans (by kernel_rfl)

/- laws.markPegS -/
def laws_markPegS_k0 : C :=
 .seq (.seq (.reg false [.V 6 (.mv (.t 5)), .V 7 (.mv (.t 0)), .V 8 (.len (.t 7)), .V 9 (.bin .lss (.t 6) (.t 8))] [0, 1, 5, 9] [0]) (.cond (.t 9) .skip (.exit 0))) (.seq (.block 1 (.seq (.reg false [.V 12 (.mv (.t 0)), .V 13 (.mv (.t 5)), .V 14 (.mv (.t 1)), .V 15 (.call (.c (.fn 40 [])) [.t 14]), .V 16 (.ia 4 (.t 12) (.t 13)), .V 17 (.fa 0 (.t 16)), ⟨none, true, .sto 1 (.t 17) (.t 15), none, false, []⟩] [0, 1, 5] [0]) (.seq (.reg false [.V 18 (.mv (.t 1)), .V 19 (.bin .add (.t 18) (.c (.int .i64 1))), .V 1 (.asg (.t 19))] [0, 1, 5] [0]) (.seq (.reg false [.V 20 (.mv (.t 0)), .V 21 (.mv (.t 5)), .V 22 (.mv (.t 1)), .V 23 (.ia 4 (.t 20) (.t 21)), .V 24 (.fa 1 (.t 23)), ⟨none, true, .sto 1 (.t 24) (.t 22), none, false, []⟩] [0, 1, 5] [0]) (.seq (.reg false [.V 25 (.mv (.t 1)), .V 26 (.bin .add (.t 25) (.c (.int .i64 1))), .V 1 (.asg (.t 26))] [0, 1, 5] [0]) (.seq (.reg false [.V 27 (.mv (.t 0)), .V 28 (.mv (.t 5)), .V 29 (.mv (.t 1)), .V 30 (.ia 4 (.t 27) (.t 28)), .V 31 (.fa 2 (.t 30)), ⟨none, true, .sto 1 (.t 31) (.t 29), none, false, []⟩] [0, 1, 5] [0]) (.seq (.reg false [.V 32 (.mv (.t 1)), .V 33 (.bin .add (.t 32) (.c (.int .i64 1))), .V 1 (.asg (.t 33))] [0, 1, 5] [0]) (.seq (.reg false [.V 34 (.mv (.t 0)), .V 35 (.mv (.t 5)), .V 36 (.mv (.t 1)), .V 37 (.ia 4 (.t 34) (.t 35)), .V 38 (.fa 3 (.t 37)), ⟨none, true, .sto 1 (.t 38) (.t 36), none, false, []⟩] [0, 1, 5] [0]) (.reg false [.V 39 (.mv (.t 1)), .V 40 (.bin .add (.t 39) (.c (.int .i64 1))), .V 1 (.asg (.t 40))] [0, 1, 5] [0]))))))))) (.reg false [.V 10 (.mv (.t 5)), .V 11 (.bin .add (.t 10) (.c (.int .i64 1))), .V 5 (.asg (.t 11))] [0, 1, 5] [0]))
def laws_markPegS_k1 : C :=
 .norm [0, 1, 5] [0] laws_markPegS_k0
def laws_markPegS_k2 : C :=
 .seq (.reg false [.V 41 (.mv (.t 1)), .V 4 (.asg (.t 41))] [0, 4] [0]) .ret
def laws_markPegS_ir : Fn := { np := 2, io := [true, false], res := [.t 4], own := [false], body :=
 (.seq (.reg false [.V 4 (.asg (.c (.int .i64 0)))] [0, 1] [0]) (.seq (.seq (.reg false [.V 5 (.asg (.c (.int .i64 0)))] [0, 1, 5] [0]) (.block 0 (.loop laws_markPegS_k1))) laws_markPegS_k2)) }
noncomputable def laws_markPegS_D : List (Nat × Callee) := [(40, laws_markText_c)]
def laws_markPegS_H : List (Nat × ET) := [(7, T_Peg), (12, T_Peg), (20, T_Peg), (27, T_Peg), (34, T_Peg)]
noncomputable def laws_markPegS_c : Callee := mkCallee laws_markPegS_D laws_markPegS_H laws_markPegS_ir [.ios T_Peg, .d (.one (.int .i64))] [.d (.one (.int .i64))] [.ios T_Peg]
noncomputable def laws_markPegS (a0 : List T_Peg.ty) (a1 : Int) : Option (Int × List T_Peg.ty) := laws_markPegS_c.f (a0, a1, ())
noncomputable def laws_markPegS_p0 (l0 : Nat) (v0n : Nat) (v1 : Int) (v5 : Int) (r0 : List T_Peg.ty) : Option (Int × List T_Peg.ty) :=
 goL laws_markPegS_D laws_markPegS_H (vleave laws_markPegS_ir [.ios T_Peg, .d (.one (.int .i64))] [.d (.one (.int .i64))] [.ios T_Peg] [l0]) [.c laws_markPegS_k0, .l laws_markPegS_k1, .e 0, .c laws_markPegS_k2]
  ⟨[(0, .view 0 0 v0n), (1, .int .i64 v1), (5, .int .i64 v5)], [(0, some (.sl T_Peg r0))]⟩
theorem laws_markPegS_eq (a0 : List T_Peg.ty) (a1 : Int) : laws_markPegS a0 a1 =
  laws_markPegS_p0 a0.length a0.length a1 0 a0 :=
 (mk_f _ _ _ _ _ _ _ 4000).trans (by kernel_rfl)
theorem laws_markPegS_p0_eq (l0 : Nat) (v0n : Nat) (v1 : Int) (v5 : Int) (r0 : List T_Peg.ty) : laws_markPegS_p0 l0 v0n v1 v5 r0 =
  if decide (v5 < (v0n : Int)) then
   (laws_markText v1).bind fun x1 =>
    if decide (0 ≤ v5) && decide (v5 < (v0n : Int)) then
     (r0[v5.toNat]?).bind fun x2 =>
      if decide (0 ≤ v5) && decide (v5 < (v0n : Int)) then
       ((r0.set v5.toNat (x1, x2.2.1, x2.2.2.1, x2.2.2.2.1, ()))[v5.toNat]?).bind fun x3 =>
        if decide (0 ≤ v5) && decide (v5 < (v0n : Int)) then
         (((r0.set v5.toNat (x1, x2.2.1, x2.2.2.1, x2.2.2.2.1, ())).set v5.toNat (x3.1, IntKind.i64.wrap (v1 + 1), x3.2.2.1, x3.2.2.2.1, ()))[v5.toNat]?).bind fun x4 =>
          if decide (0 ≤ v5) && decide (v5 < (v0n : Int)) then
           ((((r0.set v5.toNat (x1, x2.2.1, x2.2.2.1, x2.2.2.2.1, ())).set v5.toNat (x3.1, IntKind.i64.wrap (v1 + 1), x3.2.2.1, x3.2.2.2.1, ())).set v5.toNat (x4.1, x4.2.1, IntKind.i64.wrap ((IntKind.i64.wrap (v1 + 1)) + 1), x4.2.2.2.1, ()))[v5.toNat]?).bind fun x5 =>
            laws_markPegS_p0 l0 v0n (IntKind.i64.wrap ((IntKind.i64.wrap ((IntKind.i64.wrap ((IntKind.i64.wrap (v1 + 1)) + 1)) + 1)) + 1)) (IntKind.i64.wrap (v5 + 1)) ((((r0.set v5.toNat (x1, x2.2.1, x2.2.2.1, x2.2.2.2.1, ())).set v5.toNat (x3.1, IntKind.i64.wrap (v1 + 1), x3.2.2.1, x3.2.2.2.1, ())).set v5.toNat (x4.1, x4.2.1, IntKind.i64.wrap ((IntKind.i64.wrap (v1 + 1)) + 1), x4.2.2.2.1, ())).set v5.toNat (x5.1, x5.2.1, x5.2.2.1, IntKind.i64.wrap ((IntKind.i64.wrap ((IntKind.i64.wrap (v1 + 1)) + 1)) + 1), ()))
          else
           none
        else
         none
      else
       none
    else
     none
  else
   if decide (r0.length = l0) then
    some (v1, r0)
   else
    none :=
 (goL_dn _ _ _ 4000 _ _).trans (by kernel_rfl)

/- laws.markInt64S -/
def laws_markInt64S_k0 : C :=
 .seq (.seq (.reg false [.V 6 (.mv (.t 5)), .V 7 (.mv (.t 0)), .V 8 (.len (.t 7)), .V 9 (.bin .lss (.t 6) (.t 8))] [0, 1, 5, 9] [0]) (.cond (.t 9) .skip (.exit 0))) (.seq (.block 1 (.seq (.reg false [.V 12 (.mv (.t 0)), .V 13 (.mv (.t 5)), .V 14 (.mv (.t 1)), .V 15 (.ia 1 (.t 12) (.t 13)), ⟨none, true, .sto 1 (.t 15) (.t 14), none, false, []⟩] [0, 1, 5] [0]) (.reg false [.V 16 (.mv (.t 1)), .V 17 (.bin .add (.t 16) (.c (.int .i64 1))), .V 1 (.asg (.t 17))] [0, 1, 5] [0]))) (.reg false [.V 10 (.mv (.t 5)), .V 11 (.bin .add (.t 10) (.c (.int .i64 1))), .V 5 (.asg (.t 11))] [0, 1, 5] [0]))
def laws_markInt64S_k1 : C :=
 .norm [0, 1, 5] [0] laws_markInt64S_k0
def laws_markInt64S_k2 : C :=
 .seq (.reg false [.V 18 (.mv (.t 1)), .V 4 (.asg (.t 18))] [0, 4] [0]) .ret
def laws_markInt64S_ir : Fn := { np := 2, io := [true, false], res := [.t 4], own := [false], body :=
 (.seq (.reg false [.V 4 (.asg (.c (.int .i64 0)))] [0, 1] [0]) (.seq (.seq (.reg false [.V 5 (.asg (.c (.int .i64 0)))] [0, 1, 5] [0]) (.block 0 (.loop laws_markInt64S_k1))) laws_markInt64S_k2)) }
noncomputable def laws_markInt64S_D : List (Nat × Callee) := []
def laws_markInt64S_H : List (Nat × ET) := [(7, (.one (.int .i64))), (12, (.one (.int .i64)))]
noncomputable def laws_markInt64S_c : Callee := mkCallee laws_markInt64S_D laws_markInt64S_H laws_markInt64S_ir [.ios (.one (.int .i64)), .d (.one (.int .i64))] [.d (.one (.int .i64))] [.ios (.one (.int .i64))]
noncomputable def laws_markInt64S (a0 : List Int) (a1 : Int) : Option (Int × List Int) := laws_markInt64S_c.f (a0, a1, ())
noncomputable def laws_markInt64S_p0 (l0 : Nat) (v0n : Nat) (v1 : Int) (v5 : Int) (r0 : List Int) : Option (Int × List Int) :=
 goL laws_markInt64S_D laws_markInt64S_H (vleave laws_markInt64S_ir [.ios (.one (.int .i64)), .d (.one (.int .i64))] [.d (.one (.int .i64))] [.ios (.one (.int .i64))] [l0]) [.c laws_markInt64S_k0, .l laws_markInt64S_k1, .e 0, .c laws_markInt64S_k2]
  ⟨[(0, .view 0 0 v0n), (1, .int .i64 v1), (5, .int .i64 v5)], [(0, some (.sl (.one (.int .i64)) r0))]⟩
theorem laws_markInt64S_eq (a0 : List Int) (a1 : Int) : laws_markInt64S a0 a1 =
  laws_markInt64S_p0 a0.length a0.length a1 0 a0 :=
 (mk_f _ _ _ _ _ _ _ 4000).trans (by kernel_rfl)
theorem laws_markInt64S_p0_eq (l0 : Nat) (v0n : Nat) (v1 : Int) (v5 : Int) (r0 : List Int) : laws_markInt64S_p0 l0 v0n v1 v5 r0 =
  if decide (v5 < (v0n : Int)) then
   if decide (0 ≤ v5) && decide (v5 < (v0n : Int)) then
    (r0[v5.toNat]?).bind fun x1 =>
     laws_markInt64S_p0 l0 v0n (IntKind.i64.wrap (v1 + 1)) (IntKind.i64.wrap (v5 + 1)) (r0.set v5.toNat v1)
   else
    none
  else
   if decide (r0.length = l0) then
    some (v1, r0)
   else
    none :=
 (goL_dn _ _ _ 4000 _ _).trans (by kernel_rfl)

/- laws.heldInt64S -/
def laws_heldInt64S_k0 : C :=
 .seq (.seq (.reg false [.V 6 (.mv (.t 5)), .V 7 (.mv (.t 0)), .V 8 (.len (.t 7)), .V 9 (.bin .lss (.t 6) (.t 8))] [0, 1, 5, 9] []) (.cond (.t 9) .skip (.exit 0))) (.seq (.block 1 (.seq (.seq (.reg false [.V 12 (.mv (.t 0)), .V 13 (.mv (.t 5)), .V 14 (.ia 1 (.t 12) (.t 13)), .V 15 (.ld none (.t 14)), .V 16 (.mv (.t 1)), .V 17 (.bin .neq (.t 15) (.t 16))] [0, 1, 5, 17] []) (.cond (.t 17) (.seq (.reg false [.V 4 (.asg (.c (.int .i64 (-1))))] [4] []) .ret) .skip)) (.reg false [.V 18 (.mv (.t 1)), .V 19 (.bin .add (.t 18) (.c (.int .i64 1))), .V 1 (.asg (.t 19))] [0, 1, 5] []))) (.reg false [.V 10 (.mv (.t 5)), .V 11 (.bin .add (.t 10) (.c (.int .i64 1))), .V 5 (.asg (.t 11))] [0, 1, 5] []))
def laws_heldInt64S_k1 : C :=
 .norm [0, 1, 5] [] laws_heldInt64S_k0
def laws_heldInt64S_k2 : C :=
 .seq (.reg false [.V 20 (.mv (.t 1)), .V 4 (.asg (.t 20))] [4] []) .ret
def laws_heldInt64S_ir : Fn := { np := 2, io := [], res := [.t 4], own := [false], body :=
 (.seq (.reg false [.V 4 (.asg (.c (.int .i64 0)))] [0, 1] []) (.seq (.seq (.reg false [.V 5 (.asg (.c (.int .i64 0)))] [0, 1, 5] []) (.block 0 (.loop laws_heldInt64S_k1))) laws_heldInt64S_k2)) }
noncomputable def laws_heldInt64S_D : List (Nat × Callee) := []
def laws_heldInt64S_H : List (Nat × ET) := [(7, (.one (.int .i64))), (12, (.one (.int .i64)))]
noncomputable def laws_heldInt64S_c : Callee := mkCallee laws_heldInt64S_D laws_heldInt64S_H laws_heldInt64S_ir [.d (.one (.sl (.one (.int .i64)))), .d (.one (.int .i64))] [.d (.one (.int .i64))] []
noncomputable def laws_heldInt64S (a0 : List Int) (a1 : Int) : Option (Int) := laws_heldInt64S_c.f (a0, a1, ())
noncomputable def laws_heldInt64S_p0  (v0 : List Int) (v1 : Int) (v5 : Int) : Option (Int) :=
 goL laws_heldInt64S_D laws_heldInt64S_H (vleave laws_heldInt64S_ir [.d (.one (.sl (.one (.int .i64)))), .d (.one (.int .i64))] [.d (.one (.int .i64))] [] []) [.c laws_heldInt64S_k0, .l laws_heldInt64S_k1, .e 0, .c laws_heldInt64S_k2]
  ⟨[(0, .sl (.one (.int .i64)) v0), (1, .int .i64 v1), (5, .int .i64 v5)], []⟩
theorem laws_heldInt64S_eq (a0 : List Int) (a1 : Int) : laws_heldInt64S a0 a1 =
  laws_heldInt64S_p0 a0 a1 0 :=
 (mk_f _ _ _ _ _ _ _ 4000).trans (by kernel_rfl)
theorem laws_heldInt64S_p0_eq  (v0 : List Int) (v1 : Int) (v5 : Int) : laws_heldInt64S_p0 v0 v1 v5 =
  if decide (v5 < (v0.length : Int)) then
   if decide (0 ≤ v5) then
    (v0[v5.toNat]?).bind fun x1 =>
     if (x1 != v1) then
      some (-1)
     else
      laws_heldInt64S_p0 v0 (IntKind.i64.wrap (v1 + 1)) (IntKind.i64.wrap (v5 + 1))
   else
    none
  else
   some v1 :=
 (goL_dn _ _ _ 4000 _ _).trans (by kernel_rfl)

/- laws.FnExactFitPegs -/
def laws_FnExactFitPegs_k0 : C :=
 .seq (.reg false [.V 16 (.asg (.c (.int .i64 1)))] [12, 15, 16] [12]) (.seq (.reg false [.V 114 (.mv (.t 12)), .V 115 (.mv (.t 16)), .V 116 (.call (.c (.fn 41 [])) [.t 114, .t 115]), .V 16 (.asg (.t 116))] [15, 16] []) (.seq (.seq (.reg false [.V 117 (.mv (.t 16)), .V 118 (.bin .lss (.t 117) (.c (.int .i64 0)))] [15, 16, 118] []) (.cond (.t 118) (.seq (.reg false [.V 6 (.asg (.c (.bool false)))] [6] []) .ret) .skip)) (.seq (.seq (.reg false [.V 119 (.mv (.t 16)), .V 120 (.mv (.t 15)), .V 121 (.bin .neq (.t 119) (.t 120))] [121] []) (.cond (.t 121) (.seq (.reg false [.V 6 (.asg (.c (.bool false)))] [6] []) .ret) .skip)) (.seq (.reg false [.V 6 (.asg (.c (.bool true)))] [6] []) .ret))))
def laws_FnExactFitPegs_k1 : C :=
 .seq (.reg false [.V 15 (.asg (.c (.int .i64 1)))] [0, 1, 2, 8, 9, 12, 15] [8, 12]) (.seq (.reg false [.V 85 (.mv (.t 12)), .V 86 (.mv (.t 15)), .W 87 (.call (.c (.fn 45 [])) [.t 85, .t 86]), .V 15 (.asg (.t 87))] [0, 1, 2, 8, 9, 12, 15] [8, 12]) (.seq (.reg false [.V 16 (.asg (.c (.int .i64 1)))] [0, 1, 2, 8, 9, 12, 15, 16] [8, 12]) (.seq (.reg false [.V 88 (.mv (.t 12)), .V 89 (.mv (.t 16)), .V 90 (.call (.c (.fn 41 [])) [.t 88, .t 89]), .V 16 (.asg (.t 90))] [0, 1, 2, 8, 9, 12, 15, 16] [8, 12]) (.seq (.seq (.reg false [.V 91 (.mv (.t 16)), .V 92 (.bin .lss (.t 91) (.c (.int .i64 0)))] [0, 1, 2, 8, 9, 12, 15, 16, 92] [8, 12]) (.cond (.t 92) (.seq (.reg false [.V 6 (.asg (.c (.bool false)))] [6] []) .ret) .skip)) (.seq (.seq (.reg false [.V 93 (.mv (.t 16)), .V 94 (.mv (.t 15)), .V 95 (.bin .neq (.t 93) (.t 94))] [0, 1, 2, 8, 9, 12, 15, 95] [8, 12]) (.cond (.t 95) (.seq (.reg false [.V 6 (.asg (.c (.bool false)))] [6] []) .ret) .skip)) (.seq (.reg false [.V 97 (.mv (.t 0)), .V 98 (.call (.c (.fn 120 [])) [.t 97]), .V 99 (.mv (.t 1)), .V 100 (.call (.c (.fn 121 [])) [.t 99]), .V 101 (.mv (.t 2)), .V 102 (.call (.c (.fn 122 [])) [.t 98, .t 100, .t 101]), .V 96 (.mv (.t 102)), .V 103 (.ext (.t 96) 0), .V 104 (.ext (.t 96) 1), .W 17 (.asg (.t 103)), .V 18 (.asg (.t 104))] [8, 9, 12, 15, 17, 18] [8, 12, 17]) (.seq (.seq (.reg false [.V 105 (.mv (.t 17)), .V 106 (.mv (.t 8)), .V 107 (.call (.c (.fn 42 [])) [.t 105, .t 106]), .V 108 (.un .not (.t 107)), .V 109 (.mv (.t 108)), .G 110 (.mv (.t 18)) 4 false, .G 111 (.mv (.t 9)) 4 false, .G 112 (.bin .neq (.t 110) (.t 111)) 4 false, .V 113 (.pick (.t 109) (.c (.bool true)) (.t 112))] [12, 15, 113] [12]) (.cond (.t 113) (.seq (.reg false [.V 6 (.asg (.c (.bool false)))] [6] []) .ret) .skip)) (.norm [12, 15] [12] laws_FnExactFitPegs_k0))))))))
def laws_FnExactFitPegs_k2 : C :=
 .seq (.seq (.reg false [.V 56 (.mv (.t 10)), .V 57 (.mv (.t 0)), .V 58 (.call (.c (.fn 120 [])) [.t 57]), .V 59 (.call (.c (.fn 124 [])) [.t 56, .t 58]), .V 60 (.un .not (.t 59))] [0, 1, 2, 8, 9, 10, 11, 12, 13, 60] [8, 10, 11, 12]) (.cond (.t 60) (.seq (.reg false [.V 6 (.asg (.c (.bool false)))] [6] []) .ret) .skip)) (.seq (.seq (.reg false [.V 61 (.mv (.t 11)), .V 62 (.mv (.t 1)), .V 63 (.call (.c (.fn 121 [])) [.t 62]), .V 64 (.call (.c (.fn 42 [])) [.t 61, .t 63]), .V 65 (.un .not (.t 64))] [0, 1, 2, 8, 9, 10, 11, 12, 13, 65] [8, 10, 11, 12]) (.cond (.t 65) (.seq (.reg false [.V 6 (.asg (.c (.bool false)))] [6] []) .ret) .skip)) (.seq (.reg false [.V 14 (.asg (.c (.int .i64 1)))] [0, 1, 2, 8, 9, 10, 11, 12, 13, 14] [8, 10, 11, 12]) (.seq (.reg false [.V 66 (.mv (.t 10)), .V 67 (.mv (.t 14)), .W 68 (.call (.c (.fn 123 [])) [.t 66, .t 67]), .V 14 (.asg (.t 68))] [0, 1, 2, 8, 9, 11, 12, 13, 14] [8, 11, 12]) (.seq (.reg false [.V 69 (.mv (.t 11)), .V 70 (.mv (.t 14)), .W 71 (.call (.c (.fn 45 [])) [.t 69, .t 70]), .V 14 (.asg (.t 71))] [0, 1, 2, 8, 9, 12, 13, 14] [8, 12]) (.seq (.seq (.reg false [.V 72 (.mv (.t 14)), .V 73 (.bin .lss (.t 72) (.c (.int .i64 0))), .V 74 (.mv (.t 73)), .G 75 (.mv (.t 12)) 2 false, .G 76 (.mv (.t 8)) 2 false, .G 77 (.call (.c (.fn 42 [])) [.t 75, .t 76]) 2 false, .G 78 (.un .not (.t 77)) 2 false, .V 79 (.pick (.t 74) (.c (.bool true)) (.t 78)), .V 80 (.mv (.t 79)), .G 81 (.mv (.t 13)) 8 false, .G 82 (.mv (.t 9)) 8 false, .G 83 (.bin .neq (.t 81) (.t 82)) 8 false, .V 84 (.pick (.t 80) (.c (.bool true)) (.t 83))] [0, 1, 2, 8, 9, 12, 84] [8, 12]) (.cond (.t 84) (.seq (.reg false [.V 6 (.asg (.c (.bool false)))] [6] []) .ret) .skip)) (.norm [0, 1, 2, 8, 9, 12] [8, 12] laws_FnExactFitPegs_k1))))))
def laws_FnExactFitPegs_ir : Fn := { np := 3, io := [], res := [.t 6], own := [false], body :=
 (.seq (.reg false [.V 6 (.asg (.c (.bool false)))] [0, 1, 2] []) (.seq (.seq (.reg false [.V 19 (.mv (.t 1)), .V 20 (.len (.t 19)), .V 21 (.bin .gtr (.t 20) (.c (.int .i64 1048576)))] [0, 1, 2, 21] []) (.cond (.t 21) (.seq (.reg false [.V 6 (.asg (.c (.bool true)))] [6] []) .ret) .skip)) (.seq (.reg false [.V 7 (.asg (.c (.int .i64 1048576)))] [0, 1, 2, 7] []) (.seq (.reg false [.V 22 (.mv (.t 0)), .V 23 (.mv (.t 7)), .V 24 (.call (.c (.fn 126 [])) [.t 22, .t 23]), .V 7 (.asg (.t 24))] [0, 1, 2, 7] []) (.seq (.seq (.reg false [.V 25 (.mv (.t 7)), .V 26 (.bin .lss (.t 25) (.c (.int .i64 0)))] [0, 1, 2, 26] []) (.cond (.t 26) (.seq (.reg false [.V 6 (.asg (.c (.bool true)))] [6] []) .ret) .skip)) (.seq (.reg false [.V 28 (.mv (.t 0)), .V 29 (.call (.c (.fn 120 [])) [.t 28]), .V 30 (.mv (.t 1)), .V 31 (.call (.c (.fn 121 [])) [.t 30]), .V 32 (.mv (.t 2)), .W 33 (.call (.c (.fn 125 [])) [.t 29, .t 31, .t 32]), .V 27 (.mv (.t 33)), .V 34 (.ext (.t 27) 0), .V 35 (.ext (.t 27) 1), .W 8 (.asg (.t 34)), .V 9 (.asg (.t 35))] [0, 1, 2, 8, 9] [8]) (.seq (.reg false [.V 36 (.mv (.t 0)), .V 37 (.call (.c (.fn 120 [])) [.t 36]), .W 10 (.asg (.t 37))] [0, 1, 2, 8, 9, 10] [8, 10]) (.seq (.reg false [.V 38 (.mv (.t 1)), .V 39 (.call (.c (.fn 121 [])) [.t 38]), .W 11 (.asg (.t 39))] [0, 1, 2, 8, 9, 10, 11] [8, 10, 11]) (.seq (.reg false [.V 41 (.mv (.t 10)), .V 42 (.mv (.t 11)), .V 43 (.mv (.t 2)), .V 44 (.call (.c (.fn 122 [])) [.t 41, .t 42, .t 43]), .V 40 (.mv (.t 44)), .V 45 (.ext (.t 40) 0), .V 46 (.ext (.t 40) 1), .W 12 (.asg (.t 45)), .V 13 (.asg (.t 46))] [0, 1, 2, 8, 9, 10, 11, 12, 13] [8, 10, 11, 12]) (.seq (.seq (.reg false [.V 47 (.mv (.t 12)), .V 48 (.mv (.t 8)), .V 49 (.call (.c (.fn 42 [])) [.t 47, .t 48]), .V 50 (.un .not (.t 49)), .V 51 (.mv (.t 50)), .G 52 (.mv (.t 13)) 4 false, .G 53 (.mv (.t 9)) 4 false, .G 54 (.bin .neq (.t 52) (.t 53)) 4 false, .V 55 (.pick (.t 51) (.c (.bool true)) (.t 54))] [0, 1, 2, 8, 9, 10, 11, 12, 13, 55] [8, 10, 11, 12]) (.cond (.t 55) (.seq (.reg false [.V 6 (.asg (.c (.bool false)))] [6] []) .ret) .skip)) (.norm [0, 1, 2, 8, 9, 10, 11, 12, 13] [8, 10, 11, 12] laws_FnExactFitPegs_k2))))))))))) }
noncomputable def laws_FnExactFitPegs_D : List (Nat × Callee) := [(41, laws_heldInt64S_c), (42, laws_eqInt64S_c), (45, laws_markInt64S_c), (120, laws_toPegS_c), (121, laws_toInt64S_c), (122, impl_FitPegs_c), (123, laws_markPegS_c), (124, laws_eqPegS_c), (125, spec_FitPegs_c), (126, laws_szPegS_c)]
def laws_FnExactFitPegs_H : List (Nat × ET) := [(8, (.one (.int .i64))), (10, T_Peg), (11, (.one (.int .i64))), (12, (.one (.int .i64))), (17, (.one (.int .i64))), (19, (.one (.int .i64))), (22, T_Peg), (28, T_Peg), (29, T_Peg), (30, (.one (.int .i64))), (31, (.one (.int .i64))), (34, (.one (.int .i64))), (36, T_Peg), (37, T_Peg), (38, (.one (.int .i64))), (39, (.one (.int .i64))), (41, T_Peg), (42, (.one (.int .i64))), (45, (.one (.int .i64))), (47, (.one (.int .i64))), (48, (.one (.int .i64))), (56, T_Peg), (57, T_Peg), (58, T_Peg), (61, (.one (.int .i64))), (62, (.one (.int .i64))), (63, (.one (.int .i64))), (66, T_Peg), (69, (.one (.int .i64))), (75, (.one (.int .i64))), (76, (.one (.int .i64))), (85, (.one (.int .i64))), (88, (.one (.int .i64))), (97, T_Peg), (98, T_Peg), (99, (.one (.int .i64))), (100, (.one (.int .i64))), (103, (.one (.int .i64))), (105, (.one (.int .i64))), (106, (.one (.int .i64))), (114, (.one (.int .i64)))]
noncomputable def laws_FnExactFitPegs_c : Callee := mkCallee laws_FnExactFitPegs_D laws_FnExactFitPegs_H laws_FnExactFitPegs_ir [.d (.one (.sl T_Peg)), .d (.one (.sl (.one (.int .i64)))), .d (.one (.int .i64))] [.d (.one .bool)] []
noncomputable def laws_FnExactFitPegs (a0 : List T_Peg.ty) (a1 : List Int) (a2 : Int) : Option (Bool) := laws_FnExactFitPegs_c.f (a0, a1, a2, ())
noncomputable def laws_FnExactFitPegs_p0  (v0 : List T_Peg.ty) (v1 : List Int) (v2 : Int) (v8 : List Int) (v9 : Int) (v13 : Int) (r10 : List T_Peg.ty) (r11 : List Int) (r12 : List Int) : Option (Bool) :=
 goL laws_FnExactFitPegs_D laws_FnExactFitPegs_H (vleave laws_FnExactFitPegs_ir [.d (.one (.sl T_Peg)), .d (.one (.sl (.one (.int .i64)))), .d (.one (.int .i64))] [.d (.one .bool)] [] []) [.c laws_FnExactFitPegs_k2]
  ⟨[(0, .sl T_Peg v0), (1, .sl (.one (.int .i64)) v1), (2, .int .i64 v2), (8, .sl (.one (.int .i64)) v8), (9, .int .i64 v9), (10, .view 10 0 r10.length), (11, .view 11 0 r11.length), (12, .view 12 0 r12.length), (13, .int .i64 v13)], [(8, none), (10, some (.sl T_Peg r10)), (11, some (.sl (.one (.int .i64)) r11)), (12, some (.sl (.one (.int .i64)) r12))]⟩
noncomputable def laws_FnExactFitPegs_p1  (v0 : List T_Peg.ty) (v1 : List Int) (v2 : Int) (v8 : List Int) (v9 : Int) (r12 : List Int) : Option (Bool) :=
 goL laws_FnExactFitPegs_D laws_FnExactFitPegs_H (vleave laws_FnExactFitPegs_ir [.d (.one (.sl T_Peg)), .d (.one (.sl (.one (.int .i64)))), .d (.one (.int .i64))] [.d (.one .bool)] [] []) [.c laws_FnExactFitPegs_k1]
  ⟨[(0, .sl T_Peg v0), (1, .sl (.one (.int .i64)) v1), (2, .int .i64 v2), (8, .sl (.one (.int .i64)) v8), (9, .int .i64 v9), (12, .view 12 0 r12.length)], [(8, none), (12, some (.sl (.one (.int .i64)) r12))]⟩
noncomputable def laws_FnExactFitPegs_p2  (v12n : Nat) (v15 : Int) (r12 : List Int) : Option (Bool) :=
 goL laws_FnExactFitPegs_D laws_FnExactFitPegs_H (vleave laws_FnExactFitPegs_ir [.d (.one (.sl T_Peg)), .d (.one (.sl (.one (.int .i64)))), .d (.one (.int .i64))] [.d (.one .bool)] [] []) [.c laws_FnExactFitPegs_k0]
  ⟨[(12, .view 12 0 v12n), (15, .int .i64 v15)], [(12, some (.sl (.one (.int .i64)) r12))]⟩
theorem laws_FnExactFitPegs_eq (a0 : List T_Peg.ty) (a1 : List Int) (a2 : Int) : laws_FnExactFitPegs a0 a1 a2 =
  if decide ((a1.length : Int) > 1048576) then
   some true
  else
   (laws_szPegS a0 1048576).bind fun x1 =>
    if decide (x1 < 0) then
     some true
    else
     (laws_toPegS a0).bind fun x2 =>
      (laws_toInt64S a1).bind fun x3 =>
       (spec_FitPegs x2 x3 a2).bind fun x4 =>
        (laws_toPegS a0).bind fun x5 =>
         (laws_toInt64S a1).bind fun x6 =>
          (impl_FitPegs (x5.take x5.length) (x6.take x6.length) a2).bind fun x7 =>
           (laws_eqInt64S (x7.1.take x7.1.length) x4.1).bind fun x8 =>
            if (!x8) then
             some false
            else
             if (x7.2 != x4.2) then
              some false
             else
              laws_FnExactFitPegs_p0 a0 a1 a2 x4.1 x4.2 x7.2 x5 x6 x7.1 :=
 (mk_f _ _ _ _ _ _ _ 4000).trans (by kernel_rfl)
theorem laws_FnExactFitPegs_p0_eq  (v0 : List T_Peg.ty) (v1 : List Int) (v2 : Int) (v8 : List Int) (v9 : Int) (v13 : Int) (r10 : List T_Peg.ty) (r11 : List Int) (r12 : List Int) : laws_FnExactFitPegs_p0 v0 v1 v2 v8 v9 v13 r10 r11 r12 =
  (laws_toPegS v0).bind fun x1 =>
   (laws_eqPegS (r10.take r10.length) x1).bind fun x2 =>
    if (!x2) then
     some false
    else
     (laws_toInt64S v1).bind fun x3 =>
      (laws_eqInt64S (r11.take r11.length) x3).bind fun x4 =>
       if (!x4) then
        some false
       else
        if decide (r10.length = r10.length) then
         (laws_markPegS r10 1).bind fun x5 =>
          if decide (r11.length = r11.length) then
           (laws_markInt64S r11 x5.1).bind fun x6 =>
            if decide (x6.1 < 0) then
             some false
            else
             (laws_eqInt64S (r12.take r12.length) v8).bind fun x7 =>
              if (!x7) then
               some false
              else
               if (v13 != v9) then
                some false
               else
                laws_FnExactFitPegs_p1 v0 v1 v2 v8 v9 r12
          else
           none
        else
         none :=
 (goL_dn _ _ _ 4000 _ _).trans (by kernel_rfl)
theorem laws_FnExactFitPegs_p1_eq  (v0 : List T_Peg.ty) (v1 : List Int) (v2 : Int) (v8 : List Int) (v9 : Int) (r12 : List Int) : laws_FnExactFitPegs_p1 v0 v1 v2 v8 v9 r12 =
  if decide (r12.length = r12.length) then
   (laws_markInt64S r12 1).bind fun x1 =>
    (laws_heldInt64S (x1.2.take r12.length) 1).bind fun x2 =>
     if decide (x2 < 0) then
      some false
     else
      if (x2 != x1.1) then
       some false
      else
       (laws_toPegS v0).bind fun x3 =>
        (laws_toInt64S v1).bind fun x4 =>
         (impl_FitPegs x3 x4 v2).bind fun x5 =>
          (laws_eqInt64S (x5.1.take x5.1.length) v8).bind fun x6 =>
           if (!x6) then
            some false
           else
            if (x5.2 != v9) then
             some false
            else
             laws_FnExactFitPegs_p2 r12.length x1.1 x1.2
  else
   none :=
 (goL_dn _ _ _ 4000 _ _).trans (by kernel_rfl)
theorem laws_FnExactFitPegs_p2_eq  (v12n : Nat) (v15 : Int) (r12 : List Int) : laws_FnExactFitPegs_p2 v12n v15 r12 =
  (laws_heldInt64S (r12.take v12n) 1).bind fun x1 =>
   if decide (x1 < 0) then
    some false
   else
    if (x1 != v15) then
     some false
    else
     some true :=
 (goL_dn _ _ _ 4000 _ _).trans (by kernel_rfl)

end Go.Ab.P
