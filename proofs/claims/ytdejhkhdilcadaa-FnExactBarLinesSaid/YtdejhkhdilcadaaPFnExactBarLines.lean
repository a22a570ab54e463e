/- Functions of the program: abstract forms, and what their runs give. Conditions: none. -/
import Derived.Test.YtdejhkhdilcadaaL4
set_option maxRecDepth 100000
set_option linter.unusedVariables false
namespace Go.Ab.P
open Go.Ab
/- laws.toInt64S -/
def laws_toInt64S_k0 : C :=
 .seq (.seq (.reg false [.V 8 (.mv (.t 4)), .V 9 (.mv (.t 0)), .V 10 (.len (.t 9)), .V 11 (.bin .lss (.t 8) (.t 10))] [0, 3, 4, 11] [3]) (.cond (.t 11) .skip (.exit 0))) (.seq (.block 1 (.reg false [.V 14 (.mv (.t 3)), .V 15 (.mv (.t 4)), .V 16 (.mv (.t 0)), .V 17 (.mv (.t 4)), .V 18 (.ia 1 (.t 16) (.t 17)), .V 19 (.ld none (.t 18)), .V 20 (.ia 1 (.t 14) (.t 15)), ⟨none, true, .sto 1 (.t 20) (.t 19), none, false, []⟩] [0, 3, 4] [3])) (.reg false [.V 12 (.mv (.t 4)), .V 13 (.bin .add (.t 12) (.c (.int .i64 1))), .V 4 (.asg (.t 13))] [0, 3, 4] [3]))
def laws_toInt64S_k1 : C :=
 .norm [0, 3, 4] [3] laws_toInt64S_k0
def laws_toInt64S_k2 : C :=
 .seq (.reg false [.V 21 (.mv (.t 3)), .W 2 (.asg (.t 21))] [2] [2, 3]) .ret
def laws_toInt64S_ir : Fn := { np := 1, io := [], res := [.t 2], own := [true], body :=
 (.seq (.reg false [.W 2 (.asg (.c (.nils 1)))] [0] []) (.seq (.reg false [.V 5 (.mv (.t 0)), .V 6 (.len (.t 5)), .V 7 (.mks 1 8 (.int .i64 0) (.t 6) (.t 6)), .W 3 (.asg (.t 7))] [0, 3] [3]) (.seq (.seq (.reg false [.V 4 (.asg (.c (.int .i64 0)))] [0, 3, 4] [3]) (.block 0 (.loop laws_toInt64S_k1))) laws_toInt64S_k2))) }
noncomputable def laws_toInt64S_D : List (Nat × Callee) := []
def laws_toInt64S_H : List (Nat × ET) := [(2, (.one (.int .i64))), (3, (.one (.int .i64))), (5, (.one (.int .i64))), (7, (.one (.int .i64))), (9, (.one (.int .i64))), (14, (.one (.int .i64))), (16, (.one (.int .i64))), (21, (.one (.int .i64)))]
noncomputable def laws_toInt64S_c : Callee := mkCallee laws_toInt64S_D laws_toInt64S_H laws_toInt64S_ir [.d (.one (.sl (.one (.int .i64))))] [.tok (.one (.int .i64))] []
noncomputable def laws_toInt64S (a0 : List Int) : Option (List Int) := laws_toInt64S_c.f (a0, ())
noncomputable def laws_toInt64S_p0  (v0 : List Int) (v3n : Nat) (v4 : Int) (r3 : List Int) : Option (List Int) :=
 goL laws_toInt64S_D laws_toInt64S_H (vleave laws_toInt64S_ir [.d (.one (.sl (.one (.int .i64))))] [.tok (.one (.int .i64))] [] []) [.c laws_toInt64S_k0, .l laws_toInt64S_k1, .e 0, .c laws_toInt64S_k2]
  ⟨[(0, .sl (.one (.int .i64)) v0), (3, .view 3 0 v3n), (4, .int .i64 v4)], [(3, some (.sl (.one (.int .i64)) r3))]⟩
theorem laws_toInt64S_eq (a0 : List Int) : laws_toInt64S a0 =
  if decide (0 ≤ (a0.length : Int)) && decide ((a0.length : Int) ≤ (a0.length : Int)) && decide ((a0.length : Int).toNat < lim) then
   laws_toInt64S_p0 a0 ((List.replicate ((a0.length : Int).toNat) (0 : Int)).length) 0 (List.replicate ((a0.length : Int).toNat) (0 : Int))
  else
   none :=
 (mk_f _ _ _ _ _ _ _ 4000).trans (by kernel_rfl)
theorem laws_toInt64S_p0_eq  (v0 : List Int) (v3n : Nat) (v4 : Int) (r3 : List Int) : laws_toInt64S_p0 v0 v3n v4 r3 =
  if decide (v4 < (v0.length : Int)) then
   if decide (0 ≤ v4) then
    (v0[v4.toNat]?).bind fun x1 =>
     if decide (0 ≤ v4) && decide (v4 < (v3n : Int)) then
      (r3[v4.toNat]?).bind fun x2 =>
       laws_toInt64S_p0 v0 v3n (IntKind.i64.wrap (v4 + 1)) (r3.set v4.toNat x1)
     else
      none
   else
    none
  else
   some (r3.take v3n) :=
 (goL_dn _ _ _ 4000 _ _).trans (by kernel_rfl)

/- spec.l00In -/
def spec_l00In_ir : Fn := { np := 3, io := [], res := [.t 6], own := [false], body :=
 (.seq (.reg false [.V 6 (.asg (.c (.bool false)))] [0, 1, 2] []) (.seq (.reg false [.V 7 (.mv (.t 0)), .V 8 (.mv (.t 1)), .V 9 (.bin .geq (.t 7) (.t 8)), .V 10 (.mv (.t 9)), .G 11 (.mv (.t 0)) 3 true, .G 12 (.mv (.t 2)) 3 true, .G 13 (.bin .leq (.t 11) (.t 12)) 3 true, .V 14 (.pick (.t 10) (.t 13) (.c (.bool false))), .V 6 (.asg (.t 14))] [6] []) .ret)) }
noncomputable def spec_l00In_D : List (Nat × Callee) := []
def spec_l00In_H : List (Nat × ET) := []
noncomputable def spec_l00In_c : Callee := mkCallee spec_l00In_D spec_l00In_H spec_l00In_ir [.d (.one (.int .i64)), .d (.one (.int .i64)), .d (.one (.int .i64))] [.d (.one .bool)] []
noncomputable def spec_l00In (a0 : Int) (a1 : Int) (a2 : Int) : Option (Bool) := spec_l00In_c.f (a0, a1, a2, ())
theorem spec_l00In_eq (a0 : Int) (a1 : Int) (a2 : Int) : spec_l00In a0 a1 a2 =
  if decide (a0 ≥ a1) then
   some (decide (a0 ≤ a2))
  else
   some false :=
 (mk_f _ _ _ _ _ _ _ 4000).trans (by kernel_rfl)

/- spec.l00Max -/
def spec_l00Max_ir : Fn := { np := 2, io := [], res := [.t 4], own := [false], body :=
 (.seq (.reg false [.V 4 (.asg (.c (.int .i64 0)))] [0, 1] []) (.seq (.seq (.reg false [.V 5 (.mv (.t 0)), .V 6 (.mv (.t 1)), .V 7 (.bin .gtr (.t 5) (.t 6))] [0, 1, 7] []) (.cond (.t 7) (.seq (.reg false [.V 8 (.mv (.t 0)), .V 4 (.asg (.t 8))] [4] []) .ret) .skip)) (.seq (.reg false [.V 9 (.mv (.t 1)), .V 4 (.asg (.t 9))] [4] []) .ret))) }
noncomputable def spec_l00Max_D : List (Nat × Callee) := []
def spec_l00Max_H : List (Nat × ET) := []
noncomputable def spec_l00Max_c : Callee := mkCallee spec_l00Max_D spec_l00Max_H spec_l00Max_ir [.d (.one (.int .i64)), .d (.one (.int .i64))] [.d (.one (.int .i64))] []
noncomputable def spec_l00Max (a0 : Int) (a1 : Int) : Option (Int) := spec_l00Max_c.f (a0, a1, ())
theorem spec_l00Max_eq (a0 : Int) (a1 : Int) : spec_l00Max a0 a1 =
  if decide (a0 > a1) then
   some a0
  else
   some a1 :=
 (mk_f _ _ _ _ _ _ _ 4000).trans (by kernel_rfl)

/- spec.l30Line -/
def spec_l30Line_k0 : C :=
 .seq (.seq (.reg false [.V 4 (.mv (.t 3)), .V 5 (.mv (.t 0)), .V 6 (.lens (.t 5)), .V 7 (.bin .lss (.t 4) (.t 6))] [0, 3, 7] []) (.cond (.t 7) .skip (.exit 0))) (.seq (.block 1 (.seq (.reg false [.V 10 (.mv (.t 0)), .V 11 (.mv (.t 3)), .V 12 (.ix (.t 10) (.t 11)), .V 13 (.bin .lss (.t 12) (.c (.int .u8 32))), .V 14 (.mv (.t 13)), .G 15 (.mv (.t 0)) 4 false, .G 16 (.mv (.t 3)) 4 false, .G 17 (.ix (.t 15) (.t 16)) 4 false, .G 18 (.bin .gtr (.t 17) (.c (.int .u8 126))) 4 false, .V 19 (.pick (.t 14) (.c (.bool true)) (.t 18))] [0, 3, 19] []) (.cond (.t 19) (.seq (.reg false [.V 2 (.asg (.c (.bool false)))] [2] []) .ret) .skip))) (.reg false [.V 8 (.mv (.t 3)), .V 9 (.bin .add (.t 8) (.c (.int .i64 1))), .V 3 (.asg (.t 9))] [0, 3] []))
def spec_l30Line_k1 : C :=
 .norm [0, 3] [] spec_l30Line_k0
def spec_l30Line_k2 : C :=
 .seq (.reg false [.V 20 (.mv (.t 0)), .V 21 (.lens (.t 20)), .V 22 (.bin .leq (.t 21) (.c (.int .i64 100))), .V 2 (.asg (.t 22))] [2] []) .ret
def spec_l30Line_ir : Fn := { np := 1, io := [], res := [.t 2], own := [false], body :=
 (.seq (.reg false [.V 2 (.asg (.c (.bool false)))] [0] []) (.seq (.seq (.reg false [.V 3 (.asg (.c (.int .i64 0)))] [0, 3] []) (.block 0 (.loop spec_l30Line_k1))) spec_l30Line_k2)) }
noncomputable def spec_l30Line_D : List (Nat × Callee) := []
def spec_l30Line_H : List (Nat × ET) := []
noncomputable def spec_l30Line_c : Callee := mkCallee spec_l30Line_D spec_l30Line_H spec_l30Line_ir [.d (.one .str)] [.d (.one .bool)] []
noncomputable def spec_l30Line (a0 : List UInt8) : Option (Bool) := spec_l30Line_c.f (a0, ())
noncomputable def spec_l30Line_p0  (v0 : List UInt8) (v3 : Int) : Option (Bool) :=
 goL spec_l30Line_D spec_l30Line_H (vleave spec_l30Line_ir [.d (.one .str)] [.d (.one .bool)] [] []) [.c spec_l30Line_k0, .l spec_l30Line_k1, .e 0, .c spec_l30Line_k2]
  ⟨[(0, .str v0), (3, .int .i64 v3)], []⟩
theorem spec_l30Line_eq (a0 : List UInt8) : spec_l30Line a0 =
  spec_l30Line_p0 a0 0 :=
 (mk_f _ _ _ _ _ _ _ 4000).trans (by kernel_rfl)
theorem spec_l30Line_p0_eq  (v0 : List UInt8) (v3 : Int) : spec_l30Line_p0 v0 v3 =
  if decide (v3 < (v0.length : Int)) then
   if decide (0 ≤ v3) then
    (v0[v3.toNat]?).bind fun x1 =>
     if decide ((x1.toNat : Int) < 32) then
      some false
     else
      if decide (0 ≤ v3) then
       (v0[v3.toNat]?).bind fun x2 =>
        if decide ((x2.toNat : Int) > 126) then
         some false
        else
         spec_l30Line_p0 v0 (IntKind.i64.wrap (v3 + 1))
      else
       none
   else
    none
  else
   some (decide ((v0.length : Int) ≤ 100)) :=
 (goL_dn _ _ _ 4000 _ _).trans (by kernel_rfl)

/- spec.l30Ok -/
def spec_l30Ok_k0 : C :=
 .seq (.seq (.reg false [.V 4 (.mv (.t 3)), .V 5 (.mv (.t 0)), .V 6 (.len (.t 5)), .V 7 (.bin .lss (.t 4) (.t 6))] [0, 3, 7] []) (.cond (.t 7) .skip (.exit 0))) (.seq (.block 1 (.seq (.reg false [.V 10 (.mv (.t 0)), .V 11 (.mv (.t 3)), .V 12 (.ia 1 (.t 10) (.t 11)), .V 13 (.ld none (.t 12)), .V 14 (.call (.c (.fn 988 [])) [.t 13]), .V 15 (.un .not (.t 14))] [0, 3, 15] []) (.cond (.t 15) (.seq (.reg false [.V 2 (.asg (.c (.bool false)))] [2] []) .ret) .skip))) (.reg false [.V 8 (.mv (.t 3)), .V 9 (.bin .add (.t 8) (.c (.int .i64 1))), .V 3 (.asg (.t 9))] [0, 3] []))
def spec_l30Ok_k1 : C :=
 .norm [0, 3] [] spec_l30Ok_k0
def spec_l30Ok_k2 : C :=
 .seq (.reg false [.V 16 (.mv (.t 0)), .V 17 (.len (.t 16)), .V 18 (.bin .leq (.t 17) (.c (.int .i64 200))), .V 2 (.asg (.t 18))] [2] []) .ret
def spec_l30Ok_ir : Fn := { np := 1, io := [], res := [.t 2], own := [false], body :=
 (.seq (.reg false [.V 2 (.asg (.c (.bool false)))] [0] []) (.seq (.seq (.reg false [.V 3 (.asg (.c (.int .i64 0)))] [0, 3] []) (.block 0 (.loop spec_l30Ok_k1))) spec_l30Ok_k2)) }
noncomputable def spec_l30Ok_D : List (Nat × Callee) := [(988, spec_l30Line_c)]
def spec_l30Ok_H : List (Nat × ET) := [(5, (.one .str)), (10, (.one .str)), (16, (.one .str))]
noncomputable def spec_l30Ok_c : Callee := mkCallee spec_l30Ok_D spec_l30Ok_H spec_l30Ok_ir [.d (.one (.sl (.one .str)))] [.d (.one .bool)] []
noncomputable def spec_l30Ok (a0 : List (List UInt8)) : Option (Bool) := spec_l30Ok_c.f (a0, ())
noncomputable def spec_l30Ok_p0  (v0 : List (List UInt8)) (v3 : Int) : Option (Bool) :=
 goL spec_l30Ok_D spec_l30Ok_H (vleave spec_l30Ok_ir [.d (.one (.sl (.one .str)))] [.d (.one .bool)] [] []) [.c spec_l30Ok_k0, .l spec_l30Ok_k1, .e 0, .c spec_l30Ok_k2]
  ⟨[(0, .sl (.one .str) v0), (3, .int .i64 v3)], []⟩
theorem spec_l30Ok_eq (a0 : List (List UInt8)) : spec_l30Ok a0 =
  spec_l30Ok_p0 a0 0 :=
 (mk_f _ _ _ _ _ _ _ 4000).trans (by kernel_rfl)
theorem spec_l30Ok_p0_eq  (v0 : List (List UInt8)) (v3 : Int) : spec_l30Ok_p0 v0 v3 =
  if decide (v3 < (v0.length : Int)) then
   if decide (0 ≤ v3) then
    (v0[v3.toNat]?).bind fun x1 =>
     (spec_l30Line x1).bind fun x2 =>
      if (!x2) then
       some false
      else
       spec_l30Ok_p0 v0 (IntKind.i64.wrap (v3 + 1))
   else
    none
  else
   some (decide ((v0.length : Int) ≤ 200)) :=
 (goL_dn _ _ _ 4000 _ _).trans (by kernel_rfl)

/- spec.l30Done -/
def spec_l30Done_ir : Fn := { np := 1, io := [], res := [.t 2, .t 3], own := [false, false], body :=
 (.seq (.reg false [.W 2 (.asg (.c (.nils 1))), .V 3 (.asg (.c (.int .i64 0)))] [0] []) (.seq (.seq (.reg false [.V 4 (.mv (.t 0)), .V 5 (.call (.c (.fn 822 [])) [.t 4]), .V 6 (.un .not (.t 5))] [0, 6] []) (.cond (.t 6) (.seq (.reg false [.W 2 (.asg (.c (.nils 1))), .V 3 (.asg (.c (.int .i64 5)))] [2, 3] [2]) .ret) .skip)) (.seq (.reg false [.V 7 (.mv (.t 0)), .W 2 (.asg (.t 7)), .V 3 (.asg (.c (.int .i64 0)))] [2, 3] [2]) .ret))) }
noncomputable def spec_l30Done_D : List (Nat × Callee) := [(822, spec_l30Ok_c)]
def spec_l30Done_H : List (Nat × ET) := [(2, (.one .str)), (4, (.one .str)), (7, (.one .str))]
noncomputable def spec_l30Done_c : Callee := mkCallee spec_l30Done_D spec_l30Done_H spec_l30Done_ir [.d (.one (.sl (.one .str)))] [.d (.one (.sl (.one .str))), .d (.one (.int .i64))] []
noncomputable def spec_l30Done (a0 : List (List UInt8)) : Option (List (List UInt8) × Int) := spec_l30Done_c.f (a0, ())
theorem spec_l30Done_eq (a0 : List (List UInt8)) : spec_l30Done a0 =
  (spec_l30Ok a0).bind fun x1 =>
   if (!x1) then
    some ([], 5)
   else
    some (a0, 0) :=
 (mk_f _ _ _ _ _ _ _ 4000).trans (by kernel_rfl)

/- spec.BarLines -/
def spec_BarLines_k0 : C :=
 .seq (.seq (.reg false [.V 12 (.mv (.t 7)), .V 13 (.mv (.t 0)), .V 14 (.len (.t 13)), .V 15 (.bin .lss (.t 12) (.t 14))] [0, 1, 6, 7, 15] []) (.cond (.t 15) .skip (.exit 0))) (.seq (.block 1 (.seq (.seq (.reg false [.V 18 (.mv (.t 0)), .V 19 (.mv (.t 7)), .V 20 (.ia 1 (.t 18) (.t 19)), .V 21 (.ld none (.t 20)), .V 22 (.call (.c (.fn 1 [])) [.t 21, .c (.int .i64 0), .c (.int .i64 1000000000000)]), .V 23 (.un .not (.t 22))] [0, 1, 6, 7, 23] []) (.cond (.t 23) (.seq (.reg false [.W 4 (.asg (.c (.nils 1))), .V 5 (.asg (.c (.int .i64 2)))] [4, 5] [4]) .ret) .skip)) (.reg false [.V 24 (.mv (.t 6)), .V 25 (.mv (.t 0)), .V 26 (.mv (.t 7)), .V 27 (.ia 1 (.t 25) (.t 26)), .V 28 (.ld none (.t 27)), .V 29 (.call (.c (.fn 17 [])) [.t 24, .t 28]), .V 6 (.asg (.t 29))] [0, 1, 6, 7] []))) (.reg false [.V 16 (.mv (.t 7)), .V 17 (.bin .add (.t 16) (.c (.int .i64 1))), .V 7 (.asg (.t 17))] [0, 1, 6, 7] []))
def spec_BarLines_k1 : C :=
 .norm [0, 1, 6, 7] [] spec_BarLines_k0
def spec_BarLines_k2 : C :=
 .seq (.seq (.reg false [.V 40 (.mv (.t 6)), .V 41 (.bin .gtr (.t 40) (.c (.int .i64 0))), .V 42 (.mv (.t 41)), .G 43 (.mv (.t 11)) 2 true, .G 44 (.mv (.t 0)) 2 true, .G 45 (.mv (.t 9)) 2 true, .G 46 (.ia 1 (.t 44) (.t 45)) 2 true, .G 47 (.ld none (.t 46)) 2 true, .G 48 (.mv (.t 1)) 2 true, .G 49 (.bin .mul (.t 47) (.t 48)) 2 true, .G 50 (.mv (.t 6)) 2 true, .G 51 (.bin .quo (.t 49) (.t 50)) 2 true, .G 52 (.bin .lss (.t 43) (.t 51)) 2 true, .V 53 (.pick (.t 42) (.t 52) (.c (.bool false)))] [0, 1, 6, 8, 9, 10, 11, 53] [8]) (.cond (.t 53) .skip (.exit 4))) (.seq (.block 5 (.reg false [.V 56 (.mv (.t 10)), .V 57 (.bin .add (.t 56) (.c (.str [35]))), .V 10 (.asg (.t 57))] [0, 1, 6, 8, 9, 10, 11] [8])) (.reg false [.V 54 (.mv (.t 11)), .V 55 (.bin .add (.t 54) (.c (.int .i64 1))), .V 11 (.asg (.t 55))] [0, 1, 6, 8, 9, 10, 11] [8]))
def spec_BarLines_k3 : C :=
 .norm [0, 1, 6, 8, 9, 10, 11] [8] spec_BarLines_k2
def spec_BarLines_k4 : C :=
 .reg false [.V 58 (.mv (.t 8)), .V 59 (.mv (.t 10)), .V 60 (.bsl 1 (.str []) 1 [(0, .t 59)]), .W 61 (.app 1 16 (.t 58) (.t 60)), .W 8 (.asg (.t 61))] [0, 1, 6, 8, 9] [8]
def spec_BarLines_k5 : C :=
 .reg false [.V 38 (.mv (.t 9)), .V 39 (.bin .add (.t 38) (.c (.int .i64 1))), .V 9 (.asg (.t 39))] [0, 1, 6, 8, 9] [8]
def spec_BarLines_k6 : C :=
 .seq (.seq (.reg false [.V 34 (.mv (.t 9)), .V 35 (.mv (.t 0)), .V 36 (.len (.t 35)), .V 37 (.bin .lss (.t 34) (.t 36))] [0, 1, 6, 8, 9, 37] [8]) (.cond (.t 37) .skip (.exit 2))) (.seq (.block 3 (.seq (.reg false [.V 10 (.asg (.c (.str [])))] [0, 1, 6, 8, 9, 10] [8]) (.seq (.seq (.reg false [.V 11 (.asg (.c (.int .i64 0)))] [0, 1, 6, 8, 9, 10, 11] [8]) (.block 4 (.loop spec_BarLines_k3))) spec_BarLines_k4))) spec_BarLines_k5)
def spec_BarLines_k7 : C :=
 .norm [0, 1, 6, 8, 9] [8] spec_BarLines_k6
def spec_BarLines_k8 : C :=
 .seq (.reg false [.V 62 (.mv (.t 8)), .W 63 (.call (.c (.fn 516 [])) [.t 62]), .V 64 (.ext (.t 63) 0), .V 65 (.ext (.t 63) 1), .W 4 (.asg (.t 64)), .V 5 (.asg (.t 65))] [4, 5] [4]) .ret
def spec_BarLines_k9 : C :=
 .seq (.seq (.reg false [.V 30 (.mv (.t 1)), .V 31 (.call (.c (.fn 1 [])) [.t 30, .c (.int .i64 1), .c (.int .i64 100)]), .V 32 (.un .not (.t 31))] [0, 1, 6, 32] []) (.cond (.t 32) (.seq (.reg false [.W 4 (.asg (.c (.nils 1))), .V 5 (.asg (.c (.int .i64 2)))] [4, 5] [4]) .ret) .skip)) (.seq (.reg false [.V 33 (.bsl 1 (.str []) 0 []), .W 8 (.asg (.t 33))] [0, 1, 6, 8] [8]) (.seq (.seq (.reg false [.V 9 (.asg (.c (.int .i64 0)))] [0, 1, 6, 8, 9] [8]) (.block 2 (.loop spec_BarLines_k7))) spec_BarLines_k8))
def spec_BarLines_ir : Fn := { np := 2, io := [], res := [.t 4, .t 5], own := [false, false], body :=
 (.seq (.reg false [.W 4 (.asg (.c (.nils 1))), .V 5 (.asg (.c (.int .i64 0)))] [0, 1] []) (.seq (.reg false [.V 6 (.asg (.c (.int .i64 0)))] [0, 1, 6] []) (.seq (.seq (.reg false [.V 7 (.asg (.c (.int .i64 0)))] [0, 1, 6, 7] []) (.block 0 (.loop spec_BarLines_k1))) spec_BarLines_k9))) }
noncomputable def spec_BarLines_D : List (Nat × Callee) := [(1, spec_l00In_c), (17, spec_l00Max_c), (516, spec_l30Done_c)]
def spec_BarLines_H : List (Nat × ET) := [(4, (.one .str)), (8, (.one .str)), (13, (.one (.int .i64))), (18, (.one (.int .i64))), (25, (.one (.int .i64))), (33, (.one .str)), (35, (.one (.int .i64))), (44, (.one (.int .i64))), (58, (.one .str)), (60, (.one .str)), (61, (.one .str)), (62, (.one .str)), (64, (.one .str))]
noncomputable def spec_BarLines_c : Callee := mkCallee spec_BarLines_D spec_BarLines_H spec_BarLines_ir [.d (.one (.sl (.one (.int .i64)))), .d (.one (.int .i64))] [.d (.one (.sl (.one .str))), .d (.one (.int .i64))] []
noncomputable def spec_BarLines (a0 : List Int) (a1 : Int) : Option (List (List UInt8) × Int) := spec_BarLines_c.f (a0, a1, ())
noncomputable def spec_BarLines_p0  (v0 : List Int) (v1 : Int) (v6 : Int) (v7 : Int) : Option (List (List UInt8) × Int) :=
 goL spec_BarLines_D spec_BarLines_H (vleave spec_BarLines_ir [.d (.one (.sl (.one (.int .i64)))), .d (.one (.int .i64))] [.d (.one (.sl (.one .str))), .d (.one (.int .i64))] [] []) [.c spec_BarLines_k0, .l spec_BarLines_k1, .e 0, .c spec_BarLines_k9]
  ⟨[(0, .sl (.one (.int .i64)) v0), (1, .int .i64 v1), (6, .int .i64 v6), (7, .int .i64 v7)], []⟩
noncomputable def spec_BarLines_p1  (v0 : List Int) (v1 : Int) (v6 : Int) (v9 : Int) (r8 : List (List UInt8)) : Option (List (List UInt8) × Int) :=
 goL spec_BarLines_D spec_BarLines_H (vleave spec_BarLines_ir [.d (.one (.sl (.one (.int .i64)))), .d (.one (.int .i64))] [.d (.one (.sl (.one .str))), .d (.one (.int .i64))] [] []) [.c spec_BarLines_k6, .l spec_BarLines_k7, .e 2, .c spec_BarLines_k8]
  ⟨[(0, .sl (.one (.int .i64)) v0), (1, .int .i64 v1), (6, .int .i64 v6), (8, .view 8 0 r8.length), (9, .int .i64 v9)], [(8, some (.sl (.one .str) r8))]⟩
noncomputable def spec_BarLines_p2  (v0 : List Int) (v1 : Int) (v6 : Int) (v9 : Int) (v10 : List UInt8) (v11 : Int) (r8 : List (List UInt8)) : Option (List (List UInt8) × Int) :=
 goL spec_BarLines_D spec_BarLines_H (vleave spec_BarLines_ir [.d (.one (.sl (.one (.int .i64)))), .d (.one (.int .i64))] [.d (.one (.sl (.one .str))), .d (.one (.int .i64))] [] []) [.c spec_BarLines_k2, .l spec_BarLines_k3, .e 4, .c spec_BarLines_k4, .e 3, .c spec_BarLines_k5, .l spec_BarLines_k7, .e 2, .c spec_BarLines_k8]
  ⟨[(0, .sl (.one (.int .i64)) v0), (1, .int .i64 v1), (6, .int .i64 v6), (8, .view 8 0 r8.length), (9, .int .i64 v9), (10, .str v10), (11, .int .i64 v11)], [(8, some (.sl (.one .str) r8))]⟩
theorem spec_BarLines_eq (a0 : List Int) (a1 : Int) : spec_BarLines a0 a1 =
  spec_BarLines_p0 a0 a1 0 0 :=
 (mk_f _ _ _ _ _ _ _ 4000).trans (by kernel_rfl)
theorem spec_BarLines_p0_eq  (v0 : List Int) (v1 : Int) (v6 : Int) (v7 : Int) : spec_BarLines_p0 v0 v1 v6 v7 =
  if decide (v7 < (v0.length : Int)) then
   if decide (0 ≤ v7) then
    (v0[v7.toNat]?).bind fun x1 =>
     (spec_l00In x1 0 1000000000000).bind fun x2 =>
      if (!x2) then
       some ([], 2)
      else
       if decide (0 ≤ v7) then
        (v0[v7.toNat]?).bind fun x3 =>
         (spec_l00Max v6 x3).bind fun x4 =>
          spec_BarLines_p0 v0 v1 x4 (IntKind.i64.wrap (v7 + 1))
       else
        none
   else
    none
  else
   (spec_l00In v1 1 100).bind fun x5 =>
    if (!x5) then
     some ([], 2)
    else
     spec_BarLines_p1 v0 v1 v6 0 [] :=
 (goL_dn _ _ _ 4000 _ _).trans (by kernel_rfl)
theorem spec_BarLines_p1_eq  (v0 : List Int) (v1 : Int) (v6 : Int) (v9 : Int) (r8 : List (List UInt8)) : spec_BarLines_p1 v0 v1 v6 v9 r8 =
  if decide (v9 < (v0.length : Int)) then
   spec_BarLines_p2 v0 v1 v6 v9 [] 0 r8
  else
   (spec_l30Done (r8.take r8.length)).bind fun x1 =>
    some (x1.1, x1.2) :=
 (goL_dn _ _ _ 4000 _ _).trans (by kernel_rfl)
theorem spec_BarLines_p2_eq  (v0 : List Int) (v1 : Int) (v6 : Int) (v9 : Int) (v10 : List UInt8) (v11 : Int) (r8 : List (List UInt8)) : spec_BarLines_p2 v0 v1 v6 v9 v10 v11 r8 =
  if decide (v6 > 0) then
   if decide (0 ≤ v9) then
    (v0[v9.toNat]?).bind fun x1 =>
     if decide (v6 = 0) then
      none
     else
      if decide (v11 < IntKind.i64.wrap ((IntKind.i64.wrap (x1 * v1)).tdiv v6)) then
       if decide (v10.length + [35].length ≤ strMax) then
        spec_BarLines_p2 v0 v1 v6 v9 (v10 ++ [35]) (IntKind.i64.wrap (v11 + 1)) r8
       else
        none
      else
       if decide (r8.length + 1 < lim) then
        spec_BarLines_p1 v0 v1 v6 (IntKind.i64.wrap (v9 + 1)) ((r8.take r8.length) ++ [v10])
       else
        none
   else
    none
  else
   if decide (r8.length + 1 < lim) then
    spec_BarLines_p1 v0 v1 v6 (IntKind.i64.wrap (v9 + 1)) ((r8.take r8.length) ++ [v10])
   else
    none :=
 (goL_dn _ _ _ 4000 _ _).trans (by kernel_rfl)

/- impl.within -/
def impl_within_ir : Fn := { np := 3, io := [], res := [.t 6], own := [false], body :=
 (.seq (.reg false [.V 6 (.asg (.c (.bool false)))] [0, 1, 2] []) (.seq (.reg false [.V 7 (.mv (.t 1)), .V 8 (.mv (.t 0)), .V 9 (.bin .leq (.t 7) (.t 8)), .V 10 (.mv (.t 9)), .G 11 (.mv (.t 0)) 3 true, .G 12 (.mv (.t 2)) 3 true, .G 13 (.bin .leq (.t 11) (.t 12)) 3 true, .V 14 (.pick (.t 10) (.t 13) (.c (.bool false))), .V 6 (.asg (.t 14))] [6] []) .ret)) }
noncomputable def impl_within_D : List (Nat × Callee) := []
def impl_within_H : List (Nat × ET) := []
noncomputable def impl_within_c : Callee := mkCallee impl_within_D impl_within_H impl_within_ir [.d (.one (.int .i64)), .d (.one (.int .i64)), .d (.one (.int .i64))] [.d (.one .bool)] []
noncomputable def impl_within (a0 : Int) (a1 : Int) (a2 : Int) : Option (Bool) := impl_within_c.f (a0, a1, a2, ())
theorem impl_within_eq (a0 : Int) (a1 : Int) (a2 : Int) : impl_within a0 a1 a2 =
  if decide (a1 ≤ a0) then
   some (decide (a0 ≤ a2))
  else
   some false :=
 (mk_f _ _ _ _ _ _ _ 4000).trans (by kernel_rfl)

/- strings.Repeat -/
noncomputable def strings_Repeat_c : Callee := repeatC
noncomputable def strings_Repeat (a0 : List UInt8) (a1 : Int) : Option (List UInt8) := strings_Repeat_c.f (a0, a1, ())
theorem strings_Repeat_eq (a0 : List UInt8) (a1 : Int) : strings_Repeat a0 a1 = if decide (0 ≤ a1) && (decide (a1 ≤ 9223372036854775807) && decide (a0.length * a1.toNat ≤ 140737488355328)) then some (Lib.repeatL a0 a1.toNat) else none := rfl

/- impl.few -/
def impl_few_ir : Fn := { np := 2, io := [], res := [.t 4], own := [false], body :=
 (.seq (.reg false [.V 4 (.asg (.c (.bool false)))] [0, 1] []) (.seq (.reg false [.V 5 (.mv (.t 0)), .V 6 (.mv (.t 1)), .V 7 (.bin .leq (.t 5) (.t 6)), .V 4 (.asg (.t 7))] [4] []) .ret)) }
noncomputable def impl_few_D : List (Nat × Callee) := []
def impl_few_H : List (Nat × ET) := []
noncomputable def impl_few_c : Callee := mkCallee impl_few_D impl_few_H impl_few_ir [.d (.one (.int .i64)), .d (.one (.int .i64))] [.d (.one .bool)] []
noncomputable def impl_few (a0 : Int) (a1 : Int) : Option (Bool) := impl_few_c.f (a0, a1, ())
theorem impl_few_eq (a0 : Int) (a1 : Int) : impl_few a0 a1 =
  some (decide (a0 ≤ a1)) :=
 (mk_f _ _ _ _ _ _ _ 4000).trans (by kernel_rfl)

/- impl.isLine -/
def impl_isLine_k0 : C :=
 .seq (.seq (.reg false [.V 4 (.mv (.t 3)), .V 5 (.mv (.t 0)), .V 6 (.lens (.t 5)), .V 7 (.bin .lss (.t 4) (.t 6))] [0, 3, 7] []) (.cond (.t 7) .skip (.exit 0))) (.seq (.block 1 (.seq (.reg false [.V 10 (.mv (.t 0)), .V 11 (.mv (.t 3)), .V 12 (.ix (.t 10) (.t 11)), .V 13 (.conv (.int .i64) (.t 12)), .V 14 (.call (.c (.fn 23 [])) [.t 13, .c (.int .i64 32), .c (.int .i64 126)]), .V 15 (.un .not (.t 14))] [0, 3, 15] []) (.cond (.t 15) (.seq (.reg false [.V 2 (.asg (.c (.bool false)))] [2] []) .ret) .skip))) (.reg false [.V 8 (.mv (.t 3)), .V 9 (.bin .add (.t 8) (.c (.int .i64 1))), .V 3 (.asg (.t 9))] [0, 3] []))
def impl_isLine_k1 : C :=
 .norm [0, 3] [] impl_isLine_k0
def impl_isLine_k2 : C :=
 .seq (.reg false [.V 16 (.mv (.t 0)), .V 17 (.lens (.t 16)), .V 18 (.call (.c (.fn 21 [])) [.t 17, .c (.int .i64 100)]), .V 2 (.asg (.t 18))] [2] []) .ret
def impl_isLine_ir : Fn := { np := 1, io := [], res := [.t 2], own := [false], body :=
 (.seq (.reg false [.V 2 (.asg (.c (.bool false)))] [0] []) (.seq (.seq (.reg false [.V 3 (.asg (.c (.int .i64 0)))] [0, 3] []) (.block 0 (.loop impl_isLine_k1))) impl_isLine_k2)) }
noncomputable def impl_isLine_D : List (Nat × Callee) := [(21, impl_few_c), (23, impl_within_c)]
def impl_isLine_H : List (Nat × ET) := []
noncomputable def impl_isLine_c : Callee := mkCallee impl_isLine_D impl_isLine_H impl_isLine_ir [.d (.one .str)] [.d (.one .bool)] []
noncomputable def impl_isLine (a0 : List UInt8) : Option (Bool) := impl_isLine_c.f (a0, ())
noncomputable def impl_isLine_p0  (v0 : List UInt8) (v3 : Int) : Option (Bool) :=
 goL impl_isLine_D impl_isLine_H (vleave impl_isLine_ir [.d (.one .str)] [.d (.one .bool)] [] []) [.c impl_isLine_k0, .l impl_isLine_k1, .e 0, .c impl_isLine_k2]
  ⟨[(0, .str v0), (3, .int .i64 v3)], []⟩
theorem impl_isLine_eq (a0 : List UInt8) : impl_isLine a0 =
  impl_isLine_p0 a0 0 :=
 (mk_f _ _ _ _ _ _ _ 4000).trans (by kernel_rfl)
theorem impl_isLine_p0_eq  (v0 : List UInt8) (v3 : Int) : impl_isLine_p0 v0 v3 =
  if decide (v3 < (v0.length : Int)) then
   if decide (0 ≤ v3) then
    (v0[v3.toNat]?).bind fun x1 =>
     (impl_within (IntKind.i64.wrap (x1.toNat : Int)) 32 126).bind fun x2 =>
      if (!x2) then
       some false
      else
       impl_isLine_p0 v0 (IntKind.i64.wrap (v3 + 1))
   else
    none
  else
   (impl_few (v0.length : Int) 100).bind fun x3 =>
    some x3 :=
 (goL_dn _ _ _ 4000 _ _).trans (by kernel_rfl)

/- impl.ValidReport$1 -/
def impl_ValidReport_1_ir : Fn := { np := 1, io := [], res := [.t 2], own := [false], body :=
 (.seq (.reg false [.V 2 (.asg (.c (.bool false)))] [0] []) (.seq (.reg false [.V 3 (.mv (.t 0)), .V 4 (.call (.c (.fn 1024 [])) [.t 3]), .V 5 (.un .not (.t 4)), .V 2 (.asg (.t 5))] [2] []) .ret)) }
noncomputable def impl_ValidReport_1_D : List (Nat × Callee) := [(1024, impl_isLine_c)]
def impl_ValidReport_1_H : List (Nat × ET) := []
noncomputable def impl_ValidReport_1_c : Callee := mkCallee impl_ValidReport_1_D impl_ValidReport_1_H impl_ValidReport_1_ir [.d (.one .str)] [.d (.one .bool)] []
noncomputable def impl_ValidReport_1 (a0 : List UInt8) : Option (Bool) := impl_ValidReport_1_c.f (a0, ())
theorem impl_ValidReport_1_eq (a0 : List UInt8) : impl_ValidReport_1 a0 =
  (impl_isLine a0).bind fun x1 =>
   some (!x1) :=
 (mk_f _ _ _ _ _ _ _ 4000).trans (by kernel_rfl)

/- slices.IndexFunc[[]string,string]@impl.ValidReport$1 -/
def slices_IndexFunc___string_string__impl_ValidReport_1_k0 : C :=
 .seq (.reg false [.V 9 (.bin .lss (.t 8) (.t 7))] [0, 1, 7, 8, 9] []) (.seq (.cond (.t 9) .skip (.exit 0)) (.seq (.block 1 (.seq (.reg false [.V 10 (.mv (.t 8)), .V 5 (.asg (.t 10))] [0, 1, 5, 7, 8] []) (.seq (.reg false [.V 11 (.mv (.t 1)), .V 12 (.mv (.t 0)), .V 13 (.mv (.t 5)), .V 14 (.ia 1 (.t 12) (.t 13)), .V 15 (.ld none (.t 14)), .V 16 (.call (.t 11) [.t 15])] [0, 1, 5, 7, 8, 16] []) (.cond (.t 16) (.seq (.reg false [.V 17 (.mv (.t 5)), .V 4 (.asg (.t 17))] [4] []) .ret) .skip)))) (.reg false [.V 18 (.bin .add (.t 8) (.c (.int .i64 1))), .V 8 (.mv (.t 18))] [0, 1, 7, 8] [])))
def slices_IndexFunc___string_string__impl_ValidReport_1_k1 : C :=
 .norm [0, 1, 7, 8] [] slices_IndexFunc___string_string__impl_ValidReport_1_k0
def slices_IndexFunc___string_string__impl_ValidReport_1_k2 : C :=
 .seq (.reg false [.V 4 (.asg (.c (.int .i64 (-1))))] [4] []) .ret
def slices_IndexFunc___string_string__impl_ValidReport_1_ir : Fn := { np := 2, io := [], res := [.t 4], own := [false], body :=
 (.seq (.reg false [.V 4 (.asg (.c (.int .i64 0)))] [0, 1] []) (.seq (.seq (.reg false [.V 6 (.mv (.t 0)), .V 7 (.len (.t 6)), .V 8 (.mv (.c (.int .i64 0)))] [0, 1, 7, 8] []) (.block 0 (.loop slices_IndexFunc___string_string__impl_ValidReport_1_k1))) slices_IndexFunc___string_string__impl_ValidReport_1_k2)) }
noncomputable def slices_IndexFunc___string_string__impl_ValidReport_1_D : List (Nat × Callee) := [(872, impl_ValidReport_1_c)]
def slices_IndexFunc___string_string__impl_ValidReport_1_H : List (Nat × ET) := [(6, (.one .str)), (12, (.one .str))]
noncomputable def slices_IndexFunc___string_string__impl_ValidReport_1_c : Callee := mkCallee slices_IndexFunc___string_string__impl_ValidReport_1_D slices_IndexFunc___string_string__impl_ValidReport_1_H slices_IndexFunc___string_string__impl_ValidReport_1_ir [.d (.one (.sl (.one .str))), .fn 872 []] [.d (.one (.int .i64))] []
noncomputable def slices_IndexFunc___string_string__impl_ValidReport_1 (a0 : List (List UInt8)) (a1 : Unit) : Option (Int) := slices_IndexFunc___string_string__impl_ValidReport_1_c.f (a0, a1, ())
noncomputable def slices_IndexFunc___string_string__impl_ValidReport_1_p0  (v0 : List (List UInt8)) (v7 : Int) (v8 : Int) : Option (Int) :=
 goL slices_IndexFunc___string_string__impl_ValidReport_1_D slices_IndexFunc___string_string__impl_ValidReport_1_H (vleave slices_IndexFunc___string_string__impl_ValidReport_1_ir [.d (.one (.sl (.one .str))), .fn 872 []] [.d (.one (.int .i64))] [] []) [.c slices_IndexFunc___string_string__impl_ValidReport_1_k0, .l slices_IndexFunc___string_string__impl_ValidReport_1_k1, .e 0, .c slices_IndexFunc___string_string__impl_ValidReport_1_k2]
  ⟨[(0, .sl (.one .str) v0), (1, .fn 872 []), (7, .int .i64 v7), (8, .int .i64 v8)], []⟩
theorem slices_IndexFunc___string_string__impl_ValidReport_1_eq (a0 : List (List UInt8)) (a1 : Unit) : slices_IndexFunc___string_string__impl_ValidReport_1 a0 a1 =
  slices_IndexFunc___string_string__impl_ValidReport_1_p0 a0 (a0.length : Int) 0 :=
 (mk_f _ _ _ _ _ _ _ 4000).trans (by kernel_rfl)
theorem slices_IndexFunc___string_string__impl_ValidReport_1_p0_eq  (v0 : List (List UInt8)) (v7 : Int) (v8 : Int) : slices_IndexFunc___string_string__impl_ValidReport_1_p0 v0 v7 v8 =
  if decide (v8 < v7) then
   if decide (0 ≤ v8) then
    (v0[v8.toNat]?).bind fun x1 =>
     (impl_ValidReport_1 x1).bind fun x2 =>
      if x2 then
       some v8
      else
       slices_IndexFunc___string_string__impl_ValidReport_1_p0 v0 v7 (IntKind.i64.wrap (v8 + 1))
   else
    none
  else
   some (-1) :=
 (goL_dn _ _ _ 4000 _ _).trans (by kernel_rfl)

/- slices.ContainsFunc[[]string,string]@impl.ValidReport$1 -/
def slices_ContainsFunc___string_string__impl_ValidReport_1_ir : Fn := { np := 2, io := [], res := [.t 4], own := [false], body :=
 (.seq (.reg false [.V 4 (.asg (.c (.bool false)))] [0, 1] []) (.seq (.reg false [.V 5 (.mv (.t 0)), .V 6 (.mv (.t 1)), .V 7 (.call (.c (.fn 1237 [])) [.t 5, .t 6]), .V 8 (.bin .geq (.t 7) (.c (.int .i64 0))), .V 4 (.asg (.t 8))] [4] []) .ret)) }
noncomputable def slices_ContainsFunc___string_string__impl_ValidReport_1_D : List (Nat × Callee) := [(872, impl_ValidReport_1_c), (1237, slices_IndexFunc___string_string__impl_ValidReport_1_c)]
def slices_ContainsFunc___string_string__impl_ValidReport_1_H : List (Nat × ET) := [(5, (.one .str))]
noncomputable def slices_ContainsFunc___string_string__impl_ValidReport_1_c : Callee := mkCallee slices_ContainsFunc___string_string__impl_ValidReport_1_D slices_ContainsFunc___string_string__impl_ValidReport_1_H slices_ContainsFunc___string_string__impl_ValidReport_1_ir [.d (.one (.sl (.one .str))), .fn 872 []] [.d (.one .bool)] []
noncomputable def slices_ContainsFunc___string_string__impl_ValidReport_1 (a0 : List (List UInt8)) (a1 : Unit) : Option (Bool) := slices_ContainsFunc___string_string__impl_ValidReport_1_c.f (a0, a1, ())
theorem slices_ContainsFunc___string_string__impl_ValidReport_1_eq (a0 : List (List UInt8)) (a1 : Unit) : slices_ContainsFunc___string_string__impl_ValidReport_1 a0 a1 =
  (slices_IndexFunc___string_string__impl_ValidReport_1 a0 ()).bind fun x1 =>
   some (decide (x1 ≥ 0)) :=
 (mk_f _ _ _ _ _ _ _ 4000).trans (by kernel_rfl)

/- impl.ValidReport -/
def impl_ValidReport_ir : Fn := { np := 1, io := [], res := [.t 2], own := [false], body :=
 (.seq (.reg false [.V 2 (.asg (.c (.bool false)))] [0] []) (.seq (.reg false [.V 3 (.mv (.t 0)), .V 4 (.len (.t 3)), .V 5 (.call (.c (.fn 21 [])) [.t 4, .c (.int .i64 200)]), .V 6 (.mv (.t 5)), .G 7 (.mv (.t 0)) 3 true, .G 8 (.call (.c (.fn 1238 [])) [.t 7, .c (.fn 872 [])]) 3 true, .G 9 (.un .not (.t 8)) 3 true, .V 10 (.pick (.t 6) (.t 9) (.c (.bool false))), .V 2 (.asg (.t 10))] [2] []) .ret)) }
noncomputable def impl_ValidReport_D : List (Nat × Callee) := [(21, impl_few_c), (872, impl_ValidReport_1_c), (1238, slices_ContainsFunc___string_string__impl_ValidReport_1_c)]
def impl_ValidReport_H : List (Nat × ET) := [(3, (.one .str)), (7, (.one .str))]
noncomputable def impl_ValidReport_c : Callee := mkCallee impl_ValidReport_D impl_ValidReport_H impl_ValidReport_ir [.d (.one (.sl (.one .str)))] [.d (.one .bool)] []
noncomputable def impl_ValidReport (a0 : List (List UInt8)) : Option (Bool) := impl_ValidReport_c.f (a0, ())
theorem impl_ValidReport_eq (a0 : List (List UInt8)) : impl_ValidReport a0 =
  (impl_few (a0.length : Int) 200).bind fun x1 =>
   if x1 then
    (slices_ContainsFunc___string_string__impl_ValidReport_1 a0 ()).bind fun x2 =>
     some (!x2)
   else
    some false :=
 (mk_f _ _ _ _ _ _ _ 4000).trans (by kernel_rfl)

/- impl.report -/
def impl_report_ir : Fn := { np := 1, io := [true], res := [.t 2, .t 3], own := [true, false], body :=
 (.seq (.reg false [.W 2 (.asg (.c (.nils 1))), .V 3 (.asg (.c (.int .i64 0)))] [0] [0]) (.seq (.seq (.reg false [.V 4 (.mv (.t 0)), .V 5 (.call (.c (.fn 566 [])) [.t 4]), .V 6 (.un .not (.t 5))] [0, 6] [0]) (.cond (.t 6) (.seq (.reg false [.W 2 (.asg (.c (.nils 1))), .V 3 (.asg (.c (.int .i64 5)))] [0, 2, 3] [0, 2]) .ret) .skip)) (.seq (.reg false [.V 7 (.mv (.t 0)), .W 2 (.asg (.t 7)), .V 3 (.asg (.c (.int .i64 0)))] [0, 2, 3] [0, 2]) .ret))), gone := [0] }
noncomputable def impl_report_D : List (Nat × Callee) := [(566, impl_ValidReport_c)]
def impl_report_H : List (Nat × ET) := [(2, (.one .str)), (4, (.one .str)), (7, (.one .str))]
noncomputable def impl_report_c : Callee := mkCallee impl_report_D impl_report_H impl_report_ir [.ios (.one .str)] [.tok (.one .str), .d (.one (.int .i64))] [.gone]
noncomputable def impl_report (a0 : List (List UInt8)) : Option (List (List UInt8) × Int × Unit) := impl_report_c.f (a0, ())
theorem impl_report_eq (a0 : List (List UInt8)) : impl_report a0 =
  (impl_ValidReport (a0.take a0.length)).bind fun x1 =>
   if (!x1) then
    some ([], 5, ())
   else
    some ((a0.take a0.length), 0, ()) :=
 (mk_f _ _ _ _ _ _ _ 4000).trans (by kernel_rfl)

/- impl.BarLines -/
def impl_BarLines_k0 : C :=
 .seq (.reg false [.V 18 (.bin .lss (.t 17) (.t 16))] [0, 1, 6, 15, 16, 17, 18] []) (.seq (.cond (.t 18) .skip (.exit 0)) (.seq (.block 1 (.seq (.reg false [.V 19 (.ia 1 (.t 15) (.t 17)), .V 20 (.ld none (.t 19)), .V 8 (.asg (.t 20))] [0, 1, 6, 8, 15, 16, 17] []) (.seq (.seq (.reg false [.V 21 (.mv (.t 8)), .V 22 (.call (.c (.fn 23 [])) [.t 21, .c (.int .i64 0), .c (.int .i64 1000000000000)]), .V 23 (.un .not (.t 22))] [0, 1, 6, 8, 15, 16, 17, 23] []) (.cond (.t 23) (.seq (.reg false [.W 4 (.asg (.c (.nils 1))), .V 5 (.asg (.c (.int .i64 2)))] [4, 5] [4]) .ret) .skip)) (.reg false [.V 24 (.mv (.t 6)), .V 25 (.mv (.t 8)), .V 26 (.max [.t 24, .t 25]), .V 6 (.asg (.t 26))] [0, 1, 6, 15, 16, 17] [])))) (.reg false [.V 27 (.bin .add (.t 17) (.c (.int .i64 1))), .V 17 (.mv (.t 27))] [0, 1, 6, 15, 16, 17] [])))
def impl_BarLines_k1 : C :=
 .norm [0, 1, 6, 15, 16, 17] [] impl_BarLines_k0
def impl_BarLines_k2 : C :=
 .seq (.reg false [.V 32 (.bin .lss (.t 31) (.t 30))] [1, 6, 9, 29, 30, 31, 32] [9]) (.seq (.cond (.t 32) .skip (.exit 2)) (.seq (.block 3 (.seq (.reg false [.V 33 (.ia 1 (.t 29) (.t 31)), .V 34 (.ld none (.t 33)), .V 11 (.asg (.t 34))] [1, 6, 9, 11, 29, 30, 31] [9]) (.reg false [.V 35 (.mv (.t 9)), .V 36 (.mv (.t 11)), .V 37 (.mv (.t 1)), .V 38 (.bin .mul (.t 36) (.t 37)), .V 39 (.mv (.t 6)), .V 40 (.max [.c (.int .i64 1), .t 39]), .V 41 (.bin .quo (.t 38) (.t 40)), .V 42 (.call (.c (.fn 518 [])) [.c (.str [35]), .t 41]), .V 43 (.bsl 1 (.str []) 1 [(0, .t 42)]), .W 44 (.app 1 16 (.t 35) (.t 43)), .W 9 (.asg (.t 44))] [1, 6, 9, 29, 30, 31] [9]))) (.reg false [.V 45 (.bin .add (.t 31) (.c (.int .i64 1))), .V 31 (.mv (.t 45))] [1, 6, 9, 29, 30, 31] [9])))
def impl_BarLines_k3 : C :=
 .norm [1, 6, 9, 29, 30, 31] [9] impl_BarLines_k2
def impl_BarLines_k4 : C :=
 .seq (.reg false [.V 46 (.mv (.t 9)), .W 47 (.call (.c (.fn 517 [])) [.t 46]), .V 48 (.ext (.t 47) 0), .V 49 (.ext (.t 47) 1), .W 4 (.asg (.t 48)), .V 5 (.asg (.t 49))] [4, 5] [4]) .ret
def impl_BarLines_k5 : C :=
 .seq (.reg false [.V 28 (.bsl 1 (.str []) 0 []), .W 9 (.asg (.t 28))] [0, 1, 6, 9] [9]) (.seq (.seq (.reg false [.V 29 (.mv (.t 0)), .V 30 (.len (.t 29)), .V 31 (.mv (.c (.int .i64 0)))] [1, 6, 9, 29, 30, 31] [9]) (.block 2 (.loop impl_BarLines_k3))) impl_BarLines_k4)
def impl_BarLines_ir : Fn := { np := 2, io := [], res := [.t 4, .t 5], own := [true, false], body :=
 (.seq (.reg false [.W 4 (.asg (.c (.nils 1))), .V 5 (.asg (.c (.int .i64 0)))] [0, 1] []) (.seq (.seq (.reg false [.V 12 (.mv (.t 1)), .V 13 (.call (.c (.fn 23 [])) [.t 12, .c (.int .i64 1), .c (.int .i64 100)]), .V 14 (.un .not (.t 13))] [0, 1, 14] []) (.cond (.t 14) (.seq (.reg false [.W 4 (.asg (.c (.nils 1))), .V 5 (.asg (.c (.int .i64 2)))] [4, 5] [4]) .ret) .skip)) (.seq (.reg false [.V 6 (.asg (.c (.int .i64 0)))] [0, 1, 6] []) (.seq (.seq (.reg false [.V 15 (.mv (.t 0)), .V 16 (.len (.t 15)), .V 17 (.mv (.c (.int .i64 0)))] [0, 1, 6, 15, 16, 17] []) (.block 0 (.loop impl_BarLines_k1))) impl_BarLines_k5)))) }
noncomputable def impl_BarLines_D : List (Nat × Callee) := [(23, impl_within_c), (517, impl_report_c), (518, strings_Repeat_c)]
def impl_BarLines_H : List (Nat × ET) := [(4, (.one .str)), (9, (.one .str)), (15, (.one (.int .i64))), (28, (.one .str)), (29, (.one (.int .i64))), (35, (.one .str)), (43, (.one .str)), (44, (.one .str)), (46, (.one .str)), (48, (.one .str))]
noncomputable def impl_BarLines_c : Callee := mkCallee impl_BarLines_D impl_BarLines_H impl_BarLines_ir [.d (.one (.sl (.one (.int .i64)))), .d (.one (.int .i64))] [.tok (.one .str), .d (.one (.int .i64))] []
noncomputable def impl_BarLines (a0 : List Int) (a1 : Int) : Option (List (List UInt8) × Int) := impl_BarLines_c.f (a0, a1, ())
noncomputable def impl_BarLines_p0  (v0 : List Int) (v1 : Int) (v6 : Int) (v15 : List Int) (v16 : Int) (v17 : Int) : Option (List (List UInt8) × Int) :=
 goL impl_BarLines_D impl_BarLines_H (vleave impl_BarLines_ir [.d (.one (.sl (.one (.int .i64)))), .d (.one (.int .i64))] [.tok (.one .str), .d (.one (.int .i64))] [] []) [.c impl_BarLines_k0, .l impl_BarLines_k1, .e 0, .c impl_BarLines_k5]
  ⟨[(0, .sl (.one (.int .i64)) v0), (1, .int .i64 v1), (6, .int .i64 v6), (15, .sl (.one (.int .i64)) v15), (16, .int .i64 v16), (17, .int .i64 v17)], []⟩
noncomputable def impl_BarLines_p1  (v1 : Int) (v6 : Int) (v29 : List Int) (v30 : Int) (v31 : Int) (r9 : List (List UInt8)) : Option (List (List UInt8) × Int) :=
 goL impl_BarLines_D impl_BarLines_H (vleave impl_BarLines_ir [.d (.one (.sl (.one (.int .i64)))), .d (.one (.int .i64))] [.tok (.one .str), .d (.one (.int .i64))] [] []) [.c impl_BarLines_k2, .l impl_BarLines_k3, .e 2, .c impl_BarLines_k4]
  ⟨[(1, .int .i64 v1), (6, .int .i64 v6), (9, .view 9 0 r9.length), (29, .sl (.one (.int .i64)) v29), (30, .int .i64 v30), (31, .int .i64 v31)], [(9, some (.sl (.one .str) r9))]⟩
theorem impl_BarLines_eq (a0 : List Int) (a1 : Int) : impl_BarLines a0 a1 =
  (impl_within a1 1 100).bind fun x1 =>
   if (!x1) then
    some ([], 2)
   else
    impl_BarLines_p0 a0 a1 0 a0 (a0.length : Int) 0 :=
 (mk_f _ _ _ _ _ _ _ 4000).trans (by kernel_rfl)
theorem impl_BarLines_p0_eq  (v0 : List Int) (v1 : Int) (v6 : Int) (v15 : List Int) (v16 : Int) (v17 : Int) : impl_BarLines_p0 v0 v1 v6 v15 v16 v17 =
  if decide (v17 < v16) then
   if decide (0 ≤ v17) then
    (v15[v17.toNat]?).bind fun x1 =>
     (impl_within x1 0 1000000000000).bind fun x2 =>
      if (!x2) then
       some ([], 2)
      else
       impl_BarLines_p0 v0 v1 (if x1 > v6 then x1 else v6) v15 v16 (IntKind.i64.wrap (v17 + 1))
   else
    none
  else
   impl_BarLines_p1 v1 v6 v0 (v0.length : Int) 0 [] :=
 (goL_dn _ _ _ 4000 _ _).trans (by kernel_rfl)
theorem impl_BarLines_p1_eq  (v1 : Int) (v6 : Int) (v29 : List Int) (v30 : Int) (v31 : Int) (r9 : List (List UInt8)) : impl_BarLines_p1 v1 v6 v29 v30 v31 r9 =
  if decide (v31 < v30) then
   if decide (0 ≤ v31) then
    (v29[v31.toNat]?).bind fun x1 =>
     if decide ((if v6 > 1 then v6 else 1) = 0) then
      none
     else
      (strings_Repeat [35] (IntKind.i64.wrap ((IntKind.i64.wrap (x1 * v1)).tdiv (if v6 > 1 then v6 else 1)))).bind fun x2 =>
       if decide (r9.length + 1 < lim) then
        impl_BarLines_p1 v1 v6 v29 v30 (IntKind.i64.wrap (v31 + 1)) ((r9.take r9.length) ++ [x2])
       else
        none
   else
    none
  else
   if decide (r9.length = r9.length) then
    (impl_report r9).bind fun x3 =>
     some ((x3.1.take x3.1.length), x3.2.1)
   else
    none :=
 (goL_dn _ _ _ 4000 _ _).trans (by kernel_rfl)

/- laws.eqStringS -/
def laws_eqStringS_k0 : C :=
 .seq (.seq (.reg false [.V 11 (.mv (.t 5)), .V 12 (.mv (.t 0)), .V 13 (.len (.t 12)), .V 14 (.bin .lss (.t 11) (.t 13))] [0, 1, 5, 14] []) (.cond (.t 14) .skip (.exit 0))) (.seq (.block 1 (.seq (.reg true [.V 17 (.mv (.t 0)), .V 18 (.mv (.t 5)), .V 19 (.ia 1 (.t 17) (.t 18)), .V 20 (.ld none (.t 19)), .V 21 (.mv (.t 1)), .V 22 (.mv (.t 5)), .V 23 (.ia 1 (.t 21) (.t 22)), .V 24 (.ld none (.t 23)), .V 25 (.bin .neq (.t 20) (.t 24))] [0, 1, 5, 25] []) (.cond (.t 25) (.seq (.reg false [.V 4 (.asg (.c (.bool false)))] [4] []) .ret) .skip))) (.reg false [.V 15 (.mv (.t 5)), .V 16 (.bin .add (.t 15) (.c (.int .i64 1))), .V 5 (.asg (.t 16))] [0, 1, 5] []))
def laws_eqStringS_k1 : C :=
 .norm [0, 1, 5] [] laws_eqStringS_k0
def laws_eqStringS_k2 : C :=
 .seq (.reg false [.V 4 (.asg (.c (.bool true)))] [4] []) .ret
def laws_eqStringS_ir : Fn := { np := 2, io := [], res := [.t 4], own := [false], body :=
 (.seq (.reg false [.V 4 (.asg (.c (.bool false)))] [0, 1] []) (.seq (.seq (.reg false [.V 6 (.mv (.t 0)), .V 7 (.len (.t 6)), .V 8 (.mv (.t 1)), .V 9 (.len (.t 8)), .V 10 (.bin .neq (.t 7) (.t 9))] [0, 1, 10] []) (.cond (.t 10) (.seq (.reg false [.V 4 (.asg (.c (.bool false)))] [4] []) .ret) .skip)) (.seq (.seq (.reg false [.V 5 (.asg (.c (.int .i64 0)))] [0, 1, 5] []) (.block 0 (.loop laws_eqStringS_k1))) laws_eqStringS_k2))) }
noncomputable def laws_eqStringS_D : List (Nat × Callee) := []
def laws_eqStringS_H : List (Nat × ET) := [(6, (.one .str)), (8, (.one .str)), (12, (.one .str)), (17, (.one .str)), (21, (.one .str))]
noncomputable def laws_eqStringS_c : Callee := mkCallee laws_eqStringS_D laws_eqStringS_H laws_eqStringS_ir [.d (.one (.sl (.one .str))), .d (.one (.sl (.one .str)))] [.d (.one .bool)] []
noncomputable def laws_eqStringS (a0 : List (List UInt8)) (a1 : List (List UInt8)) : Option (Bool) := laws_eqStringS_c.f (a0, a1, ())
noncomputable def laws_eqStringS_p0  (v0 : List (List UInt8)) (v1 : List (List UInt8)) (v5 : Int) : Option (Bool) :=
 goL laws_eqStringS_D laws_eqStringS_H (vleave laws_eqStringS_ir [.d (.one (.sl (.one .str))), .d (.one (.sl (.one .str)))] [.d (.one .bool)] [] []) [.c laws_eqStringS_k0, .l laws_eqStringS_k1, .e 0, .c laws_eqStringS_k2]
  ⟨[(0, .sl (.one .str) v0), (1, .sl (.one .str) v1), (5, .int .i64 v5)], []⟩
theorem laws_eqStringS_eq (a0 : List (List UInt8)) (a1 : List (List UInt8)) : laws_eqStringS a0 a1 =
  if ((a0.length : Int) != (a1.length : Int)) then
   some false
  else
   laws_eqStringS_p0 a0 a1 0 :=
 (mk_f _ _ _ _ _ _ _ 4000).trans (by kernel_rfl)
theorem laws_eqStringS_p0_eq  (v0 : List (List UInt8)) (v1 : List (List UInt8)) (v5 : Int) : laws_eqStringS_p0 v0 v1 v5 =
  if decide (v5 < (v0.length : Int)) then
   if decide (0 ≤ v5) then
    (v0[v5.toNat]?).bind fun x1 =>
     if decide (0 ≤ v5) then
      (v1[v5.toNat]?).bind fun x2 =>
       if (!(x1 == x2)) then
        some false
       else
        laws_eqStringS_p0 v0 v1 (IntKind.i64.wrap (v5 + 1))
     else
      none
   else
    none
  else
   some true :=
 (goL_dn _ _ _ 4000 _ _).trans (by kernel_rfl)

/- laws.eqInt64S -/
def laws_eqInt64S_k0 : C :=
 .seq (.seq (.reg false [.V 11 (.mv (.t 5)), .V 12 (.mv (.t 0)), .V 13 (.len (.t 12)), .V 14 (.bin .lss (.t 11) (.t 13))] [0, 1, 5, 14] []) (.cond (.t 14) .skip (.exit 0))) (.seq (.block 1 (.seq (.reg true [.V 17 (.mv (.t 0)), .V 18 (.mv (.t 5)), .V 19 (.ia 1 (.t 17) (.t 18)), .V 20 (.ld none (.t 19)), .V 21 (.mv (.t 1)), .V 22 (.mv (.t 5)), .V 23 (.ia 1 (.t 21) (.t 22)), .V 24 (.ld none (.t 23)), .V 25 (.bin .neq (.t 20) (.t 24))] [0, 1, 5, 25] []) (.cond (.t 25) (.seq (.reg false [.V 4 (.asg (.c (.bool false)))] [4] []) .ret) .skip))) (.reg false [.V 15 (.mv (.t 5)), .V 16 (.bin .add (.t 15) (.c (.int .i64 1))), .V 5 (.asg (.t 16))] [0, 1, 5] []))
def laws_eqInt64S_k1 : C :=
 .norm [0, 1, 5] [] laws_eqInt64S_k0
def laws_eqInt64S_k2 : C :=
 .seq (.reg false [.V 4 (.asg (.c (.bool true)))] [4] []) .ret
def laws_eqInt64S_ir : Fn := { np := 2, io := [], res := [.t 4], own := [false], body :=
 (.seq (.reg false [.V 4 (.asg (.c (.bool false)))] [0, 1] []) (.seq (.seq (.reg false [.V 6 (.mv (.t 0)), .V 7 (.len (.t 6)), .V 8 (.mv (.t 1)), .V 9 (.len (.t 8)), .V 10 (.bin .neq (.t 7) (.t 9))] [0, 1, 10] []) (.cond (.t 10) (.seq (.reg false [.V 4 (.asg (.c (.bool false)))] [4] []) .ret) .skip)) (.seq (.seq (.reg false [.V 5 (.asg (.c (.int .i64 0)))] [0, 1, 5] []) (.block 0 (.loop laws_eqInt64S_k1))) laws_eqInt64S_k2))) }
noncomputable def laws_eqInt64S_D : List (Nat × Callee) := []
def laws_eqInt64S_H : List (Nat × ET) := [(6, (.one (.int .i64))), (8, (.one (.int .i64))), (12, (.one (.int .i64))), (17, (.one (.int .i64))), (21, (.one (.int .i64)))]
noncomputable def laws_eqInt64S_c : Callee := mkCallee laws_eqInt64S_D laws_eqInt64S_H laws_eqInt64S_ir [.d (.one (.sl (.one (.int .i64)))), .d (.one (.sl (.one (.int .i64))))] [.d (.one .bool)] []
noncomputable def laws_eqInt64S (a0 : List Int) (a1 : List Int) : Option (Bool) := laws_eqInt64S_c.f (a0, a1, ())
noncomputable def laws_eqInt64S_p0  (v0 : List Int) (v1 : List Int) (v5 : Int) : Option (Bool) :=
 goL laws_eqInt64S_D laws_eqInt64S_H (vleave laws_eqInt64S_ir [.d (.one (.sl (.one (.int .i64)))), .d (.one (.sl (.one (.int .i64))))] [.d (.one .bool)] [] []) [.c laws_eqInt64S_k0, .l laws_eqInt64S_k1, .e 0, .c laws_eqInt64S_k2]
  ⟨[(0, .sl (.one (.int .i64)) v0), (1, .sl (.one (.int .i64)) v1), (5, .int .i64 v5)], []⟩
theorem laws_eqInt64S_eq (a0 : List Int) (a1 : List Int) : laws_eqInt64S a0 a1 =
  if ((a0.length : Int) != (a1.length : Int)) then
   some false
  else
   laws_eqInt64S_p0 a0 a1 0 :=
 (mk_f _ _ _ _ _ _ _ 4000).trans (by kernel_rfl)
theorem laws_eqInt64S_p0_eq  (v0 : List Int) (v1 : List Int) (v5 : Int) : laws_eqInt64S_p0 v0 v1 v5 =
  if decide (v5 < (v0.length : Int)) then
   if decide (0 ≤ v5) then
    (v0[v5.toNat]?).bind fun x1 =>
     if decide (0 ≤ v5) then
      (v1[v5.toNat]?).bind fun x2 =>
       if (x1 != x2) then
        some false
       else
        laws_eqInt64S_p0 v0 v1 (IntKind.i64.wrap (v5 + 1))
     else
      none
   else
    none
  else
   some true :=
 (goL_dn _ _ _ 4000 _ _).trans (by kernel_rfl)

/- laws.markInt64S -/
def laws_markInt64S_k0 : C :=
 .seq (.seq (.reg false [.V 6 (.mv (.t 5)), .V 7 (.mv (.t 0)), .V 8 (.len (.t 7)), .V 9 (.bin .lss (.t 6) (.t 8))] [0, 1, 5, 9] [0]) (.cond (.t 9) .skip (.exit 0))) (.seq (.block 1 (.seq (.reg false [.V 12 (.mv (.t 0)), .V 13 (.mv (.t 5)), .V 14 (.mv (.t 1)), .V 15 (.ia 1 (.t 12) (.t 13)), ⟨none, true, .sto 1 (.t 15) (.t 14), none, false, []⟩] [0, 1, 5] [0]) (.reg false [.V 16 (.mv (.t 1)), .V 17 (.bin .add (.t 16) (.c (.int .i64 1))), .V 1 (.asg (.t 17))] [0, 1, 5] [0]))) (.reg false [.V 10 (.mv (.t 5)), .V 11 (.bin .add (.t 10) (.c (.int .i64 1))), .V 5 (.asg (.t 11))] [0, 1, 5] [0]))
def laws_markInt64S_k1 : C :=
 .norm [0, 1, 5] [0] laws_markInt64S_k0
def laws_markInt64S_k2 : C :=
 .seq (.reg false [.V 18 (.mv (.t 1)), .V 4 (.asg (.t 18))] [0, 4] [0]) .ret
def laws_markInt64S_ir : Fn := { np := 2, io := [true, false], res := [.t 4], own := [false], body :=
 (.seq (.reg false [.V 4 (.asg (.c (.int .i64 0)))] [0, 1] [0]) (.seq (.seq (.reg false [.V 5 (.asg (.c (.int .i64 0)))] [0, 1, 5] [0]) (.block 0 (.loop laws_markInt64S_k1))) laws_markInt64S_k2)) }
noncomputable def laws_markInt64S_D : List (Nat × Callee) := []
def laws_markInt64S_H : List (Nat × ET) := [(7, (.one (.int .i64))), (12, (.one (.int .i64)))]
noncomputable def laws_markInt64S_c : Callee := mkCallee laws_markInt64S_D laws_markInt64S_H laws_markInt64S_ir [.ios (.one (.int .i64)), .d (.one (.int .i64))] [.d (.one (.int .i64))] [.ios (.one (.int .i64))]
noncomputable def laws_markInt64S (a0 : List Int) (a1 : Int) : Option (Int × List Int) := laws_markInt64S_c.f (a0, a1, ())
noncomputable def laws_markInt64S_p0 (l0 : Nat) (v0n : Nat) (v1 : Int) (v5 : Int) (r0 : List Int) : Option (Int × List Int) :=
 goL laws_markInt64S_D laws_markInt64S_H (vleave laws_markInt64S_ir [.ios (.one (.int .i64)), .d (.one (.int .i64))] [.d (.one (.int .i64))] [.ios (.one (.int .i64))] [l0]) [.c laws_markInt64S_k0, .l laws_markInt64S_k1, .e 0, .c laws_markInt64S_k2]
  ⟨[(0, .view 0 0 v0n), (1, .int .i64 v1), (5, .int .i64 v5)], [(0, some (.sl (.one (.int .i64)) r0))]⟩
theorem laws_markInt64S_eq (a0 : List Int) (a1 : Int) : laws_markInt64S a0 a1 =
  laws_markInt64S_p0 a0.length a0.length a1 0 a0 :=
 (mk_f _ _ _ _ _ _ _ 4000).trans (by kernel_rfl)
theorem laws_markInt64S_p0_eq (l0 : Nat) (v0n : Nat) (v1 : Int) (v5 : Int) (r0 : List Int) : laws_markInt64S_p0 l0 v0n v1 v5 r0 =
  if decide (v5 < (v0n : Int)) then
   if decide (0 ≤ v5) && decide (v5 < (v0n : Int)) then
    (r0[v5.toNat]?).bind fun x1 =>
     laws_markInt64S_p0 l0 v0n (IntKind.i64.wrap (v1 + 1)) (IntKind.i64.wrap (v5 + 1)) (r0.set v5.toNat v1)
   else
    none
  else
   if decide (r0.length = l0) then
    some (v1, r0)
   else
    none :=
 (goL_dn _ _ _ 4000 _ _).trans (by kernel_rfl)

/- laws.markText -/
def laws_markText_k0 : C :=
 .seq (.seq (.reg false [.V 6 (.mv (.t 0)), .V 7 (.bin .gtr (.t 6) (.c (.int .i64 0)))] [0, 3, 7] []) (.cond (.t 7) .skip (.exit 0))) (.block 1 (.seq (.reg false [.V 8 (.mv (.t 0)), .V 9 (.bin .rem (.t 8) (.c (.int .i64 10))), .V 10 (.bin .add (.c (.int .i64 48)) (.t 9)), .V 11 (.conv (.int .u8) (.t 10)), .V 12 (.bsl 1 (.int .u8 0) 1 [(0, .t 11)]), .V 13 (.conv .bytesStr (.t 12)), .V 14 (.mv (.t 3)), .V 15 (.bin .add (.t 13) (.t 14)), .V 3 (.asg (.t 15))] [0, 3] []) (.reg false [.V 16 (.mv (.t 0)), .V 17 (.bin .quo (.t 16) (.c (.int .i64 10))), .V 0 (.asg (.t 17))] [0, 3] [])))
def laws_markText_k1 : C :=
 .norm [0, 3] [] laws_markText_k0
def laws_markText_k2 : C :=
 .seq (.reg false [.V 18 (.mv (.t 3)), .V 19 (.bin .add (.c (.str [109])) (.t 18)), .V 2 (.asg (.t 19))] [2] []) .ret
def laws_markText_ir : Fn := { np := 1, io := [], res := [.t 2], own := [false], body :=
 (.seq (.reg false [.V 2 (.asg (.c (.str [])))] [0] []) (.seq (.seq (.reg false [.V 4 (.mv (.t 0)), .V 5 (.bin .leq (.t 4) (.c (.int .i64 0)))] [0, 5] []) (.cond (.t 5) (.seq (.reg false [.V 2 (.asg (.c (.str [109, 48])))] [2] []) .ret) .skip)) (.seq (.reg false [.V 3 (.asg (.c (.str [])))] [0, 3] []) (.seq (.block 0 (.loop laws_markText_k1)) laws_markText_k2)))) }
noncomputable def laws_markText_D : List (Nat × Callee) := []
def laws_markText_H : List (Nat × ET) := [(12, (.one (.int .u8)))]
noncomputable def laws_markText_c : Callee := mkCallee laws_markText_D laws_markText_H laws_markText_ir [.d (.one (.int .i64))] [.d (.one .str)] []
noncomputable def laws_markText (a0 : Int) : Option (List UInt8) := laws_markText_c.f (a0, ())
noncomputable def laws_markText_p0  (v0 : Int) (v3 : List UInt8) : Option (List UInt8) :=
 goL laws_markText_D laws_markText_H (vleave laws_markText_ir [.d (.one (.int .i64))] [.d (.one .str)] [] []) [.c laws_markText_k0, .l laws_markText_k1, .e 0, .c laws_markText_k2]
  ⟨[(0, .int .i64 v0), (3, .str v3)], []⟩
theorem laws_markText_eq (a0 : Int) : laws_markText a0 =
  if decide (a0 ≤ 0) then
   some [109, 48]
  else
   laws_markText_p0 a0 [] :=
 (mk_f _ _ _ _ _ _ _ 4000).trans (by kernel_rfl)
theorem laws_markText_p0_eq  (v0 : Int) (v3 : List UInt8) : laws_markText_p0 v0 v3 =
  if decide (v0 > 0) then
   if decide (([IntKind.u8.wrap (IntKind.i64.wrap (48 + (v0.tmod 10)))].map vu8).length + v3.length ≤ strMax) then
    laws_markText_p0 (IntKind.i64.wrap (v0.tdiv 10)) (([IntKind.u8.wrap (IntKind.i64.wrap (48 + (v0.tmod 10)))].map vu8) ++ v3)
   else
    none
  else
   if decide ([109].length + v3.length ≤ strMax) then
    some ([109] ++ v3)
   else
    none :=
 (goL_dn _ _ _ 4000 _ _).trans (by kernel_rfl)

/- laws.markStringS -/
def laws_markStringS_k0 : C :=
 .seq (.seq (.reg false [.V 6 (.mv (.t 5)), .V 7 (.mv (.t 0)), .V 8 (.len (.t 7)), .V 9 (.bin .lss (.t 6) (.t 8))] [0, 1, 5, 9] [0]) (.cond (.t 9) .skip (.exit 0))) (.seq (.block 1 (.seq (.reg false [.V 12 (.mv (.t 0)), .V 13 (.mv (.t 5)), .V 14 (.mv (.t 1)), .V 15 (.call (.c (.fn 40 [])) [.t 14]), .V 16 (.ia 1 (.t 12) (.t 13)), ⟨none, true, .sto 1 (.t 16) (.t 15), none, false, []⟩] [0, 1, 5] [0]) (.reg false [.V 17 (.mv (.t 1)), .V 18 (.bin .add (.t 17) (.c (.int .i64 1))), .V 1 (.asg (.t 18))] [0, 1, 5] [0]))) (.reg false [.V 10 (.mv (.t 5)), .V 11 (.bin .add (.t 10) (.c (.int .i64 1))), .V 5 (.asg (.t 11))] [0, 1, 5] [0]))
def laws_markStringS_k1 : C :=
 .norm [0, 1, 5] [0] laws_markStringS_k0
def laws_markStringS_k2 : C :=
 .seq (.reg false [.V 19 (.mv (.t 1)), .V 4 (.asg (.t 19))] [0, 4] [0]) .ret
def laws_markStringS_ir : Fn := { np := 2, io := [true, false], res := [.t 4], own := [false], body :=
 (.seq (.reg false [.V 4 (.asg (.c (.int .i64 0)))] [0, 1] [0]) (.seq (.seq (.reg false [.V 5 (.asg (.c (.int .i64 0)))] [0, 1, 5] [0]) (.block 0 (.loop laws_markStringS_k1))) laws_markStringS_k2)) }
noncomputable def laws_markStringS_D : List (Nat × Callee) := [(40, laws_markText_c)]
def laws_markStringS_H : List (Nat × ET) := [(7, (.one .str)), (12, (.one .str))]
noncomputable def laws_markStringS_c : Callee := mkCallee laws_markStringS_D laws_markStringS_H laws_markStringS_ir [.ios (.one .str), .d (.one (.int .i64))] [.d (.one (.int .i64))] [.ios (.one .str)]
noncomputable def laws_markStringS (a0 : List (List UInt8)) (a1 : Int) : Option (Int × List (List UInt8)) := laws_markStringS_c.f (a0, a1, ())
noncomputable def laws_markStringS_p0 (l0 : Nat) (v0n : Nat) (v1 : Int) (v5 : Int) (r0 : List (List UInt8)) : Option (Int × List (List UInt8)) :=
 goL laws_markStringS_D laws_markStringS_H (vleave laws_markStringS_ir [.ios (.one .str), .d (.one (.int .i64))] [.d (.one (.int .i64))] [.ios (.one .str)] [l0]) [.c laws_markStringS_k0, .l laws_markStringS_k1, .e 0, .c laws_markStringS_k2]
  ⟨[(0, .view 0 0 v0n), (1, .int .i64 v1), (5, .int .i64 v5)], [(0, some (.sl (.one .str) r0))]⟩
theorem laws_markStringS_eq (a0 : List (List UInt8)) (a1 : Int) : laws_markStringS a0 a1 =
  laws_markStringS_p0 a0.length a0.length a1 0 a0 :=
 (mk_f _ _ _ _ _ _ _ 4000).trans (by kernel_rfl)
theorem laws_markStringS_p0_eq (l0 : Nat) (v0n : Nat) (v1 : Int) (v5 : Int) (r0 : List (List UInt8)) : laws_markStringS_p0 l0 v0n v1 v5 r0 =
  if decide (v5 < (v0n : Int)) then
   (laws_markText v1).bind fun x1 =>
    if decide (0 ≤ v5) && decide (v5 < (v0n : Int)) then
     (r0[v5.toNat]?).bind fun x2 =>
      laws_markStringS_p0 l0 v0n (IntKind.i64.wrap (v1 + 1)) (IntKind.i64.wrap (v5 + 1)) (r0.set v5.toNat x1)
    else
     none
  else
   if decide (r0.length = l0) then
    some (v1, r0)
   else
    none :=
 (goL_dn _ _ _ 4000 _ _).trans (by kernel_rfl)

/- laws.heldStringS -/
def laws_heldStringS_k0 : C :=
 .seq (.seq (.reg false [.V 6 (.mv (.t 5)), .V 7 (.mv (.t 0)), .V 8 (.len (.t 7)), .V 9 (.bin .lss (.t 6) (.t 8))] [0, 1, 5, 9] []) (.cond (.t 9) .skip (.exit 0))) (.seq (.block 1 (.seq (.seq (.reg true [.V 12 (.mv (.t 0)), .V 13 (.mv (.t 5)), .V 14 (.ia 1 (.t 12) (.t 13)), .V 15 (.ld none (.t 14)), .V 16 (.mv (.t 1)), .V 17 (.call (.c (.fn 40 [])) [.t 16]), .V 18 (.bin .neq (.t 15) (.t 17))] [0, 1, 5, 18] []) (.cond (.t 18) (.seq (.reg false [.V 4 (.asg (.c (.int .i64 (-1))))] [4] []) .ret) .skip)) (.reg false [.V 19 (.mv (.t 1)), .V 20 (.bin .add (.t 19) (.c (.int .i64 1))), .V 1 (.asg (.t 20))] [0, 1, 5] []))) (.reg false [.V 10 (.mv (.t 5)), .V 11 (.bin .add (.t 10) (.c (.int .i64 1))), .V 5 (.asg (.t 11))] [0, 1, 5] []))
def laws_heldStringS_k1 : C :=
 .norm [0, 1, 5] [] laws_heldStringS_k0
def laws_heldStringS_k2 : C :=
 .seq (.reg false [.V 21 (.mv (.t 1)), .V 4 (.asg (.t 21))] [4] []) .ret
def laws_heldStringS_ir : Fn := { np := 2, io := [], res := [.t 4], own := [false], body :=
 (.seq (.reg false [.V 4 (.asg (.c (.int .i64 0)))] [0, 1] []) (.seq (.seq (.reg false [.V 5 (.asg (.c (.int .i64 0)))] [0, 1, 5] []) (.block 0 (.loop laws_heldStringS_k1))) laws_heldStringS_k2)) }
noncomputable def laws_heldStringS_D : List (Nat × Callee) := [(40, laws_markText_c)]
def laws_heldStringS_H : List (Nat × ET) := [(7, (.one .str)), (12, (.one .str))]
noncomputable def laws_heldStringS_c : Callee := mkCallee laws_heldStringS_D laws_heldStringS_H laws_heldStringS_ir [.d (.one (.sl (.one .str))), .d (.one (.int .i64))] [.d (.one (.int .i64))] []
noncomputable def laws_heldStringS (a0 : List (List UInt8)) (a1 : Int) : Option (Int) := laws_heldStringS_c.f (a0, a1, ())
noncomputable def laws_heldStringS_p0  (v0 : List (List UInt8)) (v1 : Int) (v5 : Int) : Option (Int) :=
 goL laws_heldStringS_D laws_heldStringS_H (vleave laws_heldStringS_ir [.d (.one (.sl (.one .str))), .d (.one (.int .i64))] [.d (.one (.int .i64))] [] []) [.c laws_heldStringS_k0, .l laws_heldStringS_k1, .e 0, .c laws_heldStringS_k2]
  ⟨[(0, .sl (.one .str) v0), (1, .int .i64 v1), (5, .int .i64 v5)], []⟩
theorem laws_heldStringS_eq (a0 : List (List UInt8)) (a1 : Int) : laws_heldStringS a0 a1 =
  laws_heldStringS_p0 a0 a1 0 :=
 (mk_f _ _ _ _ _ _ _ 4000).trans (by kernel_rfl)
theorem laws_heldStringS_p0_eq  (v0 : List (List UInt8)) (v1 : Int) (v5 : Int) : laws_heldStringS_p0 v0 v1 v5 =
  if decide (v5 < (v0.length : Int)) then
   if decide (0 ≤ v5) then
    (v0[v5.toNat]?).bind fun x1 =>
     (laws_markText v1).bind fun x2 =>
      if (!(x1 == x2)) then
       some (-1)
      else
       laws_heldStringS_p0 v0 (IntKind.i64.wrap (v1 + 1)) (IntKind.i64.wrap (v5 + 1))
   else
    none
  else
   some v1 :=
 (goL_dn _ _ _ 4000 _ _).trans (by kernel_rfl)

/- laws.FnExactBarLines -/
def laws_FnExactBarLines_k0 : C :=
 .seq (.reg false [.V 12 (.asg (.c (.int .i64 1)))] [8, 11, 12] [8]) (.seq (.reg false [.V 90 (.mv (.t 8)), .V 91 (.mv (.t 12)), .V 92 (.call (.c (.fn 136 [])) [.t 90, .t 91]), .V 12 (.asg (.t 92))] [11, 12] []) (.seq (.seq (.reg false [.V 93 (.mv (.t 12)), .V 94 (.bin .lss (.t 93) (.c (.int .i64 0)))] [11, 12, 94] []) (.cond (.t 94) (.seq (.reg false [.V 4 (.asg (.c (.bool false)))] [4] []) .ret) .skip)) (.seq (.seq (.reg false [.V 95 (.mv (.t 12)), .V 96 (.mv (.t 11)), .V 97 (.bin .neq (.t 95) (.t 96))] [97] []) (.cond (.t 97) (.seq (.reg false [.V 4 (.asg (.c (.bool false)))] [4] []) .ret) .skip)) (.seq (.reg false [.V 4 (.asg (.c (.bool true)))] [4] []) .ret))))
def laws_FnExactBarLines_k1 : C :=
 .seq (.reg false [.V 11 (.asg (.c (.int .i64 1)))] [0, 1, 5, 6, 8, 11] [5, 8]) (.seq (.reg false [.V 63 (.mv (.t 8)), .V 64 (.mv (.t 11)), .W 65 (.call (.c (.fn 139 [])) [.t 63, .t 64]), .V 11 (.asg (.t 65))] [0, 1, 5, 6, 8, 11] [5, 8]) (.seq (.reg false [.V 12 (.asg (.c (.int .i64 1)))] [0, 1, 5, 6, 8, 11, 12] [5, 8]) (.seq (.reg false [.V 66 (.mv (.t 8)), .V 67 (.mv (.t 12)), .V 68 (.call (.c (.fn 136 [])) [.t 66, .t 67]), .V 12 (.asg (.t 68))] [0, 1, 5, 6, 8, 11, 12] [5, 8]) (.seq (.seq (.reg false [.V 69 (.mv (.t 12)), .V 70 (.bin .lss (.t 69) (.c (.int .i64 0)))] [0, 1, 5, 6, 8, 11, 12, 70] [5, 8]) (.cond (.t 70) (.seq (.reg false [.V 4 (.asg (.c (.bool false)))] [4] []) .ret) .skip)) (.seq (.seq (.reg false [.V 71 (.mv (.t 12)), .V 72 (.mv (.t 11)), .V 73 (.bin .neq (.t 71) (.t 72))] [0, 1, 5, 6, 8, 11, 73] [5, 8]) (.cond (.t 73) (.seq (.reg false [.V 4 (.asg (.c (.bool false)))] [4] []) .ret) .skip)) (.seq (.reg false [.V 75 (.mv (.t 0)), .V 76 (.call (.c (.fn 121 [])) [.t 75]), .V 77 (.mv (.t 1)), .V 78 (.call (.c (.fn 138 [])) [.t 76, .t 77]), .V 74 (.mv (.t 78)), .V 79 (.ext (.t 74) 0), .V 80 (.ext (.t 74) 1), .W 13 (.asg (.t 79)), .V 14 (.asg (.t 80))] [5, 6, 8, 11, 13, 14] [5, 8, 13]) (.seq (.seq (.reg false [.V 81 (.mv (.t 13)), .V 82 (.mv (.t 5)), .V 83 (.call (.c (.fn 137 [])) [.t 81, .t 82]), .V 84 (.un .not (.t 83)), .V 85 (.mv (.t 84)), .G 86 (.mv (.t 14)) 4 false, .G 87 (.mv (.t 6)) 4 false, .G 88 (.bin .neq (.t 86) (.t 87)) 4 false, .V 89 (.pick (.t 85) (.c (.bool true)) (.t 88))] [8, 11, 89] [8]) (.cond (.t 89) (.seq (.reg false [.V 4 (.asg (.c (.bool false)))] [4] []) .ret) .skip)) (.norm [8, 11] [8] laws_FnExactBarLines_k0))))))))
def laws_FnExactBarLines_k2 : C :=
 .seq (.seq (.reg false [.V 42 (.mv (.t 7)), .V 43 (.mv (.t 0)), .V 44 (.call (.c (.fn 121 [])) [.t 43]), .V 45 (.call (.c (.fn 42 [])) [.t 42, .t 44]), .V 46 (.un .not (.t 45))] [0, 1, 5, 6, 7, 8, 9, 46] [5, 7, 8]) (.cond (.t 46) (.seq (.reg false [.V 4 (.asg (.c (.bool false)))] [4] []) .ret) .skip)) (.seq (.reg false [.V 10 (.asg (.c (.int .i64 1)))] [0, 1, 5, 6, 7, 8, 9, 10] [5, 7, 8]) (.seq (.reg false [.V 47 (.mv (.t 7)), .V 48 (.mv (.t 10)), .W 49 (.call (.c (.fn 45 [])) [.t 47, .t 48]), .V 10 (.asg (.t 49))] [0, 1, 5, 6, 8, 9, 10] [5, 8]) (.seq (.seq (.reg false [.V 50 (.mv (.t 10)), .V 51 (.bin .lss (.t 50) (.c (.int .i64 0))), .V 52 (.mv (.t 51)), .G 53 (.mv (.t 8)) 2 false, .G 54 (.mv (.t 5)) 2 false, .G 55 (.call (.c (.fn 137 [])) [.t 53, .t 54]) 2 false, .G 56 (.un .not (.t 55)) 2 false, .V 57 (.pick (.t 52) (.c (.bool true)) (.t 56)), .V 58 (.mv (.t 57)), .G 59 (.mv (.t 9)) 8 false, .G 60 (.mv (.t 6)) 8 false, .G 61 (.bin .neq (.t 59) (.t 60)) 8 false, .V 62 (.pick (.t 58) (.c (.bool true)) (.t 61))] [0, 1, 5, 6, 8, 62] [5, 8]) (.cond (.t 62) (.seq (.reg false [.V 4 (.asg (.c (.bool false)))] [4] []) .ret) .skip)) (.norm [0, 1, 5, 6, 8] [5, 8] laws_FnExactBarLines_k1))))
def laws_FnExactBarLines_ir : Fn := { np := 2, io := [], res := [.t 4], own := [false], body :=
 (.seq (.reg false [.V 4 (.asg (.c (.bool false)))] [0, 1] []) (.seq (.seq (.reg false [.V 15 (.mv (.t 0)), .V 16 (.len (.t 15)), .V 17 (.bin .gtr (.t 16) (.c (.int .i64 1048576)))] [0, 1, 17] []) (.cond (.t 17) (.seq (.reg false [.V 4 (.asg (.c (.bool true)))] [4] []) .ret) .skip)) (.seq (.reg false [.V 19 (.mv (.t 0)), .V 20 (.call (.c (.fn 121 [])) [.t 19]), .V 21 (.mv (.t 1)), .W 22 (.call (.c (.fn 140 [])) [.t 20, .t 21]), .V 18 (.mv (.t 22)), .V 23 (.ext (.t 18) 0), .V 24 (.ext (.t 18) 1), .W 5 (.asg (.t 23)), .V 6 (.asg (.t 24))] [0, 1, 5, 6] [5]) (.seq (.reg false [.V 25 (.mv (.t 0)), .V 26 (.call (.c (.fn 121 [])) [.t 25]), .W 7 (.asg (.t 26))] [0, 1, 5, 6, 7] [5, 7]) (.seq (.reg false [.V 28 (.mv (.t 7)), .V 29 (.mv (.t 1)), .V 30 (.call (.c (.fn 138 [])) [.t 28, .t 29]), .V 27 (.mv (.t 30)), .V 31 (.ext (.t 27) 0), .V 32 (.ext (.t 27) 1), .W 8 (.asg (.t 31)), .V 9 (.asg (.t 32))] [0, 1, 5, 6, 7, 8, 9] [5, 7, 8]) (.seq (.seq (.reg false [.V 33 (.mv (.t 8)), .V 34 (.mv (.t 5)), .V 35 (.call (.c (.fn 137 [])) [.t 33, .t 34]), .V 36 (.un .not (.t 35)), .V 37 (.mv (.t 36)), .G 38 (.mv (.t 9)) 4 false, .G 39 (.mv (.t 6)) 4 false, .G 40 (.bin .neq (.t 38) (.t 39)) 4 false, .V 41 (.pick (.t 37) (.c (.bool true)) (.t 40))] [0, 1, 5, 6, 7, 8, 9, 41] [5, 7, 8]) (.cond (.t 41) (.seq (.reg false [.V 4 (.asg (.c (.bool false)))] [4] []) .ret) .skip)) (.norm [0, 1, 5, 6, 7, 8, 9] [5, 7, 8] laws_FnExactBarLines_k2))))))) }
noncomputable def laws_FnExactBarLines_D : List (Nat × Callee) := [(42, laws_eqInt64S_c), (45, laws_markInt64S_c), (121, laws_toInt64S_c), (136, laws_heldStringS_c), (137, laws_eqStringS_c), (138, impl_BarLines_c), (139, laws_markStringS_c), (140, spec_BarLines_c)]
def laws_FnExactBarLines_H : List (Nat × ET) := [(5, (.one .str)), (7, (.one (.int .i64))), (8, (.one .str)), (13, (.one .str)), (15, (.one (.int .i64))), (19, (.one (.int .i64))), (20, (.one (.int .i64))), (23, (.one .str)), (25, (.one (.int .i64))), (26, (.one (.int .i64))), (28, (.one (.int .i64))), (31, (.one .str)), (33, (.one .str)), (34, (.one .str)), (42, (.one (.int .i64))), (43, (.one (.int .i64))), (44, (.one (.int .i64))), (47, (.one (.int .i64))), (53, (.one .str)), (54, (.one .str)), (63, (.one .str)), (66, (.one .str)), (75, (.one (.int .i64))), (76, (.one (.int .i64))), (79, (.one .str)), (81, (.one .str)), (82, (.one .str)), (90, (.one .str))]
noncomputable def laws_FnExactBarLines_c : Callee := mkCallee laws_FnExactBarLines_D laws_FnExactBarLines_H laws_FnExactBarLines_ir [.d (.one (.sl (.one (.int .i64)))), .d (.one (.int .i64))] [.d (.one .bool)] []
noncomputable def laws_FnExactBarLines (a0 : List Int) (a1 : Int) : Option (Bool) := laws_FnExactBarLines_c.f (a0, a1, ())
noncomputable def laws_FnExactBarLines_p0  (v0 : List Int) (v1 : Int) (v5 : List (List UInt8)) (v6 : Int) (v9 : Int) (r7 : List Int) (r8 : List (List UInt8)) : Option (Bool) :=
 goL laws_FnExactBarLines_D laws_FnExactBarLines_H (vleave laws_FnExactBarLines_ir [.d (.one (.sl (.one (.int .i64)))), .d (.one (.int .i64))] [.d (.one .bool)] [] []) [.c laws_FnExactBarLines_k2]
  ⟨[(0, .sl (.one (.int .i64)) v0), (1, .int .i64 v1), (5, .sl (.one .str) v5), (6, .int .i64 v6), (7, .view 7 0 r7.length), (8, .view 8 0 r8.length), (9, .int .i64 v9)], [(5, none), (7, some (.sl (.one (.int .i64)) r7)), (8, some (.sl (.one .str) r8))]⟩
noncomputable def laws_FnExactBarLines_p1  (v0 : List Int) (v1 : Int) (v5 : List (List UInt8)) (v6 : Int) (r8 : List (List UInt8)) : Option (Bool) :=
 goL laws_FnExactBarLines_D laws_FnExactBarLines_H (vleave laws_FnExactBarLines_ir [.d (.one (.sl (.one (.int .i64)))), .d (.one (.int .i64))] [.d (.one .bool)] [] []) [.c laws_FnExactBarLines_k1]
  ⟨[(0, .sl (.one (.int .i64)) v0), (1, .int .i64 v1), (5, .sl (.one .str) v5), (6, .int .i64 v6), (8, .view 8 0 r8.length)], [(5, none), (8, some (.sl (.one .str) r8))]⟩
noncomputable def laws_FnExactBarLines_p2  (v8n : Nat) (v11 : Int) (r8 : List (List UInt8)) : Option (Bool) :=
 goL laws_FnExactBarLines_D laws_FnExactBarLines_H (vleave laws_FnExactBarLines_ir [.d (.one (.sl (.one (.int .i64)))), .d (.one (.int .i64))] [.d (.one .bool)] [] []) [.c laws_FnExactBarLines_k0]
  ⟨[(8, .view 8 0 v8n), (11, .int .i64 v11)], [(8, some (.sl (.one .str) r8))]⟩
theorem laws_FnExactBarLines_eq (a0 : List Int) (a1 : Int) : laws_FnExactBarLines a0 a1 =
  if decide ((a0.length : Int) > 1048576) then
   some true
  else
   (laws_toInt64S a0).bind fun x1 =>
    (spec_BarLines x1 a1).bind fun x2 =>
     (laws_toInt64S a0).bind fun x3 =>
      (impl_BarLines (x3.take x3.length) a1).bind fun x4 =>
       (laws_eqStringS (x4.1.take x4.1.length) x2.1).bind fun x5 =>
        if (!x5) then
         some false
        else
         if (x4.2 != x2.2) then
          some false
         else
          laws_FnExactBarLines_p0 a0 a1 x2.1 x2.2 x4.2 x3 x4.1 :=
 (mk_f _ _ _ _ _ _ _ 4000).trans (by kernel_rfl)
theorem laws_FnExactBarLines_p0_eq  (v0 : List Int) (v1 : Int) (v5 : List (List UInt8)) (v6 : Int) (v9 : Int) (r7 : List Int) (r8 : List (List UInt8)) : laws_FnExactBarLines_p0 v0 v1 v5 v6 v9 r7 r8 =
  (laws_toInt64S v0).bind fun x1 =>
   (laws_eqInt64S (r7.take r7.length) x1).bind fun x2 =>
    if (!x2) then
     some false
    else
     if decide (r7.length = r7.length) then
      (laws_markInt64S r7 1).bind fun x3 =>
       if decide (x3.1 < 0) then
        some false
       else
        (laws_eqStringS (r8.take r8.length) v5).bind fun x4 =>
         if (!x4) then
          some false
         else
          if (v9 != v6) then
           some false
          else
           laws_FnExactBarLines_p1 v0 v1 v5 v6 r8
     else
      none :=
 (goL_dn _ _ _ 4000 _ _).trans (by kernel_rfl)
theorem laws_FnExactBarLines_p1_eq  (v0 : List Int) (v1 : Int) (v5 : List (List UInt8)) (v6 : Int) (r8 : List (List UInt8)) : laws_FnExactBarLines_p1 v0 v1 v5 v6 r8 =
  if decide (r8.length = r8.length) then
   (laws_markStringS r8 1).bind fun x1 =>
    (laws_heldStringS (x1.2.take r8.length) 1).bind fun x2 =>
     if decide (x2 < 0) then
      some false
     else
      if (x2 != x1.1) then
       some false
      else
       (laws_toInt64S v0).bind fun x3 =>
        (impl_BarLines x3 v1).bind fun x4 =>
         (laws_eqStringS (x4.1.take x4.1.length) v5).bind fun x5 =>
          if (!x5) then
           some false
          else
           if (x4.2 != v6) then
            some false
           else
            laws_FnExactBarLines_p2 r8.length x1.1 x1.2
  else
   none :=
 (goL_dn _ _ _ 4000 _ _).trans (by kernel_rfl)
theorem laws_FnExactBarLines_p2_eq  (v8n : Nat) (v11 : Int) (r8 : List (List UInt8)) : laws_FnExactBarLines_p2 v8n v11 r8 =
  (laws_heldStringS (r8.take v8n) 1).bind fun x1 =>
   if decide (x1 < 0) then
    some false
   else
    if (x1 != v11) then
     some false
    else
     some true :=
 (goL_dn _ _ _ 4000 _ _).trans (by kernel_rfl)

end Go.Ab.P
