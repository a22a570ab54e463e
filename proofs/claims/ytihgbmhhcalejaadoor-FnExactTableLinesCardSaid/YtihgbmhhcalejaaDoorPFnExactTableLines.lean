/- Functions of the program: abstract forms, and what their runs give. Conditions: none. -/
import Derived.Test.YtihgbmhhcalejaaDoorLA
set_option maxRecDepth 100000
set_option linter.unusedVariables false
namespace Go.Ab.P
open Go.Ab
def laws_szStringS_k0 : C :=
 .seq (.seq (.reg false [.V 12 (.mv (.t 5)),.V 13 (.mv (.t 0)),.V 14 (.len (.t 13)),.V 15 (.bin .lss (.t 12) (.t 14))] [0,1,5,15] []) (.cond (.t 15) .skip (.exit 0))) (.seq (.block 1 (.seq (.reg false [.V 18 (.mv (.t 1)),.V 19 (.mv (.t 0)),.V 20 (.mv (.t 5)),.V 21 (.ia 1 (.t 19) (.t 20)),.V 22 (.ld none (.t 21)),.V 23 (.lens (.t 22)),.V 24 (.bin .sub (.t 18) (.t 23)),.V 1 (.asg (.t 24))] [0,1,5] []) (.seq (.reg false [.V 25 (.mv (.t 1)),.V 26 (.bin .lss (.t 25) (.c (.int .i64 0)))] [0,1,5,26] []) (.cond (.t 26) (.seq (.reg false [.V 4 (.asg (.c (.int .i64 (-1))))] [4] []) .ret) .skip)))) (.reg false [.V 16 (.mv (.t 5)),.V 17 (.bin .add (.t 16) (.c (.int .i64 1))),.V 5 (.asg (.t 17))] [0,1,5] []))
def laws_szStringS_k1 : C :=
 .norm [0,1,5] [] laws_szStringS_k0
def laws_szStringS_k2 : C :=
 .seq (.reg false [.V 27 (.mv (.t 1)),.V 4 (.asg (.t 27))] [4] []) .ret
def laws_szStringS_ir : Fn := { np := 2,io := [],res := [.t 4],own := [false],body :=
 (.seq (.reg false [.V 4 (.asg (.c (.int .i64 0)))] [0,1] []) (.seq (.reg false [.V 6 (.mv (.t 1)),.V 7 (.mv (.t 0)),.V 8 (.len (.t 7)),.V 9 (.bin .sub (.t 6) (.t 8)),.V 1 (.asg (.t 9))] [0,1] []) (.seq (.seq (.reg false [.V 10 (.mv (.t 1)),.V 11 (.bin .lss (.t 10) (.c (.int .i64 0)))] [0,1,11] []) (.cond (.t 11) (.seq (.reg false [.V 4 (.asg (.c (.int .i64 (-1))))] [4] []) .ret) .skip)) (.seq (.seq (.reg false [.V 5 (.asg (.c (.int .i64 0)))] [0,1,5] []) (.block 0 (.loop laws_szStringS_k1))) laws_szStringS_k2)))) }
noncomputable def laws_szStringS_D : List (Nat × Callee) := []
def laws_szStringS_H : List (Nat × ET) := [(7,(.one .str)),(13,(.one .str)),(19,(.one .str))]
noncomputable def laws_szStringS_c : Callee := mkCallee laws_szStringS_D laws_szStringS_H laws_szStringS_ir [.d (.one (.sl (.one .str))),.d (.one (.int .i64))] [.d (.one (.int .i64))] []
noncomputable def laws_szStringS (a0 : List (List UInt8)) (a1 : Int) : Option (Int) := laws_szStringS_c.f (a0,a1,())
noncomputable def laws_szStringS_p0  (v0 : List (List UInt8)) (v1 : Int) (v5 : Int) : Option (Int) :=
 goL laws_szStringS_D laws_szStringS_H (vleave laws_szStringS_ir [.d (.one (.sl (.one .str))),.d (.one (.int .i64))] [.d (.one (.int .i64))] [] []) [.c laws_szStringS_k0,.l laws_szStringS_k1,.e 0,.c laws_szStringS_k2]
  ⟨[(0,.sl (.one .str) v0),(1,.int .i64 v1),(5,.int .i64 v5)],[]⟩
theorem laws_szStringS_eq (a0 : List (List UInt8)) (a1 : Int) : laws_szStringS a0 a1 =
 if decide (IntKind.i64.wrap (a1 - (a0.length : Int)) < 0) then
  some (-1)
 else
  laws_szStringS_p0 a0 (IntKind.i64.wrap (a1 - (a0.length : Int))) 0 :=
 (mk_f _ _ _ _ _ _ _ 4000).trans (by kernel_rfl)
theorem laws_szStringS_p0_eq  (v0 : List (List UInt8)) (v1 : Int) (v5 : Int) : laws_szStringS_p0 v0 v1 v5 =
 if decide (v5 < (v0.length : Int)) then
  if decide (0 ≤ v5) then
   (v0[v5.toNat]?).bind fun x1 =>
    if decide (IntKind.i64.wrap (v1 - (x1.length : Int)) < 0) then
     some (-1)
    else
     laws_szStringS_p0 v0 (IntKind.i64.wrap (v1 - (x1.length : Int))) (IntKind.i64.wrap (v5 + 1))
  else
   none
 else
  some v1 :=
 (goL_dn _ _ _ 4000 _ _).trans (by kernel_rfl)
def laws_szStringSS_k0 : C :=
 .seq (.seq (.reg false [.V 12 (.mv (.t 5)),.V 13 (.mv (.t 0)),.V 14 (.len (.t 13)),.V 15 (.bin .lss (.t 12) (.t 14))] [0,1,5,15] []) (.cond (.t 15) .skip (.exit 0))) (.seq (.block 1 (.seq (.reg false [.V 18 (.mv (.t 0)),.V 19 (.mv (.t 5)),.V 20 (.ia 1 (.t 18) (.t 19)),.V 21 (.ld none (.t 20)),.V 22 (.mv (.t 1)),.V 23 (.call (.c (.fn 626 [])) [.t 21,.t 22]),.V 1 (.asg (.t 23))] [0,1,5] []) (.seq (.reg false [.V 24 (.mv (.t 1)),.V 25 (.bin .lss (.t 24) (.c (.int .i64 0)))] [0,1,5,25] []) (.cond (.t 25) (.seq (.reg false [.V 4 (.asg (.c (.int .i64 (-1))))] [4] []) .ret) .skip)))) (.reg false [.V 16 (.mv (.t 5)),.V 17 (.bin .add (.t 16) (.c (.int .i64 1))),.V 5 (.asg (.t 17))] [0,1,5] []))
def laws_szStringSS_k1 : C :=
 .norm [0,1,5] [] laws_szStringSS_k0
def laws_szStringSS_k2 : C :=
 .seq (.reg false [.V 26 (.mv (.t 1)),.V 4 (.asg (.t 26))] [4] []) .ret
def laws_szStringSS_ir : Fn := { np := 2,io := [],res := [.t 4],own := [false],body :=
 (.seq (.reg false [.V 4 (.asg (.c (.int .i64 0)))] [0,1] []) (.seq (.reg false [.V 6 (.mv (.t 1)),.V 7 (.mv (.t 0)),.V 8 (.len (.t 7)),.V 9 (.bin .sub (.t 6) (.t 8)),.V 1 (.asg (.t 9))] [0,1] []) (.seq (.seq (.reg false [.V 10 (.mv (.t 1)),.V 11 (.bin .lss (.t 10) (.c (.int .i64 0)))] [0,1,11] []) (.cond (.t 11) (.seq (.reg false [.V 4 (.asg (.c (.int .i64 (-1))))] [4] []) .ret) .skip)) (.seq (.seq (.reg false [.V 5 (.asg (.c (.int .i64 0)))] [0,1,5] []) (.block 0 (.loop laws_szStringSS_k1))) laws_szStringSS_k2)))) }
noncomputable def laws_szStringSS_D : List (Nat × Callee) := [(626,laws_szStringS_c)]
def laws_szStringSS_H : List (Nat × ET) := [(7,(.one (.sl (.one .str)))),(13,(.one (.sl (.one .str)))),(18,(.one (.sl (.one .str)))),(21,(.one .str))]
noncomputable def laws_szStringSS_c : Callee := mkCallee laws_szStringSS_D laws_szStringSS_H laws_szStringSS_ir [.d (.one (.sl (.one (.sl (.one .str))))),.d (.one (.int .i64))] [.d (.one (.int .i64))] []
noncomputable def laws_szStringSS (a0 : List (List (List UInt8))) (a1 : Int) : Option (Int) := laws_szStringSS_c.f (a0,a1,())
noncomputable def laws_szStringSS_p0  (v0 : List (List (List UInt8))) (v1 : Int) (v5 : Int) : Option (Int) :=
 goL laws_szStringSS_D laws_szStringSS_H (vleave laws_szStringSS_ir [.d (.one (.sl (.one (.sl (.one .str))))),.d (.one (.int .i64))] [.d (.one (.int .i64))] [] []) [.c laws_szStringSS_k0,.l laws_szStringSS_k1,.e 0,.c laws_szStringSS_k2]
  ⟨[(0,.sl (.one (.sl (.one .str))) v0),(1,.int .i64 v1),(5,.int .i64 v5)],[]⟩
theorem laws_szStringSS_eq (a0 : List (List (List UInt8))) (a1 : Int) : laws_szStringSS a0 a1 =
 if decide (IntKind.i64.wrap (a1 - (a0.length : Int)) < 0) then
  some (-1)
 else
  laws_szStringSS_p0 a0 (IntKind.i64.wrap (a1 - (a0.length : Int))) 0 :=
 (mk_f _ _ _ _ _ _ _ 4000).trans (by kernel_rfl)
theorem laws_szStringSS_p0_eq  (v0 : List (List (List UInt8))) (v1 : Int) (v5 : Int) : laws_szStringSS_p0 v0 v1 v5 =
 if decide (v5 < (v0.length : Int)) then
  if decide (0 ≤ v5) then
   (v0[v5.toNat]?).bind fun x1 =>
    (laws_szStringS x1 v1).bind fun x2 =>
     if decide (x2 < 0) then
      some (-1)
     else
      laws_szStringSS_p0 v0 x2 (IntKind.i64.wrap (v5 + 1))
  else
   none
 else
  some v1 :=
 (goL_dn _ _ _ 4000 _ _).trans (by kernel_rfl)
def spec_l30Rows_k0 : C :=
 .seq (.seq (.reg false [.V 27 (.mv (.t 5)),.V 28 (.mv (.t 0)),.V 29 (.mv (.t 3)),.V 30 (.ia 1 (.t 28) (.t 29)),.V 31 (.ld none (.t 30)),.V 32 (.mv (.t 4)),.V 33 (.ia 1 (.t 31) (.t 32)),.V 34 (.ld none (.t 33)),.V 35 (.lens (.t 34)),.V 36 (.bin .lss (.t 27) (.t 35))] [0,3,4,5,36] []) (.cond (.t 36) .skip (.exit 4))) (.seq (.block 5 (.seq (.reg false [.V 39 (.mv (.t 0)),.V 40 (.mv (.t 3)),.V 41 (.ia 1 (.t 39) (.t 40)),.V 42 (.ld none (.t 41)),.V 43 (.mv (.t 4)),.V 44 (.ia 1 (.t 42) (.t 43)),.V 45 (.ld none (.t 44)),.V 46 (.mv (.t 5)),.V 47 (.ix (.t 45) (.t 46)),.V 48 (.bin .lss (.t 47) (.c (.int .u8 33))),.V 49 (.mv (.t 48)),.G 50 (.mv (.t 0)) 10 false,.G 51 (.mv (.t 3)) 10 false,.G 52 (.ia 1 (.t 50) (.t 51)) 10 false,.G 53 (.ld none (.t 52)) 10 false,.G 54 (.mv (.t 4)) 10 false,.G 55 (.ia 1 (.t 53) (.t 54)) 10 false,.G 56 (.ld none (.t 55)) 10 false,.G 57 (.mv (.t 5)) 10 false,.G 58 (.ix (.t 56) (.t 57)) 10 false,.G 59 (.bin .gtr (.t 58) (.c (.int .u8 126))) 10 false,.V 60 (.pick (.t 49) (.c (.bool true)) (.t 59))] [0,3,4,5,60] []) (.cond (.t 60) (.seq (.reg false [.V 2 (.asg (.c (.bool false)))] [2] []) .ret) .skip))) (.reg false [.V 37 (.mv (.t 5)),.V 38 (.bin .add (.t 37) (.c (.int .i64 1))),.V 5 (.asg (.t 38))] [0,3,4,5] []))
def spec_l30Rows_k1 : C :=
 .norm [0,3,4,5] [] spec_l30Rows_k0
def spec_l30Rows_k2 : C :=
 .reg false [.V 25 (.mv (.t 4)),.V 26 (.bin .add (.t 25) (.c (.int .i64 1))),.V 4 (.asg (.t 26))] [0,3,4] []
def spec_l30Rows_k3 : C :=
 .seq (.seq (.reg false [.V 18 (.mv (.t 4)),.V 19 (.mv (.t 0)),.V 20 (.mv (.t 3)),.V 21 (.ia 1 (.t 19) (.t 20)),.V 22 (.ld none (.t 21)),.V 23 (.len (.t 22)),.V 24 (.bin .lss (.t 18) (.t 23))] [0,3,4,24] []) (.cond (.t 24) .skip (.exit 2))) (.seq (.block 3 (.seq (.reg false [.V 5 (.asg (.c (.int .i64 0)))] [0,3,4,5] []) (.block 4 (.loop spec_l30Rows_k1)))) spec_l30Rows_k2)
def spec_l30Rows_k4 : C :=
 .norm [0,3,4] [] spec_l30Rows_k3
def spec_l30Rows_k5 : C :=
 .reg false [.V 10 (.mv (.t 3)),.V 11 (.bin .add (.t 10) (.c (.int .i64 1))),.V 3 (.asg (.t 11))] [0,3] []
def spec_l30Rows_k6 : C :=
 .seq (.seq (.reg false [.V 6 (.mv (.t 3)),.V 7 (.mv (.t 0)),.V 8 (.len (.t 7)),.V 9 (.bin .lss (.t 6) (.t 8))] [0,3,9] []) (.cond (.t 9) .skip (.exit 0))) (.seq (.block 1 (.seq (.seq (.reg false [.V 12 (.mv (.t 0)),.V 13 (.mv (.t 3)),.V 14 (.ia 1 (.t 12) (.t 13)),.V 15 (.ld none (.t 14)),.V 16 (.len (.t 15)),.V 17 (.bin .gtr (.t 16) (.c (.int .i64 12)))] [0,3,17] []) (.cond (.t 17) (.seq (.reg false [.V 2 (.asg (.c (.bool false)))] [2] []) .ret) .skip)) (.seq (.reg false [.V 4 (.asg (.c (.int .i64 0)))] [0,3,4] []) (.block 2 (.loop spec_l30Rows_k4))))) spec_l30Rows_k5)
def spec_l30Rows_k7 : C :=
 .norm [0,3] [] spec_l30Rows_k6
def spec_l30Rows_k8 : C :=
 .seq (.reg false [.V 2 (.asg (.c (.bool true)))] [2] []) .ret
def spec_l30Rows_ir : Fn := { np := 1,io := [],res := [.t 2],own := [false],body :=
 (.seq (.reg false [.V 2 (.asg (.c (.bool false)))] [0] []) (.seq (.seq (.reg false [.V 3 (.asg (.c (.int .i64 0)))] [0,3] []) (.block 0 (.loop spec_l30Rows_k7))) spec_l30Rows_k8)) }
noncomputable def spec_l30Rows_D : List (Nat × Callee) := []
def spec_l30Rows_H : List (Nat × ET) := [(7,(.one (.sl (.one .str)))),(12,(.one (.sl (.one .str)))),(15,(.one .str)),(19,(.one (.sl (.one .str)))),(22,(.one .str)),(28,(.one (.sl (.one .str)))),(31,(.one .str)),(39,(.one (.sl (.one .str)))),(42,(.one .str)),(50,(.one (.sl (.one .str)))),(53,(.one .str))]
noncomputable def spec_l30Rows_c : Callee := mkCallee spec_l30Rows_D spec_l30Rows_H spec_l30Rows_ir [.d (.one (.sl (.one (.sl (.one .str)))))] [.d (.one .bool)] []
noncomputable def spec_l30Rows (a0 : List (List (List UInt8))) : Option (Bool) := spec_l30Rows_c.f (a0,())
noncomputable def spec_l30Rows_p0  (v0 : List (List (List UInt8))) (v3 : Int) : Option (Bool) :=
 goL spec_l30Rows_D spec_l30Rows_H (vleave spec_l30Rows_ir [.d (.one (.sl (.one (.sl (.one .str)))))] [.d (.one .bool)] [] []) [.c spec_l30Rows_k6,.l spec_l30Rows_k7,.e 0,.c spec_l30Rows_k8]
  ⟨[(0,.sl (.one (.sl (.one .str))) v0),(3,.int .i64 v3)],[]⟩
noncomputable def spec_l30Rows_p1  (v0 : List (List (List UInt8))) (v3 : Int) (v4 : Int) : Option (Bool) :=
 goL spec_l30Rows_D spec_l30Rows_H (vleave spec_l30Rows_ir [.d (.one (.sl (.one (.sl (.one .str)))))] [.d (.one .bool)] [] []) [.c spec_l30Rows_k3,.l spec_l30Rows_k4,.e 2,.e 1,.c spec_l30Rows_k5,.l spec_l30Rows_k7,.e 0,.c spec_l30Rows_k8]
  ⟨[(0,.sl (.one (.sl (.one .str))) v0),(3,.int .i64 v3),(4,.int .i64 v4)],[]⟩
noncomputable def spec_l30Rows_p2  (v0 : List (List (List UInt8))) (v3 : Int) (v4 : Int) (v5 : Int) : Option (Bool) :=
 goL spec_l30Rows_D spec_l30Rows_H (vleave spec_l30Rows_ir [.d (.one (.sl (.one (.sl (.one .str)))))] [.d (.one .bool)] [] []) [.c spec_l30Rows_k0,.l spec_l30Rows_k1,.e 4,.e 3,.c spec_l30Rows_k2,.l spec_l30Rows_k4,.e 2,.e 1,.c spec_l30Rows_k5,.l spec_l30Rows_k7,.e 0,.c spec_l30Rows_k8]
  ⟨[(0,.sl (.one (.sl (.one .str))) v0),(3,.int .i64 v3),(4,.int .i64 v4),(5,.int .i64 v5)],[]⟩
theorem spec_l30Rows_eq (a0 : List (List (List UInt8))) : spec_l30Rows a0 =
 spec_l30Rows_p0 a0 0 :=
 (mk_f _ _ _ _ _ _ _ 4000).trans (by kernel_rfl)
theorem spec_l30Rows_p0_eq  (v0 : List (List (List UInt8))) (v3 : Int) : spec_l30Rows_p0 v0 v3 =
 if decide (v3 < (v0.length : Int)) then
  if decide (0 ≤ v3) then
   (v0[v3.toNat]?).bind fun x1 =>
    if decide ((x1.length : Int) > 12) then
     some false
    else
     spec_l30Rows_p1 v0 v3 0
  else
   none
 else
  some true :=
 (goL_dn _ _ _ 4000 _ _).trans (by kernel_rfl)
theorem spec_l30Rows_p1_eq  (v0 : List (List (List UInt8))) (v3 : Int) (v4 : Int) : spec_l30Rows_p1 v0 v3 v4 =
 if decide (0 ≤ v3) then
  (v0[v3.toNat]?).bind fun x1 =>
   if decide (v4 < (x1.length : Int)) then
    spec_l30Rows_p2 v0 v3 v4 0
   else
    spec_l30Rows_p0 v0 (IntKind.i64.wrap (v3 + 1))
 else
  none :=
 (goL_dn _ _ _ 4000 _ _).trans (by kernel_rfl)
theorem spec_l30Rows_p2_eq  (v0 : List (List (List UInt8))) (v3 : Int) (v4 : Int) (v5 : Int) : spec_l30Rows_p2 v0 v3 v4 v5 =
 if decide (0 ≤ v3) then
  (v0[v3.toNat]?).bind fun x1 =>
   if decide (0 ≤ v4) then
    (x1[v4.toNat]?).bind fun x2 =>
     if decide (v5 < (x2.length : Int)) then
      if decide (0 ≤ v3) then
       (v0[v3.toNat]?).bind fun x3 =>
        if decide (0 ≤ v4) then
         (x3[v4.toNat]?).bind fun x4 =>
          if decide (0 ≤ v5) then
           (x4[v5.toNat]?).bind fun x5 =>
            if decide ((x5.toNat : Int) < 33) then
             some false
            else
             if decide (0 ≤ v3) then
              (v0[v3.toNat]?).bind fun x6 =>
               if decide (0 ≤ v4) then
                (x6[v4.toNat]?).bind fun x7 =>
                 if decide (0 ≤ v5) then
                  (x7[v5.toNat]?).bind fun x8 =>
                   if decide ((x8.toNat : Int) > 126) then
                    some false
                   else
                    spec_l30Rows_p2 v0 v3 v4 (IntKind.i64.wrap (v5 + 1))
                 else
                  none
               else
                none
             else
              none
          else
           none
        else
         none
      else
       none
     else
      spec_l30Rows_p1 v0 v3 (IntKind.i64.wrap (v4 + 1))
   else
    none
 else
  none :=
 (goL_dn _ _ _ 4000 _ _).trans (by kernel_rfl)
def spec_l30Table_k0 : C :=
 .seq (.seq (.reg false [.V 18 (.mv (.t 5)),.V 19 (.mv (.t 0)),.V 20 (.mv (.t 4)),.V 21 (.ia 1 (.t 19) (.t 20)),.V 22 (.ld none (.t 21)),.V 23 (.len (.t 22)),.V 24 (.bin .lss (.t 18) (.t 23))] [0,3,4,5,24] [3]) (.cond (.t 24) .skip (.exit 2))) (.seq (.block 3 (.seq (.reg true [.V 27 (.mv (.t 0)),.V 28 (.mv (.t 4)),.V 29 (.ia 1 (.t 27) (.t 28)),.V 30 (.ld none (.t 29)),.V 31 (.mv (.t 5)),.V 32 (.ia 1 (.t 30) (.t 31)),.V 33 (.ld none (.t 32)),.V 34 (.lens (.t 33)),.V 35 (.mv (.t 3)),.V 36 (.mv (.t 5)),.V 37 (.ia 1 (.t 35) (.t 36)),.V 38 (.ld none (.t 37)),.V 39 (.bin .gtr (.t 34) (.t 38))] [0,3,4,5,39] [3]) (.cond (.t 39) (.reg false [.V 40 (.mv (.t 3)),.V 41 (.mv (.t 5)),.V 42 (.mv (.t 0)),.V 43 (.mv (.t 4)),.V 44 (.ia 1 (.t 42) (.t 43)),.V 45 (.ld none (.t 44)),.V 46 (.mv (.t 5)),.V 47 (.ia 1 (.t 45) (.t 46)),.V 48 (.ld none (.t 47)),.V 49 (.lens (.t 48)),.V 50 (.ia 1 (.t 40) (.t 41)),⟨none,true,.sto 1 (.t 50) (.t 49),none,false,[]⟩] [0,3,4,5] [3]) .skip))) (.reg false [.V 25 (.mv (.t 5)),.V 26 (.bin .add (.t 25) (.c (.int .i64 1))),.V 5 (.asg (.t 26))] [0,3,4,5] [3]))
def spec_l30Table_k1 : C :=
 .norm [0,3,4,5] [3] spec_l30Table_k0
def spec_l30Table_k2 : C :=
 .reg false [.V 16 (.mv (.t 4)),.V 17 (.bin .add (.t 16) (.c (.int .i64 1))),.V 4 (.asg (.t 17))] [0,3,4] [3]
def spec_l30Table_k3 : C :=
 .seq (.seq (.reg false [.V 12 (.mv (.t 4)),.V 13 (.mv (.t 0)),.V 14 (.len (.t 13)),.V 15 (.bin .lss (.t 12) (.t 14))] [0,3,4,15] [3]) (.cond (.t 15) .skip (.exit 0))) (.seq (.block 1 (.seq (.reg false [.V 5 (.asg (.c (.int .i64 0)))] [0,3,4,5] [3]) (.block 2 (.loop spec_l30Table_k1)))) spec_l30Table_k2)
def spec_l30Table_k4 : C :=
 .norm [0,3,4] [3] spec_l30Table_k3
def spec_l30Table_k5 : C :=
 .seq (.seq (.reg false [.V 88 (.mv (.t 10)),.V 89 (.mv (.t 3)),.V 90 (.mv (.t 9)),.V 91 (.ia 1 (.t 89) (.t 90)),.V 92 (.ld none (.t 91)),.V 93 (.bin .lss (.t 88) (.t 92))] [0,3,6,7,8,9,10,93] [3,6]) (.cond (.t 93) .skip (.exit 8))) (.seq (.block 9 (.reg false [.V 96 (.mv (.t 8)),.V 97 (.bin .add (.t 96) (.c (.str [32]))),.V 8 (.asg (.t 97))] [0,3,6,7,8,9,10] [3,6])) (.reg false [.V 94 (.mv (.t 10)),.V 95 (.bin .add (.t 94) (.c (.int .i64 1))),.V 10 (.asg (.t 95))] [0,3,6,7,8,9,10] [3,6]))
def spec_l30Table_k6 : C :=
 .norm [0,3,6,7,8,9,10] [3,6] spec_l30Table_k5
def spec_l30Table_k7 : C :=
 .seq (.reg false [.V 71 (.mv (.t 8)),.V 72 (.mv (.t 0)),.V 73 (.mv (.t 7)),.V 74 (.ia 1 (.t 72) (.t 73)),.V 75 (.ld none (.t 74)),.V 76 (.mv (.t 9)),.V 77 (.ia 1 (.t 75) (.t 76)),.V 78 (.ld none (.t 77)),.V 79 (.bin .add (.t 71) (.t 78)),.V 8 (.asg (.t 79))] [0,3,6,7,8,9] [3,6]) (.seq (.reg false [.V 80 (.mv (.t 0)),.V 81 (.mv (.t 7)),.V 82 (.ia 1 (.t 80) (.t 81)),.V 83 (.ld none (.t 82)),.V 84 (.mv (.t 9)),.V 85 (.ia 1 (.t 83) (.t 84)),.V 86 (.ld none (.t 85)),.V 87 (.lens (.t 86)),.V 10 (.asg (.t 87))] [0,3,6,7,8,9,10] [3,6]) (.block 8 (.loop spec_l30Table_k6)))
def spec_l30Table_k8 : C :=
 .reg false [.V 65 (.mv (.t 9)),.V 66 (.bin .add (.t 65) (.c (.int .i64 1))),.V 9 (.asg (.t 66))] [0,3,6,7,8,9] [3,6]
def spec_l30Table_k9 : C :=
 .seq (.seq (.reg false [.V 58 (.mv (.t 9)),.V 59 (.mv (.t 0)),.V 60 (.mv (.t 7)),.V 61 (.ia 1 (.t 59) (.t 60)),.V 62 (.ld none (.t 61)),.V 63 (.len (.t 62)),.V 64 (.bin .lss (.t 58) (.t 63))] [0,3,6,7,8,9,64] [3,6]) (.cond (.t 64) .skip (.exit 6))) (.seq (.block 7 (.seq (.seq (.reg false [.V 67 (.mv (.t 9)),.V 68 (.bin .gtr (.t 67) (.c (.int .i64 0)))] [0,3,6,7,8,9,68] [3,6]) (.cond (.t 68) (.reg false [.V 69 (.mv (.t 8)),.V 70 (.bin .add (.t 69) (.c (.str [32,32]))),.V 8 (.asg (.t 70))] [0,3,6,7,8,9] [3,6]) .skip)) (.norm [0,3,6,7,8,9] [3,6] spec_l30Table_k7))) spec_l30Table_k8)
def spec_l30Table_k10 : C :=
 .norm [0,3,6,7,8,9] [3,6] spec_l30Table_k9
def spec_l30Table_k11 : C :=
 .seq (.seq (.reg false [.V 98 (.mv (.t 8)),.V 99 (.lens (.t 98)),.V 100 (.bin .gtr (.t 99) (.c (.int .i64 0))),.V 101 (.mv (.t 100)),.G 102 (.mv (.t 8)) 3 true,.G 103 (.mv (.t 8)) 3 true,.G 104 (.lens (.t 103)) 3 true,.G 105 (.bin .sub (.t 104) (.c (.int .i64 1))) 3 true,.G 106 (.ix (.t 102) (.t 105)) 3 true,.G 107 (.bin .eql (.t 106) (.c (.int .u8 32))) 3 true,.V 108 (.pick (.t 101) (.t 107) (.c (.bool false)))] [0,3,6,7,8,108] [3,6]) (.cond (.t 108) .skip (.exit 10))) (.block 11 (.reg false [.V 109 (.mv (.t 8)),.V 110 (.mv (.t 8)),.V 111 (.lens (.t 110)),.V 112 (.bin .sub (.t 111) (.c (.int .i64 1))),.V 113 (.slcs (.t 109) none (some (.t 112))),.V 8 (.asg (.t 113))] [0,3,6,7,8] [3,6]))
def spec_l30Table_k12 : C :=
 .norm [0,3,6,7,8] [3,6] spec_l30Table_k11
def spec_l30Table_k13 : C :=
 .reg false [.V 114 (.mv (.t 6)),.V 115 (.mv (.t 8)),.V 116 (.bsl 1 (.str []) 1 [(0,.t 115)]),.W 117 (.app 1 16 (.t 114) (.t 116)),.W 6 (.asg (.t 117))] [0,3,6,7] [3,6]
def spec_l30Table_k14 : C :=
 .seq (.block 10 (.loop spec_l30Table_k12)) spec_l30Table_k13
def spec_l30Table_k15 : C :=
 .reg false [.V 56 (.mv (.t 7)),.V 57 (.bin .add (.t 56) (.c (.int .i64 1))),.V 7 (.asg (.t 57))] [0,3,6,7] [3,6]
def spec_l30Table_k16 : C :=
 .seq (.seq (.reg false [.V 52 (.mv (.t 7)),.V 53 (.mv (.t 0)),.V 54 (.len (.t 53)),.V 55 (.bin .lss (.t 52) (.t 54))] [0,3,6,7,55] [3,6]) (.cond (.t 55) .skip (.exit 4))) (.seq (.block 5 (.seq (.reg false [.V 8 (.asg (.c (.str [])))] [0,3,6,7,8] [3,6]) (.seq (.seq (.reg false [.V 9 (.asg (.c (.int .i64 0)))] [0,3,6,7,8,9] [3,6]) (.block 6 (.loop spec_l30Table_k10))) spec_l30Table_k14))) spec_l30Table_k15)
def spec_l30Table_k17 : C :=
 .norm [0,3,6,7] [3,6] spec_l30Table_k16
def spec_l30Table_k18 : C :=
 .seq (.reg false [.V 118 (.mv (.t 6)),.W 2 (.asg (.t 118))] [2] [2,6]) .ret
def spec_l30Table_k19 : C :=
 .seq (.reg false [.V 51 (.bsl 1 (.str []) 0 []),.W 6 (.asg (.t 51))] [0,3,6] [3,6]) (.seq (.seq (.reg false [.V 7 (.asg (.c (.int .i64 0)))] [0,3,6,7] [3,6]) (.block 4 (.loop spec_l30Table_k17))) spec_l30Table_k18)
def spec_l30Table_ir : Fn := { np := 1,io := [],res := [.t 2],own := [true],body :=
 (.seq (.reg false [.W 2 (.asg (.c (.nils 1)))] [0] []) (.seq (.reg false [.V 11 (.mks 1 8 (.int .i64 0) (.c (.int .i64 12)) (.c (.int .i64 12))),.W 3 (.asg (.t 11))] [0,3] [3]) (.seq (.seq (.reg false [.V 4 (.asg (.c (.int .i64 0)))] [0,3,4] [3]) (.block 0 (.loop spec_l30Table_k4))) spec_l30Table_k19))) }
noncomputable def spec_l30Table_D : List (Nat × Callee) := []
def spec_l30Table_H : List (Nat × ET) := [(2,(.one .str)),(3,(.one (.int .i64))),(6,(.one .str)),(11,(.one (.int .i64))),(13,(.one (.sl (.one .str)))),(19,(.one (.sl (.one .str)))),(22,(.one .str)),(27,(.one (.sl (.one .str)))),(30,(.one .str)),(35,(.one (.int .i64))),(40,(.one (.int .i64))),(42,(.one (.sl (.one .str)))),(45,(.one .str)),(51,(.one .str)),(53,(.one (.sl (.one .str)))),(59,(.one (.sl (.one .str)))),(62,(.one .str)),(72,(.one (.sl (.one .str)))),(75,(.one .str)),(80,(.one (.sl (.one .str)))),(83,(.one .str)),(89,(.one (.int .i64))),(114,(.one .str)),(116,(.one .str)),(117,(.one .str)),(118,(.one .str))]
noncomputable def spec_l30Table_c : Callee := mkCallee spec_l30Table_D spec_l30Table_H spec_l30Table_ir [.d (.one (.sl (.one (.sl (.one .str)))))] [.tok (.one .str)] []
noncomputable def spec_l30Table (a0 : List (List (List UInt8))) : Option (List (List UInt8)) := spec_l30Table_c.f (a0,())
noncomputable def spec_l30Table_p0  (v0 : List (List (List UInt8))) (v3n : Nat) (v4 : Int) (r3 : List Int) : Option (List (List UInt8)) :=
 goL spec_l30Table_D spec_l30Table_H (vleave spec_l30Table_ir [.d (.one (.sl (.one (.sl (.one .str)))))] [.tok (.one .str)] [] []) [.c spec_l30Table_k3,.l spec_l30Table_k4,.e 0,.c spec_l30Table_k19]
  ⟨[(0,.sl (.one (.sl (.one .str))) v0),(3,.view 3 0 v3n),(4,.int .i64 v4)],[(3,some (.sl (.one (.int .i64)) r3))]⟩
noncomputable def spec_l30Table_p1  (v0 : List (List (List UInt8))) (v3n : Nat) (v4 : Int) (v5 : Int) (r3 : List Int) : Option (List (List UInt8)) :=
 goL spec_l30Table_D spec_l30Table_H (vleave spec_l30Table_ir [.d (.one (.sl (.one (.sl (.one .str)))))] [.tok (.one .str)] [] []) [.c spec_l30Table_k0,.l spec_l30Table_k1,.e 2,.e 1,.c spec_l30Table_k2,.l spec_l30Table_k4,.e 0,.c spec_l30Table_k19]
  ⟨[(0,.sl (.one (.sl (.one .str))) v0),(3,.view 3 0 v3n),(4,.int .i64 v4),(5,.int .i64 v5)],[(3,some (.sl (.one (.int .i64)) r3))]⟩
noncomputable def spec_l30Table_p2  (v0 : List (List (List UInt8))) (v3n : Nat) (v7 : Int) (r3 : List Int) (r6 : List (List UInt8)) : Option (List (List UInt8)) :=
 goL spec_l30Table_D spec_l30Table_H (vleave spec_l30Table_ir [.d (.one (.sl (.one (.sl (.one .str)))))] [.tok (.one .str)] [] []) [.c spec_l30Table_k16,.l spec_l30Table_k17,.e 4,.c spec_l30Table_k18]
  ⟨[(0,.sl (.one (.sl (.one .str))) v0),(3,.view 3 0 v3n),(6,.view 6 0 r6.length),(7,.int .i64 v7)],[(3,some (.sl (.one (.int .i64)) r3)),(6,some (.sl (.one .str) r6))]⟩
noncomputable def spec_l30Table_p3  (v0 : List (List (List UInt8))) (v3n : Nat) (v7 : Int) (v8 : List UInt8) (v9 : Int) (r3 : List Int) (r6 : List (List UInt8)) : Option (List (List UInt8)) :=
 goL spec_l30Table_D spec_l30Table_H (vleave spec_l30Table_ir [.d (.one (.sl (.one (.sl (.one .str)))))] [.tok (.one .str)] [] []) [.c spec_l30Table_k9,.l spec_l30Table_k10,.e 6,.c spec_l30Table_k14,.e 5,.c spec_l30Table_k15,.l spec_l30Table_k17,.e 4,.c spec_l30Table_k18]
  ⟨[(0,.sl (.one (.sl (.one .str))) v0),(3,.view 3 0 v3n),(6,.view 6 0 r6.length),(7,.int .i64 v7),(8,.str v8),(9,.int .i64 v9)],[(3,some (.sl (.one (.int .i64)) r3)),(6,some (.sl (.one .str) r6))]⟩
noncomputable def spec_l30Table_p4  (v0 : List (List (List UInt8))) (v3n : Nat) (v7 : Int) (v8 : List UInt8) (v9 : Int) (r3 : List Int) (r6 : List (List UInt8)) : Option (List (List UInt8)) :=
 goL spec_l30Table_D spec_l30Table_H (vleave spec_l30Table_ir [.d (.one (.sl (.one (.sl (.one .str)))))] [.tok (.one .str)] [] []) [.c spec_l30Table_k7,.e 7,.c spec_l30Table_k8,.l spec_l30Table_k10,.e 6,.c spec_l30Table_k14,.e 5,.c spec_l30Table_k15,.l spec_l30Table_k17,.e 4,.c spec_l30Table_k18]
  ⟨[(0,.sl (.one (.sl (.one .str))) v0),(3,.view 3 0 v3n),(6,.view 6 0 r6.length),(7,.int .i64 v7),(8,.str v8),(9,.int .i64 v9)],[(3,some (.sl (.one (.int .i64)) r3)),(6,some (.sl (.one .str) r6))]⟩
noncomputable def spec_l30Table_p5  (v0 : List (List (List UInt8))) (v3n : Nat) (v7 : Int) (v8 : List UInt8) (r3 : List Int) (r6 : List (List UInt8)) : Option (List (List UInt8)) :=
 goL spec_l30Table_D spec_l30Table_H (vleave spec_l30Table_ir [.d (.one (.sl (.one (.sl (.one .str)))))] [.tok (.one .str)] [] []) [.c spec_l30Table_k11,.l spec_l30Table_k12,.e 10,.c spec_l30Table_k13,.e 5,.c spec_l30Table_k15,.l spec_l30Table_k17,.e 4,.c spec_l30Table_k18]
  ⟨[(0,.sl (.one (.sl (.one .str))) v0),(3,.view 3 0 v3n),(6,.view 6 0 r6.length),(7,.int .i64 v7),(8,.str v8)],[(3,some (.sl (.one (.int .i64)) r3)),(6,some (.sl (.one .str) r6))]⟩
noncomputable def spec_l30Table_p6  (v0 : List (List (List UInt8))) (v3n : Nat) (v7 : Int) (v8 : List UInt8) (v9 : Int) (v10 : Int) (r3 : List Int) (r6 : List (List UInt8)) : Option (List (List UInt8)) :=
 goL spec_l30Table_D spec_l30Table_H (vleave spec_l30Table_ir [.d (.one (.sl (.one (.sl (.one .str)))))] [.tok (.one .str)] [] []) [.c spec_l30Table_k5,.l spec_l30Table_k6,.e 8,.e 7,.c spec_l30Table_k8,.l spec_l30Table_k10,.e 6,.c spec_l30Table_k14,.e 5,.c spec_l30Table_k15,.l spec_l30Table_k17,.e 4,.c spec_l30Table_k18]
  ⟨[(0,.sl (.one (.sl (.one .str))) v0),(3,.view 3 0 v3n),(6,.view 6 0 r6.length),(7,.int .i64 v7),(8,.str v8),(9,.int .i64 v9),(10,.int .i64 v10)],[(3,some (.sl (.one (.int .i64)) r3)),(6,some (.sl (.one .str) r6))]⟩
theorem spec_l30Table_eq (a0 : List (List (List UInt8))) : spec_l30Table a0 =
 spec_l30Table_p0 a0 12 0 [0,0,0,0,0,0,0,0,0,0,0,0] :=
 (mk_f _ _ _ _ _ _ _ 4000).trans (by kernel_rfl)
theorem spec_l30Table_p0_eq  (v0 : List (List (List UInt8))) (v3n : Nat) (v4 : Int) (r3 : List Int) : spec_l30Table_p0 v0 v3n v4 r3 =
 if decide (v4 < (v0.length : Int)) then
  spec_l30Table_p1 v0 v3n v4 0 r3
 else
  spec_l30Table_p2 v0 v3n 0 r3 [] :=
 (goL_dn _ _ _ 4000 _ _).trans (by kernel_rfl)
theorem spec_l30Table_p1_eq  (v0 : List (List (List UInt8))) (v3n : Nat) (v4 : Int) (v5 : Int) (r3 : List Int) : spec_l30Table_p1 v0 v3n v4 v5 r3 =
 if decide (0 ≤ v4) then
  (v0[v4.toNat]?).bind fun x1 =>
   if decide (v5 < (x1.length : Int)) then
    if decide (0 ≤ v4) then
     (v0[v4.toNat]?).bind fun x2 =>
      if decide (0 ≤ v5) then
       (x2[v5.toNat]?).bind fun x3 =>
        if decide (0 ≤ v5) && decide (v5 < (v3n : Int)) then
         (r3[v5.toNat]?).bind fun x4 =>
          if decide ((x3.length : Int) > x4) then
           if decide (0 ≤ v4) then
            (v0[v4.toNat]?).bind fun x5 =>
             if decide (0 ≤ v5) then
              (x5[v5.toNat]?).bind fun x6 =>
               if decide (0 ≤ v5) && decide (v5 < (v3n : Int)) then
                (r3[v5.toNat]?).bind fun x7 =>
                 spec_l30Table_p1 v0 v3n v4 (IntKind.i64.wrap (v5 + 1)) (r3.set v5.toNat (x6.length : Int))
               else
                none
             else
              none
           else
            none
          else
           spec_l30Table_p1 v0 v3n v4 (IntKind.i64.wrap (v5 + 1)) r3
        else
         none
      else
       none
    else
     none
   else
    spec_l30Table_p0 v0 v3n (IntKind.i64.wrap (v4 + 1)) r3
 else
  none :=
 (goL_dn _ _ _ 4000 _ _).trans (by kernel_rfl)
theorem spec_l30Table_p2_eq  (v0 : List (List (List UInt8))) (v3n : Nat) (v7 : Int) (r3 : List Int) (r6 : List (List UInt8)) : spec_l30Table_p2 v0 v3n v7 r3 r6 =
 if decide (v7 < (v0.length : Int)) then
  spec_l30Table_p3 v0 v3n v7 [] 0 r3 r6
 else
  some (r6.take r6.length) :=
 (goL_dn _ _ _ 4000 _ _).trans (by kernel_rfl)
theorem spec_l30Table_p3_eq  (v0 : List (List (List UInt8))) (v3n : Nat) (v7 : Int) (v8 : List UInt8) (v9 : Int) (r3 : List Int) (r6 : List (List UInt8)) : spec_l30Table_p3 v0 v3n v7 v8 v9 r3 r6 =
 if decide (0 ≤ v7) then
  (v0[v7.toNat]?).bind fun x1 =>
   if decide (v9 < (x1.length : Int)) then
    if decide (v9 > 0) then
     if decide (v8.length + [32,32].length ≤ strMax) then
      spec_l30Table_p4 v0 v3n v7 (v8 ++ [32,32]) v9 r3 r6
     else
      none
    else
     spec_l30Table_p4 v0 v3n v7 v8 v9 r3 r6
   else
    spec_l30Table_p5 v0 v3n v7 v8 r3 r6
 else
  none :=
 (goL_dn _ _ _ 4000 _ _).trans (by kernel_rfl)
theorem spec_l30Table_p4_eq  (v0 : List (List (List UInt8))) (v3n : Nat) (v7 : Int) (v8 : List UInt8) (v9 : Int) (r3 : List Int) (r6 : List (List UInt8)) : spec_l30Table_p4 v0 v3n v7 v8 v9 r3 r6 =
 if decide (0 ≤ v7) then
  (v0[v7.toNat]?).bind fun x1 =>
   if decide (0 ≤ v9) then
    (x1[v9.toNat]?).bind fun x2 =>
     if decide (v8.length + x2.length ≤ strMax) then
      if decide (0 ≤ v7) then
       (v0[v7.toNat]?).bind fun x3 =>
        if decide (0 ≤ v9) then
         (x3[v9.toNat]?).bind fun x4 =>
          spec_l30Table_p6 v0 v3n v7 (v8 ++ x2) v9 (x4.length : Int) r3 r6
        else
         none
      else
       none
     else
      none
   else
    none
 else
  none :=
 (goL_dn _ _ _ 4000 _ _).trans (by kernel_rfl)
theorem spec_l30Table_p5_eq  (v0 : List (List (List UInt8))) (v3n : Nat) (v7 : Int) (v8 : List UInt8) (r3 : List Int) (r6 : List (List UInt8)) : spec_l30Table_p5 v0 v3n v7 v8 r3 r6 =
 if decide ((v8.length : Int) > 0) then
  if decide (0 ≤ IntKind.i64.wrap ((v8.length : Int) - 1)) then
   (v8[(IntKind.i64.wrap ((v8.length : Int) - 1)).toNat]?).bind fun x1 =>
    if ((x1.toNat : Int) == 32) then
     if decide (0 ≤ IntKind.i64.wrap ((v8.length : Int) - 1)) && decide (IntKind.i64.wrap ((v8.length : Int) - 1) ≤ (v8.length : Int)) then
      spec_l30Table_p5 v0 v3n v7 (v8.take ((IntKind.i64.wrap ((v8.length : Int) - 1)).toNat)) r3 r6
     else
      none
    else
     if decide (r6.length + 1 < lim) then
      spec_l30Table_p2 v0 v3n (IntKind.i64.wrap (v7 + 1)) r3 ((r6.take r6.length) ++ [v8])
     else
      none
  else
   none
 else
  if decide (r6.length + 1 < lim) then
   spec_l30Table_p2 v0 v3n (IntKind.i64.wrap (v7 + 1)) r3 ((r6.take r6.length) ++ [v8])
  else
   none :=
 (goL_dn _ _ _ 4000 _ _).trans (by kernel_rfl)
theorem spec_l30Table_p6_eq  (v0 : List (List (List UInt8))) (v3n : Nat) (v7 : Int) (v8 : List UInt8) (v9 : Int) (v10 : Int) (r3 : List Int) (r6 : List (List UInt8)) : spec_l30Table_p6 v0 v3n v7 v8 v9 v10 r3 r6 =
 if decide (0 ≤ v9) && decide (v9 < (v3n : Int)) then
  (r3[v9.toNat]?).bind fun x1 =>
   if decide (v10 < x1) then
    if decide (v8.length + [32].length ≤ strMax) then
     spec_l30Table_p6 v0 v3n v7 (v8 ++ [32]) v9 (IntKind.i64.wrap (v10 + 1)) r3 r6
    else
     none
   else
    spec_l30Table_p3 v0 v3n v7 v8 (IntKind.i64.wrap (v9 + 1)) r3 r6
 else
  none :=
 (goL_dn _ _ _ 4000 _ _).trans (by kernel_rfl)
def spec_l30Line_k0 : C :=
 .seq (.seq (.reg false [.V 4 (.mv (.t 3)),.V 5 (.mv (.t 0)),.V 6 (.lens (.t 5)),.V 7 (.bin .lss (.t 4) (.t 6))] [0,3,7] []) (.cond (.t 7) .skip (.exit 0))) (.seq (.block 1 (.seq (.reg false [.V 10 (.mv (.t 0)),.V 11 (.mv (.t 3)),.V 12 (.ix (.t 10) (.t 11)),.V 13 (.bin .lss (.t 12) (.c (.int .u8 32))),.V 14 (.mv (.t 13)),.G 15 (.mv (.t 0)) 4 false,.G 16 (.mv (.t 3)) 4 false,.G 17 (.ix (.t 15) (.t 16)) 4 false,.G 18 (.bin .gtr (.t 17) (.c (.int .u8 126))) 4 false,.V 19 (.pick (.t 14) (.c (.bool true)) (.t 18))] [0,3,19] []) (.cond (.t 19) (.seq (.reg false [.V 2 (.asg (.c (.bool false)))] [2] []) .ret) .skip))) (.reg false [.V 8 (.mv (.t 3)),.V 9 (.bin .add (.t 8) (.c (.int .i64 1))),.V 3 (.asg (.t 9))] [0,3] []))
def spec_l30Line_k1 : C :=
 .norm [0,3] [] spec_l30Line_k0
def spec_l30Line_k2 : C :=
 .seq (.reg false [.V 20 (.mv (.t 0)),.V 21 (.lens (.t 20)),.V 22 (.bin .leq (.t 21) (.c (.int .i64 100))),.V 2 (.asg (.t 22))] [2] []) .ret
def spec_l30Line_ir : Fn := { np := 1,io := [],res := [.t 2],own := [false],body :=
 (.seq (.reg false [.V 2 (.asg (.c (.bool false)))] [0] []) (.seq (.seq (.reg false [.V 3 (.asg (.c (.int .i64 0)))] [0,3] []) (.block 0 (.loop spec_l30Line_k1))) spec_l30Line_k2)) }
noncomputable def spec_l30Line_D : List (Nat × Callee) := []
def spec_l30Line_H : List (Nat × ET) := []
noncomputable def spec_l30Line_c : Callee := mkCallee spec_l30Line_D spec_l30Line_H spec_l30Line_ir [.d (.one .str)] [.d (.one .bool)] []
noncomputable def spec_l30Line (a0 : List UInt8) : Option (Bool) := spec_l30Line_c.f (a0,())
noncomputable def spec_l30Line_p0  (v0 : List UInt8) (v3 : Int) : Option (Bool) :=
 goL spec_l30Line_D spec_l30Line_H (vleave spec_l30Line_ir [.d (.one .str)] [.d (.one .bool)] [] []) [.c spec_l30Line_k0,.l spec_l30Line_k1,.e 0,.c spec_l30Line_k2]
  ⟨[(0,.str v0),(3,.int .i64 v3)],[]⟩
theorem spec_l30Line_eq (a0 : List UInt8) : spec_l30Line a0 =
 spec_l30Line_p0 a0 0 :=
 (mk_f _ _ _ _ _ _ _ 4000).trans (by kernel_rfl)
theorem spec_l30Line_p0_eq  (v0 : List UInt8) (v3 : Int) : spec_l30Line_p0 v0 v3 =
 if decide (v3 < (v0.length : Int)) then
  if decide (0 ≤ v3) then
   (v0[v3.toNat]?).bind fun x1 =>
    if decide ((x1.toNat : Int) < 32) then
     some false
    else
     if decide (0 ≤ v3) then
      (v0[v3.toNat]?).bind fun x2 =>
       if decide ((x2.toNat : Int) > 126) then
        some false
       else
        spec_l30Line_p0 v0 (IntKind.i64.wrap (v3 + 1))
     else
      none
  else
   none
 else
  some (decide ((v0.length : Int) ≤ 100)) :=
 (goL_dn _ _ _ 4000 _ _).trans (by kernel_rfl)
def spec_l30Ok_k0 : C :=
 .seq (.seq (.reg false [.V 4 (.mv (.t 3)),.V 5 (.mv (.t 0)),.V 6 (.len (.t 5)),.V 7 (.bin .lss (.t 4) (.t 6))] [0,3,7] []) (.cond (.t 7) .skip (.exit 0))) (.seq (.block 1 (.seq (.reg false [.V 10 (.mv (.t 0)),.V 11 (.mv (.t 3)),.V 12 (.ia 1 (.t 10) (.t 11)),.V 13 (.ld none (.t 12)),.V 14 (.call (.c (.fn 988 [])) [.t 13]),.V 15 (.un .not (.t 14))] [0,3,15] []) (.cond (.t 15) (.seq (.reg false [.V 2 (.asg (.c (.bool false)))] [2] []) .ret) .skip))) (.reg false [.V 8 (.mv (.t 3)),.V 9 (.bin .add (.t 8) (.c (.int .i64 1))),.V 3 (.asg (.t 9))] [0,3] []))
def spec_l30Ok_k1 : C :=
 .norm [0,3] [] spec_l30Ok_k0
def spec_l30Ok_k2 : C :=
 .seq (.reg false [.V 16 (.mv (.t 0)),.V 17 (.len (.t 16)),.V 18 (.bin .leq (.t 17) (.c (.int .i64 200))),.V 2 (.asg (.t 18))] [2] []) .ret
def spec_l30Ok_ir : Fn := { np := 1,io := [],res := [.t 2],own := [false],body :=
 (.seq (.reg false [.V 2 (.asg (.c (.bool false)))] [0] []) (.seq (.seq (.reg false [.V 3 (.asg (.c (.int .i64 0)))] [0,3] []) (.block 0 (.loop spec_l30Ok_k1))) spec_l30Ok_k2)) }
noncomputable def spec_l30Ok_D : List (Nat × Callee) := [(988,spec_l30Line_c)]
def spec_l30Ok_H : List (Nat × ET) := [(5,(.one .str)),(10,(.one .str)),(16,(.one .str))]
noncomputable def spec_l30Ok_c : Callee := mkCallee spec_l30Ok_D spec_l30Ok_H spec_l30Ok_ir [.d (.one (.sl (.one .str)))] [.d (.one .bool)] []
noncomputable def spec_l30Ok (a0 : List (List UInt8)) : Option (Bool) := spec_l30Ok_c.f (a0,())
noncomputable def spec_l30Ok_p0  (v0 : List (List UInt8)) (v3 : Int) : Option (Bool) :=
 goL spec_l30Ok_D spec_l30Ok_H (vleave spec_l30Ok_ir [.d (.one (.sl (.one .str)))] [.d (.one .bool)] [] []) [.c spec_l30Ok_k0,.l spec_l30Ok_k1,.e 0,.c spec_l30Ok_k2]
  ⟨[(0,.sl (.one .str) v0),(3,.int .i64 v3)],[]⟩
theorem spec_l30Ok_eq (a0 : List (List UInt8)) : spec_l30Ok a0 =
 spec_l30Ok_p0 a0 0 :=
 (mk_f _ _ _ _ _ _ _ 4000).trans (by kernel_rfl)
theorem spec_l30Ok_p0_eq  (v0 : List (List UInt8)) (v3 : Int) : spec_l30Ok_p0 v0 v3 =
 if decide (v3 < (v0.length : Int)) then
  if decide (0 ≤ v3) then
   (v0[v3.toNat]?).bind fun x1 =>
    (spec_l30Line x1).bind fun x2 =>
     if (!x2) then
      some false
     else
      spec_l30Ok_p0 v0 (IntKind.i64.wrap (v3 + 1))
  else
   none
 else
  some (decide ((v0.length : Int) ≤ 200)) :=
 (goL_dn _ _ _ 4000 _ _).trans (by kernel_rfl)
def spec_l30Done_ir : Fn := { np := 1,io := [],res := [.t 2,.t 3],own := [false,false],body :=
 (.seq (.reg false [.W 2 (.asg (.c (.nils 1))),.V 3 (.asg (.c (.int .i64 0)))] [0] []) (.seq (.seq (.reg false [.V 4 (.mv (.t 0)),.V 5 (.call (.c (.fn 822 [])) [.t 4]),.V 6 (.un .not (.t 5))] [0,6] []) (.cond (.t 6) (.seq (.reg false [.W 2 (.asg (.c (.nils 1))),.V 3 (.asg (.c (.int .i64 5)))] [2,3] [2]) .ret) .skip)) (.seq (.reg false [.V 7 (.mv (.t 0)),.W 2 (.asg (.t 7)),.V 3 (.asg (.c (.int .i64 0)))] [2,3] [2]) .ret))) }
noncomputable def spec_l30Done_D : List (Nat × Callee) := [(822,spec_l30Ok_c)]
def spec_l30Done_H : List (Nat × ET) := [(2,(.one .str)),(4,(.one .str)),(7,(.one .str))]
noncomputable def spec_l30Done_c : Callee := mkCallee spec_l30Done_D spec_l30Done_H spec_l30Done_ir [.d (.one (.sl (.one .str)))] [.d (.one (.sl (.one .str))),.d (.one (.int .i64))] []
noncomputable def spec_l30Done (a0 : List (List UInt8)) : Option (List (List UInt8) × Int) := spec_l30Done_c.f (a0,())
theorem spec_l30Done_eq (a0 : List (List UInt8)) : spec_l30Done a0 =
 (spec_l30Ok a0).bind fun x1 =>
  if (!x1) then
   some ([],5)
  else
   some (a0,0) :=
 (mk_f _ _ _ _ _ _ _ 4000).trans (by kernel_rfl)
def spec_TableLines_ir : Fn := { np := 1,io := [],res := [.t 2,.t 3],own := [false,false],body :=
 (.seq (.reg false [.W 2 (.asg (.c (.nils 1))),.V 3 (.asg (.c (.int .i64 0)))] [0] []) (.seq (.seq (.reg false [.V 4 (.mv (.t 0)),.V 5 (.call (.c (.fn 628 [])) [.t 4]),.V 6 (.un .not (.t 5))] [0,6] []) (.cond (.t 6) (.seq (.reg false [.W 2 (.asg (.c (.nils 1))),.V 3 (.asg (.c (.int .i64 2)))] [2,3] [2]) .ret) .skip)) (.seq (.reg false [.V 7 (.mv (.t 0)),.V 8 (.call (.c (.fn 627 [])) [.t 7]),.W 9 (.call (.c (.fn 516 [])) [.t 8]),.V 10 (.ext (.t 9) 0),.V 11 (.ext (.t 9) 1),.W 2 (.asg (.t 10)),.V 3 (.asg (.t 11))] [2,3] [2]) .ret))) }
noncomputable def spec_TableLines_D : List (Nat × Callee) := [(516,spec_l30Done_c),(627,spec_l30Table_c),(628,spec_l30Rows_c)]
def spec_TableLines_H : List (Nat × ET) := [(2,(.one .str)),(4,(.one (.sl (.one .str)))),(7,(.one (.sl (.one .str)))),(8,(.one .str)),(10,(.one .str))]
noncomputable def spec_TableLines_c : Callee := mkCallee spec_TableLines_D spec_TableLines_H spec_TableLines_ir [.d (.one (.sl (.one (.sl (.one .str)))))] [.d (.one (.sl (.one .str))),.d (.one (.int .i64))] []
noncomputable def spec_TableLines (a0 : List (List (List UInt8))) : Option (List (List UInt8) × Int) := spec_TableLines_c.f (a0,())
theorem spec_TableLines_eq (a0 : List (List (List UInt8))) : spec_TableLines a0 =
 (spec_l30Rows a0).bind fun x1 =>
  if (!x1) then
   some ([],2)
  else
   (spec_l30Table a0).bind fun x2 =>
    (spec_l30Done x2).bind fun x3 =>
     some (x3.1,x3.2) :=
 (mk_f _ _ _ _ _ _ _ 4000).trans (by kernel_rfl)
def impl_within_ir : Fn := { np := 3,io := [],res := [.t 6],own := [false],body :=
 (.seq (.reg false [.V 6 (.asg (.c (.bool false)))] [0,1,2] []) (.seq (.reg false [.V 7 (.mv (.t 1)),.V 8 (.mv (.t 0)),.V 9 (.bin .leq (.t 7) (.t 8)),.V 10 (.mv (.t 9)),.G 11 (.mv (.t 0)) 3 true,.G 12 (.mv (.t 2)) 3 true,.G 13 (.bin .leq (.t 11) (.t 12)) 3 true,.V 14 (.pick (.t 10) (.t 13) (.c (.bool false))),.V 6 (.asg (.t 14))] [6] []) .ret)) }
noncomputable def impl_within_D : List (Nat × Callee) := []
def impl_within_H : List (Nat × ET) := []
noncomputable def impl_within_c : Callee := mkCallee impl_within_D impl_within_H impl_within_ir [.d (.one (.int .i64)),.d (.one (.int .i64)),.d (.one (.int .i64))] [.d (.one .bool)] []
noncomputable def impl_within (a0 : Int) (a1 : Int) (a2 : Int) : Option (Bool) := impl_within_c.f (a0,a1,a2,())
theorem impl_within_eq (a0 : Int) (a1 : Int) (a2 : Int) : impl_within a0 a1 a2 =
 if decide (a1 ≤ a0) then
  some (decide (a0 ≤ a2))
 else
  some false :=
 (mk_f _ _ _ _ _ _ _ 4000).trans (by kernel_rfl)
def impl_few_ir : Fn := { np := 2,io := [],res := [.t 4],own := [false],body :=
 (.seq (.reg false [.V 4 (.asg (.c (.bool false)))] [0,1] []) (.seq (.reg false [.V 5 (.mv (.t 0)),.V 6 (.mv (.t 1)),.V 7 (.bin .leq (.t 5) (.t 6)),.V 4 (.asg (.t 7))] [4] []) .ret)) }
noncomputable def impl_few_D : List (Nat × Callee) := []
def impl_few_H : List (Nat × ET) := []
noncomputable def impl_few_c : Callee := mkCallee impl_few_D impl_few_H impl_few_ir [.d (.one (.int .i64)),.d (.one (.int .i64))] [.d (.one .bool)] []
noncomputable def impl_few (a0 : Int) (a1 : Int) : Option (Bool) := impl_few_c.f (a0,a1,())
theorem impl_few_eq (a0 : Int) (a1 : Int) : impl_few a0 a1 =
 some (decide (a0 ≤ a1)) :=
 (mk_f _ _ _ _ _ _ _ 4000).trans (by kernel_rfl)
def impl_areCells_k0 : C :=
 .seq (.seq (.reg false [.V 12 (.mv (.t 5)),.V 13 (.mv (.t 4)),.V 14 (.lens (.t 13)),.V 15 (.bin .lss (.t 12) (.t 14))] [0,4,5,6,7,8,15] []) (.cond (.t 15) .skip (.exit 2))) (.seq (.block 3 (.seq (.reg false [.V 18 (.mv (.t 4)),.V 19 (.mv (.t 5)),.V 20 (.ix (.t 18) (.t 19)),.V 21 (.conv (.int .i64) (.t 20)),.V 22 (.call (.c (.fn 23 [])) [.t 21,.c (.int .i64 33),.c (.int .i64 126)]),.V 23 (.un .not (.t 22))] [0,4,5,6,7,8,23] []) (.cond (.t 23) (.seq (.reg false [.V 2 (.asg (.c (.bool false)))] [2] []) .ret) .skip))) (.reg false [.V 16 (.mv (.t 5)),.V 17 (.bin .add (.t 16) (.c (.int .i64 1))),.V 5 (.asg (.t 17))] [0,4,5,6,7,8] []))
def impl_areCells_k1 : C :=
 .norm [0,4,5,6,7,8] [] impl_areCells_k0
def impl_areCells_k2 : C :=
 .reg false [.V 24 (.bin .add (.t 8) (.c (.int .i64 1))),.V 8 (.mv (.t 24))] [0,6,7,8] []
def impl_areCells_k3 : C :=
 .seq (.reg false [.V 9 (.bin .lss (.t 8) (.t 7))] [0,6,7,8,9] []) (.seq (.cond (.t 9) .skip (.exit 0)) (.seq (.block 1 (.seq (.reg false [.V 10 (.ia 1 (.t 6) (.t 8)),.V 11 (.ld none (.t 10)),.V 4 (.asg (.t 11))] [0,4,6,7,8] []) (.seq (.reg false [.V 5 (.asg (.c (.int .i64 0)))] [0,4,5,6,7,8] []) (.block 2 (.loop impl_areCells_k1))))) impl_areCells_k2))
def impl_areCells_k4 : C :=
 .norm [0,6,7,8] [] impl_areCells_k3
def impl_areCells_k5 : C :=
 .seq (.reg false [.V 25 (.mv (.t 0)),.V 26 (.len (.t 25)),.V 27 (.call (.c (.fn 21 [])) [.t 26,.c (.int .i64 12)]),.V 2 (.asg (.t 27))] [2] []) .ret
def impl_areCells_ir : Fn := { np := 1,io := [],res := [.t 2],own := [false],body :=
 (.seq (.reg false [.V 2 (.asg (.c (.bool false)))] [0] []) (.seq (.seq (.reg false [.V 6 (.mv (.t 0)),.V 7 (.len (.t 6)),.V 8 (.mv (.c (.int .i64 0)))] [0,6,7,8] []) (.block 0 (.loop impl_areCells_k4))) impl_areCells_k5)) }
noncomputable def impl_areCells_D : List (Nat × Callee) := [(21,impl_few_c),(23,impl_within_c)]
def impl_areCells_H : List (Nat × ET) := [(6,(.one .str)),(25,(.one .str))]
noncomputable def impl_areCells_c : Callee := mkCallee impl_areCells_D impl_areCells_H impl_areCells_ir [.d (.one (.sl (.one .str)))] [.d (.one .bool)] []
noncomputable def impl_areCells (a0 : List (List UInt8)) : Option (Bool) := impl_areCells_c.f (a0,())
noncomputable def impl_areCells_p0  (v0 : List (List UInt8)) (v6 : List (List UInt8)) (v7 : Int) (v8 : Int) : Option (Bool) :=
 goL impl_areCells_D impl_areCells_H (vleave impl_areCells_ir [.d (.one (.sl (.one .str)))] [.d (.one .bool)] [] []) [.c impl_areCells_k3,.l impl_areCells_k4,.e 0,.c impl_areCells_k5]
  ⟨[(0,.sl (.one .str) v0),(6,.sl (.one .str) v6),(7,.int .i64 v7),(8,.int .i64 v8)],[]⟩
noncomputable def impl_areCells_p1  (v0 : List (List UInt8)) (v4 : List UInt8) (v5 : Int) (v6 : List (List UInt8)) (v7 : Int) (v8 : Int) : Option (Bool) :=
 goL impl_areCells_D impl_areCells_H (vleave impl_areCells_ir [.d (.one (.sl (.one .str)))] [.d (.one .bool)] [] []) [.c impl_areCells_k0,.l impl_areCells_k1,.e 2,.e 1,.c impl_areCells_k2,.l impl_areCells_k4,.e 0,.c impl_areCells_k5]
  ⟨[(0,.sl (.one .str) v0),(4,.str v4),(5,.int .i64 v5),(6,.sl (.one .str) v6),(7,.int .i64 v7),(8,.int .i64 v8)],[]⟩
theorem impl_areCells_eq (a0 : List (List UInt8)) : impl_areCells a0 =
 impl_areCells_p0 a0 a0 (a0.length : Int) 0 :=
 (mk_f _ _ _ _ _ _ _ 4000).trans (by kernel_rfl)
theorem impl_areCells_p0_eq  (v0 : List (List UInt8)) (v6 : List (List UInt8)) (v7 : Int) (v8 : Int) : impl_areCells_p0 v0 v6 v7 v8 =
 if decide (v8 < v7) then
  if decide (0 ≤ v8) then
   (v6[v8.toNat]?).bind fun x1 =>
    impl_areCells_p1 v0 x1 0 v6 v7 v8
  else
   none
 else
  (impl_few (v0.length : Int) 12).bind fun x2 =>
   some x2 :=
 (goL_dn _ _ _ 4000 _ _).trans (by kernel_rfl)
theorem impl_areCells_p1_eq  (v0 : List (List UInt8)) (v4 : List UInt8) (v5 : Int) (v6 : List (List UInt8)) (v7 : Int) (v8 : Int) : impl_areCells_p1 v0 v4 v5 v6 v7 v8 =
 if decide (v5 < (v4.length : Int)) then
  if decide (0 ≤ v5) then
   (v4[v5.toNat]?).bind fun x1 =>
    (impl_within (IntKind.i64.wrap (x1.toNat : Int)) 33 126).bind fun x2 =>
     if (!x2) then
      some false
     else
      impl_areCells_p1 v0 v4 (IntKind.i64.wrap (v5 + 1)) v6 v7 v8
  else
   none
 else
  impl_areCells_p0 v0 v6 v7 (IntKind.i64.wrap (v8 + 1)) :=
 (goL_dn _ _ _ 4000 _ _).trans (by kernel_rfl)
noncomputable def strings_Repeat_c : Callee := repeatC
noncomputable def strings_Repeat (a0 : List UInt8) (a1 : Int) : Option (List UInt8) := strings_Repeat_c.f (a0,a1,())
theorem strings_Repeat_eq (a0 : List UInt8) (a1 : Int) : strings_Repeat a0 a1 = if decide (0 ≤ a1) && (decide (a1 ≤ 9223372036854775807) && decide (a0.length * a1.toNat ≤ 140737488355328)) then some (Lib.repeatL a0 a1.toNat) else none := rfl
noncomputable def strings_Join_c : Callee := joinC
noncomputable def strings_Join (a0 : List (List UInt8)) (a1 : List UInt8) : Option (List UInt8) := strings_Join_c.f (a0,a1,())
theorem strings_Join_eq (a0 : List (List UInt8)) (a1 : List UInt8) : strings_Join a0 a1 = if decide (a0.length ≤ 140737488355328) && decide ((Lib.join a0 a1).length ≤ 140737488355328) then some (Lib.join a0 a1) else none := rfl
def strings_trimRightByte_k0 : C :=
 .seq (.seq (.reg false [.V 5 (.mv (.t 0)),.V 6 (.lens (.t 5)),.V 7 (.bin .gtr (.t 6) (.c (.int .i64 0))),.V 8 (.mv (.t 7)),.G 9 (.mv (.t 0)) 3 true,.G 10 (.mv (.t 0)) 3 true,.G 11 (.lens (.t 10)) 3 true,.G 12 (.bin .sub (.t 11) (.c (.int .i64 1))) 3 true,.G 13 (.ix (.t 9) (.t 12)) 3 true,.G 14 (.mv (.t 1)) 3 true,.G 15 (.bin .eql (.t 13) (.t 14)) 3 true,.V 16 (.pick (.t 8) (.t 15) (.c (.bool false)))] [0,1,16] []) (.cond (.t 16) .skip (.exit 0))) (.block 1 (.reg false [.V 17 (.mv (.t 0)),.V 18 (.mv (.t 0)),.V 19 (.lens (.t 18)),.V 20 (.bin .sub (.t 19) (.c (.int .i64 1))),.V 21 (.slcs (.t 17) none (some (.t 20))),.V 0 (.asg (.t 21))] [0,1] []))
def strings_trimRightByte_k1 : C :=
 .norm [0,1] [] strings_trimRightByte_k0
def strings_trimRightByte_k2 : C :=
 .seq (.reg false [.V 22 (.mv (.t 0)),.V 4 (.asg (.t 22))] [4] []) .ret
def strings_trimRightByte_ir : Fn := { np := 2,io := [],res := [.t 4],own := [false],body :=
 (.seq (.reg false [.V 4 (.asg (.c (.str [])))] [0,1] []) (.seq (.block 0 (.loop strings_trimRightByte_k1)) strings_trimRightByte_k2)) }
noncomputable def strings_trimRightByte_D : List (Nat × Callee) := []
def strings_trimRightByte_H : List (Nat × ET) := []
noncomputable def strings_trimRightByte_c : Callee := mkCallee strings_trimRightByte_D strings_trimRightByte_H strings_trimRightByte_ir [.d (.one .str),.d (.one (.int .u8))] [.d (.one .str)] []
noncomputable def strings_trimRightByte (a0 : List UInt8) (a1 : Int) : Option (List UInt8) := strings_trimRightByte_c.f (a0,a1,())
noncomputable def strings_trimRightByte_p0  (v0 : List UInt8) (v1 : Int) : Option (List UInt8) :=
 goL strings_trimRightByte_D strings_trimRightByte_H (vleave strings_trimRightByte_ir [.d (.one .str),.d (.one (.int .u8))] [.d (.one .str)] [] []) [.c strings_trimRightByte_k0,.l strings_trimRightByte_k1,.e 0,.c strings_trimRightByte_k2]
  ⟨[(0,.str v0),(1,.int .u8 v1)],[]⟩
theorem strings_trimRightByte_eq (a0 : List UInt8) (a1 : Int) : strings_trimRightByte a0 a1 =
 strings_trimRightByte_p0 a0 a1 :=
 (mk_f _ _ _ _ _ _ _ 4000).trans (by kernel_rfl)
theorem strings_trimRightByte_p0_eq  (v0 : List UInt8) (v1 : Int) : strings_trimRightByte_p0 v0 v1 =
 if decide ((v0.length : Int) > 0) then
  if decide (0 ≤ IntKind.i64.wrap ((v0.length : Int) - 1)) then
   (v0[(IntKind.i64.wrap ((v0.length : Int) - 1)).toNat]?).bind fun x1 =>
    if ((x1.toNat : Int) == v1) then
     if decide (0 ≤ IntKind.i64.wrap ((v0.length : Int) - 1)) && decide (IntKind.i64.wrap ((v0.length : Int) - 1) ≤ (v0.length : Int)) then
      strings_trimRightByte_p0 (v0.take ((IntKind.i64.wrap ((v0.length : Int) - 1)).toNat)) v1
     else
      none
    else
     some v0
  else
   none
 else
  some v0 :=
 (goL_dn _ _ _ 4000 _ _).trans (by kernel_rfl)
def strings_TrimRight_k0 : C :=
 .seq (.reg false [.V 22 (.mv (.t 0)),.V 23 (.mv (.t 1)),.V 24 (.ix (.t 23) (.c (.int .i64 0))),.V 25 (.call (.c (.fn 911 [])) [.t 22,.t 24]),.V 4 (.asg (.t 25))] [4] []) .ret
def strings_TrimRight_k1 : C :=
 .seq (.seq (.reg false [.V 14 (.mv (.t 1)),.V 15 (.lens (.t 14)),.V 16 (.bin .eql (.t 15) (.c (.int .i64 1))),.V 17 (.mv (.t 16)),.G 18 (.mv (.t 1)) 3 true,.G 19 (.ix (.t 18) (.c (.int .i64 0))) 3 true,.G 20 (.bin .lss (.t 19) (.c (.int .u8 128))) 3 true,.V 21 (.pick (.t 17) (.t 20) (.c (.bool false)))] [0,1,21] []) (.cond (.t 21) (.norm [0,1] [] strings_TrimRight_k0) .skip)) .stop
def strings_TrimRight_ir : Fn := { np := 2,io := [],res := [.t 4],own := [false],body :=
 (.seq (.reg false [.V 4 (.asg (.c (.str [])))] [0,1] []) (.seq (.seq (.reg false [.V 7 (.mv (.t 0)),.V 8 (.bin .eql (.t 7) (.c (.str []))),.V 9 (.mv (.t 8)),.G 10 (.mv (.t 1)) 2 false,.G 11 (.bin .eql (.t 10) (.c (.str []))) 2 false,.V 12 (.pick (.t 9) (.c (.bool true)) (.t 11))] [0,1,12] []) (.cond (.t 12) (.seq (.reg false [.V 13 (.mv (.t 0)),.V 4 (.asg (.t 13))] [4] []) .ret) .skip)) (.norm [0,1] [] strings_TrimRight_k1))) }
noncomputable def strings_TrimRight_D : List (Nat × Callee) := [(911,strings_trimRightByte_c)]
def strings_TrimRight_H : List (Nat × ET) := []
noncomputable def strings_TrimRight_c : Callee := mkCallee strings_TrimRight_D strings_TrimRight_H strings_TrimRight_ir [.d (.one .str),.d (.one .str)] [.d (.one .str)] []
noncomputable def strings_TrimRight (a0 : List UInt8) (a1 : List UInt8) : Option (List UInt8) := strings_TrimRight_c.f (a0,a1,())
noncomputable def strings_TrimRight_p0  (v0 : List UInt8) (v1 : List UInt8) : Option (List UInt8) :=
 goL strings_TrimRight_D strings_TrimRight_H (vleave strings_TrimRight_ir [.d (.one .str),.d (.one .str)] [.d (.one .str)] [] []) [.c strings_TrimRight_k1]
  ⟨[(0,.str v0),(1,.str v1)],[]⟩
noncomputable def strings_TrimRight_p1  (v0 : List UInt8) (v1 : List UInt8) : Option (List UInt8) :=
 goL strings_TrimRight_D strings_TrimRight_H (vleave strings_TrimRight_ir [.d (.one .str),.d (.one .str)] [.d (.one .str)] [] []) [.c strings_TrimRight_k0,.c .stop]
  ⟨[(0,.str v0),(1,.str v1)],[]⟩
theorem strings_TrimRight_eq (a0 : List UInt8) (a1 : List UInt8) : strings_TrimRight a0 a1 =
 if (a0 == []) then
  some a0
 else
  if (a1 == []) then
   some a0
  else
   strings_TrimRight_p0 a0 a1 :=
 (mk_f _ _ _ _ _ _ _ 4000).trans (by kernel_rfl)
theorem strings_TrimRight_p0_eq  (v0 : List UInt8) (v1 : List UInt8) : strings_TrimRight_p0 v0 v1 =
 if ((v1.length : Int) == 1) then
  (v1[0]?).bind fun x1 =>
   if decide ((x1.toNat : Int) < 128) then
    strings_TrimRight_p1 v0 v1
   else
    none
 else
  none :=
 (goL_dn _ _ _ 4000 _ _).trans (by kernel_rfl)
theorem strings_TrimRight_p1_eq  (v0 : List UInt8) (v1 : List UInt8) : strings_TrimRight_p1 v0 v1 =
 (v1[0]?).bind fun x1 =>
  (strings_trimRightByte v0 (x1.toNat : Int)).bind fun x2 =>
   some x2 :=
 (goL_dn _ _ _ 4000 _ _).trans (by kernel_rfl)
def impl_isLine_k0 : C :=
 .seq (.seq (.reg false [.V 4 (.mv (.t 3)),.V 5 (.mv (.t 0)),.V 6 (.lens (.t 5)),.V 7 (.bin .lss (.t 4) (.t 6))] [0,3,7] []) (.cond (.t 7) .skip (.exit 0))) (.seq (.block 1 (.seq (.reg false [.V 10 (.mv (.t 0)),.V 11 (.mv (.t 3)),.V 12 (.ix (.t 10) (.t 11)),.V 13 (.conv (.int .i64) (.t 12)),.V 14 (.call (.c (.fn 23 [])) [.t 13,.c (.int .i64 32),.c (.int .i64 126)]),.V 15 (.un .not (.t 14))] [0,3,15] []) (.cond (.t 15) (.seq (.reg false [.V 2 (.asg (.c (.bool false)))] [2] []) .ret) .skip))) (.reg false [.V 8 (.mv (.t 3)),.V 9 (.bin .add (.t 8) (.c (.int .i64 1))),.V 3 (.asg (.t 9))] [0,3] []))
def impl_isLine_k1 : C :=
 .norm [0,3] [] impl_isLine_k0
def impl_isLine_k2 : C :=
 .seq (.reg false [.V 16 (.mv (.t 0)),.V 17 (.lens (.t 16)),.V 18 (.call (.c (.fn 21 [])) [.t 17,.c (.int .i64 100)]),.V 2 (.asg (.t 18))] [2] []) .ret
def impl_isLine_ir : Fn := { np := 1,io := [],res := [.t 2],own := [false],body :=
 (.seq (.reg false [.V 2 (.asg (.c (.bool false)))] [0] []) (.seq (.seq (.reg false [.V 3 (.asg (.c (.int .i64 0)))] [0,3] []) (.block 0 (.loop impl_isLine_k1))) impl_isLine_k2)) }
noncomputable def impl_isLine_D : List (Nat × Callee) := [(21,impl_few_c),(23,impl_within_c)]
def impl_isLine_H : List (Nat × ET) := []
noncomputable def impl_isLine_c : Callee := mkCallee impl_isLine_D impl_isLine_H impl_isLine_ir [.d (.one .str)] [.d (.one .bool)] []
noncomputable def impl_isLine (a0 : List UInt8) : Option (Bool) := impl_isLine_c.f (a0,())
noncomputable def impl_isLine_p0  (v0 : List UInt8) (v3 : Int) : Option (Bool) :=
 goL impl_isLine_D impl_isLine_H (vleave impl_isLine_ir [.d (.one .str)] [.d (.one .bool)] [] []) [.c impl_isLine_k0,.l impl_isLine_k1,.e 0,.c impl_isLine_k2]
  ⟨[(0,.str v0),(3,.int .i64 v3)],[]⟩
theorem impl_isLine_eq (a0 : List UInt8) : impl_isLine a0 =
 impl_isLine_p0 a0 0 :=
 (mk_f _ _ _ _ _ _ _ 4000).trans (by kernel_rfl)
theorem impl_isLine_p0_eq  (v0 : List UInt8) (v3 : Int) : impl_isLine_p0 v0 v3 =
 if decide (v3 < (v0.length : Int)) then
  if decide (0 ≤ v3) then
   (v0[v3.toNat]?).bind fun x1 =>
    (impl_within (IntKind.i64.wrap (x1.toNat : Int)) 32 126).bind fun x2 =>
     if (!x2) then
      some false
     else
      impl_isLine_p0 v0 (IntKind.i64.wrap (v3 + 1))
  else
   none
 else
  (impl_few (v0.length : Int) 100).bind fun x3 =>
   some x3 :=
 (goL_dn _ _ _ 4000 _ _).trans (by kernel_rfl)
def impl_ValidReport_1_ir : Fn := { np := 1,io := [],res := [.t 2],own := [false],body :=
 (.seq (.reg false [.V 2 (.asg (.c (.bool false)))] [0] []) (.seq (.reg false [.V 3 (.mv (.t 0)),.V 4 (.call (.c (.fn 1024 [])) [.t 3]),.V 5 (.un .not (.t 4)),.V 2 (.asg (.t 5))] [2] []) .ret)) }
noncomputable def impl_ValidReport_1_D : List (Nat × Callee) := [(1024,impl_isLine_c)]
def impl_ValidReport_1_H : List (Nat × ET) := []
noncomputable def impl_ValidReport_1_c : Callee := mkCallee impl_ValidReport_1_D impl_ValidReport_1_H impl_ValidReport_1_ir [.d (.one .str)] [.d (.one .bool)] []
noncomputable def impl_ValidReport_1 (a0 : List UInt8) : Option (Bool) := impl_ValidReport_1_c.f (a0,())
theorem impl_ValidReport_1_eq (a0 : List UInt8) : impl_ValidReport_1 a0 =
 (impl_isLine a0).bind fun x1 =>
  some (!x1) :=
 (mk_f _ _ _ _ _ _ _ 4000).trans (by kernel_rfl)
def slices_IndexFunc___string_string__impl_ValidReport_1_k0 : C :=
 .seq (.reg false [.V 9 (.bin .lss (.t 8) (.t 7))] [0,1,7,8,9] []) (.seq (.cond (.t 9) .skip (.exit 0)) (.seq (.block 1 (.seq (.reg false [.V 10 (.mv (.t 8)),.V 5 (.asg (.t 10))] [0,1,5,7,8] []) (.seq (.reg false [.V 11 (.mv (.t 1)),.V 12 (.mv (.t 0)),.V 13 (.mv (.t 5)),.V 14 (.ia 1 (.t 12) (.t 13)),.V 15 (.ld none (.t 14)),.V 16 (.call (.t 11) [.t 15])] [0,1,5,7,8,16] []) (.cond (.t 16) (.seq (.reg false [.V 17 (.mv (.t 5)),.V 4 (.asg (.t 17))] [4] []) .ret) .skip)))) (.reg false [.V 18 (.bin .add (.t 8) (.c (.int .i64 1))),.V 8 (.mv (.t 18))] [0,1,7,8] [])))
def slices_IndexFunc___string_string__impl_ValidReport_1_k1 : C :=
 .norm [0,1,7,8] [] slices_IndexFunc___string_string__impl_ValidReport_1_k0
def slices_IndexFunc___string_string__impl_ValidReport_1_k2 : C :=
 .seq (.reg false [.V 4 (.asg (.c (.int .i64 (-1))))] [4] []) .ret
def slices_IndexFunc___string_string__impl_ValidReport_1_ir : Fn := { np := 2,io := [],res := [.t 4],own := [false],body :=
 (.seq (.reg false [.V 4 (.asg (.c (.int .i64 0)))] [0,1] []) (.seq (.seq (.reg false [.V 6 (.mv (.t 0)),.V 7 (.len (.t 6)),.V 8 (.mv (.c (.int .i64 0)))] [0,1,7,8] []) (.block 0 (.loop slices_IndexFunc___string_string__impl_ValidReport_1_k1))) slices_IndexFunc___string_string__impl_ValidReport_1_k2)) }
noncomputable def slices_IndexFunc___string_string__impl_ValidReport_1_D : List (Nat × Callee) := [(872,impl_ValidReport_1_c)]
def slices_IndexFunc___string_string__impl_ValidReport_1_H : List (Nat × ET) := [(6,(.one .str)),(12,(.one .str))]
noncomputable def slices_IndexFunc___string_string__impl_ValidReport_1_c : Callee := mkCallee slices_IndexFunc___string_string__impl_ValidReport_1_D slices_IndexFunc___string_string__impl_ValidReport_1_H slices_IndexFunc___string_string__impl_ValidReport_1_ir [.d (.one (.sl (.one .str))),.fn 872 []] [.d (.one (.int .i64))] []
noncomputable def slices_IndexFunc___string_string__impl_ValidReport_1 (a0 : List (List UInt8)) (a1 : Unit) : Option (Int) := slices_IndexFunc___string_string__impl_ValidReport_1_c.f (a0,a1,())
noncomputable def slices_IndexFunc___string_string__impl_ValidReport_1_p0  (v0 : List (List UInt8)) (v7 : Int) (v8 : Int) : Option (Int) :=
 goL slices_IndexFunc___string_string__impl_ValidReport_1_D slices_IndexFunc___string_string__impl_ValidReport_1_H (vleave slices_IndexFunc___string_string__impl_ValidReport_1_ir [.d (.one (.sl (.one .str))),.fn 872 []] [.d (.one (.int .i64))] [] []) [.c slices_IndexFunc___string_string__impl_ValidReport_1_k0,.l slices_IndexFunc___string_string__impl_ValidReport_1_k1,.e 0,.c slices_IndexFunc___string_string__impl_ValidReport_1_k2]
  ⟨[(0,.sl (.one .str) v0),(1,.fn 872 []),(7,.int .i64 v7),(8,.int .i64 v8)],[]⟩
theorem slices_IndexFunc___string_string__impl_ValidReport_1_eq (a0 : List (List UInt8)) (a1 : Unit) : slices_IndexFunc___string_string__impl_ValidReport_1 a0 a1 =
 slices_IndexFunc___string_string__impl_ValidReport_1_p0 a0 (a0.length : Int) 0 :=
 (mk_f _ _ _ _ _ _ _ 4000).trans (by kernel_rfl)
theorem slices_IndexFunc___string_string__impl_ValidReport_1_p0_eq  (v0 : List (List UInt8)) (v7 : Int) (v8 : Int) : slices_IndexFunc___string_string__impl_ValidReport_1_p0 v0 v7 v8 =
 if decide (v8 < v7) then
  if decide (0 ≤ v8) then
   (v0[v8.toNat]?).bind fun x1 =>
    (impl_ValidReport_1 x1).bind fun x2 =>
     if x2 then
      some v8
     else
      slices_IndexFunc___string_string__impl_ValidReport_1_p0 v0 v7 (IntKind.i64.wrap (v8 + 1))
  else
   none
 else
  some (-1) :=
 (goL_dn _ _ _ 4000 _ _).trans (by kernel_rfl)
def slices_ContainsFunc___string_string__impl_ValidReport_1_ir : Fn := { np := 2,io := [],res := [.t 4],own := [false],body :=
 (.seq (.reg false [.V 4 (.asg (.c (.bool false)))] [0,1] []) (.seq (.reg false [.V 5 (.mv (.t 0)),.V 6 (.mv (.t 1)),.V 7 (.call (.c (.fn 1237 [])) [.t 5,.t 6]),.V 8 (.bin .geq (.t 7) (.c (.int .i64 0))),.V 4 (.asg (.t 8))] [4] []) .ret)) }
noncomputable def slices_ContainsFunc___string_string__impl_ValidReport_1_D : List (Nat × Callee) := [(872,impl_ValidReport_1_c),(1237,slices_IndexFunc___string_string__impl_ValidReport_1_c)]
def slices_ContainsFunc___string_string__impl_ValidReport_1_H : List (Nat × ET) := [(5,(.one .str))]
noncomputable def slices_ContainsFunc___string_string__impl_ValidReport_1_c : Callee := mkCallee slices_ContainsFunc___string_string__impl_ValidReport_1_D slices_ContainsFunc___string_string__impl_ValidReport_1_H slices_ContainsFunc___string_string__impl_ValidReport_1_ir [.d (.one (.sl (.one .str))),.fn 872 []] [.d (.one .bool)] []
noncomputable def slices_ContainsFunc___string_string__impl_ValidReport_1 (a0 : List (List UInt8)) (a1 : Unit) : Option (Bool) := slices_ContainsFunc___string_string__impl_ValidReport_1_c.f (a0,a1,())
theorem slices_ContainsFunc___string_string__impl_ValidReport_1_eq (a0 : List (List UInt8)) (a1 : Unit) : slices_ContainsFunc___string_string__impl_ValidReport_1 a0 a1 =
 (slices_IndexFunc___string_string__impl_ValidReport_1 a0 ()).bind fun x1 =>
  some (decide (x1 ≥ 0)) :=
 (mk_f _ _ _ _ _ _ _ 4000).trans (by kernel_rfl)
def impl_ValidReport_ir : Fn := { np := 1,io := [],res := [.t 2],own := [false],body :=
 (.seq (.reg false [.V 2 (.asg (.c (.bool false)))] [0] []) (.seq (.reg false [.V 3 (.mv (.t 0)),.V 4 (.len (.t 3)),.V 5 (.call (.c (.fn 21 [])) [.t 4,.c (.int .i64 200)]),.V 6 (.mv (.t 5)),.G 7 (.mv (.t 0)) 3 true,.G 8 (.call (.c (.fn 1238 [])) [.t 7,.c (.fn 872 [])]) 3 true,.G 9 (.un .not (.t 8)) 3 true,.V 10 (.pick (.t 6) (.t 9) (.c (.bool false))),.V 2 (.asg (.t 10))] [2] []) .ret)) }
noncomputable def impl_ValidReport_D : List (Nat × Callee) := [(21,impl_few_c),(872,impl_ValidReport_1_c),(1238,slices_ContainsFunc___string_string__impl_ValidReport_1_c)]
def impl_ValidReport_H : List (Nat × ET) := [(3,(.one .str)),(7,(.one .str))]
noncomputable def impl_ValidReport_c : Callee := mkCallee impl_ValidReport_D impl_ValidReport_H impl_ValidReport_ir [.d (.one (.sl (.one .str)))] [.d (.one .bool)] []
noncomputable def impl_ValidReport (a0 : List (List UInt8)) : Option (Bool) := impl_ValidReport_c.f (a0,())
theorem impl_ValidReport_eq (a0 : List (List UInt8)) : impl_ValidReport a0 =
 (impl_few (a0.length : Int) 200).bind fun x1 =>
  if x1 then
   (slices_ContainsFunc___string_string__impl_ValidReport_1 a0 ()).bind fun x2 =>
    some (!x2)
  else
   some false :=
 (mk_f _ _ _ _ _ _ _ 4000).trans (by kernel_rfl)
def impl_report_ir : Fn := { np := 1,io := [true],res := [.t 2,.t 3],own := [true,false],body :=
 (.seq (.reg false [.W 2 (.asg (.c (.nils 1))),.V 3 (.asg (.c (.int .i64 0)))] [0] [0]) (.seq (.seq (.reg false [.V 4 (.mv (.t 0)),.V 5 (.call (.c (.fn 566 [])) [.t 4]),.V 6 (.un .not (.t 5))] [0,6] [0]) (.cond (.t 6) (.seq (.reg false [.W 2 (.asg (.c (.nils 1))),.V 3 (.asg (.c (.int .i64 5)))] [0,2,3] [0,2]) .ret) .skip)) (.seq (.reg false [.V 7 (.mv (.t 0)),.W 2 (.asg (.t 7)),.V 3 (.asg (.c (.int .i64 0)))] [0,2,3] [0,2]) .ret))),gone := [0] }
noncomputable def impl_report_D : List (Nat × Callee) := [(566,impl_ValidReport_c)]
def impl_report_H : List (Nat × ET) := [(2,(.one .str)),(4,(.one .str)),(7,(.one .str))]
noncomputable def impl_report_c : Callee := mkCallee impl_report_D impl_report_H impl_report_ir [.ios (.one .str)] [.tok (.one .str),.d (.one (.int .i64))] [.gone]
noncomputable def impl_report (a0 : List (List UInt8)) : Option (List (List UInt8) × Int × Unit) := impl_report_c.f (a0,())
theorem impl_report_eq (a0 : List (List UInt8)) : impl_report a0 =
 (impl_ValidReport (a0.take a0.length)).bind fun x1 =>
  if (!x1) then
   some ([],5,())
  else
   some ((a0.take a0.length),0,()) :=
 (mk_f _ _ _ _ _ _ _ 4000).trans (by kernel_rfl)
def impl_TableLines_k0 : C :=
 .seq (.reg false [.V 27 (.bin .lss (.t 26) (.t 25))] [0,4,15,16,17,24,25,26,27] [4,6]) (.seq (.cond (.t 27) .skip (.exit 2)) (.seq (.block 3 (.seq (.reg false [.V 28 (.mv (.t 26)),.V 29 (.ia 1 (.t 24) (.t 26)),.V 30 (.ld none (.t 29)),.V 7 (.asg (.t 28)),.V 8 (.asg (.t 30))] [0,4,7,8,15,16,17,24,25,26] [4,6]) (.reg false [.V 31 (.mv (.t 7)),.V 32 (.mv (.t 7)),.V 33 (.iaa 12 1 (.t 4) (.t 32)),.V 34 (.ld none (.t 33)),.V 35 (.mv (.t 8)),.V 36 (.lens (.t 35)),.V 37 (.max [.t 34,.t 36]),.V 38 (.iaa 12 1 (.t 4) (.t 31)),⟨none,true,.sto 1 (.t 38) (.t 37),none,false,[]⟩] [0,4,15,16,17,24,25,26] [4,6]))) (.reg false [.V 39 (.bin .add (.t 26) (.c (.int .i64 1))),.V 26 (.mv (.t 39))] [0,4,15,16,17,24,25,26] [4,6])))
def impl_TableLines_k1 : C :=
 .norm [0,4,15,16,17,24,25,26] [4,6] impl_TableLines_k0
def impl_TableLines_k2 : C :=
 .reg false [.V 40 (.bin .add (.t 17) (.c (.int .i64 1))),.V 17 (.mv (.t 40))] [0,4,15,16,17] [4]
def impl_TableLines_k3 : C :=
 .seq (.reg false [.V 18 (.bin .lss (.t 17) (.t 16))] [0,4,15,16,17,18] [4]) (.seq (.cond (.t 18) .skip (.exit 0)) (.seq (.block 1 (.seq (.reg false [.V 19 (.ia 1 (.t 15) (.t 17)),.V 20 (.ld none (.t 19)),.W 6 (.asg (.t 20))] [0,4,6,15,16,17] [4,6]) (.seq (.seq (.reg false [.V 21 (.mv (.t 6)),.V 22 (.call (.c (.fn 632 [])) [.t 21]),.V 23 (.un .not (.t 22))] [0,4,6,15,16,17,23] [4,6]) (.cond (.t 23) (.seq (.reg false [.W 2 (.asg (.c (.nils 1))),.V 3 (.asg (.c (.int .i64 2)))] [2,3] [2]) .ret) .skip)) (.seq (.reg false [.V 24 (.mv (.t 6)),.V 25 (.len (.t 24)),.V 26 (.mv (.c (.int .i64 0)))] [0,4,15,16,17,24,25,26] [4,6]) (.block 2 (.loop impl_TableLines_k1)))))) impl_TableLines_k2))
def impl_TableLines_k4 : C :=
 .norm [0,4,15,16,17] [4] impl_TableLines_k3
def impl_TableLines_k5 : C :=
 .seq (.reg false [.V 52 (.bin .lss (.t 51) (.t 50))] [4,9,12,42,43,44,49,50,51,52] [4,9,11,12]) (.seq (.cond (.t 52) .skip (.exit 6)) (.seq (.block 7 (.seq (.reg false [.V 53 (.mv (.t 51)),.V 54 (.ia 1 (.t 49) (.t 51)),.V 55 (.ld none (.t 54)),.V 13 (.asg (.t 53)),.V 14 (.asg (.t 55))] [4,9,12,13,14,42,43,44,49,50,51] [4,9,11,12]) (.reg false [.V 56 (.mv (.t 12)),.V 57 (.mv (.t 14)),.V 58 (.mv (.t 13)),.V 59 (.iaa 12 1 (.t 4) (.t 58)),.V 60 (.ld none (.t 59)),.V 61 (.mv (.t 14)),.V 62 (.lens (.t 61)),.V 63 (.bin .sub (.t 60) (.t 62)),.V 64 (.call (.c (.fn 518 [])) [.c (.str [32]),.t 63]),.V 65 (.bin .add (.t 57) (.t 64)),.V 66 (.bsl 1 (.str []) 1 [(0,.t 65)]),.W 67 (.app 1 16 (.t 56) (.t 66)),.W 12 (.asg (.t 67))] [4,9,12,42,43,44,49,50,51] [4,9,11,12]))) (.reg false [.V 68 (.bin .add (.t 51) (.c (.int .i64 1))),.V 51 (.mv (.t 68))] [4,9,12,42,43,44,49,50,51] [4,9,11,12])))
def impl_TableLines_k6 : C :=
 .norm [4,9,12,42,43,44,49,50,51] [4,9,11,12] impl_TableLines_k5
def impl_TableLines_k7 : C :=
 .reg false [.V 69 (.mv (.t 9)),.V 70 (.mv (.t 12)),.V 71 (.call (.c (.fn 630 [])) [.t 70,.c (.str [32,32])]),.V 72 (.call (.c (.fn 631 [])) [.t 71,.c (.str [32])]),.V 73 (.bsl 1 (.str []) 1 [(0,.t 72)]),.W 74 (.app 1 16 (.t 69) (.t 73)),.W 9 (.asg (.t 74))] [4,9,42,43,44] [4,9]
def impl_TableLines_k8 : C :=
 .reg false [.V 75 (.bin .add (.t 44) (.c (.int .i64 1))),.V 44 (.mv (.t 75))] [4,9,42,43,44] [4,9]
def impl_TableLines_k9 : C :=
 .seq (.reg false [.V 45 (.bin .lss (.t 44) (.t 43))] [4,9,42,43,44,45] [4,9]) (.seq (.cond (.t 45) .skip (.exit 4)) (.seq (.block 5 (.seq (.reg false [.V 46 (.ia 1 (.t 42) (.t 44)),.V 47 (.ld none (.t 46)),.W 11 (.asg (.t 47))] [4,9,11,42,43,44] [4,9,11]) (.seq (.reg false [.V 48 (.bsl 1 (.str []) 0 []),.W 12 (.asg (.t 48))] [4,9,11,12,42,43,44] [4,9,11,12]) (.seq (.seq (.reg false [.V 49 (.mv (.t 11)),.V 50 (.len (.t 49)),.V 51 (.mv (.c (.int .i64 0)))] [4,9,12,42,43,44,49,50,51] [4,9,11,12]) (.block 6 (.loop impl_TableLines_k6))) impl_TableLines_k7)))) impl_TableLines_k8))
def impl_TableLines_k10 : C :=
 .norm [4,9,42,43,44] [4,9] impl_TableLines_k9
def impl_TableLines_k11 : C :=
 .seq (.reg false [.V 76 (.mv (.t 9)),.W 77 (.call (.c (.fn 517 [])) [.t 76]),.V 78 (.ext (.t 77) 0),.V 79 (.ext (.t 77) 1),.W 2 (.asg (.t 78)),.V 3 (.asg (.t 79))] [2,3] [2]) .ret
def impl_TableLines_k12 : C :=
 .seq (.reg false [.V 41 (.bsl 1 (.str []) 0 []),.W 9 (.asg (.t 41))] [0,4,9] [4,9]) (.seq (.seq (.reg false [.V 42 (.mv (.t 0)),.V 43 (.len (.t 42)),.V 44 (.mv (.c (.int .i64 0)))] [4,9,42,43,44] [4,9]) (.block 4 (.loop impl_TableLines_k10))) impl_TableLines_k11)
def impl_TableLines_ir : Fn := { np := 1,io := [],res := [.t 2,.t 3],own := [true,false],body :=
 (.seq (.reg false [.W 2 (.asg (.c (.nils 1))),.V 3 (.asg (.c (.int .i64 0)))] [0] []) (.seq (.reg false [.W 4 (.alloc 12 (.agg [.int .i64 0,.int .i64 0,.int .i64 0,.int .i64 0,.int .i64 0,.int .i64 0,.int .i64 0,.int .i64 0,.int .i64 0,.int .i64 0,.int .i64 0,.int .i64 0]))] [0,4] [4]) (.seq (.seq (.reg false [.V 15 (.mv (.t 0)),.V 16 (.len (.t 15)),.V 17 (.mv (.c (.int .i64 0)))] [0,4,15,16,17] [4]) (.block 0 (.loop impl_TableLines_k4))) impl_TableLines_k12))) }
noncomputable def impl_TableLines_D : List (Nat × Callee) := [(517,impl_report_c),(518,strings_Repeat_c),(630,strings_Join_c),(631,strings_TrimRight_c),(632,impl_areCells_c)]
def impl_TableLines_H : List (Nat × ET) := [(2,(.one .str)),(6,(.one .str)),(9,(.one .str)),(11,(.one .str)),(12,(.one .str)),(15,(.one (.sl (.one .str)))),(20,(.one .str)),(21,(.one .str)),(24,(.one .str)),(41,(.one .str)),(42,(.one (.sl (.one .str)))),(47,(.one .str)),(48,(.one .str)),(49,(.one .str)),(56,(.one .str)),(66,(.one .str)),(67,(.one .str)),(69,(.one .str)),(70,(.one .str)),(73,(.one .str)),(74,(.one .str)),(76,(.one .str)),(78,(.one .str))]
noncomputable def impl_TableLines_c : Callee := mkCallee impl_TableLines_D impl_TableLines_H impl_TableLines_ir [.d (.one (.sl (.one (.sl (.one .str)))))] [.tok (.one .str),.d (.one (.int .i64))] []
noncomputable def impl_TableLines (a0 : List (List (List UInt8))) : Option (List (List UInt8) × Int) := impl_TableLines_c.f (a0,())
noncomputable def impl_TableLines_p0  (v0 : List (List (List UInt8))) (v15 : List (List (List UInt8))) (v16 : Int) (v17 : Int) (r4_0 : Int) (r4_1 : Int) (r4_2 : Int) (r4_3 : Int) (r4_4 : Int) (r4_5 : Int) (r4_6 : Int) (r4_7 : Int) (r4_8 : Int) (r4_9 : Int) (r4_10 : Int) (r4_11 : Int) : Option (List (List UInt8) × Int) :=
 goL impl_TableLines_D impl_TableLines_H (vleave impl_TableLines_ir [.d (.one (.sl (.one (.sl (.one .str)))))] [.tok (.one .str),.d (.one (.int .i64))] [] []) [.c impl_TableLines_k3,.l impl_TableLines_k4,.e 0,.c impl_TableLines_k12]
  ⟨[(0,.sl (.one (.sl (.one .str))) v0),(4,.loc 4 0 0),(15,.sl (.one (.sl (.one .str))) v15),(16,.int .i64 v16),(17,.int .i64 v17)],[(4,some (.var 12 (.agg [.int .i64 r4_0,.int .i64 r4_1,.int .i64 r4_2,.int .i64 r4_3,.int .i64 r4_4,.int .i64 r4_5,.int .i64 r4_6,.int .i64 r4_7,.int .i64 r4_8,.int .i64 r4_9,.int .i64 r4_10,.int .i64 r4_11])))]⟩
noncomputable def impl_TableLines_p1  (v0 : List (List (List UInt8))) (v15 : List (List (List UInt8))) (v16 : Int) (v17 : Int) (v24 : List (List UInt8)) (v25 : Int) (v26 : Int) (r4_0 : Int) (r4_1 : Int) (r4_2 : Int) (r4_3 : Int) (r4_4 : Int) (r4_5 : Int) (r4_6 : Int) (r4_7 : Int) (r4_8 : Int) (r4_9 : Int) (r4_10 : Int) (r4_11 : Int) : Option (List (List UInt8) × Int) :=
 goL impl_TableLines_D impl_TableLines_H (vleave impl_TableLines_ir [.d (.one (.sl (.one (.sl (.one .str)))))] [.tok (.one .str),.d (.one (.int .i64))] [] []) [.c impl_TableLines_k0,.l impl_TableLines_k1,.e 2,.e 1,.c impl_TableLines_k2,.l impl_TableLines_k4,.e 0,.c impl_TableLines_k12]
  ⟨[(0,.sl (.one (.sl (.one .str))) v0),(4,.loc 4 0 0),(15,.sl (.one (.sl (.one .str))) v15),(16,.int .i64 v16),(17,.int .i64 v17),(24,.sl (.one .str) v24),(25,.int .i64 v25),(26,.int .i64 v26)],[(4,some (.var 12 (.agg [.int .i64 r4_0,.int .i64 r4_1,.int .i64 r4_2,.int .i64 r4_3,.int .i64 r4_4,.int .i64 r4_5,.int .i64 r4_6,.int .i64 r4_7,.int .i64 r4_8,.int .i64 r4_9,.int .i64 r4_10,.int .i64 r4_11]))),(6,none)]⟩
noncomputable def impl_TableLines_p2  (v42 : List (List (List UInt8))) (v43 : Int) (v44 : Int) (r4_0 : Int) (r4_1 : Int) (r4_2 : Int) (r4_3 : Int) (r4_4 : Int) (r4_5 : Int) (r4_6 : Int) (r4_7 : Int) (r4_8 : Int) (r4_9 : Int) (r4_10 : Int) (r4_11 : Int) (r9 : List (List UInt8)) : Option (List (List UInt8) × Int) :=
 goL impl_TableLines_D impl_TableLines_H (vleave impl_TableLines_ir [.d (.one (.sl (.one (.sl (.one .str)))))] [.tok (.one .str),.d (.one (.int .i64))] [] []) [.c impl_TableLines_k9,.l impl_TableLines_k10,.e 4,.c impl_TableLines_k11]
  ⟨[(4,.loc 4 0 0),(9,.view 9 0 r9.length),(42,.sl (.one (.sl (.one .str))) v42),(43,.int .i64 v43),(44,.int .i64 v44)],[(4,some (.var 12 (.agg [.int .i64 r4_0,.int .i64 r4_1,.int .i64 r4_2,.int .i64 r4_3,.int .i64 r4_4,.int .i64 r4_5,.int .i64 r4_6,.int .i64 r4_7,.int .i64 r4_8,.int .i64 r4_9,.int .i64 r4_10,.int .i64 r4_11]))),(9,some (.sl (.one .str) r9))]⟩
noncomputable def impl_TableLines_p3  (v42 : List (List (List UInt8))) (v43 : Int) (v44 : Int) (v49 : List (List UInt8)) (v50 : Int) (v51 : Int) (r4_0 : Int) (r4_1 : Int) (r4_2 : Int) (r4_3 : Int) (r4_4 : Int) (r4_5 : Int) (r4_6 : Int) (r4_7 : Int) (r4_8 : Int) (r4_9 : Int) (r4_10 : Int) (r4_11 : Int) (r9 : List (List UInt8)) (r12 : List (List UInt8)) : Option (List (List UInt8) × Int) :=
 goL impl_TableLines_D impl_TableLines_H (vleave impl_TableLines_ir [.d (.one (.sl (.one (.sl (.one .str)))))] [.tok (.one .str),.d (.one (.int .i64))] [] []) [.c impl_TableLines_k5,.l impl_TableLines_k6,.e 6,.c impl_TableLines_k7,.e 5,.c impl_TableLines_k8,.l impl_TableLines_k10,.e 4,.c impl_TableLines_k11]
  ⟨[(4,.loc 4 0 0),(9,.view 9 0 r9.length),(12,.view 12 0 r12.length),(42,.sl (.one (.sl (.one .str))) v42),(43,.int .i64 v43),(44,.int .i64 v44),(49,.sl (.one .str) v49),(50,.int .i64 v50),(51,.int .i64 v51)],[(4,some (.var 12 (.agg [.int .i64 r4_0,.int .i64 r4_1,.int .i64 r4_2,.int .i64 r4_3,.int .i64 r4_4,.int .i64 r4_5,.int .i64 r4_6,.int .i64 r4_7,.int .i64 r4_8,.int .i64 r4_9,.int .i64 r4_10,.int .i64 r4_11]))),(9,some (.sl (.one .str) r9)),(11,none),(12,some (.sl (.one .str) r12))]⟩
theorem impl_TableLines_eq (a0 : List (List (List UInt8))) : impl_TableLines a0 =
 impl_TableLines_p0 a0 a0 (a0.length : Int) 0 0 0 0 0 0 0 0 0 0 0 0 0 :=
 (mk_f _ _ _ _ _ _ _ 4000).trans (by kernel_rfl)
theorem impl_TableLines_p0_eq  (v0 : List (List (List UInt8))) (v15 : List (List (List UInt8))) (v16 : Int) (v17 : Int) (r4_0 : Int) (r4_1 : Int) (r4_2 : Int) (r4_3 : Int) (r4_4 : Int) (r4_5 : Int) (r4_6 : Int) (r4_7 : Int) (r4_8 : Int) (r4_9 : Int) (r4_10 : Int) (r4_11 : Int) : impl_TableLines_p0 v0 v15 v16 v17 r4_0 r4_1 r4_2 r4_3 r4_4 r4_5 r4_6 r4_7 r4_8 r4_9 r4_10 r4_11 =
 if decide (v17 < v16) then
  if decide (0 ≤ v17) then
   (v15[v17.toNat]?).bind fun x1 =>
    (impl_areCells x1).bind fun x2 =>
     if (!x2) then
      some ([],2)
     else
      impl_TableLines_p1 v0 v15 v16 v17 x1 (x1.length : Int) 0 r4_0 r4_1 r4_2 r4_3 r4_4 r4_5 r4_6 r4_7 r4_8 r4_9 r4_10 r4_11
  else
   none
 else
  impl_TableLines_p2 v0 (v0.length : Int) 0 r4_0 r4_1 r4_2 r4_3 r4_4 r4_5 r4_6 r4_7 r4_8 r4_9 r4_10 r4_11 [] :=
 (goL_dn _ _ _ 4000 _ _).trans (by kernel_rfl)
theorem impl_TableLines_p1_eq  (v0 : List (List (List UInt8))) (v15 : List (List (List UInt8))) (v16 : Int) (v17 : Int) (v24 : List (List UInt8)) (v25 : Int) (v26 : Int) (r4_0 : Int) (r4_1 : Int) (r4_2 : Int) (r4_3 : Int) (r4_4 : Int) (r4_5 : Int) (r4_6 : Int) (r4_7 : Int) (r4_8 : Int) (r4_9 : Int) (r4_10 : Int) (r4_11 : Int) : impl_TableLines_p1 v0 v15 v16 v17 v24 v25 v26 r4_0 r4_1 r4_2 r4_3 r4_4 r4_5 r4_6 r4_7 r4_8 r4_9 r4_10 r4_11 =
 if decide (v26 < v25) then
  if decide (0 ≤ v26) then
   (v24[v26.toNat]?).bind fun x1 =>
    if decide (v26 = 0) then
     if decide (v26 = 0) then
      impl_TableLines_p1 v0 v15 v16 v17 v24 v25 (IntKind.i64.wrap (v26 + 1)) (if (x1.length : Int) > r4_0 then (x1.length : Int) else r4_0) r4_1 r4_2 r4_3 r4_4 r4_5 r4_6 r4_7 r4_8 r4_9 r4_10 r4_11
     else
      if decide (v26 = 1) then
       impl_TableLines_p1 v0 v15 v16 v17 v24 v25 (IntKind.i64.wrap (v26 + 1)) r4_0 (if (x1.length : Int) > r4_0 then (x1.length : Int) else r4_0) r4_2 r4_3 r4_4 r4_5 r4_6 r4_7 r4_8 r4_9 r4_10 r4_11
      else
       if decide (v26 = 2) then
        impl_TableLines_p1 v0 v15 v16 v17 v24 v25 (IntKind.i64.wrap (v26 + 1)) r4_0 r4_1 (if (x1.length : Int) > r4_0 then (x1.length : Int) else r4_0) r4_3 r4_4 r4_5 r4_6 r4_7 r4_8 r4_9 r4_10 r4_11
       else
        if decide (v26 = 3) then
         impl_TableLines_p1 v0 v15 v16 v17 v24 v25 (IntKind.i64.wrap (v26 + 1)) r4_0 r4_1 r4_2 (if (x1.length : Int) > r4_0 then (x1.length : Int) else r4_0) r4_4 r4_5 r4_6 r4_7 r4_8 r4_9 r4_10 r4_11
        else
         if decide (v26 = 4) then
          impl_TableLines_p1 v0 v15 v16 v17 v24 v25 (IntKind.i64.wrap (v26 + 1)) r4_0 r4_1 r4_2 r4_3 (if (x1.length : Int) > r4_0 then (x1.length : Int) else r4_0) r4_5 r4_6 r4_7 r4_8 r4_9 r4_10 r4_11
         else
          if decide (v26 = 5) then
           impl_TableLines_p1 v0 v15 v16 v17 v24 v25 (IntKind.i64.wrap (v26 + 1)) r4_0 r4_1 r4_2 r4_3 r4_4 (if (x1.length : Int) > r4_0 then (x1.length : Int) else r4_0) r4_6 r4_7 r4_8 r4_9 r4_10 r4_11
          else
           if decide (v26 = 6) then
            impl_TableLines_p1 v0 v15 v16 v17 v24 v25 (IntKind.i64.wrap (v26 + 1)) r4_0 r4_1 r4_2 r4_3 r4_4 r4_5 (if (x1.length : Int) > r4_0 then (x1.length : Int) else r4_0) r4_7 r4_8 r4_9 r4_10 r4_11
           else
            if decide (v26 = 7) then
             impl_TableLines_p1 v0 v15 v16 v17 v24 v25 (IntKind.i64.wrap (v26 + 1)) r4_0 r4_1 r4_2 r4_3 r4_4 r4_5 r4_6 (if (x1.length : Int) > r4_0 then (x1.length : Int) else r4_0) r4_8 r4_9 r4_10 r4_11
            else
             if decide (v26 = 8) then
              impl_TableLines_p1 v0 v15 v16 v17 v24 v25 (IntKind.i64.wrap (v26 + 1)) r4_0 r4_1 r4_2 r4_3 r4_4 r4_5 r4_6 r4_7 (if (x1.length : Int) > r4_0 then (x1.length : Int) else r4_0) r4_9 r4_10 r4_11
             else
              if decide (v26 = 9) then
               impl_TableLines_p1 v0 v15 v16 v17 v24 v25 (IntKind.i64.wrap (v26 + 1)) r4_0 r4_1 r4_2 r4_3 r4_4 r4_5 r4_6 r4_7 r4_8 (if (x1.length : Int) > r4_0 then (x1.length : Int) else r4_0) r4_10 r4_11
              else
               if decide (v26 = 10) then
                impl_TableLines_p1 v0 v15 v16 v17 v24 v25 (IntKind.i64.wrap (v26 + 1)) r4_0 r4_1 r4_2 r4_3 r4_4 r4_5 r4_6 r4_7 r4_8 r4_9 (if (x1.length : Int) > r4_0 then (x1.length : Int) else r4_0) r4_11
               else
                if decide (v26 = 11) then
                 impl_TableLines_p1 v0 v15 v16 v17 v24 v25 (IntKind.i64.wrap (v26 + 1)) r4_0 r4_1 r4_2 r4_3 r4_4 r4_5 r4_6 r4_7 r4_8 r4_9 r4_10 (if (x1.length : Int) > r4_0 then (x1.length : Int) else r4_0)
                else
                 none
    else
     if decide (v26 = 1) then
      if decide (v26 = 0) then
       impl_TableLines_p1 v0 v15 v16 v17 v24 v25 (IntKind.i64.wrap (v26 + 1)) (if (x1.length : Int) > r4_1 then (x1.length : Int) else r4_1) r4_1 r4_2 r4_3 r4_4 r4_5 r4_6 r4_7 r4_8 r4_9 r4_10 r4_11
      else
       if decide (v26 = 1) then
        impl_TableLines_p1 v0 v15 v16 v17 v24 v25 (IntKind.i64.wrap (v26 + 1)) r4_0 (if (x1.length : Int) > r4_1 then (x1.length : Int) else r4_1) r4_2 r4_3 r4_4 r4_5 r4_6 r4_7 r4_8 r4_9 r4_10 r4_11
       else
        if decide (v26 = 2) then
         impl_TableLines_p1 v0 v15 v16 v17 v24 v25 (IntKind.i64.wrap (v26 + 1)) r4_0 r4_1 (if (x1.length : Int) > r4_1 then (x1.length : Int) else r4_1) r4_3 r4_4 r4_5 r4_6 r4_7 r4_8 r4_9 r4_10 r4_11
        else
         if decide (v26 = 3) then
          impl_TableLines_p1 v0 v15 v16 v17 v24 v25 (IntKind.i64.wrap (v26 + 1)) r4_0 r4_1 r4_2 (if (x1.length : Int) > r4_1 then (x1.length : Int) else r4_1) r4_4 r4_5 r4_6 r4_7 r4_8 r4_9 r4_10 r4_11
         else
          if decide (v26 = 4) then
           impl_TableLines_p1 v0 v15 v16 v17 v24 v25 (IntKind.i64.wrap (v26 + 1)) r4_0 r4_1 r4_2 r4_3 (if (x1.length : Int) > r4_1 then (x1.length : Int) else r4_1) r4_5 r4_6 r4_7 r4_8 r4_9 r4_10 r4_11
          else
           if decide (v26 = 5) then
            impl_TableLines_p1 v0 v15 v16 v17 v24 v25 (IntKind.i64.wrap (v26 + 1)) r4_0 r4_1 r4_2 r4_3 r4_4 (if (x1.length : Int) > r4_1 then (x1.length : Int) else r4_1) r4_6 r4_7 r4_8 r4_9 r4_10 r4_11
           else
            if decide (v26 = 6) then
             impl_TableLines_p1 v0 v15 v16 v17 v24 v25 (IntKind.i64.wrap (v26 + 1)) r4_0 r4_1 r4_2 r4_3 r4_4 r4_5 (if (x1.length : Int) > r4_1 then (x1.length : Int) else r4_1) r4_7 r4_8 r4_9 r4_10 r4_11
            else
             if decide (v26 = 7) then
              impl_TableLines_p1 v0 v15 v16 v17 v24 v25 (IntKind.i64.wrap (v26 + 1)) r4_0 r4_1 r4_2 r4_3 r4_4 r4_5 r4_6 (if (x1.length : Int) > r4_1 then (x1.length : Int) else r4_1) r4_8 r4_9 r4_10 r4_11
             else
              if decide (v26 = 8) then
               impl_TableLines_p1 v0 v15 v16 v17 v24 v25 (IntKind.i64.wrap (v26 + 1)) r4_0 r4_1 r4_2 r4_3 r4_4 r4_5 r4_6 r4_7 (if (x1.length : Int) > r4_1 then (x1.length : Int) else r4_1) r4_9 r4_10 r4_11
              else
               if decide (v26 = 9) then
                impl_TableLines_p1 v0 v15 v16 v17 v24 v25 (IntKind.i64.wrap (v26 + 1)) r4_0 r4_1 r4_2 r4_3 r4_4 r4_5 r4_6 r4_7 r4_8 (if (x1.length : Int) > r4_1 then (x1.length : Int) else r4_1) r4_10 r4_11
               else
                if decide (v26 = 10) then
                 impl_TableLines_p1 v0 v15 v16 v17 v24 v25 (IntKind.i64.wrap (v26 + 1)) r4_0 r4_1 r4_2 r4_3 r4_4 r4_5 r4_6 r4_7 r4_8 r4_9 (if (x1.length : Int) > r4_1 then (x1.length : Int) else r4_1) r4_11
                else
                 if decide (v26 = 11) then
                  impl_TableLines_p1 v0 v15 v16 v17 v24 v25 (IntKind.i64.wrap (v26 + 1)) r4_0 r4_1 r4_2 r4_3 r4_4 r4_5 r4_6 r4_7 r4_8 r4_9 r4_10 (if (x1.length : Int) > r4_1 then (x1.length : Int) else r4_1)
                 else
                  none
     else
      if decide (v26 = 2) then
       if decide (v26 = 0) then
        impl_TableLines_p1 v0 v15 v16 v17 v24 v25 (IntKind.i64.wrap (v26 + 1)) (if (x1.length : Int) > r4_2 then (x1.length : Int) else r4_2) r4_1 r4_2 r4_3 r4_4 r4_5 r4_6 r4_7 r4_8 r4_9 r4_10 r4_11
       else
        if decide (v26 = 1) then
         impl_TableLines_p1 v0 v15 v16 v17 v24 v25 (IntKind.i64.wrap (v26 + 1)) r4_0 (if (x1.length : Int) > r4_2 then (x1.length : Int) else r4_2) r4_2 r4_3 r4_4 r4_5 r4_6 r4_7 r4_8 r4_9 r4_10 r4_11
        else
         if decide (v26 = 2) then
          impl_TableLines_p1 v0 v15 v16 v17 v24 v25 (IntKind.i64.wrap (v26 + 1)) r4_0 r4_1 (if (x1.length : Int) > r4_2 then (x1.length : Int) else r4_2) r4_3 r4_4 r4_5 r4_6 r4_7 r4_8 r4_9 r4_10 r4_11
         else
          if decide (v26 = 3) then
           impl_TableLines_p1 v0 v15 v16 v17 v24 v25 (IntKind.i64.wrap (v26 + 1)) r4_0 r4_1 r4_2 (if (x1.length : Int) > r4_2 then (x1.length : Int) else r4_2) r4_4 r4_5 r4_6 r4_7 r4_8 r4_9 r4_10 r4_11
          else
           if decide (v26 = 4) then
            impl_TableLines_p1 v0 v15 v16 v17 v24 v25 (IntKind.i64.wrap (v26 + 1)) r4_0 r4_1 r4_2 r4_3 (if (x1.length : Int) > r4_2 then (x1.length : Int) else r4_2) r4_5 r4_6 r4_7 r4_8 r4_9 r4_10 r4_11
           else
            if decide (v26 = 5) then
             impl_TableLines_p1 v0 v15 v16 v17 v24 v25 (IntKind.i64.wrap (v26 + 1)) r4_0 r4_1 r4_2 r4_3 r4_4 (if (x1.length : Int) > r4_2 then (x1.length : Int) else r4_2) r4_6 r4_7 r4_8 r4_9 r4_10 r4_11
            else
             if decide (v26 = 6) then
              impl_TableLines_p1 v0 v15 v16 v17 v24 v25 (IntKind.i64.wrap (v26 + 1)) r4_0 r4_1 r4_2 r4_3 r4_4 r4_5 (if (x1.length : Int) > r4_2 then (x1.length : Int) else r4_2) r4_7 r4_8 r4_9 r4_10 r4_11
             else
              if decide (v26 = 7) then
               impl_TableLines_p1 v0 v15 v16 v17 v24 v25 (IntKind.i64.wrap (v26 + 1)) r4_0 r4_1 r4_2 r4_3 r4_4 r4_5 r4_6 (if (x1.length : Int) > r4_2 then (x1.length : Int) else r4_2) r4_8 r4_9 r4_10 r4_11
              else
               if decide (v26 = 8) then
                impl_TableLines_p1 v0 v15 v16 v17 v24 v25 (IntKind.i64.wrap (v26 + 1)) r4_0 r4_1 r4_2 r4_3 r4_4 r4_5 r4_6 r4_7 (if (x1.length : Int) > r4_2 then (x1.length : Int) else r4_2) r4_9 r4_10 r4_11
               else
                if decide (v26 = 9) then
                 impl_TableLines_p1 v0 v15 v16 v17 v24 v25 (IntKind.i64.wrap (v26 + 1)) r4_0 r4_1 r4_2 r4_3 r4_4 r4_5 r4_6 r4_7 r4_8 (if (x1.length : Int) > r4_2 then (x1.length : Int) else r4_2) r4_10 r4_11
                else
                 if decide (v26 = 10) then
                  impl_TableLines_p1 v0 v15 v16 v17 v24 v25 (IntKind.i64.wrap (v26 + 1)) r4_0 r4_1 r4_2 r4_3 r4_4 r4_5 r4_6 r4_7 r4_8 r4_9 (if (x1.length : Int) > r4_2 then (x1.length : Int) else r4_2) r4_11
                 else
                  if decide (v26 = 11) then
                   impl_TableLines_p1 v0 v15 v16 v17 v24 v25 (IntKind.i64.wrap (v26 + 1)) r4_0 r4_1 r4_2 r4_3 r4_4 r4_5 r4_6 r4_7 r4_8 r4_9 r4_10 (if (x1.length : Int) > r4_2 then (x1.length : Int) else r4_2)
                  else
                   none
      else
       if decide (v26 = 3) then
        if decide (v26 = 0) then
         impl_TableLines_p1 v0 v15 v16 v17 v24 v25 (IntKind.i64.wrap (v26 + 1)) (if (x1.length : Int) > r4_3 then (x1.length : Int) else r4_3) r4_1 r4_2 r4_3 r4_4 r4_5 r4_6 r4_7 r4_8 r4_9 r4_10 r4_11
        else
         if decide (v26 = 1) then
          impl_TableLines_p1 v0 v15 v16 v17 v24 v25 (IntKind.i64.wrap (v26 + 1)) r4_0 (if (x1.length : Int) > r4_3 then (x1.length : Int) else r4_3) r4_2 r4_3 r4_4 r4_5 r4_6 r4_7 r4_8 r4_9 r4_10 r4_11
         else
          if decide (v26 = 2) then
           impl_TableLines_p1 v0 v15 v16 v17 v24 v25 (IntKind.i64.wrap (v26 + 1)) r4_0 r4_1 (if (x1.length : Int) > r4_3 then (x1.length : Int) else r4_3) r4_3 r4_4 r4_5 r4_6 r4_7 r4_8 r4_9 r4_10 r4_11
          else
           if decide (v26 = 3) then
            impl_TableLines_p1 v0 v15 v16 v17 v24 v25 (IntKind.i64.wrap (v26 + 1)) r4_0 r4_1 r4_2 (if (x1.length : Int) > r4_3 then (x1.length : Int) else r4_3) r4_4 r4_5 r4_6 r4_7 r4_8 r4_9 r4_10 r4_11
           else
            if decide (v26 = 4) then
             impl_TableLines_p1 v0 v15 v16 v17 v24 v25 (IntKind.i64.wrap (v26 + 1)) r4_0 r4_1 r4_2 r4_3 (if (x1.length : Int) > r4_3 then (x1.length : Int) else r4_3) r4_5 r4_6 r4_7 r4_8 r4_9 r4_10 r4_11
            else
             if decide (v26 = 5) then
              impl_TableLines_p1 v0 v15 v16 v17 v24 v25 (IntKind.i64.wrap (v26 + 1)) r4_0 r4_1 r4_2 r4_3 r4_4 (if (x1.length : Int) > r4_3 then (x1.length : Int) else r4_3) r4_6 r4_7 r4_8 r4_9 r4_10 r4_11
             else
              if decide (v26 = 6) then
               impl_TableLines_p1 v0 v15 v16 v17 v24 v25 (IntKind.i64.wrap (v26 + 1)) r4_0 r4_1 r4_2 r4_3 r4_4 r4_5 (if (x1.length : Int) > r4_3 then (x1.length : Int) else r4_3) r4_7 r4_8 r4_9 r4_10 r4_11
              else
               if decide (v26 = 7) then
                impl_TableLines_p1 v0 v15 v16 v17 v24 v25 (IntKind.i64.wrap (v26 + 1)) r4_0 r4_1 r4_2 r4_3 r4_4 r4_5 r4_6 (if (x1.length : Int) > r4_3 then (x1.length : Int) else r4_3) r4_8 r4_9 r4_10 r4_11
               else
                if decide (v26 = 8) then
                 impl_TableLines_p1 v0 v15 v16 v17 v24 v25 (IntKind.i64.wrap (v26 + 1)) r4_0 r4_1 r4_2 r4_3 r4_4 r4_5 r4_6 r4_7 (if (x1.length : Int) > r4_3 then (x1.length : Int) else r4_3) r4_9 r4_10 r4_11
                else
                 if decide (v26 = 9) then
                  impl_TableLines_p1 v0 v15 v16 v17 v24 v25 (IntKind.i64.wrap (v26 + 1)) r4_0 r4_1 r4_2 r4_3 r4_4 r4_5 r4_6 r4_7 r4_8 (if (x1.length : Int) > r4_3 then (x1.length : Int) else r4_3) r4_10 r4_11
                 else
                  if decide (v26 = 10) then
                   impl_TableLines_p1 v0 v15 v16 v17 v24 v25 (IntKind.i64.wrap (v26 + 1)) r4_0 r4_1 r4_2 r4_3 r4_4 r4_5 r4_6 r4_7 r4_8 r4_9 (if (x1.length : Int) > r4_3 then (x1.length : Int) else r4_3) r4_11
                  else
                   if decide (v26 = 11) then
                    impl_TableLines_p1 v0 v15 v16 v17 v24 v25 (IntKind.i64.wrap (v26 + 1)) r4_0 r4_1 r4_2 r4_3 r4_4 r4_5 r4_6 r4_7 r4_8 r4_9 r4_10 (if (x1.length : Int) > r4_3 then (x1.length : Int) else r4_3)
                   else
                    none
       else
        if decide (v26 = 4) then
         if decide (v26 = 0) then
          impl_TableLines_p1 v0 v15 v16 v17 v24 v25 (IntKind.i64.wrap (v26 + 1)) (if (x1.length : Int) > r4_4 then (x1.length : Int) else r4_4) r4_1 r4_2 r4_3 r4_4 r4_5 r4_6 r4_7 r4_8 r4_9 r4_10 r4_11
         else
          if decide (v26 = 1) then
           impl_TableLines_p1 v0 v15 v16 v17 v24 v25 (IntKind.i64.wrap (v26 + 1)) r4_0 (if (x1.length : Int) > r4_4 then (x1.length : Int) else r4_4) r4_2 r4_3 r4_4 r4_5 r4_6 r4_7 r4_8 r4_9 r4_10 r4_11
          else
           if decide (v26 = 2) then
            impl_TableLines_p1 v0 v15 v16 v17 v24 v25 (IntKind.i64.wrap (v26 + 1)) r4_0 r4_1 (if (x1.length : Int) > r4_4 then (x1.length : Int) else r4_4) r4_3 r4_4 r4_5 r4_6 r4_7 r4_8 r4_9 r4_10 r4_11
           else
            if decide (v26 = 3) then
             impl_TableLines_p1 v0 v15 v16 v17 v24 v25 (IntKind.i64.wrap (v26 + 1)) r4_0 r4_1 r4_2 (if (x1.length : Int) > r4_4 then (x1.length : Int) else r4_4) r4_4 r4_5 r4_6 r4_7 r4_8 r4_9 r4_10 r4_11
            else
             if decide (v26 = 4) then
              impl_TableLines_p1 v0 v15 v16 v17 v24 v25 (IntKind.i64.wrap (v26 + 1)) r4_0 r4_1 r4_2 r4_3 (if (x1.length : Int) > r4_4 then (x1.length : Int) else r4_4) r4_5 r4_6 r4_7 r4_8 r4_9 r4_10 r4_11
             else
              if decide (v26 = 5) then
               impl_TableLines_p1 v0 v15 v16 v17 v24 v25 (IntKind.i64.wrap (v26 + 1)) r4_0 r4_1 r4_2 r4_3 r4_4 (if (x1.length : Int) > r4_4 then (x1.length : Int) else r4_4) r4_6 r4_7 r4_8 r4_9 r4_10 r4_11
              else
               if decide (v26 = 6) then
                impl_TableLines_p1 v0 v15 v16 v17 v24 v25 (IntKind.i64.wrap (v26 + 1)) r4_0 r4_1 r4_2 r4_3 r4_4 r4_5 (if (x1.length : Int) > r4_4 then (x1.length : Int) else r4_4) r4_7 r4_8 r4_9 r4_10 r4_11
               else
                if decide (v26 = 7) then
                 impl_TableLines_p1 v0 v15 v16 v17 v24 v25 (IntKind.i64.wrap (v26 + 1)) r4_0 r4_1 r4_2 r4_3 r4_4 r4_5 r4_6 (if (x1.length : Int) > r4_4 then (x1.length : Int) else r4_4) r4_8 r4_9 r4_10 r4_11
                else
                 if decide (v26 = 8) then
                  impl_TableLines_p1 v0 v15 v16 v17 v24 v25 (IntKind.i64.wrap (v26 + 1)) r4_0 r4_1 r4_2 r4_3 r4_4 r4_5 r4_6 r4_7 (if (x1.length : Int) > r4_4 then (x1.length : Int) else r4_4) r4_9 r4_10 r4_11
                 else
                  if decide (v26 = 9) then
                   impl_TableLines_p1 v0 v15 v16 v17 v24 v25 (IntKind.i64.wrap (v26 + 1)) r4_0 r4_1 r4_2 r4_3 r4_4 r4_5 r4_6 r4_7 r4_8 (if (x1.length : Int) > r4_4 then (x1.length : Int) else r4_4) r4_10 r4_11
                  else
                   if decide (v26 = 10) then
                    impl_TableLines_p1 v0 v15 v16 v17 v24 v25 (IntKind.i64.wrap (v26 + 1)) r4_0 r4_1 r4_2 r4_3 r4_4 r4_5 r4_6 r4_7 r4_8 r4_9 (if (x1.length : Int) > r4_4 then (x1.length : Int) else r4_4) r4_11
                   else
                    if decide (v26 = 11) then
                     impl_TableLines_p1 v0 v15 v16 v17 v24 v25 (IntKind.i64.wrap (v26 + 1)) r4_0 r4_1 r4_2 r4_3 r4_4 r4_5 r4_6 r4_7 r4_8 r4_9 r4_10 (if (x1.length : Int) > r4_4 then (x1.length : Int) else r4_4)
                    else
                     none
        else
         if decide (v26 = 5) then
          if decide (v26 = 0) then
           impl_TableLines_p1 v0 v15 v16 v17 v24 v25 (IntKind.i64.wrap (v26 + 1)) (if (x1.length : Int) > r4_5 then (x1.length : Int) else r4_5) r4_1 r4_2 r4_3 r4_4 r4_5 r4_6 r4_7 r4_8 r4_9 r4_10 r4_11
          else
           if decide (v26 = 1) then
            impl_TableLines_p1 v0 v15 v16 v17 v24 v25 (IntKind.i64.wrap (v26 + 1)) r4_0 (if (x1.length : Int) > r4_5 then (x1.length : Int) else r4_5) r4_2 r4_3 r4_4 r4_5 r4_6 r4_7 r4_8 r4_9 r4_10 r4_11
           else
            if decide (v26 = 2) then
             impl_TableLines_p1 v0 v15 v16 v17 v24 v25 (IntKind.i64.wrap (v26 + 1)) r4_0 r4_1 (if (x1.length : Int) > r4_5 then (x1.length : Int) else r4_5) r4_3 r4_4 r4_5 r4_6 r4_7 r4_8 r4_9 r4_10 r4_11
            else
             if decide (v26 = 3) then
              impl_TableLines_p1 v0 v15 v16 v17 v24 v25 (IntKind.i64.wrap (v26 + 1)) r4_0 r4_1 r4_2 (if (x1.length : Int) > r4_5 then (x1.length : Int) else r4_5) r4_4 r4_5 r4_6 r4_7 r4_8 r4_9 r4_10 r4_11
             else
              if decide (v26 = 4) then
               impl_TableLines_p1 v0 v15 v16 v17 v24 v25 (IntKind.i64.wrap (v26 + 1)) r4_0 r4_1 r4_2 r4_3 (if (x1.length : Int) > r4_5 then (x1.length : Int) else r4_5) r4_5 r4_6 r4_7 r4_8 r4_9 r4_10 r4_11
              else
               if decide (v26 = 5) then
                impl_TableLines_p1 v0 v15 v16 v17 v24 v25 (IntKind.i64.wrap (v26 + 1)) r4_0 r4_1 r4_2 r4_3 r4_4 (if (x1.length : Int) > r4_5 then (x1.length : Int) else r4_5) r4_6 r4_7 r4_8 r4_9 r4_10 r4_11
               else
                if decide (v26 = 6) then
                 impl_TableLines_p1 v0 v15 v16 v17 v24 v25 (IntKind.i64.wrap (v26 + 1)) r4_0 r4_1 r4_2 r4_3 r4_4 r4_5 (if (x1.length : Int) > r4_5 then (x1.length : Int) else r4_5) r4_7 r4_8 r4_9 r4_10 r4_11
                else
                 if decide (v26 = 7) then
                  impl_TableLines_p1 v0 v15 v16 v17 v24 v25 (IntKind.i64.wrap (v26 + 1)) r4_0 r4_1 r4_2 r4_3 r4_4 r4_5 r4_6 (if (x1.length : Int) > r4_5 then (x1.length : Int) else r4_5) r4_8 r4_9 r4_10 r4_11
                 else
                  if decide (v26 = 8) then
                   impl_TableLines_p1 v0 v15 v16 v17 v24 v25 (IntKind.i64.wrap (v26 + 1)) r4_0 r4_1 r4_2 r4_3 r4_4 r4_5 r4_6 r4_7 (if (x1.length : Int) > r4_5 then (x1.length : Int) else r4_5) r4_9 r4_10 r4_11
                  else
                   if decide (v26 = 9) then
                    impl_TableLines_p1 v0 v15 v16 v17 v24 v25 (IntKind.i64.wrap (v26 + 1)) r4_0 r4_1 r4_2 r4_3 r4_4 r4_5 r4_6 r4_7 r4_8 (if (x1.length : Int) > r4_5 then (x1.length : Int) else r4_5) r4_10 r4_11
                   else
                    if decide (v26 = 10) then
                     impl_TableLines_p1 v0 v15 v16 v17 v24 v25 (IntKind.i64.wrap (v26 + 1)) r4_0 r4_1 r4_2 r4_3 r4_4 r4_5 r4_6 r4_7 r4_8 r4_9 (if (x1.length : Int) > r4_5 then (x1.length : Int) else r4_5) r4_11
                    else
                     if decide (v26 = 11) then
                      impl_TableLines_p1 v0 v15 v16 v17 v24 v25 (IntKind.i64.wrap (v26 + 1)) r4_0 r4_1 r4_2 r4_3 r4_4 r4_5 r4_6 r4_7 r4_8 r4_9 r4_10 (if (x1.length : Int) > r4_5 then (x1.length : Int) else r4_5)
                     else
                      none
         else
          if decide (v26 = 6) then
           if decide (v26 = 0) then
            impl_TableLines_p1 v0 v15 v16 v17 v24 v25 (IntKind.i64.wrap (v26 + 1)) (if (x1.length : Int) > r4_6 then (x1.length : Int) else r4_6) r4_1 r4_2 r4_3 r4_4 r4_5 r4_6 r4_7 r4_8 r4_9 r4_10 r4_11
           else
            if decide (v26 = 1) then
             impl_TableLines_p1 v0 v15 v16 v17 v24 v25 (IntKind.i64.wrap (v26 + 1)) r4_0 (if (x1.length : Int) > r4_6 then (x1.length : Int) else r4_6) r4_2 r4_3 r4_4 r4_5 r4_6 r4_7 r4_8 r4_9 r4_10 r4_11
            else
             if decide (v26 = 2) then
              impl_TableLines_p1 v0 v15 v16 v17 v24 v25 (IntKind.i64.wrap (v26 + 1)) r4_0 r4_1 (if (x1.length : Int) > r4_6 then (x1.length : Int) else r4_6) r4_3 r4_4 r4_5 r4_6 r4_7 r4_8 r4_9 r4_10 r4_11
             else
              if decide (v26 = 3) then
               impl_TableLines_p1 v0 v15 v16 v17 v24 v25 (IntKind.i64.wrap (v26 + 1)) r4_0 r4_1 r4_2 (if (x1.length : Int) > r4_6 then (x1.length : Int) else r4_6) r4_4 r4_5 r4_6 r4_7 r4_8 r4_9 r4_10 r4_11
              else
               if decide (v26 = 4) then
                impl_TableLines_p1 v0 v15 v16 v17 v24 v25 (IntKind.i64.wrap (v26 + 1)) r4_0 r4_1 r4_2 r4_3 (if (x1.length : Int) > r4_6 then (x1.length : Int) else r4_6) r4_5 r4_6 r4_7 r4_8 r4_9 r4_10 r4_11
               else
                if decide (v26 = 5) then
                 impl_TableLines_p1 v0 v15 v16 v17 v24 v25 (IntKind.i64.wrap (v26 + 1)) r4_0 r4_1 r4_2 r4_3 r4_4 (if (x1.length : Int) > r4_6 then (x1.length : Int) else r4_6) r4_6 r4_7 r4_8 r4_9 r4_10 r4_11
                else
                 if decide (v26 = 6) then
                  impl_TableLines_p1 v0 v15 v16 v17 v24 v25 (IntKind.i64.wrap (v26 + 1)) r4_0 r4_1 r4_2 r4_3 r4_4 r4_5 (if (x1.length : Int) > r4_6 then (x1.length : Int) else r4_6) r4_7 r4_8 r4_9 r4_10 r4_11
                 else
                  if decide (v26 = 7) then
                   impl_TableLines_p1 v0 v15 v16 v17 v24 v25 (IntKind.i64.wrap (v26 + 1)) r4_0 r4_1 r4_2 r4_3 r4_4 r4_5 r4_6 (if (x1.length : Int) > r4_6 then (x1.length : Int) else r4_6) r4_8 r4_9 r4_10 r4_11
                  else
                   if decide (v26 = 8) then
                    impl_TableLines_p1 v0 v15 v16 v17 v24 v25 (IntKind.i64.wrap (v26 + 1)) r4_0 r4_1 r4_2 r4_3 r4_4 r4_5 r4_6 r4_7 (if (x1.length : Int) > r4_6 then (x1.length : Int) else r4_6) r4_9 r4_10 r4_11
                   else
                    if decide (v26 = 9) then
                     impl_TableLines_p1 v0 v15 v16 v17 v24 v25 (IntKind.i64.wrap (v26 + 1)) r4_0 r4_1 r4_2 r4_3 r4_4 r4_5 r4_6 r4_7 r4_8 (if (x1.length : Int) > r4_6 then (x1.length : Int) else r4_6) r4_10 r4_11
                    else
                     if decide (v26 = 10) then
                      impl_TableLines_p1 v0 v15 v16 v17 v24 v25 (IntKind.i64.wrap (v26 + 1)) r4_0 r4_1 r4_2 r4_3 r4_4 r4_5 r4_6 r4_7 r4_8 r4_9 (if (x1.length : Int) > r4_6 then (x1.length : Int) else r4_6) r4_11
                     else
                      if decide (v26 = 11) then
                       impl_TableLines_p1 v0 v15 v16 v17 v24 v25 (IntKind.i64.wrap (v26 + 1)) r4_0 r4_1 r4_2 r4_3 r4_4 r4_5 r4_6 r4_7 r4_8 r4_9 r4_10 (if (x1.length : Int) > r4_6 then (x1.length : Int) else r4_6)
                      else
                       none
          else
           if decide (v26 = 7) then
            if decide (v26 = 0) then
             impl_TableLines_p1 v0 v15 v16 v17 v24 v25 (IntKind.i64.wrap (v26 + 1)) (if (x1.length : Int) > r4_7 then (x1.length : Int) else r4_7) r4_1 r4_2 r4_3 r4_4 r4_5 r4_6 r4_7 r4_8 r4_9 r4_10 r4_11
            else
             if decide (v26 = 1) then
              impl_TableLines_p1 v0 v15 v16 v17 v24 v25 (IntKind.i64.wrap (v26 + 1)) r4_0 (if (x1.length : Int) > r4_7 then (x1.length : Int) else r4_7) r4_2 r4_3 r4_4 r4_5 r4_6 r4_7 r4_8 r4_9 r4_10 r4_11
             else
              if decide (v26 = 2) then
               impl_TableLines_p1 v0 v15 v16 v17 v24 v25 (IntKind.i64.wrap (v26 + 1)) r4_0 r4_1 (if (x1.length : Int) > r4_7 then (x1.length : Int) else r4_7) r4_3 r4_4 r4_5 r4_6 r4_7 r4_8 r4_9 r4_10 r4_11
              else
               if decide (v26 = 3) then
                impl_TableLines_p1 v0 v15 v16 v17 v24 v25 (IntKind.i64.wrap (v26 + 1)) r4_0 r4_1 r4_2 (if (x1.length : Int) > r4_7 then (x1.length : Int) else r4_7) r4_4 r4_5 r4_6 r4_7 r4_8 r4_9 r4_10 r4_11
               else
                if decide (v26 = 4) then
                 impl_TableLines_p1 v0 v15 v16 v17 v24 v25 (IntKind.i64.wrap (v26 + 1)) r4_0 r4_1 r4_2 r4_3 (if (x1.length : Int) > r4_7 then (x1.length : Int) else r4_7) r4_5 r4_6 r4_7 r4_8 r4_9 r4_10 r4_11
                else
                 if decide (v26 = 5) then
                  impl_TableLines_p1 v0 v15 v16 v17 v24 v25 (IntKind.i64.wrap (v26 + 1)) r4_0 r4_1 r4_2 r4_3 r4_4 (if (x1.length : Int) > r4_7 then (x1.length : Int) else r4_7) r4_6 r4_7 r4_8 r4_9 r4_10 r4_11
                 else
                  if decide (v26 = 6) then
                   impl_TableLines_p1 v0 v15 v16 v17 v24 v25 (IntKind.i64.wrap (v26 + 1)) r4_0 r4_1 r4_2 r4_3 r4_4 r4_5 (if (x1.length : Int) > r4_7 then (x1.length : Int) else r4_7) r4_7 r4_8 r4_9 r4_10 r4_11
                  else
                   if decide (v26 = 7) then
                    impl_TableLines_p1 v0 v15 v16 v17 v24 v25 (IntKind.i64.wrap (v26 + 1)) r4_0 r4_1 r4_2 r4_3 r4_4 r4_5 r4_6 (if (x1.length : Int) > r4_7 then (x1.length : Int) else r4_7) r4_8 r4_9 r4_10 r4_11
                   else
                    if decide (v26 = 8) then
                     impl_TableLines_p1 v0 v15 v16 v17 v24 v25 (IntKind.i64.wrap (v26 + 1)) r4_0 r4_1 r4_2 r4_3 r4_4 r4_5 r4_6 r4_7 (if (x1.length : Int) > r4_7 then (x1.length : Int) else r4_7) r4_9 r4_10 r4_11
                    else
                     if decide (v26 = 9) then
                      impl_TableLines_p1 v0 v15 v16 v17 v24 v25 (IntKind.i64.wrap (v26 + 1)) r4_0 r4_1 r4_2 r4_3 r4_4 r4_5 r4_6 r4_7 r4_8 (if (x1.length : Int) > r4_7 then (x1.length : Int) else r4_7) r4_10 r4_11
                     else
                      if decide (v26 = 10) then
                       impl_TableLines_p1 v0 v15 v16 v17 v24 v25 (IntKind.i64.wrap (v26 + 1)) r4_0 r4_1 r4_2 r4_3 r4_4 r4_5 r4_6 r4_7 r4_8 r4_9 (if (x1.length : Int) > r4_7 then (x1.length : Int) else r4_7) r4_11
                      else
                       if decide (v26 = 11) then
                        impl_TableLines_p1 v0 v15 v16 v17 v24 v25 (IntKind.i64.wrap (v26 + 1)) r4_0 r4_1 r4_2 r4_3 r4_4 r4_5 r4_6 r4_7 r4_8 r4_9 r4_10 (if (x1.length : Int) > r4_7 then (x1.length : Int) else r4_7)
                       else
                        none
           else
            if decide (v26 = 8) then
             if decide (v26 = 0) then
              impl_TableLines_p1 v0 v15 v16 v17 v24 v25 (IntKind.i64.wrap (v26 + 1)) (if (x1.length : Int) > r4_8 then (x1.length : Int) else r4_8) r4_1 r4_2 r4_3 r4_4 r4_5 r4_6 r4_7 r4_8 r4_9 r4_10 r4_11
             else
              if decide (v26 = 1) then
               impl_TableLines_p1 v0 v15 v16 v17 v24 v25 (IntKind.i64.wrap (v26 + 1)) r4_0 (if (x1.length : Int) > r4_8 then (x1.length : Int) else r4_8) r4_2 r4_3 r4_4 r4_5 r4_6 r4_7 r4_8 r4_9 r4_10 r4_11
              else
               if decide (v26 = 2) then
                impl_TableLines_p1 v0 v15 v16 v17 v24 v25 (IntKind.i64.wrap (v26 + 1)) r4_0 r4_1 (if (x1.length : Int) > r4_8 then (x1.length : Int) else r4_8) r4_3 r4_4 r4_5 r4_6 r4_7 r4_8 r4_9 r4_10 r4_11
               else
                if decide (v26 = 3) then
                 impl_TableLines_p1 v0 v15 v16 v17 v24 v25 (IntKind.i64.wrap (v26 + 1)) r4_0 r4_1 r4_2 (if (x1.length : Int) > r4_8 then (x1.length : Int) else r4_8) r4_4 r4_5 r4_6 r4_7 r4_8 r4_9 r4_10 r4_11
                else
                 if decide (v26 = 4) then
                  impl_TableLines_p1 v0 v15 v16 v17 v24 v25 (IntKind.i64.wrap (v26 + 1)) r4_0 r4_1 r4_2 r4_3 (if (x1.length : Int) > r4_8 then (x1.length : Int) else r4_8) r4_5 r4_6 r4_7 r4_8 r4_9 r4_10 r4_11
                 else
                  if decide (v26 = 5) then
                   impl_TableLines_p1 v0 v15 v16 v17 v24 v25 (IntKind.i64.wrap (v26 + 1)) r4_0 r4_1 r4_2 r4_3 r4_4 (if (x1.length : Int) > r4_8 then (x1.length : Int) else r4_8) r4_6 r4_7 r4_8 r4_9 r4_10 r4_11
                  else
                   if decide (v26 = 6) then
                    impl_TableLines_p1 v0 v15 v16 v17 v24 v25 (IntKind.i64.wrap (v26 + 1)) r4_0 r4_1 r4_2 r4_3 r4_4 r4_5 (if (x1.length : Int) > r4_8 then (x1.length : Int) else r4_8) r4_7 r4_8 r4_9 r4_10 r4_11
                   else
                    if decide (v26 = 7) then
                     impl_TableLines_p1 v0 v15 v16 v17 v24 v25 (IntKind.i64.wrap (v26 + 1)) r4_0 r4_1 r4_2 r4_3 r4_4 r4_5 r4_6 (if (x1.length : Int) > r4_8 then (x1.length : Int) else r4_8) r4_8 r4_9 r4_10 r4_11
                    else
                     if decide (v26 = 8) then
                      impl_TableLines_p1 v0 v15 v16 v17 v24 v25 (IntKind.i64.wrap (v26 + 1)) r4_0 r4_1 r4_2 r4_3 r4_4 r4_5 r4_6 r4_7 (if (x1.length : Int) > r4_8 then (x1.length : Int) else r4_8) r4_9 r4_10 r4_11
                     else
                      if decide (v26 = 9) then
                       impl_TableLines_p1 v0 v15 v16 v17 v24 v25 (IntKind.i64.wrap (v26 + 1)) r4_0 r4_1 r4_2 r4_3 r4_4 r4_5 r4_6 r4_7 r4_8 (if (x1.length : Int) > r4_8 then (x1.length : Int) else r4_8) r4_10 r4_11
                      else
                       if decide (v26 = 10) then
                        impl_TableLines_p1 v0 v15 v16 v17 v24 v25 (IntKind.i64.wrap (v26 + 1)) r4_0 r4_1 r4_2 r4_3 r4_4 r4_5 r4_6 r4_7 r4_8 r4_9 (if (x1.length : Int) > r4_8 then (x1.length : Int) else r4_8) r4_11
                       else
                        if decide (v26 = 11) then
                         impl_TableLines_p1 v0 v15 v16 v17 v24 v25 (IntKind.i64.wrap (v26 + 1)) r4_0 r4_1 r4_2 r4_3 r4_4 r4_5 r4_6 r4_7 r4_8 r4_9 r4_10 (if (x1.length : Int) > r4_8 then (x1.length : Int) else r4_8)
                        else
                         none
            else
             if decide (v26 = 9) then
              if decide (v26 = 0) then
               impl_TableLines_p1 v0 v15 v16 v17 v24 v25 (IntKind.i64.wrap (v26 + 1)) (if (x1.length : Int) > r4_9 then (x1.length : Int) else r4_9) r4_1 r4_2 r4_3 r4_4 r4_5 r4_6 r4_7 r4_8 r4_9 r4_10 r4_11
              else
               if decide (v26 = 1) then
                impl_TableLines_p1 v0 v15 v16 v17 v24 v25 (IntKind.i64.wrap (v26 + 1)) r4_0 (if (x1.length : Int) > r4_9 then (x1.length : Int) else r4_9) r4_2 r4_3 r4_4 r4_5 r4_6 r4_7 r4_8 r4_9 r4_10 r4_11
               else
                if decide (v26 = 2) then
                 impl_TableLines_p1 v0 v15 v16 v17 v24 v25 (IntKind.i64.wrap (v26 + 1)) r4_0 r4_1 (if (x1.length : Int) > r4_9 then (x1.length : Int) else r4_9) r4_3 r4_4 r4_5 r4_6 r4_7 r4_8 r4_9 r4_10 r4_11
                else
                 if decide (v26 = 3) then
                  impl_TableLines_p1 v0 v15 v16 v17 v24 v25 (IntKind.i64.wrap (v26 + 1)) r4_0 r4_1 r4_2 (if (x1.length : Int) > r4_9 then (x1.length : Int) else r4_9) r4_4 r4_5 r4_6 r4_7 r4_8 r4_9 r4_10 r4_11
                 else
                  if decide (v26 = 4) then
                   impl_TableLines_p1 v0 v15 v16 v17 v24 v25 (IntKind.i64.wrap (v26 + 1)) r4_0 r4_1 r4_2 r4_3 (if (x1.length : Int) > r4_9 then (x1.length : Int) else r4_9) r4_5 r4_6 r4_7 r4_8 r4_9 r4_10 r4_11
                  else
                   if decide (v26 = 5) then
                    impl_TableLines_p1 v0 v15 v16 v17 v24 v25 (IntKind.i64.wrap (v26 + 1)) r4_0 r4_1 r4_2 r4_3 r4_4 (if (x1.length : Int) > r4_9 then (x1.length : Int) else r4_9) r4_6 r4_7 r4_8 r4_9 r4_10 r4_11
                   else
                    if decide (v26 = 6) then
                     impl_TableLines_p1 v0 v15 v16 v17 v24 v25 (IntKind.i64.wrap (v26 + 1)) r4_0 r4_1 r4_2 r4_3 r4_4 r4_5 (if (x1.length : Int) > r4_9 then (x1.length : Int) else r4_9) r4_7 r4_8 r4_9 r4_10 r4_11
                    else
                     if decide (v26 = 7) then
                      impl_TableLines_p1 v0 v15 v16 v17 v24 v25 (IntKind.i64.wrap (v26 + 1)) r4_0 r4_1 r4_2 r4_3 r4_4 r4_5 r4_6 (if (x1.length : Int) > r4_9 then (x1.length : Int) else r4_9) r4_8 r4_9 r4_10 r4_11
                     else
                      if decide (v26 = 8) then
                       impl_TableLines_p1 v0 v15 v16 v17 v24 v25 (IntKind.i64.wrap (v26 + 1)) r4_0 r4_1 r4_2 r4_3 r4_4 r4_5 r4_6 r4_7 (if (x1.length : Int) > r4_9 then (x1.length : Int) else r4_9) r4_9 r4_10 r4_11
                      else
                       if decide (v26 = 9) then
                        impl_TableLines_p1 v0 v15 v16 v17 v24 v25 (IntKind.i64.wrap (v26 + 1)) r4_0 r4_1 r4_2 r4_3 r4_4 r4_5 r4_6 r4_7 r4_8 (if (x1.length : Int) > r4_9 then (x1.length : Int) else r4_9) r4_10 r4_11
                       else
                        if decide (v26 = 10) then
                         impl_TableLines_p1 v0 v15 v16 v17 v24 v25 (IntKind.i64.wrap (v26 + 1)) r4_0 r4_1 r4_2 r4_3 r4_4 r4_5 r4_6 r4_7 r4_8 r4_9 (if (x1.length : Int) > r4_9 then (x1.length : Int) else r4_9) r4_11
                        else
                         if decide (v26 = 11) then
                          impl_TableLines_p1 v0 v15 v16 v17 v24 v25 (IntKind.i64.wrap (v26 + 1)) r4_0 r4_1 r4_2 r4_3 r4_4 r4_5 r4_6 r4_7 r4_8 r4_9 r4_10 (if (x1.length : Int) > r4_9 then (x1.length : Int) else r4_9)
                         else
                          none
             else
              if decide (v26 = 10) then
               if decide (v26 = 0) then
                impl_TableLines_p1 v0 v15 v16 v17 v24 v25 (IntKind.i64.wrap (v26 + 1)) (if (x1.length : Int) > r4_10 then (x1.length : Int) else r4_10) r4_1 r4_2 r4_3 r4_4 r4_5 r4_6 r4_7 r4_8 r4_9 r4_10 r4_11
               else
                if decide (v26 = 1) then
                 impl_TableLines_p1 v0 v15 v16 v17 v24 v25 (IntKind.i64.wrap (v26 + 1)) r4_0 (if (x1.length : Int) > r4_10 then (x1.length : Int) else r4_10) r4_2 r4_3 r4_4 r4_5 r4_6 r4_7 r4_8 r4_9 r4_10 r4_11
                else
                 if decide (v26 = 2) then
                  impl_TableLines_p1 v0 v15 v16 v17 v24 v25 (IntKind.i64.wrap (v26 + 1)) r4_0 r4_1 (if (x1.length : Int) > r4_10 then (x1.length : Int) else r4_10) r4_3 r4_4 r4_5 r4_6 r4_7 r4_8 r4_9 r4_10 r4_11
                 else
                  if decide (v26 = 3) then
                   impl_TableLines_p1 v0 v15 v16 v17 v24 v25 (IntKind.i64.wrap (v26 + 1)) r4_0 r4_1 r4_2 (if (x1.length : Int) > r4_10 then (x1.length : Int) else r4_10) r4_4 r4_5 r4_6 r4_7 r4_8 r4_9 r4_10 r4_11
                  else
                   if decide (v26 = 4) then
                    impl_TableLines_p1 v0 v15 v16 v17 v24 v25 (IntKind.i64.wrap (v26 + 1)) r4_0 r4_1 r4_2 r4_3 (if (x1.length : Int) > r4_10 then (x1.length : Int) else r4_10) r4_5 r4_6 r4_7 r4_8 r4_9 r4_10 r4_11
                   else
                    if decide (v26 = 5) then
                     impl_TableLines_p1 v0 v15 v16 v17 v24 v25 (IntKind.i64.wrap (v26 + 1)) r4_0 r4_1 r4_2 r4_3 r4_4 (if (x1.length : Int) > r4_10 then (x1.length : Int) else r4_10) r4_6 r4_7 r4_8 r4_9 r4_10 r4_11
                    else
                     if decide (v26 = 6) then
                      impl_TableLines_p1 v0 v15 v16 v17 v24 v25 (IntKind.i64.wrap (v26 + 1)) r4_0 r4_1 r4_2 r4_3 r4_4 r4_5 (if (x1.length : Int) > r4_10 then (x1.length : Int) else r4_10) r4_7 r4_8 r4_9 r4_10 r4_11
                     else
                      if decide (v26 = 7) then
                       impl_TableLines_p1 v0 v15 v16 v17 v24 v25 (IntKind.i64.wrap (v26 + 1)) r4_0 r4_1 r4_2 r4_3 r4_4 r4_5 r4_6 (if (x1.length : Int) > r4_10 then (x1.length : Int) else r4_10) r4_8 r4_9 r4_10 r4_11
                      else
                       if decide (v26 = 8) then
                        impl_TableLines_p1 v0 v15 v16 v17 v24 v25 (IntKind.i64.wrap (v26 + 1)) r4_0 r4_1 r4_2 r4_3 r4_4 r4_5 r4_6 r4_7 (if (x1.length : Int) > r4_10 then (x1.length : Int) else r4_10) r4_9 r4_10 r4_11
                       else
                        if decide (v26 = 9) then
                         impl_TableLines_p1 v0 v15 v16 v17 v24 v25 (IntKind.i64.wrap (v26 + 1)) r4_0 r4_1 r4_2 r4_3 r4_4 r4_5 r4_6 r4_7 r4_8 (if (x1.length : Int) > r4_10 then (x1.length : Int) else r4_10) r4_10 r4_11
                        else
                         if decide (v26 = 10) then
                          impl_TableLines_p1 v0 v15 v16 v17 v24 v25 (IntKind.i64.wrap (v26 + 1)) r4_0 r4_1 r4_2 r4_3 r4_4 r4_5 r4_6 r4_7 r4_8 r4_9 (if (x1.length : Int) > r4_10 then (x1.length : Int) else r4_10) r4_11
                         else
                          if decide (v26 = 11) then
                           impl_TableLines_p1 v0 v15 v16 v17 v24 v25 (IntKind.i64.wrap (v26 + 1)) r4_0 r4_1 r4_2 r4_3 r4_4 r4_5 r4_6 r4_7 r4_8 r4_9 r4_10 (if (x1.length : Int) > r4_10 then (x1.length : Int) else r4_10)
                          else
                           none
              else
               if decide (v26 = 11) then
                if decide (v26 = 0) then
                 impl_TableLines_p1 v0 v15 v16 v17 v24 v25 (IntKind.i64.wrap (v26 + 1)) (if (x1.length : Int) > r4_11 then (x1.length : Int) else r4_11) r4_1 r4_2 r4_3 r4_4 r4_5 r4_6 r4_7 r4_8 r4_9 r4_10 r4_11
                else
                 if decide (v26 = 1) then
                  impl_TableLines_p1 v0 v15 v16 v17 v24 v25 (IntKind.i64.wrap (v26 + 1)) r4_0 (if (x1.length : Int) > r4_11 then (x1.length : Int) else r4_11) r4_2 r4_3 r4_4 r4_5 r4_6 r4_7 r4_8 r4_9 r4_10 r4_11
                 else
                  if decide (v26 = 2) then
                   impl_TableLines_p1 v0 v15 v16 v17 v24 v25 (IntKind.i64.wrap (v26 + 1)) r4_0 r4_1 (if (x1.length : Int) > r4_11 then (x1.length : Int) else r4_11) r4_3 r4_4 r4_5 r4_6 r4_7 r4_8 r4_9 r4_10 r4_11
                  else
                   if decide (v26 = 3) then
                    impl_TableLines_p1 v0 v15 v16 v17 v24 v25 (IntKind.i64.wrap (v26 + 1)) r4_0 r4_1 r4_2 (if (x1.length : Int) > r4_11 then (x1.length : Int) else r4_11) r4_4 r4_5 r4_6 r4_7 r4_8 r4_9 r4_10 r4_11
                   else
                    if decide (v26 = 4) then
                     impl_TableLines_p1 v0 v15 v16 v17 v24 v25 (IntKind.i64.wrap (v26 + 1)) r4_0 r4_1 r4_2 r4_3 (if (x1.length : Int) > r4_11 then (x1.length : Int) else r4_11) r4_5 r4_6 r4_7 r4_8 r4_9 r4_10 r4_11
                    else
                     if decide (v26 = 5) then
                      impl_TableLines_p1 v0 v15 v16 v17 v24 v25 (IntKind.i64.wrap (v26 + 1)) r4_0 r4_1 r4_2 r4_3 r4_4 (if (x1.length : Int) > r4_11 then (x1.length : Int) else r4_11) r4_6 r4_7 r4_8 r4_9 r4_10 r4_11
                     else
                      if decide (v26 = 6) then
                       impl_TableLines_p1 v0 v15 v16 v17 v24 v25 (IntKind.i64.wrap (v26 + 1)) r4_0 r4_1 r4_2 r4_3 r4_4 r4_5 (if (x1.length : Int) > r4_11 then (x1.length : Int) else r4_11) r4_7 r4_8 r4_9 r4_10 r4_11
                      else
                       if decide (v26 = 7) then
                        impl_TableLines_p1 v0 v15 v16 v17 v24 v25 (IntKind.i64.wrap (v26 + 1)) r4_0 r4_1 r4_2 r4_3 r4_4 r4_5 r4_6 (if (x1.length : Int) > r4_11 then (x1.length : Int) else r4_11) r4_8 r4_9 r4_10 r4_11
                       else
                        if decide (v26 = 8) then
                         impl_TableLines_p1 v0 v15 v16 v17 v24 v25 (IntKind.i64.wrap (v26 + 1)) r4_0 r4_1 r4_2 r4_3 r4_4 r4_5 r4_6 r4_7 (if (x1.length : Int) > r4_11 then (x1.length : Int) else r4_11) r4_9 r4_10 r4_11
                        else
                         if decide (v26 = 9) then
                          impl_TableLines_p1 v0 v15 v16 v17 v24 v25 (IntKind.i64.wrap (v26 + 1)) r4_0 r4_1 r4_2 r4_3 r4_4 r4_5 r4_6 r4_7 r4_8 (if (x1.length : Int) > r4_11 then (x1.length : Int) else r4_11) r4_10 r4_11
                         else
                          if decide (v26 = 10) then
                           impl_TableLines_p1 v0 v15 v16 v17 v24 v25 (IntKind.i64.wrap (v26 + 1)) r4_0 r4_1 r4_2 r4_3 r4_4 r4_5 r4_6 r4_7 r4_8 r4_9 (if (x1.length : Int) > r4_11 then (x1.length : Int) else r4_11) r4_11
                          else
                           if decide (v26 = 11) then
                            impl_TableLines_p1 v0 v15 v16 v17 v24 v25 (IntKind.i64.wrap (v26 + 1)) r4_0 r4_1 r4_2 r4_3 r4_4 r4_5 r4_6 r4_7 r4_8 r4_9 r4_10 (if (x1.length : Int) > r4_11 then (x1.length : Int) else r4_11)
                           else
                            none
               else
                none
  else
   none
 else
  impl_TableLines_p0 v0 v15 v16 (IntKind.i64.wrap (v17 + 1)) r4_0 r4_1 r4_2 r4_3 r4_4 r4_5 r4_6 r4_7 r4_8 r4_9 r4_10 r4_11 :=
 (goL_dn _ _ _ 4000 _ _).trans (by kernel_rfl)
theorem impl_TableLines_p2_eq  (v42 : List (List (List UInt8))) (v43 : Int) (v44 : Int) (r4_0 : Int) (r4_1 : Int) (r4_2 : Int) (r4_3 : Int) (r4_4 : Int) (r4_5 : Int) (r4_6 : Int) (r4_7 : Int) (r4_8 : Int) (r4_9 : Int) (r4_10 : Int) (r4_11 : Int) (r9 : List (List UInt8)) : impl_TableLines_p2 v42 v43 v44 r4_0 r4_1 r4_2 r4_3 r4_4 r4_5 r4_6 r4_7 r4_8 r4_9 r4_10 r4_11 r9 =
 if decide (v44 < v43) then
  if decide (0 ≤ v44) then
   (v42[v44.toNat]?).bind fun x1 =>
    impl_TableLines_p3 v42 v43 v44 x1 (x1.length : Int) 0 r4_0 r4_1 r4_2 r4_3 r4_4 r4_5 r4_6 r4_7 r4_8 r4_9 r4_10 r4_11 r9 []
  else
   none
 else
  if decide (r9.length = r9.length) then
   (impl_report r9).bind fun x2 =>
    some ((x2.1.take x2.1.length),x2.2.1)
  else
   none :=
 (goL_dn _ _ _ 4000 _ _).trans (by kernel_rfl)
theorem impl_TableLines_p3_eq  (v42 : List (List (List UInt8))) (v43 : Int) (v44 : Int) (v49 : List (List UInt8)) (v50 : Int) (v51 : Int) (r4_0 : Int) (r4_1 : Int) (r4_2 : Int) (r4_3 : Int) (r4_4 : Int) (r4_5 : Int) (r4_6 : Int) (r4_7 : Int) (r4_8 : Int) (r4_9 : Int) (r4_10 : Int) (r4_11 : Int) (r9 : List (List UInt8)) (r12 : List (List UInt8)) : impl_TableLines_p3 v42 v43 v44 v49 v50 v51 r4_0 r4_1 r4_2 r4_3 r4_4 r4_5 r4_6 r4_7 r4_8 r4_9 r4_10 r4_11 r9 r12 =
 if decide (v51 < v50) then
  if decide (0 ≤ v51) then
   (v49[v51.toNat]?).bind fun x1 =>
    if decide (v51 = 0) then
     (strings_Repeat [32] (IntKind.i64.wrap (r4_0 - (x1.length : Int)))).bind fun x2 =>
      if decide (x1.length + x2.length ≤ strMax) then
       if decide (r12.length + 1 < lim) then
        impl_TableLines_p3 v42 v43 v44 v49 v50 (IntKind.i64.wrap (v51 + 1)) r4_0 r4_1 r4_2 r4_3 r4_4 r4_5 r4_6 r4_7 r4_8 r4_9 r4_10 r4_11 r9 ((r12.take r12.length) ++ [x1 ++ x2])
       else
        none
      else
       none
    else
     if decide (v51 = 1) then
      (strings_Repeat [32] (IntKind.i64.wrap (r4_1 - (x1.length : Int)))).bind fun x3 =>
       if decide (x1.length + x3.length ≤ strMax) then
        if decide (r12.length + 1 < lim) then
         impl_TableLines_p3 v42 v43 v44 v49 v50 (IntKind.i64.wrap (v51 + 1)) r4_0 r4_1 r4_2 r4_3 r4_4 r4_5 r4_6 r4_7 r4_8 r4_9 r4_10 r4_11 r9 ((r12.take r12.length) ++ [x1 ++ x3])
        else
         none
       else
        none
     else
      if decide (v51 = 2) then
       (strings_Repeat [32] (IntKind.i64.wrap (r4_2 - (x1.length : Int)))).bind fun x4 =>
        if decide (x1.length + x4.length ≤ strMax) then
         if decide (r12.length + 1 < lim) then
          impl_TableLines_p3 v42 v43 v44 v49 v50 (IntKind.i64.wrap (v51 + 1)) r4_0 r4_1 r4_2 r4_3 r4_4 r4_5 r4_6 r4_7 r4_8 r4_9 r4_10 r4_11 r9 ((r12.take r12.length) ++ [x1 ++ x4])
         else
          none
        else
         none
      else
       if decide (v51 = 3) then
        (strings_Repeat [32] (IntKind.i64.wrap (r4_3 - (x1.length : Int)))).bind fun x5 =>
         if decide (x1.length + x5.length ≤ strMax) then
          if decide (r12.length + 1 < lim) then
           impl_TableLines_p3 v42 v43 v44 v49 v50 (IntKind.i64.wrap (v51 + 1)) r4_0 r4_1 r4_2 r4_3 r4_4 r4_5 r4_6 r4_7 r4_8 r4_9 r4_10 r4_11 r9 ((r12.take r12.length) ++ [x1 ++ x5])
          else
           none
         else
          none
       else
        if decide (v51 = 4) then
         (strings_Repeat [32] (IntKind.i64.wrap (r4_4 - (x1.length : Int)))).bind fun x6 =>
          if decide (x1.length + x6.length ≤ strMax) then
           if decide (r12.length + 1 < lim) then
            impl_TableLines_p3 v42 v43 v44 v49 v50 (IntKind.i64.wrap (v51 + 1)) r4_0 r4_1 r4_2 r4_3 r4_4 r4_5 r4_6 r4_7 r4_8 r4_9 r4_10 r4_11 r9 ((r12.take r12.length) ++ [x1 ++ x6])
           else
            none
          else
           none
        else
         if decide (v51 = 5) then
          (strings_Repeat [32] (IntKind.i64.wrap (r4_5 - (x1.length : Int)))).bind fun x7 =>
           if decide (x1.length + x7.length ≤ strMax) then
            if decide (r12.length + 1 < lim) then
             impl_TableLines_p3 v42 v43 v44 v49 v50 (IntKind.i64.wrap (v51 + 1)) r4_0 r4_1 r4_2 r4_3 r4_4 r4_5 r4_6 r4_7 r4_8 r4_9 r4_10 r4_11 r9 ((r12.take r12.length) ++ [x1 ++ x7])
            else
             none
           else
            none
         else
          if decide (v51 = 6) then
           (strings_Repeat [32] (IntKind.i64.wrap (r4_6 - (x1.length : Int)))).bind fun x8 =>
            if decide (x1.length + x8.length ≤ strMax) then
             if decide (r12.length + 1 < lim) then
              impl_TableLines_p3 v42 v43 v44 v49 v50 (IntKind.i64.wrap (v51 + 1)) r4_0 r4_1 r4_2 r4_3 r4_4 r4_5 r4_6 r4_7 r4_8 r4_9 r4_10 r4_11 r9 ((r12.take r12.length) ++ [x1 ++ x8])
             else
              none
            else
             none
          else
           if decide (v51 = 7) then
            (strings_Repeat [32] (IntKind.i64.wrap (r4_7 - (x1.length : Int)))).bind fun x9 =>
             if decide (x1.length + x9.length ≤ strMax) then
              if decide (r12.length + 1 < lim) then
               impl_TableLines_p3 v42 v43 v44 v49 v50 (IntKind.i64.wrap (v51 + 1)) r4_0 r4_1 r4_2 r4_3 r4_4 r4_5 r4_6 r4_7 r4_8 r4_9 r4_10 r4_11 r9 ((r12.take r12.length) ++ [x1 ++ x9])
              else
               none
             else
              none
           else
            if decide (v51 = 8) then
             (strings_Repeat [32] (IntKind.i64.wrap (r4_8 - (x1.length : Int)))).bind fun x10 =>
              if decide (x1.length + x10.length ≤ strMax) then
               if decide (r12.length + 1 < lim) then
                impl_TableLines_p3 v42 v43 v44 v49 v50 (IntKind.i64.wrap (v51 + 1)) r4_0 r4_1 r4_2 r4_3 r4_4 r4_5 r4_6 r4_7 r4_8 r4_9 r4_10 r4_11 r9 ((r12.take r12.length) ++ [x1 ++ x10])
               else
                none
              else
               none
            else
             if decide (v51 = 9) then
              (strings_Repeat [32] (IntKind.i64.wrap (r4_9 - (x1.length : Int)))).bind fun x11 =>
               if decide (x1.length + x11.length ≤ strMax) then
                if decide (r12.length + 1 < lim) then
                 impl_TableLines_p3 v42 v43 v44 v49 v50 (IntKind.i64.wrap (v51 + 1)) r4_0 r4_1 r4_2 r4_3 r4_4 r4_5 r4_6 r4_7 r4_8 r4_9 r4_10 r4_11 r9 ((r12.take r12.length) ++ [x1 ++ x11])
                else
                 none
               else
                none
             else
              if decide (v51 = 10) then
               (strings_Repeat [32] (IntKind.i64.wrap (r4_10 - (x1.length : Int)))).bind fun x12 =>
                if decide (x1.length + x12.length ≤ strMax) then
                 if decide (r12.length + 1 < lim) then
                  impl_TableLines_p3 v42 v43 v44 v49 v50 (IntKind.i64.wrap (v51 + 1)) r4_0 r4_1 r4_2 r4_3 r4_4 r4_5 r4_6 r4_7 r4_8 r4_9 r4_10 r4_11 r9 ((r12.take r12.length) ++ [x1 ++ x12])
                 else
                  none
                else
                 none
              else
               if decide (v51 = 11) then
                (strings_Repeat [32] (IntKind.i64.wrap (r4_11 - (x1.length : Int)))).bind fun x13 =>
                 if decide (x1.length + x13.length ≤ strMax) then
                  if decide (r12.length + 1 < lim) then
                   impl_TableLines_p3 v42 v43 v44 v49 v50 (IntKind.i64.wrap (v51 + 1)) r4_0 r4_1 r4_2 r4_3 r4_4 r4_5 r4_6 r4_7 r4_8 r4_9 r4_10 r4_11 r9 ((r12.take r12.length) ++ [x1 ++ x13])
                  else
                   none
                 else
                  none
               else
                none
  else
   none
 else
  (strings_Join (r12.take r12.length) [32,32]).bind fun x14 =>
   (strings_TrimRight x14 [32]).bind fun x15 =>
    if decide (r9.length + 1 < lim) then
     impl_TableLines_p2 v42 v43 (IntKind.i64.wrap (v44 + 1)) r4_0 r4_1 r4_2 r4_3 r4_4 r4_5 r4_6 r4_7 r4_8 r4_9 r4_10 r4_11 ((r9.take r9.length) ++ [x15])
    else
     none :=
 (goL_dn _ _ _ 4000 _ _).trans (by kernel_rfl)
def laws_eqStringS_k0 : C :=
 .seq (.seq (.reg false [.V 11 (.mv (.t 5)),.V 12 (.mv (.t 0)),.V 13 (.len (.t 12)),.V 14 (.bin .lss (.t 11) (.t 13))] [0,1,5,14] []) (.cond (.t 14) .skip (.exit 0))) (.seq (.block 1 (.seq (.reg true [.V 17 (.mv (.t 0)),.V 18 (.mv (.t 5)),.V 19 (.ia 1 (.t 17) (.t 18)),.V 20 (.ld none (.t 19)),.V 21 (.mv (.t 1)),.V 22 (.mv (.t 5)),.V 23 (.ia 1 (.t 21) (.t 22)),.V 24 (.ld none (.t 23)),.V 25 (.bin .neq (.t 20) (.t 24))] [0,1,5,25] []) (.cond (.t 25) (.seq (.reg false [.V 4 (.asg (.c (.bool false)))] [4] []) .ret) .skip))) (.reg false [.V 15 (.mv (.t 5)),.V 16 (.bin .add (.t 15) (.c (.int .i64 1))),.V 5 (.asg (.t 16))] [0,1,5] []))
def laws_eqStringS_k1 : C :=
 .norm [0,1,5] [] laws_eqStringS_k0
def laws_eqStringS_k2 : C :=
 .seq (.reg false [.V 4 (.asg (.c (.bool true)))] [4] []) .ret
def laws_eqStringS_ir : Fn := { np := 2,io := [],res := [.t 4],own := [false],body :=
 (.seq (.reg false [.V 4 (.asg (.c (.bool false)))] [0,1] []) (.seq (.seq (.reg false [.V 6 (.mv (.t 0)),.V 7 (.len (.t 6)),.V 8 (.mv (.t 1)),.V 9 (.len (.t 8)),.V 10 (.bin .neq (.t 7) (.t 9))] [0,1,10] []) (.cond (.t 10) (.seq (.reg false [.V 4 (.asg (.c (.bool false)))] [4] []) .ret) .skip)) (.seq (.seq (.reg false [.V 5 (.asg (.c (.int .i64 0)))] [0,1,5] []) (.block 0 (.loop laws_eqStringS_k1))) laws_eqStringS_k2))) }
noncomputable def laws_eqStringS_D : List (Nat × Callee) := []
def laws_eqStringS_H : List (Nat × ET) := [(6,(.one .str)),(8,(.one .str)),(12,(.one .str)),(17,(.one .str)),(21,(.one .str))]
noncomputable def laws_eqStringS_c : Callee := mkCallee laws_eqStringS_D laws_eqStringS_H laws_eqStringS_ir [.d (.one (.sl (.one .str))),.d (.one (.sl (.one .str)))] [.d (.one .bool)] []
noncomputable def laws_eqStringS (a0 : List (List UInt8)) (a1 : List (List UInt8)) : Option (Bool) := laws_eqStringS_c.f (a0,a1,())
noncomputable def laws_eqStringS_p0  (v0 : List (List UInt8)) (v1 : List (List UInt8)) (v5 : Int) : Option (Bool) :=
 goL laws_eqStringS_D laws_eqStringS_H (vleave laws_eqStringS_ir [.d (.one (.sl (.one .str))),.d (.one (.sl (.one .str)))] [.d (.one .bool)] [] []) [.c laws_eqStringS_k0,.l laws_eqStringS_k1,.e 0,.c laws_eqStringS_k2]
  ⟨[(0,.sl (.one .str) v0),(1,.sl (.one .str) v1),(5,.int .i64 v5)],[]⟩
theorem laws_eqStringS_eq (a0 : List (List UInt8)) (a1 : List (List UInt8)) : laws_eqStringS a0 a1 =
 if ((a0.length : Int) != (a1.length : Int)) then
  some false
 else
  laws_eqStringS_p0 a0 a1 0 :=
 (mk_f _ _ _ _ _ _ _ 4000).trans (by kernel_rfl)
theorem laws_eqStringS_p0_eq  (v0 : List (List UInt8)) (v1 : List (List UInt8)) (v5 : Int) : laws_eqStringS_p0 v0 v1 v5 =
 if decide (v5 < (v0.length : Int)) then
  if decide (0 ≤ v5) then
   (v0[v5.toNat]?).bind fun x1 =>
    if decide (0 ≤ v5) then
     (v1[v5.toNat]?).bind fun x2 =>
      if (!(x1 == x2)) then
       some false
      else
       laws_eqStringS_p0 v0 v1 (IntKind.i64.wrap (v5 + 1))
    else
     none
  else
   none
 else
  some true :=
 (goL_dn _ _ _ 4000 _ _).trans (by kernel_rfl)
def laws_eqStringSS_k0 : C :=
 .seq (.seq (.reg false [.V 11 (.mv (.t 5)),.V 12 (.mv (.t 0)),.V 13 (.len (.t 12)),.V 14 (.bin .lss (.t 11) (.t 13))] [0,1,5,14] []) (.cond (.t 14) .skip (.exit 0))) (.seq (.block 1 (.seq (.reg true [.V 17 (.mv (.t 0)),.V 18 (.mv (.t 5)),.V 19 (.ia 1 (.t 17) (.t 18)),.V 20 (.ld none (.t 19)),.V 21 (.mv (.t 1)),.V 22 (.mv (.t 5)),.V 23 (.ia 1 (.t 21) (.t 22)),.V 24 (.ld none (.t 23)),.V 25 (.call (.c (.fn 137 [])) [.t 20,.t 24]),.V 26 (.un .not (.t 25))] [0,1,5,26] []) (.cond (.t 26) (.seq (.reg false [.V 4 (.asg (.c (.bool false)))] [4] []) .ret) .skip))) (.reg false [.V 15 (.mv (.t 5)),.V 16 (.bin .add (.t 15) (.c (.int .i64 1))),.V 5 (.asg (.t 16))] [0,1,5] []))
def laws_eqStringSS_k1 : C :=
 .norm [0,1,5] [] laws_eqStringSS_k0
def laws_eqStringSS_k2 : C :=
 .seq (.reg false [.V 4 (.asg (.c (.bool true)))] [4] []) .ret
def laws_eqStringSS_ir : Fn := { np := 2,io := [],res := [.t 4],own := [false],body :=
 (.seq (.reg false [.V 4 (.asg (.c (.bool false)))] [0,1] []) (.seq (.seq (.reg false [.V 6 (.mv (.t 0)),.V 7 (.len (.t 6)),.V 8 (.mv (.t 1)),.V 9 (.len (.t 8)),.V 10 (.bin .neq (.t 7) (.t 9))] [0,1,10] []) (.cond (.t 10) (.seq (.reg false [.V 4 (.asg (.c (.bool false)))] [4] []) .ret) .skip)) (.seq (.seq (.reg false [.V 5 (.asg (.c (.int .i64 0)))] [0,1,5] []) (.block 0 (.loop laws_eqStringSS_k1))) laws_eqStringSS_k2))) }
noncomputable def laws_eqStringSS_D : List (Nat × Callee) := [(137,laws_eqStringS_c)]
def laws_eqStringSS_H : List (Nat × ET) := [(6,(.one (.sl (.one .str)))),(8,(.one (.sl (.one .str)))),(12,(.one (.sl (.one .str)))),(17,(.one (.sl (.one .str)))),(20,(.one .str)),(21,(.one (.sl (.one .str)))),(24,(.one .str))]
noncomputable def laws_eqStringSS_c : Callee := mkCallee laws_eqStringSS_D laws_eqStringSS_H laws_eqStringSS_ir [.d (.one (.sl (.one (.sl (.one .str))))),.d (.one (.sl (.one (.sl (.one .str)))))] [.d (.one .bool)] []
noncomputable def laws_eqStringSS (a0 : List (List (List UInt8))) (a1 : List (List (List UInt8))) : Option (Bool) := laws_eqStringSS_c.f (a0,a1,())
noncomputable def laws_eqStringSS_p0  (v0 : List (List (List UInt8))) (v1 : List (List (List UInt8))) (v5 : Int) : Option (Bool) :=
 goL laws_eqStringSS_D laws_eqStringSS_H (vleave laws_eqStringSS_ir [.d (.one (.sl (.one (.sl (.one .str))))),.d (.one (.sl (.one (.sl (.one .str)))))] [.d (.one .bool)] [] []) [.c laws_eqStringSS_k0,.l laws_eqStringSS_k1,.e 0,.c laws_eqStringSS_k2]
  ⟨[(0,.sl (.one (.sl (.one .str))) v0),(1,.sl (.one (.sl (.one .str))) v1),(5,.int .i64 v5)],[]⟩
theorem laws_eqStringSS_eq (a0 : List (List (List UInt8))) (a1 : List (List (List UInt8))) : laws_eqStringSS a0 a1 =
 if ((a0.length : Int) != (a1.length : Int)) then
  some false
 else
  laws_eqStringSS_p0 a0 a1 0 :=
 (mk_f _ _ _ _ _ _ _ 4000).trans (by kernel_rfl)
theorem laws_eqStringSS_p0_eq  (v0 : List (List (List UInt8))) (v1 : List (List (List UInt8))) (v5 : Int) : laws_eqStringSS_p0 v0 v1 v5 =
 if decide (v5 < (v0.length : Int)) then
  if decide (0 ≤ v5) then
   (v0[v5.toNat]?).bind fun x1 =>
    if decide (0 ≤ v5) then
     (v1[v5.toNat]?).bind fun x2 =>
      (laws_eqStringS x1 x2).bind fun x3 =>
       if (!x3) then
        some false
       else
        laws_eqStringSS_p0 v0 v1 (IntKind.i64.wrap (v5 + 1))
    else
     none
  else
   none
 else
  some true :=
 (goL_dn _ _ _ 4000 _ _).trans (by kernel_rfl)
def laws_toStringS_k0 : C :=
 .seq (.seq (.reg false [.V 8 (.mv (.t 4)),.V 9 (.mv (.t 0)),.V 10 (.len (.t 9)),.V 11 (.bin .lss (.t 8) (.t 10))] [0,3,4,11] [3]) (.cond (.t 11) .skip (.exit 0))) (.seq (.block 1 (.reg false [.V 14 (.mv (.t 3)),.V 15 (.mv (.t 4)),.V 16 (.mv (.t 0)),.V 17 (.mv (.t 4)),.V 18 (.ia 1 (.t 16) (.t 17)),.V 19 (.ld none (.t 18)),.V 20 (.ia 1 (.t 14) (.t 15)),⟨none,true,.sto 1 (.t 20) (.t 19),none,false,[]⟩] [0,3,4] [3])) (.reg false [.V 12 (.mv (.t 4)),.V 13 (.bin .add (.t 12) (.c (.int .i64 1))),.V 4 (.asg (.t 13))] [0,3,4] [3]))
def laws_toStringS_k1 : C :=
 .norm [0,3,4] [3] laws_toStringS_k0
def laws_toStringS_k2 : C :=
 .seq (.reg false [.V 21 (.mv (.t 3)),.W 2 (.asg (.t 21))] [2] [2,3]) .ret
def laws_toStringS_ir : Fn := { np := 1,io := [],res := [.t 2],own := [true],body :=
 (.seq (.reg false [.W 2 (.asg (.c (.nils 1)))] [0] []) (.seq (.reg false [.V 5 (.mv (.t 0)),.V 6 (.len (.t 5)),.V 7 (.mks 1 16 (.str []) (.t 6) (.t 6)),.W 3 (.asg (.t 7))] [0,3] [3]) (.seq (.seq (.reg false [.V 4 (.asg (.c (.int .i64 0)))] [0,3,4] [3]) (.block 0 (.loop laws_toStringS_k1))) laws_toStringS_k2))) }
noncomputable def laws_toStringS_D : List (Nat × Callee) := []
def laws_toStringS_H : List (Nat × ET) := [(2,(.one .str)),(3,(.one .str)),(5,(.one .str)),(7,(.one .str)),(9,(.one .str)),(14,(.one .str)),(16,(.one .str)),(21,(.one .str))]
noncomputable def laws_toStringS_c : Callee := mkCallee laws_toStringS_D laws_toStringS_H laws_toStringS_ir [.d (.one (.sl (.one .str)))] [.tok (.one .str)] []
noncomputable def laws_toStringS (a0 : List (List UInt8)) : Option (List (List UInt8)) := laws_toStringS_c.f (a0,())
noncomputable def laws_toStringS_p0  (v0 : List (List UInt8)) (v3n : Nat) (v4 : Int) (r3 : List (List UInt8)) : Option (List (List UInt8)) :=
 goL laws_toStringS_D laws_toStringS_H (vleave laws_toStringS_ir [.d (.one (.sl (.one .str)))] [.tok (.one .str)] [] []) [.c laws_toStringS_k0,.l laws_toStringS_k1,.e 0,.c laws_toStringS_k2]
  ⟨[(0,.sl (.one .str) v0),(3,.view 3 0 v3n),(4,.int .i64 v4)],[(3,some (.sl (.one .str) r3))]⟩
theorem laws_toStringS_eq (a0 : List (List UInt8)) : laws_toStringS a0 =
 if decide (0 ≤ (a0.length : Int)) && decide ((a0.length : Int) ≤ (a0.length : Int)) && decide ((a0.length : Int).toNat < lim) then
  laws_toStringS_p0 a0 ((List.replicate ((a0.length : Int).toNat) ([] : List UInt8)).length) 0 (List.replicate ((a0.length : Int).toNat) ([] : List UInt8))
 else
  none :=
 (mk_f _ _ _ _ _ _ _ 4000).trans (by kernel_rfl)
theorem laws_toStringS_p0_eq  (v0 : List (List UInt8)) (v3n : Nat) (v4 : Int) (r3 : List (List UInt8)) : laws_toStringS_p0 v0 v3n v4 r3 =
 if decide (v4 < (v0.length : Int)) then
  if decide (0 ≤ v4) then
   (v0[v4.toNat]?).bind fun x1 =>
    if decide (0 ≤ v4) && decide (v4 < (v3n : Int)) then
     (r3[v4.toNat]?).bind fun x2 =>
      laws_toStringS_p0 v0 v3n (IntKind.i64.wrap (v4 + 1)) (r3.set v4.toNat x1)
    else
     none
  else
   none
 else
  some (r3.take v3n) :=
 (goL_dn _ _ _ 4000 _ _).trans (by kernel_rfl)
def laws_markText_k0 : C :=
 .seq (.seq (.reg false [.V 6 (.mv (.t 0)),.V 7 (.bin .gtr (.t 6) (.c (.int .i64 0)))] [0,3,7] []) (.cond (.t 7) .skip (.exit 0))) (.block 1 (.seq (.reg false [.V 8 (.mv (.t 0)),.V 9 (.bin .rem (.t 8) (.c (.int .i64 10))),.V 10 (.bin .add (.c (.int .i64 48)) (.t 9)),.V 11 (.conv (.int .u8) (.t 10)),.V 12 (.bsl 1 (.int .u8 0) 1 [(0,.t 11)]),.V 13 (.conv .bytesStr (.t 12)),.V 14 (.mv (.t 3)),.V 15 (.bin .add (.t 13) (.t 14)),.V 3 (.asg (.t 15))] [0,3] []) (.reg false [.V 16 (.mv (.t 0)),.V 17 (.bin .quo (.t 16) (.c (.int .i64 10))),.V 0 (.asg (.t 17))] [0,3] [])))
def laws_markText_k1 : C :=
 .norm [0,3] [] laws_markText_k0
def laws_markText_k2 : C :=
 .seq (.reg false [.V 18 (.mv (.t 3)),.V 19 (.bin .add (.c (.str [109])) (.t 18)),.V 2 (.asg (.t 19))] [2] []) .ret
def laws_markText_ir : Fn := { np := 1,io := [],res := [.t 2],own := [false],body :=
 (.seq (.reg false [.V 2 (.asg (.c (.str [])))] [0] []) (.seq (.seq (.reg false [.V 4 (.mv (.t 0)),.V 5 (.bin .leq (.t 4) (.c (.int .i64 0)))] [0,5] []) (.cond (.t 5) (.seq (.reg false [.V 2 (.asg (.c (.str [109,48])))] [2] []) .ret) .skip)) (.seq (.reg false [.V 3 (.asg (.c (.str [])))] [0,3] []) (.seq (.block 0 (.loop laws_markText_k1)) laws_markText_k2)))) }
noncomputable def laws_markText_D : List (Nat × Callee) := []
def laws_markText_H : List (Nat × ET) := [(12,(.one (.int .u8)))]
noncomputable def laws_markText_c : Callee := mkCallee laws_markText_D laws_markText_H laws_markText_ir [.d (.one (.int .i64))] [.d (.one .str)] []
noncomputable def laws_markText (a0 : Int) : Option (List UInt8) := laws_markText_c.f (a0,())
noncomputable def laws_markText_p0  (v0 : Int) (v3 : List UInt8) : Option (List UInt8) :=
 goL laws_markText_D laws_markText_H (vleave laws_markText_ir [.d (.one (.int .i64))] [.d (.one .str)] [] []) [.c laws_markText_k0,.l laws_markText_k1,.e 0,.c laws_markText_k2]
  ⟨[(0,.int .i64 v0),(3,.str v3)],[]⟩
theorem laws_markText_eq (a0 : Int) : laws_markText a0 =
 if decide (a0 ≤ 0) then
  some [109,48]
 else
  laws_markText_p0 a0 [] :=
 (mk_f _ _ _ _ _ _ _ 4000).trans (by kernel_rfl)
theorem laws_markText_p0_eq  (v0 : Int) (v3 : List UInt8) : laws_markText_p0 v0 v3 =
 if decide (v0 > 0) then
  if decide (([IntKind.u8.wrap (IntKind.i64.wrap (48 + (v0.tmod 10)))].map vu8).length + v3.length ≤ strMax) then
   laws_markText_p0 (IntKind.i64.wrap (v0.tdiv 10)) (([IntKind.u8.wrap (IntKind.i64.wrap (48 + (v0.tmod 10)))].map vu8) ++ v3)
  else
   none
 else
  if decide ([109].length + v3.length ≤ strMax) then
   some ([109] ++ v3)
  else
   none :=
 (goL_dn _ _ _ 4000 _ _).trans (by kernel_rfl)
def laws_markStringS_k0 : C :=
 .seq (.seq (.reg false [.V 6 (.mv (.t 5)),.V 7 (.mv (.t 0)),.V 8 (.len (.t 7)),.V 9 (.bin .lss (.t 6) (.t 8))] [0,1,5,9] [0]) (.cond (.t 9) .skip (.exit 0))) (.seq (.block 1 (.seq (.reg false [.V 12 (.mv (.t 0)),.V 13 (.mv (.t 5)),.V 14 (.mv (.t 1)),.V 15 (.call (.c (.fn 40 [])) [.t 14]),.V 16 (.ia 1 (.t 12) (.t 13)),⟨none,true,.sto 1 (.t 16) (.t 15),none,false,[]⟩] [0,1,5] [0]) (.reg false [.V 17 (.mv (.t 1)),.V 18 (.bin .add (.t 17) (.c (.int .i64 1))),.V 1 (.asg (.t 18))] [0,1,5] [0]))) (.reg false [.V 10 (.mv (.t 5)),.V 11 (.bin .add (.t 10) (.c (.int .i64 1))),.V 5 (.asg (.t 11))] [0,1,5] [0]))
def laws_markStringS_k1 : C :=
 .norm [0,1,5] [0] laws_markStringS_k0
def laws_markStringS_k2 : C :=
 .seq (.reg false [.V 19 (.mv (.t 1)),.V 4 (.asg (.t 19))] [0,4] [0]) .ret
def laws_markStringS_ir : Fn := { np := 2,io := [true,false],res := [.t 4],own := [false],body :=
 (.seq (.reg false [.V 4 (.asg (.c (.int .i64 0)))] [0,1] [0]) (.seq (.seq (.reg false [.V 5 (.asg (.c (.int .i64 0)))] [0,1,5] [0]) (.block 0 (.loop laws_markStringS_k1))) laws_markStringS_k2)) }
noncomputable def laws_markStringS_D : List (Nat × Callee) := [(40,laws_markText_c)]
def laws_markStringS_H : List (Nat × ET) := [(7,(.one .str)),(12,(.one .str))]
noncomputable def laws_markStringS_c : Callee := mkCallee laws_markStringS_D laws_markStringS_H laws_markStringS_ir [.ios (.one .str),.d (.one (.int .i64))] [.d (.one (.int .i64))] [.ios (.one .str)]
noncomputable def laws_markStringS (a0 : List (List UInt8)) (a1 : Int) : Option (Int × List (List UInt8)) := laws_markStringS_c.f (a0,a1,())
noncomputable def laws_markStringS_p0 (l0 : Nat) (v0n : Nat) (v1 : Int) (v5 : Int) (r0 : List (List UInt8)) : Option (Int × List (List UInt8)) :=
 goL laws_markStringS_D laws_markStringS_H (vleave laws_markStringS_ir [.ios (.one .str),.d (.one (.int .i64))] [.d (.one (.int .i64))] [.ios (.one .str)] [l0]) [.c laws_markStringS_k0,.l laws_markStringS_k1,.e 0,.c laws_markStringS_k2]
  ⟨[(0,.view 0 0 v0n),(1,.int .i64 v1),(5,.int .i64 v5)],[(0,some (.sl (.one .str) r0))]⟩
theorem laws_markStringS_eq (a0 : List (List UInt8)) (a1 : Int) : laws_markStringS a0 a1 =
 laws_markStringS_p0 a0.length a0.length a1 0 a0 :=
 (mk_f _ _ _ _ _ _ _ 4000).trans (by kernel_rfl)
theorem laws_markStringS_p0_eq (l0 : Nat) (v0n : Nat) (v1 : Int) (v5 : Int) (r0 : List (List UInt8)) : laws_markStringS_p0 l0 v0n v1 v5 r0 =
 if decide (v5 < (v0n : Int)) then
  (laws_markText v1).bind fun x1 =>
   if decide (0 ≤ v5) && decide (v5 < (v0n : Int)) then
    (r0[v5.toNat]?).bind fun x2 =>
     laws_markStringS_p0 l0 v0n (IntKind.i64.wrap (v1 + 1)) (IntKind.i64.wrap (v5 + 1)) (r0.set v5.toNat x1)
   else
    none
 else
  if decide (r0.length = l0) then
   some (v1,r0)
  else
   none :=
 (goL_dn _ _ _ 4000 _ _).trans (by kernel_rfl)
def laws_heldStringS_k0 : C :=
 .seq (.seq (.reg false [.V 6 (.mv (.t 5)),.V 7 (.mv (.t 0)),.V 8 (.len (.t 7)),.V 9 (.bin .lss (.t 6) (.t 8))] [0,1,5,9] []) (.cond (.t 9) .skip (.exit 0))) (.seq (.block 1 (.seq (.seq (.reg true [.V 12 (.mv (.t 0)),.V 13 (.mv (.t 5)),.V 14 (.ia 1 (.t 12) (.t 13)),.V 15 (.ld none (.t 14)),.V 16 (.mv (.t 1)),.V 17 (.call (.c (.fn 40 [])) [.t 16]),.V 18 (.bin .neq (.t 15) (.t 17))] [0,1,5,18] []) (.cond (.t 18) (.seq (.reg false [.V 4 (.asg (.c (.int .i64 (-1))))] [4] []) .ret) .skip)) (.reg false [.V 19 (.mv (.t 1)),.V 20 (.bin .add (.t 19) (.c (.int .i64 1))),.V 1 (.asg (.t 20))] [0,1,5] []))) (.reg false [.V 10 (.mv (.t 5)),.V 11 (.bin .add (.t 10) (.c (.int .i64 1))),.V 5 (.asg (.t 11))] [0,1,5] []))
def laws_heldStringS_k1 : C :=
 .norm [0,1,5] [] laws_heldStringS_k0
def laws_heldStringS_k2 : C :=
 .seq (.reg false [.V 21 (.mv (.t 1)),.V 4 (.asg (.t 21))] [4] []) .ret
def laws_heldStringS_ir : Fn := { np := 2,io := [],res := [.t 4],own := [false],body :=
 (.seq (.reg false [.V 4 (.asg (.c (.int .i64 0)))] [0,1] []) (.seq (.seq (.reg false [.V 5 (.asg (.c (.int .i64 0)))] [0,1,5] []) (.block 0 (.loop laws_heldStringS_k1))) laws_heldStringS_k2)) }
noncomputable def laws_heldStringS_D : List (Nat × Callee) := [(40,laws_markText_c)]
def laws_heldStringS_H : List (Nat × ET) := [(7,(.one .str)),(12,(.one .str))]
noncomputable def laws_heldStringS_c : Callee := mkCallee laws_heldStringS_D laws_heldStringS_H laws_heldStringS_ir [.d (.one (.sl (.one .str))),.d (.one (.int .i64))] [.d (.one (.int .i64))] []
noncomputable def laws_heldStringS (a0 : List (List UInt8)) (a1 : Int) : Option (Int) := laws_heldStringS_c.f (a0,a1,())
noncomputable def laws_heldStringS_p0  (v0 : List (List UInt8)) (v1 : Int) (v5 : Int) : Option (Int) :=
 goL laws_heldStringS_D laws_heldStringS_H (vleave laws_heldStringS_ir [.d (.one (.sl (.one .str))),.d (.one (.int .i64))] [.d (.one (.int .i64))] [] []) [.c laws_heldStringS_k0,.l laws_heldStringS_k1,.e 0,.c laws_heldStringS_k2]
  ⟨[(0,.sl (.one .str) v0),(1,.int .i64 v1),(5,.int .i64 v5)],[]⟩
theorem laws_heldStringS_eq (a0 : List (List UInt8)) (a1 : Int) : laws_heldStringS a0 a1 =
 laws_heldStringS_p0 a0 a1 0 :=
 (mk_f _ _ _ _ _ _ _ 4000).trans (by kernel_rfl)
theorem laws_heldStringS_p0_eq  (v0 : List (List UInt8)) (v1 : Int) (v5 : Int) : laws_heldStringS_p0 v0 v1 v5 =
 if decide (v5 < (v0.length : Int)) then
  if decide (0 ≤ v5) then
   (v0[v5.toNat]?).bind fun x1 =>
    (laws_markText v1).bind fun x2 =>
     if (!(x1 == x2)) then
      some (-1)
     else
      laws_heldStringS_p0 v0 (IntKind.i64.wrap (v1 + 1)) (IntKind.i64.wrap (v5 + 1))
  else
   none
 else
  some v1 :=
 (goL_dn _ _ _ 4000 _ _).trans (by kernel_rfl)
noncomputable def laws_FnExactTableLines_F : RowsF := { sz := laws_szStringSS,sp := spec_TableLines,im := impl_TableLines,ep := laws_eqStringS,es := laws_eqStringSS,tI := laws_toStringS,mp := laws_markStringS,hp := laws_heldStringS }
noncomputable def laws_FnExactTableLines_c : Callee := lawC rowsE laws_FnExactTableLines_F.Cond
end Go.Ab.P
