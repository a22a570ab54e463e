/- Functions of the program: abstract forms, and what their runs give. Conditions: none. -/
import Derived.Test.YtljcekgbidbkbaaLF
set_option maxRecDepth 100000
set_option linter.unusedVariables false
namespace Go.Ab.P
open Go.Ab
@[reducible] def T_l00Src : ET := .agg (.cons (.sl (.one (.int .u8))) (.cons (.int .i64) (.cons (.int .u64) .nil)))
def laws_b10Long_ir : Fn := { np := 1,io := [],res := [.t 2],own := [false],body :=
 (.seq (.reg false [.V 2 (.asg (.c (.bool false)))] [0] []) (.seq (.reg false [.V 3 (.mv (.t 0)),.V 4 (.len (.t 3)),.V 5 (.bin .gtr (.t 4) (.c (.int .i64 1048576))),.V 2 (.asg (.t 5))] [2] []) .ret)) }
noncomputable def laws_b10Long_D : List (Nat × Callee) := []
def laws_b10Long_H : List (Nat × ET) := [(3,(.one (.int .u8)))]
noncomputable def laws_b10Long_c : Callee := mkCallee laws_b10Long_D laws_b10Long_H laws_b10Long_ir [.d (.one (.sl (.one (.int .u8))))] [.d (.one .bool)] []
noncomputable def laws_b10Long (a0 : List Int) : Option (Bool) := laws_b10Long_c.f (a0,())
theorem laws_b10Long_eq (a0 : List Int) : laws_b10Long a0 =
 some (decide ((a0.length : Int) > 1048576)) :=
 (mk_f _ _ _ _ _ _ _ 4000).trans (by kernel_rfl)
def spec_l00From_ir : Fn := { np := 1,io := [],res := [.t 2],own := [true],body :=
 (.seq (.reg false [.V 2 (.asg (.c (.cst (.pointer none))))] [0] []) (.seq (.reg false [.V 3 (.mv (.t 0)),.V 4 (.build [.nils 1,.int .i64 0,.int .u64 0] [(0,1,.t 3)]),.W 5 (.box 3 (.t 4)),.V 2 (.asg (.t 5))] [2] [5,6000]) .ret)) }
noncomputable def spec_l00From_D : List (Nat × Callee) := []
def spec_l00From_H : List (Nat × ET) := [(3,(.one (.int .u8)))]
noncomputable def spec_l00From_c : Callee := mkCallee spec_l00From_D spec_l00From_H spec_l00From_ir [.d (.one (.sl (.one (.int .u8))))] [.box T_l00Src] []
noncomputable def spec_l00From (a0 : List Int) : Option (T_l00Src.ty) := spec_l00From_c.f (a0,())
theorem spec_l00From_eq (a0 : List Int) : spec_l00From a0 =
 some (a0,0,0,()) :=
 (mk_f _ _ _ _ _ _ _ 4000).trans (by kernel_rfl)
def spec_l00Src_next_k0 : C :=
 .seq (.reg false [.V 25 (.mv (.t 0)),.V 26 (.nilck (.t 25)),.V 27 (.fa 1 (.t 26)),.V 28 (.ld none (.t 27)),.V 29 (.bin .add (.t 28) (.c (.int .i64 1))),.V 30 (.nilck (.t 25)),.V 31 (.fa 1 (.t 30)),⟨none,true,.sto 1 (.t 31) (.t 29),none,false,[]⟩] [0,3] [0,1000]) (.seq (.reg false [.V 32 (.mv (.t 0)),.V 33 (.mv (.t 0)),.V 34 (.nilck (.t 33)),.V 35 (.fa 2 (.t 34)),.V 36 (.ld none (.t 35)),.V 37 (.bin .mul (.t 36) (.c (.int .u64 6364136223846793005))),.V 38 (.mv (.t 3)),.V 39 (.conv (.int .u64) (.t 38)),.V 40 (.bin .add (.t 37) (.t 39)),.V 41 (.bin .add (.t 40) (.c (.int .u64 1442695040888963407))),.V 42 (.nilck (.t 32)),.V 43 (.fa 2 (.t 42)),⟨none,true,.sto 1 (.t 43) (.t 41),none,false,[]⟩] [0,3] [0,1000]) (.seq (.seq (.reg true [.V 44 (.mv (.t 0)),.V 45 (.nilck (.t 44)),.V 46 (.fa 1 (.t 45)),.V 47 (.ld none (.t 46)),.V 48 (.mv (.t 0)),.V 49 (.nilck (.t 48)),.V 50 (.fa 0 (.t 49)),.V 51 (.ld none (.t 50)),.V 52 (.len (.t 51)),.V 53 (.bin .leq (.t 47) (.t 52))] [0,3,53] [0,1000]) (.cond (.t 53) (.seq (.reg false [.V 54 (.mv (.t 3)),.V 2 (.asg (.t 54))] [0,2] [0,1000]) .ret) .skip)) (.seq (.reg false [.V 55 (.mv (.t 0)),.V 56 (.nilck (.t 55)),.V 57 (.fa 2 (.t 56)),.V 58 (.ld none (.t 57)),.V 59 (.bin .shr (.t 58) (.c (.int .u64 40))),.V 60 (.bin .and (.t 59) (.c (.int .u64 255))),.V 61 (.conv (.int .i64) (.t 60)),.V 2 (.asg (.t 61))] [0,2] [0,1000]) .ret)))
def spec_l00Src_next_ir : Fn := { np := 1,io := [true],res := [.t 2],own := [false],body :=
 (.seq (.reg false [.V 2 (.asg (.c (.int .i64 0)))] [0] [0,1000]) (.seq (.reg false [.V 3 (.asg (.c (.int .i64 0)))] [0,3] [0,1000]) (.seq (.seq (.reg true [.V 4 (.mv (.t 0)),.V 5 (.nilck (.t 4)),.V 6 (.fa 1 (.t 5)),.V 7 (.ld none (.t 6)),.V 8 (.mv (.t 0)),.V 9 (.nilck (.t 8)),.V 10 (.fa 0 (.t 9)),.V 11 (.ld none (.t 10)),.V 12 (.len (.t 11)),.V 13 (.bin .lss (.t 7) (.t 12))] [0,3,13] [0,1000]) (.cond (.t 13) (.reg true [.V 14 (.mv (.t 0)),.V 15 (.nilck (.t 14)),.V 16 (.fa 0 (.t 15)),.V 17 (.ld none (.t 16)),.V 18 (.mv (.t 0)),.V 19 (.nilck (.t 18)),.V 20 (.fa 1 (.t 19)),.V 21 (.ld none (.t 20)),.V 22 (.ia 1 (.t 17) (.t 21)),.V 23 (.ld none (.t 22)),.V 24 (.conv (.int .i64) (.t 23)),.V 3 (.asg (.t 24))] [0,3] [0,1000]) .skip)) (.norm [0,3] [0,1000] spec_l00Src_next_k0)))) }
noncomputable def spec_l00Src_next_D : List (Nat × Callee) := []
def spec_l00Src_next_H : List (Nat × ET) := [(11,(.one (.int .u8))),(17,(.one (.int .u8))),(51,(.one (.int .u8)))]
noncomputable def spec_l00Src_next_c : Callee := mkCallee spec_l00Src_next_D spec_l00Src_next_H spec_l00Src_next_ir [.box T_l00Src] [.d (.one (.int .i64))] [.box T_l00Src]
noncomputable def spec_l00Src_next (a0 : T_l00Src.ty) : Option (Int × T_l00Src.ty) := spec_l00Src_next_c.f (a0,())
noncomputable def spec_l00Src_next_p0  (v3 : Int) (r0_0 : List Int) (r0_1 : Int) (r0_2 : Int) : Option (Int × T_l00Src.ty) :=
 goL spec_l00Src_next_D spec_l00Src_next_H (vleave spec_l00Src_next_ir [.box T_l00Src] [.d (.one (.int .i64))] [.box T_l00Src] []) [.c spec_l00Src_next_k0]
  ⟨[(0,.loc 0 0 0),(3,.int .i64 v3)],[(0,some (.var 3 (.agg [.sl (.one (.int .u8)) r0_0,.int .i64 r0_1,.int .u64 r0_2]))),(1000,none)]⟩
theorem spec_l00Src_next_eq (a0 : T_l00Src.ty) : spec_l00Src_next a0 =
 if decide (a0.2.1 < (a0.1.length : Int)) then
  if decide (0 ≤ a0.2.1) then
   (a0.1[a0.2.1.toNat]?).bind fun x1 =>
    spec_l00Src_next_p0 (IntKind.i64.wrap x1) a0.1 a0.2.1 a0.2.2.1
  else
   none
 else
  spec_l00Src_next_p0 0 a0.1 a0.2.1 a0.2.2.1 :=
 (mk_f _ _ _ _ _ _ _ 4000).trans (by kernel_rfl)
theorem spec_l00Src_next_p0_eq  (v3 : Int) (r0_0 : List Int) (r0_1 : Int) (r0_2 : Int) : spec_l00Src_next_p0 v3 r0_0 r0_1 r0_2 =
 if decide (IntKind.i64.wrap (r0_1 + 1) ≤ (r0_0.length : Int)) then
  some (v3,(r0_0,IntKind.i64.wrap (r0_1 + 1),IntKind.u64.wrap ((IntKind.u64.wrap ((IntKind.u64.wrap (r0_2 * 6364136223846793005)) + (IntKind.u64.wrap v3))) + 1442695040888963407),()))
 else
  some (IntKind.i64.wrap (IntKind.u64.wrap ((BitVec.ofInt IntKind.u64.bits (Int.fdiv (IntKind.u64.wrap ((IntKind.u64.wrap ((IntKind.u64.wrap (r0_2 * 6364136223846793005)) + (IntKind.u64.wrap v3))) + 1442695040888963407)) (2 ^ (min (40 : Int).toNat IntKind.u64.bits))) &&& BitVec.ofInt IntKind.u64.bits 255).toNat : Int)),(r0_0,IntKind.i64.wrap (r0_1 + 1),IntKind.u64.wrap ((IntKind.u64.wrap ((IntKind.u64.wrap (r0_2 * 6364136223846793005)) + (IntKind.u64.wrap v3))) + 1442695040888963407),())) :=
 (goL_dn _ _ _ 4000 _ _).trans (by kernel_rfl)
def spec_l00Src_pick_ir : Fn := { np := 2,io := [true,false],res := [.t 4],own := [false],body :=
 (.seq (.reg false [.V 4 (.asg (.c (.int .i64 0)))] [0,1] [0,1000]) (.seq (.seq (.reg false [.V 6 (.mv (.t 1)),.V 7 (.bin .leq (.t 6) (.c (.int .i64 1)))] [0,1,7] [0,1000]) (.cond (.t 7) (.seq (.reg false [.V 4 (.asg (.c (.int .i64 0)))] [0,4] [0,1000]) .ret) .skip)) (.seq (.reg false [.V 8 (.mv (.t 0)),.W 9 (.call (.c (.fn 847 [])) [.t 8]),.V 5 (.asg (.t 9))] [0,1,5] [0,1000]) (.seq (.seq (.reg false [.V 10 (.mv (.t 1)),.V 11 (.bin .gtr (.t 10) (.c (.int .i64 200)))] [0,1,5,11] [0,1000]) (.cond (.t 11) (.reg false [.V 12 (.mv (.t 5)),.V 13 (.bin .mul (.t 12) (.c (.int .i64 256))),.V 14 (.mv (.t 0)),.W 15 (.call (.c (.fn 847 [])) [.t 14]),.V 16 (.bin .add (.t 13) (.t 15)),.V 5 (.asg (.t 16))] [0,1,5] [0,1000]) .skip)) (.seq (.reg false [.V 17 (.mv (.t 5)),.V 18 (.mv (.t 1)),.V 19 (.bin .rem (.t 17) (.t 18)),.V 4 (.asg (.t 19))] [0,4] [0,1000]) .ret))))) }
noncomputable def spec_l00Src_pick_D : List (Nat × Callee) := [(847,spec_l00Src_next_c)]
def spec_l00Src_pick_H : List (Nat × ET) := []
noncomputable def spec_l00Src_pick_c : Callee := mkCallee spec_l00Src_pick_D spec_l00Src_pick_H spec_l00Src_pick_ir [.box T_l00Src,.d (.one (.int .i64))] [.d (.one (.int .i64))] [.box T_l00Src]
noncomputable def spec_l00Src_pick (a0 : T_l00Src.ty) (a1 : Int) : Option (Int × T_l00Src.ty) := spec_l00Src_pick_c.f (a0,a1,())
theorem spec_l00Src_pick_eq (a0 : T_l00Src.ty) (a1 : Int) : spec_l00Src_pick a0 a1 =
 if decide (a1 ≤ 1) then
  some (0,a0)
 else
  (spec_l00Src_next a0).bind fun x1 =>
   if decide (a1 > 200) then
    (spec_l00Src_next (x1.2.1,x1.2.2.1,x1.2.2.2.1,())).bind fun x2 =>
     if decide (a1 = 0) then
      none
     else
      some ((IntKind.i64.wrap ((IntKind.i64.wrap (x1.1 * 256)) + x2.1)).tmod a1,(x2.2.1,x2.2.2.1,x2.2.2.2.1,()))
   else
    if decide (a1 = 0) then
     none
    else
     some (x1.1.tmod a1,(x1.2.1,x1.2.2.1,x1.2.2.2.1,())) :=
 (mk_f _ _ _ _ _ _ _ 4000).trans (by kernel_rfl)
def spec_l00Src_text_ir : Fn := { np := 2,io := [true,false],res := [.t 4],own := [false],body :=
 (.seq (.reg false [.V 4 (.asg (.c (.str [])))] [0,1] [0,1000]) (.seq (.reg false [.V 5 (.mv (.t 1)),.V 6 (.mv (.t 0)),.V 7 (.mv (.t 1)),.V 8 (.len (.t 7)),.W 9 (.call (.c (.fn 463 [])) [.t 6,.t 8]),.V 10 (.ia 1 (.t 5) (.t 9)),.V 11 (.ld none (.t 10)),.V 4 (.asg (.t 11))] [0,4] [0,1000]) .ret)) }
noncomputable def spec_l00Src_text_D : List (Nat × Callee) := [(463,spec_l00Src_pick_c)]
def spec_l00Src_text_H : List (Nat × ET) := [(5,(.one .str)),(7,(.one .str))]
noncomputable def spec_l00Src_text_c : Callee := mkCallee spec_l00Src_text_D spec_l00Src_text_H spec_l00Src_text_ir [.box T_l00Src,.d (.one (.sl (.one .str)))] [.d (.one .str)] [.box T_l00Src]
noncomputable def spec_l00Src_text (a0 : T_l00Src.ty) (a1 : List (List UInt8)) : Option (List UInt8 × T_l00Src.ty) := spec_l00Src_text_c.f (a0,a1,())
theorem spec_l00Src_text_eq (a0 : T_l00Src.ty) (a1 : List (List UInt8)) : spec_l00Src_text a0 a1 =
 (spec_l00Src_pick a0 (a1.length : Int)).bind fun x1 =>
  if decide (0 ≤ x1.1) then
   (a1[x1.1.toNat]?).bind fun x2 =>
    some (x2,(x1.2.1,x1.2.2.1,x1.2.2.2.1,()))
  else
   none :=
 (mk_f _ _ _ _ _ _ _ 4000).trans (by kernel_rfl)
def spec_l30DrawWord_ir : Fn := { np := 1,io := [true],res := [.t 2],own := [false],body :=
 (.seq (.reg false [.V 2 (.asg (.c (.str [])))] [0] [0,1000]) (.seq (.reg false [.V 3 (.mv (.t 0)),.V 4 (.bsl 1 (.str []) 8 [(0,.c (.str [97])),(1,.c (.str [99,99,99])),(2,.c (.str [49,50])),(3,.c (.str [45,53])),(4,.c (.str [119,111,111,100])),(5,.c (.str [])),(6,.c (.str [120,44,121])),(7,.c (.str [126]))]),.W 5 (.call (.c (.fn 557 [])) [.t 3,.t 4]),.V 2 (.asg (.t 5))] [0,2] [0,1000]) .ret)) }
noncomputable def spec_l30DrawWord_D : List (Nat × Callee) := [(557,spec_l00Src_text_c)]
def spec_l30DrawWord_H : List (Nat × ET) := [(4,(.one .str))]
noncomputable def spec_l30DrawWord_c : Callee := mkCallee spec_l30DrawWord_D spec_l30DrawWord_H spec_l30DrawWord_ir [.box T_l00Src] [.d (.one .str)] [.box T_l00Src]
noncomputable def spec_l30DrawWord (a0 : T_l00Src.ty) : Option (List UInt8 × T_l00Src.ty) := spec_l30DrawWord_c.f (a0,())
theorem spec_l30DrawWord_eq (a0 : T_l00Src.ty) : spec_l30DrawWord a0 =
 (spec_l00Src_text a0 [[97],[99,99,99],[49,50],[45,53],[119,111,111,100],[],[120,44,121],[126]]).bind fun x1 =>
  some (x1.1,(x1.2.1,x1.2.2.1,x1.2.2.2.1,())) :=
 (mk_f _ _ _ _ _ _ _ 4000).trans (by kernel_rfl)
def spec_l00Src_among_ir : Fn := { np := 2,io := [true,false],res := [.t 4],own := [false],body :=
 (.seq (.reg false [.V 4 (.asg (.c (.int .i64 0)))] [0,1] [0,1000]) (.seq (.reg false [.V 5 (.mv (.t 1)),.V 6 (.mv (.t 0)),.V 7 (.mv (.t 1)),.V 8 (.len (.t 7)),.W 9 (.call (.c (.fn 463 [])) [.t 6,.t 8]),.V 10 (.ia 1 (.t 5) (.t 9)),.V 11 (.ld none (.t 10)),.V 4 (.asg (.t 11))] [0,4] [0,1000]) .ret)) }
noncomputable def spec_l00Src_among_D : List (Nat × Callee) := [(463,spec_l00Src_pick_c)]
def spec_l00Src_among_H : List (Nat × ET) := [(5,(.one (.int .i64))),(7,(.one (.int .i64)))]
noncomputable def spec_l00Src_among_c : Callee := mkCallee spec_l00Src_among_D spec_l00Src_among_H spec_l00Src_among_ir [.box T_l00Src,.d (.one (.sl (.one (.int .i64))))] [.d (.one (.int .i64))] [.box T_l00Src]
noncomputable def spec_l00Src_among (a0 : T_l00Src.ty) (a1 : List Int) : Option (Int × T_l00Src.ty) := spec_l00Src_among_c.f (a0,a1,())
theorem spec_l00Src_among_eq (a0 : T_l00Src.ty) (a1 : List Int) : spec_l00Src_among a0 a1 =
 (spec_l00Src_pick a0 (a1.length : Int)).bind fun x1 =>
  if decide (0 ≤ x1.1) then
   (a1[x1.1.toNat]?).bind fun x2 =>
    some (x2,(x1.2.1,x1.2.2.1,x1.2.2.2.1,()))
  else
   none :=
 (mk_f _ _ _ _ _ _ _ 4000).trans (by kernel_rfl)
def spec_l30Draw_k0 : C :=
 .seq (.seq (.reg false [.V 11 (.mv (.t 4)),.V 12 (.bin .gtr (.t 11) (.c (.int .i64 0)))] [0,3,4,12] [0,3,1000]) (.cond (.t 12) .skip (.exit 0))) (.seq (.block 1 (.seq (.reg false [.V 15 (.mv (.t 0)),.W 16 (.call (.c (.fn 870 [])) [.t 15]),.V 5 (.asg (.t 16))] [0,3,4,5] [0,3,1000]) (.seq (.reg false [.V 17 (.mv (.t 5)),.V 18 (.mv (.t 0)),.V 19 (.bsl 1 (.str []) 3 [(0,.c (.str [])),(1,.c (.str [32])),(2,.c (.str [32,32]))]),.W 20 (.call (.c (.fn 557 [])) [.t 18,.t 19]),.V 21 (.bin .add (.t 17) (.t 20)),.V 5 (.asg (.t 21))] [0,3,4,5] [0,3,1000]) (.reg false [.V 22 (.mv (.t 3)),.V 23 (.mv (.t 5)),.V 24 (.mv (.t 0)),.W 25 (.call (.c (.fn 870 [])) [.t 24]),.V 26 (.bin .add (.t 23) (.t 25)),.V 27 (.bsl 1 (.str []) 1 [(0,.t 26)]),.W 28 (.app 1 16 (.t 22) (.t 27)),.W 3 (.asg (.t 28))] [0,3,4] [0,3,1000])))) (.reg false [.V 13 (.mv (.t 4)),.V 14 (.bin .sub (.t 13) (.c (.int .i64 1))),.V 4 (.asg (.t 14))] [0,3,4] [0,3,1000]))
def spec_l30Draw_k1 : C :=
 .norm [0,3,4] [0,3,1000] spec_l30Draw_k0
def spec_l30Draw_k2 : C :=
 .seq (.seq (.reg false [.V 50 (.mv (.t 7)),.V 51 (.lens (.t 50)),.V 52 (.mv (.t 6)),.V 53 (.bin .lss (.t 51) (.t 52))] [0,3,6,7,53] [0,3,1000]) (.cond (.t 53) .skip (.exit 3))) (.block 4 (.reg false [.V 54 (.mv (.t 7)),.V 55 (.bin .add (.t 54) (.c (.str [121]))),.V 7 (.asg (.t 55))] [0,3,6,7] [0,3,1000]))
def spec_l30Draw_k3 : C :=
 .norm [0,3,6,7] [0,3,1000] spec_l30Draw_k2
def spec_l30Draw_k4 : C :=
 .reg false [.V 56 (.mv (.t 3)),.V 57 (.mv (.t 7)),.V 58 (.bsl 1 (.str []) 1 [(0,.t 57)]),.W 59 (.app 1 16 (.t 56) (.t 58)),.W 3 (.asg (.t 59))] [0,3] [0,3,1000]
def spec_l30Draw_k5 : C :=
 .seq (.reg false [.V 60 (.mv (.t 3)),.W 2 (.asg (.t 60))] [0,2] [0,2,3,1000]) .ret
def spec_l30Draw_k6 : C :=
 .seq (.seq (.reg false [.V 29 (.mv (.t 0)),.W 30 (.call (.c (.fn 463 [])) [.t 29,.c (.int .i64 20)])] [0,3,30] [0,3,1000]) (.block 2 (.seq (.reg false [.V 32 (.bin .eql (.t 30) (.c (.int .i64 0))),.V 31 (.asg (.t 32))] [0,3,30,31] [0,3,1000]) (.cond (.t 31) (.reg false [.V 33 (.mv (.t 3)),.V 34 (.mv (.t 0)),.V 35 (.bsl 1 (.str []) 3 [(0,.c (.str [10])),(1,.c (.str [97,127])),(2,.c (.str [9]))]),.W 36 (.call (.c (.fn 557 [])) [.t 34,.t 35]),.V 37 (.bsl 1 (.str []) 1 [(0,.t 36)]),.W 38 (.app 1 16 (.t 33) (.t 37)),.W 3 (.asg (.t 38))] [0,3] [0,3,1000]) (.seq (.reg false [.V 40 (.bin .eql (.t 30) (.c (.int .i64 1))),.V 39 (.asg (.t 40))] [0,3,30,39] [0,3,1000]) (.cond (.t 39) (.reg false [.V 41 (.mv (.t 0)),.V 42 (.bsl 1 (.int .i64 0) 2 [(0,.c (.int .i64 200)),(1,.c (.int .i64 201))]),.W 43 (.call (.c (.fn 445 [])) [.t 41,.t 42]),.V 44 (.mks 1 16 (.str []) (.t 43) (.t 43)),.W 3 (.asg (.t 44))] [0,3] [0,3,1000]) (.seq (.reg false [.V 46 (.bin .eql (.t 30) (.c (.int .i64 2))),.V 45 (.asg (.t 46))] [0,3,45] [0,3,1000]) (.cond (.t 45) (.seq (.reg false [.V 47 (.mv (.t 0)),.V 48 (.bsl 1 (.int .i64 0) 2 [(0,.c (.int .i64 100)),(1,.c (.int .i64 101))]),.W 49 (.call (.c (.fn 445 [])) [.t 47,.t 48]),.V 6 (.asg (.t 49))] [0,3,6] [0,3,1000]) (.seq (.reg false [.V 7 (.asg (.c (.str [])))] [0,3,6,7] [0,3,1000]) (.seq (.block 3 (.loop spec_l30Draw_k3)) spec_l30Draw_k4))) .skip)))))))) spec_l30Draw_k5
def spec_l30Draw_ir : Fn := { np := 1,io := [true],res := [.t 2],own := [true],body :=
 (.seq (.reg false [.W 2 (.asg (.c (.nils 1)))] [0] [0,1000]) (.seq (.reg false [.V 8 (.bsl 1 (.str []) 0 []),.W 3 (.asg (.t 8))] [0,3] [0,3,1000]) (.seq (.seq (.reg false [.V 9 (.mv (.t 0)),.W 10 (.call (.c (.fn 463 [])) [.t 9,.c (.int .i64 8)]),.V 4 (.asg (.t 10))] [0,3,4] [0,3,1000]) (.block 0 (.loop spec_l30Draw_k1))) spec_l30Draw_k6))) }
noncomputable def spec_l30Draw_D : List (Nat × Callee) := [(445,spec_l00Src_among_c),(463,spec_l00Src_pick_c),(557,spec_l00Src_text_c),(870,spec_l30DrawWord_c)]
def spec_l30Draw_H : List (Nat × ET) := [(2,(.one .str)),(3,(.one .str)),(8,(.one .str)),(19,(.one .str)),(22,(.one .str)),(27,(.one .str)),(28,(.one .str)),(33,(.one .str)),(35,(.one .str)),(37,(.one .str)),(38,(.one .str)),(42,(.one (.int .i64))),(44,(.one .str)),(48,(.one (.int .i64))),(56,(.one .str)),(58,(.one .str)),(59,(.one .str)),(60,(.one .str))]
noncomputable def spec_l30Draw_c : Callee := mkCallee spec_l30Draw_D spec_l30Draw_H spec_l30Draw_ir [.box T_l00Src] [.tok (.one .str)] [.box T_l00Src]
noncomputable def spec_l30Draw (a0 : T_l00Src.ty) : Option (List (List UInt8) × T_l00Src.ty) := spec_l30Draw_c.f (a0,())
noncomputable def spec_l30Draw_p0  (v4 : Int) (r0_0 : List Int) (r0_1 : Int) (r0_2 : Int) (r3 : List (List UInt8)) : Option (List (List UInt8) × T_l00Src.ty) :=
 goL spec_l30Draw_D spec_l30Draw_H (vleave spec_l30Draw_ir [.box T_l00Src] [.tok (.one .str)] [.box T_l00Src] []) [.c spec_l30Draw_k0,.l spec_l30Draw_k1,.e 0,.c spec_l30Draw_k6]
  ⟨[(0,.loc 0 0 0),(3,.view 3 0 r3.length),(4,.int .i64 v4)],[(0,some (.var 3 (.agg [.sl (.one (.int .u8)) r0_0,.int .i64 r0_1,.int .u64 r0_2]))),(3,some (.sl (.one .str) r3)),(1000,none)]⟩
noncomputable def spec_l30Draw_p1  (v6 : Int) (v7 : List UInt8) (r0_0 : List Int) (r0_1 : Int) (r0_2 : Int) (r3 : List (List UInt8)) : Option (List (List UInt8) × T_l00Src.ty) :=
 goL spec_l30Draw_D spec_l30Draw_H (vleave spec_l30Draw_ir [.box T_l00Src] [.tok (.one .str)] [.box T_l00Src] []) [.c spec_l30Draw_k2,.l spec_l30Draw_k3,.e 3,.c spec_l30Draw_k4,.e 2,.c spec_l30Draw_k5]
  ⟨[(0,.loc 0 0 0),(3,.view 3 0 r3.length),(6,.int .i64 v6),(7,.str v7)],[(0,some (.var 3 (.agg [.sl (.one (.int .u8)) r0_0,.int .i64 r0_1,.int .u64 r0_2]))),(3,some (.sl (.one .str) r3)),(1000,none)]⟩
theorem spec_l30Draw_eq (a0 : T_l00Src.ty) : spec_l30Draw a0 =
 (spec_l00Src_pick a0 8).bind fun x1 =>
  spec_l30Draw_p0 x1.1 x1.2.1 x1.2.2.1 x1.2.2.2.1 [] :=
 (mk_f _ _ _ _ _ _ _ 4000).trans (by kernel_rfl)
theorem spec_l30Draw_p0_eq  (v4 : Int) (r0_0 : List Int) (r0_1 : Int) (r0_2 : Int) (r3 : List (List UInt8)) : spec_l30Draw_p0 v4 r0_0 r0_1 r0_2 r3 =
 if decide (v4 > 0) then
  (spec_l30DrawWord (r0_0,r0_1,r0_2,())).bind fun x1 =>
   (spec_l00Src_text (x1.2.1,x1.2.2.1,x1.2.2.2.1,()) [[],[32],[32,32]]).bind fun x2 =>
    if decide (x1.1.length + x2.1.length ≤ strMax) then
     (spec_l30DrawWord (x2.2.1,x2.2.2.1,x2.2.2.2.1,())).bind fun x3 =>
      if decide ((x1.1 ++ x2.1).length + x3.1.length ≤ strMax) then
       if decide (r3.length + 1 < lim) then
        spec_l30Draw_p0 (IntKind.i64.wrap (v4 - 1)) x3.2.1 x3.2.2.1 x3.2.2.2.1 ((r3.take r3.length) ++ [(x1.1 ++ x2.1) ++ x3.1])
       else
        none
      else
       none
    else
     none
 else
  (spec_l00Src_pick (r0_0,r0_1,r0_2,()) 20).bind fun x4 =>
   if (x4.1 == 0) then
    (spec_l00Src_text (x4.2.1,x4.2.2.1,x4.2.2.2.1,()) [[10],[97,127],[9]]).bind fun x5 =>
     if decide (r3.length + 1 < lim) then
      some ((((r3.take r3.length) ++ [x5.1]).take (((r3.take r3.length) ++ [x5.1]).length)),(x5.2.1,x5.2.2.1,x5.2.2.2.1,()))
     else
      none
   else
    if (x4.1 == 1) then
     (spec_l00Src_among (x4.2.1,x4.2.2.1,x4.2.2.2.1,()) [200,201]).bind fun x6 =>
      if decide (0 ≤ x6.1) && decide (x6.1 ≤ x6.1) && decide (x6.1.toNat < lim) then
       some (((List.replicate x6.1.toNat ([] : List UInt8)).take ((List.replicate x6.1.toNat ([] : List UInt8)).length)),(x6.2.1,x6.2.2.1,x6.2.2.2.1,()))
      else
       none
    else
     if (x4.1 == 2) then
      (spec_l00Src_among (x4.2.1,x4.2.2.1,x4.2.2.2.1,()) [100,101]).bind fun x7 =>
       spec_l30Draw_p1 x7.1 [] x7.2.1 x7.2.2.1 x7.2.2.2.1 r3
     else
      some ((r3.take r3.length),(x4.2.1,x4.2.2.1,x4.2.2.2.1,())) :=
 (goL_dn _ _ _ 4000 _ _).trans (by kernel_rfl)
theorem spec_l30Draw_p1_eq  (v6 : Int) (v7 : List UInt8) (r0_0 : List Int) (r0_1 : Int) (r0_2 : Int) (r3 : List (List UInt8)) : spec_l30Draw_p1 v6 v7 r0_0 r0_1 r0_2 r3 =
 if decide ((v7.length : Int) < v6) then
  if decide (v7.length + [121].length ≤ strMax) then
   spec_l30Draw_p1 v6 (v7 ++ [121]) r0_0 r0_1 r0_2 r3
  else
   none
 else
  if decide (r3.length + 1 < lim) then
   some ((((r3.take r3.length) ++ [v7]).take (((r3.take r3.length) ++ [v7]).length)),(r0_0,r0_1,r0_2,()))
  else
   none :=
 (goL_dn _ _ _ 4000 _ _).trans (by kernel_rfl)
def spec_DrawPagesOf_ir : Fn := { np := 1,io := [],res := [.t 2,.t 3,.t 4],own := [true,false,false],body :=
 (.seq (.reg false [.W 2 (.asg (.c (.nils 1))),.V 3 (.asg (.c (.int .i64 0))),.V 4 (.asg (.c (.str [])))] [0] []) (.seq (.reg false [.V 8 (.mv (.t 0)),.W 9 (.call (.c (.fn 441 [])) [.t 8]),.V 5 (.asg (.t 9))] [5] [9,10000]) (.seq (.reg false [.V 10 (.mv (.t 5)),.W 11 (.call (.c (.fn 564 [])) [.t 10]),.W 6 (.asg (.t 11))] [5,6] [6,9,10000]) (.seq (.reg false [.V 12 (.mv (.t 5)),.V 13 (.bsl 1 (.int .i64 0) 6 [(0,.c (.int .i64 2)),(1,.c (.int .i64 3)),(2,.c (.int .i64 5)),(3,.c (.int .i64 200)),(4,.c (.int .i64 201)),(5,.c (.int .i64 1))]),.W 14 (.call (.c (.fn 445 [])) [.t 12,.t 13]),.V 7 (.asg (.t 14))] [5,6,7] [6,9,10000]) (.seq (.reg false [.V 15 (.mv (.t 6)),.V 16 (.mv (.t 7)),.V 17 (.mv (.t 5)),.V 18 (.bsl 1 (.str []) 4 [(0,.c (.str [104,101,97,100])),(1,.c (.str [])),(2,.c (.str [10])),(3,.c (.str [80,97,103,101]))]),.W 19 (.call (.c (.fn 557 [])) [.t 17,.t 18]),.W 2 (.asg (.t 15)),.V 3 (.asg (.t 16)),.V 4 (.asg (.t 19))] [2,3,4] [2,6]) .ret))))) }
noncomputable def spec_DrawPagesOf_D : List (Nat × Callee) := [(441,spec_l00From_c),(445,spec_l00Src_among_c),(557,spec_l00Src_text_c),(564,spec_l30Draw_c)]
def spec_DrawPagesOf_H : List (Nat × ET) := [(2,(.one .str)),(6,(.one .str)),(8,(.one (.int .u8))),(11,(.one .str)),(13,(.one (.int .i64))),(15,(.one .str)),(18,(.one .str))]
noncomputable def spec_DrawPagesOf_c : Callee := mkCallee spec_DrawPagesOf_D spec_DrawPagesOf_H spec_DrawPagesOf_ir [.d (.one (.sl (.one (.int .u8))))] [.tok (.one .str),.d (.one (.int .i64)),.d (.one .str)] []
noncomputable def spec_DrawPagesOf (a0 : List Int) : Option (List (List UInt8) × Int × List UInt8) := spec_DrawPagesOf_c.f (a0,())
theorem spec_DrawPagesOf_eq (a0 : List Int) : spec_DrawPagesOf a0 =
 (spec_l00From a0).bind fun x1 =>
  (spec_l30Draw x1).bind fun x2 =>
   (spec_l00Src_among (x2.2.1,x2.2.2.1,x2.2.2.2.1,()) [2,3,5,200,201,1]).bind fun x3 =>
    (spec_l00Src_text (x3.2.1,x3.2.2.1,x3.2.2.2.1,()) [[104,101,97,100],[],[10],[80,97,103,101]]).bind fun x4 =>
     some ((x2.1.take x2.1.length),x3.1,x4.1) :=
 (mk_f _ _ _ _ _ _ _ 4000).trans (by kernel_rfl)
def impl_few_ir : Fn := { np := 2,io := [],res := [.t 4],own := [false],body :=
 (.seq (.reg false [.V 4 (.asg (.c (.bool false)))] [0,1] []) (.seq (.reg false [.V 5 (.mv (.t 0)),.V 6 (.mv (.t 1)),.V 7 (.bin .leq (.t 5) (.t 6)),.V 4 (.asg (.t 7))] [4] []) .ret)) }
noncomputable def impl_few_D : List (Nat × Callee) := []
def impl_few_H : List (Nat × ET) := []
noncomputable def impl_few_c : Callee := mkCallee impl_few_D impl_few_H impl_few_ir [.d (.one (.int .i64)),.d (.one (.int .i64))] [.d (.one .bool)] []
noncomputable def impl_few (a0 : Int) (a1 : Int) : Option (Bool) := impl_few_c.f (a0,a1,())
theorem impl_few_eq (a0 : Int) (a1 : Int) : impl_few a0 a1 =
 some (decide (a0 ≤ a1)) :=
 (mk_f _ _ _ _ _ _ _ 4000).trans (by kernel_rfl)
def impl_within_ir : Fn := { np := 3,io := [],res := [.t 6],own := [false],body :=
 (.seq (.reg false [.V 6 (.asg (.c (.bool false)))] [0,1,2] []) (.seq (.reg false [.V 7 (.mv (.t 1)),.V 8 (.mv (.t 0)),.V 9 (.bin .leq (.t 7) (.t 8)),.V 10 (.mv (.t 9)),.G 11 (.mv (.t 0)) 3 true,.G 12 (.mv (.t 2)) 3 true,.G 13 (.bin .leq (.t 11) (.t 12)) 3 true,.V 14 (.pick (.t 10) (.t 13) (.c (.bool false))),.V 6 (.asg (.t 14))] [6] []) .ret)) }
noncomputable def impl_within_D : List (Nat × Callee) := []
def impl_within_H : List (Nat × ET) := []
noncomputable def impl_within_c : Callee := mkCallee impl_within_D impl_within_H impl_within_ir [.d (.one (.int .i64)),.d (.one (.int .i64)),.d (.one (.int .i64))] [.d (.one .bool)] []
noncomputable def impl_within (a0 : Int) (a1 : Int) (a2 : Int) : Option (Bool) := impl_within_c.f (a0,a1,a2,())
theorem impl_within_eq (a0 : Int) (a1 : Int) (a2 : Int) : impl_within a0 a1 a2 =
 if decide (a1 ≤ a0) then
  some (decide (a0 ≤ a2))
 else
  some false :=
 (mk_f _ _ _ _ _ _ _ 4000).trans (by kernel_rfl)
def impl_isLine_k0 : C :=
 .seq (.seq (.reg false [.V 4 (.mv (.t 3)),.V 5 (.mv (.t 0)),.V 6 (.lens (.t 5)),.V 7 (.bin .lss (.t 4) (.t 6))] [0,3,7] []) (.cond (.t 7) .skip (.exit 0))) (.seq (.block 1 (.seq (.reg false [.V 10 (.mv (.t 0)),.V 11 (.mv (.t 3)),.V 12 (.ix (.t 10) (.t 11)),.V 13 (.conv (.int .i64) (.t 12)),.V 14 (.call (.c (.fn 23 [])) [.t 13,.c (.int .i64 32),.c (.int .i64 126)]),.V 15 (.un .not (.t 14))] [0,3,15] []) (.cond (.t 15) (.seq (.reg false [.V 2 (.asg (.c (.bool false)))] [2] []) .ret) .skip))) (.reg false [.V 8 (.mv (.t 3)),.V 9 (.bin .add (.t 8) (.c (.int .i64 1))),.V 3 (.asg (.t 9))] [0,3] []))
def impl_isLine_k1 : C :=
 .norm [0,3] [] impl_isLine_k0
def impl_isLine_k2 : C :=
 .seq (.reg false [.V 16 (.mv (.t 0)),.V 17 (.lens (.t 16)),.V 18 (.call (.c (.fn 21 [])) [.t 17,.c (.int .i64 100)]),.V 2 (.asg (.t 18))] [2] []) .ret
def impl_isLine_ir : Fn := { np := 1,io := [],res := [.t 2],own := [false],body :=
 (.seq (.reg false [.V 2 (.asg (.c (.bool false)))] [0] []) (.seq (.seq (.reg false [.V 3 (.asg (.c (.int .i64 0)))] [0,3] []) (.block 0 (.loop impl_isLine_k1))) impl_isLine_k2)) }
noncomputable def impl_isLine_D : List (Nat × Callee) := [(21,impl_few_c),(23,impl_within_c)]
def impl_isLine_H : List (Nat × ET) := []
noncomputable def impl_isLine_c : Callee := mkCallee impl_isLine_D impl_isLine_H impl_isLine_ir [.d (.one .str)] [.d (.one .bool)] []
noncomputable def impl_isLine (a0 : List UInt8) : Option (Bool) := impl_isLine_c.f (a0,())
noncomputable def impl_isLine_p0  (v0 : List UInt8) (v3 : Int) : Option (Bool) :=
 goL impl_isLine_D impl_isLine_H (vleave impl_isLine_ir [.d (.one .str)] [.d (.one .bool)] [] []) [.c impl_isLine_k0,.l impl_isLine_k1,.e 0,.c impl_isLine_k2]
  ⟨[(0,.str v0),(3,.int .i64 v3)],[]⟩
theorem impl_isLine_eq (a0 : List UInt8) : impl_isLine a0 =
 impl_isLine_p0 a0 0 :=
 (mk_f _ _ _ _ _ _ _ 4000).trans (by kernel_rfl)
theorem impl_isLine_p0_eq  (v0 : List UInt8) (v3 : Int) : impl_isLine_p0 v0 v3 =
 if decide (v3 < (v0.length : Int)) then
  if decide (0 ≤ v3) then
   (v0[v3.toNat]?).bind fun x1 =>
    (impl_within (IntKind.i64.wrap (x1.toNat : Int)) 32 126).bind fun x2 =>
     if (!x2) then
      some false
     else
      impl_isLine_p0 v0 (IntKind.i64.wrap (v3 + 1))
  else
   none
 else
  (impl_few (v0.length : Int) 100).bind fun x3 =>
   some x3 :=
 (goL_dn _ _ _ 4000 _ _).trans (by kernel_rfl)
def impl_ValidReport_1_ir : Fn := { np := 1,io := [],res := [.t 2],own := [false],body :=
 (.seq (.reg false [.V 2 (.asg (.c (.bool false)))] [0] []) (.seq (.reg false [.V 3 (.mv (.t 0)),.V 4 (.call (.c (.fn 1024 [])) [.t 3]),.V 5 (.un .not (.t 4)),.V 2 (.asg (.t 5))] [2] []) .ret)) }
noncomputable def impl_ValidReport_1_D : List (Nat × Callee) := [(1024,impl_isLine_c)]
def impl_ValidReport_1_H : List (Nat × ET) := []
noncomputable def impl_ValidReport_1_c : Callee := mkCallee impl_ValidReport_1_D impl_ValidReport_1_H impl_ValidReport_1_ir [.d (.one .str)] [.d (.one .bool)] []
noncomputable def impl_ValidReport_1 (a0 : List UInt8) : Option (Bool) := impl_ValidReport_1_c.f (a0,())
theorem impl_ValidReport_1_eq (a0 : List UInt8) : impl_ValidReport_1 a0 =
 (impl_isLine a0).bind fun x1 =>
  some (!x1) :=
 (mk_f _ _ _ _ _ _ _ 4000).trans (by kernel_rfl)
def slices_IndexFunc___string_string__impl_ValidReport_1_k0 : C :=
 .seq (.reg false [.V 9 (.bin .lss (.t 8) (.t 7))] [0,1,7,8,9] []) (.seq (.cond (.t 9) .skip (.exit 0)) (.seq (.block 1 (.seq (.reg false [.V 10 (.mv (.t 8)),.V 5 (.asg (.t 10))] [0,1,5,7,8] []) (.seq (.reg false [.V 11 (.mv (.t 1)),.V 12 (.mv (.t 0)),.V 13 (.mv (.t 5)),.V 14 (.ia 1 (.t 12) (.t 13)),.V 15 (.ld none (.t 14)),.V 16 (.call (.t 11) [.t 15])] [0,1,5,7,8,16] []) (.cond (.t 16) (.seq (.reg false [.V 17 (.mv (.t 5)),.V 4 (.asg (.t 17))] [4] []) .ret) .skip)))) (.reg false [.V 18 (.bin .add (.t 8) (.c (.int .i64 1))),.V 8 (.mv (.t 18))] [0,1,7,8] [])))
def slices_IndexFunc___string_string__impl_ValidReport_1_k1 : C :=
 .norm [0,1,7,8] [] slices_IndexFunc___string_string__impl_ValidReport_1_k0
def slices_IndexFunc___string_string__impl_ValidReport_1_k2 : C :=
 .seq (.reg false [.V 4 (.asg (.c (.int .i64 (-1))))] [4] []) .ret
def slices_IndexFunc___string_string__impl_ValidReport_1_ir : Fn := { np := 2,io := [],res := [.t 4],own := [false],body :=
 (.seq (.reg false [.V 4 (.asg (.c (.int .i64 0)))] [0,1] []) (.seq (.seq (.reg false [.V 6 (.mv (.t 0)),.V 7 (.len (.t 6)),.V 8 (.mv (.c (.int .i64 0)))] [0,1,7,8] []) (.block 0 (.loop slices_IndexFunc___string_string__impl_ValidReport_1_k1))) slices_IndexFunc___string_string__impl_ValidReport_1_k2)) }
noncomputable def slices_IndexFunc___string_string__impl_ValidReport_1_D : List (Nat × Callee) := [(872,impl_ValidReport_1_c)]
def slices_IndexFunc___string_string__impl_ValidReport_1_H : List (Nat × ET) := [(6,(.one .str)),(12,(.one .str))]
noncomputable def slices_IndexFunc___string_string__impl_ValidReport_1_c : Callee := mkCallee slices_IndexFunc___string_string__impl_ValidReport_1_D slices_IndexFunc___string_string__impl_ValidReport_1_H slices_IndexFunc___string_string__impl_ValidReport_1_ir [.d (.one (.sl (.one .str))),.fn 872 []] [.d (.one (.int .i64))] []
noncomputable def slices_IndexFunc___string_string__impl_ValidReport_1 (a0 : List (List UInt8)) (a1 : Unit) : Option (Int) := slices_IndexFunc___string_string__impl_ValidReport_1_c.f (a0,a1,())
noncomputable def slices_IndexFunc___string_string__impl_ValidReport_1_p0  (v0 : List (List UInt8)) (v7 : Int) (v8 : Int) : Option (Int) :=
 goL slices_IndexFunc___string_string__impl_ValidReport_1_D slices_IndexFunc___string_string__impl_ValidReport_1_H (vleave slices_IndexFunc___string_string__impl_ValidReport_1_ir [.d (.one (.sl (.one .str))),.fn 872 []] [.d (.one (.int .i64))] [] []) [.c slices_IndexFunc___string_string__impl_ValidReport_1_k0,.l slices_IndexFunc___string_string__impl_ValidReport_1_k1,.e 0,.c slices_IndexFunc___string_string__impl_ValidReport_1_k2]
  ⟨[(0,.sl (.one .str) v0),(1,.fn 872 []),(7,.int .i64 v7),(8,.int .i64 v8)],[]⟩
theorem slices_IndexFunc___string_string__impl_ValidReport_1_eq (a0 : List (List UInt8)) (a1 : Unit) : slices_IndexFunc___string_string__impl_ValidReport_1 a0 a1 =
 slices_IndexFunc___string_string__impl_ValidReport_1_p0 a0 (a0.length : Int) 0 :=
 (mk_f _ _ _ _ _ _ _ 4000).trans (by kernel_rfl)
theorem slices_IndexFunc___string_string__impl_ValidReport_1_p0_eq  (v0 : List (List UInt8)) (v7 : Int) (v8 : Int) : slices_IndexFunc___string_string__impl_ValidReport_1_p0 v0 v7 v8 =
 if decide (v8 < v7) then
  if decide (0 ≤ v8) then
   (v0[v8.toNat]?).bind fun x1 =>
    (impl_ValidReport_1 x1).bind fun x2 =>
     if x2 then
      some v8
     else
      slices_IndexFunc___string_string__impl_ValidReport_1_p0 v0 v7 (IntKind.i64.wrap (v8 + 1))
  else
   none
 else
  some (-1) :=
 (goL_dn _ _ _ 4000 _ _).trans (by kernel_rfl)
def slices_ContainsFunc___string_string__impl_ValidReport_1_ir : Fn := { np := 2,io := [],res := [.t 4],own := [false],body :=
 (.seq (.reg false [.V 4 (.asg (.c (.bool false)))] [0,1] []) (.seq (.reg false [.V 5 (.mv (.t 0)),.V 6 (.mv (.t 1)),.V 7 (.call (.c (.fn 1237 [])) [.t 5,.t 6]),.V 8 (.bin .geq (.t 7) (.c (.int .i64 0))),.V 4 (.asg (.t 8))] [4] []) .ret)) }
noncomputable def slices_ContainsFunc___string_string__impl_ValidReport_1_D : List (Nat × Callee) := [(872,impl_ValidReport_1_c),(1237,slices_IndexFunc___string_string__impl_ValidReport_1_c)]
def slices_ContainsFunc___string_string__impl_ValidReport_1_H : List (Nat × ET) := [(5,(.one .str))]
noncomputable def slices_ContainsFunc___string_string__impl_ValidReport_1_c : Callee := mkCallee slices_ContainsFunc___string_string__impl_ValidReport_1_D slices_ContainsFunc___string_string__impl_ValidReport_1_H slices_ContainsFunc___string_string__impl_ValidReport_1_ir [.d (.one (.sl (.one .str))),.fn 872 []] [.d (.one .bool)] []
noncomputable def slices_ContainsFunc___string_string__impl_ValidReport_1 (a0 : List (List UInt8)) (a1 : Unit) : Option (Bool) := slices_ContainsFunc___string_string__impl_ValidReport_1_c.f (a0,a1,())
theorem slices_ContainsFunc___string_string__impl_ValidReport_1_eq (a0 : List (List UInt8)) (a1 : Unit) : slices_ContainsFunc___string_string__impl_ValidReport_1 a0 a1 =
 (slices_IndexFunc___string_string__impl_ValidReport_1 a0 ()).bind fun x1 =>
  some (decide (x1 ≥ 0)) :=
 (mk_f _ _ _ _ _ _ _ 4000).trans (by kernel_rfl)
def impl_ValidReport_ir : Fn := { np := 1,io := [],res := [.t 2],own := [false],body :=
 (.seq (.reg false [.V 2 (.asg (.c (.bool false)))] [0] []) (.seq (.reg false [.V 3 (.mv (.t 0)),.V 4 (.len (.t 3)),.V 5 (.call (.c (.fn 21 [])) [.t 4,.c (.int .i64 200)]),.V 6 (.mv (.t 5)),.G 7 (.mv (.t 0)) 3 true,.G 8 (.call (.c (.fn 1238 [])) [.t 7,.c (.fn 872 [])]) 3 true,.G 9 (.un .not (.t 8)) 3 true,.V 10 (.pick (.t 6) (.t 9) (.c (.bool false))),.V 2 (.asg (.t 10))] [2] []) .ret)) }
noncomputable def impl_ValidReport_D : List (Nat × Callee) := [(21,impl_few_c),(872,impl_ValidReport_1_c),(1238,slices_ContainsFunc___string_string__impl_ValidReport_1_c)]
def impl_ValidReport_H : List (Nat × ET) := [(3,(.one .str)),(7,(.one .str))]
noncomputable def impl_ValidReport_c : Callee := mkCallee impl_ValidReport_D impl_ValidReport_H impl_ValidReport_ir [.d (.one (.sl (.one .str)))] [.d (.one .bool)] []
noncomputable def impl_ValidReport (a0 : List (List UInt8)) : Option (Bool) := impl_ValidReport_c.f (a0,())
theorem impl_ValidReport_eq (a0 : List (List UInt8)) : impl_ValidReport a0 =
 (impl_few (a0.length : Int) 200).bind fun x1 =>
  if x1 then
   (slices_ContainsFunc___string_string__impl_ValidReport_1 a0 ()).bind fun x2 =>
    some (!x2)
  else
   some false :=
 (mk_f _ _ _ _ _ _ _ 4000).trans (by kernel_rfl)
noncomputable def impl_PagesOf_c : Callee := pagesC impl_ValidReport impl_within impl_isLine
noncomputable def impl_PagesOf (a0 : List (List UInt8)) (a1 : Int) (a2 : List UInt8) : Option (List (List (List UInt8)) × Int) := impl_PagesOf_c.f (a0,a1,a2,())
theorem impl_PagesOf_eq (a0 : List (List UInt8)) (a1 : Int) (a2 : List UInt8) : impl_PagesOf a0 a1 a2 = pagesF impl_ValidReport impl_within impl_isLine a0 a1 a2 := rfl
def spec_DrawFindLines_ir : Fn := { np := 1,io := [],res := [.t 2,.t 3],own := [true,false],body :=
 (.seq (.reg false [.W 2 (.asg (.c (.nils 1))),.V 3 (.asg (.c (.str [])))] [0] []) (.seq (.reg false [.V 6 (.mv (.t 0)),.W 7 (.call (.c (.fn 441 [])) [.t 6]),.V 4 (.asg (.t 7))] [4] [7,8000]) (.seq (.reg false [.V 8 (.mv (.t 4)),.W 9 (.call (.c (.fn 564 [])) [.t 8]),.W 5 (.asg (.t 9))] [4,5] [5,7,8000]) (.seq (.reg false [.V 10 (.mv (.t 5)),.V 11 (.mv (.t 4)),.V 12 (.bsl 1 (.str []) 8 [(0,.c (.str [97])),(1,.c (.str [99])),(2,.c (.str [49,50])),(3,.c (.str [99,99])),(4,.c (.str [])),(5,.c (.str [32])),(6,.c (.str [119,111,111,100])),(7,.c (.str [113]))]),.W 13 (.call (.c (.fn 557 [])) [.t 11,.t 12]),.W 2 (.asg (.t 10)),.V 3 (.asg (.t 13))] [2,3] [2,5]) .ret)))) }
noncomputable def spec_DrawFindLines_D : List (Nat × Callee) := [(441,spec_l00From_c),(557,spec_l00Src_text_c),(564,spec_l30Draw_c)]
def spec_DrawFindLines_H : List (Nat × ET) := [(2,(.one .str)),(5,(.one .str)),(6,(.one (.int .u8))),(9,(.one .str)),(10,(.one .str)),(12,(.one .str))]
noncomputable def spec_DrawFindLines_c : Callee := mkCallee spec_DrawFindLines_D spec_DrawFindLines_H spec_DrawFindLines_ir [.d (.one (.sl (.one (.int .u8))))] [.tok (.one .str),.d (.one .str)] []
noncomputable def spec_DrawFindLines (a0 : List Int) : Option (List (List UInt8) × List UInt8) := spec_DrawFindLines_c.f (a0,())
theorem spec_DrawFindLines_eq (a0 : List Int) : spec_DrawFindLines a0 =
 (spec_l00From a0).bind fun x1 =>
  (spec_l30Draw x1).bind fun x2 =>
   (spec_l00Src_text (x2.2.1,x2.2.2.1,x2.2.2.2.1,()) [[97],[99],[49,50],[99,99],[],[32],[119,111,111,100],[113]]).bind fun x3 =>
    some ((x2.1.take x2.1.length),x3.1) :=
 (mk_f _ _ _ _ _ _ _ 4000).trans (by kernel_rfl)
noncomputable def strings_Contains_c : Callee := containsC
noncomputable def strings_Contains (a0 : List UInt8) (a1 : List UInt8) : Option (Bool) := strings_Contains_c.f (a0,a1,())
theorem strings_Contains_eq (a0 : List UInt8) (a1 : List UInt8) : strings_Contains a0 a1 = if decide (a0.length < 4294967281) then some (Lib.contains a0 a1) else none := rfl
def impl_FindLines_k0 : C :=
 .seq (.reg false [.V 18 (.bin .lss (.t 17) (.t 16))] [1,6,15,16,17,18] [6]) (.seq (.cond (.t 18) .skip (.exit 0)) (.seq (.block 1 (.seq (.reg false [.V 19 (.mv (.t 17)),.V 20 (.ia 1 (.t 15) (.t 17)),.V 21 (.ld none (.t 20)),.V 7 (.asg (.t 19)),.V 8 (.asg (.t 21))] [1,6,7,8,15,16,17] [6]) (.seq (.reg false [.V 22 (.mv (.t 8)),.V 23 (.mv (.t 1)),.V 24 (.call (.c (.fn 565 [])) [.t 22,.t 23])] [1,6,7,15,16,17,24] [6]) (.cond (.t 24) (.reg false [.V 25 (.mv (.t 6)),.V 26 (.mv (.t 7)),.V 27 (.bsl 1 (.int .i64 0) 1 [(0,.t 26)]),.W 28 (.app 1 8 (.t 25) (.t 27)),.W 6 (.asg (.t 28))] [1,6,15,16,17] [6]) .skip)))) (.reg false [.V 29 (.bin .add (.t 17) (.c (.int .i64 1))),.V 17 (.mv (.t 29))] [1,6,15,16,17] [6])))
def impl_FindLines_k1 : C :=
 .norm [1,6,15,16,17] [6] impl_FindLines_k0
def impl_FindLines_k2 : C :=
 .seq (.reg false [.V 30 (.mv (.t 6)),.W 4 (.asg (.t 30)),.V 5 (.asg (.c (.int .i64 0)))] [4,5] [4,6]) .ret
def impl_FindLines_ir : Fn := { np := 2,io := [],res := [.t 4,.t 5],own := [true,false],body :=
 (.seq (.reg false [.W 4 (.asg (.c (.nils 1))),.V 5 (.asg (.c (.int .i64 0)))] [0,1] []) (.seq (.seq (.reg false [.V 9 (.mv (.t 0)),.V 10 (.call (.c (.fn 566 [])) [.t 9]),.V 11 (.un .not (.t 10))] [0,1,11] []) (.cond (.t 11) (.seq (.reg false [.W 4 (.asg (.c (.nils 1))),.V 5 (.asg (.c (.int .i64 1)))] [4,5] [4,6]) .ret) .skip)) (.seq (.seq (.reg false [.V 12 (.mv (.t 1)),.V 13 (.bin .eql (.t 12) (.c (.str [])))] [0,1,13] []) (.cond (.t 13) (.seq (.reg false [.W 4 (.asg (.c (.nils 1))),.V 5 (.asg (.c (.int .i64 2)))] [4,5] [4,6]) .ret) .skip)) (.seq (.reg false [.V 14 (.bsl 1 (.int .i64 0) 0 []),.W 6 (.asg (.t 14))] [0,1,6] [6]) (.seq (.seq (.reg false [.V 15 (.mv (.t 0)),.V 16 (.len (.t 15)),.V 17 (.mv (.c (.int .i64 0)))] [1,6,15,16,17] [6]) (.block 0 (.loop impl_FindLines_k1))) impl_FindLines_k2))))) }
noncomputable def impl_FindLines_D : List (Nat × Callee) := [(565,strings_Contains_c),(566,impl_ValidReport_c)]
def impl_FindLines_H : List (Nat × ET) := [(4,(.one (.int .i64))),(6,(.one (.int .i64))),(9,(.one .str)),(14,(.one (.int .i64))),(15,(.one .str)),(25,(.one (.int .i64))),(27,(.one (.int .i64))),(28,(.one (.int .i64))),(30,(.one (.int .i64)))]
noncomputable def impl_FindLines_c : Callee := mkCallee impl_FindLines_D impl_FindLines_H impl_FindLines_ir [.d (.one (.sl (.one .str))),.d (.one .str)] [.tok (.one (.int .i64)),.d (.one (.int .i64))] []
noncomputable def impl_FindLines (a0 : List (List UInt8)) (a1 : List UInt8) : Option (List Int × Int) := impl_FindLines_c.f (a0,a1,())
noncomputable def impl_FindLines_p0  (v1 : List UInt8) (v15 : List (List UInt8)) (v16 : Int) (v17 : Int) (r6 : List Int) : Option (List Int × Int) :=
 goL impl_FindLines_D impl_FindLines_H (vleave impl_FindLines_ir [.d (.one (.sl (.one .str))),.d (.one .str)] [.tok (.one (.int .i64)),.d (.one (.int .i64))] [] []) [.c impl_FindLines_k0,.l impl_FindLines_k1,.e 0,.c impl_FindLines_k2]
  ⟨[(1,.str v1),(6,.view 6 0 r6.length),(15,.sl (.one .str) v15),(16,.int .i64 v16),(17,.int .i64 v17)],[(6,some (.sl (.one (.int .i64)) r6))]⟩
theorem impl_FindLines_eq (a0 : List (List UInt8)) (a1 : List UInt8) : impl_FindLines a0 a1 =
 (impl_ValidReport a0).bind fun x1 =>
  if (!x1) then
   some ([],1)
  else
   if (a1 == []) then
    some ([],2)
   else
    impl_FindLines_p0 a1 a0 (a0.length : Int) 0 [] :=
 (mk_f _ _ _ _ _ _ _ 4000).trans (by kernel_rfl)
theorem impl_FindLines_p0_eq  (v1 : List UInt8) (v15 : List (List UInt8)) (v16 : Int) (v17 : Int) (r6 : List Int) : impl_FindLines_p0 v1 v15 v16 v17 r6 =
 if decide (v17 < v16) then
  if decide (0 ≤ v17) then
   (v15[v17.toNat]?).bind fun x1 =>
    (strings_Contains x1 v1).bind fun x2 =>
     if x2 then
      if decide (r6.length + 1 < lim) then
       impl_FindLines_p0 v1 v15 v16 (IntKind.i64.wrap (v17 + 1)) ((r6.take r6.length) ++ [v17])
      else
       none
     else
      impl_FindLines_p0 v1 v15 v16 (IntKind.i64.wrap (v17 + 1)) r6
  else
   none
 else
  some ((r6.take r6.length),0) :=
 (goL_dn _ _ _ 4000 _ _).trans (by kernel_rfl)
def laws_b10Rises_k0 : C :=
 .seq (.seq (.reg false [.V 6 (.mv (.t 5)),.V 7 (.mv (.t 0)),.V 8 (.len (.t 7)),.V 9 (.bin .lss (.t 6) (.t 8))] [0,1,5,9] []) (.cond (.t 9) .skip (.exit 0))) (.seq (.block 1 (.seq (.reg true [.V 12 (.mv (.t 0)),.V 13 (.mv (.t 5)),.V 14 (.ia 1 (.t 12) (.t 13)),.V 15 (.ld none (.t 14)),.V 16 (.bin .lss (.t 15) (.c (.int .i64 0))),.V 17 (.mv (.t 16)),.G 18 (.mv (.t 0)) 5 false,.G 19 (.mv (.t 5)) 5 false,.G 20 (.ia 1 (.t 18) (.t 19)) 5 false,.G 21 (.ld none (.t 20)) 5 false,.G 22 (.mv (.t 1)) 5 false,.G 23 (.bin .geq (.t 21) (.t 22)) 5 false,.V 24 (.pick (.t 17) (.c (.bool true)) (.t 23)),.V 25 (.mv (.t 24)),.G 26 (.mv (.t 5)) 13 false,.G 27 (.bin .gtr (.t 26) (.c (.int .i64 0))) 13 false,.G 28 (.mv (.t 27)) 13 false,.G 29 (.mv (.t 0)) 16 true,.G 30 (.mv (.t 5)) 16 true,.G 31 (.bin .sub (.t 30) (.c (.int .i64 1))) 16 true,.G 32 (.ia 1 (.t 29) (.t 31)) 16 true,.G 33 (.ld none (.t 32)) 16 true,.G 34 (.mv (.t 0)) 16 true,.G 35 (.mv (.t 5)) 16 true,.G 36 (.ia 1 (.t 34) (.t 35)) 16 true,.G 37 (.ld none (.t 36)) 16 true,.G 38 (.bin .geq (.t 33) (.t 37)) 16 true,.G 39 (.pick (.t 28) (.t 38) (.c (.bool false))) 13 false,.V 40 (.pick (.t 25) (.c (.bool true)) (.t 39))] [0,1,5,40] []) (.cond (.t 40) (.seq (.reg false [.V 4 (.asg (.c (.bool false)))] [4] []) .ret) .skip))) (.reg false [.V 10 (.mv (.t 5)),.V 11 (.bin .add (.t 10) (.c (.int .i64 1))),.V 5 (.asg (.t 11))] [0,1,5] []))
def laws_b10Rises_k1 : C :=
 .norm [0,1,5] [] laws_b10Rises_k0
def laws_b10Rises_k2 : C :=
 .seq (.reg false [.V 4 (.asg (.c (.bool true)))] [4] []) .ret
def laws_b10Rises_ir : Fn := { np := 2,io := [],res := [.t 4],own := [false],body :=
 (.seq (.reg false [.V 4 (.asg (.c (.bool false)))] [0,1] []) (.seq (.seq (.reg false [.V 5 (.asg (.c (.int .i64 0)))] [0,1,5] []) (.block 0 (.loop laws_b10Rises_k1))) laws_b10Rises_k2)) }
noncomputable def laws_b10Rises_D : List (Nat × Callee) := []
def laws_b10Rises_H : List (Nat × ET) := [(7,(.one (.int .i64))),(12,(.one (.int .i64))),(18,(.one (.int .i64))),(29,(.one (.int .i64))),(34,(.one (.int .i64)))]
noncomputable def laws_b10Rises_c : Callee := mkCallee laws_b10Rises_D laws_b10Rises_H laws_b10Rises_ir [.d (.one (.sl (.one (.int .i64)))),.d (.one (.int .i64))] [.d (.one .bool)] []
noncomputable def laws_b10Rises (a0 : List Int) (a1 : Int) : Option (Bool) := laws_b10Rises_c.f (a0,a1,())
noncomputable def laws_b10Rises_p0  (v0 : List Int) (v1 : Int) (v5 : Int) : Option (Bool) :=
 goL laws_b10Rises_D laws_b10Rises_H (vleave laws_b10Rises_ir [.d (.one (.sl (.one (.int .i64)))),.d (.one (.int .i64))] [.d (.one .bool)] [] []) [.c laws_b10Rises_k0,.l laws_b10Rises_k1,.e 0,.c laws_b10Rises_k2]
  ⟨[(0,.sl (.one (.int .i64)) v0),(1,.int .i64 v1),(5,.int .i64 v5)],[]⟩
theorem laws_b10Rises_eq (a0 : List Int) (a1 : Int) : laws_b10Rises a0 a1 =
 laws_b10Rises_p0 a0 a1 0 :=
 (mk_f _ _ _ _ _ _ _ 4000).trans (by kernel_rfl)
theorem laws_b10Rises_p0_eq  (v0 : List Int) (v1 : Int) (v5 : Int) : laws_b10Rises_p0 v0 v1 v5 =
 if decide (v5 < (v0.length : Int)) then
  if decide (0 ≤ v5) then
   (v0[v5.toNat]?).bind fun x1 =>
    if decide (x1 < 0) then
     some false
    else
     if decide (0 ≤ v5) then
      (v0[v5.toNat]?).bind fun x2 =>
       if decide (x2 ≥ v1) then
        some false
       else
        if decide (v5 > 0) then
         if decide (0 ≤ IntKind.i64.wrap (v5 - 1)) then
          (v0[(IntKind.i64.wrap (v5 - 1)).toNat]?).bind fun x3 =>
           if decide (0 ≤ v5) then
            (v0[v5.toNat]?).bind fun x4 =>
             if decide (x3 ≥ x4) then
              some false
             else
              laws_b10Rises_p0 v0 v1 (IntKind.i64.wrap (v5 + 1))
           else
            none
         else
          none
        else
         laws_b10Rises_p0 v0 v1 (IntKind.i64.wrap (v5 + 1))
     else
      none
  else
   none
 else
  some true :=
 (goL_dn _ _ _ 4000 _ _).trans (by kernel_rfl)
def laws_b10Has_k0 : C :=
 .seq (.seq (.reg false [.V 6 (.mv (.t 5)),.V 7 (.mv (.t 0)),.V 8 (.len (.t 7)),.V 9 (.bin .lss (.t 6) (.t 8))] [0,1,5,9] []) (.cond (.t 9) .skip (.exit 0))) (.seq (.block 1 (.seq (.reg false [.V 12 (.mv (.t 0)),.V 13 (.mv (.t 5)),.V 14 (.ia 1 (.t 12) (.t 13)),.V 15 (.ld none (.t 14)),.V 16 (.mv (.t 1)),.V 17 (.bin .eql (.t 15) (.t 16))] [0,1,5,17] []) (.cond (.t 17) (.seq (.reg false [.V 4 (.asg (.c (.bool true)))] [4] []) .ret) .skip))) (.reg false [.V 10 (.mv (.t 5)),.V 11 (.bin .add (.t 10) (.c (.int .i64 1))),.V 5 (.asg (.t 11))] [0,1,5] []))
def laws_b10Has_k1 : C :=
 .norm [0,1,5] [] laws_b10Has_k0
def laws_b10Has_k2 : C :=
 .seq (.reg false [.V 4 (.asg (.c (.bool false)))] [4] []) .ret
def laws_b10Has_ir : Fn := { np := 2,io := [],res := [.t 4],own := [false],body :=
 (.seq (.reg false [.V 4 (.asg (.c (.bool false)))] [0,1] []) (.seq (.seq (.reg false [.V 5 (.asg (.c (.int .i64 0)))] [0,1,5] []) (.block 0 (.loop laws_b10Has_k1))) laws_b10Has_k2)) }
noncomputable def laws_b10Has_D : List (Nat × Callee) := []
def laws_b10Has_H : List (Nat × ET) := [(7,(.one (.int .i64))),(12,(.one (.int .i64)))]
noncomputable def laws_b10Has_c : Callee := mkCallee laws_b10Has_D laws_b10Has_H laws_b10Has_ir [.d (.one (.sl (.one (.int .i64)))),.d (.one (.int .i64))] [.d (.one .bool)] []
noncomputable def laws_b10Has (a0 : List Int) (a1 : Int) : Option (Bool) := laws_b10Has_c.f (a0,a1,())
noncomputable def laws_b10Has_p0  (v0 : List Int) (v1 : Int) (v5 : Int) : Option (Bool) :=
 goL laws_b10Has_D laws_b10Has_H (vleave laws_b10Has_ir [.d (.one (.sl (.one (.int .i64)))),.d (.one (.int .i64))] [.d (.one .bool)] [] []) [.c laws_b10Has_k0,.l laws_b10Has_k1,.e 0,.c laws_b10Has_k2]
  ⟨[(0,.sl (.one (.int .i64)) v0),(1,.int .i64 v1),(5,.int .i64 v5)],[]⟩
theorem laws_b10Has_eq (a0 : List Int) (a1 : Int) : laws_b10Has a0 a1 =
 laws_b10Has_p0 a0 a1 0 :=
 (mk_f _ _ _ _ _ _ _ 4000).trans (by kernel_rfl)
theorem laws_b10Has_p0_eq  (v0 : List Int) (v1 : Int) (v5 : Int) : laws_b10Has_p0 v0 v1 v5 =
 if decide (v5 < (v0.length : Int)) then
  if decide (0 ≤ v5) then
   (v0[v5.toNat]?).bind fun x1 =>
    if (x1 == v1) then
     some true
    else
     laws_b10Has_p0 v0 v1 (IntKind.i64.wrap (v5 + 1))
  else
   none
 else
  some false :=
 (goL_dn _ _ _ 4000 _ _).trans (by kernel_rfl)
def spec_DrawBarLines_k0 : C :=
 .seq (.seq (.reg false [.V 12 (.mv (.t 6)),.V 13 (.bin .gtr (.t 12) (.c (.int .i64 0)))] [4,5,6,13] [5,8,9000]) (.cond (.t 13) .skip (.exit 0))) (.seq (.block 1 (.reg false [.V 16 (.mv (.t 5)),.V 17 (.mv (.t 4)),.V 18 (.bsl 1 (.int .i64 0) 6 [(0,.c (.int .i64 0)),(1,.c (.int .i64 1)),(2,.c (.int .i64 5)),(3,.c (.int .i64 20)),(4,.c (.int .i64 77)),(5,.c (.int .i64 1000))]),.W 19 (.call (.c (.fn 445 [])) [.t 17,.t 18]),.V 20 (.bsl 1 (.int .i64 0) 1 [(0,.t 19)]),.W 21 (.app 1 8 (.t 16) (.t 20)),.W 5 (.asg (.t 21))] [4,5,6] [5,8,9000])) (.reg false [.V 14 (.mv (.t 6)),.V 15 (.bin .sub (.t 14) (.c (.int .i64 1))),.V 6 (.asg (.t 15))] [4,5,6] [5,8,9000]))
def spec_DrawBarLines_k1 : C :=
 .norm [4,5,6] [5,8,9000] spec_DrawBarLines_k0
def spec_DrawBarLines_k2 : C :=
 .seq (.reg false [.V 38 (.mv (.t 5)),.V 39 (.mv (.t 4)),.V 40 (.bsl 1 (.int .i64 0) 6 [(0,.c (.int .i64 1)),(1,.c (.int .i64 10)),(2,.c (.int .i64 40)),(3,.c (.int .i64 100)),(4,.c (.int .i64 101)),(5,.c (.int .i64 0))]),.W 41 (.call (.c (.fn 445 [])) [.t 39,.t 40]),.W 2 (.asg (.t 38)),.V 3 (.asg (.t 41))] [2,3] [2,5]) .ret
def spec_DrawBarLines_k3 : C :=
 .seq (.seq (.reg false [.V 22 (.mv (.t 4)),.W 23 (.call (.c (.fn 463 [])) [.t 22,.c (.int .i64 16)])] [4,5,23] [5,8,9000]) (.block 2 (.seq (.reg false [.V 25 (.bin .eql (.t 23) (.c (.int .i64 0))),.V 24 (.asg (.t 25))] [4,5,23,24] [5,8,9000]) (.cond (.t 24) (.reg false [.V 26 (.mv (.t 5)),.V 27 (.mv (.t 4)),.V 28 (.bsl 1 (.int .i64 0) 3 [(0,.c (.int .i64 (-1))),(1,.c (.int .i64 1000000000000)),(2,.c (.int .i64 1000000000001))]),.W 29 (.call (.c (.fn 445 [])) [.t 27,.t 28]),.V 30 (.bsl 1 (.int .i64 0) 1 [(0,.t 29)]),.W 31 (.app 1 8 (.t 26) (.t 30)),.W 5 (.asg (.t 31))] [4,5] [5,8,9000]) (.seq (.reg false [.V 33 (.bin .eql (.t 23) (.c (.int .i64 1))),.V 32 (.asg (.t 33))] [4,5,32] [5,8,9000]) (.cond (.t 32) (.reg false [.V 34 (.mv (.t 4)),.V 35 (.bsl 1 (.int .i64 0) 2 [(0,.c (.int .i64 200)),(1,.c (.int .i64 201))]),.W 36 (.call (.c (.fn 445 [])) [.t 34,.t 35]),.V 37 (.mks 1 8 (.int .i64 0) (.t 36) (.t 36)),.W 5 (.asg (.t 37))] [4,5] [5,8,9000]) .skip)))))) (.norm [4,5] [5,8,9000] spec_DrawBarLines_k2)
def spec_DrawBarLines_ir : Fn := { np := 1,io := [],res := [.t 2,.t 3],own := [true,false],body :=
 (.seq (.reg false [.W 2 (.asg (.c (.nils 1))),.V 3 (.asg (.c (.int .i64 0)))] [0] []) (.seq (.reg false [.V 7 (.mv (.t 0)),.W 8 (.call (.c (.fn 441 [])) [.t 7]),.V 4 (.asg (.t 8))] [4] [8,9000]) (.seq (.reg false [.V 9 (.bsl 1 (.int .i64 0) 0 []),.W 5 (.asg (.t 9))] [4,5] [5,8,9000]) (.seq (.seq (.reg false [.V 10 (.mv (.t 4)),.W 11 (.call (.c (.fn 463 [])) [.t 10,.c (.int .i64 8)]),.V 6 (.asg (.t 11))] [4,5,6] [5,8,9000]) (.block 0 (.loop spec_DrawBarLines_k1))) spec_DrawBarLines_k3)))) }
noncomputable def spec_DrawBarLines_D : List (Nat × Callee) := [(441,spec_l00From_c),(445,spec_l00Src_among_c),(463,spec_l00Src_pick_c)]
def spec_DrawBarLines_H : List (Nat × ET) := [(2,(.one (.int .i64))),(5,(.one (.int .i64))),(7,(.one (.int .u8))),(9,(.one (.int .i64))),(16,(.one (.int .i64))),(18,(.one (.int .i64))),(20,(.one (.int .i64))),(21,(.one (.int .i64))),(26,(.one (.int .i64))),(28,(.one (.int .i64))),(30,(.one (.int .i64))),(31,(.one (.int .i64))),(35,(.one (.int .i64))),(37,(.one (.int .i64))),(38,(.one (.int .i64))),(40,(.one (.int .i64)))]
noncomputable def spec_DrawBarLines_c : Callee := mkCallee spec_DrawBarLines_D spec_DrawBarLines_H spec_DrawBarLines_ir [.d (.one (.sl (.one (.int .u8))))] [.tok (.one (.int .i64)),.d (.one (.int .i64))] []
noncomputable def spec_DrawBarLines (a0 : List Int) : Option (List Int × Int) := spec_DrawBarLines_c.f (a0,())
noncomputable def spec_DrawBarLines_p0  (v6 : Int) (r5 : List Int) (r8_0 : List Int) (r8_1 : Int) (r8_2 : Int) : Option (List Int × Int) :=
 goL spec_DrawBarLines_D spec_DrawBarLines_H (vleave spec_DrawBarLines_ir [.d (.one (.sl (.one (.int .u8))))] [.tok (.one (.int .i64)),.d (.one (.int .i64))] [] []) [.c spec_DrawBarLines_k0,.l spec_DrawBarLines_k1,.e 0,.c spec_DrawBarLines_k3]
  ⟨[(4,.loc 8 0 0),(5,.view 5 0 r5.length),(6,.int .i64 v6)],[(5,some (.sl (.one (.int .i64)) r5)),(8,some (.var 3 (.agg [.sl (.one (.int .u8)) r8_0,.int .i64 r8_1,.int .u64 r8_2]))),(9000,none)]⟩
noncomputable def spec_DrawBarLines_p1  (r5 : List Int) (r8_0 : List Int) (r8_1 : Int) (r8_2 : Int) : Option (List Int × Int) :=
 goL spec_DrawBarLines_D spec_DrawBarLines_H (vleave spec_DrawBarLines_ir [.d (.one (.sl (.one (.int .u8))))] [.tok (.one (.int .i64)),.d (.one (.int .i64))] [] []) [.c spec_DrawBarLines_k2]
  ⟨[(4,.loc 8 0 0),(5,.view 5 0 r5.length)],[(5,some (.sl (.one (.int .i64)) r5)),(8,some (.var 3 (.agg [.sl (.one (.int .u8)) r8_0,.int .i64 r8_1,.int .u64 r8_2]))),(9000,none)]⟩
theorem spec_DrawBarLines_eq (a0 : List Int) : spec_DrawBarLines a0 =
 (spec_l00From a0).bind fun x1 =>
  (spec_l00Src_pick x1 8).bind fun x2 =>
   spec_DrawBarLines_p0 x2.1 [] x2.2.1 x2.2.2.1 x2.2.2.2.1 :=
 (mk_f _ _ _ _ _ _ _ 4000).trans (by kernel_rfl)
theorem spec_DrawBarLines_p0_eq  (v6 : Int) (r5 : List Int) (r8_0 : List Int) (r8_1 : Int) (r8_2 : Int) : spec_DrawBarLines_p0 v6 r5 r8_0 r8_1 r8_2 =
 if decide (v6 > 0) then
  (spec_l00Src_among (r8_0,r8_1,r8_2,()) [0,1,5,20,77,1000]).bind fun x1 =>
   if decide (r5.length + 1 < lim) then
    spec_DrawBarLines_p0 (IntKind.i64.wrap (v6 - 1)) ((r5.take r5.length) ++ [x1.1]) x1.2.1 x1.2.2.1 x1.2.2.2.1
   else
    none
 else
  (spec_l00Src_pick (r8_0,r8_1,r8_2,()) 16).bind fun x2 =>
   if (x2.1 == 0) then
    (spec_l00Src_among (x2.2.1,x2.2.2.1,x2.2.2.2.1,()) [(-1),1000000000000,1000000000001]).bind fun x3 =>
     if decide (r5.length + 1 < lim) then
      spec_DrawBarLines_p1 ((r5.take r5.length) ++ [x3.1]) x3.2.1 x3.2.2.1 x3.2.2.2.1
     else
      none
   else
    if (x2.1 == 1) then
     (spec_l00Src_among (x2.2.1,x2.2.2.1,x2.2.2.2.1,()) [200,201]).bind fun x4 =>
      if decide (0 ≤ x4.1) && decide (x4.1 ≤ x4.1) && decide (x4.1.toNat < lim) then
       spec_DrawBarLines_p1 (List.replicate x4.1.toNat (0 : Int)) x4.2.1 x4.2.2.1 x4.2.2.2.1
      else
       none
    else
     spec_DrawBarLines_p1 r5 x2.2.1 x2.2.2.1 x2.2.2.2.1 :=
 (goL_dn _ _ _ 4000 _ _).trans (by kernel_rfl)
theorem spec_DrawBarLines_p1_eq  (r5 : List Int) (r8_0 : List Int) (r8_1 : Int) (r8_2 : Int) : spec_DrawBarLines_p1 r5 r8_0 r8_1 r8_2 =
 (spec_l00Src_among (r8_0,r8_1,r8_2,()) [1,10,40,100,101,0]).bind fun x1 =>
  some ((r5.take r5.length),x1.1) :=
 (goL_dn _ _ _ 4000 _ _).trans (by kernel_rfl)
noncomputable def strings_Repeat_c : Callee := repeatC
noncomputable def strings_Repeat (a0 : List UInt8) (a1 : Int) : Option (List UInt8) := strings_Repeat_c.f (a0,a1,())
theorem strings_Repeat_eq (a0 : List UInt8) (a1 : Int) : strings_Repeat a0 a1 = if decide (0 ≤ a1) && (decide (a1 ≤ 9223372036854775807) && decide (a0.length * a1.toNat ≤ 140737488355328)) then some (Lib.repeatL a0 a1.toNat) else none := rfl
def impl_report_ir : Fn := { np := 1,io := [true],res := [.t 2,.t 3],own := [true,false],body :=
 (.seq (.reg false [.W 2 (.asg (.c (.nils 1))),.V 3 (.asg (.c (.int .i64 0)))] [0] [0]) (.seq (.seq (.reg false [.V 4 (.mv (.t 0)),.V 5 (.call (.c (.fn 566 [])) [.t 4]),.V 6 (.un .not (.t 5))] [0,6] [0]) (.cond (.t 6) (.seq (.reg false [.W 2 (.asg (.c (.nils 1))),.V 3 (.asg (.c (.int .i64 5)))] [0,2,3] [0,2]) .ret) .skip)) (.seq (.reg false [.V 7 (.mv (.t 0)),.W 2 (.asg (.t 7)),.V 3 (.asg (.c (.int .i64 0)))] [0,2,3] [0,2]) .ret))),gone := [0] }
noncomputable def impl_report_D : List (Nat × Callee) := [(566,impl_ValidReport_c)]
def impl_report_H : List (Nat × ET) := [(2,(.one .str)),(4,(.one .str)),(7,(.one .str))]
noncomputable def impl_report_c : Callee := mkCallee impl_report_D impl_report_H impl_report_ir [.ios (.one .str)] [.tok (.one .str),.d (.one (.int .i64))] [.gone]
noncomputable def impl_report (a0 : List (List UInt8)) : Option (List (List UInt8) × Int × Unit) := impl_report_c.f (a0,())
theorem impl_report_eq (a0 : List (List UInt8)) : impl_report a0 =
 (impl_ValidReport (a0.take a0.length)).bind fun x1 =>
  if (!x1) then
   some ([],5,())
  else
   some ((a0.take a0.length),0,()) :=
 (mk_f _ _ _ _ _ _ _ 4000).trans (by kernel_rfl)
def impl_BarLines_k0 : C :=
 .seq (.reg false [.V 18 (.bin .lss (.t 17) (.t 16))] [0,1,6,15,16,17,18] []) (.seq (.cond (.t 18) .skip (.exit 0)) (.seq (.block 1 (.seq (.reg false [.V 19 (.ia 1 (.t 15) (.t 17)),.V 20 (.ld none (.t 19)),.V 8 (.asg (.t 20))] [0,1,6,8,15,16,17] []) (.seq (.seq (.reg false [.V 21 (.mv (.t 8)),.V 22 (.call (.c (.fn 23 [])) [.t 21,.c (.int .i64 0),.c (.int .i64 1000000000000)]),.V 23 (.un .not (.t 22))] [0,1,6,8,15,16,17,23] []) (.cond (.t 23) (.seq (.reg false [.W 4 (.asg (.c (.nils 1))),.V 5 (.asg (.c (.int .i64 2)))] [4,5] [4]) .ret) .skip)) (.reg false [.V 24 (.mv (.t 6)),.V 25 (.mv (.t 8)),.V 26 (.max [.t 24,.t 25]),.V 6 (.asg (.t 26))] [0,1,6,15,16,17] [])))) (.reg false [.V 27 (.bin .add (.t 17) (.c (.int .i64 1))),.V 17 (.mv (.t 27))] [0,1,6,15,16,17] [])))
def impl_BarLines_k1 : C :=
 .norm [0,1,6,15,16,17] [] impl_BarLines_k0
def impl_BarLines_k2 : C :=
 .seq (.reg false [.V 32 (.bin .lss (.t 31) (.t 30))] [1,6,9,29,30,31,32] [9]) (.seq (.cond (.t 32) .skip (.exit 2)) (.seq (.block 3 (.seq (.reg false [.V 33 (.ia 1 (.t 29) (.t 31)),.V 34 (.ld none (.t 33)),.V 11 (.asg (.t 34))] [1,6,9,11,29,30,31] [9]) (.reg false [.V 35 (.mv (.t 9)),.V 36 (.mv (.t 11)),.V 37 (.mv (.t 1)),.V 38 (.bin .mul (.t 36) (.t 37)),.V 39 (.mv (.t 6)),.V 40 (.max [.c (.int .i64 1),.t 39]),.V 41 (.bin .quo (.t 38) (.t 40)),.V 42 (.call (.c (.fn 518 [])) [.c (.str [35]),.t 41]),.V 43 (.bsl 1 (.str []) 1 [(0,.t 42)]),.W 44 (.app 1 16 (.t 35) (.t 43)),.W 9 (.asg (.t 44))] [1,6,9,29,30,31] [9]))) (.reg false [.V 45 (.bin .add (.t 31) (.c (.int .i64 1))),.V 31 (.mv (.t 45))] [1,6,9,29,30,31] [9])))
def impl_BarLines_k3 : C :=
 .norm [1,6,9,29,30,31] [9] impl_BarLines_k2
def impl_BarLines_k4 : C :=
 .seq (.reg false [.V 46 (.mv (.t 9)),.W 47 (.call (.c (.fn 517 [])) [.t 46]),.V 48 (.ext (.t 47) 0),.V 49 (.ext (.t 47) 1),.W 4 (.asg (.t 48)),.V 5 (.asg (.t 49))] [4,5] [4]) .ret
def impl_BarLines_k5 : C :=
 .seq (.reg false [.V 28 (.bsl 1 (.str []) 0 []),.W 9 (.asg (.t 28))] [0,1,6,9] [9]) (.seq (.seq (.reg false [.V 29 (.mv (.t 0)),.V 30 (.len (.t 29)),.V 31 (.mv (.c (.int .i64 0)))] [1,6,9,29,30,31] [9]) (.block 2 (.loop impl_BarLines_k3))) impl_BarLines_k4)
def impl_BarLines_ir : Fn := { np := 2,io := [],res := [.t 4,.t 5],own := [true,false],body :=
 (.seq (.reg false [.W 4 (.asg (.c (.nils 1))),.V 5 (.asg (.c (.int .i64 0)))] [0,1] []) (.seq (.seq (.reg false [.V 12 (.mv (.t 1)),.V 13 (.call (.c (.fn 23 [])) [.t 12,.c (.int .i64 1),.c (.int .i64 100)]),.V 14 (.un .not (.t 13))] [0,1,14] []) (.cond (.t 14) (.seq (.reg false [.W 4 (.asg (.c (.nils 1))),.V 5 (.asg (.c (.int .i64 2)))] [4,5] [4]) .ret) .skip)) (.seq (.reg false [.V 6 (.asg (.c (.int .i64 0)))] [0,1,6] []) (.seq (.seq (.reg false [.V 15 (.mv (.t 0)),.V 16 (.len (.t 15)),.V 17 (.mv (.c (.int .i64 0)))] [0,1,6,15,16,17] []) (.block 0 (.loop impl_BarLines_k1))) impl_BarLines_k5)))) }
noncomputable def impl_BarLines_D : List (Nat × Callee) := [(23,impl_within_c),(517,impl_report_c),(518,strings_Repeat_c)]
def impl_BarLines_H : List (Nat × ET) := [(4,(.one .str)),(9,(.one .str)),(15,(.one (.int .i64))),(28,(.one .str)),(29,(.one (.int .i64))),(35,(.one .str)),(43,(.one .str)),(44,(.one .str)),(46,(.one .str)),(48,(.one .str))]
noncomputable def impl_BarLines_c : Callee := mkCallee impl_BarLines_D impl_BarLines_H impl_BarLines_ir [.d (.one (.sl (.one (.int .i64)))),.d (.one (.int .i64))] [.tok (.one .str),.d (.one (.int .i64))] []
noncomputable def impl_BarLines (a0 : List Int) (a1 : Int) : Option (List (List UInt8) × Int) := impl_BarLines_c.f (a0,a1,())
noncomputable def impl_BarLines_p0  (v0 : List Int) (v1 : Int) (v6 : Int) (v15 : List Int) (v16 : Int) (v17 : Int) : Option (List (List UInt8) × Int) :=
 goL impl_BarLines_D impl_BarLines_H (vleave impl_BarLines_ir [.d (.one (.sl (.one (.int .i64)))),.d (.one (.int .i64))] [.tok (.one .str),.d (.one (.int .i64))] [] []) [.c impl_BarLines_k0,.l impl_BarLines_k1,.e 0,.c impl_BarLines_k5]
  ⟨[(0,.sl (.one (.int .i64)) v0),(1,.int .i64 v1),(6,.int .i64 v6),(15,.sl (.one (.int .i64)) v15),(16,.int .i64 v16),(17,.int .i64 v17)],[]⟩
noncomputable def impl_BarLines_p1  (v1 : Int) (v6 : Int) (v29 : List Int) (v30 : Int) (v31 : Int) (r9 : List (List UInt8)) : Option (List (List UInt8) × Int) :=
 goL impl_BarLines_D impl_BarLines_H (vleave impl_BarLines_ir [.d (.one (.sl (.one (.int .i64)))),.d (.one (.int .i64))] [.tok (.one .str),.d (.one (.int .i64))] [] []) [.c impl_BarLines_k2,.l impl_BarLines_k3,.e 2,.c impl_BarLines_k4]
  ⟨[(1,.int .i64 v1),(6,.int .i64 v6),(9,.view 9 0 r9.length),(29,.sl (.one (.int .i64)) v29),(30,.int .i64 v30),(31,.int .i64 v31)],[(9,some (.sl (.one .str) r9))]⟩
theorem impl_BarLines_eq (a0 : List Int) (a1 : Int) : impl_BarLines a0 a1 =
 (impl_within a1 1 100).bind fun x1 =>
  if (!x1) then
   some ([],2)
  else
   impl_BarLines_p0 a0 a1 0 a0 (a0.length : Int) 0 :=
 (mk_f _ _ _ _ _ _ _ 4000).trans (by kernel_rfl)
theorem impl_BarLines_p0_eq  (v0 : List Int) (v1 : Int) (v6 : Int) (v15 : List Int) (v16 : Int) (v17 : Int) : impl_BarLines_p0 v0 v1 v6 v15 v16 v17 =
 if decide (v17 < v16) then
  if decide (0 ≤ v17) then
   (v15[v17.toNat]?).bind fun x1 =>
    (impl_within x1 0 1000000000000).bind fun x2 =>
     if (!x2) then
      some ([],2)
     else
      impl_BarLines_p0 v0 v1 (if x1 > v6 then x1 else v6) v15 v16 (IntKind.i64.wrap (v17 + 1))
  else
   none
 else
  impl_BarLines_p1 v1 v6 v0 (v0.length : Int) 0 [] :=
 (goL_dn _ _ _ 4000 _ _).trans (by kernel_rfl)
theorem impl_BarLines_p1_eq  (v1 : Int) (v6 : Int) (v29 : List Int) (v30 : Int) (v31 : Int) (r9 : List (List UInt8)) : impl_BarLines_p1 v1 v6 v29 v30 v31 r9 =
 if decide (v31 < v30) then
  if decide (0 ≤ v31) then
   (v29[v31.toNat]?).bind fun x1 =>
    if decide ((if v6 > 1 then v6 else 1) = 0) then
     none
    else
     (strings_Repeat [35] (IntKind.i64.wrap ((IntKind.i64.wrap (x1 * v1)).tdiv (if v6 > 1 then v6 else 1)))).bind fun x2 =>
      if decide (r9.length + 1 < lim) then
       impl_BarLines_p1 v1 v6 v29 v30 (IntKind.i64.wrap (v31 + 1)) ((r9.take r9.length) ++ [x2])
      else
       none
  else
   none
 else
  if decide (r9.length = r9.length) then
   (impl_report r9).bind fun x3 =>
    some ((x3.1.take x3.1.length),x3.2.1)
  else
   none :=
 (goL_dn _ _ _ 4000 _ _).trans (by kernel_rfl)
def laws_FnPages_k0 : C :=
 .seq (.seq (.reg false [.V 92 (.mv (.t 12)),.V 93 (.mv (.t 8)),.V 94 (.mv (.t 11)),.V 95 (.ia 1 (.t 93) (.t 94)),.V 96 (.ld none (.t 95)),.V 97 (.len (.t 96)),.V 98 (.bin .lss (.t 92) (.t 97))] [0,1,5,6,7,8,10,11,12,98] [5,8]) (.cond (.t 98) .skip (.exit 2))) (.seq (.block 3 (.seq (.seq (.reg true [.V 101 (.mv (.t 10)),.V 102 (.mv (.t 5)),.V 103 (.len (.t 102)),.V 104 (.bin .geq (.t 101) (.t 103)),.V 105 (.mv (.t 104)),.G 106 (.mv (.t 8)) 4 false,.G 107 (.mv (.t 11)) 4 false,.G 108 (.ia 1 (.t 106) (.t 107)) 4 false,.G 109 (.ld none (.t 108)) 4 false,.G 110 (.mv (.t 12)) 4 false,.G 111 (.ia 1 (.t 109) (.t 110)) 4 false,.G 112 (.ld none (.t 111)) 4 false,.G 113 (.mv (.t 5)) 4 false,.G 114 (.mv (.t 10)) 4 false,.G 115 (.ia 1 (.t 113) (.t 114)) 4 false,.G 116 (.ld none (.t 115)) 4 false,.G 117 (.bin .neq (.t 112) (.t 116)) 4 false,.V 118 (.pick (.t 105) (.c (.bool true)) (.t 117))] [0,1,5,6,7,8,10,11,12,118] [5,8]) (.cond (.t 118) (.seq (.reg false [.V 4 (.asg (.c (.bool false)))] [4] []) .ret) .skip)) (.reg false [.V 119 (.mv (.t 10)),.V 120 (.bin .add (.t 119) (.c (.int .i64 1))),.V 10 (.asg (.t 120))] [0,1,5,6,7,8,10,11,12] [5,8]))) (.reg false [.V 99 (.mv (.t 12)),.V 100 (.bin .add (.t 99) (.c (.int .i64 1))),.V 12 (.asg (.t 100))] [0,1,5,6,7,8,10,11,12] [5,8]))
def laws_FnPages_k1 : C :=
 .norm [0,1,5,6,7,8,10,11,12] [5,8] laws_FnPages_k0
def laws_FnPages_k2 : C :=
 .seq (.reg false [.V 12 (.asg (.c (.int .i64 1)))] [0,1,5,6,7,8,10,11,12] [5,8]) (.block 2 (.loop laws_FnPages_k1))
def laws_FnPages_k3 : C :=
 .reg false [.V 49 (.mv (.t 11)),.V 50 (.bin .add (.t 49) (.c (.int .i64 1))),.V 11 (.asg (.t 50))] [0,1,5,6,7,8,10,11] [5,8]
def laws_FnPages_k4 : C :=
 .seq (.seq (.reg false [.V 45 (.mv (.t 11)),.V 46 (.mv (.t 8)),.V 47 (.len (.t 46)),.V 48 (.bin .lss (.t 45) (.t 47))] [0,1,5,6,7,8,10,11,48] [5,8]) (.cond (.t 48) .skip (.exit 0))) (.seq (.block 1 (.seq (.seq (.reg false [.V 51 (.mv (.t 8)),.V 52 (.mv (.t 11)),.V 53 (.ia 1 (.t 51) (.t 52)),.V 54 (.ld none (.t 53)),.V 55 (.len (.t 54)),.V 56 (.bin .lss (.t 55) (.c (.int .i64 2))),.V 57 (.mv (.t 56)),.G 58 (.mv (.t 8)) 6 false,.G 59 (.mv (.t 11)) 6 false,.G 60 (.ia 1 (.t 58) (.t 59)) 6 false,.G 61 (.ld none (.t 60)) 6 false,.G 62 (.len (.t 61)) 6 false,.G 63 (.mv (.t 6)) 6 false,.G 64 (.bin .gtr (.t 62) (.t 63)) 6 false,.V 65 (.pick (.t 57) (.c (.bool true)) (.t 64)),.V 66 (.mv (.t 65)),.G 67 (.mv (.t 8)) 15 false,.G 68 (.mv (.t 11)) 15 false,.G 69 (.ia 1 (.t 67) (.t 68)) 15 false,.G 70 (.ld none (.t 69)) 15 false,.G 71 (.ia 1 (.t 70) (.c (.int .i64 0))) 15 false,.G 72 (.ld none (.t 71)) 15 false,.G 73 (.mv (.t 7)) 15 false,.G 74 (.bin .neq (.t 72) (.t 73)) 15 false,.V 75 (.pick (.t 66) (.c (.bool true)) (.t 74)),.V 76 (.mv (.t 75)),.G 77 (.mv (.t 11)) 25 false,.G 78 (.bin .add (.t 77) (.c (.int .i64 1))) 25 false,.G 79 (.mv (.t 8)) 25 false,.G 80 (.len (.t 79)) 25 false,.G 81 (.bin .lss (.t 78) (.t 80)) 25 false,.G 82 (.mv (.t 81)) 25 false,.G 83 (.mv (.t 8)) 31 true,.G 84 (.mv (.t 11)) 31 true,.G 85 (.ia 1 (.t 83) (.t 84)) 31 true,.G 86 (.ld none (.t 85)) 31 true,.G 87 (.len (.t 86)) 31 true,.G 88 (.mv (.t 6)) 31 true,.G 89 (.bin .neq (.t 87) (.t 88)) 31 true,.G 90 (.pick (.t 82) (.t 89) (.c (.bool false))) 25 false,.V 91 (.pick (.t 76) (.c (.bool true)) (.t 90))] [0,1,5,6,7,8,10,11,91] [5,8]) (.cond (.t 91) (.seq (.reg false [.V 4 (.asg (.c (.bool false)))] [4] []) .ret) .skip)) (.norm [0,1,5,6,7,8,10,11] [5,8] laws_FnPages_k2))) laws_FnPages_k3)
def laws_FnPages_k5 : C :=
 .norm [0,1,5,6,7,8,10,11] [5,8] laws_FnPages_k4
def laws_FnPages_k6 : C :=
 .seq (.reg false [.V 121 (.mv (.t 10)),.V 122 (.mv (.t 5)),.V 123 (.len (.t 122)),.V 124 (.bin .neq (.t 121) (.t 123))] [0,1,124] []) (.cond (.t 124) (.seq (.reg false [.V 4 (.asg (.c (.bool false)))] [4] []) .ret) .skip)
def laws_FnPages_k7 : C :=
 .seq (.seq (.reg false [.V 143 (.mv (.t 17)),.V 144 (.mv (.t 13)),.V 145 (.len (.t 144)),.V 146 (.bin .lss (.t 143) (.t 145))] [0,13,14,15,17,146] [13,15]) (.cond (.t 146) .skip (.exit 4))) (.seq (.block 5 (.seq (.reg false [.V 149 (.mv (.t 13)),.V 150 (.mv (.t 17)),.V 151 (.ia 1 (.t 149) (.t 150)),.V 152 (.ld none (.t 151)),.V 153 (.mv (.t 14)),.V 154 (.bin .eql (.t 152) (.t 153)),.V 155 (.mv (.t 154)),.G 156 (.mv (.t 15)) 6 true,.G 157 (.mv (.t 17)) 6 true,.G 158 (.call (.c (.fn 69 [])) [.t 156,.t 157]) 6 true,.G 159 (.un .not (.t 158)) 6 true,.V 160 (.pick (.t 155) (.t 159) (.c (.bool false)))] [0,13,14,15,17,160] [13,15]) (.cond (.t 160) (.seq (.reg false [.V 4 (.asg (.c (.bool false)))] [4] []) .ret) .skip))) (.reg false [.V 147 (.mv (.t 17)),.V 148 (.bin .add (.t 147) (.c (.int .i64 1))),.V 17 (.asg (.t 148))] [0,13,14,15,17] [13,15]))
def laws_FnPages_k8 : C :=
 .norm [0,13,14,15,17] [13,15] laws_FnPages_k7
def laws_FnPages_k9 : C :=
 .seq (.seq (.reg false [.V 188 (.mv (.t 23)),.V 189 (.mv (.t 18)),.V 190 (.len (.t 189)),.V 191 (.bin .lss (.t 188) (.t 190))] [18,19,20,22,23,191] [18,20]) (.cond (.t 191) .skip (.exit 8))) (.seq (.block 9 (.seq (.reg true [.V 194 (.mv (.t 18)),.V 195 (.mv (.t 22)),.V 196 (.ia 1 (.t 194) (.t 195)),.V 197 (.ld none (.t 196)),.V 198 (.mv (.t 18)),.V 199 (.mv (.t 23)),.V 200 (.ia 1 (.t 198) (.t 199)),.V 201 (.ld none (.t 200)),.V 202 (.bin .leq (.t 197) (.t 201)),.V 203 (.mv (.t 202)),.G 204 (.mv (.t 20)) 9 true,.G 205 (.mv (.t 22)) 9 true,.G 206 (.ia 1 (.t 204) (.t 205)) 9 true,.G 207 (.ld none (.t 206)) 9 true,.G 208 (.lens (.t 207)) 9 true,.G 209 (.mv (.t 20)) 9 true,.G 210 (.mv (.t 23)) 9 true,.G 211 (.ia 1 (.t 209) (.t 210)) 9 true,.G 212 (.ld none (.t 211)) 9 true,.G 213 (.lens (.t 212)) 9 true,.G 214 (.bin .gtr (.t 208) (.t 213)) 9 true,.V 215 (.pick (.t 203) (.t 214) (.c (.bool false)))] [18,19,20,22,23,215] [18,20]) (.cond (.t 215) (.seq (.reg false [.V 4 (.asg (.c (.bool false)))] [4] []) .ret) .skip))) (.reg false [.V 192 (.mv (.t 23)),.V 193 (.bin .add (.t 192) (.c (.int .i64 1))),.V 23 (.asg (.t 193))] [18,19,20,22,23] [18,20]))
def laws_FnPages_k10 : C :=
 .norm [18,19,20,22,23] [18,20] laws_FnPages_k9
def laws_FnPages_k11 : C :=
 .seq (.reg false [.V 216 (.mv (.t 20)),.V 217 (.mv (.t 22)),.V 218 (.ia 1 (.t 216) (.t 217)),.V 219 (.ld none (.t 218)),.V 220 (.lens (.t 219)),.V 221 (.mv (.t 19)),.V 222 (.bin .gtr (.t 220) (.t 221))] [18,19,20,22,222] [18,20]) (.cond (.t 222) (.seq (.reg false [.V 4 (.asg (.c (.bool false)))] [4] []) .ret) .skip)
def laws_FnPages_k12 : C :=
 .reg false [.V 186 (.mv (.t 22)),.V 187 (.bin .add (.t 186) (.c (.int .i64 1))),.V 22 (.asg (.t 187))] [18,19,20,22] [18,20]
def laws_FnPages_k13 : C :=
 .seq (.seq (.reg false [.V 182 (.mv (.t 22)),.V 183 (.mv (.t 18)),.V 184 (.len (.t 183)),.V 185 (.bin .lss (.t 182) (.t 184))] [18,19,20,22,185] [18,20]) (.cond (.t 185) .skip (.exit 6))) (.seq (.block 7 (.seq (.seq (.reg false [.V 23 (.asg (.c (.int .i64 0)))] [18,19,20,22,23] [18,20]) (.block 8 (.loop laws_FnPages_k10))) laws_FnPages_k11)) laws_FnPages_k12)
def laws_FnPages_k14 : C :=
 .norm [18,19,20,22] [18,20] laws_FnPages_k13
def laws_FnPages_k15 : C :=
 .seq (.reg false [.V 4 (.asg (.c (.bool true)))] [4] []) .ret
def laws_FnPages_k16 : C :=
 .seq (.reg false [.V 162 (.mv (.t 0)),.V 163 (.call (.c (.fn 181 [])) [.t 162]),.V 161 (.mv (.t 163)),.V 164 (.ext (.t 161) 0),.V 165 (.ext (.t 161) 1),.W 18 (.asg (.t 164)),.V 19 (.asg (.t 165))] [18,19] [18]) (.seq (.reg false [.V 167 (.mv (.t 18)),.V 168 (.mv (.t 19)),.V 169 (.call (.c (.fn 138 [])) [.t 167,.t 168]),.V 166 (.mv (.t 169)),.V 170 (.ext (.t 166) 0),.V 171 (.ext (.t 166) 1),.W 20 (.asg (.t 170)),.V 21 (.asg (.t 171))] [18,19,20,21] [18,20]) (.seq (.seq (.reg false [.V 172 (.mv (.t 21)),.V 173 (.bin .neq (.t 172) (.c (.int .i64 0)))] [18,19,20,173] [18,20]) (.cond (.t 173) (.seq (.reg false [.V 174 (.mv (.t 20)),.V 175 (.len (.t 174)),.V 176 (.bin .eql (.t 175) (.c (.int .i64 0))),.V 4 (.asg (.t 176))] [4] []) .ret) .skip)) (.seq (.seq (.reg false [.V 177 (.mv (.t 20)),.V 178 (.len (.t 177)),.V 179 (.mv (.t 18)),.V 180 (.len (.t 179)),.V 181 (.bin .neq (.t 178) (.t 180))] [18,19,20,181] [18,20]) (.cond (.t 181) (.seq (.reg false [.V 4 (.asg (.c (.bool false)))] [4] []) .ret) .skip)) (.seq (.seq (.reg false [.V 22 (.asg (.c (.int .i64 0)))] [18,19,20,22] [18,20]) (.block 6 (.loop laws_FnPages_k14))) laws_FnPages_k15))))
def laws_FnPages_k17 : C :=
 .norm [0] [] laws_FnPages_k16
def laws_FnPages_k18 : C :=
 .seq (.reg false [.V 126 (.mv (.t 1)),.V 127 (.call (.c (.fn 183 [])) [.t 126]),.V 125 (.mv (.t 127)),.V 128 (.ext (.t 125) 0),.V 129 (.ext (.t 125) 1),.W 13 (.asg (.t 128)),.V 14 (.asg (.t 129))] [0,13,14] [13]) (.seq (.reg false [.V 131 (.mv (.t 13)),.V 132 (.mv (.t 14)),.V 133 (.call (.c (.fn 182 [])) [.t 131,.t 132]),.V 130 (.mv (.t 133)),.V 134 (.ext (.t 130) 0),.V 135 (.ext (.t 130) 1),.W 15 (.asg (.t 134)),.V 16 (.asg (.t 135))] [0,13,14,15,16] [13,15]) (.seq (.seq (.reg false [.V 136 (.mv (.t 16)),.V 137 (.bin .eql (.t 136) (.c (.int .i64 0)))] [0,13,14,15,137] [13,15]) (.cond (.t 137) (.seq (.seq (.reg false [.V 138 (.mv (.t 15)),.V 139 (.mv (.t 13)),.V 140 (.len (.t 139)),.V 141 (.call (.c (.fn 71 [])) [.t 138,.t 140]),.V 142 (.un .not (.t 141))] [0,13,14,15,142] [13,15]) (.cond (.t 142) (.seq (.reg false [.V 4 (.asg (.c (.bool false)))] [4] []) .ret) .skip)) (.seq (.reg false [.V 17 (.asg (.c (.int .i64 0)))] [0,13,14,15,17] [13,15]) (.block 4 (.loop laws_FnPages_k8)))) .skip)) laws_FnPages_k17))
def laws_FnPages_k19 : C :=
 .norm [0,1] [] laws_FnPages_k18
def laws_FnPages_k20 : C :=
 .seq (.reg false [.V 31 (.mv (.t 0)),.V 32 (.call (.c (.fn 185 [])) [.t 31]),.V 30 (.mv (.t 32)),.V 33 (.ext (.t 30) 0),.V 34 (.ext (.t 30) 1),.V 35 (.ext (.t 30) 2),.W 5 (.asg (.t 33)),.V 6 (.asg (.t 34)),.V 7 (.asg (.t 35))] [0,1,5,6,7] [5]) (.seq (.reg false [.V 37 (.mv (.t 5)),.V 38 (.mv (.t 6)),.V 39 (.mv (.t 7)),.W 40 (.call (.c (.fn 184 [])) [.t 37,.t 38,.t 39]),.V 36 (.mv (.t 40)),.V 41 (.ext (.t 36) 0),.V 42 (.ext (.t 36) 1),.W 8 (.asg (.t 41)),.V 9 (.asg (.t 42))] [0,1,5,6,7,8,9] [5,8]) (.seq (.seq (.reg false [.V 43 (.mv (.t 9)),.V 44 (.bin .eql (.t 43) (.c (.int .i64 0)))] [0,1,5,6,7,8,44] [5,8]) (.cond (.t 44) (.seq (.reg false [.V 10 (.asg (.c (.int .i64 0)))] [0,1,5,6,7,8,10] [5,8]) (.seq (.seq (.reg false [.V 11 (.asg (.c (.int .i64 0)))] [0,1,5,6,7,8,10,11] [5,8]) (.block 0 (.loop laws_FnPages_k5))) laws_FnPages_k6)) .skip)) laws_FnPages_k19))
def laws_FnPages_ir : Fn := { np := 2,io := [],res := [.t 4],own := [false],body :=
 (.seq (.reg false [.V 4 (.asg (.c (.bool false)))] [0,1] []) (.seq (.seq (.reg false [.V 24 (.mv (.t 0)),.V 25 (.call (.c (.fn 76 [])) [.t 24]),.V 26 (.mv (.t 25)),.G 27 (.mv (.t 1)) 2 false,.G 28 (.call (.c (.fn 76 [])) [.t 27]) 2 false,.V 29 (.pick (.t 26) (.c (.bool true)) (.t 28))] [0,1,29] []) (.cond (.t 29) (.seq (.reg false [.V 4 (.asg (.c (.bool true)))] [4] []) .ret) .skip)) (.norm [0,1] [] laws_FnPages_k20))) }
noncomputable def laws_FnPages_D : List (Nat × Callee) := [(69,laws_b10Has_c),(71,laws_b10Rises_c),(76,laws_b10Long_c),(138,impl_BarLines_c),(181,spec_DrawBarLines_c),(182,impl_FindLines_c),(183,spec_DrawFindLines_c),(184,impl_PagesOf_c),(185,spec_DrawPagesOf_c)]
def laws_FnPages_H : List (Nat × ET) := [(5,(.one .str)),(8,(.one (.sl (.one .str)))),(13,(.one .str)),(15,(.one (.int .i64))),(18,(.one (.int .i64))),(20,(.one .str)),(24,(.one (.int .u8))),(27,(.one (.int .u8))),(31,(.one (.int .u8))),(33,(.one .str)),(37,(.one .str)),(41,(.one (.sl (.one .str)))),(46,(.one (.sl (.one .str)))),(51,(.one (.sl (.one .str)))),(54,(.one .str)),(58,(.one (.sl (.one .str)))),(61,(.one .str)),(67,(.one (.sl (.one .str)))),(70,(.one .str)),(79,(.one (.sl (.one .str)))),(83,(.one (.sl (.one .str)))),(86,(.one .str)),(93,(.one (.sl (.one .str)))),(96,(.one .str)),(102,(.one .str)),(106,(.one (.sl (.one .str)))),(109,(.one .str)),(113,(.one .str)),(122,(.one .str)),(126,(.one (.int .u8))),(128,(.one .str)),(131,(.one .str)),(134,(.one (.int .i64))),(138,(.one (.int .i64))),(139,(.one .str)),(144,(.one .str)),(149,(.one .str)),(156,(.one (.int .i64))),(162,(.one (.int .u8))),(164,(.one (.int .i64))),(167,(.one (.int .i64))),(170,(.one .str)),(174,(.one .str)),(177,(.one .str)),(179,(.one (.int .i64))),(183,(.one (.int .i64))),(189,(.one (.int .i64))),(194,(.one (.int .i64))),(198,(.one (.int .i64))),(204,(.one .str)),(209,(.one .str)),(216,(.one .str))]
noncomputable def laws_FnPages_c : Callee := mkCallee laws_FnPages_D laws_FnPages_H laws_FnPages_ir [.d (.one (.sl (.one (.int .u8)))),.d (.one (.sl (.one (.int .u8))))] [.d (.one .bool)] []
noncomputable def laws_FnPages (a0 : List Int) (a1 : List Int) : Option (Bool) := laws_FnPages_c.f (a0,a1,())
noncomputable def laws_FnPages_p0  (v0 : List Int) (v1 : List Int) : Option (Bool) :=
 goL laws_FnPages_D laws_FnPages_H (vleave laws_FnPages_ir [.d (.one (.sl (.one (.int .u8)))),.d (.one (.sl (.one (.int .u8))))] [.d (.one .bool)] [] []) [.c laws_FnPages_k20]
  ⟨[(0,.sl (.one (.int .u8)) v0),(1,.sl (.one (.int .u8)) v1)],[]⟩
noncomputable def laws_FnPages_p1  (v0 : List Int) (v1 : List Int) (v5 : List (List UInt8)) (v6 : Int) (v7 : List UInt8) (v8 : List (List (List UInt8))) (v10 : Int) (v11 : Int) : Option (Bool) :=
 goL laws_FnPages_D laws_FnPages_H (vleave laws_FnPages_ir [.d (.one (.sl (.one (.int .u8)))),.d (.one (.sl (.one (.int .u8))))] [.d (.one .bool)] [] []) [.c laws_FnPages_k4,.l laws_FnPages_k5,.e 0,.c laws_FnPages_k6,.c laws_FnPages_k19]
  ⟨[(0,.sl (.one (.int .u8)) v0),(1,.sl (.one (.int .u8)) v1),(5,.sl (.one .str) v5),(6,.int .i64 v6),(7,.str v7),(8,.sl (.one (.sl (.one .str))) v8),(10,.int .i64 v10),(11,.int .i64 v11)],[(5,none),(8,none)]⟩
noncomputable def laws_FnPages_p2  (v0 : List Int) (v1 : List Int) : Option (Bool) :=
 goL laws_FnPages_D laws_FnPages_H (vleave laws_FnPages_ir [.d (.one (.sl (.one (.int .u8)))),.d (.one (.sl (.one (.int .u8))))] [.d (.one .bool)] [] []) [.c laws_FnPages_k18]
  ⟨[(0,.sl (.one (.int .u8)) v0),(1,.sl (.one (.int .u8)) v1)],[]⟩
noncomputable def laws_FnPages_p3  (v0 : List Int) (v1 : List Int) (v5 : List (List UInt8)) (v6 : Int) (v7 : List UInt8) (v8 : List (List (List UInt8))) (v10 : Int) (v11 : Int) : Option (Bool) :=
 goL laws_FnPages_D laws_FnPages_H (vleave laws_FnPages_ir [.d (.one (.sl (.one (.int .u8)))),.d (.one (.sl (.one (.int .u8))))] [.d (.one .bool)] [] []) [.c laws_FnPages_k2,.e 1,.c laws_FnPages_k3,.l laws_FnPages_k5,.e 0,.c laws_FnPages_k6,.c laws_FnPages_k19]
  ⟨[(0,.sl (.one (.int .u8)) v0),(1,.sl (.one (.int .u8)) v1),(5,.sl (.one .str) v5),(6,.int .i64 v6),(7,.str v7),(8,.sl (.one (.sl (.one .str))) v8),(10,.int .i64 v10),(11,.int .i64 v11)],[(5,none),(8,none)]⟩
noncomputable def laws_FnPages_p4  (v0 : List Int) (v14 : List UInt8) (v17 : Int) (r13 : List (List UInt8)) (r15 : List Int) : Option (Bool) :=
 goL laws_FnPages_D laws_FnPages_H (vleave laws_FnPages_ir [.d (.one (.sl (.one (.int .u8)))),.d (.one (.sl (.one (.int .u8))))] [.d (.one .bool)] [] []) [.c laws_FnPages_k7,.l laws_FnPages_k8,.e 4,.c laws_FnPages_k17]
  ⟨[(0,.sl (.one (.int .u8)) v0),(13,.view 13 0 r13.length),(14,.str v14),(15,.view 15 0 r15.length),(17,.int .i64 v17)],[(13,some (.sl (.one .str) r13)),(15,some (.sl (.one (.int .i64)) r15))]⟩
noncomputable def laws_FnPages_p5  (v0 : List Int) : Option (Bool) :=
 goL laws_FnPages_D laws_FnPages_H (vleave laws_FnPages_ir [.d (.one (.sl (.one (.int .u8)))),.d (.one (.sl (.one (.int .u8))))] [.d (.one .bool)] [] []) [.c laws_FnPages_k16]
  ⟨[(0,.sl (.one (.int .u8)) v0)],[]⟩
noncomputable def laws_FnPages_p6  (v0 : List Int) (v1 : List Int) (v5 : List (List UInt8)) (v6 : Int) (v7 : List UInt8) (v8 : List (List (List UInt8))) (v10 : Int) (v11 : Int) (v12 : Int) : Option (Bool) :=
 goL laws_FnPages_D laws_FnPages_H (vleave laws_FnPages_ir [.d (.one (.sl (.one (.int .u8)))),.d (.one (.sl (.one (.int .u8))))] [.d (.one .bool)] [] []) [.c laws_FnPages_k0,.l laws_FnPages_k1,.e 2,.e 1,.c laws_FnPages_k3,.l laws_FnPages_k5,.e 0,.c laws_FnPages_k6,.c laws_FnPages_k19]
  ⟨[(0,.sl (.one (.int .u8)) v0),(1,.sl (.one (.int .u8)) v1),(5,.sl (.one .str) v5),(6,.int .i64 v6),(7,.str v7),(8,.sl (.one (.sl (.one .str))) v8),(10,.int .i64 v10),(11,.int .i64 v11),(12,.int .i64 v12)],[(5,none),(8,none)]⟩
noncomputable def laws_FnPages_p7  (v19 : Int) (v22 : Int) (r18 : List Int) (r20 : List (List UInt8)) : Option (Bool) :=
 goL laws_FnPages_D laws_FnPages_H (vleave laws_FnPages_ir [.d (.one (.sl (.one (.int .u8)))),.d (.one (.sl (.one (.int .u8))))] [.d (.one .bool)] [] []) [.c laws_FnPages_k13,.l laws_FnPages_k14,.e 6,.c laws_FnPages_k15]
  ⟨[(18,.view 18 0 r18.length),(19,.int .i64 v19),(20,.view 20 0 r20.length),(22,.int .i64 v22)],[(18,some (.sl (.one (.int .i64)) r18)),(20,some (.sl (.one .str) r20))]⟩
noncomputable def laws_FnPages_p8  (v19 : Int) (v22 : Int) (v23 : Int) (r18 : List Int) (r20 : List (List UInt8)) : Option (Bool) :=
 goL laws_FnPages_D laws_FnPages_H (vleave laws_FnPages_ir [.d (.one (.sl (.one (.int .u8)))),.d (.one (.sl (.one (.int .u8))))] [.d (.one .bool)] [] []) [.c laws_FnPages_k9,.l laws_FnPages_k10,.e 8,.c laws_FnPages_k11,.e 7,.c laws_FnPages_k12,.l laws_FnPages_k14,.e 6,.c laws_FnPages_k15]
  ⟨[(18,.view 18 0 r18.length),(19,.int .i64 v19),(20,.view 20 0 r20.length),(22,.int .i64 v22),(23,.int .i64 v23)],[(18,some (.sl (.one (.int .i64)) r18)),(20,some (.sl (.one .str) r20))]⟩
theorem laws_FnPages_eq (a0 : List Int) (a1 : List Int) : laws_FnPages a0 a1 =
 (laws_b10Long a0).bind fun x1 =>
  if x1 then
   some true
  else
   (laws_b10Long a1).bind fun x2 =>
    if x2 then
     some true
    else
     laws_FnPages_p0 a0 a1 :=
 (mk_f _ _ _ _ _ _ _ 4000).trans (by kernel_rfl)
theorem laws_FnPages_p0_eq  (v0 : List Int) (v1 : List Int) : laws_FnPages_p0 v0 v1 =
 (spec_DrawPagesOf v0).bind fun x1 =>
  (impl_PagesOf (x1.1.take x1.1.length) x1.2.1 x1.2.2).bind fun x2 =>
   if (x2.2 == 0) then
    laws_FnPages_p1 v0 v1 (x1.1.take x1.1.length) x1.2.1 x1.2.2 x2.1 0 0
   else
    laws_FnPages_p2 v0 v1 :=
 (goL_dn _ _ _ 4000 _ _).trans (by kernel_rfl)
theorem laws_FnPages_p1_eq  (v0 : List Int) (v1 : List Int) (v5 : List (List UInt8)) (v6 : Int) (v7 : List UInt8) (v8 : List (List (List UInt8))) (v10 : Int) (v11 : Int) : laws_FnPages_p1 v0 v1 v5 v6 v7 v8 v10 v11 =
 if decide (v11 < (v8.length : Int)) then
  if decide (0 ≤ v11) then
   (v8[v11.toNat]?).bind fun x1 =>
    if decide ((x1.length : Int) < 2) then
     some false
    else
     if decide (0 ≤ v11) then
      (v8[v11.toNat]?).bind fun x2 =>
       if decide ((x2.length : Int) > v6) then
        some false
       else
        if decide (0 ≤ v11) then
         (v8[v11.toNat]?).bind fun x3 =>
          (x3[0]?).bind fun x4 =>
           if (!(x4 == v7)) then
            some false
           else
            if decide (IntKind.i64.wrap (v11 + 1) < (v8.length : Int)) then
             if decide (0 ≤ v11) then
              (v8[v11.toNat]?).bind fun x5 =>
               if ((x5.length : Int) != v6) then
                some false
               else
                laws_FnPages_p3 v0 v1 v5 v6 v7 v8 v10 v11
             else
              none
            else
             laws_FnPages_p3 v0 v1 v5 v6 v7 v8 v10 v11
        else
         none
     else
      none
  else
   none
 else
  if (v10 != (v5.length : Int)) then
   some false
  else
   laws_FnPages_p2 v0 v1 :=
 (goL_dn _ _ _ 4000 _ _).trans (by kernel_rfl)
theorem laws_FnPages_p2_eq  (v0 : List Int) (v1 : List Int) : laws_FnPages_p2 v0 v1 =
 (spec_DrawFindLines v1).bind fun x1 =>
  (impl_FindLines (x1.1.take x1.1.length) x1.2).bind fun x2 =>
   if (x2.2 == 0) then
    (laws_b10Rises (x2.1.take x2.1.length) (x1.1.length : Int)).bind fun x3 =>
     if (!x3) then
      some false
     else
      laws_FnPages_p4 v0 x1.2 0 x1.1 x2.1
   else
    laws_FnPages_p5 v0 :=
 (goL_dn _ _ _ 4000 _ _).trans (by kernel_rfl)
theorem laws_FnPages_p3_eq  (v0 : List Int) (v1 : List Int) (v5 : List (List UInt8)) (v6 : Int) (v7 : List UInt8) (v8 : List (List (List UInt8))) (v10 : Int) (v11 : Int) : laws_FnPages_p3 v0 v1 v5 v6 v7 v8 v10 v11 =
 laws_FnPages_p6 v0 v1 v5 v6 v7 v8 v10 v11 1 :=
 (goL_dn _ _ _ 4000 _ _).trans (by kernel_rfl)
theorem laws_FnPages_p4_eq  (v0 : List Int) (v14 : List UInt8) (v17 : Int) (r13 : List (List UInt8)) (r15 : List Int) : laws_FnPages_p4 v0 v14 v17 r13 r15 =
 if decide (v17 < (r13.length : Int)) then
  if decide (0 ≤ v17) && decide (v17 < (r13.length : Int)) then
   (r13[v17.toNat]?).bind fun x1 =>
    if (x1 == v14) then
     (laws_b10Has (r15.take r15.length) v17).bind fun x2 =>
      if (!x2) then
       some false
      else
       laws_FnPages_p4 v0 v14 (IntKind.i64.wrap (v17 + 1)) r13 r15
    else
     laws_FnPages_p4 v0 v14 (IntKind.i64.wrap (v17 + 1)) r13 r15
  else
   none
 else
  laws_FnPages_p5 v0 :=
 (goL_dn _ _ _ 4000 _ _).trans (by kernel_rfl)
theorem laws_FnPages_p5_eq  (v0 : List Int) : laws_FnPages_p5 v0 =
 (spec_DrawBarLines v0).bind fun x1 =>
  (impl_BarLines (x1.1.take x1.1.length) x1.2).bind fun x2 =>
   if (x2.2 != 0) then
    some ((x2.1.length : Int) == 0)
   else
    if ((x2.1.length : Int) != (x1.1.length : Int)) then
     some false
    else
     laws_FnPages_p7 x1.2 0 x1.1 x2.1 :=
 (goL_dn _ _ _ 4000 _ _).trans (by kernel_rfl)
theorem laws_FnPages_p6_eq  (v0 : List Int) (v1 : List Int) (v5 : List (List UInt8)) (v6 : Int) (v7 : List UInt8) (v8 : List (List (List UInt8))) (v10 : Int) (v11 : Int) (v12 : Int) : laws_FnPages_p6 v0 v1 v5 v6 v7 v8 v10 v11 v12 =
 if decide (0 ≤ v11) then
  (v8[v11.toNat]?).bind fun x1 =>
   if decide (v12 < (x1.length : Int)) then
    if decide (v10 ≥ (v5.length : Int)) then
     some false
    else
     if decide (0 ≤ v11) then
      (v8[v11.toNat]?).bind fun x2 =>
       if decide (0 ≤ v12) then
        (x2[v12.toNat]?).bind fun x3 =>
         if decide (0 ≤ v10) then
          (v5[v10.toNat]?).bind fun x4 =>
           if (!(x3 == x4)) then
            some false
           else
            laws_FnPages_p6 v0 v1 v5 v6 v7 v8 (IntKind.i64.wrap (v10 + 1)) v11 (IntKind.i64.wrap (v12 + 1))
         else
          none
       else
        none
     else
      none
   else
    laws_FnPages_p1 v0 v1 v5 v6 v7 v8 v10 (IntKind.i64.wrap (v11 + 1))
 else
  none :=
 (goL_dn _ _ _ 4000 _ _).trans (by kernel_rfl)
theorem laws_FnPages_p7_eq  (v19 : Int) (v22 : Int) (r18 : List Int) (r20 : List (List UInt8)) : laws_FnPages_p7 v19 v22 r18 r20 =
 if decide (v22 < (r18.length : Int)) then
  laws_FnPages_p8 v19 v22 0 r18 r20
 else
  some true :=
 (goL_dn _ _ _ 4000 _ _).trans (by kernel_rfl)
theorem laws_FnPages_p8_eq  (v19 : Int) (v22 : Int) (v23 : Int) (r18 : List Int) (r20 : List (List UInt8)) : laws_FnPages_p8 v19 v22 v23 r18 r20 =
 if decide (v23 < (r18.length : Int)) then
  if decide (0 ≤ v22) && decide (v22 < (r18.length : Int)) then
   (r18[v22.toNat]?).bind fun x1 =>
    if decide (0 ≤ v23) && decide (v23 < (r18.length : Int)) then
     (r18[v23.toNat]?).bind fun x2 =>
      if decide (x1 ≤ x2) then
       if decide (0 ≤ v22) && decide (v22 < (r20.length : Int)) then
        (r20[v22.toNat]?).bind fun x3 =>
         if decide (0 ≤ v23) && decide (v23 < (r20.length : Int)) then
          (r20[v23.toNat]?).bind fun x4 =>
           if decide ((x3.length : Int) > (x4.length : Int)) then
            some false
           else
            laws_FnPages_p8 v19 v22 (IntKind.i64.wrap (v23 + 1)) r18 r20
         else
          none
       else
        none
      else
       laws_FnPages_p8 v19 v22 (IntKind.i64.wrap (v23 + 1)) r18 r20
    else
     none
  else
   none
 else
  if decide (0 ≤ v22) && decide (v22 < (r20.length : Int)) then
   (r20[v22.toNat]?).bind fun x5 =>
    if decide ((x5.length : Int) > v19) then
     some false
    else
     laws_FnPages_p7 v19 (IntKind.i64.wrap (v22 + 1)) r18 r20
  else
   none :=
 (goL_dn _ _ _ 4000 _ _).trans (by kernel_rfl)
end Go.Ab.P
