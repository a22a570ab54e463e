/- Functions of the program: abstract forms, and what their runs give. Conditions: none. -/
import Derived.Test.YtpokgomeahjacaaL4
set_option maxRecDepth 100000
set_option linter.unusedVariables false
namespace Go.Ab.P
open Go.Ab
@[reducible] def T_Mode : ET := .agg (.cons .str (.cons (.int .i64) (.cons (.int .i64) .nil)))
@[reducible] def T_cutting : ET := .agg (.cons (.sl T_Mode) (.cons (.int .i64) (.cons (.int .i64) (.cons (.sl (.one (.int .i64))) (.cons (.sl (.one (.int .i64))) (.cons (.int .i64) (.cons (.int .i64) .nil)))))))
@[reducible] def T_l00Src : ET := .agg (.cons (.sl (.one (.int .u8))) (.cons (.int .i64) (.cons (.int .u64) .nil)))
@[reducible] def T_cuttingO : ET := .agg (.cons (.sl T_Mode) (.cons (.int .i64) (.cons (.int .i64) (.cons (.own (.one (.int .i64))) (.cons (.own (.one (.int .i64))) (.cons (.int .i64) (.cons (.int .i64) .nil)))))))
def laws_b10Long_ir : Fn := { np := 1,io := [],res := [.t 2],own := [false],body :=
 (.seq (.reg false [.V 2 (.asg (.c (.bool false)))] [0] []) (.seq (.reg false [.V 3 (.mv (.t 0)),.V 4 (.len (.t 3)),.V 5 (.bin .gtr (.t 4) (.c (.int .i64 1048576))),.V 2 (.asg (.t 5))] [2] []) .ret)) }
noncomputable def laws_b10Long_D : List (Nat × Callee) := []
def laws_b10Long_H : List (Nat × ET) := [(3,(.one (.int .u8)))]
noncomputable def laws_b10Long_c : Callee := mkCallee laws_b10Long_D laws_b10Long_H laws_b10Long_ir [.d (.one (.sl (.one (.int .u8))))] [.d (.one .bool)] []
noncomputable def laws_b10Long (a0 : List Int) : Option (Bool) := laws_b10Long_c.f (a0,())
theorem laws_b10Long_eq (a0 : List Int) : laws_b10Long a0 =
 some (decide ((a0.length : Int) > 1048576)) :=
 (mk_f _ _ _ _ _ _ _ 4000).trans (by kernel_rfl)
def spec_l00From_ir : Fn := { np := 1,io := [],res := [.t 2],own := [true],body :=
 (.seq (.reg false [.V 2 (.asg (.c (.cst (.pointer none))))] [0] []) (.seq (.reg false [.V 3 (.mv (.t 0)),.V 4 (.build [.nils 1,.int .i64 0,.int .u64 0] [(0,1,.t 3)]),.W 5 (.box 3 (.t 4)),.V 2 (.asg (.t 5))] [2] [5,6000]) .ret)) }
noncomputable def spec_l00From_D : List (Nat × Callee) := []
def spec_l00From_H : List (Nat × ET) := [(3,(.one (.int .u8)))]
noncomputable def spec_l00From_c : Callee := mkCallee spec_l00From_D spec_l00From_H spec_l00From_ir [.d (.one (.sl (.one (.int .u8))))] [.box T_l00Src] []
noncomputable def spec_l00From (a0 : List Int) : Option (T_l00Src.ty) := spec_l00From_c.f (a0,())
theorem spec_l00From_eq (a0 : List Int) : spec_l00From a0 =
 some (a0,0,0,()) :=
 (mk_f _ _ _ _ _ _ _ 4000).trans (by kernel_rfl)
def spec_l00Src_next_k0 : C :=
 .seq (.reg false [.V 25 (.mv (.t 0)),.V 26 (.nilck (.t 25)),.V 27 (.fa 1 (.t 26)),.V 28 (.ld none (.t 27)),.V 29 (.bin .add (.t 28) (.c (.int .i64 1))),.V 30 (.nilck (.t 25)),.V 31 (.fa 1 (.t 30)),⟨none,true,.sto 1 (.t 31) (.t 29),none,false,[]⟩] [0,3] [0,1000]) (.seq (.reg false [.V 32 (.mv (.t 0)),.V 33 (.mv (.t 0)),.V 34 (.nilck (.t 33)),.V 35 (.fa 2 (.t 34)),.V 36 (.ld none (.t 35)),.V 37 (.bin .mul (.t 36) (.c (.int .u64 6364136223846793005))),.V 38 (.mv (.t 3)),.V 39 (.conv (.int .u64) (.t 38)),.V 40 (.bin .add (.t 37) (.t 39)),.V 41 (.bin .add (.t 40) (.c (.int .u64 1442695040888963407))),.V 42 (.nilck (.t 32)),.V 43 (.fa 2 (.t 42)),⟨none,true,.sto 1 (.t 43) (.t 41),none,false,[]⟩] [0,3] [0,1000]) (.seq (.seq (.reg true [.V 44 (.mv (.t 0)),.V 45 (.nilck (.t 44)),.V 46 (.fa 1 (.t 45)),.V 47 (.ld none (.t 46)),.V 48 (.mv (.t 0)),.V 49 (.nilck (.t 48)),.V 50 (.fa 0 (.t 49)),.V 51 (.ld none (.t 50)),.V 52 (.len (.t 51)),.V 53 (.bin .leq (.t 47) (.t 52))] [0,3,53] [0,1000]) (.cond (.t 53) (.seq (.reg false [.V 54 (.mv (.t 3)),.V 2 (.asg (.t 54))] [0,2] [0,1000]) .ret) .skip)) (.seq (.reg false [.V 55 (.mv (.t 0)),.V 56 (.nilck (.t 55)),.V 57 (.fa 2 (.t 56)),.V 58 (.ld none (.t 57)),.V 59 (.bin .shr (.t 58) (.c (.int .u64 40))),.V 60 (.bin .and (.t 59) (.c (.int .u64 255))),.V 61 (.conv (.int .i64) (.t 60)),.V 2 (.asg (.t 61))] [0,2] [0,1000]) .ret)))
def spec_l00Src_next_ir : Fn := { np := 1,io := [true],res := [.t 2],own := [false],body :=
 (.seq (.reg false [.V 2 (.asg (.c (.int .i64 0)))] [0] [0,1000]) (.seq (.reg false [.V 3 (.asg (.c (.int .i64 0)))] [0,3] [0,1000]) (.seq (.seq (.reg true [.V 4 (.mv (.t 0)),.V 5 (.nilck (.t 4)),.V 6 (.fa 1 (.t 5)),.V 7 (.ld none (.t 6)),.V 8 (.mv (.t 0)),.V 9 (.nilck (.t 8)),.V 10 (.fa 0 (.t 9)),.V 11 (.ld none (.t 10)),.V 12 (.len (.t 11)),.V 13 (.bin .lss (.t 7) (.t 12))] [0,3,13] [0,1000]) (.cond (.t 13) (.reg true [.V 14 (.mv (.t 0)),.V 15 (.nilck (.t 14)),.V 16 (.fa 0 (.t 15)),.V 17 (.ld none (.t 16)),.V 18 (.mv (.t 0)),.V 19 (.nilck (.t 18)),.V 20 (.fa 1 (.t 19)),.V 21 (.ld none (.t 20)),.V 22 (.ia 1 (.t 17) (.t 21)),.V 23 (.ld none (.t 22)),.V 24 (.conv (.int .i64) (.t 23)),.V 3 (.asg (.t 24))] [0,3] [0,1000]) .skip)) (.norm [0,3] [0,1000] spec_l00Src_next_k0)))) }
noncomputable def spec_l00Src_next_D : List (Nat × Callee) := []
def spec_l00Src_next_H : List (Nat × ET) := [(11,(.one (.int .u8))),(17,(.one (.int .u8))),(51,(.one (.int .u8)))]
noncomputable def spec_l00Src_next_c : Callee := mkCallee spec_l00Src_next_D spec_l00Src_next_H spec_l00Src_next_ir [.box T_l00Src] [.d (.one (.int .i64))] [.box T_l00Src]
noncomputable def spec_l00Src_next (a0 : T_l00Src.ty) : Option (Int × T_l00Src.ty) := spec_l00Src_next_c.f (a0,())
noncomputable def spec_l00Src_next_p0  (v3 : Int) (r0_0 : List Int) (r0_1 : Int) (r0_2 : Int) : Option (Int × T_l00Src.ty) :=
 goL spec_l00Src_next_D spec_l00Src_next_H (vleave spec_l00Src_next_ir [.box T_l00Src] [.d (.one (.int .i64))] [.box T_l00Src] []) [.c spec_l00Src_next_k0]
  ⟨[(0,.loc 0 0 0),(3,.int .i64 v3)],[(0,some (.var 3 (.agg [.sl (.one (.int .u8)) r0_0,.int .i64 r0_1,.int .u64 r0_2]))),(1000,none)]⟩
theorem spec_l00Src_next_eq (a0 : T_l00Src.ty) : spec_l00Src_next a0 =
 if decide (a0.2.1 < (a0.1.length : Int)) then
  if decide (0 ≤ a0.2.1) then
   (a0.1[a0.2.1.toNat]?).bind fun x1 =>
    spec_l00Src_next_p0 (IntKind.i64.wrap x1) a0.1 a0.2.1 a0.2.2.1
  else
   none
 else
  spec_l00Src_next_p0 0 a0.1 a0.2.1 a0.2.2.1 :=
 (mk_f _ _ _ _ _ _ _ 4000).trans (by kernel_rfl)
theorem spec_l00Src_next_p0_eq  (v3 : Int) (r0_0 : List Int) (r0_1 : Int) (r0_2 : Int) : spec_l00Src_next_p0 v3 r0_0 r0_1 r0_2 =
 if decide (IntKind.i64.wrap (r0_1 + 1) ≤ (r0_0.length : Int)) then
  some (v3,(r0_0,IntKind.i64.wrap (r0_1 + 1),IntKind.u64.wrap ((IntKind.u64.wrap ((IntKind.u64.wrap (r0_2 * 6364136223846793005)) + (IntKind.u64.wrap v3))) + 1442695040888963407),()))
 else
  some (IntKind.i64.wrap (IntKind.u64.wrap ((BitVec.ofInt IntKind.u64.bits (Int.fdiv (IntKind.u64.wrap ((IntKind.u64.wrap ((IntKind.u64.wrap (r0_2 * 6364136223846793005)) + (IntKind.u64.wrap v3))) + 1442695040888963407)) (2 ^ (min (40 : Int).toNat IntKind.u64.bits))) &&& BitVec.ofInt IntKind.u64.bits 255).toNat : Int)),(r0_0,IntKind.i64.wrap (r0_1 + 1),IntKind.u64.wrap ((IntKind.u64.wrap ((IntKind.u64.wrap (r0_2 * 6364136223846793005)) + (IntKind.u64.wrap v3))) + 1442695040888963407),())) :=
 (goL_dn _ _ _ 4000 _ _).trans (by kernel_rfl)
def spec_l00Src_pick_ir : Fn := { np := 2,io := [true,false],res := [.t 4],own := [false],body :=
 (.seq (.reg false [.V 4 (.asg (.c (.int .i64 0)))] [0,1] [0,1000]) (.seq (.seq (.reg false [.V 6 (.mv (.t 1)),.V 7 (.bin .leq (.t 6) (.c (.int .i64 1)))] [0,1,7] [0,1000]) (.cond (.t 7) (.seq (.reg false [.V 4 (.asg (.c (.int .i64 0)))] [0,4] [0,1000]) .ret) .skip)) (.seq (.reg false [.V 8 (.mv (.t 0)),.W 9 (.call (.c (.fn 847 [])) [.t 8]),.V 5 (.asg (.t 9))] [0,1,5] [0,1000]) (.seq (.seq (.reg false [.V 10 (.mv (.t 1)),.V 11 (.bin .gtr (.t 10) (.c (.int .i64 200)))] [0,1,5,11] [0,1000]) (.cond (.t 11) (.reg false [.V 12 (.mv (.t 5)),.V 13 (.bin .mul (.t 12) (.c (.int .i64 256))),.V 14 (.mv (.t 0)),.W 15 (.call (.c (.fn 847 [])) [.t 14]),.V 16 (.bin .add (.t 13) (.t 15)),.V 5 (.asg (.t 16))] [0,1,5] [0,1000]) .skip)) (.seq (.reg false [.V 17 (.mv (.t 5)),.V 18 (.mv (.t 1)),.V 19 (.bin .rem (.t 17) (.t 18)),.V 4 (.asg (.t 19))] [0,4] [0,1000]) .ret))))) }
noncomputable def spec_l00Src_pick_D : List (Nat × Callee) := [(847,spec_l00Src_next_c)]
def spec_l00Src_pick_H : List (Nat × ET) := []
noncomputable def spec_l00Src_pick_c : Callee := mkCallee spec_l00Src_pick_D spec_l00Src_pick_H spec_l00Src_pick_ir [.box T_l00Src,.d (.one (.int .i64))] [.d (.one (.int .i64))] [.box T_l00Src]
noncomputable def spec_l00Src_pick (a0 : T_l00Src.ty) (a1 : Int) : Option (Int × T_l00Src.ty) := spec_l00Src_pick_c.f (a0,a1,())
theorem spec_l00Src_pick_eq (a0 : T_l00Src.ty) (a1 : Int) : spec_l00Src_pick a0 a1 =
 if decide (a1 ≤ 1) then
  some (0,a0)
 else
  (spec_l00Src_next a0).bind fun x1 =>
   if decide (a1 > 200) then
    (spec_l00Src_next (x1.2.1,x1.2.2.1,x1.2.2.2.1,())).bind fun x2 =>
     if decide (a1 = 0) then
      none
     else
      some ((IntKind.i64.wrap ((IntKind.i64.wrap (x1.1 * 256)) + x2.1)).tmod a1,(x2.2.1,x2.2.2.1,x2.2.2.2.1,()))
   else
    if decide (a1 = 0) then
     none
    else
     some (x1.1.tmod a1,(x1.2.1,x1.2.2.1,x1.2.2.2.1,())) :=
 (mk_f _ _ _ _ _ _ _ 4000).trans (by kernel_rfl)
def spec_l00Src_one_ir : Fn := { np := 2,io := [true,false],res := [.t 4],own := [false],body :=
 (.seq (.reg false [.V 4 (.asg (.c (.bool false)))] [0,1] [0,1000]) (.seq (.reg false [.V 5 (.mv (.t 0)),.V 6 (.mv (.t 1)),.W 7 (.call (.c (.fn 463 [])) [.t 5,.t 6]),.V 8 (.bin .eql (.t 7) (.c (.int .i64 0))),.V 4 (.asg (.t 8))] [0,4] [0,1000]) .ret)) }
noncomputable def spec_l00Src_one_D : List (Nat × Callee) := [(463,spec_l00Src_pick_c)]
def spec_l00Src_one_H : List (Nat × ET) := []
noncomputable def spec_l00Src_one_c : Callee := mkCallee spec_l00Src_one_D spec_l00Src_one_H spec_l00Src_one_ir [.box T_l00Src,.d (.one (.int .i64))] [.d (.one .bool)] [.box T_l00Src]
noncomputable def spec_l00Src_one (a0 : T_l00Src.ty) (a1 : Int) : Option (Bool × T_l00Src.ty) := spec_l00Src_one_c.f (a0,a1,())
theorem spec_l00Src_one_eq (a0 : T_l00Src.ty) (a1 : Int) : spec_l00Src_one a0 a1 =
 (spec_l00Src_pick a0 a1).bind fun x1 =>
  some ((x1.1 == 0),(x1.2.1,x1.2.2.1,x1.2.2.2.1,())) :=
 (mk_f _ _ _ _ _ _ _ 4000).trans (by kernel_rfl)
def spec_l06DrawOne_ir : Fn := { np := 2,io := [true,false],res := [.cell 4 (some 3)],own := [false],body :=
 (.seq (.reg false [.W 4 (.alloc 3 (.agg [.str [],.int .i64 0,.int .i64 0]))] [0,1,4] [0,4,1000]) (.seq (.reg false [.V 6 (.mv (.t 1)),.V 7 (.mv (.t 0)),.W 8 (.call (.c (.fn 463 [])) [.t 7,.c (.int .i64 160)]),.V 9 (.bin .mul (.c (.int .i64 10)) (.t 8)),.V 10 (.bin .add (.c (.int .i64 500)) (.t 9)),.V 11 (.build [.str [],.int .i64 0,.int .i64 0] [(0,1,.t 6),(1,1,.t 10)]),.W 5 (.alloc 3 (.agg [.str [],.int .i64 0,.int .i64 0])),⟨none,true,.sto 3 (.t 5) (.t 11),none,false,[]⟩] [0,4,5] [0,4,5,1000]) (.seq (.reg false [.V 12 (.mv (.t 0)),.W 13 (.call (.c (.fn 463 [])) [.t 12,.c (.int .i64 20)]),.V 14 (.bin .mul (.c (.int .i64 5)) (.t 13)),.V 15 (.bin .add (.c (.int .i64 250)) (.t 14)),.V 16 (.fa 2 (.t 5)),⟨none,true,.sto 1 (.t 16) (.t 15),none,false,[]⟩] [0,4,5] [0,4,5,1000]) (.seq (.reg false [.V 17 (.ld (some 3) (.t 5)),⟨none,true,.sto 3 (.t 4) (.t 17),none,false,[]⟩] [0,4] [0,4,1000]) .ret)))) }
noncomputable def spec_l06DrawOne_D : List (Nat × Callee) := [(463,spec_l00Src_pick_c)]
def spec_l06DrawOne_H : List (Nat × ET) := []
noncomputable def spec_l06DrawOne_c : Callee := mkCallee spec_l06DrawOne_D spec_l06DrawOne_H spec_l06DrawOne_ir [.box T_l00Src,.d (.one .str)] [.d T_Mode] [.box T_l00Src]
noncomputable def spec_l06DrawOne (a0 : T_l00Src.ty) (a1 : List UInt8) : Option (T_Mode.ty × T_l00Src.ty) := spec_l06DrawOne_c.f (a0,a1,())
theorem spec_l06DrawOne_eq (a0 : T_l00Src.ty) (a1 : List UInt8) : spec_l06DrawOne a0 a1 =
 (spec_l00Src_pick a0 160).bind fun x1 =>
  (spec_l00Src_pick (x1.2.1,x1.2.2.1,x1.2.2.2.1,()) 20).bind fun x2 =>
   some ((a1,IntKind.i64.wrap (500 + (IntKind.i64.wrap (10 * x1.1))),IntKind.i64.wrap (250 + (IntKind.i64.wrap (5 * x2.1))),()),(x2.2.1,x2.2.2.1,x2.2.2.2.1,())) :=
 (mk_f _ _ _ _ _ _ _ 4000).trans (by kernel_rfl)
def spec_l00Src_among_ir : Fn := { np := 2,io := [true,false],res := [.t 4],own := [false],body :=
 (.seq (.reg false [.V 4 (.asg (.c (.int .i64 0)))] [0,1] [0,1000]) (.seq (.reg false [.V 5 (.mv (.t 1)),.V 6 (.mv (.t 0)),.V 7 (.mv (.t 1)),.V 8 (.len (.t 7)),.W 9 (.call (.c (.fn 463 [])) [.t 6,.t 8]),.V 10 (.ia 1 (.t 5) (.t 9)),.V 11 (.ld none (.t 10)),.V 4 (.asg (.t 11))] [0,4] [0,1000]) .ret)) }
noncomputable def spec_l00Src_among_D : List (Nat × Callee) := [(463,spec_l00Src_pick_c)]
def spec_l00Src_among_H : List (Nat × ET) := [(5,(.one (.int .i64))),(7,(.one (.int .i64)))]
noncomputable def spec_l00Src_among_c : Callee := mkCallee spec_l00Src_among_D spec_l00Src_among_H spec_l00Src_among_ir [.box T_l00Src,.d (.one (.sl (.one (.int .i64))))] [.d (.one (.int .i64))] [.box T_l00Src]
noncomputable def spec_l00Src_among (a0 : T_l00Src.ty) (a1 : List Int) : Option (Int × T_l00Src.ty) := spec_l00Src_among_c.f (a0,a1,())
theorem spec_l00Src_among_eq (a0 : T_l00Src.ty) (a1 : List Int) : spec_l00Src_among a0 a1 =
 (spec_l00Src_pick a0 (a1.length : Int)).bind fun x1 =>
  if decide (0 ≤ x1.1) then
   (a1[x1.1.toNat]?).bind fun x2 =>
    some (x2,(x1.2.1,x1.2.2.1,x1.2.2.2.1,()))
  else
   none :=
 (mk_f _ _ _ _ _ _ _ 4000).trans (by kernel_rfl)
def spec_l06Bent_ir : Fn := { np := 2,io := [true,false],res := [.cell 4 (some 3)],own := [false],body :=
 (.seq (.reg false [.W 3 (.box 3 (.t 1)),.W 4 (.alloc 3 (.agg [.str [],.int .i64 0,.int .i64 0]))] [0,3,4] [0,3,4,1000]) (.seq (.seq (.reg false [.V 5 (.mv (.t 0)),.W 6 (.call (.c (.fn 463 [])) [.t 5,.c (.int .i64 16)])] [0,3,4,6] [0,3,4,1000]) (.block 0 (.seq (.reg false [.V 8 (.bin .eql (.t 6) (.c (.int .i64 0))),.V 7 (.asg (.t 8))] [0,3,4,6,7] [0,3,4,1000]) (.cond (.t 7) (.reg false [.V 9 (.mv (.t 0)),.V 10 (.bsl 1 (.int .i64 0) 4 [(0,.c (.int .i64 0)),(1,.c (.int .i64 1)),(2,.c (.int .i64 10000)),(3,.c (.int .i64 10001))]),.W 11 (.call (.c (.fn 445 [])) [.t 9,.t 10]),.V 12 (.fa 1 (.t 3)),⟨none,true,.sto 1 (.t 12) (.t 11),none,false,[]⟩] [0,3,4] [0,3,4,1000]) (.seq (.reg false [.V 14 (.bin .eql (.t 6) (.c (.int .i64 1))),.V 13 (.asg (.t 14))] [0,3,4,13] [0,3,4,1000]) (.cond (.t 13) (.reg false [.V 15 (.mv (.t 0)),.V 16 (.bsl 1 (.int .i64 0) 4 [(0,.c (.int .i64 0)),(1,.c (.int .i64 1)),(2,.c (.int .i64 10000)),(3,.c (.int .i64 10001))]),.W 17 (.call (.c (.fn 445 [])) [.t 15,.t 16]),.V 18 (.fa 2 (.t 3)),⟨none,true,.sto 1 (.t 18) (.t 17),none,false,[]⟩] [0,3,4] [0,3,4,1000]) .skip)))))) (.seq (.reg false [.V 19 (.ld (some 3) (.t 3)),⟨none,true,.sto 3 (.t 4) (.t 19),none,false,[]⟩] [0,4] [0,4,1000]) .ret))) }
noncomputable def spec_l06Bent_D : List (Nat × Callee) := [(445,spec_l00Src_among_c),(463,spec_l00Src_pick_c)]
def spec_l06Bent_H : List (Nat × ET) := [(10,(.one (.int .i64))),(16,(.one (.int .i64)))]
noncomputable def spec_l06Bent_c : Callee := mkCallee spec_l06Bent_D spec_l06Bent_H spec_l06Bent_ir [.box T_l00Src,.d T_Mode] [.d T_Mode] [.box T_l00Src]
noncomputable def spec_l06Bent (a0 : T_l00Src.ty) (a1 : T_Mode.ty) : Option (T_Mode.ty × T_l00Src.ty) := spec_l06Bent_c.f (a0,a1,())
theorem spec_l06Bent_eq (a0 : T_l00Src.ty) (a1 : T_Mode.ty) : spec_l06Bent a0 a1 =
 (spec_l00Src_pick a0 16).bind fun x1 =>
  if (x1.1 == 0) then
   (spec_l00Src_among (x1.2.1,x1.2.2.1,x1.2.2.2.1,()) [0,1,10000,10001]).bind fun x2 =>
    some ((a1.1,x2.1,a1.2.2.1,()),(x2.2.1,x2.2.2.1,x2.2.2.2.1,()))
  else
   if (x1.1 == 1) then
    (spec_l00Src_among (x1.2.1,x1.2.2.1,x1.2.2.2.1,()) [0,1,10000,10001]).bind fun x3 =>
     some ((a1.1,a1.2.1,x3.1,()),(x3.2.1,x3.2.2.1,x3.2.2.2.1,()))
   else
    some (a1,(x1.2.1,x1.2.2.1,x1.2.2.2.1,())) :=
 (mk_f _ _ _ _ _ _ _ 4000).trans (by kernel_rfl)
def spec_l01Dec_k0 : C :=
 .reg false [.V 22 (.mv (.t 3)),.V 23 (.mv (.t 5)),.V 24 (.bin .add (.c (.int .i64 48)) (.t 23)),.V 25 (.conv (.int .u8) (.t 24)),.V 26 (.bsl 1 (.int .u8 0) 1 [(0,.t 25)]),.W 27 (.app 1 1 (.t 22) (.t 26)),.W 3 (.asg (.t 27))] [0,3,4] [3]
def spec_l01Dec_k1 : C :=
 .reg false [.V 14 (.mv (.t 4)),.V 15 (.bin .quo (.t 14) (.c (.int .i64 10))),.V 4 (.asg (.t 15))] [0,3,4] [3]
def spec_l01Dec_k2 : C :=
 .seq (.seq (.reg false [.V 12 (.mv (.t 4)),.V 13 (.bin .neq (.t 12) (.c (.int .i64 0)))] [0,3,4,13] [3]) (.cond (.t 13) .skip (.exit 0))) (.seq (.block 1 (.seq (.reg false [.V 16 (.mv (.t 4)),.V 17 (.bin .rem (.t 16) (.c (.int .i64 10))),.V 5 (.asg (.t 17))] [0,3,4,5] [3]) (.seq (.seq (.reg false [.V 18 (.mv (.t 5)),.V 19 (.bin .lss (.t 18) (.c (.int .i64 0)))] [0,3,4,5,19] [3]) (.cond (.t 19) (.reg false [.V 20 (.mv (.t 5)),.V 21 (.un .neg (.t 20)),.V 5 (.asg (.t 21))] [0,3,4,5] [3]) .skip)) (.norm [0,3,4,5] [3] spec_l01Dec_k0)))) spec_l01Dec_k1)
def spec_l01Dec_k3 : C :=
 .norm [0,3,4] [3] spec_l01Dec_k2
def spec_l01Dec_k4 : C :=
 .seq (.seq (.reg false [.V 37 (.mv (.t 7)),.V 38 (.bin .geq (.t 37) (.c (.int .i64 0)))] [3,6,7,38] [3,6]) (.cond (.t 38) .skip (.exit 2))) (.seq (.block 3 (.reg false [.V 41 (.mv (.t 6)),.V 42 (.mv (.t 3)),.V 43 (.mv (.t 7)),.V 44 (.ia 1 (.t 42) (.t 43)),.V 45 (.ld none (.t 44)),.V 46 (.bsl 1 (.int .u8 0) 1 [(0,.t 45)]),.W 47 (.app 1 1 (.t 41) (.t 46)),.W 6 (.asg (.t 47))] [3,6,7] [3,6])) (.reg false [.V 39 (.mv (.t 7)),.V 40 (.bin .sub (.t 39) (.c (.int .i64 1))),.V 7 (.asg (.t 40))] [3,6,7] [3,6]))
def spec_l01Dec_k5 : C :=
 .norm [3,6,7] [3,6] spec_l01Dec_k4
def spec_l01Dec_k6 : C :=
 .seq (.reg false [.V 48 (.mv (.t 6)),.V 49 (.conv .bytesStr (.t 48)),.V 2 (.asg (.t 49))] [2] []) .ret
def spec_l01Dec_k7 : C :=
 .seq (.reg false [.V 33 (.bsl 1 (.int .u8 0) 0 []),.W 6 (.asg (.t 33))] [3,6] [3,6]) (.seq (.seq (.reg false [.V 34 (.mv (.t 3)),.V 35 (.len (.t 34)),.V 36 (.bin .sub (.t 35) (.c (.int .i64 1))),.V 7 (.asg (.t 36))] [3,6,7] [3,6]) (.block 2 (.loop spec_l01Dec_k5))) spec_l01Dec_k6)
def spec_l01Dec_k8 : C :=
 .seq (.seq (.reg false [.V 28 (.mv (.t 0)),.V 29 (.bin .lss (.t 28) (.c (.int .i64 0)))] [3,29] [3]) (.cond (.t 29) (.reg false [.V 30 (.mv (.t 3)),.V 31 (.bsl 1 (.int .u8 0) 1 [(0,.c (.int .u8 45))]),.W 32 (.app 1 1 (.t 30) (.t 31)),.W 3 (.asg (.t 32))] [3] [3]) .skip)) (.norm [3] [3] spec_l01Dec_k7)
def spec_l01Dec_ir : Fn := { np := 1,io := [],res := [.t 2],own := [false],body :=
 (.seq (.reg false [.V 2 (.asg (.c (.str [])))] [0] []) (.seq (.seq (.reg false [.V 8 (.mv (.t 0)),.V 9 (.bin .eql (.t 8) (.c (.int .i64 0)))] [0,9] []) (.cond (.t 9) (.seq (.reg false [.V 2 (.asg (.c (.str [48])))] [2] []) .ret) .skip)) (.seq (.reg false [.V 10 (.bsl 1 (.int .u8 0) 0 []),.W 3 (.asg (.t 10))] [0,3] [3]) (.seq (.seq (.reg false [.V 11 (.mv (.t 0)),.V 4 (.asg (.t 11))] [0,3,4] [3]) (.block 0 (.loop spec_l01Dec_k3))) spec_l01Dec_k8)))) }
noncomputable def spec_l01Dec_D : List (Nat × Callee) := []
def spec_l01Dec_H : List (Nat × ET) := [(3,(.one (.int .u8))),(6,(.one (.int .u8))),(10,(.one (.int .u8))),(22,(.one (.int .u8))),(26,(.one (.int .u8))),(27,(.one (.int .u8))),(30,(.one (.int .u8))),(31,(.one (.int .u8))),(32,(.one (.int .u8))),(33,(.one (.int .u8))),(34,(.one (.int .u8))),(41,(.one (.int .u8))),(42,(.one (.int .u8))),(46,(.one (.int .u8))),(47,(.one (.int .u8))),(48,(.one (.int .u8)))]
noncomputable def spec_l01Dec_c : Callee := mkCallee spec_l01Dec_D spec_l01Dec_H spec_l01Dec_ir [.d (.one (.int .i64))] [.d (.one .str)] []
noncomputable def spec_l01Dec (a0 : Int) : Option (List UInt8) := spec_l01Dec_c.f (a0,())
noncomputable def spec_l01Dec_p0  (v0 : Int) (v4 : Int) (r3 : List Int) : Option (List UInt8) :=
 goL spec_l01Dec_D spec_l01Dec_H (vleave spec_l01Dec_ir [.d (.one (.int .i64))] [.d (.one .str)] [] []) [.c spec_l01Dec_k2,.l spec_l01Dec_k3,.e 0,.c spec_l01Dec_k8]
  ⟨[(0,.int .i64 v0),(3,.view 3 0 r3.length),(4,.int .i64 v4)],[(3,some (.sl (.one (.int .u8)) r3))]⟩
noncomputable def spec_l01Dec_p1  (v0 : Int) (v4 : Int) (v5 : Int) (r3 : List Int) : Option (List UInt8) :=
 goL spec_l01Dec_D spec_l01Dec_H (vleave spec_l01Dec_ir [.d (.one (.int .i64))] [.d (.one .str)] [] []) [.c spec_l01Dec_k0,.e 1,.c spec_l01Dec_k1,.l spec_l01Dec_k3,.e 0,.c spec_l01Dec_k8]
  ⟨[(0,.int .i64 v0),(3,.view 3 0 r3.length),(4,.int .i64 v4),(5,.int .i64 v5)],[(3,some (.sl (.one (.int .u8)) r3))]⟩
noncomputable def spec_l01Dec_p2  (r3 : List Int) : Option (List UInt8) :=
 goL spec_l01Dec_D spec_l01Dec_H (vleave spec_l01Dec_ir [.d (.one (.int .i64))] [.d (.one .str)] [] []) [.c spec_l01Dec_k7]
  ⟨[(3,.view 3 0 r3.length)],[(3,some (.sl (.one (.int .u8)) r3))]⟩
noncomputable def spec_l01Dec_p3  (v7 : Int) (r3 : List Int) (r6 : List Int) : Option (List UInt8) :=
 goL spec_l01Dec_D spec_l01Dec_H (vleave spec_l01Dec_ir [.d (.one (.int .i64))] [.d (.one .str)] [] []) [.c spec_l01Dec_k4,.l spec_l01Dec_k5,.e 2,.c spec_l01Dec_k6]
  ⟨[(3,.view 3 0 r3.length),(6,.view 6 0 r6.length),(7,.int .i64 v7)],[(3,some (.sl (.one (.int .u8)) r3)),(6,some (.sl (.one (.int .u8)) r6))]⟩
theorem spec_l01Dec_eq (a0 : Int) : spec_l01Dec a0 =
 if (a0 == 0) then
  some [48]
 else
  spec_l01Dec_p0 a0 a0 [] :=
 (mk_f _ _ _ _ _ _ _ 4000).trans (by kernel_rfl)
theorem spec_l01Dec_p0_eq  (v0 : Int) (v4 : Int) (r3 : List Int) : spec_l01Dec_p0 v0 v4 r3 =
 if (v4 != 0) then
  if decide (v4.tmod 10 < 0) then
   spec_l01Dec_p1 v0 v4 (IntKind.i64.wrap (0 - (v4.tmod 10))) r3
  else
   spec_l01Dec_p1 v0 v4 (v4.tmod 10) r3
 else
  if decide (v0 < 0) then
   if decide (r3.length + 1 < lim) then
    spec_l01Dec_p2 ((r3.take r3.length) ++ [45])
   else
    none
  else
   spec_l01Dec_p2 r3 :=
 (goL_dn _ _ _ 4000 _ _).trans (by kernel_rfl)
theorem spec_l01Dec_p1_eq  (v0 : Int) (v4 : Int) (v5 : Int) (r3 : List Int) : spec_l01Dec_p1 v0 v4 v5 r3 =
 if decide (r3.length + 1 < lim) then
  spec_l01Dec_p0 v0 (IntKind.i64.wrap (v4.tdiv 10)) ((r3.take r3.length) ++ [IntKind.u8.wrap (IntKind.i64.wrap (48 + v5))])
 else
  none :=
 (goL_dn _ _ _ 4000 _ _).trans (by kernel_rfl)
theorem spec_l01Dec_p2_eq  (r3 : List Int) : spec_l01Dec_p2 r3 =
 spec_l01Dec_p3 (IntKind.i64.wrap ((r3.length : Int) - 1)) r3 [] :=
 (goL_dn _ _ _ 4000 _ _).trans (by kernel_rfl)
theorem spec_l01Dec_p3_eq  (v7 : Int) (r3 : List Int) (r6 : List Int) : spec_l01Dec_p3 v7 r3 r6 =
 if decide (v7 ≥ 0) then
  if decide (0 ≤ v7) && decide (v7 < (r3.length : Int)) then
   (r3[v7.toNat]?).bind fun x1 =>
    if decide (r6.length + 1 < lim) then
     spec_l01Dec_p3 (IntKind.i64.wrap (v7 - 1)) r3 ((r6.take r6.length) ++ [x1])
    else
     none
  else
   none
 else
  some ((r6.take r6.length).map vu8) :=
 (goL_dn _ _ _ 4000 _ _).trans (by kernel_rfl)
def spec_l06Draw_k0 : C :=
 .seq (.seq (.reg false [.V 10 (.mv (.t 5)),.V 11 (.mv (.t 3)),.V 12 (.len (.t 11)),.V 13 (.bin .lss (.t 10) (.t 12))] [0,3,4,5,13] [0,3,4,1000]) (.cond (.t 13) .skip (.exit 0))) (.seq (.block 1 (.seq (.reg false [.V 16 (.mv (.t 0)),.W 17 (.call (.c (.fn 642 [])) [.t 16,.c (.int .i64 4)]),.V 18 (.un .not (.t 17))] [0,3,4,5,18] [0,3,4,1000]) (.cond (.t 18) (.reg false [.V 19 (.mv (.t 4)),.V 20 (.mv (.t 0)),.V 21 (.mv (.t 3)),.V 22 (.mv (.t 5)),.V 23 (.ia 1 (.t 21) (.t 22)),.V 24 (.ld none (.t 23)),.W 25 (.call (.c (.fn 760 [])) [.t 20,.t 24]),.V 26 (.bsl 3 (.agg [.str [],.int .i64 0,.int .i64 0]) 1 [(0,.t 25)]),.W 27 (.app 3 32 (.t 19) (.t 26)),.W 4 (.asg (.t 27))] [0,3,4,5] [0,3,4,1000]) .skip))) (.reg false [.V 14 (.mv (.t 5)),.V 15 (.bin .add (.t 14) (.c (.int .i64 1))),.V 5 (.asg (.t 15))] [0,3,4,5] [0,3,4,1000]))
def spec_l06Draw_k1 : C :=
 .norm [0,3,4,5] [0,3,4,1000] spec_l06Draw_k0
def spec_l06Draw_k2 : C :=
 .seq (.seq (.reg false [.V 45 (.mv (.t 7)),.V 46 (.mv (.t 6)),.V 47 (.bin .lss (.t 45) (.t 46))] [0,4,6,7,47] [0,4,1000]) (.cond (.t 47) .skip (.exit 3))) (.seq (.block 4 (.reg false [.V 50 (.mv (.t 4)),.V 51 (.mv (.t 0)),.V 52 (.mv (.t 7)),.V 53 (.call (.c (.fn 726 [])) [.t 52]),.V 54 (.bin .add (.c (.str [110])) (.t 53)),.W 55 (.call (.c (.fn 760 [])) [.t 51,.t 54]),.V 56 (.bsl 3 (.agg [.str [],.int .i64 0,.int .i64 0]) 1 [(0,.t 55)]),.W 57 (.app 3 32 (.t 50) (.t 56)),.W 4 (.asg (.t 57))] [0,4,6,7] [0,4,1000])) (.reg false [.V 48 (.mv (.t 7)),.V 49 (.bin .add (.t 48) (.c (.int .i64 1))),.V 7 (.asg (.t 49))] [0,4,6,7] [0,4,1000]))
def spec_l06Draw_k3 : C :=
 .norm [0,4,6,7] [0,4,1000] spec_l06Draw_k2
def spec_l06Draw_k4 : C :=
 .seq (.reg false [.V 58 (.mv (.t 4)),.W 2 (.asg (.t 58))] [0,2] [0,2,4,1000]) .ret
def spec_l06Draw_k5 : C :=
 .seq (.seq (.reg false [.V 28 (.mv (.t 0)),.W 29 (.call (.c (.fn 463 [])) [.t 28,.c (.int .i64 20)])] [0,4,29] [0,4,1000]) (.block 2 (.seq (.reg false [.V 31 (.bin .eql (.t 29) (.c (.int .i64 0))),.V 30 (.asg (.t 31))] [0,4,29,30] [0,4,1000]) (.cond (.t 30) (.reg false [.V 32 (.mv (.t 4)),.V 33 (.mv (.t 0)),.V 34 (.mv (.t 0)),.W 35 (.call (.c (.fn 760 [])) [.t 34,.c (.str [122,122])]),.W 36 (.call (.c (.fn 761 [])) [.t 33,.t 35]),.V 37 (.bsl 3 (.agg [.str [],.int .i64 0,.int .i64 0]) 1 [(0,.t 36)]),.W 38 (.app 3 32 (.t 32) (.t 37)),.W 4 (.asg (.t 38))] [0,4] [0,4,1000]) (.seq (.reg false [.V 40 (.bin .eql (.t 29) (.c (.int .i64 1))),.V 39 (.asg (.t 40))] [0,4,39] [0,4,1000]) (.cond (.t 39) (.seq (.reg false [.V 41 (.mv (.t 0)),.V 42 (.bsl 1 (.int .i64 0) 2 [(0,.c (.int .i64 8)),(1,.c (.int .i64 9))]),.W 43 (.call (.c (.fn 445 [])) [.t 41,.t 42]),.V 6 (.asg (.t 43))] [0,6] [0,1000]) (.seq (.reg false [.V 44 (.bsl 3 (.agg [.str [],.int .i64 0,.int .i64 0]) 0 []),.W 4 (.asg (.t 44))] [0,4,6] [0,4,1000]) (.seq (.reg false [.V 7 (.asg (.c (.int .i64 0)))] [0,4,6,7] [0,4,1000]) (.block 3 (.loop spec_l06Draw_k3))))) .skip)))))) spec_l06Draw_k4
def spec_l06Draw_ir : Fn := { np := 1,io := [true],res := [.t 2],own := [true],body :=
 (.seq (.reg false [.W 2 (.asg (.c (.nils 3)))] [0] [0,1000]) (.seq (.reg false [.V 8 (.bsl 1 (.str []) 6 [(0,.c (.str [114,97])),(1,.c (.str [114,98])),(2,.c (.str [114,99])),(3,.c (.str [114,100])),(4,.c (.str [114,101])),(5,.c (.str [114,102]))]),.W 3 (.asg (.t 8))] [0,3] [0,3,1000]) (.seq (.reg false [.V 9 (.bsl 3 (.agg [.str [],.int .i64 0,.int .i64 0]) 0 []),.W 4 (.asg (.t 9))] [0,3,4] [0,3,4,1000]) (.seq (.seq (.reg false [.V 5 (.asg (.c (.int .i64 0)))] [0,3,4,5] [0,3,4,1000]) (.block 0 (.loop spec_l06Draw_k1))) spec_l06Draw_k5)))) }
noncomputable def spec_l06Draw_D : List (Nat × Callee) := [(445,spec_l00Src_among_c),(463,spec_l00Src_pick_c),(642,spec_l00Src_one_c),(726,spec_l01Dec_c),(760,spec_l06DrawOne_c),(761,spec_l06Bent_c)]
def spec_l06Draw_H : List (Nat × ET) := [(2,T_Mode),(3,(.one .str)),(4,T_Mode),(8,(.one .str)),(9,T_Mode),(11,(.one .str)),(19,T_Mode),(21,(.one .str)),(26,T_Mode),(27,T_Mode),(32,T_Mode),(37,T_Mode),(38,T_Mode),(42,(.one (.int .i64))),(44,T_Mode),(50,T_Mode),(56,T_Mode),(57,T_Mode),(58,T_Mode)]
noncomputable def spec_l06Draw_c : Callee := mkCallee spec_l06Draw_D spec_l06Draw_H spec_l06Draw_ir [.box T_l00Src] [.tok T_Mode] [.box T_l00Src]
noncomputable def spec_l06Draw (a0 : T_l00Src.ty) : Option (List T_Mode.ty × T_l00Src.ty) := spec_l06Draw_c.f (a0,())
noncomputable def spec_l06Draw_p0  (v5 : Int) (r0_0 : List Int) (r0_1 : Int) (r0_2 : Int) (r3 : List (List UInt8)) (r4 : List T_Mode.ty) : Option (List T_Mode.ty × T_l00Src.ty) :=
 goL spec_l06Draw_D spec_l06Draw_H (vleave spec_l06Draw_ir [.box T_l00Src] [.tok T_Mode] [.box T_l00Src] []) [.c spec_l06Draw_k0,.l spec_l06Draw_k1,.e 0,.c spec_l06Draw_k5]
  ⟨[(0,.loc 0 0 0),(3,.view 3 0 r3.length),(4,.view 4 0 r4.length),(5,.int .i64 v5)],[(0,some (.var 3 (.agg [.sl (.one (.int .u8)) r0_0,.int .i64 r0_1,.int .u64 r0_2]))),(3,some (.sl (.one .str) r3)),(4,some (.sl T_Mode r4)),(1000,none)]⟩
noncomputable def spec_l06Draw_p1  (v6 : Int) (v7 : Int) (r0_0 : List Int) (r0_1 : Int) (r0_2 : Int) (r4 : List T_Mode.ty) : Option (List T_Mode.ty × T_l00Src.ty) :=
 goL spec_l06Draw_D spec_l06Draw_H (vleave spec_l06Draw_ir [.box T_l00Src] [.tok T_Mode] [.box T_l00Src] []) [.c spec_l06Draw_k2,.l spec_l06Draw_k3,.e 3,.e 2,.c spec_l06Draw_k4]
  ⟨[(0,.loc 0 0 0),(4,.view 4 0 r4.length),(6,.int .i64 v6),(7,.int .i64 v7)],[(0,some (.var 3 (.agg [.sl (.one (.int .u8)) r0_0,.int .i64 r0_1,.int .u64 r0_2]))),(4,some (.sl T_Mode r4)),(1000,none)]⟩
theorem spec_l06Draw_eq (a0 : T_l00Src.ty) : spec_l06Draw a0 =
 spec_l06Draw_p0 0 a0.1 a0.2.1 a0.2.2.1 [[114,97],[114,98],[114,99],[114,100],[114,101],[114,102]] [] :=
 (mk_f _ _ _ _ _ _ _ 4000).trans (by kernel_rfl)
theorem spec_l06Draw_p0_eq  (v5 : Int) (r0_0 : List Int) (r0_1 : Int) (r0_2 : Int) (r3 : List (List UInt8)) (r4 : List T_Mode.ty) : spec_l06Draw_p0 v5 r0_0 r0_1 r0_2 r3 r4 =
 if decide (v5 < (r3.length : Int)) then
  (spec_l00Src_one (r0_0,r0_1,r0_2,()) 4).bind fun x1 =>
   if (!x1.1) then
    if decide (0 ≤ v5) && decide (v5 < (r3.length : Int)) then
     (r3[v5.toNat]?).bind fun x2 =>
      (spec_l06DrawOne (x1.2.1,x1.2.2.1,x1.2.2.2.1,()) x2).bind fun x3 =>
       if decide (r4.length + 1 < lim) then
        spec_l06Draw_p0 (IntKind.i64.wrap (v5 + 1)) x3.2.1 x3.2.2.1 x3.2.2.2.1 r3 ((r4.take r4.length) ++ [(x3.1.1,x3.1.2.1,x3.1.2.2.1,())])
       else
        none
    else
     none
   else
    spec_l06Draw_p0 (IntKind.i64.wrap (v5 + 1)) x1.2.1 x1.2.2.1 x1.2.2.2.1 r3 r4
 else
  (spec_l00Src_pick (r0_0,r0_1,r0_2,()) 20).bind fun x4 =>
   if (x4.1 == 0) then
    (spec_l06DrawOne (x4.2.1,x4.2.2.1,x4.2.2.2.1,()) [122,122]).bind fun x5 =>
     (spec_l06Bent (x5.2.1,x5.2.2.1,x5.2.2.2.1,()) (x5.1.1,x5.1.2.1,x5.1.2.2.1,())).bind fun x6 =>
      if decide (r4.length + 1 < lim) then
       some ((((r4.take r4.length) ++ [(x6.1.1,x6.1.2.1,x6.1.2.2.1,())]).take (((r4.take r4.length) ++ [(x6.1.1,x6.1.2.1,x6.1.2.2.1,())]).length)),(x6.2.1,x6.2.2.1,x6.2.2.2.1,()))
      else
       none
   else
    if (x4.1 == 1) then
     (spec_l00Src_among (x4.2.1,x4.2.2.1,x4.2.2.2.1,()) [8,9]).bind fun x7 =>
      spec_l06Draw_p1 x7.1 0 x7.2.1 x7.2.2.1 x7.2.2.2.1 []
    else
     some ((r4.take r4.length),(x4.2.1,x4.2.2.1,x4.2.2.2.1,())) :=
 (goL_dn _ _ _ 4000 _ _).trans (by kernel_rfl)
theorem spec_l06Draw_p1_eq  (v6 : Int) (v7 : Int) (r0_0 : List Int) (r0_1 : Int) (r0_2 : Int) (r4 : List T_Mode.ty) : spec_l06Draw_p1 v6 v7 r0_0 r0_1 r0_2 r4 =
 if decide (v7 < v6) then
  (spec_l01Dec v7).bind fun x1 =>
   if decide ([110].length + x1.length ≤ strMax) then
    (spec_l06DrawOne (r0_0,r0_1,r0_2,()) ([110] ++ x1)).bind fun x2 =>
     if decide (r4.length + 1 < lim) then
      spec_l06Draw_p1 v6 (IntKind.i64.wrap (v7 + 1)) x2.2.1 x2.2.2.1 x2.2.2.2.1 ((r4.take r4.length) ++ [(x2.1.1,x2.1.2.1,x2.1.2.2.1,())])
     else
      none
   else
    none
 else
  some ((r4.take r4.length),(r0_0,r0_1,r0_2,())) :=
 (goL_dn _ _ _ 4000 _ _).trans (by kernel_rfl)
def spec_l06DrawStrip_ir : Fn := { np := 1,io := [true],res := [.t 2],own := [false],body :=
 (.seq (.reg false [.V 2 (.asg (.c (.int .i64 0)))] [0] [0,1000]) (.seq (.seq (.reg false [.V 3 (.mv (.t 0)),.W 4 (.call (.c (.fn 642 [])) [.t 3,.c (.int .i64 9)])] [0,4] [0,1000]) (.cond (.t 4) (.seq (.reg false [.V 5 (.mv (.t 0)),.V 6 (.bsl 1 (.int .i64 0) 4 [(0,.c (.int .i64 0)),(1,.c (.int .i64 1)),(2,.c (.int .i64 100000)),(3,.c (.int .i64 100001))]),.W 7 (.call (.c (.fn 445 [])) [.t 5,.t 6]),.V 2 (.asg (.t 7))] [0,2] [0,1000]) .ret) .skip)) (.seq (.reg false [.V 8 (.mv (.t 0)),.W 9 (.call (.c (.fn 463 [])) [.t 8,.c (.int .i64 40)]),.V 10 (.bin .mul (.c (.int .i64 100)) (.t 9)),.V 11 (.bin .add (.c (.int .i64 2000)) (.t 10)),.V 2 (.asg (.t 11))] [0,2] [0,1000]) .ret))) }
noncomputable def spec_l06DrawStrip_D : List (Nat × Callee) := [(445,spec_l00Src_among_c),(463,spec_l00Src_pick_c),(642,spec_l00Src_one_c)]
def spec_l06DrawStrip_H : List (Nat × ET) := [(6,(.one (.int .i64)))]
noncomputable def spec_l06DrawStrip_c : Callee := mkCallee spec_l06DrawStrip_D spec_l06DrawStrip_H spec_l06DrawStrip_ir [.box T_l00Src] [.d (.one (.int .i64))] [.box T_l00Src]
noncomputable def spec_l06DrawStrip (a0 : T_l00Src.ty) : Option (Int × T_l00Src.ty) := spec_l06DrawStrip_c.f (a0,())
theorem spec_l06DrawStrip_eq (a0 : T_l00Src.ty) : spec_l06DrawStrip a0 =
 (spec_l00Src_one a0 9).bind fun x1 =>
  if x1.1 then
   (spec_l00Src_among (x1.2.1,x1.2.2.1,x1.2.2.2.1,()) [0,1,100000,100001]).bind fun x2 =>
    some (x2.1,(x2.2.1,x2.2.2.1,x2.2.2.2.1,()))
  else
   (spec_l00Src_pick (x1.2.1,x1.2.2.1,x1.2.2.2.1,()) 40).bind fun x3 =>
    some (IntKind.i64.wrap (2000 + (IntKind.i64.wrap (100 * x3.1))),(x3.2.1,x3.2.2.1,x3.2.2.2.1,())) :=
 (mk_f _ _ _ _ _ _ _ 4000).trans (by kernel_rfl)
def spec_l06DrawSaw_ir : Fn := { np := 1,io := [true],res := [.t 2],own := [false],body :=
 (.seq (.reg false [.V 2 (.asg (.c (.int .i64 0)))] [0] [0,1000]) (.seq (.reg false [.V 3 (.mv (.t 0)),.V 4 (.bsl 1 (.int .i64 0) 8 [(0,.c (.int .i64 0)),(1,.c (.int .i64 5)),(2,.c (.int .i64 10)),(3,.c (.int .i64 100)),(4,.c (.int .i64 101)),(5,.c (.int .i64 (-1))),(6,.c (.int .i64 0)),(7,.c (.int .i64 20))]),.W 5 (.call (.c (.fn 445 [])) [.t 3,.t 4]),.V 2 (.asg (.t 5))] [0,2] [0,1000]) .ret)) }
noncomputable def spec_l06DrawSaw_D : List (Nat × Callee) := [(445,spec_l00Src_among_c)]
def spec_l06DrawSaw_H : List (Nat × ET) := [(4,(.one (.int .i64)))]
noncomputable def spec_l06DrawSaw_c : Callee := mkCallee spec_l06DrawSaw_D spec_l06DrawSaw_H spec_l06DrawSaw_ir [.box T_l00Src] [.d (.one (.int .i64))] [.box T_l00Src]
noncomputable def spec_l06DrawSaw (a0 : T_l00Src.ty) : Option (Int × T_l00Src.ty) := spec_l06DrawSaw_c.f (a0,())
theorem spec_l06DrawSaw_eq (a0 : T_l00Src.ty) : spec_l06DrawSaw a0 =
 (spec_l00Src_among a0 [0,5,10,100,101,(-1),0,20]).bind fun x1 =>
  some (x1.1,(x1.2.1,x1.2.2.1,x1.2.2.2.1,())) :=
 (mk_f _ _ _ _ _ _ _ 4000).trans (by kernel_rfl)
def spec_l06DrawBudget_ir : Fn := { np := 1,io := [true],res := [.t 2],own := [false],body :=
 (.seq (.reg false [.V 2 (.asg (.c (.int .i64 0)))] [0] [0,1000]) (.seq (.reg false [.V 3 (.mv (.t 0)),.V 4 (.bsl 1 (.int .i64 0) 7 [(0,.c (.int .i64 1)),(1,.c (.int .i64 10)),(2,.c (.int .i64 100)),(3,.c (.int .i64 1000)),(4,.c (.int .i64 20000)),(5,.c (.int .i64 0)),(6,.c (.int .i64 20001))]),.W 5 (.call (.c (.fn 445 [])) [.t 3,.t 4]),.V 2 (.asg (.t 5))] [0,2] [0,1000]) .ret)) }
noncomputable def spec_l06DrawBudget_D : List (Nat × Callee) := [(445,spec_l00Src_among_c)]
def spec_l06DrawBudget_H : List (Nat × ET) := [(4,(.one (.int .i64)))]
noncomputable def spec_l06DrawBudget_c : Callee := mkCallee spec_l06DrawBudget_D spec_l06DrawBudget_H spec_l06DrawBudget_ir [.box T_l00Src] [.d (.one (.int .i64))] [.box T_l00Src]
noncomputable def spec_l06DrawBudget (a0 : T_l00Src.ty) : Option (Int × T_l00Src.ty) := spec_l06DrawBudget_c.f (a0,())
theorem spec_l06DrawBudget_eq (a0 : T_l00Src.ty) : spec_l06DrawBudget a0 =
 (spec_l00Src_among a0 [1,10,100,1000,20000,0,20001]).bind fun x1 =>
  some (x1.1,(x1.2.1,x1.2.2.1,x1.2.2.2.1,())) :=
 (mk_f _ _ _ _ _ _ _ 4000).trans (by kernel_rfl)
def spec_DrawCutRibs_ir : Fn := { np := 1,io := [],res := [.t 2,.t 3,.t 4,.t 5],own := [true,false,false,false],body :=
 (.seq (.reg false [.W 2 (.asg (.c (.nils 3))),.V 3 (.asg (.c (.int .i64 0))),.V 4 (.asg (.c (.int .i64 0))),.V 5 (.asg (.c (.int .i64 0)))] [0] []) (.seq (.reg false [.V 10 (.mv (.t 0)),.W 11 (.call (.c (.fn 441 [])) [.t 10]),.V 6 (.asg (.t 11))] [6] [11,12000]) (.seq (.reg false [.V 12 (.mv (.t 6)),.W 13 (.call (.c (.fn 505 [])) [.t 12]),.W 7 (.asg (.t 13))] [6,7] [7,11,12000]) (.seq (.reg false [.V 14 (.mv (.t 6)),.W 15 (.call (.c (.fn 504 [])) [.t 14]),.V 8 (.asg (.t 15))] [6,7,8] [7,11,12000]) (.seq (.reg false [.V 16 (.mv (.t 6)),.W 17 (.call (.c (.fn 503 [])) [.t 16]),.V 9 (.asg (.t 17))] [6,7,8,9] [7,11,12000]) (.seq (.reg false [.V 18 (.mv (.t 7)),.V 19 (.mv (.t 8)),.V 20 (.mv (.t 9)),.V 21 (.mv (.t 6)),.W 22 (.call (.c (.fn 469 [])) [.t 21]),.W 2 (.asg (.t 18)),.V 3 (.asg (.t 19)),.V 4 (.asg (.t 20)),.V 5 (.asg (.t 22))] [2,3,4,5] [2,7]) .ret)))))) }
noncomputable def spec_DrawCutRibs_D : List (Nat × Callee) := [(441,spec_l00From_c),(469,spec_l06DrawBudget_c),(503,spec_l06DrawSaw_c),(504,spec_l06DrawStrip_c),(505,spec_l06Draw_c)]
def spec_DrawCutRibs_H : List (Nat × ET) := [(2,T_Mode),(7,T_Mode),(10,(.one (.int .u8))),(13,T_Mode),(18,T_Mode)]
noncomputable def spec_DrawCutRibs_c : Callee := mkCallee spec_DrawCutRibs_D spec_DrawCutRibs_H spec_DrawCutRibs_ir [.d (.one (.sl (.one (.int .u8))))] [.tok T_Mode,.d (.one (.int .i64)),.d (.one (.int .i64)),.d (.one (.int .i64))] []
noncomputable def spec_DrawCutRibs (a0 : List Int) : Option (List T_Mode.ty × Int × Int × Int) := spec_DrawCutRibs_c.f (a0,())
theorem spec_DrawCutRibs_eq (a0 : List Int) : spec_DrawCutRibs a0 =
 (spec_l00From a0).bind fun x1 =>
  (spec_l06Draw x1).bind fun x2 =>
   (spec_l06DrawStrip (x2.2.1,x2.2.2.1,x2.2.2.2.1,())).bind fun x3 =>
    (spec_l06DrawSaw (x3.2.1,x3.2.2.1,x3.2.2.2.1,())).bind fun x4 =>
     (spec_l06DrawBudget (x4.2.1,x4.2.2.1,x4.2.2.2.1,())).bind fun x5 =>
      some ((x2.1.take x2.1.length),x3.1,x4.1,x5.1) :=
 (mk_f _ _ _ _ _ _ _ 4000).trans (by kernel_rfl)
def impl_isDigit_ir : Fn := { np := 1,io := [],res := [.t 2],own := [false],body :=
 (.seq (.reg false [.V 2 (.asg (.c (.bool false)))] [0] []) (.seq (.reg false [.V 3 (.mv (.t 0)),.V 4 (.bin .geq (.t 3) (.c (.int .u8 48))),.V 5 (.mv (.t 4)),.G 6 (.mv (.t 0)) 2 true,.G 7 (.bin .leq (.t 6) (.c (.int .u8 57))) 2 true,.V 8 (.pick (.t 5) (.t 7) (.c (.bool false))),.V 2 (.asg (.t 8))] [2] []) .ret)) }
noncomputable def impl_isDigit_D : List (Nat × Callee) := []
def impl_isDigit_H : List (Nat × ET) := []
noncomputable def impl_isDigit_c : Callee := mkCallee impl_isDigit_D impl_isDigit_H impl_isDigit_ir [.d (.one (.int .u8))] [.d (.one .bool)] []
noncomputable def impl_isDigit (a0 : Int) : Option (Bool) := impl_isDigit_c.f (a0,())
theorem impl_isDigit_eq (a0 : Int) : impl_isDigit a0 =
 if decide (a0 ≥ 48) then
  some (decide (a0 ≤ 57))
 else
  some false :=
 (mk_f _ _ _ _ _ _ _ 4000).trans (by kernel_rfl)
def impl_few_ir : Fn := { np := 2,io := [],res := [.t 4],own := [false],body :=
 (.seq (.reg false [.V 4 (.asg (.c (.bool false)))] [0,1] []) (.seq (.reg false [.V 5 (.mv (.t 0)),.V 6 (.mv (.t 1)),.V 7 (.bin .leq (.t 5) (.t 6)),.V 4 (.asg (.t 7))] [4] []) .ret)) }
noncomputable def impl_few_D : List (Nat × Callee) := []
def impl_few_H : List (Nat × ET) := []
noncomputable def impl_few_c : Callee := mkCallee impl_few_D impl_few_H impl_few_ir [.d (.one (.int .i64)),.d (.one (.int .i64))] [.d (.one .bool)] []
noncomputable def impl_few (a0 : Int) (a1 : Int) : Option (Bool) := impl_few_c.f (a0,a1,())
theorem impl_few_eq (a0 : Int) (a1 : Int) : impl_few a0 a1 =
 some (decide (a0 ≤ a1)) :=
 (mk_f _ _ _ _ _ _ _ 4000).trans (by kernel_rfl)
def impl_IsName_k0 : C :=
 .seq (.reg false [.V 21 (.mv (.t 4)),.V 22 (.un .not (.t 21)),.V 23 (.mv (.t 22)),.G 24 (.mv (.t 3)) 2 true,.G 25 (.bin .eql (.t 24) (.c (.int .i64 0))) 2 true,.G 26 (.mv (.t 25)) 2 true,.G 27 (.mv (.t 0)) 5 false,.G 28 (.mv (.t 3)) 5 false,.G 29 (.ix (.t 27) (.t 28)) 5 false,.G 30 (.call (.c (.fn 22 [])) [.t 29]) 5 false,.G 31 (.un .not (.t 30)) 5 false,.G 32 (.pick (.t 26) (.c (.bool true)) (.t 31)) 2 true,.V 33 (.pick (.t 23) (.t 32) (.c (.bool false)))] [0,3,33] []) (.cond (.t 33) (.seq (.reg false [.V 2 (.asg (.c (.bool false)))] [2] []) .ret) .skip)
def impl_IsName_k1 : C :=
 .reg false [.V 9 (.mv (.t 3)),.V 10 (.bin .add (.t 9) (.c (.int .i64 1))),.V 3 (.asg (.t 10))] [0,3] []
def impl_IsName_k2 : C :=
 .seq (.seq (.reg false [.V 5 (.mv (.t 3)),.V 6 (.mv (.t 0)),.V 7 (.lens (.t 6)),.V 8 (.bin .lss (.t 5) (.t 7))] [0,3,8] []) (.cond (.t 8) .skip (.exit 0))) (.seq (.block 1 (.seq (.reg false [.V 11 (.mv (.t 0)),.V 12 (.mv (.t 3)),.V 13 (.ix (.t 11) (.t 12)),.V 14 (.bin .geq (.t 13) (.c (.int .u8 97))),.V 15 (.mv (.t 14)),.G 16 (.mv (.t 0)) 4 true,.G 17 (.mv (.t 3)) 4 true,.G 18 (.ix (.t 16) (.t 17)) 4 true,.G 19 (.bin .leq (.t 18) (.c (.int .u8 122))) 4 true,.V 20 (.pick (.t 15) (.t 19) (.c (.bool false))),.V 4 (.asg (.t 20))] [0,3,4] []) (.norm [0,3,4] [] impl_IsName_k0))) impl_IsName_k1)
def impl_IsName_k3 : C :=
 .norm [0,3] [] impl_IsName_k2
def impl_IsName_k4 : C :=
 .seq (.reg false [.V 34 (.mv (.t 0)),.V 35 (.bin .neq (.t 34) (.c (.str []))),.V 36 (.mv (.t 35)),.G 37 (.mv (.t 0)) 2 true,.G 38 (.lens (.t 37)) 2 true,.G 39 (.call (.c (.fn 21 [])) [.t 38,.c (.int .i64 10)]) 2 true,.V 40 (.pick (.t 36) (.t 39) (.c (.bool false))),.V 2 (.asg (.t 40))] [2] []) .ret
def impl_IsName_ir : Fn := { np := 1,io := [],res := [.t 2],own := [false],body :=
 (.seq (.reg false [.V 2 (.asg (.c (.bool false)))] [0] []) (.seq (.seq (.reg false [.V 3 (.asg (.c (.int .i64 0)))] [0,3] []) (.block 0 (.loop impl_IsName_k3))) impl_IsName_k4)) }
noncomputable def impl_IsName_D : List (Nat × Callee) := [(21,impl_few_c),(22,impl_isDigit_c)]
def impl_IsName_H : List (Nat × ET) := []
noncomputable def impl_IsName_c : Callee := mkCallee impl_IsName_D impl_IsName_H impl_IsName_ir [.d (.one .str)] [.d (.one .bool)] []
noncomputable def impl_IsName (a0 : List UInt8) : Option (Bool) := impl_IsName_c.f (a0,())
noncomputable def impl_IsName_p0  (v0 : List UInt8) (v3 : Int) : Option (Bool) :=
 goL impl_IsName_D impl_IsName_H (vleave impl_IsName_ir [.d (.one .str)] [.d (.one .bool)] [] []) [.c impl_IsName_k2,.l impl_IsName_k3,.e 0,.c impl_IsName_k4]
  ⟨[(0,.str v0),(3,.int .i64 v3)],[]⟩
noncomputable def impl_IsName_p1  (v0 : List UInt8) (v3 : Int) (v4 : Bool) : Option (Bool) :=
 goL impl_IsName_D impl_IsName_H (vleave impl_IsName_ir [.d (.one .str)] [.d (.one .bool)] [] []) [.c impl_IsName_k0,.e 1,.c impl_IsName_k1,.l impl_IsName_k3,.e 0,.c impl_IsName_k4]
  ⟨[(0,.str v0),(3,.int .i64 v3),(4,.bool v4)],[]⟩
theorem impl_IsName_eq (a0 : List UInt8) : impl_IsName a0 =
 impl_IsName_p0 a0 0 :=
 (mk_f _ _ _ _ _ _ _ 4000).trans (by kernel_rfl)
theorem impl_IsName_p0_eq  (v0 : List UInt8) (v3 : Int) : impl_IsName_p0 v0 v3 =
 if decide (v3 < (v0.length : Int)) then
  if decide (0 ≤ v3) then
   (v0[v3.toNat]?).bind fun x1 =>
    if decide ((x1.toNat : Int) ≥ 97) then
     if decide (0 ≤ v3) then
      (v0[v3.toNat]?).bind fun x2 =>
       impl_IsName_p1 v0 v3 (decide ((x2.toNat : Int) ≤ 122))
     else
      none
    else
     impl_IsName_p1 v0 v3 false
  else
   none
 else
  if (!(v0 == [])) then
   (impl_few (v0.length : Int) 10).bind fun x3 =>
    some x3
  else
   some false :=
 (goL_dn _ _ _ 4000 _ _).trans (by kernel_rfl)
theorem impl_IsName_p1_eq  (v0 : List UInt8) (v3 : Int) (v4 : Bool) : impl_IsName_p1 v0 v3 v4 =
 if (!v4) then
  if (v3 == 0) then
   some false
  else
   if decide (0 ≤ v3) then
    (v0[v3.toNat]?).bind fun x1 =>
     (impl_isDigit (x1.toNat : Int)).bind fun x2 =>
      if (!x2) then
       some false
      else
       impl_IsName_p0 v0 (IntKind.i64.wrap (v3 + 1))
   else
    none
 else
  impl_IsName_p0 v0 (IntKind.i64.wrap (v3 + 1)) :=
 (goL_dn _ _ _ 4000 _ _).trans (by kernel_rfl)
def impl_within_ir : Fn := { np := 3,io := [],res := [.t 6],own := [false],body :=
 (.seq (.reg false [.V 6 (.asg (.c (.bool false)))] [0,1,2] []) (.seq (.reg false [.V 7 (.mv (.t 1)),.V 8 (.mv (.t 0)),.V 9 (.bin .leq (.t 7) (.t 8)),.V 10 (.mv (.t 9)),.G 11 (.mv (.t 0)) 3 true,.G 12 (.mv (.t 2)) 3 true,.G 13 (.bin .leq (.t 11) (.t 12)) 3 true,.V 14 (.pick (.t 10) (.t 13) (.c (.bool false))),.V 6 (.asg (.t 14))] [6] []) .ret)) }
noncomputable def impl_within_D : List (Nat × Callee) := []
def impl_within_H : List (Nat × ET) := []
noncomputable def impl_within_c : Callee := mkCallee impl_within_D impl_within_H impl_within_ir [.d (.one (.int .i64)),.d (.one (.int .i64)),.d (.one (.int .i64))] [.d (.one .bool)] []
noncomputable def impl_within (a0 : Int) (a1 : Int) (a2 : Int) : Option (Bool) := impl_within_c.f (a0,a1,a2,())
theorem impl_within_eq (a0 : Int) (a1 : Int) (a2 : Int) : impl_within a0 a1 a2 =
 if decide (a1 ≤ a0) then
  some (decide (a0 ≤ a2))
 else
  some false :=
 (mk_f _ _ _ _ _ _ _ 4000).trans (by kernel_rfl)
def impl_Rib_valid_ir : Fn := { np := 1,io := [],res := [.t 2],own := [false],body :=
 (.seq (.reg false [.W 1 (.box 3 (.t 0)),.V 2 (.asg (.c (.bool false)))] [1] [1]) (.seq (.reg false [.V 3 (.fa 0 (.t 1)),.V 4 (.ld none (.t 3)),.V 5 (.call (.c (.fn 24 [])) [.t 4]),.V 6 (.mv (.t 5)),.G 7 (.fa 1 (.t 1)) 3 true,.G 8 (.ld none (.t 7)) 3 true,.G 9 (.call (.c (.fn 23 [])) [.t 8,.c (.int .i64 1),.c (.int .i64 10000)]) 3 true,.V 10 (.pick (.t 6) (.t 9) (.c (.bool false))),.V 11 (.mv (.t 10)),.G 12 (.fa 2 (.t 1)) 8 true,.G 13 (.ld none (.t 12)) 8 true,.G 14 (.call (.c (.fn 23 [])) [.t 13,.c (.int .i64 1),.c (.int .i64 10000)]) 8 true,.V 15 (.pick (.t 11) (.t 14) (.c (.bool false))),.V 2 (.asg (.t 15))] [2] []) .ret)) }
noncomputable def impl_Rib_valid_D : List (Nat × Callee) := [(23,impl_within_c),(24,impl_IsName_c)]
def impl_Rib_valid_H : List (Nat × ET) := []
noncomputable def impl_Rib_valid_c : Callee := mkCallee impl_Rib_valid_D impl_Rib_valid_H impl_Rib_valid_ir [.d T_Mode] [.d (.one .bool)] []
noncomputable def impl_Rib_valid (a0 : T_Mode.ty) : Option (Bool) := impl_Rib_valid_c.f (a0,())
theorem impl_Rib_valid_eq (a0 : T_Mode.ty) : impl_Rib_valid a0 =
 (impl_IsName a0.1).bind fun x1 =>
  if x1 then
   (impl_within a0.2.1 1 10000).bind fun x2 =>
    if x2 then
     (impl_within a0.2.2.1 1 10000).bind fun x3 =>
      some x3
    else
     some false
  else
   some false :=
 (mk_f _ _ _ _ _ _ _ 4000).trans (by kernel_rfl)
def impl_ValidRibs_k0 : C :=
 .seq (.reg false [.V 8 (.bin .lss (.t 7) (.t 6))] [0,5,6,7,8] []) (.seq (.cond (.t 8) .skip (.exit 0)) (.seq (.block 1 (.seq (.reg false [.V 9 (.mv (.t 7)),.V 10 (.ia 3 (.t 5) (.t 7)),.V 11 (.ld (some 3) (.t 10)),.W 4 (.alloc 3 (.agg [.str [],.int .i64 0,.int .i64 0])),.V 3 (.asg (.t 9)),⟨none,true,.sto 3 (.t 4) (.t 11),none,false,[]⟩] [0,3,4,5,6,7] [4]) (.seq (.reg true [.V 12 (.ld (some 3) (.t 4)),.V 13 (.call (.c (.fn 762 [])) [.t 12]),.V 14 (.un .not (.t 13)),.V 15 (.mv (.t 14)),.G 16 (.mv (.t 3)) 3 false,.G 17 (.bin .gtr (.t 16) (.c (.int .i64 0))) 3 false,.G 18 (.mv (.t 17)) 3 false,.G 19 (.mv (.t 0)) 6 true,.G 20 (.mv (.t 3)) 6 true,.G 21 (.bin .sub (.t 20) (.c (.int .i64 1))) 6 true,.G 22 (.ia 3 (.t 19) (.t 21)) 6 true,.G 23 (.fa 0 (.t 22)) 6 true,.G 24 (.ld none (.t 23)) 6 true,.G 25 (.fa 0 (.t 4)) 6 true,.G 26 (.ld none (.t 25)) 6 true,.G 27 (.bin .geq (.t 24) (.t 26)) 6 true,.G 28 (.pick (.t 18) (.t 27) (.c (.bool false))) 3 false,.V 29 (.pick (.t 15) (.c (.bool true)) (.t 28))] [0,5,6,7,29] []) (.cond (.t 29) (.seq (.reg false [.V 2 (.asg (.c (.bool false)))] [2] []) .ret) .skip)))) (.reg false [.V 30 (.bin .add (.t 7) (.c (.int .i64 1))),.V 7 (.mv (.t 30))] [0,5,6,7] [])))
def impl_ValidRibs_k1 : C :=
 .norm [0,5,6,7] [] impl_ValidRibs_k0
def impl_ValidRibs_k2 : C :=
 .seq (.reg false [.V 31 (.mv (.t 0)),.V 32 (.len (.t 31)),.V 33 (.call (.c (.fn 21 [])) [.t 32,.c (.int .i64 8)]),.V 2 (.asg (.t 33))] [2] []) .ret
def impl_ValidRibs_ir : Fn := { np := 1,io := [],res := [.t 2],own := [false],body :=
 (.seq (.reg false [.V 2 (.asg (.c (.bool false)))] [0] []) (.seq (.seq (.reg false [.V 5 (.mv (.t 0)),.V 6 (.len (.t 5)),.V 7 (.mv (.c (.int .i64 0)))] [0,5,6,7] []) (.block 0 (.loop impl_ValidRibs_k1))) impl_ValidRibs_k2)) }
noncomputable def impl_ValidRibs_D : List (Nat × Callee) := [(21,impl_few_c),(762,impl_Rib_valid_c)]
def impl_ValidRibs_H : List (Nat × ET) := [(5,T_Mode),(19,T_Mode),(31,T_Mode)]
noncomputable def impl_ValidRibs_c : Callee := mkCallee impl_ValidRibs_D impl_ValidRibs_H impl_ValidRibs_ir [.d (.one (.sl T_Mode))] [.d (.one .bool)] []
noncomputable def impl_ValidRibs (a0 : List T_Mode.ty) : Option (Bool) := impl_ValidRibs_c.f (a0,())
noncomputable def impl_ValidRibs_p0  (v0 : List T_Mode.ty) (v5 : List T_Mode.ty) (v6 : Int) (v7 : Int) : Option (Bool) :=
 goL impl_ValidRibs_D impl_ValidRibs_H (vleave impl_ValidRibs_ir [.d (.one (.sl T_Mode))] [.d (.one .bool)] [] []) [.c impl_ValidRibs_k0,.l impl_ValidRibs_k1,.e 0,.c impl_ValidRibs_k2]
  ⟨[(0,.sl T_Mode v0),(5,.sl T_Mode v5),(6,.int .i64 v6),(7,.int .i64 v7)],[]⟩
theorem impl_ValidRibs_eq (a0 : List T_Mode.ty) : impl_ValidRibs a0 =
 impl_ValidRibs_p0 a0 a0 (a0.length : Int) 0 :=
 (mk_f _ _ _ _ _ _ _ 4000).trans (by kernel_rfl)
theorem impl_ValidRibs_p0_eq  (v0 : List T_Mode.ty) (v5 : List T_Mode.ty) (v6 : Int) (v7 : Int) : impl_ValidRibs_p0 v0 v5 v6 v7 =
 if decide (v7 < v6) then
  if decide (0 ≤ v7) then
   (v5[v7.toNat]?).bind fun x1 =>
    (impl_Rib_valid x1).bind fun x2 =>
     if (!x2) then
      some false
     else
      if decide (v7 > 0) then
       if decide (0 ≤ IntKind.i64.wrap (v7 - 1)) then
        (v0[(IntKind.i64.wrap (v7 - 1)).toNat]?).bind fun x3 =>
         if (!Op.bytesLess x3.1 x1.1) then
          some false
         else
          impl_ValidRibs_p0 v0 v5 v6 (IntKind.i64.wrap (v7 + 1))
       else
        none
      else
       impl_ValidRibs_p0 v0 v5 v6 (IntKind.i64.wrap (v7 + 1))
  else
   none
 else
  (impl_few (v0.length : Int) 8).bind fun x4 =>
   some x4 :=
 (goL_dn _ _ _ 4000 _ _).trans (by kernel_rfl)
def impl_isStrip_ir : Fn := { np := 2,io := [],res := [.t 4],own := [false],body :=
 (.seq (.reg false [.V 4 (.asg (.c (.bool false)))] [0,1] []) (.seq (.reg false [.V 5 (.mv (.t 0)),.V 6 (.call (.c (.fn 23 [])) [.t 5,.c (.int .i64 1),.c (.int .i64 100000)]),.V 7 (.mv (.t 6)),.G 8 (.mv (.t 1)) 2 true,.G 9 (.call (.c (.fn 23 [])) [.t 8,.c (.int .i64 0),.c (.int .i64 100)]) 2 true,.V 10 (.pick (.t 7) (.t 9) (.c (.bool false))),.V 4 (.asg (.t 10))] [4] []) .ret)) }
noncomputable def impl_isStrip_D : List (Nat × Callee) := [(23,impl_within_c)]
def impl_isStrip_H : List (Nat × ET) := []
noncomputable def impl_isStrip_c : Callee := mkCallee impl_isStrip_D impl_isStrip_H impl_isStrip_ir [.d (.one (.int .i64)),.d (.one (.int .i64))] [.d (.one .bool)] []
noncomputable def impl_isStrip (a0 : Int) (a1 : Int) : Option (Bool) := impl_isStrip_c.f (a0,a1,())
theorem impl_isStrip_eq (a0 : Int) (a1 : Int) : impl_isStrip a0 a1 =
 (impl_within a0 1 100000).bind fun x1 =>
  if x1 then
   (impl_within a1 0 100).bind fun x2 =>
    some x2
  else
   some false :=
 (mk_f _ _ _ _ _ _ _ 4000).trans (by kernel_rfl)
def impl_cutting_tooLong_k0 : C :=
 .seq (.reg false [.V 11 (.bin .lss (.t 10) (.t 9))] [0,8,9,10,11] []) (.seq (.cond (.t 11) .skip (.exit 0)) (.seq (.block 1 (.seq (.reg false [.V 12 (.ia 3 (.t 8) (.t 10)),.V 13 (.ld (some 3) (.t 12)),.W 4 (.alloc 3 (.agg [.str [],.int .i64 0,.int .i64 0])),⟨none,true,.sto 3 (.t 4) (.t 13),none,false,[]⟩] [0,4,8,9,10] [4]) (.seq (.reg true [.V 14 (.fa 1 (.t 4)),.V 15 (.ld none (.t 14)),.V 16 (.mv (.t 0)),.V 17 (.nilck (.t 16)),.V 18 (.fa 1 (.t 17)),.V 19 (.ld none (.t 18)),.V 20 (.bin .gtr (.t 15) (.t 19))] [0,8,9,10,20] []) (.cond (.t 20) (.seq (.reg false [.V 2 (.asg (.c (.bool true)))] [2] []) .ret) .skip)))) (.reg false [.V 21 (.bin .add (.t 10) (.c (.int .i64 1))),.V 10 (.mv (.t 21))] [0,8,9,10] [])))
def impl_cutting_tooLong_k1 : C :=
 .norm [0,8,9,10] [] impl_cutting_tooLong_k0
def impl_cutting_tooLong_k2 : C :=
 .seq (.reg false [.V 2 (.asg (.c (.bool false)))] [2] []) .ret
def impl_cutting_tooLong_ir : Fn := { np := 1,io := [],res := [.t 2],own := [false],body :=
 (.seq (.reg false [.V 2 (.asg (.c (.bool false)))] [0] []) (.seq (.seq (.reg false [.V 5 (.mv (.t 0)),.V 6 (.nilck (.t 5)),.V 7 (.fa 0 (.t 6)),.V 8 (.ld none (.t 7)),.V 9 (.len (.t 8)),.V 10 (.mv (.c (.int .i64 0)))] [0,8,9,10] []) (.block 0 (.loop impl_cutting_tooLong_k1))) impl_cutting_tooLong_k2)) }
noncomputable def impl_cutting_tooLong_D : List (Nat × Callee) := []
def impl_cutting_tooLong_H : List (Nat × ET) := [(8,T_Mode)]
noncomputable def impl_cutting_tooLong_c : Callee := mkCallee impl_cutting_tooLong_D impl_cutting_tooLong_H impl_cutting_tooLong_ir [.p T_cutting] [.d (.one .bool)] []
noncomputable def impl_cutting_tooLong (a0 : T_cutting.ty) : Option (Bool) := impl_cutting_tooLong_c.f (a0,())
noncomputable def impl_cutting_tooLong_p0  (v0_0 : List T_Mode.ty) (v0_1 : Int) (v0_2 : Int) (v0_3 : List Int) (v0_4 : List Int) (v0_5 : Int) (v0_6 : Int) (v8 : List T_Mode.ty) (v9 : Int) (v10 : Int) : Option (Bool) :=
 goL impl_cutting_tooLong_D impl_cutting_tooLong_H (vleave impl_cutting_tooLong_ir [.p T_cutting] [.d (.one .bool)] [] []) [.c impl_cutting_tooLong_k0,.l impl_cutting_tooLong_k1,.e 0,.c impl_cutting_tooLong_k2]
  ⟨[(0,.ptr [.sl T_Mode v0_0,.int .i64 v0_1,.int .i64 v0_2,.sl (.one (.int .i64)) v0_3,.sl (.one (.int .i64)) v0_4,.int .i64 v0_5,.int .i64 v0_6] 0),(8,.sl T_Mode v8),(9,.int .i64 v9),(10,.int .i64 v10)],[]⟩
theorem impl_cutting_tooLong_eq (a0 : T_cutting.ty) : impl_cutting_tooLong a0 =
 impl_cutting_tooLong_p0 a0.1 a0.2.1 a0.2.2.1 a0.2.2.2.1 a0.2.2.2.2.1 a0.2.2.2.2.2.1 a0.2.2.2.2.2.2.1 a0.1 (a0.1.length : Int) 0 :=
 (mk_f _ _ _ _ _ _ _ 4000).trans (by kernel_rfl)
theorem impl_cutting_tooLong_p0_eq  (v0_0 : List T_Mode.ty) (v0_1 : Int) (v0_2 : Int) (v0_3 : List Int) (v0_4 : List Int) (v0_5 : Int) (v0_6 : Int) (v8 : List T_Mode.ty) (v9 : Int) (v10 : Int) : impl_cutting_tooLong_p0 v0_0 v0_1 v0_2 v0_3 v0_4 v0_5 v0_6 v8 v9 v10 =
 if decide (v10 < v9) then
  if decide (0 ≤ v10) then
   (v8[v10.toNat]?).bind fun x1 =>
    if decide (x1.2.1 > v0_1) then
     some true
    else
     impl_cutting_tooLong_p0 v0_0 v0_1 v0_2 v0_3 v0_4 v0_5 v0_6 v8 v9 (IntKind.i64.wrap (v10 + 1))
  else
   none
 else
  some false :=
 (goL_dn _ _ _ 4000 _ _).trans (by kernel_rfl)
def impl_cutting_take_k0 : C :=
 .seq (.reg false [.V 45 (.mv (.t 0)),.V 46 (.nilck (.t 45)),.V 47 (.fa 3 (.t 46)),.V 48 (.ld none (.t 47)),.V 49 (.mv (.t 1)),.V 50 (.ia 1 (.t 48) (.t 49)),.V 51 (.ld none (.t 50)),.V 7 (.asg (.t 51))] [0,1,6,7] [0,1000,1003,1004]) (.seq (.seq (.reg false [.V 52 (.mv (.t 6)),.V 53 (.mv (.t 0)),.V 54 (.nilck (.t 53)),.V 55 (.fa 2 (.t 54)),.V 56 (.ld none (.t 55)),.V 57 (.bin .add (.t 52) (.t 56)),.V 58 (.mv (.t 7)),.V 59 (.bin .gtr (.t 57) (.t 58))] [0,1,6,7,59] [0,1000,1003,1004]) (.cond (.t 59) (.seq (.reg false [.V 60 (.mv (.t 7)),.V 4 (.asg (.t 60)),.V 5 (.asg (.c (.bool false)))] [0,4,5] [0,1000,1003,1004]) .ret) .skip)) (.seq (.reg true [.V 61 (.mv (.t 0)),.V 62 (.nilck (.t 61)),.V 63 (.fa 3 (.t 62)),.V 64 (.ld none (.t 63)),.V 65 (.mv (.t 1)),.V 66 (.ia 1 (.t 64) (.t 65)),.V 67 (.ld none (.t 66)),.V 68 (.mv (.t 6)),.V 69 (.mv (.t 0)),.V 70 (.nilck (.t 69)),.V 71 (.fa 2 (.t 70)),.V 72 (.ld none (.t 71)),.V 73 (.bin .add (.t 68) (.t 72)),.V 74 (.bin .sub (.t 67) (.t 73)),.V 75 (.ia 1 (.t 64) (.t 65)),⟨none,true,.sto 1 (.t 75) (.t 74),none,false,[]⟩] [0,1,7] [0,1000,1003,1004]) (.seq (.reg false [.V 76 (.mv (.t 0)),.V 77 (.mv (.t 0)),.V 78 (.nilck (.t 77)),.V 79 (.fa 4 (.t 78)),.V 80 (.ld none (.t 79)),.V 81 (.mv (.t 1)),.V 82 (.bsl 1 (.int .i64 0) 1 [(0,.t 81)]),.W 83 (.app 1 8 (.t 80) (.t 82)),.V 84 (.nilck (.t 76)),.V 85 (.fa 4 (.t 84)),⟨none,true,.sto 1 (.t 85) (.t 83),none,false,[]⟩] [0,7] [0,1000,1003,1004]) (.seq (.reg false [.V 86 (.mv (.t 7)),.V 4 (.asg (.t 86)),.V 5 (.asg (.c (.bool true)))] [0,4,5] [0,1000,1003,1004]) .ret))))
def impl_cutting_take_ir : Fn := { np := 2,io := [true,false],res := [.t 4,.t 5],own := [false,false],body :=
 (.seq (.reg false [.V 4 (.asg (.c (.int .i64 0))),.V 5 (.asg (.c (.bool false)))] [0,1] [0,1000,1003,1004]) (.seq (.reg true [.V 8 (.mv (.t 0)),.V 9 (.nilck (.t 8)),.V 10 (.fa 0 (.t 9)),.V 11 (.ld none (.t 10)),.V 12 (.mv (.t 0)),.V 13 (.nilck (.t 12)),.V 14 (.fa 4 (.t 13)),.V 15 (.ld none (.t 14)),.V 16 (.len (.t 15)),.V 17 (.ia 3 (.t 11) (.t 16)),.V 18 (.fa 1 (.t 17)),.V 19 (.ld none (.t 18)),.V 6 (.asg (.t 19))] [0,1,6] [0,1000,1003,1004]) (.seq (.seq (.reg false [.V 20 (.mv (.t 1)),.V 21 (.mv (.t 0)),.V 22 (.nilck (.t 21)),.V 23 (.fa 3 (.t 22)),.V 24 (.ld none (.t 23)),.V 25 (.len (.t 24)),.V 26 (.bin .eql (.t 20) (.t 25))] [0,1,6,26] [0,1000,1003,1004]) (.cond (.t 26) (.reg true [⟨some 27,false,.mv (.t 0),none,false,[1000000,1000001,1000002]⟩,.V 28 (.mv (.t 0)),.V 29 (.nilck (.t 28)),.V 30 (.fa 3 (.t 29)),.V 31 (.ld none (.t 30)),.V 32 (.mv (.t 0)),.V 33 (.nilck (.t 32)),.V 34 (.fa 1 (.t 33)),.V 35 (.ld none (.t 34)),.V 36 (.mv (.t 0)),.V 37 (.nilck (.t 36)),.V 38 (.fa 2 (.t 37)),.V 39 (.ld none (.t 38)),.V 40 (.bin .add (.t 35) (.t 39)),.V 41 (.bsl 1 (.int .i64 0) 1 [(0,.t 40)]),⟨some 42,true,.app 1 8 (.t 31) (.t 41),none,true,[0,27]⟩,.V 43 (.nilck (.t 27)),.V 44 (.fa 3 (.t 43)),⟨none,true,.sto 1 (.t 44) (.t 42),none,false,[]⟩] [0,1,6] [0,1000,1003,1004]) .skip)) (.norm [0,1,6] [0,1000,1003,1004] impl_cutting_take_k0)))) }
noncomputable def impl_cutting_take_D : List (Nat × Callee) := []
def impl_cutting_take_H : List (Nat × ET) := [(11,T_Mode),(15,(.one (.int .i64))),(24,(.one (.int .i64))),(31,(.one (.int .i64))),(41,(.one (.int .i64))),(42,(.one (.int .i64))),(48,(.one (.int .i64))),(64,(.one (.int .i64))),(80,(.one (.int .i64))),(82,(.one (.int .i64))),(83,(.one (.int .i64)))]
noncomputable def impl_cutting_take_c : Callee := mkCallee impl_cutting_take_D impl_cutting_take_H impl_cutting_take_ir [.box T_cuttingO,.d (.one (.int .i64))] [.d (.one (.int .i64)),.d (.one .bool)] [.box T_cuttingO]
noncomputable def impl_cutting_take (a0 : T_cuttingO.ty) (a1 : Int) : Option (Int × Bool × T_cuttingO.ty) := impl_cutting_take_c.f (a0,a1,())
noncomputable def impl_cutting_take_p0  (v1 : Int) (v6 : Int) (r0_0 : List T_Mode.ty) (r0_1 : Int) (r0_2 : Int) (r0_5 : Int) (r0_6 : Int) (r1003 : List Int) (r1004 : List Int) : Option (Int × Bool × T_cuttingO.ty) :=
 goL impl_cutting_take_D impl_cutting_take_H (vleave impl_cutting_take_ir [.box T_cuttingO,.d (.one (.int .i64))] [.d (.one (.int .i64)),.d (.one .bool)] [.box T_cuttingO] []) [.c impl_cutting_take_k0]
  ⟨[(0,.loc 0 0 0),(1,.int .i64 v1),(6,.int .i64 v6)],[(0,some (.var 7 (.agg [.sl T_Mode r0_0,.int .i64 r0_1,.int .i64 r0_2,.view 1003 0 r1003.length,.view 1004 0 r1004.length,.int .i64 r0_5,.int .i64 r0_6]))),(1000,none),(1003,some (.sl (.one (.int .i64)) r1003)),(1004,some (.sl (.one (.int .i64)) r1004))]⟩
theorem impl_cutting_take_eq (a0 : T_cuttingO.ty) (a1 : Int) : impl_cutting_take a0 a1 =
 if decide (0 ≤ (a0.2.2.2.2.1.length : Int)) then
  (a0.1[(a0.2.2.2.2.1.length : Int).toNat]?).bind fun x1 =>
   if (a1 == (a0.2.2.2.1.length : Int)) then
    if decide (a0.2.2.2.1.length + 1 < lim) then
     impl_cutting_take_p0 a1 x1.2.1 a0.1 a0.2.1 a0.2.2.1 a0.2.2.2.2.2.1 a0.2.2.2.2.2.2.1 ((a0.2.2.2.1.take a0.2.2.2.1.length) ++ [IntKind.i64.wrap (a0.2.1 + a0.2.2.1)]) a0.2.2.2.2.1
    else
     none
   else
    impl_cutting_take_p0 a1 x1.2.1 a0.1 a0.2.1 a0.2.2.1 a0.2.2.2.2.2.1 a0.2.2.2.2.2.2.1 a0.2.2.2.1 a0.2.2.2.2.1
 else
  none :=
 (mk_f _ _ _ _ _ _ _ 4000).trans (by kernel_rfl)
theorem impl_cutting_take_p0_eq  (v1 : Int) (v6 : Int) (r0_0 : List T_Mode.ty) (r0_1 : Int) (r0_2 : Int) (r0_5 : Int) (r0_6 : Int) (r1003 : List Int) (r1004 : List Int) : impl_cutting_take_p0 v1 v6 r0_0 r0_1 r0_2 r0_5 r0_6 r1003 r1004 =
 if decide (0 ≤ v1) && decide (v1 < (r1003.length : Int)) then
  (r1003[v1.toNat]?).bind fun x1 =>
   if decide (IntKind.i64.wrap (v6 + r0_2) > x1) then
    some (x1,false,(r0_0,r0_1,r0_2,(r1003.take r1003.length),(r1004.take r1004.length),r0_5,r0_6,()))
   else
    if decide (0 ≤ v1) && decide (v1 < (r1003.length : Int)) then
     (r1003[v1.toNat]?).bind fun x2 =>
      if decide (0 ≤ v1) && decide (v1 < (r1003.length : Int)) then
       (r1003[v1.toNat]?).bind fun x3 =>
        if decide (r1004.length + 1 < lim) then
         some (x1,true,(r0_0,r0_1,r0_2,((r1003.set v1.toNat (IntKind.i64.wrap (x2 - (IntKind.i64.wrap (v6 + r0_2))))).take r1003.length),(((r1004.take r1004.length) ++ [v1]).take (((r1004.take r1004.length) ++ [v1]).length)),r0_5,r0_6,()))
        else
         none
      else
       none
    else
     none
 else
  none :=
 (goL_dn _ _ _ 4000 _ _).trans (by kernel_rfl)
def impl_cutting_search_k0 : C :=
 .reg true [.V 68 (.mv (.t 0)),.V 69 (.mv (.t 0)),.V 70 (.nilck (.t 69)),.V 71 (.fa 4 (.t 70)),.V 72 (.ld none (.t 71)),.V 73 (.mv (.t 0)),.V 74 (.nilck (.t 73)),.V 75 (.fa 4 (.t 74)),.V 76 (.ld none (.t 75)),.V 77 (.len (.t 76)),.V 78 (.bin .sub (.t 77) (.c (.int .i64 1))),.V 79 (.slc 1 (.t 72) none (some (.t 78))),.V 80 (.nilck (.t 68)),.V 81 (.fa 4 (.t 80)),⟨none,true,.sto 1 (.t 81) (.t 79),none,false,[]⟩] [0,4,5,6] [0,1000,1003,1004]
def impl_cutting_search_k1 : C :=
 .seq (.reg false [.V 82 (.mv (.t 0)),.V 83 (.nilck (.t 82)),.V 84 (.fa 3 (.t 83)),.V 85 (.ld none (.t 84)),.V 86 (.mv (.t 5)),.V 87 (.mv (.t 6)),.V 88 (.ia 1 (.t 85) (.t 86)),⟨none,true,.sto 1 (.t 88) (.t 87),none,false,[]⟩] [0,4,5] [0,1000,1003,1004]) (.reg false [.V 89 (.mv (.t 0)),.V 90 (.mv (.t 0)),.V 91 (.nilck (.t 90)),.V 92 (.fa 3 (.t 91)),.V 93 (.ld none (.t 92)),.V 94 (.mv (.t 4)),.V 95 (.slc 1 (.t 93) none (some (.t 94))),.V 96 (.nilck (.t 89)),.V 97 (.fa 3 (.t 96)),⟨none,true,.sto 1 (.t 97) (.t 95),none,false,[]⟩] [0,4,5] [0,1000,1003,1004])
def impl_cutting_search_k2 : C :=
 .norm [0,4,5,6] [0,1000,1003,1004] impl_cutting_search_k1
def impl_cutting_search_k3 : C :=
 .reg false [.V 35 (.mv (.t 5)),.V 36 (.bin .add (.t 35) (.c (.int .i64 1))),.V 5 (.asg (.t 36))] [0,4,5] [0,1000,1003,1004]
def impl_cutting_search_k4 : C :=
 .seq (.block 1 (.seq (.reg false [.V 38 (.mv (.t 0)),.V 39 (.mv (.t 5)),.W 40 (.call (.c (.fn 510 [])) [.t 38,.t 39]),.V 37 (.mv (.t 40)),.V 41 (.ext (.t 37) 0),.V 42 (.ext (.t 37) 1),.V 6 (.asg (.t 41)),.V 7 (.asg (.t 42))] [0,4,5,6,7] [0,1000,1003,1004]) (.seq (.seq (.reg false [.V 43 (.mv (.t 7))] [0,4,5,6,43] [0,1000,1003,1004]) (.cond (.t 43) (.seq (.seq (.reg false [.V 44 (.mv (.t 0)),.V 45 (.nilck (.t 44)),.V 46 (.fa 5 (.t 45)),.V 47 (.ld none (.t 46)),.V 48 (.bin .eql (.t 47) (.c (.int .i64 0)))] [0,4,5,6,48] [0,1000,1003,1004]) (.cond (.t 48) (.seq (.reg false [.V 2 (.asg (.c (.bool false))),.V 3 (.asg (.c (.bool false)))] [0,2,3] [0,1000,1003,1004]) .ret) .skip)) (.seq (.reg false [.V 49 (.mv (.t 0)),.V 50 (.nilck (.t 49)),.V 51 (.fa 5 (.t 50)),.V 52 (.ld none (.t 51)),.V 53 (.bin .sub (.t 52) (.c (.int .i64 1))),.V 54 (.nilck (.t 49)),.V 55 (.fa 5 (.t 54)),⟨none,true,.sto 1 (.t 55) (.t 53),none,false,[]⟩] [0,4,5,6] [0,1000,1003,1004]) (.seq (.seq (.reg false [.V 57 (.mv (.t 0)),.W 58 (.call (.c (.fn 506 [])) [.t 57]),.V 56 (.mv (.t 58)),.V 59 (.ext (.t 56) 0),.V 60 (.ext (.t 56) 1),.V 2 (.asg (.t 59)),.V 3 (.asg (.t 60))] [0,2,3,4,5,6] [0,1000,1003,1004]) (.seq (.reg false [.V 61 (.mv (.t 2)),.V 62 (.mv (.t 61)),.G 63 (.mv (.t 3)) 1 false,.G 64 (.un .not (.t 63)) 1 false,.V 65 (.pick (.t 62) (.c (.bool true)) (.t 64))] [0,2,3,4,5,6,65] [0,1000,1003,1004]) (.cond (.t 65) (.seq (.reg false [.V 66 (.mv (.t 2)),.V 67 (.mv (.t 3)),.V 2 (.asg (.t 66)),.V 3 (.asg (.t 67))] [0,2,3] [0,1000,1003,1004]) .ret) .skip))) (.norm [0,4,5,6] [0,1000,1003,1004] impl_cutting_search_k0)))) .skip)) impl_cutting_search_k2))) impl_cutting_search_k3
def impl_cutting_search_k5 : C :=
 .seq (.seq (.reg false [.V 24 (.mv (.t 5)),.V 25 (.mv (.t 4)),.V 26 (.bin .leq (.t 24) (.t 25)),.V 27 (.mv (.t 26)),.G 28 (.mv (.t 5)) 3 true,.G 29 (.mv (.t 0)) 3 true,.G 30 (.nilck (.t 29)) 3 true,.G 31 (.fa 6 (.t 30)) 3 true,.G 32 (.ld none (.t 31)) 3 true,.G 33 (.bin .lss (.t 28) (.t 32)) 3 true,.V 34 (.pick (.t 27) (.t 33) (.c (.bool false)))] [0,4,5,34] [0,1000,1003,1004]) (.cond (.t 34) .skip (.exit 0))) (.norm [0,4,5] [0,1000,1003,1004] impl_cutting_search_k4)
def impl_cutting_search_k6 : C :=
 .norm [0,4,5] [0,1000,1003,1004] impl_cutting_search_k5
def impl_cutting_search_k7 : C :=
 .seq (.reg false [.V 2 (.asg (.c (.bool false))),.V 3 (.asg (.c (.bool true)))] [0,2,3] [0,1000,1003,1004]) .ret
def impl_cutting_search_ir : Fn := { np := 1,io := [true],res := [.t 2,.t 3],own := [false,false],body :=
 (.seq (.reg false [.V 2 (.asg (.c (.bool false))),.V 3 (.asg (.c (.bool false)))] [0] [0,1000,1003,1004]) (.seq (.seq (.reg true [.V 8 (.mv (.t 0)),.V 9 (.nilck (.t 8)),.V 10 (.fa 4 (.t 9)),.V 11 (.ld none (.t 10)),.V 12 (.len (.t 11)),.V 13 (.mv (.t 0)),.V 14 (.nilck (.t 13)),.V 15 (.fa 0 (.t 14)),.V 16 (.ld none (.t 15)),.V 17 (.len (.t 16)),.V 18 (.bin .eql (.t 12) (.t 17))] [0,18] [0,1000,1003,1004]) (.cond (.t 18) (.seq (.reg false [.V 2 (.asg (.c (.bool true))),.V 3 (.asg (.c (.bool true)))] [0,2,3] [0,1000,1003,1004]) .ret) .skip)) (.seq (.reg false [.V 19 (.mv (.t 0)),.V 20 (.nilck (.t 19)),.V 21 (.fa 3 (.t 20)),.V 22 (.ld none (.t 21)),.V 23 (.len (.t 22)),.V 4 (.asg (.t 23))] [0,4] [0,1000,1003,1004]) (.seq (.seq (.reg false [.V 5 (.asg (.c (.int .i64 0)))] [0,4,5] [0,1000,1003,1004]) (.block 0 (.loop impl_cutting_search_k6))) impl_cutting_search_k7)))) }
def impl_cutting_search_H : List (Nat × ET) := [(11,(.one (.int .i64))),(16,T_Mode),(22,(.one (.int .i64))),(72,(.one (.int .i64))),(76,(.one (.int .i64))),(79,(.one (.int .i64))),(85,(.one (.int .i64))),(93,(.one (.int .i64))),(95,(.one (.int .i64)))]
noncomputable def impl_cutting_search_F : Nat → tysU [.box T_cuttingO] → Option (tys1 ([.d (.one .bool),.d (.one .bool)] ++ [.box T_cuttingO]))
 | 0 => fun _ => none
 | n + 1 => (mkCallee [(506,⟨[true],[.box T_cuttingO],[.d (.one .bool),.d (.one .bool)],[.box T_cuttingO],impl_cutting_search_F n⟩),(510,impl_cutting_take_c)] impl_cutting_search_H impl_cutting_search_ir [.box T_cuttingO] [.d (.one .bool),.d (.one .bool)] [.box T_cuttingO]).f
noncomputable def impl_cutting_search_D (n : Nat) : List (Nat × Callee) := [(506,⟨[true],[.box T_cuttingO],[.d (.one .bool),.d (.one .bool)],[.box T_cuttingO],impl_cutting_search_F n⟩),(510,impl_cutting_take_c)]
noncomputable def impl_cutting_search_c : Callee := ⟨[true],[.box T_cuttingO],[.d (.one .bool),.d (.one .bool)],[.box T_cuttingO],impl_cutting_search_F 1000⟩
noncomputable def impl_cutting_search_N (n : Nat) : Callee := ⟨[true],[.box T_cuttingO],[.d (.one .bool),.d (.one .bool)],[.box T_cuttingO],impl_cutting_search_F n⟩
theorem impl_cutting_search_N_eq (n : Nat) : impl_cutting_search_N (n + 1) = mkCallee (impl_cutting_search_D n) impl_cutting_search_H impl_cutting_search_ir [.box T_cuttingO] [.d (.one .bool),.d (.one .bool)] [.box T_cuttingO] := rfl
noncomputable def impl_cutting_search (n : Nat) (a0 : T_cuttingO.ty) : Option (Bool × Bool × T_cuttingO.ty) := impl_cutting_search_F n (a0,())
noncomputable def impl_cutting_search_p0 (n : Nat)  (v4 : Int) (v5 : Int) (r0_0 : List T_Mode.ty) (r0_1 : Int) (r0_2 : Int) (r0_3n : Nat) (r0_4n : Nat) (r0_5 : Int) (r0_6 : Int) (r1003 : List Int) (r1004 : List Int) : Option (Bool × Bool × T_cuttingO.ty) :=
 goL (impl_cutting_search_D n) impl_cutting_search_H (vleave impl_cutting_search_ir [.box T_cuttingO] [.d (.one .bool),.d (.one .bool)] [.box T_cuttingO] []) [.c impl_cutting_search_k5,.l impl_cutting_search_k6,.e 0,.c impl_cutting_search_k7]
  ⟨[(0,.loc 0 0 0),(4,.int .i64 v4),(5,.int .i64 v5)],[(0,some (.var 7 (.agg [.sl T_Mode r0_0,.int .i64 r0_1,.int .i64 r0_2,.view 1003 0 r0_3n,.view 1004 0 r0_4n,.int .i64 r0_5,.int .i64 r0_6]))),(1000,none),(1003,some (.sl (.one (.int .i64)) r1003)),(1004,some (.sl (.one (.int .i64)) r1004))]⟩
noncomputable def impl_cutting_search_p1 (n : Nat)  (v4 : Int) (v5 : Int) (r0_0 : List T_Mode.ty) (r0_1 : Int) (r0_2 : Int) (r0_3n : Nat) (r0_4n : Nat) (r0_5 : Int) (r0_6 : Int) (r1003 : List Int) (r1004 : List Int) : Option (Bool × Bool × T_cuttingO.ty) :=
 goL (impl_cutting_search_D n) impl_cutting_search_H (vleave impl_cutting_search_ir [.box T_cuttingO] [.d (.one .bool),.d (.one .bool)] [.box T_cuttingO] []) [.c impl_cutting_search_k4,.l impl_cutting_search_k6,.e 0,.c impl_cutting_search_k7]
  ⟨[(0,.loc 0 0 0),(4,.int .i64 v4),(5,.int .i64 v5)],[(0,some (.var 7 (.agg [.sl T_Mode r0_0,.int .i64 r0_1,.int .i64 r0_2,.view 1003 0 r0_3n,.view 1004 0 r0_4n,.int .i64 r0_5,.int .i64 r0_6]))),(1000,none),(1003,some (.sl (.one (.int .i64)) r1003)),(1004,some (.sl (.one (.int .i64)) r1004))]⟩
noncomputable def impl_cutting_search_p2 (n : Nat)  (v4 : Int) (v5 : Int) (v6 : Int) (r0_0 : List T_Mode.ty) (r0_1 : Int) (r0_2 : Int) (r0_5 : Int) (r0_6 : Int) (r1003 : List Int) (r1004 : List Int) : Option (Bool × Bool × T_cuttingO.ty) :=
 goL (impl_cutting_search_D n) impl_cutting_search_H (vleave impl_cutting_search_ir [.box T_cuttingO] [.d (.one .bool),.d (.one .bool)] [.box T_cuttingO] []) [.c impl_cutting_search_k0,.c impl_cutting_search_k2,.e 1,.c impl_cutting_search_k3,.l impl_cutting_search_k6,.e 0,.c impl_cutting_search_k7]
  ⟨[(0,.loc 0 0 0),(4,.int .i64 v4),(5,.int .i64 v5),(6,.int .i64 v6)],[(0,some (.var 7 (.agg [.sl T_Mode r0_0,.int .i64 r0_1,.int .i64 r0_2,.view 1003 0 r1003.length,.view 1004 0 r1004.length,.int .i64 r0_5,.int .i64 r0_6]))),(1000,none),(1003,some (.sl (.one (.int .i64)) r1003)),(1004,some (.sl (.one (.int .i64)) r1004))]⟩
noncomputable def impl_cutting_search_p3 (n : Nat)  (v4 : Int) (v5 : Int) (v6 : Int) (r0_0 : List T_Mode.ty) (r0_1 : Int) (r0_2 : Int) (r0_4n : Nat) (r0_5 : Int) (r0_6 : Int) (r1003 : List Int) (r1004 : List Int) : Option (Bool × Bool × T_cuttingO.ty) :=
 goL (impl_cutting_search_D n) impl_cutting_search_H (vleave impl_cutting_search_ir [.box T_cuttingO] [.d (.one .bool),.d (.one .bool)] [.box T_cuttingO] []) [.c impl_cutting_search_k1,.e 1,.c impl_cutting_search_k3,.l impl_cutting_search_k6,.e 0,.c impl_cutting_search_k7]
  ⟨[(0,.loc 0 0 0),(4,.int .i64 v4),(5,.int .i64 v5),(6,.int .i64 v6)],[(0,some (.var 7 (.agg [.sl T_Mode r0_0,.int .i64 r0_1,.int .i64 r0_2,.view 1003 0 r1003.length,.view 1004 0 r0_4n,.int .i64 r0_5,.int .i64 r0_6]))),(1000,none),(1003,some (.sl (.one (.int .i64)) r1003)),(1004,some (.sl (.one (.int .i64)) r1004))]⟩
theorem impl_cutting_search_eq (n : Nat) (a0 : T_cuttingO.ty) : impl_cutting_search (n + 1) a0 =
 if ((a0.2.2.2.2.1.length : Int) == (a0.1.length : Int)) then
  some (true,true,(a0.1,a0.2.1,a0.2.2.1,(a0.2.2.2.1.take a0.2.2.2.1.length),(a0.2.2.2.2.1.take a0.2.2.2.2.1.length),a0.2.2.2.2.2.1,a0.2.2.2.2.2.2.1,()))
 else
  impl_cutting_search_p0 n (a0.2.2.2.1.length : Int) 0 a0.1 a0.2.1 a0.2.2.1 a0.2.2.2.1.length a0.2.2.2.2.1.length a0.2.2.2.2.2.1 a0.2.2.2.2.2.2.1 a0.2.2.2.1 a0.2.2.2.2.1 :=
 (mk_f (impl_cutting_search_D n) impl_cutting_search_H impl_cutting_search_ir [.box T_cuttingO] [.d (.one .bool),.d (.one .bool)] [.box T_cuttingO] (a0,()) 4000).trans (by kernel_rfl)
theorem impl_cutting_search_p0_eq (n : Nat)  (v4 : Int) (v5 : Int) (r0_0 : List T_Mode.ty) (r0_1 : Int) (r0_2 : Int) (r0_3n : Nat) (r0_4n : Nat) (r0_5 : Int) (r0_6 : Int) (r1003 : List Int) (r1004 : List Int) : impl_cutting_search_p0 n v4 v5 r0_0 r0_1 r0_2 r0_3n r0_4n r0_5 r0_6 r1003 r1004 =
 if decide (v5 ≤ v4) then
  if decide (v5 < r0_6) then
   impl_cutting_search_p1 n v4 v5 r0_0 r0_1 r0_2 r0_3n r0_4n r0_5 r0_6 r1003 r1004
  else
   some (false,true,(r0_0,r0_1,r0_2,(r1003.take r0_3n),(r1004.take r0_4n),r0_5,r0_6,()))
 else
  some (false,true,(r0_0,r0_1,r0_2,(r1003.take r0_3n),(r1004.take r0_4n),r0_5,r0_6,())) :=
 (goL_dn _ _ _ 4000 _ _).trans (by kernel_rfl)
theorem impl_cutting_search_p1_eq (n : Nat)  (v4 : Int) (v5 : Int) (r0_0 : List T_Mode.ty) (r0_1 : Int) (r0_2 : Int) (r0_3n : Nat) (r0_4n : Nat) (r0_5 : Int) (r0_6 : Int) (r1003 : List Int) (r1004 : List Int) : impl_cutting_search_p1 n v4 v5 r0_0 r0_1 r0_2 r0_3n r0_4n r0_5 r0_6 r1003 r1004 =
 (impl_cutting_take (r0_0,r0_1,r0_2,(r1003.take r0_3n),(r1004.take r0_4n),r0_5,r0_6,()) v5).bind fun x1 =>
  if x1.2.1 then
   if (x1.2.2.2.2.2.2.2.1 == 0) then
    some (false,false,(x1.2.2.1,x1.2.2.2.1,x1.2.2.2.2.1,(x1.2.2.2.2.2.1.take x1.2.2.2.2.2.1.length),(x1.2.2.2.2.2.2.1.take x1.2.2.2.2.2.2.1.length),x1.2.2.2.2.2.2.2.1,x1.2.2.2.2.2.2.2.2.1,()))
   else
    (impl_cutting_search n (x1.2.2.1,x1.2.2.2.1,x1.2.2.2.2.1,(x1.2.2.2.2.2.1.take x1.2.2.2.2.2.1.length),(x1.2.2.2.2.2.2.1.take x1.2.2.2.2.2.2.1.length),IntKind.i64.wrap (x1.2.2.2.2.2.2.2.1 - 1),x1.2.2.2.2.2.2.2.2.1,())).bind fun x2 =>
     if x2.1 then
      some (x2.1,x2.2.1,(x2.2.2.1,x2.2.2.2.1,x2.2.2.2.2.1,(x2.2.2.2.2.2.1.take x2.2.2.2.2.2.1.length),(x2.2.2.2.2.2.2.1.take x2.2.2.2.2.2.2.1.length),x2.2.2.2.2.2.2.2.1,x2.2.2.2.2.2.2.2.2.1,()))
     else
      if (!x2.2.1) then
       some (x2.1,x2.2.1,(x2.2.2.1,x2.2.2.2.1,x2.2.2.2.2.1,(x2.2.2.2.2.2.1.take x2.2.2.2.2.2.1.length),(x2.2.2.2.2.2.2.1.take x2.2.2.2.2.2.2.1.length),x2.2.2.2.2.2.2.2.1,x2.2.2.2.2.2.2.2.2.1,()))
      else
       impl_cutting_search_p2 n v4 v5 x1.1 x2.2.2.1 x2.2.2.2.1 x2.2.2.2.2.1 x2.2.2.2.2.2.2.2.1 x2.2.2.2.2.2.2.2.2.1 x2.2.2.2.2.2.1 x2.2.2.2.2.2.2.1
  else
   impl_cutting_search_p3 n v4 v5 x1.1 x1.2.2.1 x1.2.2.2.1 x1.2.2.2.2.1 x1.2.2.2.2.2.2.1.length x1.2.2.2.2.2.2.2.1 x1.2.2.2.2.2.2.2.2.1 x1.2.2.2.2.2.1 x1.2.2.2.2.2.2.1 :=
 (goL_dn _ _ _ 4000 _ _).trans (by kernel_rfl)
theorem impl_cutting_search_p2_eq (n : Nat)  (v4 : Int) (v5 : Int) (v6 : Int) (r0_0 : List T_Mode.ty) (r0_1 : Int) (r0_2 : Int) (r0_5 : Int) (r0_6 : Int) (r1003 : List Int) (r1004 : List Int) : impl_cutting_search_p2 n v4 v5 v6 r0_0 r0_1 r0_2 r0_5 r0_6 r1003 r1004 =
 if decide (0 ≤ IntKind.i64.wrap ((r1004.length : Int) - 1)) && decide (IntKind.i64.wrap ((r1004.length : Int) - 1) ≤ (r1004.length : Int)) then
  impl_cutting_search_p3 n v4 v5 v6 r0_0 r0_1 r0_2 ((IntKind.i64.wrap ((r1004.length : Int) - 1)).toNat) r0_5 r0_6 r1003 r1004
 else
  none :=
 (goL_dn _ _ _ 4000 _ _).trans (by kernel_rfl)
theorem impl_cutting_search_p3_eq (n : Nat)  (v4 : Int) (v5 : Int) (v6 : Int) (r0_0 : List T_Mode.ty) (r0_1 : Int) (r0_2 : Int) (r0_4n : Nat) (r0_5 : Int) (r0_6 : Int) (r1003 : List Int) (r1004 : List Int) : impl_cutting_search_p3 n v4 v5 v6 r0_0 r0_1 r0_2 r0_4n r0_5 r0_6 r1003 r1004 =
 if decide (0 ≤ v5) && decide (v5 < (r1003.length : Int)) then
  (r1003[v5.toNat]?).bind fun x1 =>
   if decide (0 ≤ v4) && decide (v4 ≤ (r1003.length : Int)) then
    impl_cutting_search_p0 n v4 (IntKind.i64.wrap (v5 + 1)) r0_0 r0_1 r0_2 v4.toNat r0_4n r0_5 r0_6 (r1003.set v5.toNat v6) r1004
   else
    none
 else
  none :=
 (goL_dn _ _ _ 4000 _ _).trans (by kernel_rfl)
def impl_CutRibs_k0 : C :=
 .seq (.reg false [.V 35 (.mv (.t 11)),.V 36 (.call (.c (.fn 507 [])) [.t 35]),.V 34 (.asg (.t 36))] [11,34] [19,20000,20003,20004]) (.cond (.t 34) (.seq (.reg false [.W 8 (.asg (.c (.nils 1))),.V 9 (.asg (.c (.int .i64 0))),.V 10 (.asg (.c (.int .i64 6)))] [8,9,10] [8,20003,20004]) .ret) .skip)
def impl_CutRibs_k1 : C :=
 .seq (.seq (.reg false [.V 40 (.mv (.t 11)),.V 41 (.nilck (.t 40)),.V 42 (.fa 6 (.t 41)),.V 43 (.ld none (.t 42)),.V 44 (.bin .leq (.t 43) (.c (.int .i64 8)))] [11,44] [19,20000,20003,20004]) (.cond (.t 44) .skip (.exit 1))) (.seq (.block 2 (.seq (.reg false [.V 52 (.mv (.t 11)),.V 53 (.mv (.t 11)),.V 54 (.nilck (.t 52)),.V 55 (.fa 3 (.t 54)),⟨none,true,.sto 1 (.t 55) (.c (.nils 1)),none,false,[]⟩,.V 56 (.nilck (.t 53)),.V 57 (.fa 4 (.t 56)),⟨none,true,.sto 1 (.t 57) (.c (.nils 1)),none,false,[]⟩] [11] [19,20000]) (.seq (.opn 20003 (.opn 20004 (.reg false [.V 59 (.mv (.t 11)),.W 60 (.call (.c (.fn 506 [])) [.t 59]),.V 58 (.mv (.t 60)),.V 61 (.ext (.t 58) 0),.V 62 (.ext (.t 58) 1),.V 12 (.asg (.t 61)),.V 13 (.asg (.t 62))] [11,12,13] [19,20000,20003,20004]))) (.seq (.seq (.reg false [.V 63 (.mv (.t 13)),.V 64 (.un .not (.t 63))] [11,12,64] [19,20000,20003,20004]) (.cond (.t 64) (.exit 1) .skip)) (.seq (.reg false [.V 65 (.mv (.t 12))] [11,65] [19,20000,20003,20004]) (.cond (.t 65) (.seq (.reg true [.V 66 (.mv (.t 11)),.V 67 (.nilck (.t 66)),.V 68 (.fa 4 (.t 67)),.V 69 (.ld none (.t 68)),⟨some 70,false,.mv (.t 11),none,false,[1000000]⟩,⟨some 71,false,.nilck (.t 70),none,false,[1000000]⟩,⟨some 72,false,.fa 6 (.t 71),none,false,[1000000]⟩,⟨some 73,false,.ld none (.t 72),none,true,[]⟩,⟨some 8,true,.asg (.t 69),none,false,[11,70,71,72]⟩,.V 9 (.asg (.t 73)),.V 10 (.asg (.c (.int .i64 0)))] [8,9,10] [8,20003,20004]) .ret) .skip)))))) (.reg false [.V 45 (.mv (.t 11)),.V 46 (.nilck (.t 45)),.V 47 (.fa 6 (.t 46)),.V 48 (.ld none (.t 47)),.V 49 (.bin .add (.t 48) (.c (.int .i64 1))),.V 50 (.nilck (.t 45)),.V 51 (.fa 6 (.t 50)),⟨none,true,.sto 1 (.t 51) (.t 49),none,false,[]⟩] [11] [19,20000,20003,20004]))
def impl_CutRibs_k2 : C :=
 .opn 20003 (.opn 20004 (.norm [11] [19,20000,20003,20004] impl_CutRibs_k1))
def impl_CutRibs_k3 : C :=
 .seq (.reg false [.W 8 (.asg (.c (.nils 1))),.V 9 (.asg (.c (.int .i64 0))),.V 10 (.asg (.c (.int .i64 5)))] [8,9,10] [8,20003,20004]) .ret
def impl_CutRibs_k4 : C :=
 .seq (.seq (.reg false [.V 37 (.mv (.t 11)),.V 38 (.nilck (.t 37)),.V 39 (.fa 6 (.t 38)),⟨none,true,.sto 1 (.t 39) (.c (.int .i64 0)),none,false,[]⟩] [11] [19,20000,20003,20004]) (.block 1 (.loop impl_CutRibs_k2))) impl_CutRibs_k3
def impl_CutRibs_k5 : C :=
 .norm [11] [19,20000,20003,20004] impl_CutRibs_k4
def impl_CutRibs_ir : Fn := { np := 4,io := [],res := [.t 8,.t 9,.t 10],own := [false,false,false],body :=
 (.seq (.reg false [.W 8 (.asg (.c (.nils 1))),.V 9 (.asg (.c (.int .i64 0))),.V 10 (.asg (.c (.int .i64 0)))] [0,1,2,3] []) (.seq (.reg false [.V 14 (.mv (.t 0)),.V 15 (.mv (.t 1)),.V 16 (.mv (.t 2)),.V 17 (.mv (.t 3)),.V 18 (.build [.nils 3,.int .i64 0,.int .i64 0,.nils 1,.nils 1,.int .i64 0,.int .i64 0] [(0,1,.t 14),(1,1,.t 15),(2,1,.t 16),(5,1,.t 17)]),.W 19 (.box 7 (.t 18)),.V 11 (.asg (.t 19))] [0,1,2,3,11] [19,20000,20003,20004]) (.seq (.block 0 (.seq (.reg false [.V 21 (.mv (.t 0)),.V 22 (.call (.c (.fn 509 [])) [.t 21]),.V 23 (.un .not (.t 22)),.V 20 (.asg (.t 23))] [1,2,3,11,20] [19,20000,20003,20004]) (.cond (.t 20) (.seq (.reg false [.W 8 (.asg (.c (.nils 1))),.V 9 (.asg (.c (.int .i64 0))),.V 10 (.asg (.c (.int .i64 1)))] [8,9,10] [8,20003,20004]) .ret) (.seq (.reg false [.V 25 (.mv (.t 1)),.V 26 (.mv (.t 2)),.V 27 (.call (.c (.fn 508 [])) [.t 25,.t 26]),.V 28 (.un .not (.t 27)),.V 29 (.mv (.t 28)),.G 30 (.mv (.t 3)) 4 false,.G 31 (.call (.c (.fn 23 [])) [.t 30,.c (.int .i64 1),.c (.int .i64 20000)]) 4 false,.G 32 (.un .not (.t 31)) 4 false,.V 33 (.pick (.t 29) (.c (.bool true)) (.t 32)),.V 24 (.asg (.t 33))] [11,24] [19,20000,20003,20004]) (.cond (.t 24) (.seq (.reg false [.W 8 (.asg (.c (.nils 1))),.V 9 (.asg (.c (.int .i64 0))),.V 10 (.asg (.c (.int .i64 2)))] [8,9,10] [8,20003,20004]) .ret) (.norm [11] [19,20000,20003,20004] impl_CutRibs_k0)))))) impl_CutRibs_k5))) }
noncomputable def impl_CutRibs_D : List (Nat × Callee) := [(23,impl_within_c),(506,impl_cutting_search_c),(507,impl_cutting_tooLong_c),(508,impl_isStrip_c),(509,impl_ValidRibs_c)]
def impl_CutRibs_H : List (Nat × ET) := [(8,(.one (.int .i64))),(14,T_Mode),(21,T_Mode),(69,(.one (.int .i64))),(20003,(.one (.int .i64))),(20004,(.one (.int .i64)))]
noncomputable def impl_CutRibs_c : Callee := mkCallee impl_CutRibs_D impl_CutRibs_H impl_CutRibs_ir [.d (.one (.sl T_Mode)),.d (.one (.int .i64)),.d (.one (.int .i64)),.d (.one (.int .i64))] [.d (.one (.sl (.one (.int .i64)))),.d (.one (.int .i64)),.d (.one (.int .i64))] []
noncomputable def impl_CutRibs (a0 : List T_Mode.ty) (a1 : Int) (a2 : Int) (a3 : Int) : Option (List Int × Int × Int) := impl_CutRibs_c.f (a0,a1,a2,a3,())
noncomputable def impl_CutRibs_p0  (r19_0 : List T_Mode.ty) (r19_1 : Int) (r19_2 : Int) (r19_5 : Int) (r19_6 : Int) : Option (List Int × Int × Int) :=
 goL impl_CutRibs_D impl_CutRibs_H (vleave impl_CutRibs_ir [.d (.one (.sl T_Mode)),.d (.one (.int .i64)),.d (.one (.int .i64)),.d (.one (.int .i64))] [.d (.one (.sl (.one (.int .i64)))),.d (.one (.int .i64)),.d (.one (.int .i64))] [] []) [.c impl_CutRibs_k0,.e 0,.c impl_CutRibs_k5]
  ⟨[(11,.loc 19 0 0)],[(19,some (.var 7 (.agg [.sl T_Mode r19_0,.int .i64 r19_1,.int .i64 r19_2,.nils 1,.nils 1,.int .i64 r19_5,.int .i64 r19_6]))),(20000,none),(20003,none),(20004,none)]⟩
noncomputable def impl_CutRibs_p1  (r19_0 : List T_Mode.ty) (r19_1 : Int) (r19_2 : Int) (r19_5 : Int) (r19_6 : Int) : Option (List Int × Int × Int) :=
 goL impl_CutRibs_D impl_CutRibs_H (vleave impl_CutRibs_ir [.d (.one (.sl T_Mode)),.d (.one (.int .i64)),.d (.one (.int .i64)),.d (.one (.int .i64))] [.d (.one (.sl (.one (.int .i64)))),.d (.one (.int .i64)),.d (.one (.int .i64))] [] []) [.c impl_CutRibs_k4]
  ⟨[(11,.loc 19 0 0)],[(19,some (.var 7 (.agg [.sl T_Mode r19_0,.int .i64 r19_1,.int .i64 r19_2,.nils 1,.nils 1,.int .i64 r19_5,.int .i64 r19_6]))),(20000,none),(20003,none),(20004,none)]⟩
noncomputable def impl_CutRibs_p2  (r19_0 : List T_Mode.ty) (r19_1 : Int) (r19_2 : Int) (r19_5 : Int) (r19_6 : Int) (r20003 : List Int) (r20004 : List Int) : Option (List Int × Int × Int) :=
 goL impl_CutRibs_D impl_CutRibs_H (vleave impl_CutRibs_ir [.d (.one (.sl T_Mode)),.d (.one (.int .i64)),.d (.one (.int .i64)),.d (.one (.int .i64))] [.d (.one (.sl (.one (.int .i64)))),.d (.one (.int .i64)),.d (.one (.int .i64))] [] []) [.c impl_CutRibs_k1,.l impl_CutRibs_k2,.e 1,.c impl_CutRibs_k3]
  ⟨[(11,.loc 19 0 0)],[(19,some (.var 7 (.agg [.sl T_Mode r19_0,.int .i64 r19_1,.int .i64 r19_2,.view 20003 0 r20003.length,.view 20004 0 r20004.length,.int .i64 r19_5,.int .i64 r19_6]))),(20000,none),(20003,some (.sl (.one (.int .i64)) r20003)),(20004,some (.sl (.one (.int .i64)) r20004))]⟩
theorem impl_CutRibs_eq (a0 : List T_Mode.ty) (a1 : Int) (a2 : Int) (a3 : Int) : impl_CutRibs a0 a1 a2 a3 =
 (impl_ValidRibs a0).bind fun x1 =>
  if (!x1) then
   some ([],0,1)
  else
   (impl_isStrip a1 a2).bind fun x2 =>
    if (!x2) then
     some ([],0,2)
    else
     (impl_within a3 1 20000).bind fun x3 =>
      if (!x3) then
       some ([],0,2)
      else
       impl_CutRibs_p0 a0 a1 a2 a3 0 :=
 (mk_f _ _ _ _ _ _ _ 4000).trans (by kernel_rfl)
theorem impl_CutRibs_p0_eq  (r19_0 : List T_Mode.ty) (r19_1 : Int) (r19_2 : Int) (r19_5 : Int) (r19_6 : Int) : impl_CutRibs_p0 r19_0 r19_1 r19_2 r19_5 r19_6 =
 (impl_cutting_tooLong (r19_0,r19_1,r19_2,[],[],r19_5,r19_6,())).bind fun x1 =>
  if x1 then
   some ([],0,6)
  else
   impl_CutRibs_p1 r19_0 r19_1 r19_2 r19_5 r19_6 :=
 (goL_dn _ _ _ 4000 _ _).trans (by kernel_rfl)
theorem impl_CutRibs_p1_eq  (r19_0 : List T_Mode.ty) (r19_1 : Int) (r19_2 : Int) (r19_5 : Int) (r19_6 : Int) : impl_CutRibs_p1 r19_0 r19_1 r19_2 r19_5 r19_6 =
 impl_CutRibs_p2 r19_0 r19_1 r19_2 r19_5 0 [] [] :=
 (goL_dn _ _ _ 4000 _ _).trans (by kernel_rfl)
theorem impl_CutRibs_p2_eq  (r19_0 : List T_Mode.ty) (r19_1 : Int) (r19_2 : Int) (r19_5 : Int) (r19_6 : Int) (r20003 : List Int) (r20004 : List Int) : impl_CutRibs_p2 r19_0 r19_1 r19_2 r19_5 r19_6 r20003 r20004 =
 if decide (r19_6 ≤ 8) then
  (impl_cutting_search 1000 (r19_0,r19_1,r19_2,[],[],r19_5,r19_6,())).bind fun x1 =>
   if (!x1.2.1) then
    some ([],0,5)
   else
    if x1.1 then
     some ((x1.2.2.2.2.2.2.1.take x1.2.2.2.2.2.2.1.length),x1.2.2.2.2.2.2.2.2.1,0)
    else
     impl_CutRibs_p2 x1.2.2.1 x1.2.2.2.1 x1.2.2.2.2.1 x1.2.2.2.2.2.2.2.1 (IntKind.i64.wrap (x1.2.2.2.2.2.2.2.2.1 + 1)) x1.2.2.2.2.2.1 x1.2.2.2.2.2.2.1
 else
  some ([],0,5) :=
 (goL_dn _ _ _ 4000 _ _).trans (by kernel_rfl)
def impl_StripsLeft_k0 : C :=
 .reg true [.V 50 (.mv (.t 10)),.V 51 (.mv (.t 12)),.V 52 (.ia 1 (.t 50) (.t 51)),.V 53 (.ld none (.t 52)),.V 54 (.mv (.t 0)),.V 55 (.mv (.t 11)),.V 56 (.ia 3 (.t 54) (.t 55)),.V 57 (.fa 1 (.t 56)),.V 58 (.ld none (.t 57)),.V 59 (.mv (.t 3)),.V 60 (.bin .add (.t 58) (.t 59)),.V 61 (.bin .sub (.t 53) (.t 60)),.V 62 (.ia 1 (.t 50) (.t 51)),⟨none,true,.sto 1 (.t 62) (.t 61),none,false,[]⟩] [0,2,3,10,28,29,30] [10]
def impl_StripsLeft_k1 : C :=
 .reg false [.V 63 (.bin .add (.t 30) (.c (.int .i64 1))),.V 30 (.mv (.t 63))] [0,2,3,10,28,29,30] [10]
def impl_StripsLeft_k2 : C :=
 .seq (.reg false [.V 31 (.bin .lss (.t 30) (.t 29))] [0,2,3,10,28,29,30,31] [10]) (.seq (.cond (.t 31) .skip (.exit 0)) (.seq (.block 1 (.seq (.reg false [.V 32 (.mv (.t 30)),.V 33 (.ia 1 (.t 28) (.t 30)),.V 34 (.ld none (.t 33)),.V 11 (.asg (.t 32)),.V 12 (.asg (.t 34))] [0,2,3,10,11,12,28,29,30] [10]) (.seq (.seq (.reg false [.V 35 (.mv (.t 12)),.V 36 (.mv (.t 10)),.V 37 (.len (.t 36)),.V 38 (.call (.c (.fn 23 [])) [.t 35,.c (.int .i64 0),.t 37]),.V 39 (.un .not (.t 38))] [0,2,3,10,11,12,28,29,30,39] [10]) (.cond (.t 39) (.seq (.reg false [.W 8 (.asg (.c (.nils 1))),.V 9 (.asg (.c (.int .i64 7)))] [8,9] [8,10]) .ret) .skip)) (.seq (.seq (.reg false [.V 40 (.mv (.t 12)),.V 41 (.mv (.t 10)),.V 42 (.len (.t 41)),.V 43 (.bin .eql (.t 40) (.t 42))] [0,2,3,10,11,12,28,29,30,43] [10]) (.cond (.t 43) (.reg false [.V 44 (.mv (.t 10)),.V 45 (.mv (.t 2)),.V 46 (.mv (.t 3)),.V 47 (.bin .add (.t 45) (.t 46)),.V 48 (.bsl 1 (.int .i64 0) 1 [(0,.t 47)]),.W 49 (.app 1 8 (.t 44) (.t 48)),.W 10 (.asg (.t 49))] [0,2,3,10,11,12,28,29,30] [10]) .skip)) (.norm [0,2,3,10,11,12,28,29,30] [10] impl_StripsLeft_k0))))) impl_StripsLeft_k1))
def impl_StripsLeft_k3 : C :=
 .norm [0,2,3,10,28,29,30] [10] impl_StripsLeft_k2
def impl_StripsLeft_k4 : C :=
 .seq (.reg false [.V 67 (.bin .lss (.t 66) (.t 65))] [10,64,65,66,67] [10]) (.seq (.cond (.t 67) .skip (.exit 2)) (.seq (.block 3 (.seq (.reg false [.V 68 (.ia 1 (.t 64) (.t 66)),.V 69 (.ld none (.t 68)),.V 14 (.asg (.t 69))] [10,14,64,65,66] [10]) (.seq (.reg false [.V 70 (.mv (.t 14)),.V 71 (.bin .lss (.t 70) (.c (.int .i64 0)))] [10,64,65,66,71] [10]) (.cond (.t 71) (.seq (.reg false [.W 8 (.asg (.c (.nils 1))),.V 9 (.asg (.c (.int .i64 6)))] [8,9] [8,10]) .ret) .skip)))) (.reg false [.V 72 (.bin .add (.t 66) (.c (.int .i64 1))),.V 66 (.mv (.t 72))] [10,64,65,66] [10])))
def impl_StripsLeft_k5 : C :=
 .norm [10,64,65,66] [10] impl_StripsLeft_k4
def impl_StripsLeft_k6 : C :=
 .seq (.reg false [.V 73 (.mv (.t 10)),.W 8 (.asg (.t 73)),.V 9 (.asg (.c (.int .i64 0)))] [8,9] [8,10]) .ret
def impl_StripsLeft_k7 : C :=
 .seq (.seq (.reg false [.V 64 (.mv (.t 10)),.V 65 (.len (.t 64)),.V 66 (.mv (.c (.int .i64 0)))] [10,64,65,66] [10]) (.block 2 (.loop impl_StripsLeft_k5))) impl_StripsLeft_k6
def impl_StripsLeft_ir : Fn := { np := 4,io := [],res := [.t 8,.t 9],own := [true,false],body :=
 (.seq (.reg false [.W 8 (.asg (.c (.nils 1))),.V 9 (.asg (.c (.int .i64 0)))] [0,1,2,3] []) (.seq (.seq (.reg false [.V 15 (.mv (.t 0)),.V 16 (.call (.c (.fn 509 [])) [.t 15]),.V 17 (.un .not (.t 16))] [0,1,2,3,17] []) (.cond (.t 17) (.seq (.reg false [.W 8 (.asg (.c (.nils 1))),.V 9 (.asg (.c (.int .i64 1)))] [8,9] [8,10]) .ret) .skip)) (.seq (.seq (.reg false [.V 18 (.mv (.t 2)),.V 19 (.mv (.t 3)),.V 20 (.call (.c (.fn 508 [])) [.t 18,.t 19]),.V 21 (.un .not (.t 20))] [0,1,2,3,21] []) (.cond (.t 21) (.seq (.reg false [.W 8 (.asg (.c (.nils 1))),.V 9 (.asg (.c (.int .i64 2)))] [8,9] [8,10]) .ret) .skip)) (.seq (.reg false [.V 22 (.bsl 1 (.int .i64 0) 0 []),.W 10 (.asg (.t 22))] [0,1,2,3,10] [10]) (.seq (.seq (.reg false [.V 23 (.mv (.t 1)),.V 24 (.len (.t 23)),.V 25 (.mv (.t 0)),.V 26 (.len (.t 25)),.V 27 (.bin .neq (.t 24) (.t 26))] [0,1,2,3,10,27] [10]) (.cond (.t 27) (.seq (.reg false [.W 8 (.asg (.c (.nils 1))),.V 9 (.asg (.c (.int .i64 7)))] [8,9] [8,10]) .ret) .skip)) (.seq (.seq (.reg false [.V 28 (.mv (.t 1)),.V 29 (.len (.t 28)),.V 30 (.mv (.c (.int .i64 0)))] [0,2,3,10,28,29,30] [10]) (.block 0 (.loop impl_StripsLeft_k3))) impl_StripsLeft_k7)))))) }
noncomputable def impl_StripsLeft_D : List (Nat × Callee) := [(23,impl_within_c),(508,impl_isStrip_c),(509,impl_ValidRibs_c)]
def impl_StripsLeft_H : List (Nat × ET) := [(8,(.one (.int .i64))),(10,(.one (.int .i64))),(15,T_Mode),(22,(.one (.int .i64))),(23,(.one (.int .i64))),(25,T_Mode),(28,(.one (.int .i64))),(36,(.one (.int .i64))),(41,(.one (.int .i64))),(44,(.one (.int .i64))),(48,(.one (.int .i64))),(49,(.one (.int .i64))),(50,(.one (.int .i64))),(54,T_Mode),(64,(.one (.int .i64))),(73,(.one (.int .i64)))]
noncomputable def impl_StripsLeft_c : Callee := mkCallee impl_StripsLeft_D impl_StripsLeft_H impl_StripsLeft_ir [.d (.one (.sl T_Mode)),.d (.one (.sl (.one (.int .i64)))),.d (.one (.int .i64)),.d (.one (.int .i64))] [.tok (.one (.int .i64)),.d (.one (.int .i64))] []
noncomputable def impl_StripsLeft (a0 : List T_Mode.ty) (a1 : List Int) (a2 : Int) (a3 : Int) : Option (List Int × Int) := impl_StripsLeft_c.f (a0,a1,a2,a3,())
noncomputable def impl_StripsLeft_p0  (v0 : List T_Mode.ty) (v2 : Int) (v3 : Int) (v10n : Nat) (v28 : List Int) (v29 : Int) (v30 : Int) (r10 : List Int) : Option (List Int × Int) :=
 goL impl_StripsLeft_D impl_StripsLeft_H (vleave impl_StripsLeft_ir [.d (.one (.sl T_Mode)),.d (.one (.sl (.one (.int .i64)))),.d (.one (.int .i64)),.d (.one (.int .i64))] [.tok (.one (.int .i64)),.d (.one (.int .i64))] [] []) [.c impl_StripsLeft_k2,.l impl_StripsLeft_k3,.e 0,.c impl_StripsLeft_k7]
  ⟨[(0,.sl T_Mode v0),(2,.int .i64 v2),(3,.int .i64 v3),(10,.view 10 0 v10n),(28,.sl (.one (.int .i64)) v28),(29,.int .i64 v29),(30,.int .i64 v30)],[(10,some (.sl (.one (.int .i64)) r10))]⟩
noncomputable def impl_StripsLeft_p1  (v0 : List T_Mode.ty) (v2 : Int) (v3 : Int) (v10n : Nat) (v11 : Int) (v12 : Int) (v28 : List Int) (v29 : Int) (v30 : Int) (r10 : List Int) : Option (List Int × Int) :=
 goL impl_StripsLeft_D impl_StripsLeft_H (vleave impl_StripsLeft_ir [.d (.one (.sl T_Mode)),.d (.one (.sl (.one (.int .i64)))),.d (.one (.int .i64)),.d (.one (.int .i64))] [.tok (.one (.int .i64)),.d (.one (.int .i64))] [] []) [.c impl_StripsLeft_k0,.e 1,.c impl_StripsLeft_k1,.l impl_StripsLeft_k3,.e 0,.c impl_StripsLeft_k7]
  ⟨[(0,.sl T_Mode v0),(2,.int .i64 v2),(3,.int .i64 v3),(10,.view 10 0 v10n),(11,.int .i64 v11),(12,.int .i64 v12),(28,.sl (.one (.int .i64)) v28),(29,.int .i64 v29),(30,.int .i64 v30)],[(10,some (.sl (.one (.int .i64)) r10))]⟩
noncomputable def impl_StripsLeft_p2  (v10n : Nat) (v64n : Nat) (v65 : Int) (v66 : Int) (r10 : List Int) : Option (List Int × Int) :=
 goL impl_StripsLeft_D impl_StripsLeft_H (vleave impl_StripsLeft_ir [.d (.one (.sl T_Mode)),.d (.one (.sl (.one (.int .i64)))),.d (.one (.int .i64)),.d (.one (.int .i64))] [.tok (.one (.int .i64)),.d (.one (.int .i64))] [] []) [.c impl_StripsLeft_k4,.l impl_StripsLeft_k5,.e 2,.c impl_StripsLeft_k6]
  ⟨[(10,.view 10 0 v10n),(64,.view 10 0 v64n),(65,.int .i64 v65),(66,.int .i64 v66)],[(10,some (.sl (.one (.int .i64)) r10))]⟩
theorem impl_StripsLeft_eq (a0 : List T_Mode.ty) (a1 : List Int) (a2 : Int) (a3 : Int) : impl_StripsLeft a0 a1 a2 a3 =
 (impl_ValidRibs a0).bind fun x1 =>
  if (!x1) then
   some ([],1)
  else
   (impl_isStrip a2 a3).bind fun x2 =>
    if (!x2) then
     some ([],2)
    else
     if ((a1.length : Int) != (a0.length : Int)) then
      some ([],7)
     else
      impl_StripsLeft_p0 a0 a2 a3 0 a1 (a1.length : Int) 0 [] :=
 (mk_f _ _ _ _ _ _ _ 4000).trans (by kernel_rfl)
theorem impl_StripsLeft_p0_eq  (v0 : List T_Mode.ty) (v2 : Int) (v3 : Int) (v10n : Nat) (v28 : List Int) (v29 : Int) (v30 : Int) (r10 : List Int) : impl_StripsLeft_p0 v0 v2 v3 v10n v28 v29 v30 r10 =
 if decide (v30 < v29) then
  if decide (0 ≤ v30) then
   (v28[v30.toNat]?).bind fun x1 =>
    (impl_within x1 0 (v10n : Int)).bind fun x2 =>
     if (!x2) then
      some ([],7)
     else
      if (x1 == (v10n : Int)) then
       if decide (v10n + 1 < lim) then
        impl_StripsLeft_p1 v0 v2 v3 (((r10.take v10n) ++ [IntKind.i64.wrap (v2 + v3)]).length) v30 x1 v28 v29 v30 ((r10.take v10n) ++ [IntKind.i64.wrap (v2 + v3)])
       else
        none
      else
       impl_StripsLeft_p1 v0 v2 v3 v10n v30 x1 v28 v29 v30 r10
  else
   none
 else
  impl_StripsLeft_p2 v10n v10n (v10n : Int) 0 r10 :=
 (goL_dn _ _ _ 4000 _ _).trans (by kernel_rfl)
theorem impl_StripsLeft_p1_eq  (v0 : List T_Mode.ty) (v2 : Int) (v3 : Int) (v10n : Nat) (v11 : Int) (v12 : Int) (v28 : List Int) (v29 : Int) (v30 : Int) (r10 : List Int) : impl_StripsLeft_p1 v0 v2 v3 v10n v11 v12 v28 v29 v30 r10 =
 if decide (0 ≤ v12) && decide (v12 < (v10n : Int)) then
  (r10[v12.toNat]?).bind fun x1 =>
   if decide (0 ≤ v11) then
    (v0[v11.toNat]?).bind fun x2 =>
     if decide (0 ≤ v12) && decide (v12 < (v10n : Int)) then
      (r10[v12.toNat]?).bind fun x3 =>
       impl_StripsLeft_p0 v0 v2 v3 v10n v28 v29 (IntKind.i64.wrap (v30 + 1)) (r10.set v12.toNat (IntKind.i64.wrap (x1 - (IntKind.i64.wrap (x2.2.1 + v3)))))
     else
      none
   else
    none
 else
  none :=
 (goL_dn _ _ _ 4000 _ _).trans (by kernel_rfl)
theorem impl_StripsLeft_p2_eq  (v10n : Nat) (v64n : Nat) (v65 : Int) (v66 : Int) (r10 : List Int) : impl_StripsLeft_p2 v10n v64n v65 v66 r10 =
 if decide (v66 < v65) then
  if decide (0 ≤ v66) && decide (v66 < (v64n : Int)) then
   (r10[v66.toNat]?).bind fun x1 =>
    if decide (x1 < 0) then
     some ([],6)
    else
     impl_StripsLeft_p2 v10n v64n v65 (IntKind.i64.wrap (v66 + 1)) r10
  else
   none
 else
  some ((r10.take v10n),0) :=
 (goL_dn _ _ _ 4000 _ _).trans (by kernel_rfl)
def impl_FirstCuts_k0 : C :=
 .seq (.block 4 (.seq (.opn 18003 (.opn 18004 (.reg false [.V 37 (.mv (.t 9)),.V 38 (.mv (.t 10)),.W 39 (.call (.c (.fn 510 [])) [.t 37,.t 38]),.V 36 (.mv (.t 39)),.V 40 (.ext (.t 36) 0),.V 41 (.ext (.t 36) 1),.V 11 (.asg (.t 40)),.V 12 (.asg (.t 41))] [9,10,12,31,32] [17,18000,18003,18004]))) (.seq (.reg false [.V 42 (.mv (.t 12))] [9,10,31,32,42] [17,18000,18003,18004]) (.cond (.t 42) (.exit 3) .skip)))) (.reg false [.V 34 (.mv (.t 10)),.V 35 (.bin .add (.t 34) (.c (.int .i64 1))),.V 10 (.asg (.t 35))] [9,10,31,32] [17,18000,18003,18004])
def impl_FirstCuts_k1 : C :=
 .opn 18003 (.opn 18004 (.norm [9,10,31,32] [17,18000,18003,18004] impl_FirstCuts_k0))
def impl_FirstCuts_k2 : C :=
 .reg false [.V 43 (.bin .add (.t 32) (.c (.int .i64 1))),.V 32 (.mv (.t 43))] [9,31,32] [17,18000,18003,18004]
def impl_FirstCuts_k3 : C :=
 .seq (.reg false [.V 33 (.bin .lss (.t 32) (.t 31))] [9,31,32,33] [17,18000,18003,18004]) (.seq (.cond (.t 33) .skip (.exit 1)) (.seq (.block 2 (.seq (.reg false [.V 10 (.asg (.c (.int .i64 0)))] [9,10,31,32] [17,18000,18003,18004]) (.block 3 (.loop impl_FirstCuts_k1)))) impl_FirstCuts_k2))
def impl_FirstCuts_k4 : C :=
 .opn 18003 (.opn 18004 (.norm [9,31,32] [17,18000,18003,18004] impl_FirstCuts_k3))
def impl_FirstCuts_k5 : C :=
 .seq (.reg true [.V 44 (.mv (.t 9)),.V 45 (.nilck (.t 44)),.V 46 (.fa 4 (.t 45)),.V 47 (.ld none (.t 46)),.V 48 (.mv (.t 9)),.V 49 (.nilck (.t 48)),.V 50 (.fa 3 (.t 49)),.V 51 (.ld none (.t 50)),.V 52 (.len (.t 51)),⟨some 6,true,.asg (.t 47),none,true,[]⟩,.V 7 (.asg (.t 52)),.V 8 (.asg (.c (.int .i64 0)))] [6,7,8] [6,18003,18004]) .ret
def impl_FirstCuts_ir : Fn := { np := 3,io := [],res := [.t 6,.t 7,.t 8],own := [false,false,false],body :=
 (.seq (.reg false [.W 6 (.asg (.c (.nils 1))),.V 7 (.asg (.c (.int .i64 0))),.V 8 (.asg (.c (.int .i64 0)))] [0,1,2] []) (.seq (.reg false [.V 13 (.mv (.t 0)),.V 14 (.mv (.t 1)),.V 15 (.mv (.t 2)),.V 16 (.build [.nils 3,.int .i64 0,.int .i64 0,.nils 1,.nils 1,.int .i64 0,.int .i64 0] [(0,1,.t 13),(1,1,.t 14),(2,1,.t 15)]),.W 17 (.box 7 (.t 16)),.V 9 (.asg (.t 17))] [0,1,2,9] [17,18000,18003,18004]) (.seq (.block 0 (.seq (.reg false [.V 19 (.mv (.t 0)),.V 20 (.call (.c (.fn 509 [])) [.t 19]),.V 21 (.un .not (.t 20)),.V 18 (.asg (.t 21))] [0,1,2,9,18] [17,18000,18003,18004]) (.cond (.t 18) (.seq (.reg false [.W 6 (.asg (.c (.nils 1))),.V 7 (.asg (.c (.int .i64 0))),.V 8 (.asg (.c (.int .i64 1)))] [6,7,8] [6,18003,18004]) .ret) (.seq (.reg false [.V 23 (.mv (.t 1)),.V 24 (.mv (.t 2)),.V 25 (.call (.c (.fn 508 [])) [.t 23,.t 24]),.V 26 (.un .not (.t 25)),.V 22 (.asg (.t 26))] [0,9,22] [17,18000,18003,18004]) (.cond (.t 22) (.seq (.reg false [.W 6 (.asg (.c (.nils 1))),.V 7 (.asg (.c (.int .i64 0))),.V 8 (.asg (.c (.int .i64 2)))] [6,7,8] [6,18003,18004]) .ret) (.seq (.reg false [.V 28 (.mv (.t 9)),.V 29 (.call (.c (.fn 507 [])) [.t 28]),.V 27 (.asg (.t 29))] [0,9,27] [17,18000,18003,18004]) (.cond (.t 27) (.seq (.reg false [.W 6 (.asg (.c (.nils 1))),.V 7 (.asg (.c (.int .i64 0))),.V 8 (.asg (.c (.int .i64 6)))] [6,7,8] [6,18003,18004]) .ret) .skip))))))) (.seq (.seq (.reg false [.V 30 (.mv (.t 0)),.V 31 (.len (.t 30)),.V 32 (.mv (.c (.int .i64 0)))] [9,31,32] [17,18000,18003,18004]) (.block 1 (.loop impl_FirstCuts_k4))) impl_FirstCuts_k5)))) }
noncomputable def impl_FirstCuts_D : List (Nat × Callee) := [(507,impl_cutting_tooLong_c),(508,impl_isStrip_c),(509,impl_ValidRibs_c),(510,impl_cutting_take_c)]
def impl_FirstCuts_H : List (Nat × ET) := [(6,(.one (.int .i64))),(13,T_Mode),(19,T_Mode),(30,T_Mode),(47,(.one (.int .i64))),(51,(.one (.int .i64))),(18003,(.one (.int .i64))),(18004,(.one (.int .i64)))]
noncomputable def impl_FirstCuts_c : Callee := mkCallee impl_FirstCuts_D impl_FirstCuts_H impl_FirstCuts_ir [.d (.one (.sl T_Mode)),.d (.one (.int .i64)),.d (.one (.int .i64))] [.d (.one (.sl (.one (.int .i64)))),.d (.one (.int .i64)),.d (.one (.int .i64))] []
noncomputable def impl_FirstCuts (a0 : List T_Mode.ty) (a1 : Int) (a2 : Int) : Option (List Int × Int × Int) := impl_FirstCuts_c.f (a0,a1,a2,())
noncomputable def impl_FirstCuts_p0  (v31 : Int) (v32 : Int) (r17_0 : List T_Mode.ty) (r17_1 : Int) (r17_2 : Int) (r17_5 : Int) (r17_6 : Int) (r18003 : List Int) (r18004 : List Int) : Option (List Int × Int × Int) :=
 goL impl_FirstCuts_D impl_FirstCuts_H (vleave impl_FirstCuts_ir [.d (.one (.sl T_Mode)),.d (.one (.int .i64)),.d (.one (.int .i64))] [.d (.one (.sl (.one (.int .i64)))),.d (.one (.int .i64)),.d (.one (.int .i64))] [] []) [.c impl_FirstCuts_k3,.l impl_FirstCuts_k4,.e 1,.c impl_FirstCuts_k5]
  ⟨[(9,.loc 17 0 0),(31,.int .i64 v31),(32,.int .i64 v32)],[(17,some (.var 7 (.agg [.sl T_Mode r17_0,.int .i64 r17_1,.int .i64 r17_2,.view 18003 0 r18003.length,.view 18004 0 r18004.length,.int .i64 r17_5,.int .i64 r17_6]))),(18000,none),(18003,some (.sl (.one (.int .i64)) r18003)),(18004,some (.sl (.one (.int .i64)) r18004))]⟩
noncomputable def impl_FirstCuts_p1  (v10 : Int) (v31 : Int) (v32 : Int) (r17_0 : List T_Mode.ty) (r17_1 : Int) (r17_2 : Int) (r17_5 : Int) (r17_6 : Int) (r18003 : List Int) (r18004 : List Int) : Option (List Int × Int × Int) :=
 goL impl_FirstCuts_D impl_FirstCuts_H (vleave impl_FirstCuts_ir [.d (.one (.sl T_Mode)),.d (.one (.int .i64)),.d (.one (.int .i64))] [.d (.one (.sl (.one (.int .i64)))),.d (.one (.int .i64)),.d (.one (.int .i64))] [] []) [.c impl_FirstCuts_k0,.l impl_FirstCuts_k1,.e 3,.e 2,.c impl_FirstCuts_k2,.l impl_FirstCuts_k4,.e 1,.c impl_FirstCuts_k5]
  ⟨[(9,.loc 17 0 0),(10,.int .i64 v10),(31,.int .i64 v31),(32,.int .i64 v32)],[(17,some (.var 7 (.agg [.sl T_Mode r17_0,.int .i64 r17_1,.int .i64 r17_2,.view 18003 0 r18003.length,.view 18004 0 r18004.length,.int .i64 r17_5,.int .i64 r17_6]))),(18000,none),(18003,some (.sl (.one (.int .i64)) r18003)),(18004,some (.sl (.one (.int .i64)) r18004))]⟩
theorem impl_FirstCuts_eq (a0 : List T_Mode.ty) (a1 : Int) (a2 : Int) : impl_FirstCuts a0 a1 a2 =
 (impl_ValidRibs a0).bind fun x1 =>
  if (!x1) then
   some ([],0,1)
  else
   (impl_isStrip a1 a2).bind fun x2 =>
    if (!x2) then
     some ([],0,2)
    else
     (impl_cutting_tooLong (a0,a1,a2,[],[],0,0,())).bind fun x3 =>
      if x3 then
       some ([],0,6)
      else
       impl_FirstCuts_p0 (a0.length : Int) 0 a0 a1 a2 0 0 [] [] :=
 (mk_f _ _ _ _ _ _ _ 4000).trans (by kernel_rfl)
theorem impl_FirstCuts_p0_eq  (v31 : Int) (v32 : Int) (r17_0 : List T_Mode.ty) (r17_1 : Int) (r17_2 : Int) (r17_5 : Int) (r17_6 : Int) (r18003 : List Int) (r18004 : List Int) : impl_FirstCuts_p0 v31 v32 r17_0 r17_1 r17_2 r17_5 r17_6 r18003 r18004 =
 if decide (v32 < v31) then
  impl_FirstCuts_p1 0 v31 v32 r17_0 r17_1 r17_2 r17_5 r17_6 r18003 r18004
 else
  some ((r18004.take r18004.length),(r18003.length : Int),0) :=
 (goL_dn _ _ _ 4000 _ _).trans (by kernel_rfl)
theorem impl_FirstCuts_p1_eq  (v10 : Int) (v31 : Int) (v32 : Int) (r17_0 : List T_Mode.ty) (r17_1 : Int) (r17_2 : Int) (r17_5 : Int) (r17_6 : Int) (r18003 : List Int) (r18004 : List Int) : impl_FirstCuts_p1 v10 v31 v32 r17_0 r17_1 r17_2 r17_5 r17_6 r18003 r18004 =
 (impl_cutting_take (r17_0,r17_1,r17_2,(r18003.take r18003.length),(r18004.take r18004.length),r17_5,r17_6,()) v10).bind fun x1 =>
  if x1.2.1 then
   impl_FirstCuts_p0 v31 (IntKind.i64.wrap (v32 + 1)) x1.2.2.1 x1.2.2.2.1 x1.2.2.2.2.1 x1.2.2.2.2.2.2.2.1 x1.2.2.2.2.2.2.2.2.1 x1.2.2.2.2.2.1 x1.2.2.2.2.2.2.1
  else
   impl_FirstCuts_p1 (IntKind.i64.wrap (v10 + 1)) v31 v32 x1.2.2.1 x1.2.2.2.1 x1.2.2.2.2.1 x1.2.2.2.2.2.2.2.1 x1.2.2.2.2.2.2.2.2.1 x1.2.2.2.2.2.1 x1.2.2.2.2.2.2.1 :=
 (goL_dn _ _ _ 4000 _ _).trans (by kernel_rfl)
def spec_l06DrawSize_ir : Fn := { np := 1,io := [true],res := [.t 2],own := [false],body :=
 (.seq (.reg false [.V 2 (.asg (.c (.int .i64 0)))] [0] [0,1000]) (.seq (.seq (.reg false [.V 3 (.mv (.t 0)),.W 4 (.call (.c (.fn 642 [])) [.t 3,.c (.int .i64 8)])] [0,4] [0,1000]) (.cond (.t 4) (.seq (.reg false [.V 5 (.mv (.t 0)),.V 6 (.bsl 1 (.int .i64 0) 4 [(0,.c (.int .i64 0)),(1,.c (.int .i64 1)),(2,.c (.int .i64 10000)),(3,.c (.int .i64 10001))]),.W 7 (.call (.c (.fn 445 [])) [.t 5,.t 6]),.V 2 (.asg (.t 7))] [0,2] [0,1000]) .ret) .skip)) (.seq (.reg false [.V 8 (.mv (.t 0)),.W 9 (.call (.c (.fn 463 [])) [.t 8,.c (.int .i64 200)]),.V 10 (.bin .add (.c (.int .i64 1)) (.t 9)),.V 11 (.bin .mul (.c (.int .i64 5)) (.t 10)),.V 2 (.asg (.t 11))] [0,2] [0,1000]) .ret))) }
noncomputable def spec_l06DrawSize_D : List (Nat × Callee) := [(445,spec_l00Src_among_c),(463,spec_l00Src_pick_c),(642,spec_l00Src_one_c)]
def spec_l06DrawSize_H : List (Nat × ET) := [(6,(.one (.int .i64)))]
noncomputable def spec_l06DrawSize_c : Callee := mkCallee spec_l06DrawSize_D spec_l06DrawSize_H spec_l06DrawSize_ir [.box T_l00Src] [.d (.one (.int .i64))] [.box T_l00Src]
noncomputable def spec_l06DrawSize (a0 : T_l00Src.ty) : Option (Int × T_l00Src.ty) := spec_l06DrawSize_c.f (a0,())
theorem spec_l06DrawSize_eq (a0 : T_l00Src.ty) : spec_l06DrawSize a0 =
 (spec_l00Src_one a0 8).bind fun x1 =>
  if x1.1 then
   (spec_l00Src_among (x1.2.1,x1.2.2.1,x1.2.2.2.1,()) [0,1,10000,10001]).bind fun x2 =>
    some (x2.1,(x2.2.1,x2.2.2.1,x2.2.2.2.1,()))
  else
   (spec_l00Src_pick (x1.2.1,x1.2.2.1,x1.2.2.2.1,()) 200).bind fun x3 =>
    some (IntKind.i64.wrap (5 * (IntKind.i64.wrap (1 + x3.1))),(x3.2.1,x3.2.2.1,x3.2.2.2.1,())) :=
 (mk_f _ _ _ _ _ _ _ 4000).trans (by kernel_rfl)
def spec_DrawTaperHeights_ir : Fn := { np := 1,io := [],res := [.t 2,.t 3,.t 4],own := [false,false,false],body :=
 (.seq (.reg false [.V 2 (.asg (.c (.int .i64 0))),.V 3 (.asg (.c (.int .i64 0))),.V 4 (.asg (.c (.int .i64 0)))] [0] []) (.seq (.reg false [.V 8 (.mv (.t 0)),.W 9 (.call (.c (.fn 441 [])) [.t 8]),.V 5 (.asg (.t 9))] [5] [9,10000]) (.seq (.reg false [.V 10 (.mv (.t 5)),.W 11 (.call (.c (.fn 511 [])) [.t 10]),.V 6 (.asg (.t 11))] [5,6] [9,10000]) (.seq (.reg false [.V 12 (.mv (.t 5)),.W 13 (.call (.c (.fn 511 [])) [.t 12]),.V 7 (.asg (.t 13))] [5,6,7] [9,10000]) (.seq (.reg false [.V 14 (.mv (.t 6)),.V 15 (.mv (.t 7)),.V 16 (.mv (.t 5)),.V 17 (.bsl 1 (.int .i64 0) 6 [(0,.c (.int .i64 1)),(1,.c (.int .i64 2)),(2,.c (.int .i64 3)),(3,.c (.int .i64 5)),(4,.c (.int .i64 8)),(5,.c (.int .i64 9))]),.W 18 (.call (.c (.fn 445 [])) [.t 16,.t 17]),.V 2 (.asg (.t 14)),.V 3 (.asg (.t 15)),.V 4 (.asg (.t 18))] [2,3,4] []) .ret))))) }
noncomputable def spec_DrawTaperHeights_D : List (Nat × Callee) := [(441,spec_l00From_c),(445,spec_l00Src_among_c),(511,spec_l06DrawSize_c)]
def spec_DrawTaperHeights_H : List (Nat × ET) := [(8,(.one (.int .u8))),(17,(.one (.int .i64)))]
noncomputable def spec_DrawTaperHeights_c : Callee := mkCallee spec_DrawTaperHeights_D spec_DrawTaperHeights_H spec_DrawTaperHeights_ir [.d (.one (.sl (.one (.int .u8))))] [.d (.one (.int .i64)),.d (.one (.int .i64)),.d (.one (.int .i64))] []
noncomputable def spec_DrawTaperHeights (a0 : List Int) : Option (Int × Int × Int) := spec_DrawTaperHeights_c.f (a0,())
theorem spec_DrawTaperHeights_eq (a0 : List Int) : spec_DrawTaperHeights a0 =
 (spec_l00From a0).bind fun x1 =>
  (spec_l06DrawSize x1).bind fun x2 =>
   (spec_l06DrawSize (x2.2.1,x2.2.2.1,x2.2.2.2.1,())).bind fun x3 =>
    (spec_l00Src_among (x3.2.1,x3.2.2.1,x3.2.2.2.1,()) [1,2,3,5,8,9]).bind fun x4 =>
     some (x2.1,x3.1,x4.1) :=
 (mk_f _ _ _ _ _ _ _ 4000).trans (by kernel_rfl)
def impl_divRound_ir : Fn := { np := 2,io := [],res := [.t 4],own := [false],body :=
 (.seq (.reg false [.V 4 (.asg (.c (.int .i64 0)))] [0,1] []) (.seq (.reg false [.V 8 (.mv (.t 0)),.V 9 (.bin .lss (.t 8) (.c (.int .i64 0))),.V 10 (.mv (.t 1)),.V 11 (.bin .lss (.t 10) (.c (.int .i64 0))),.V 12 (.eqb true (.t 9) (.t 11)),.V 5 (.asg (.t 12))] [0,1,5] []) (.seq (.reg false [.V 13 (.mv (.t 0)),.V 14 (.mv (.t 0)),.V 15 (.un .neg (.t 14)),.V 16 (.max [.t 13,.t 15]),.V 17 (.mv (.t 1)),.V 18 (.mv (.t 1)),.V 19 (.un .neg (.t 18)),.V 20 (.max [.t 17,.t 19]),.V 0 (.asg (.t 16)),.V 1 (.asg (.t 20))] [0,1,5] []) (.seq (.reg false [.V 21 (.mv (.t 0)),.V 22 (.mv (.t 1)),.V 23 (.bin .quo (.t 21) (.t 22)),.V 6 (.asg (.t 23))] [0,1,5,6] []) (.seq (.seq (.reg false [.V 24 (.mv (.t 0)),.V 25 (.mv (.t 1)),.V 26 (.bin .rem (.t 24) (.t 25)),.V 7 (.asg (.t 26))] [1,5,6,7] []) (.seq (.reg false [.V 27 (.mv (.t 7)),.V 28 (.mv (.t 1)),.V 29 (.mv (.t 7)),.V 30 (.bin .sub (.t 28) (.t 29)),.V 31 (.bin .geq (.t 27) (.t 30))] [5,6,31] []) (.cond (.t 31) (.reg false [.V 32 (.mv (.t 6)),.V 33 (.bin .add (.t 32) (.c (.int .i64 1))),.V 6 (.asg (.t 33))] [5,6] []) .skip))) (.seq (.seq (.reg false [.V 34 (.mv (.t 5))] [6,34] []) (.cond (.t 34) (.seq (.reg false [.V 35 (.mv (.t 6)),.V 36 (.un .neg (.t 35)),.V 4 (.asg (.t 36))] [4] []) .ret) .skip)) (.seq (.reg false [.V 37 (.mv (.t 6)),.V 4 (.asg (.t 37))] [4] []) .ret))))))) }
noncomputable def impl_divRound_D : List (Nat × Callee) := []
def impl_divRound_H : List (Nat × ET) := []
noncomputable def impl_divRound_c : Callee := mkCallee impl_divRound_D impl_divRound_H impl_divRound_ir [.d (.one (.int .i64)),.d (.one (.int .i64))] [.d (.one (.int .i64))] []
noncomputable def impl_divRound (a0 : Int) (a1 : Int) : Option (Int) := impl_divRound_c.f (a0,a1,())
theorem impl_divRound_eq (a0 : Int) (a1 : Int) : impl_divRound a0 a1 =
 if decide ((if IntKind.i64.wrap (0 - a1) > a1 then IntKind.i64.wrap (0 - a1) else a1) = 0) then
  none
 else
  if decide ((if IntKind.i64.wrap (0 - a1) > a1 then IntKind.i64.wrap (0 - a1) else a1) = 0) then
   none
  else
   if decide ((if IntKind.i64.wrap (0 - a0) > a0 then IntKind.i64.wrap (0 - a0) else a0).tmod (if IntKind.i64.wrap (0 - a1) > a1 then IntKind.i64.wrap (0 - a1) else a1) ≥ IntKind.i64.wrap ((if IntKind.i64.wrap (0 - a1) > a1 then IntKind.i64.wrap (0 - a1) else a1) - ((if IntKind.i64.wrap (0 - a0) > a0 then IntKind.i64.wrap (0 - a0) else a0).tmod (if IntKind.i64.wrap (0 - a1) > a1 then IntKind.i64.wrap (0 - a1) else a1)))) then
    if (!(decide (a0 < 0) == decide (a1 < 0))) then
     some (IntKind.i64.wrap (0 - (IntKind.i64.wrap ((IntKind.i64.wrap ((if IntKind.i64.wrap (0 - a0) > a0 then IntKind.i64.wrap (0 - a0) else a0).tdiv (if IntKind.i64.wrap (0 - a1) > a1 then IntKind.i64.wrap (0 - a1) else a1))) + 1))))
    else
     some (IntKind.i64.wrap ((IntKind.i64.wrap ((if IntKind.i64.wrap (0 - a0) > a0 then IntKind.i64.wrap (0 - a0) else a0).tdiv (if IntKind.i64.wrap (0 - a1) > a1 then IntKind.i64.wrap (0 - a1) else a1))) + 1))
   else
    if (!(decide (a0 < 0) == decide (a1 < 0))) then
     some (IntKind.i64.wrap (0 - (IntKind.i64.wrap ((if IntKind.i64.wrap (0 - a0) > a0 then IntKind.i64.wrap (0 - a0) else a0).tdiv (if IntKind.i64.wrap (0 - a1) > a1 then IntKind.i64.wrap (0 - a1) else a1)))))
    else
     some (IntKind.i64.wrap ((if IntKind.i64.wrap (0 - a0) > a0 then IntKind.i64.wrap (0 - a0) else a0).tdiv (if IntKind.i64.wrap (0 - a1) > a1 then IntKind.i64.wrap (0 - a1) else a1))) :=
 (mk_f _ _ _ _ _ _ _ 4000).trans (by kernel_rfl)
def impl_blend_k0 : C :=
 .seq (.reg false [.V 26 (.mv (.t 1)),.V 27 (.mv (.t 3)),.V 28 (.mv (.t 1)),.V 29 (.bin .sub (.t 27) (.t 28)),.V 30 (.mv (.t 4)),.V 31 (.mv (.t 0)),.V 32 (.bin .sub (.t 30) (.t 31)),.V 33 (.bin .mul (.t 29) (.t 32)),.V 34 (.mv (.t 2)),.V 35 (.mv (.t 0)),.V 36 (.bin .sub (.t 34) (.t 35)),.V 37 (.call (.c (.fn 27 [])) [.t 33,.t 36]),.V 38 (.bin .add (.t 26) (.t 37)),.V 10 (.asg (.t 38))] [10] []) .ret
def impl_blend_ir : Fn := { np := 5,io := [],res := [.t 10],own := [false],body :=
 (.seq (.reg false [.V 10 (.asg (.c (.int .i64 0)))] [0,1,2,3,4] []) (.seq (.block 0 (.seq (.reg false [.V 12 (.mv (.t 4)),.V 13 (.mv (.t 0)),.V 14 (.bin .leq (.t 12) (.t 13)),.V 15 (.mv (.t 14)),.G 16 (.mv (.t 2)) 3 false,.G 17 (.mv (.t 0)) 3 false,.G 18 (.bin .leq (.t 16) (.t 17)) 3 false,.V 19 (.pick (.t 15) (.c (.bool true)) (.t 18)),.V 11 (.asg (.t 19))] [0,1,2,3,4,11] []) (.cond (.t 11) (.seq (.reg false [.V 20 (.mv (.t 1)),.V 10 (.asg (.t 20))] [10] []) .ret) (.seq (.reg false [.V 22 (.mv (.t 4)),.V 23 (.mv (.t 2)),.V 24 (.bin .geq (.t 22) (.t 23)),.V 21 (.asg (.t 24))] [0,1,2,3,4,21] []) (.cond (.t 21) (.seq (.reg false [.V 25 (.mv (.t 3)),.V 10 (.asg (.t 25))] [10] []) .ret) .skip))))) (.norm [0,1,2,3,4] [] impl_blend_k0))) }
noncomputable def impl_blend_D : List (Nat × Callee) := [(27,impl_divRound_c)]
def impl_blend_H : List (Nat × ET) := []
noncomputable def impl_blend_c : Callee := mkCallee impl_blend_D impl_blend_H impl_blend_ir [.d (.one (.int .i64)),.d (.one (.int .i64)),.d (.one (.int .i64)),.d (.one (.int .i64)),.d (.one (.int .i64))] [.d (.one (.int .i64))] []
noncomputable def impl_blend (a0 : Int) (a1 : Int) (a2 : Int) (a3 : Int) (a4 : Int) : Option (Int) := impl_blend_c.f (a0,a1,a2,a3,a4,())
noncomputable def impl_blend_p0  (v0 : Int) (v1 : Int) (v2 : Int) (v3 : Int) (v4 : Int) : Option (Int) :=
 goL impl_blend_D impl_blend_H (vleave impl_blend_ir [.d (.one (.int .i64)),.d (.one (.int .i64)),.d (.one (.int .i64)),.d (.one (.int .i64)),.d (.one (.int .i64))] [.d (.one (.int .i64))] [] []) [.c impl_blend_k0]
  ⟨[(0,.int .i64 v0),(1,.int .i64 v1),(2,.int .i64 v2),(3,.int .i64 v3),(4,.int .i64 v4)],[]⟩
theorem impl_blend_eq (a0 : Int) (a1 : Int) (a2 : Int) (a3 : Int) (a4 : Int) : impl_blend a0 a1 a2 a3 a4 =
 if decide (a4 ≤ a0) then
  some a1
 else
  if decide (a2 ≤ a0) then
   some a1
  else
   if decide (a4 ≥ a2) then
    some a3
   else
    impl_blend_p0 a0 a1 a2 a3 a4 :=
 (mk_f _ _ _ _ _ _ _ 4000).trans (by kernel_rfl)
theorem impl_blend_p0_eq  (v0 : Int) (v1 : Int) (v2 : Int) (v3 : Int) (v4 : Int) : impl_blend_p0 v0 v1 v2 v3 v4 =
 (impl_divRound (IntKind.i64.wrap ((IntKind.i64.wrap (v3 - v1)) * (IntKind.i64.wrap (v4 - v0)))) (IntKind.i64.wrap (v2 - v0))).bind fun x1 =>
  some (IntKind.i64.wrap (v1 + x1)) :=
 (goL_dn _ _ _ 4000 _ _).trans (by kernel_rfl)
def impl_TaperHeights_k0 : C :=
 .seq (.reg false [.V 26 (.bin .lss (.t 25) (.t 24))] [0,1,2,8,24,25,26] [8]) (.seq (.cond (.t 26) .skip (.exit 0)) (.seq (.block 1 (.seq (.reg false [.V 27 (.mv (.t 25)),.V 9 (.asg (.t 27))] [0,1,2,8,9,24,25] [8]) (.reg false [.V 28 (.mv (.t 8)),.V 29 (.mv (.t 0)),.V 30 (.mv (.t 2)),.V 31 (.bin .sub (.t 30) (.c (.int .i64 1))),.V 32 (.mv (.t 1)),.V 33 (.mv (.t 9)),.V 34 (.call (.c (.fn 452 [])) [.c (.int .i64 0),.t 29,.t 31,.t 32,.t 33]),.V 35 (.bsl 1 (.int .i64 0) 1 [(0,.t 34)]),.W 36 (.app 1 8 (.t 28) (.t 35)),.W 8 (.asg (.t 36))] [0,1,2,8,24,25] [8]))) (.reg false [.V 37 (.bin .add (.t 25) (.c (.int .i64 1))),.V 25 (.mv (.t 37))] [0,1,2,8,24,25] [8])))
def impl_TaperHeights_k1 : C :=
 .norm [0,1,2,8,24,25] [8] impl_TaperHeights_k0
def impl_TaperHeights_k2 : C :=
 .seq (.reg false [.V 38 (.mv (.t 8)),.W 6 (.asg (.t 38)),.V 7 (.asg (.c (.int .i64 0)))] [6,7] [6,8]) .ret
def impl_TaperHeights_k3 : C :=
 .seq (.reg false [.V 23 (.bsl 1 (.int .i64 0) 0 []),.W 8 (.asg (.t 23))] [0,1,2,8] [8]) (.seq (.seq (.reg false [.V 24 (.mv (.t 2)),.V 25 (.mv (.c (.int .i64 0)))] [0,1,2,8,24,25] [8]) (.block 0 (.loop impl_TaperHeights_k1))) impl_TaperHeights_k2)
def impl_TaperHeights_ir : Fn := { np := 3,io := [],res := [.t 6,.t 7],own := [true,false],body :=
 (.seq (.reg false [.W 6 (.asg (.c (.nils 1))),.V 7 (.asg (.c (.int .i64 0)))] [0,1,2] []) (.seq (.seq (.reg false [.V 10 (.mv (.t 0)),.V 11 (.call (.c (.fn 23 [])) [.t 10,.c (.int .i64 1),.c (.int .i64 10000)]),.V 12 (.un .not (.t 11)),.V 13 (.mv (.t 12)),.G 14 (.mv (.t 1)) 3 false,.G 15 (.call (.c (.fn 23 [])) [.t 14,.c (.int .i64 1),.c (.int .i64 10000)]) 3 false,.G 16 (.un .not (.t 15)) 3 false,.V 17 (.pick (.t 13) (.c (.bool true)) (.t 16)),.V 18 (.mv (.t 17)),.G 19 (.mv (.t 2)) 8 false,.G 20 (.call (.c (.fn 23 [])) [.t 19,.c (.int .i64 2),.c (.int .i64 8)]) 8 false,.G 21 (.un .not (.t 20)) 8 false,.V 22 (.pick (.t 18) (.c (.bool true)) (.t 21))] [0,1,2,22] []) (.cond (.t 22) (.seq (.reg false [.W 6 (.asg (.c (.nils 1))),.V 7 (.asg (.c (.int .i64 2)))] [6,7] [6,8]) .ret) .skip)) (.norm [0,1,2] [] impl_TaperHeights_k3))) }
noncomputable def impl_TaperHeights_D : List (Nat × Callee) := [(23,impl_within_c),(452,impl_blend_c)]
def impl_TaperHeights_H : List (Nat × ET) := [(6,(.one (.int .i64))),(8,(.one (.int .i64))),(23,(.one (.int .i64))),(28,(.one (.int .i64))),(35,(.one (.int .i64))),(36,(.one (.int .i64))),(38,(.one (.int .i64)))]
noncomputable def impl_TaperHeights_c : Callee := mkCallee impl_TaperHeights_D impl_TaperHeights_H impl_TaperHeights_ir [.d (.one (.int .i64)),.d (.one (.int .i64)),.d (.one (.int .i64))] [.tok (.one (.int .i64)),.d (.one (.int .i64))] []
noncomputable def impl_TaperHeights (a0 : Int) (a1 : Int) (a2 : Int) : Option (List Int × Int) := impl_TaperHeights_c.f (a0,a1,a2,())
noncomputable def impl_TaperHeights_p0  (v0 : Int) (v1 : Int) (v2 : Int) : Option (List Int × Int) :=
 goL impl_TaperHeights_D impl_TaperHeights_H (vleave impl_TaperHeights_ir [.d (.one (.int .i64)),.d (.one (.int .i64)),.d (.one (.int .i64))] [.tok (.one (.int .i64)),.d (.one (.int .i64))] [] []) [.c impl_TaperHeights_k3]
  ⟨[(0,.int .i64 v0),(1,.int .i64 v1),(2,.int .i64 v2)],[]⟩
noncomputable def impl_TaperHeights_p1  (v0 : Int) (v1 : Int) (v2 : Int) (v24 : Int) (v25 : Int) (r8 : List Int) : Option (List Int × Int) :=
 goL impl_TaperHeights_D impl_TaperHeights_H (vleave impl_TaperHeights_ir [.d (.one (.int .i64)),.d (.one (.int .i64)),.d (.one (.int .i64))] [.tok (.one (.int .i64)),.d (.one (.int .i64))] [] []) [.c impl_TaperHeights_k0,.l impl_TaperHeights_k1,.e 0,.c impl_TaperHeights_k2]
  ⟨[(0,.int .i64 v0),(1,.int .i64 v1),(2,.int .i64 v2),(8,.view 8 0 r8.length),(24,.int .i64 v24),(25,.int .i64 v25)],[(8,some (.sl (.one (.int .i64)) r8))]⟩
theorem impl_TaperHeights_eq (a0 : Int) (a1 : Int) (a2 : Int) : impl_TaperHeights a0 a1 a2 =
 (impl_within a0 1 10000).bind fun x1 =>
  if (!x1) then
   some ([],2)
  else
   (impl_within a1 1 10000).bind fun x2 =>
    if (!x2) then
     some ([],2)
    else
     (impl_within a2 2 8).bind fun x3 =>
      if (!x3) then
       some ([],2)
      else
       impl_TaperHeights_p0 a0 a1 a2 :=
 (mk_f _ _ _ _ _ _ _ 4000).trans (by kernel_rfl)
theorem impl_TaperHeights_p0_eq  (v0 : Int) (v1 : Int) (v2 : Int) : impl_TaperHeights_p0 v0 v1 v2 =
 impl_TaperHeights_p1 v0 v1 v2 v2 0 [] :=
 (goL_dn _ _ _ 4000 _ _).trans (by kernel_rfl)
theorem impl_TaperHeights_p1_eq  (v0 : Int) (v1 : Int) (v2 : Int) (v24 : Int) (v25 : Int) (r8 : List Int) : impl_TaperHeights_p1 v0 v1 v2 v24 v25 r8 =
 if decide (v25 < v24) then
  (impl_blend 0 v0 (IntKind.i64.wrap (v2 - 1)) v1 v25).bind fun x1 =>
   if decide (r8.length + 1 < lim) then
    impl_TaperHeights_p1 v0 v1 v2 v24 (IntKind.i64.wrap (v25 + 1)) ((r8.take r8.length) ++ [x1])
   else
    none
 else
  some ((r8.take r8.length),0) :=
 (goL_dn _ _ _ 4000 _ _).trans (by kernel_rfl)
def spec_l06DrawThick_ir : Fn := { np := 1,io := [true],res := [.t 2],own := [false],body :=
 (.seq (.reg false [.V 2 (.asg (.c (.int .i64 0)))] [0] [0,1000]) (.seq (.reg false [.V 3 (.mv (.t 0)),.V 4 (.bsl 1 (.int .i64 0) 7 [(0,.c (.int .i64 0)),(1,.c (.int .i64 1)),(2,.c (.int .i64 10)),(3,.c (.int .i64 12)),(4,.c (.int .i64 15)),(5,.c (.int .i64 100)),(6,.c (.int .i64 101))]),.W 5 (.call (.c (.fn 445 [])) [.t 3,.t 4]),.V 2 (.asg (.t 5))] [0,2] [0,1000]) .ret)) }
noncomputable def spec_l06DrawThick_D : List (Nat × Callee) := [(445,spec_l00Src_among_c)]
def spec_l06DrawThick_H : List (Nat × ET) := [(4,(.one (.int .i64)))]
noncomputable def spec_l06DrawThick_c : Callee := mkCallee spec_l06DrawThick_D spec_l06DrawThick_H spec_l06DrawThick_ir [.box T_l00Src] [.d (.one (.int .i64))] [.box T_l00Src]
noncomputable def spec_l06DrawThick (a0 : T_l00Src.ty) : Option (Int × T_l00Src.ty) := spec_l06DrawThick_c.f (a0,())
theorem spec_l06DrawThick_eq (a0 : T_l00Src.ty) : spec_l06DrawThick a0 =
 (spec_l00Src_among a0 [0,1,10,12,15,100,101]).bind fun x1 =>
  some (x1.1,(x1.2.1,x1.2.2.1,x1.2.2.2.1,())) :=
 (mk_f _ _ _ _ _ _ _ 4000).trans (by kernel_rfl)
def spec_l06DrawHeat_ir : Fn := { np := 1,io := [true],res := [.t 2],own := [false],body :=
 (.seq (.reg false [.V 2 (.asg (.c (.int .i64 0)))] [0] [0,1000]) (.seq (.reg false [.V 3 (.mv (.t 0)),.V 4 (.bsl 1 (.int .i64 0) 7 [(0,.c (.int .i64 0)),(1,.c (.int .i64 1)),(2,.c (.int .i64 20)),(3,.c (.int .i64 60)),(4,.c (.int .i64 150)),(5,.c (.int .i64 1000)),(6,.c (.int .i64 1001))]),.W 5 (.call (.c (.fn 445 [])) [.t 3,.t 4]),.V 2 (.asg (.t 5))] [0,2] [0,1000]) .ret)) }
noncomputable def spec_l06DrawHeat_D : List (Nat × Callee) := [(445,spec_l00Src_among_c)]
def spec_l06DrawHeat_H : List (Nat × ET) := [(4,(.one (.int .i64)))]
noncomputable def spec_l06DrawHeat_c : Callee := mkCallee spec_l06DrawHeat_D spec_l06DrawHeat_H spec_l06DrawHeat_ir [.box T_l00Src] [.d (.one (.int .i64))] [.box T_l00Src]
noncomputable def spec_l06DrawHeat (a0 : T_l00Src.ty) : Option (Int × T_l00Src.ty) := spec_l06DrawHeat_c.f (a0,())
theorem spec_l06DrawHeat_eq (a0 : T_l00Src.ty) : spec_l06DrawHeat a0 =
 (spec_l00Src_among a0 [0,1,20,60,150,1000,1001]).bind fun x1 =>
  some (x1.1,(x1.2.1,x1.2.2.1,x1.2.2.2.1,())) :=
 (mk_f _ _ _ _ _ _ _ 4000).trans (by kernel_rfl)
def spec_DrawLeastBend_ir : Fn := { np := 1,io := [],res := [.t 2,.t 3,.t 4],own := [false,false,false],body :=
 (.seq (.reg false [.V 2 (.asg (.c (.int .i64 0))),.V 3 (.asg (.c (.int .i64 0))),.V 4 (.asg (.c (.int .i64 0)))] [0] []) (.seq (.reg false [.V 8 (.mv (.t 0)),.W 9 (.call (.c (.fn 441 [])) [.t 8]),.V 5 (.asg (.t 9))] [5] [9,10000]) (.seq (.reg false [.V 10 (.mv (.t 5)),.W 11 (.call (.c (.fn 513 [])) [.t 10]),.V 6 (.asg (.t 11))] [5,6] [9,10000]) (.seq (.reg false [.V 12 (.mv (.t 5)),.W 13 (.call (.c (.fn 512 [])) [.t 12]),.V 7 (.asg (.t 13))] [5,6,7] [9,10000]) (.seq (.reg false [.V 14 (.mv (.t 6)),.V 15 (.mv (.t 7)),.V 16 (.mv (.t 5)),.V 17 (.bsl 1 (.int .i64 0) 7 [(0,.c (.int .i64 0)),(1,.c (.int .i64 1)),(2,.c (.int .i64 3)),(3,.c (.int .i64 10)),(4,.c (.int .i64 100)),(5,.c (.int .i64 101)),(6,.c (.int .i64 (-1)))]),.W 18 (.call (.c (.fn 445 [])) [.t 16,.t 17]),.V 2 (.asg (.t 14)),.V 3 (.asg (.t 15)),.V 4 (.asg (.t 18))] [2,3,4] []) .ret))))) }
noncomputable def spec_DrawLeastBend_D : List (Nat × Callee) := [(441,spec_l00From_c),(445,spec_l00Src_among_c),(512,spec_l06DrawHeat_c),(513,spec_l06DrawThick_c)]
def spec_DrawLeastBend_H : List (Nat × ET) := [(8,(.one (.int .u8))),(17,(.one (.int .i64)))]
noncomputable def spec_DrawLeastBend_c : Callee := mkCallee spec_DrawLeastBend_D spec_DrawLeastBend_H spec_DrawLeastBend_ir [.d (.one (.sl (.one (.int .u8))))] [.d (.one (.int .i64)),.d (.one (.int .i64)),.d (.one (.int .i64))] []
noncomputable def spec_DrawLeastBend (a0 : List Int) : Option (Int × Int × Int) := spec_DrawLeastBend_c.f (a0,())
theorem spec_DrawLeastBend_eq (a0 : List Int) : spec_DrawLeastBend a0 =
 (spec_l00From a0).bind fun x1 =>
  (spec_l06DrawThick x1).bind fun x2 =>
   (spec_l06DrawHeat (x2.2.1,x2.2.2.1,x2.2.2.2.1,())).bind fun x3 =>
    (spec_l00Src_among (x3.2.1,x3.2.2.1,x3.2.2.2.1,()) [0,1,3,10,100,101,(-1)]).bind fun x4 =>
     some (x2.1,x3.1,x4.1) :=
 (mk_f _ _ _ _ _ _ _ 4000).trans (by kernel_rfl)
def impl_isBend_ir : Fn := { np := 2,io := [],res := [.t 4],own := [false],body :=
 (.seq (.reg false [.V 4 (.asg (.c (.bool false)))] [0,1] []) (.seq (.reg false [.V 5 (.mv (.t 0)),.V 6 (.call (.c (.fn 23 [])) [.t 5,.c (.int .i64 1),.c (.int .i64 100)]),.V 7 (.mv (.t 6)),.G 8 (.mv (.t 1)) 2 true,.G 9 (.call (.c (.fn 23 [])) [.t 8,.c (.int .i64 1),.c (.int .i64 1000)]) 2 true,.V 10 (.pick (.t 7) (.t 9) (.c (.bool false))),.V 4 (.asg (.t 10))] [4] []) .ret)) }
noncomputable def impl_isBend_D : List (Nat × Callee) := [(23,impl_within_c)]
def impl_isBend_H : List (Nat × ET) := []
noncomputable def impl_isBend_c : Callee := mkCallee impl_isBend_D impl_isBend_H impl_isBend_ir [.d (.one (.int .i64)),.d (.one (.int .i64))] [.d (.one .bool)] []
noncomputable def impl_isBend (a0 : Int) (a1 : Int) : Option (Bool) := impl_isBend_c.f (a0,a1,())
theorem impl_isBend_eq (a0 : Int) (a1 : Int) : impl_isBend a0 a1 =
 (impl_within a0 1 100).bind fun x1 =>
  if x1 then
   (impl_within a1 1 1000).bind fun x2 =>
    some x2
  else
   some false :=
 (mk_f _ _ _ _ _ _ _ 4000).trans (by kernel_rfl)
def impl_bendSteps_ir : Fn := { np := 3,io := [],res := [.t 6],own := [false],body :=
 (.seq (.reg false [.V 6 (.asg (.c (.int .i64 0)))] [0,1,2] []) (.seq (.reg false [.V 7 (.mv (.t 1)),.V 8 (.bin .mul (.t 7) (.c (.int .i64 1000))),.V 9 (.mv (.t 0)),.V 10 (.bin .quo (.t 8) (.t 9)),.V 11 (.mv (.t 2)),.V 12 (.bin .sub (.t 10) (.t 11)),.V 13 (.bin .add (.t 12) (.c (.int .i64 9))),.V 14 (.max [.c (.int .i64 0),.t 13]),.V 15 (.bin .quo (.t 14) (.c (.int .i64 10))),.V 6 (.asg (.t 15))] [6] []) .ret)) }
noncomputable def impl_bendSteps_D : List (Nat × Callee) := []
def impl_bendSteps_H : List (Nat × ET) := []
noncomputable def impl_bendSteps_c : Callee := mkCallee impl_bendSteps_D impl_bendSteps_H impl_bendSteps_ir [.d (.one (.int .i64)),.d (.one (.int .i64)),.d (.one (.int .i64))] [.d (.one (.int .i64))] []
noncomputable def impl_bendSteps (a0 : Int) (a1 : Int) (a2 : Int) : Option (Int) := impl_bendSteps_c.f (a0,a1,a2,())
theorem impl_bendSteps_eq (a0 : Int) (a1 : Int) (a2 : Int) : impl_bendSteps a0 a1 a2 =
 if decide (a0 = 0) then
  none
 else
  some (IntKind.i64.wrap ((if IntKind.i64.wrap ((IntKind.i64.wrap ((IntKind.i64.wrap ((IntKind.i64.wrap (a1 * 1000)).tdiv a0)) - a2)) + 9) > 0 then IntKind.i64.wrap ((IntKind.i64.wrap ((IntKind.i64.wrap ((IntKind.i64.wrap (a1 * 1000)).tdiv a0)) - a2)) + 9) else 0).tdiv 10)) :=
 (mk_f _ _ _ _ _ _ _ 4000).trans (by kernel_rfl)
def impl_LeastBend_k0 : C :=
 .seq (.seq (.reg false [.V 18 (.mv (.t 8)),.V 19 (.bin .leq (.t 18) (.c (.int .i64 10000)))] [0,1,2,8,19] []) (.cond (.t 19) .skip (.exit 0))) (.seq (.block 1 (.seq (.reg false [.V 22 (.mv (.t 8)),.V 23 (.mv (.t 0)),.V 24 (.mv (.t 1)),.V 25 (.call (.c (.fn 514 [])) [.t 22,.t 23,.t 24]),.V 26 (.mv (.t 2)),.V 27 (.bin .leq (.t 25) (.t 26))] [0,1,2,8,27] []) (.cond (.t 27) (.seq (.reg false [.V 28 (.mv (.t 8)),.V 6 (.asg (.t 28)),.V 7 (.asg (.c (.int .i64 0)))] [6,7] []) .ret) .skip))) (.reg false [.V 20 (.mv (.t 8)),.V 21 (.bin .add (.t 20) (.c (.int .i64 1))),.V 8 (.asg (.t 21))] [0,1,2,8] []))
def impl_LeastBend_k1 : C :=
 .norm [0,1,2,8] [] impl_LeastBend_k0
def impl_LeastBend_k2 : C :=
 .seq (.reg false [.V 6 (.asg (.c (.int .i64 0))),.V 7 (.asg (.c (.int .i64 3)))] [6,7] []) .ret
def impl_LeastBend_k3 : C :=
 .seq (.seq (.reg false [.V 8 (.asg (.c (.int .i64 1)))] [0,1,2,8] []) (.block 0 (.loop impl_LeastBend_k1))) impl_LeastBend_k2
def impl_LeastBend_ir : Fn := { np := 3,io := [],res := [.t 6,.t 7],own := [false,false],body :=
 (.seq (.reg false [.V 6 (.asg (.c (.int .i64 0))),.V 7 (.asg (.c (.int .i64 0)))] [0,1,2] []) (.seq (.seq (.reg false [.V 9 (.mv (.t 0)),.V 10 (.mv (.t 1)),.V 11 (.call (.c (.fn 515 [])) [.t 9,.t 10]),.V 12 (.un .not (.t 11)),.V 13 (.mv (.t 12)),.G 14 (.mv (.t 2)) 4 false,.G 15 (.call (.c (.fn 23 [])) [.t 14,.c (.int .i64 0),.c (.int .i64 100)]) 4 false,.G 16 (.un .not (.t 15)) 4 false,.V 17 (.pick (.t 13) (.c (.bool true)) (.t 16))] [0,1,2,17] []) (.cond (.t 17) (.seq (.reg false [.V 6 (.asg (.c (.int .i64 0))),.V 7 (.asg (.c (.int .i64 2)))] [6,7] []) .ret) .skip)) (.norm [0,1,2] [] impl_LeastBend_k3))) }
noncomputable def impl_LeastBend_D : List (Nat × Callee) := [(23,impl_within_c),(514,impl_bendSteps_c),(515,impl_isBend_c)]
def impl_LeastBend_H : List (Nat × ET) := []
noncomputable def impl_LeastBend_c : Callee := mkCallee impl_LeastBend_D impl_LeastBend_H impl_LeastBend_ir [.d (.one (.int .i64)),.d (.one (.int .i64)),.d (.one (.int .i64))] [.d (.one (.int .i64)),.d (.one (.int .i64))] []
noncomputable def impl_LeastBend (a0 : Int) (a1 : Int) (a2 : Int) : Option (Int × Int) := impl_LeastBend_c.f (a0,a1,a2,())
noncomputable def impl_LeastBend_p0  (v0 : Int) (v1 : Int) (v2 : Int) : Option (Int × Int) :=
 goL impl_LeastBend_D impl_LeastBend_H (vleave impl_LeastBend_ir [.d (.one (.int .i64)),.d (.one (.int .i64)),.d (.one (.int .i64))] [.d (.one (.int .i64)),.d (.one (.int .i64))] [] []) [.c impl_LeastBend_k3]
  ⟨[(0,.int .i64 v0),(1,.int .i64 v1),(2,.int .i64 v2)],[]⟩
noncomputable def impl_LeastBend_p1  (v0 : Int) (v1 : Int) (v2 : Int) (v8 : Int) : Option (Int × Int) :=
 goL impl_LeastBend_D impl_LeastBend_H (vleave impl_LeastBend_ir [.d (.one (.int .i64)),.d (.one (.int .i64)),.d (.one (.int .i64))] [.d (.one (.int .i64)),.d (.one (.int .i64))] [] []) [.c impl_LeastBend_k0,.l impl_LeastBend_k1,.e 0,.c impl_LeastBend_k2]
  ⟨[(0,.int .i64 v0),(1,.int .i64 v1),(2,.int .i64 v2),(8,.int .i64 v8)],[]⟩
theorem impl_LeastBend_eq (a0 : Int) (a1 : Int) (a2 : Int) : impl_LeastBend a0 a1 a2 =
 (impl_isBend a0 a1).bind fun x1 =>
  if (!x1) then
   some (0,2)
  else
   (impl_within a2 0 100).bind fun x2 =>
    if (!x2) then
     some (0,2)
    else
     impl_LeastBend_p0 a0 a1 a2 :=
 (mk_f _ _ _ _ _ _ _ 4000).trans (by kernel_rfl)
theorem impl_LeastBend_p0_eq  (v0 : Int) (v1 : Int) (v2 : Int) : impl_LeastBend_p0 v0 v1 v2 =
 impl_LeastBend_p1 v0 v1 v2 1 :=
 (goL_dn _ _ _ 4000 _ _).trans (by kernel_rfl)
theorem impl_LeastBend_p1_eq  (v0 : Int) (v1 : Int) (v2 : Int) (v8 : Int) : impl_LeastBend_p1 v0 v1 v2 v8 =
 if decide (v8 ≤ 10000) then
  (impl_bendSteps v8 v0 v1).bind fun x1 =>
   if decide (x1 ≤ v2) then
    some (v8,0)
   else
    impl_LeastBend_p1 v0 v1 v2 (IntKind.i64.wrap (v8 + 1))
 else
  some (0,3) :=
 (goL_dn _ _ _ 4000 _ _).trans (by kernel_rfl)
def impl_BendSteps_k0 : C :=
 .seq (.reg false [.V 17 (.mv (.t 0)),.V 18 (.mv (.t 1)),.V 19 (.mv (.t 2)),.V 20 (.call (.c (.fn 514 [])) [.t 17,.t 18,.t 19]),.V 6 (.asg (.t 20)),.V 7 (.asg (.c (.int .i64 0)))] [6,7] []) .ret
def impl_BendSteps_ir : Fn := { np := 3,io := [],res := [.t 6,.t 7],own := [false,false],body :=
 (.seq (.reg false [.V 6 (.asg (.c (.int .i64 0))),.V 7 (.asg (.c (.int .i64 0)))] [0,1,2] []) (.seq (.seq (.reg false [.V 8 (.mv (.t 0)),.V 9 (.call (.c (.fn 23 [])) [.t 8,.c (.int .i64 1),.c (.int .i64 10000)]),.V 10 (.un .not (.t 9)),.V 11 (.mv (.t 10)),.G 12 (.mv (.t 1)) 3 false,.G 13 (.mv (.t 2)) 3 false,.G 14 (.call (.c (.fn 515 [])) [.t 12,.t 13]) 3 false,.G 15 (.un .not (.t 14)) 3 false,.V 16 (.pick (.t 11) (.c (.bool true)) (.t 15))] [0,1,2,16] []) (.cond (.t 16) (.seq (.reg false [.V 6 (.asg (.c (.int .i64 0))),.V 7 (.asg (.c (.int .i64 2)))] [6,7] []) .ret) .skip)) (.norm [0,1,2] [] impl_BendSteps_k0))) }
noncomputable def impl_BendSteps_D : List (Nat × Callee) := [(23,impl_within_c),(514,impl_bendSteps_c),(515,impl_isBend_c)]
def impl_BendSteps_H : List (Nat × ET) := []
noncomputable def impl_BendSteps_c : Callee := mkCallee impl_BendSteps_D impl_BendSteps_H impl_BendSteps_ir [.d (.one (.int .i64)),.d (.one (.int .i64)),.d (.one (.int .i64))] [.d (.one (.int .i64)),.d (.one (.int .i64))] []
noncomputable def impl_BendSteps (a0 : Int) (a1 : Int) (a2 : Int) : Option (Int × Int) := impl_BendSteps_c.f (a0,a1,a2,())
noncomputable def impl_BendSteps_p0  (v0 : Int) (v1 : Int) (v2 : Int) : Option (Int × Int) :=
 goL impl_BendSteps_D impl_BendSteps_H (vleave impl_BendSteps_ir [.d (.one (.int .i64)),.d (.one (.int .i64)),.d (.one (.int .i64))] [.d (.one (.int .i64)),.d (.one (.int .i64))] [] []) [.c impl_BendSteps_k0]
  ⟨[(0,.int .i64 v0),(1,.int .i64 v1),(2,.int .i64 v2)],[]⟩
theorem impl_BendSteps_eq (a0 : Int) (a1 : Int) (a2 : Int) : impl_BendSteps a0 a1 a2 =
 (impl_within a0 1 10000).bind fun x1 =>
  if (!x1) then
   some (0,2)
  else
   (impl_isBend a1 a2).bind fun x2 =>
    if (!x2) then
     some (0,2)
    else
     impl_BendSteps_p0 a0 a1 a2 :=
 (mk_f _ _ _ _ _ _ _ 4000).trans (by kernel_rfl)
theorem impl_BendSteps_p0_eq  (v0 : Int) (v1 : Int) (v2 : Int) : impl_BendSteps_p0 v0 v1 v2 =
 (impl_bendSteps v0 v1 v2).bind fun x1 =>
  some (x1,0) :=
 (goL_dn _ _ _ 4000 _ _).trans (by kernel_rfl)
def laws_FnRibs_k0 : C :=
 .seq (.seq (.reg false [.V 99 (.mv (.t 18)),.V 100 (.mv (.t 5)),.V 101 (.len (.t 100)),.V 102 (.bin .lss (.t 99) (.t 101))] [0,1,5,6,7,10,12,17,18,102] [5,12]) (.cond (.t 102) .skip (.exit 0))) (.seq (.block 1 (.reg false [.V 105 (.mv (.t 17)),.V 106 (.mv (.t 5)),.V 107 (.mv (.t 18)),.V 108 (.ia 3 (.t 106) (.t 107)),.V 109 (.fa 1 (.t 108)),.V 110 (.ld none (.t 109)),.V 111 (.bin .add (.t 105) (.t 110)),.V 17 (.asg (.t 111))] [0,1,5,6,7,10,12,17,18] [5,12])) (.reg false [.V 103 (.mv (.t 18)),.V 104 (.bin .add (.t 103) (.c (.int .i64 1))),.V 18 (.asg (.t 104))] [0,1,5,6,7,10,12,17,18] [5,12]))
def laws_FnRibs_k1 : C :=
 .norm [0,1,5,6,7,10,12,17,18] [5,12] laws_FnRibs_k0
def laws_FnRibs_k2 : C :=
 .reg false [.V 131 (.mv (.t 17)),.V 132 (.mv (.t 12)),.V 133 (.mv (.t 19)),.V 134 (.ia 1 (.t 132) (.t 133)),.V 135 (.ld none (.t 134)),.V 136 (.bin .add (.t 131) (.t 135)),.V 17 (.asg (.t 136))] [0,1,5,6,7,10,12,17,19] [5,12]
def laws_FnRibs_k3 : C :=
 .reg false [.V 116 (.mv (.t 19)),.V 117 (.bin .add (.t 116) (.c (.int .i64 1))),.V 19 (.asg (.t 117))] [0,1,5,6,7,10,12,17,19] [5,12]
def laws_FnRibs_k4 : C :=
 .seq (.seq (.reg false [.V 112 (.mv (.t 19)),.V 113 (.mv (.t 12)),.V 114 (.len (.t 113)),.V 115 (.bin .lss (.t 112) (.t 114))] [0,1,5,6,7,10,12,17,19,115] [5,12]) (.cond (.t 115) .skip (.exit 2))) (.seq (.block 3 (.seq (.seq (.reg false [.V 118 (.mv (.t 12)),.V 119 (.mv (.t 19)),.V 120 (.ia 1 (.t 118) (.t 119)),.V 121 (.ld none (.t 120)),.V 122 (.bin .lss (.t 121) (.c (.int .i64 0))),.V 123 (.mv (.t 122)),.G 124 (.mv (.t 12)) 5 false,.G 125 (.mv (.t 19)) 5 false,.G 126 (.ia 1 (.t 124) (.t 125)) 5 false,.G 127 (.ld none (.t 126)) 5 false,.G 128 (.mv (.t 6)) 5 false,.G 129 (.bin .gtr (.t 127) (.t 128)) 5 false,.V 130 (.pick (.t 123) (.c (.bool true)) (.t 129))] [0,1,5,6,7,10,12,17,19,130] [5,12]) (.cond (.t 130) (.seq (.reg false [.V 4 (.asg (.c (.bool false)))] [4] []) .ret) .skip)) (.norm [0,1,5,6,7,10,12,17,19] [5,12] laws_FnRibs_k2))) laws_FnRibs_k3)
def laws_FnRibs_k5 : C :=
 .norm [0,1,5,6,7,10,12,17,19] [5,12] laws_FnRibs_k4
def laws_FnRibs_k6 : C :=
 .seq (.reg false [.V 137 (.mv (.t 17)),.V 138 (.mv (.t 7)),.V 139 (.mv (.t 5)),.V 140 (.len (.t 139)),.V 141 (.mv (.t 10)),.V 142 (.bin .sub (.t 140) (.t 141)),.V 143 (.bin .mul (.t 138) (.t 142)),.V 144 (.bin .add (.t 137) (.t 143)),.V 145 (.mv (.t 10)),.V 146 (.mv (.t 6)),.V 147 (.bin .mul (.t 145) (.t 146)),.V 148 (.bin .neq (.t 144) (.t 147))] [0,1,148] []) (.cond (.t 148) (.seq (.reg false [.V 4 (.asg (.c (.bool false)))] [4] []) .ret) .skip)
def laws_FnRibs_k7 : C :=
 .seq (.seq (.reg false [.V 19 (.asg (.c (.int .i64 0)))] [0,1,5,6,7,10,12,17,19] [5,12]) (.block 2 (.loop laws_FnRibs_k5))) laws_FnRibs_k6
def laws_FnRibs_k8 : C :=
 .seq (.reg false [.V 17 (.asg (.c (.int .i64 0)))] [0,1,5,6,7,10,12,17] [5,12]) (.seq (.seq (.reg false [.V 18 (.asg (.c (.int .i64 0)))] [0,1,5,6,7,10,12,17,18] [5,12]) (.block 0 (.loop laws_FnRibs_k1))) laws_FnRibs_k7)
def laws_FnRibs_k9 : C :=
 .seq (.seq (.reg false [.V 195 (.mv (.t 25)),.V 196 (.mv (.t 22)),.V 197 (.bin .lss (.t 195) (.t 196))] [0,20,21,22,23,25,197] [23]) (.cond (.t 197) .skip (.exit 4))) (.seq (.block 5 (.seq (.reg true [.V 200 (.mv (.t 20)),.V 201 (.mv (.t 21)),.V 202 (.bin .leq (.t 200) (.t 201)),.V 203 (.mv (.t 202)),.G 204 (.mv (.t 23)) 3 true,.G 205 (.mv (.t 25)) 3 true,.G 206 (.bin .sub (.t 205) (.c (.int .i64 1))) 3 true,.G 207 (.ia 1 (.t 204) (.t 206)) 3 true,.G 208 (.ld none (.t 207)) 3 true,.G 209 (.mv (.t 23)) 3 true,.G 210 (.mv (.t 25)) 3 true,.G 211 (.ia 1 (.t 209) (.t 210)) 3 true,.G 212 (.ld none (.t 211)) 3 true,.G 213 (.bin .gtr (.t 208) (.t 212)) 3 true,.V 214 (.pick (.t 203) (.t 213) (.c (.bool false))),.V 215 (.mv (.t 214)),.G 216 (.mv (.t 20)) 15 false,.G 217 (.mv (.t 21)) 15 false,.G 218 (.bin .geq (.t 216) (.t 217)) 15 false,.G 219 (.mv (.t 218)) 15 false,.G 220 (.mv (.t 23)) 19 true,.G 221 (.mv (.t 25)) 19 true,.G 222 (.bin .sub (.t 221) (.c (.int .i64 1))) 19 true,.G 223 (.ia 1 (.t 220) (.t 222)) 19 true,.G 224 (.ld none (.t 223)) 19 true,.G 225 (.mv (.t 23)) 19 true,.G 226 (.mv (.t 25)) 19 true,.G 227 (.ia 1 (.t 225) (.t 226)) 19 true,.G 228 (.ld none (.t 227)) 19 true,.G 229 (.bin .lss (.t 224) (.t 228)) 19 true,.G 230 (.pick (.t 219) (.t 229) (.c (.bool false))) 15 false,.V 231 (.pick (.t 215) (.c (.bool true)) (.t 230))] [0,20,21,22,23,25,231] [23]) (.cond (.t 231) (.seq (.reg false [.V 4 (.asg (.c (.bool false)))] [4] []) .ret) .skip))) (.reg false [.V 198 (.mv (.t 25)),.V 199 (.bin .add (.t 198) (.c (.int .i64 1))),.V 25 (.asg (.t 199))] [0,20,21,22,23,25] [23]))
def laws_FnRibs_k10 : C :=
 .norm [0,20,21,22,23,25] [23] laws_FnRibs_k9
def laws_FnRibs_k11 : C :=
 .seq (.reg false [.V 25 (.asg (.c (.int .i64 1)))] [0,20,21,22,23,25] [23]) (.block 4 (.loop laws_FnRibs_k10))
def laws_FnRibs_k12 : C :=
 .seq (.reg false [.V 236 (.mv (.t 0)),.V 237 (.call (.c (.fn 129 [])) [.t 236]),.V 235 (.mv (.t 237)),.V 238 (.ext (.t 235) 0),.V 239 (.ext (.t 235) 1),.V 240 (.ext (.t 235) 2),.V 26 (.asg (.t 238)),.V 27 (.asg (.t 239)),.V 28 (.asg (.t 240))] [26,27,28] []) (.seq (.reg false [.V 242 (.mv (.t 26)),.V 243 (.mv (.t 27)),.V 244 (.mv (.t 28)),.V 245 (.call (.c (.fn 128 [])) [.t 242,.t 243,.t 244]),.V 241 (.mv (.t 245)),.V 246 (.ext (.t 241) 0),.V 247 (.ext (.t 241) 1),.V 29 (.asg (.t 246)),.V 30 (.asg (.t 247))] [26,27,28,29,30] []) (.seq (.seq (.reg false [.V 248 (.mv (.t 30)),.V 249 (.bin .eql (.t 248) (.c (.int .i64 0)))] [26,27,28,29,249] []) (.cond (.t 249) (.seq (.reg false [.V 251 (.mv (.t 29)),.V 252 (.mv (.t 26)),.V 253 (.mv (.t 27)),.V 254 (.call (.c (.fn 127 [])) [.t 251,.t 252,.t 253]),.V 250 (.mv (.t 254)),.V 255 (.ext (.t 250) 0),.V 256 (.ext (.t 250) 1),.V 31 (.asg (.t 255)),.V 32 (.asg (.t 256))] [26,27,28,29,31,32] []) (.seq (.reg false [.V 258 (.mv (.t 29)),.V 259 (.bin .sub (.t 258) (.c (.int .i64 1))),.V 260 (.mv (.t 26)),.V 261 (.mv (.t 27)),.V 262 (.call (.c (.fn 127 [])) [.t 259,.t 260,.t 261]),.V 257 (.mv (.t 262)),.V 263 (.ext (.t 257) 0),.V 264 (.ext (.t 257) 1),.V 33 (.asg (.t 263)),.V 34 (.asg (.t 264))] [28,31,32,33,34] []) (.seq (.reg false [.V 265 (.mv (.t 32)),.V 266 (.bin .neq (.t 265) (.c (.int .i64 0))),.V 267 (.mv (.t 266)),.G 268 (.mv (.t 31)) 2 false,.G 269 (.mv (.t 28)) 2 false,.G 270 (.bin .gtr (.t 268) (.t 269)) 2 false,.V 271 (.pick (.t 267) (.c (.bool true)) (.t 270)),.V 272 (.mv (.t 271)),.G 273 (.mv (.t 34)) 7 false,.G 274 (.bin .eql (.t 273) (.c (.int .i64 0))) 7 false,.G 275 (.mv (.t 274)) 7 false,.G 276 (.mv (.t 33)) 10 true,.G 277 (.mv (.t 28)) 10 true,.G 278 (.bin .leq (.t 276) (.t 277)) 10 true,.G 279 (.pick (.t 275) (.t 278) (.c (.bool false))) 7 false,.V 280 (.pick (.t 272) (.c (.bool true)) (.t 279))] [280] []) (.cond (.t 280) (.seq (.reg false [.V 4 (.asg (.c (.bool false)))] [4] []) .ret) .skip)))) .skip)) (.seq (.reg false [.V 4 (.asg (.c (.bool true)))] [4] []) .ret)))
def laws_FnRibs_k13 : C :=
 .norm [0] [] laws_FnRibs_k12
def laws_FnRibs_k14 : C :=
 .seq (.reg false [.V 157 (.mv (.t 1)),.V 158 (.call (.c (.fn 131 [])) [.t 157]),.V 156 (.mv (.t 158)),.V 159 (.ext (.t 156) 0),.V 160 (.ext (.t 156) 1),.V 161 (.ext (.t 156) 2),.V 20 (.asg (.t 159)),.V 21 (.asg (.t 160)),.V 22 (.asg (.t 161))] [0,20,21,22] []) (.seq (.reg false [.V 163 (.mv (.t 20)),.V 164 (.mv (.t 21)),.V 165 (.mv (.t 22)),.V 166 (.call (.c (.fn 130 [])) [.t 163,.t 164,.t 165]),.V 162 (.mv (.t 166)),.V 167 (.ext (.t 162) 0),.V 168 (.ext (.t 162) 1),.W 23 (.asg (.t 167)),.V 24 (.asg (.t 168))] [0,20,21,22,23,24] [23]) (.seq (.seq (.reg false [.V 169 (.mv (.t 24)),.V 170 (.bin .eql (.t 169) (.c (.int .i64 0)))] [0,20,21,22,23,170] [23]) (.cond (.t 170) (.seq (.seq (.reg false [.V 171 (.mv (.t 22)),.V 172 (.bin .lss (.t 171) (.c (.int .i64 2))),.V 173 (.mv (.t 172)),.G 174 (.mv (.t 23)) 2 false,.G 175 (.len (.t 174)) 2 false,.G 176 (.mv (.t 22)) 2 false,.G 177 (.bin .neq (.t 175) (.t 176)) 2 false,.V 178 (.pick (.t 173) (.c (.bool true)) (.t 177)),.V 179 (.mv (.t 178)),.G 180 (.mv (.t 23)) 8 false,.G 181 (.ia 1 (.t 180) (.c (.int .i64 0))) 8 false,.G 182 (.ld none (.t 181)) 8 false,.G 183 (.mv (.t 20)) 8 false,.G 184 (.bin .neq (.t 182) (.t 183)) 8 false,.V 185 (.pick (.t 179) (.c (.bool true)) (.t 184)),.V 186 (.mv (.t 185)),.G 187 (.mv (.t 23)) 15 false,.G 188 (.mv (.t 22)) 15 false,.G 189 (.bin .sub (.t 188) (.c (.int .i64 1))) 15 false,.G 190 (.ia 1 (.t 187) (.t 189)) 15 false,.G 191 (.ld none (.t 190)) 15 false,.G 192 (.mv (.t 21)) 15 false,.G 193 (.bin .neq (.t 191) (.t 192)) 15 false,.V 194 (.pick (.t 186) (.c (.bool true)) (.t 193))] [0,20,21,22,23,194] [23]) (.cond (.t 194) (.seq (.reg false [.V 4 (.asg (.c (.bool false)))] [4] []) .ret) .skip)) (.norm [0,20,21,22,23] [23] laws_FnRibs_k11)) (.seq (.reg false [.V 232 (.mv (.t 23)),.V 233 (.len (.t 232)),.V 234 (.bin .neq (.t 233) (.c (.int .i64 0)))] [0,234] []) (.cond (.t 234) (.seq (.reg false [.V 4 (.asg (.c (.bool false)))] [4] []) .ret) .skip)))) laws_FnRibs_k13))
def laws_FnRibs_k15 : C :=
 .norm [0,1] [] laws_FnRibs_k14
def laws_FnRibs_k16 : C :=
 .seq (.reg false [.V 42 (.mv (.t 0)),.V 43 (.call (.c (.fn 135 [])) [.t 42]),.V 41 (.mv (.t 43)),.V 44 (.ext (.t 41) 0),.V 45 (.ext (.t 41) 1),.V 46 (.ext (.t 41) 2),.V 47 (.ext (.t 41) 3),.W 5 (.asg (.t 44)),.V 6 (.asg (.t 45)),.V 7 (.asg (.t 46)),.V 8 (.asg (.t 47))] [0,1,5,6,7,8] [5]) (.seq (.reg false [.V 49 (.mv (.t 5)),.V 50 (.mv (.t 6)),.V 51 (.mv (.t 7)),.V 52 (.mv (.t 8)),.W 53 (.call (.c (.fn 134 [])) [.t 49,.t 50,.t 51,.t 52]),.V 48 (.mv (.t 53)),.V 54 (.ext (.t 48) 0),.V 55 (.ext (.t 48) 1),.V 56 (.ext (.t 48) 2),.W 9 (.asg (.t 54)),.V 10 (.asg (.t 55)),.V 11 (.asg (.t 56))] [0,1,5,6,7,9,10,11] [5,9]) (.seq (.seq (.reg false [.V 57 (.mv (.t 11)),.V 58 (.bin .eql (.t 57) (.c (.int .i64 0)))] [0,1,5,6,7,9,10,58] [5,9]) (.cond (.t 58) (.seq (.reg false [.V 60 (.mv (.t 5)),.V 61 (.mv (.t 9)),.V 62 (.mv (.t 6)),.V 63 (.mv (.t 7)),.V 64 (.call (.c (.fn 133 [])) [.t 60,.t 61,.t 62,.t 63]),.V 59 (.mv (.t 64)),.V 65 (.ext (.t 59) 0),.V 66 (.ext (.t 59) 1),.W 12 (.asg (.t 65)),.V 13 (.asg (.t 66))] [0,1,5,6,7,10,12,13] [5,12]) (.seq (.reg false [.V 68 (.mv (.t 5)),.V 69 (.mv (.t 6)),.V 70 (.mv (.t 7)),.W 71 (.call (.c (.fn 132 [])) [.t 68,.t 69,.t 70]),.V 67 (.mv (.t 71)),.V 72 (.ext (.t 67) 0),.V 73 (.ext (.t 67) 1),.V 74 (.ext (.t 67) 2),.W 14 (.asg (.t 72)),.V 15 (.asg (.t 73)),.V 16 (.asg (.t 74))] [0,1,5,6,7,10,12,13,14,15,16] [5,12,14]) (.seq (.seq (.reg false [.V 75 (.mv (.t 13)),.V 76 (.bin .neq (.t 75) (.c (.int .i64 0))),.V 77 (.mv (.t 76)),.G 78 (.mv (.t 12)) 2 false,.G 79 (.len (.t 78)) 2 false,.G 80 (.mv (.t 10)) 2 false,.G 81 (.bin .neq (.t 79) (.t 80)) 2 false,.V 82 (.pick (.t 77) (.c (.bool true)) (.t 81)),.V 83 (.mv (.t 82)),.G 84 (.mv (.t 16)) 8 false,.G 85 (.bin .neq (.t 84) (.c (.int .i64 0))) 8 false,.V 86 (.pick (.t 83) (.c (.bool true)) (.t 85)),.V 87 (.mv (.t 86)),.G 88 (.mv (.t 14)) 12 false,.G 89 (.len (.t 88)) 12 false,.G 90 (.mv (.t 5)) 12 false,.G 91 (.len (.t 90)) 12 false,.G 92 (.bin .neq (.t 89) (.t 91)) 12 false,.V 93 (.pick (.t 87) (.c (.bool true)) (.t 92)),.V 94 (.mv (.t 93)),.G 95 (.mv (.t 10)) 19 false,.G 96 (.mv (.t 15)) 19 false,.G 97 (.bin .gtr (.t 95) (.t 96)) 19 false,.V 98 (.pick (.t 94) (.c (.bool true)) (.t 97))] [0,1,5,6,7,10,12,98] [5,12]) (.cond (.t 98) (.seq (.reg false [.V 4 (.asg (.c (.bool false)))] [4] []) .ret) .skip)) (.norm [0,1,5,6,7,10,12] [5,12] laws_FnRibs_k8)))) (.seq (.reg false [.V 149 (.mv (.t 9)),.V 150 (.len (.t 149)),.V 151 (.bin .neq (.t 150) (.c (.int .i64 0))),.V 152 (.mv (.t 151)),.G 153 (.mv (.t 10)) 3 false,.G 154 (.bin .neq (.t 153) (.c (.int .i64 0))) 3 false,.V 155 (.pick (.t 152) (.c (.bool true)) (.t 154))] [0,1,155] []) (.cond (.t 155) (.seq (.reg false [.V 4 (.asg (.c (.bool false)))] [4] []) .ret) .skip)))) laws_FnRibs_k15))
def laws_FnRibs_ir : Fn := { np := 2,io := [],res := [.t 4],own := [false],body :=
 (.seq (.reg false [.V 4 (.asg (.c (.bool false)))] [0,1] []) (.seq (.seq (.reg false [.V 35 (.mv (.t 0)),.V 36 (.call (.c (.fn 76 [])) [.t 35]),.V 37 (.mv (.t 36)),.G 38 (.mv (.t 1)) 2 false,.G 39 (.call (.c (.fn 76 [])) [.t 38]) 2 false,.V 40 (.pick (.t 37) (.c (.bool true)) (.t 39))] [0,1,40] []) (.cond (.t 40) (.seq (.reg false [.V 4 (.asg (.c (.bool true)))] [4] []) .ret) .skip)) (.norm [0,1] [] laws_FnRibs_k16))) }
noncomputable def laws_FnRibs_D : List (Nat × Callee) := [(76,laws_b10Long_c),(127,impl_BendSteps_c),(128,impl_LeastBend_c),(129,spec_DrawLeastBend_c),(130,impl_TaperHeights_c),(131,spec_DrawTaperHeights_c),(132,impl_FirstCuts_c),(133,impl_StripsLeft_c),(134,impl_CutRibs_c),(135,spec_DrawCutRibs_c)]
def laws_FnRibs_H : List (Nat × ET) := [(5,T_Mode),(9,(.one (.int .i64))),(12,(.one (.int .i64))),(14,(.one (.int .i64))),(23,(.one (.int .i64))),(35,(.one (.int .u8))),(38,(.one (.int .u8))),(42,(.one (.int .u8))),(44,T_Mode),(49,T_Mode),(54,(.one (.int .i64))),(60,T_Mode),(61,(.one (.int .i64))),(65,(.one (.int .i64))),(68,T_Mode),(72,(.one (.int .i64))),(78,(.one (.int .i64))),(88,(.one (.int .i64))),(90,T_Mode),(100,T_Mode),(106,T_Mode),(113,(.one (.int .i64))),(118,(.one (.int .i64))),(124,(.one (.int .i64))),(132,(.one (.int .i64))),(139,T_Mode),(149,(.one (.int .i64))),(157,(.one (.int .u8))),(167,(.one (.int .i64))),(174,(.one (.int .i64))),(180,(.one (.int .i64))),(187,(.one (.int .i64))),(204,(.one (.int .i64))),(209,(.one (.int .i64))),(220,(.one (.int .i64))),(225,(.one (.int .i64))),(232,(.one (.int .i64))),(236,(.one (.int .u8)))]
noncomputable def laws_FnRibs_c : Callee := mkCallee laws_FnRibs_D laws_FnRibs_H laws_FnRibs_ir [.d (.one (.sl (.one (.int .u8)))),.d (.one (.sl (.one (.int .u8))))] [.d (.one .bool)] []
noncomputable def laws_FnRibs (a0 : List Int) (a1 : List Int) : Option (Bool) := laws_FnRibs_c.f (a0,a1,())
noncomputable def laws_FnRibs_p0  (v0 : List Int) (v1 : List Int) : Option (Bool) :=
 goL laws_FnRibs_D laws_FnRibs_H (vleave laws_FnRibs_ir [.d (.one (.sl (.one (.int .u8)))),.d (.one (.sl (.one (.int .u8))))] [.d (.one .bool)] [] []) [.c laws_FnRibs_k16]
  ⟨[(0,.sl (.one (.int .u8)) v0),(1,.sl (.one (.int .u8)) v1)],[]⟩
noncomputable def laws_FnRibs_p1  (v0 : List Int) (v1 : List Int) (v5 : List T_Mode.ty) (v6 : Int) (v7 : Int) (v10 : Int) (r12 : List Int) : Option (Bool) :=
 goL laws_FnRibs_D laws_FnRibs_H (vleave laws_FnRibs_ir [.d (.one (.sl (.one (.int .u8)))),.d (.one (.sl (.one (.int .u8))))] [.d (.one .bool)] [] []) [.c laws_FnRibs_k8,.c laws_FnRibs_k15]
  ⟨[(0,.sl (.one (.int .u8)) v0),(1,.sl (.one (.int .u8)) v1),(5,.sl T_Mode v5),(6,.int .i64 v6),(7,.int .i64 v7),(10,.int .i64 v10),(12,.view 12 0 r12.length)],[(5,none),(12,some (.sl (.one (.int .i64)) r12))]⟩
noncomputable def laws_FnRibs_p2  (v0 : List Int) (v1 : List Int) : Option (Bool) :=
 goL laws_FnRibs_D laws_FnRibs_H (vleave laws_FnRibs_ir [.d (.one (.sl (.one (.int .u8)))),.d (.one (.sl (.one (.int .u8))))] [.d (.one .bool)] [] []) [.c laws_FnRibs_k14]
  ⟨[(0,.sl (.one (.int .u8)) v0),(1,.sl (.one (.int .u8)) v1)],[]⟩
noncomputable def laws_FnRibs_p3  (v0 : List Int) (v1 : List Int) (v5 : List T_Mode.ty) (v6 : Int) (v7 : Int) (v10 : Int) (v17 : Int) (v18 : Int) (r12 : List Int) : Option (Bool) :=
 goL laws_FnRibs_D laws_FnRibs_H (vleave laws_FnRibs_ir [.d (.one (.sl (.one (.int .u8)))),.d (.one (.sl (.one (.int .u8))))] [.d (.one .bool)] [] []) [.c laws_FnRibs_k0,.l laws_FnRibs_k1,.e 0,.c laws_FnRibs_k7,.c laws_FnRibs_k15]
  ⟨[(0,.sl (.one (.int .u8)) v0),(1,.sl (.one (.int .u8)) v1),(5,.sl T_Mode v5),(6,.int .i64 v6),(7,.int .i64 v7),(10,.int .i64 v10),(12,.view 12 0 r12.length),(17,.int .i64 v17),(18,.int .i64 v18)],[(5,none),(12,some (.sl (.one (.int .i64)) r12))]⟩
noncomputable def laws_FnRibs_p4  (v0 : List Int) (v20 : Int) (v21 : Int) (v22 : Int) (r23 : List Int) : Option (Bool) :=
 goL laws_FnRibs_D laws_FnRibs_H (vleave laws_FnRibs_ir [.d (.one (.sl (.one (.int .u8)))),.d (.one (.sl (.one (.int .u8))))] [.d (.one .bool)] [] []) [.c laws_FnRibs_k11,.c laws_FnRibs_k13]
  ⟨[(0,.sl (.one (.int .u8)) v0),(20,.int .i64 v20),(21,.int .i64 v21),(22,.int .i64 v22),(23,.view 23 0 r23.length)],[(23,some (.sl (.one (.int .i64)) r23))]⟩
noncomputable def laws_FnRibs_p5  (v0 : List Int) : Option (Bool) :=
 goL laws_FnRibs_D laws_FnRibs_H (vleave laws_FnRibs_ir [.d (.one (.sl (.one (.int .u8)))),.d (.one (.sl (.one (.int .u8))))] [.d (.one .bool)] [] []) [.c laws_FnRibs_k12]
  ⟨[(0,.sl (.one (.int .u8)) v0)],[]⟩
noncomputable def laws_FnRibs_p6  (v0 : List Int) (v1 : List Int) (v5 : List T_Mode.ty) (v6 : Int) (v7 : Int) (v10 : Int) (v17 : Int) (v19 : Int) (r12 : List Int) : Option (Bool) :=
 goL laws_FnRibs_D laws_FnRibs_H (vleave laws_FnRibs_ir [.d (.one (.sl (.one (.int .u8)))),.d (.one (.sl (.one (.int .u8))))] [.d (.one .bool)] [] []) [.c laws_FnRibs_k4,.l laws_FnRibs_k5,.e 2,.c laws_FnRibs_k6,.c laws_FnRibs_k15]
  ⟨[(0,.sl (.one (.int .u8)) v0),(1,.sl (.one (.int .u8)) v1),(5,.sl T_Mode v5),(6,.int .i64 v6),(7,.int .i64 v7),(10,.int .i64 v10),(12,.view 12 0 r12.length),(17,.int .i64 v17),(19,.int .i64 v19)],[(5,none),(12,some (.sl (.one (.int .i64)) r12))]⟩
noncomputable def laws_FnRibs_p7  (v0 : List Int) (v20 : Int) (v21 : Int) (v22 : Int) (v25 : Int) (r23 : List Int) : Option (Bool) :=
 goL laws_FnRibs_D laws_FnRibs_H (vleave laws_FnRibs_ir [.d (.one (.sl (.one (.int .u8)))),.d (.one (.sl (.one (.int .u8))))] [.d (.one .bool)] [] []) [.c laws_FnRibs_k9,.l laws_FnRibs_k10,.e 4,.c laws_FnRibs_k13]
  ⟨[(0,.sl (.one (.int .u8)) v0),(20,.int .i64 v20),(21,.int .i64 v21),(22,.int .i64 v22),(23,.view 23 0 r23.length),(25,.int .i64 v25)],[(23,some (.sl (.one (.int .i64)) r23))]⟩
noncomputable def laws_FnRibs_p8  (v0 : List Int) (v1 : List Int) (v5 : List T_Mode.ty) (v6 : Int) (v7 : Int) (v10 : Int) (v17 : Int) (v19 : Int) (r12 : List Int) : Option (Bool) :=
 goL laws_FnRibs_D laws_FnRibs_H (vleave laws_FnRibs_ir [.d (.one (.sl (.one (.int .u8)))),.d (.one (.sl (.one (.int .u8))))] [.d (.one .bool)] [] []) [.c laws_FnRibs_k2,.e 3,.c laws_FnRibs_k3,.l laws_FnRibs_k5,.e 2,.c laws_FnRibs_k6,.c laws_FnRibs_k15]
  ⟨[(0,.sl (.one (.int .u8)) v0),(1,.sl (.one (.int .u8)) v1),(5,.sl T_Mode v5),(6,.int .i64 v6),(7,.int .i64 v7),(10,.int .i64 v10),(12,.view 12 0 r12.length),(17,.int .i64 v17),(19,.int .i64 v19)],[(5,none),(12,some (.sl (.one (.int .i64)) r12))]⟩
theorem laws_FnRibs_eq (a0 : List Int) (a1 : List Int) : laws_FnRibs a0 a1 =
 (laws_b10Long a0).bind fun x1 =>
  if x1 then
   some true
  else
   (laws_b10Long a1).bind fun x2 =>
    if x2 then
     some true
    else
     laws_FnRibs_p0 a0 a1 :=
 (mk_f _ _ _ _ _ _ _ 4000).trans (by kernel_rfl)
theorem laws_FnRibs_p0_eq  (v0 : List Int) (v1 : List Int) : laws_FnRibs_p0 v0 v1 =
 (spec_DrawCutRibs v0).bind fun x1 =>
  (impl_CutRibs (x1.1.take x1.1.length) x1.2.1 x1.2.2.1 x1.2.2.2).bind fun x2 =>
   if (x2.2.2 == 0) then
    (impl_StripsLeft (x1.1.take x1.1.length) x2.1 x1.2.1 x1.2.2.1).bind fun x3 =>
     (impl_FirstCuts (x1.1.take x1.1.length) x1.2.1 x1.2.2.1).bind fun x4 =>
      if (x3.2 != 0) then
       some false
      else
       if ((x3.1.length : Int) != x2.2.1) then
        some false
       else
        if (x4.2.2 != 0) then
         some false
        else
         if ((x4.1.length : Int) != ((x1.1.take x1.1.length).length : Int)) then
          some false
         else
          if decide (x2.2.1 > x4.2.1) then
           some false
          else
           laws_FnRibs_p1 v0 v1 (x1.1.take x1.1.length) x1.2.1 x1.2.2.1 x2.2.1 x3.1
   else
    if ((x2.1.length : Int) != 0) then
     some false
    else
     if (x2.2.1 != 0) then
      some false
     else
      laws_FnRibs_p2 v0 v1 :=
 (goL_dn _ _ _ 4000 _ _).trans (by kernel_rfl)
theorem laws_FnRibs_p1_eq  (v0 : List Int) (v1 : List Int) (v5 : List T_Mode.ty) (v6 : Int) (v7 : Int) (v10 : Int) (r12 : List Int) : laws_FnRibs_p1 v0 v1 v5 v6 v7 v10 r12 =
 laws_FnRibs_p3 v0 v1 v5 v6 v7 v10 0 0 r12 :=
 (goL_dn _ _ _ 4000 _ _).trans (by kernel_rfl)
theorem laws_FnRibs_p2_eq  (v0 : List Int) (v1 : List Int) : laws_FnRibs_p2 v0 v1 =
 (spec_DrawTaperHeights v1).bind fun x1 =>
  (impl_TaperHeights x1.1 x1.2.1 x1.2.2).bind fun x2 =>
   if (x2.2 == 0) then
    if decide (x1.2.2 < 2) then
     some false
    else
     if ((x2.1.length : Int) != x1.2.2) then
      some false
     else
      if decide (0 < (x2.1.length : Int)) then
       (x2.1[0]?).bind fun x3 =>
        if (x3 != x1.1) then
         some false
        else
         if decide (0 ≤ IntKind.i64.wrap (x1.2.2 - 1)) && decide (IntKind.i64.wrap (x1.2.2 - 1) < (x2.1.length : Int)) then
          (x2.1[(IntKind.i64.wrap (x1.2.2 - 1)).toNat]?).bind fun x4 =>
           if (x4 != x1.2.1) then
            some false
           else
            laws_FnRibs_p4 v0 x1.1 x1.2.1 x1.2.2 x2.1
         else
          none
      else
       none
   else
    if ((x2.1.length : Int) != 0) then
     some false
    else
     laws_FnRibs_p5 v0 :=
 (goL_dn _ _ _ 4000 _ _).trans (by kernel_rfl)
theorem laws_FnRibs_p3_eq  (v0 : List Int) (v1 : List Int) (v5 : List T_Mode.ty) (v6 : Int) (v7 : Int) (v10 : Int) (v17 : Int) (v18 : Int) (r12 : List Int) : laws_FnRibs_p3 v0 v1 v5 v6 v7 v10 v17 v18 r12 =
 if decide (v18 < (v5.length : Int)) then
  if decide (0 ≤ v18) then
   (v5[v18.toNat]?).bind fun x1 =>
    laws_FnRibs_p3 v0 v1 v5 v6 v7 v10 (IntKind.i64.wrap (v17 + x1.2.1)) (IntKind.i64.wrap (v18 + 1)) r12
  else
   none
 else
  laws_FnRibs_p6 v0 v1 v5 v6 v7 v10 v17 0 r12 :=
 (goL_dn _ _ _ 4000 _ _).trans (by kernel_rfl)
theorem laws_FnRibs_p4_eq  (v0 : List Int) (v20 : Int) (v21 : Int) (v22 : Int) (r23 : List Int) : laws_FnRibs_p4 v0 v20 v21 v22 r23 =
 laws_FnRibs_p7 v0 v20 v21 v22 1 r23 :=
 (goL_dn _ _ _ 4000 _ _).trans (by kernel_rfl)
theorem laws_FnRibs_p5_eq  (v0 : List Int) : laws_FnRibs_p5 v0 =
 (spec_DrawLeastBend v0).bind fun x1 =>
  (impl_LeastBend x1.1 x1.2.1 x1.2.2).bind fun x2 =>
   if (x2.2 == 0) then
    (impl_BendSteps x2.1 x1.1 x1.2.1).bind fun x3 =>
     (impl_BendSteps (IntKind.i64.wrap (x2.1 - 1)) x1.1 x1.2.1).bind fun x4 =>
      if (x3.2 != 0) then
       some false
      else
       if decide (x3.1 > x1.2.2) then
        some false
       else
        if (x4.2 == 0) then
         if decide (x4.1 ≤ x1.2.2) then
          some false
         else
          some true
        else
         some true
   else
    some true :=
 (goL_dn _ _ _ 4000 _ _).trans (by kernel_rfl)
theorem laws_FnRibs_p6_eq  (v0 : List Int) (v1 : List Int) (v5 : List T_Mode.ty) (v6 : Int) (v7 : Int) (v10 : Int) (v17 : Int) (v19 : Int) (r12 : List Int) : laws_FnRibs_p6 v0 v1 v5 v6 v7 v10 v17 v19 r12 =
 if decide (v19 < (r12.length : Int)) then
  if decide (0 ≤ v19) && decide (v19 < (r12.length : Int)) then
   (r12[v19.toNat]?).bind fun x1 =>
    if decide (x1 < 0) then
     some false
    else
     if decide (0 ≤ v19) && decide (v19 < (r12.length : Int)) then
      (r12[v19.toNat]?).bind fun x2 =>
       if decide (x2 > v6) then
        some false
       else
        laws_FnRibs_p8 v0 v1 v5 v6 v7 v10 v17 v19 r12
     else
      none
  else
   none
 else
  if (IntKind.i64.wrap (v17 + (IntKind.i64.wrap (v7 * (IntKind.i64.wrap ((v5.length : Int) - v10))))) != IntKind.i64.wrap (v10 * v6)) then
   some false
  else
   laws_FnRibs_p2 v0 v1 :=
 (goL_dn _ _ _ 4000 _ _).trans (by kernel_rfl)
theorem laws_FnRibs_p7_eq  (v0 : List Int) (v20 : Int) (v21 : Int) (v22 : Int) (v25 : Int) (r23 : List Int) : laws_FnRibs_p7 v0 v20 v21 v22 v25 r23 =
 if decide (v25 < v22) then
  if decide (v20 ≤ v21) then
   if decide (0 ≤ IntKind.i64.wrap (v25 - 1)) && decide (IntKind.i64.wrap (v25 - 1) < (r23.length : Int)) then
    (r23[(IntKind.i64.wrap (v25 - 1)).toNat]?).bind fun x1 =>
     if decide (0 ≤ v25) && decide (v25 < (r23.length : Int)) then
      (r23[v25.toNat]?).bind fun x2 =>
       if decide (x1 > x2) then
        some false
       else
        if decide (v20 ≥ v21) then
         if decide (0 ≤ IntKind.i64.wrap (v25 - 1)) && decide (IntKind.i64.wrap (v25 - 1) < (r23.length : Int)) then
          (r23[(IntKind.i64.wrap (v25 - 1)).toNat]?).bind fun x3 =>
           if decide (0 ≤ v25) && decide (v25 < (r23.length : Int)) then
            (r23[v25.toNat]?).bind fun x4 =>
             if decide (x3 < x4) then
              some false
             else
              laws_FnRibs_p7 v0 v20 v21 v22 (IntKind.i64.wrap (v25 + 1)) r23
           else
            none
         else
          none
        else
         laws_FnRibs_p7 v0 v20 v21 v22 (IntKind.i64.wrap (v25 + 1)) r23
     else
      none
   else
    none
  else
   if decide (v20 ≥ v21) then
    if decide (0 ≤ IntKind.i64.wrap (v25 - 1)) && decide (IntKind.i64.wrap (v25 - 1) < (r23.length : Int)) then
     (r23[(IntKind.i64.wrap (v25 - 1)).toNat]?).bind fun x5 =>
      if decide (0 ≤ v25) && decide (v25 < (r23.length : Int)) then
       (r23[v25.toNat]?).bind fun x6 =>
        if decide (x5 < x6) then
         some false
        else
         laws_FnRibs_p7 v0 v20 v21 v22 (IntKind.i64.wrap (v25 + 1)) r23
      else
       none
    else
     none
   else
    laws_FnRibs_p7 v0 v20 v21 v22 (IntKind.i64.wrap (v25 + 1)) r23
 else
  laws_FnRibs_p5 v0 :=
 (goL_dn _ _ _ 4000 _ _).trans (by kernel_rfl)
theorem laws_FnRibs_p8_eq  (v0 : List Int) (v1 : List Int) (v5 : List T_Mode.ty) (v6 : Int) (v7 : Int) (v10 : Int) (v17 : Int) (v19 : Int) (r12 : List Int) : laws_FnRibs_p8 v0 v1 v5 v6 v7 v10 v17 v19 r12 =
 if decide (0 ≤ v19) && decide (v19 < (r12.length : Int)) then
  (r12[v19.toNat]?).bind fun x1 =>
   laws_FnRibs_p6 v0 v1 v5 v6 v7 v10 (IntKind.i64.wrap (v17 + x1)) (IntKind.i64.wrap (v19 + 1)) r12
 else
  none :=
 (goL_dn _ _ _ 4000 _ _).trans (by kernel_rfl)
end Go.Ab.P
