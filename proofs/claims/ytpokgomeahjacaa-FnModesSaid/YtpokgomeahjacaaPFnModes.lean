/- Functions of the program: abstract forms, and what their runs give. Conditions: none. -/
import Derived.Test.YtpokgomeahjacaaL4
set_option maxRecDepth 100000
set_option linter.unusedVariables false
namespace Go.Ab.P
open Go.Ab
@[reducible] def T_Mode : ET := .agg (.cons .str (.cons (.int .i64) (.cons (.int .i64) .nil)))
@[reducible] def T_l00Src : ET := .agg (.cons (.sl (.one (.int .u8))) (.cons (.int .i64) (.cons (.int .u64) .nil)))
@[reducible] def T_matchingO : ET := .agg (.cons (.sl T_Mode) (.cons (.sl T_Mode) (.cons (.own (.one .bool)) (.cons (.int .i64) (.cons (.own (.one (.int .i64))) (.cons (.int .i64) (.cons (.own (.one (.int .i64))) (.cons (.int .i64) (.cons .bool .nil)))))))))
def laws_b10Long_ir : Fn := { np := 1,io := [],res := [.t 2],own := [false],body :=
 (.seq (.reg false [.V 2 (.asg (.c (.bool false)))] [0] []) (.seq (.reg false [.V 3 (.mv (.t 0)),.V 4 (.len (.t 3)),.V 5 (.bin .gtr (.t 4) (.c (.int .i64 1048576))),.V 2 (.asg (.t 5))] [2] []) .ret)) }
noncomputable def laws_b10Long_D : List (Nat × Callee) := []
def laws_b10Long_H : List (Nat × ET) := [(3,(.one (.int .u8)))]
noncomputable def laws_b10Long_c : Callee := mkCallee laws_b10Long_D laws_b10Long_H laws_b10Long_ir [.d (.one (.sl (.one (.int .u8))))] [.d (.one .bool)] []
noncomputable def laws_b10Long (a0 : List Int) : Option (Bool) := laws_b10Long_c.f (a0,())
theorem laws_b10Long_eq (a0 : List Int) : laws_b10Long a0 =
 some (decide ((a0.length : Int) > 1048576)) :=
 (mk_f _ _ _ _ _ _ _ 4000).trans (by kernel_rfl)
def spec_l00From_ir : Fn := { np := 1,io := [],res := [.t 2],own := [true],body :=
 (.seq (.reg false [.V 2 (.asg (.c (.cst (.pointer none))))] [0] []) (.seq (.reg false [.V 3 (.mv (.t 0)),.V 4 (.build [.nils 1,.int .i64 0,.int .u64 0] [(0,1,.t 3)]),.W 5 (.box 3 (.t 4)),.V 2 (.asg (.t 5))] [2] [5,6000]) .ret)) }
noncomputable def spec_l00From_D : List (Nat × Callee) := []
def spec_l00From_H : List (Nat × ET) := [(3,(.one (.int .u8)))]
noncomputable def spec_l00From_c : Callee := mkCallee spec_l00From_D spec_l00From_H spec_l00From_ir [.d (.one (.sl (.one (.int .u8))))] [.box T_l00Src] []
noncomputable def spec_l00From (a0 : List Int) : Option (T_l00Src.ty) := spec_l00From_c.f (a0,())
theorem spec_l00From_eq (a0 : List Int) : spec_l00From a0 =
 some (a0,0,0,()) :=
 (mk_f _ _ _ _ _ _ _ 4000).trans (by kernel_rfl)
def spec_l00Src_next_k0 : C :=
 .seq (.reg false [.V 25 (.mv (.t 0)),.V 26 (.nilck (.t 25)),.V 27 (.fa 1 (.t 26)),.V 28 (.ld none (.t 27)),.V 29 (.bin .add (.t 28) (.c (.int .i64 1))),.V 30 (.nilck (.t 25)),.V 31 (.fa 1 (.t 30)),⟨none,true,.sto 1 (.t 31) (.t 29),none,false,[]⟩] [0,3] [0,1000]) (.seq (.reg false [.V 32 (.mv (.t 0)),.V 33 (.mv (.t 0)),.V 34 (.nilck (.t 33)),.V 35 (.fa 2 (.t 34)),.V 36 (.ld none (.t 35)),.V 37 (.bin .mul (.t 36) (.c (.int .u64 6364136223846793005))),.V 38 (.mv (.t 3)),.V 39 (.conv (.int .u64) (.t 38)),.V 40 (.bin .add (.t 37) (.t 39)),.V 41 (.bin .add (.t 40) (.c (.int .u64 1442695040888963407))),.V 42 (.nilck (.t 32)),.V 43 (.fa 2 (.t 42)),⟨none,true,.sto 1 (.t 43) (.t 41),none,false,[]⟩] [0,3] [0,1000]) (.seq (.seq (.reg true [.V 44 (.mv (.t 0)),.V 45 (.nilck (.t 44)),.V 46 (.fa 1 (.t 45)),.V 47 (.ld none (.t 46)),.V 48 (.mv (.t 0)),.V 49 (.nilck (.t 48)),.V 50 (.fa 0 (.t 49)),.V 51 (.ld none (.t 50)),.V 52 (.len (.t 51)),.V 53 (.bin .leq (.t 47) (.t 52))] [0,3,53] [0,1000]) (.cond (.t 53) (.seq (.reg false [.V 54 (.mv (.t 3)),.V 2 (.asg (.t 54))] [0,2] [0,1000]) .ret) .skip)) (.seq (.reg false [.V 55 (.mv (.t 0)),.V 56 (.nilck (.t 55)),.V 57 (.fa 2 (.t 56)),.V 58 (.ld none (.t 57)),.V 59 (.bin .shr (.t 58) (.c (.int .u64 40))),.V 60 (.bin .and (.t 59) (.c (.int .u64 255))),.V 61 (.conv (.int .i64) (.t 60)),.V 2 (.asg (.t 61))] [0,2] [0,1000]) .ret)))
def spec_l00Src_next_ir : Fn := { np := 1,io := [true],res := [.t 2],own := [false],body :=
 (.seq (.reg false [.V 2 (.asg (.c (.int .i64 0)))] [0] [0,1000]) (.seq (.reg false [.V 3 (.asg (.c (.int .i64 0)))] [0,3] [0,1000]) (.seq (.seq (.reg true [.V 4 (.mv (.t 0)),.V 5 (.nilck (.t 4)),.V 6 (.fa 1 (.t 5)),.V 7 (.ld none (.t 6)),.V 8 (.mv (.t 0)),.V 9 (.nilck (.t 8)),.V 10 (.fa 0 (.t 9)),.V 11 (.ld none (.t 10)),.V 12 (.len (.t 11)),.V 13 (.bin .lss (.t 7) (.t 12))] [0,3,13] [0,1000]) (.cond (.t 13) (.reg true [.V 14 (.mv (.t 0)),.V 15 (.nilck (.t 14)),.V 16 (.fa 0 (.t 15)),.V 17 (.ld none (.t 16)),.V 18 (.mv (.t 0)),.V 19 (.nilck (.t 18)),.V 20 (.fa 1 (.t 19)),.V 21 (.ld none (.t 20)),.V 22 (.ia 1 (.t 17) (.t 21)),.V 23 (.ld none (.t 22)),.V 24 (.conv (.int .i64) (.t 23)),.V 3 (.asg (.t 24))] [0,3] [0,1000]) .skip)) (.norm [0,3] [0,1000] spec_l00Src_next_k0)))) }
noncomputable def spec_l00Src_next_D : List (Nat × Callee) := []
def spec_l00Src_next_H : List (Nat × ET) := [(11,(.one (.int .u8))),(17,(.one (.int .u8))),(51,(.one (.int .u8)))]
noncomputable def spec_l00Src_next_c : Callee := mkCallee spec_l00Src_next_D spec_l00Src_next_H spec_l00Src_next_ir [.box T_l00Src] [.d (.one (.int .i64))] [.box T_l00Src]
noncomputable def spec_l00Src_next (a0 : T_l00Src.ty) : Option (Int × T_l00Src.ty) := spec_l00Src_next_c.f (a0,())
noncomputable def spec_l00Src_next_p0  (v3 : Int) (r0_0 : List Int) (r0_1 : Int) (r0_2 : Int) : Option (Int × T_l00Src.ty) :=
 goL spec_l00Src_next_D spec_l00Src_next_H (vleave spec_l00Src_next_ir [.box T_l00Src] [.d (.one (.int .i64))] [.box T_l00Src] []) [.c spec_l00Src_next_k0]
  ⟨[(0,.loc 0 0 0),(3,.int .i64 v3)],[(0,some (.var 3 (.agg [.sl (.one (.int .u8)) r0_0,.int .i64 r0_1,.int .u64 r0_2]))),(1000,none)]⟩
theorem spec_l00Src_next_eq (a0 : T_l00Src.ty) : spec_l00Src_next a0 =
 if decide (a0.2.1 < (a0.1.length : Int)) then
  if decide (0 ≤ a0.2.1) then
   (a0.1[a0.2.1.toNat]?).bind fun x1 =>
    spec_l00Src_next_p0 (IntKind.i64.wrap x1) a0.1 a0.2.1 a0.2.2.1
  else
   none
 else
  spec_l00Src_next_p0 0 a0.1 a0.2.1 a0.2.2.1 :=
 (mk_f _ _ _ _ _ _ _ 4000).trans (by kernel_rfl)
theorem spec_l00Src_next_p0_eq  (v3 : Int) (r0_0 : List Int) (r0_1 : Int) (r0_2 : Int) : spec_l00Src_next_p0 v3 r0_0 r0_1 r0_2 =
 if decide (IntKind.i64.wrap (r0_1 + 1) ≤ (r0_0.length : Int)) then
  some (v3,(r0_0,IntKind.i64.wrap (r0_1 + 1),IntKind.u64.wrap ((IntKind.u64.wrap ((IntKind.u64.wrap (r0_2 * 6364136223846793005)) + (IntKind.u64.wrap v3))) + 1442695040888963407),()))
 else
  some (IntKind.i64.wrap (IntKind.u64.wrap ((BitVec.ofInt IntKind.u64.bits (Int.fdiv (IntKind.u64.wrap ((IntKind.u64.wrap ((IntKind.u64.wrap (r0_2 * 6364136223846793005)) + (IntKind.u64.wrap v3))) + 1442695040888963407)) (2 ^ (min (40 : Int).toNat IntKind.u64.bits))) &&& BitVec.ofInt IntKind.u64.bits 255).toNat : Int)),(r0_0,IntKind.i64.wrap (r0_1 + 1),IntKind.u64.wrap ((IntKind.u64.wrap ((IntKind.u64.wrap (r0_2 * 6364136223846793005)) + (IntKind.u64.wrap v3))) + 1442695040888963407),())) :=
 (goL_dn _ _ _ 4000 _ _).trans (by kernel_rfl)
def spec_l00Src_pick_ir : Fn := { np := 2,io := [true,false],res := [.t 4],own := [false],body :=
 (.seq (.reg false [.V 4 (.asg (.c (.int .i64 0)))] [0,1] [0,1000]) (.seq (.seq (.reg false [.V 6 (.mv (.t 1)),.V 7 (.bin .leq (.t 6) (.c (.int .i64 1)))] [0,1,7] [0,1000]) (.cond (.t 7) (.seq (.reg false [.V 4 (.asg (.c (.int .i64 0)))] [0,4] [0,1000]) .ret) .skip)) (.seq (.reg false [.V 8 (.mv (.t 0)),.W 9 (.call (.c (.fn 847 [])) [.t 8]),.V 5 (.asg (.t 9))] [0,1,5] [0,1000]) (.seq (.seq (.reg false [.V 10 (.mv (.t 1)),.V 11 (.bin .gtr (.t 10) (.c (.int .i64 200)))] [0,1,5,11] [0,1000]) (.cond (.t 11) (.reg false [.V 12 (.mv (.t 5)),.V 13 (.bin .mul (.t 12) (.c (.int .i64 256))),.V 14 (.mv (.t 0)),.W 15 (.call (.c (.fn 847 [])) [.t 14]),.V 16 (.bin .add (.t 13) (.t 15)),.V 5 (.asg (.t 16))] [0,1,5] [0,1000]) .skip)) (.seq (.reg false [.V 17 (.mv (.t 5)),.V 18 (.mv (.t 1)),.V 19 (.bin .rem (.t 17) (.t 18)),.V 4 (.asg (.t 19))] [0,4] [0,1000]) .ret))))) }
noncomputable def spec_l00Src_pick_D : List (Nat × Callee) := [(847,spec_l00Src_next_c)]
def spec_l00Src_pick_H : List (Nat × ET) := []
noncomputable def spec_l00Src_pick_c : Callee := mkCallee spec_l00Src_pick_D spec_l00Src_pick_H spec_l00Src_pick_ir [.box T_l00Src,.d (.one (.int .i64))] [.d (.one (.int .i64))] [.box T_l00Src]
noncomputable def spec_l00Src_pick (a0 : T_l00Src.ty) (a1 : Int) : Option (Int × T_l00Src.ty) := spec_l00Src_pick_c.f (a0,a1,())
theorem spec_l00Src_pick_eq (a0 : T_l00Src.ty) (a1 : Int) : spec_l00Src_pick a0 a1 =
 if decide (a1 ≤ 1) then
  some (0,a0)
 else
  (spec_l00Src_next a0).bind fun x1 =>
   if decide (a1 > 200) then
    (spec_l00Src_next (x1.2.1,x1.2.2.1,x1.2.2.2.1,())).bind fun x2 =>
     if decide (a1 = 0) then
      none
     else
      some ((IntKind.i64.wrap ((IntKind.i64.wrap (x1.1 * 256)) + x2.1)).tmod a1,(x2.2.1,x2.2.2.1,x2.2.2.2.1,()))
   else
    if decide (a1 = 0) then
     none
    else
     some (x1.1.tmod a1,(x1.2.1,x1.2.2.1,x1.2.2.2.1,())) :=
 (mk_f _ _ _ _ _ _ _ 4000).trans (by kernel_rfl)
def spec_l00Src_one_ir : Fn := { np := 2,io := [true,false],res := [.t 4],own := [false],body :=
 (.seq (.reg false [.V 4 (.asg (.c (.bool false)))] [0,1] [0,1000]) (.seq (.reg false [.V 5 (.mv (.t 0)),.V 6 (.mv (.t 1)),.W 7 (.call (.c (.fn 463 [])) [.t 5,.t 6]),.V 8 (.bin .eql (.t 7) (.c (.int .i64 0))),.V 4 (.asg (.t 8))] [0,4] [0,1000]) .ret)) }
noncomputable def spec_l00Src_one_D : List (Nat × Callee) := [(463,spec_l00Src_pick_c)]
def spec_l00Src_one_H : List (Nat × ET) := []
noncomputable def spec_l00Src_one_c : Callee := mkCallee spec_l00Src_one_D spec_l00Src_one_H spec_l00Src_one_ir [.box T_l00Src,.d (.one (.int .i64))] [.d (.one .bool)] [.box T_l00Src]
noncomputable def spec_l00Src_one (a0 : T_l00Src.ty) (a1 : Int) : Option (Bool × T_l00Src.ty) := spec_l00Src_one_c.f (a0,a1,())
theorem spec_l00Src_one_eq (a0 : T_l00Src.ty) (a1 : Int) : spec_l00Src_one a0 a1 =
 (spec_l00Src_pick a0 a1).bind fun x1 =>
  some ((x1.1 == 0),(x1.2.1,x1.2.2.1,x1.2.2.2.1,())) :=
 (mk_f _ _ _ _ _ _ _ 4000).trans (by kernel_rfl)
def spec_l16DrawOne_ir : Fn := { np := 2,io := [true,false],res := [.cell 4 (some 3)],own := [false],body :=
 (.seq (.reg false [.W 4 (.alloc 3 (.agg [.str [],.int .i64 0,.int .i64 0]))] [0,1,4] [0,4,1000]) (.seq (.reg false [.V 6 (.mv (.t 1)),.V 7 (.mv (.t 0)),.W 8 (.call (.c (.fn 463 [])) [.t 7,.c (.int .i64 400)]),.V 9 (.bin .mul (.c (.int .i64 10)) (.t 8)),.V 10 (.bin .add (.c (.int .i64 1000)) (.t 9)),.V 11 (.build [.str [],.int .i64 0,.int .i64 0] [(0,1,.t 6),(1,1,.t 10)]),.W 5 (.alloc 3 (.agg [.str [],.int .i64 0,.int .i64 0])),⟨none,true,.sto 3 (.t 5) (.t 11),none,false,[]⟩] [0,4,5] [0,4,5,1000]) (.seq (.reg false [.V 12 (.mv (.t 0)),.W 13 (.call (.c (.fn 463 [])) [.t 12,.c (.int .i64 30)]),.V 14 (.bin .add (.c (.int .i64 1)) (.t 13)),.V 15 (.bin .mul (.c (.int .i64 5)) (.t 14)),.V 16 (.fa 2 (.t 5)),⟨none,true,.sto 1 (.t 16) (.t 15),none,false,[]⟩] [0,4,5] [0,4,5,1000]) (.seq (.reg false [.V 17 (.ld (some 3) (.t 5)),⟨none,true,.sto 3 (.t 4) (.t 17),none,false,[]⟩] [0,4] [0,4,1000]) .ret)))) }
noncomputable def spec_l16DrawOne_D : List (Nat × Callee) := [(463,spec_l00Src_pick_c)]
def spec_l16DrawOne_H : List (Nat × ET) := []
noncomputable def spec_l16DrawOne_c : Callee := mkCallee spec_l16DrawOne_D spec_l16DrawOne_H spec_l16DrawOne_ir [.box T_l00Src,.d (.one .str)] [.d T_Mode] [.box T_l00Src]
noncomputable def spec_l16DrawOne (a0 : T_l00Src.ty) (a1 : List UInt8) : Option (T_Mode.ty × T_l00Src.ty) := spec_l16DrawOne_c.f (a0,a1,())
theorem spec_l16DrawOne_eq (a0 : T_l00Src.ty) (a1 : List UInt8) : spec_l16DrawOne a0 a1 =
 (spec_l00Src_pick a0 400).bind fun x1 =>
  (spec_l00Src_pick (x1.2.1,x1.2.2.1,x1.2.2.2.1,()) 30).bind fun x2 =>
   some ((a1,IntKind.i64.wrap (1000 + (IntKind.i64.wrap (10 * x1.1))),IntKind.i64.wrap (5 * (IntKind.i64.wrap (1 + x2.1))),()),(x2.2.1,x2.2.2.1,x2.2.2.2.1,())) :=
 (mk_f _ _ _ _ _ _ _ 4000).trans (by kernel_rfl)
def spec_l00Src_among_ir : Fn := { np := 2,io := [true,false],res := [.t 4],own := [false],body :=
 (.seq (.reg false [.V 4 (.asg (.c (.int .i64 0)))] [0,1] [0,1000]) (.seq (.reg false [.V 5 (.mv (.t 1)),.V 6 (.mv (.t 0)),.V 7 (.mv (.t 1)),.V 8 (.len (.t 7)),.W 9 (.call (.c (.fn 463 [])) [.t 6,.t 8]),.V 10 (.ia 1 (.t 5) (.t 9)),.V 11 (.ld none (.t 10)),.V 4 (.asg (.t 11))] [0,4] [0,1000]) .ret)) }
noncomputable def spec_l00Src_among_D : List (Nat × Callee) := [(463,spec_l00Src_pick_c)]
def spec_l00Src_among_H : List (Nat × ET) := [(5,(.one (.int .i64))),(7,(.one (.int .i64)))]
noncomputable def spec_l00Src_among_c : Callee := mkCallee spec_l00Src_among_D spec_l00Src_among_H spec_l00Src_among_ir [.box T_l00Src,.d (.one (.sl (.one (.int .i64))))] [.d (.one (.int .i64))] [.box T_l00Src]
noncomputable def spec_l00Src_among (a0 : T_l00Src.ty) (a1 : List Int) : Option (Int × T_l00Src.ty) := spec_l00Src_among_c.f (a0,a1,())
theorem spec_l00Src_among_eq (a0 : T_l00Src.ty) (a1 : List Int) : spec_l00Src_among a0 a1 =
 (spec_l00Src_pick a0 (a1.length : Int)).bind fun x1 =>
  if decide (0 ≤ x1.1) then
   (a1[x1.1.toNat]?).bind fun x2 =>
    some (x2,(x1.2.1,x1.2.2.1,x1.2.2.2.1,()))
  else
   none :=
 (mk_f _ _ _ _ _ _ _ 4000).trans (by kernel_rfl)
def spec_l16Bent_ir : Fn := { np := 2,io := [true,false],res := [.cell 4 (some 3)],own := [false],body :=
 (.seq (.reg false [.W 3 (.box 3 (.t 1)),.W 4 (.alloc 3 (.agg [.str [],.int .i64 0,.int .i64 0]))] [0,3,4] [0,3,4,1000]) (.seq (.seq (.reg false [.V 5 (.mv (.t 0)),.W 6 (.call (.c (.fn 463 [])) [.t 5,.c (.int .i64 16)])] [0,3,4,6] [0,3,4,1000]) (.block 0 (.seq (.reg false [.V 8 (.bin .eql (.t 6) (.c (.int .i64 0))),.V 7 (.asg (.t 8))] [0,3,4,6,7] [0,3,4,1000]) (.cond (.t 7) (.reg false [.V 9 (.mv (.t 0)),.V 10 (.bsl 1 (.int .i64 0) 4 [(0,.c (.int .i64 999)),(1,.c (.int .i64 1000)),(2,.c (.int .i64 100000)),(3,.c (.int .i64 100001))]),.W 11 (.call (.c (.fn 445 [])) [.t 9,.t 10]),.V 12 (.fa 1 (.t 3)),⟨none,true,.sto 1 (.t 12) (.t 11),none,false,[]⟩] [0,3,4] [0,3,4,1000]) (.seq (.reg false [.V 14 (.bin .eql (.t 6) (.c (.int .i64 1))),.V 13 (.asg (.t 14))] [0,3,4,13] [0,3,4,1000]) (.cond (.t 13) (.reg false [.V 15 (.mv (.t 0)),.V 16 (.bsl 1 (.int .i64 0) 4 [(0,.c (.int .i64 0)),(1,.c (.int .i64 1)),(2,.c (.int .i64 500)),(3,.c (.int .i64 501))]),.W 17 (.call (.c (.fn 445 [])) [.t 15,.t 16]),.V 18 (.fa 2 (.t 3)),⟨none,true,.sto 1 (.t 18) (.t 17),none,false,[]⟩] [0,3,4] [0,3,4,1000]) .skip)))))) (.seq (.reg false [.V 19 (.ld (some 3) (.t 3)),⟨none,true,.sto 3 (.t 4) (.t 19),none,false,[]⟩] [0,4] [0,4,1000]) .ret))) }
noncomputable def spec_l16Bent_D : List (Nat × Callee) := [(445,spec_l00Src_among_c),(463,spec_l00Src_pick_c)]
def spec_l16Bent_H : List (Nat × ET) := [(10,(.one (.int .i64))),(16,(.one (.int .i64)))]
noncomputable def spec_l16Bent_c : Callee := mkCallee spec_l16Bent_D spec_l16Bent_H spec_l16Bent_ir [.box T_l00Src,.d T_Mode] [.d T_Mode] [.box T_l00Src]
noncomputable def spec_l16Bent (a0 : T_l00Src.ty) (a1 : T_Mode.ty) : Option (T_Mode.ty × T_l00Src.ty) := spec_l16Bent_c.f (a0,a1,())
theorem spec_l16Bent_eq (a0 : T_l00Src.ty) (a1 : T_Mode.ty) : spec_l16Bent a0 a1 =
 (spec_l00Src_pick a0 16).bind fun x1 =>
  if (x1.1 == 0) then
   (spec_l00Src_among (x1.2.1,x1.2.2.1,x1.2.2.2.1,()) [999,1000,100000,100001]).bind fun x2 =>
    some ((a1.1,x2.1,a1.2.2.1,()),(x2.2.1,x2.2.2.1,x2.2.2.2.1,()))
  else
   if (x1.1 == 1) then
    (spec_l00Src_among (x1.2.1,x1.2.2.1,x1.2.2.2.1,()) [0,1,500,501]).bind fun x3 =>
     some ((a1.1,a1.2.1,x3.1,()),(x3.2.1,x3.2.2.1,x3.2.2.2.1,()))
   else
    some (a1,(x1.2.1,x1.2.2.1,x1.2.2.2.1,())) :=
 (mk_f _ _ _ _ _ _ _ 4000).trans (by kernel_rfl)
def spec_l16Draw_k0 : C :=
 .seq (.seq (.reg false [.V 10 (.mv (.t 5)),.V 11 (.mv (.t 3)),.V 12 (.len (.t 11)),.V 13 (.bin .lss (.t 10) (.t 12))] [0,3,4,5,13] [0,3,4,1000]) (.cond (.t 13) .skip (.exit 0))) (.seq (.block 1 (.seq (.reg false [.V 16 (.mv (.t 0)),.W 17 (.call (.c (.fn 642 [])) [.t 16,.c (.int .i64 3)]),.V 18 (.un .not (.t 17))] [0,3,4,5,18] [0,3,4,1000]) (.cond (.t 18) (.reg false [.V 19 (.mv (.t 4)),.V 20 (.mv (.t 0)),.V 21 (.mv (.t 3)),.V 22 (.mv (.t 5)),.V 23 (.ia 1 (.t 21) (.t 22)),.V 24 (.ld none (.t 23)),.W 25 (.call (.c (.fn 547 [])) [.t 20,.t 24]),.V 26 (.bsl 3 (.agg [.str [],.int .i64 0,.int .i64 0]) 1 [(0,.t 25)]),.W 27 (.app 3 32 (.t 19) (.t 26)),.W 4 (.asg (.t 27))] [0,3,4,5] [0,3,4,1000]) .skip))) (.reg false [.V 14 (.mv (.t 5)),.V 15 (.bin .add (.t 14) (.c (.int .i64 1))),.V 5 (.asg (.t 15))] [0,3,4,5] [0,3,4,1000]))
def spec_l16Draw_k1 : C :=
 .norm [0,3,4,5] [0,3,4,1000] spec_l16Draw_k0
def spec_l16Draw_k2 : C :=
 .seq (.seq (.reg false [.V 45 (.mv (.t 7)),.V 46 (.mv (.t 6)),.V 47 (.bin .lss (.t 45) (.t 46))] [0,4,6,7,47] [0,4,1000]) (.cond (.t 47) .skip (.exit 3))) (.seq (.block 4 (.reg false [.V 50 (.mv (.t 4)),.V 51 (.mv (.t 0)),.V 52 (.mv (.t 7)),.V 53 (.bin .add (.c (.int .i64 97)) (.t 52)),.V 54 (.conv (.int .u8) (.t 53)),.V 55 (.bsl 1 (.int .u8 0) 1 [(0,.t 54)]),.V 56 (.conv .bytesStr (.t 55)),.V 57 (.bin .add (.c (.str [110])) (.t 56)),.W 58 (.call (.c (.fn 547 [])) [.t 51,.t 57]),.V 59 (.bsl 3 (.agg [.str [],.int .i64 0,.int .i64 0]) 1 [(0,.t 58)]),.W 60 (.app 3 32 (.t 50) (.t 59)),.W 4 (.asg (.t 60))] [0,4,6,7] [0,4,1000])) (.reg false [.V 48 (.mv (.t 7)),.V 49 (.bin .add (.t 48) (.c (.int .i64 1))),.V 7 (.asg (.t 49))] [0,4,6,7] [0,4,1000]))
def spec_l16Draw_k3 : C :=
 .norm [0,4,6,7] [0,4,1000] spec_l16Draw_k2
def spec_l16Draw_k4 : C :=
 .seq (.reg false [.V 61 (.mv (.t 4)),.W 2 (.asg (.t 61))] [0,2] [0,2,4,1000]) .ret
def spec_l16Draw_k5 : C :=
 .seq (.seq (.reg false [.V 28 (.mv (.t 0)),.W 29 (.call (.c (.fn 463 [])) [.t 28,.c (.int .i64 20)])] [0,4,29] [0,4,1000]) (.block 2 (.seq (.reg false [.V 31 (.bin .eql (.t 29) (.c (.int .i64 0))),.V 30 (.asg (.t 31))] [0,4,29,30] [0,4,1000]) (.cond (.t 30) (.reg false [.V 32 (.mv (.t 4)),.V 33 (.mv (.t 0)),.V 34 (.mv (.t 0)),.W 35 (.call (.c (.fn 547 [])) [.t 34,.c (.str [122,122])]),.W 36 (.call (.c (.fn 548 [])) [.t 33,.t 35]),.V 37 (.bsl 3 (.agg [.str [],.int .i64 0,.int .i64 0]) 1 [(0,.t 36)]),.W 38 (.app 3 32 (.t 32) (.t 37)),.W 4 (.asg (.t 38))] [0,4] [0,4,1000]) (.seq (.reg false [.V 40 (.bin .eql (.t 29) (.c (.int .i64 1))),.V 39 (.asg (.t 40))] [0,4,39] [0,4,1000]) (.cond (.t 39) (.seq (.reg false [.V 41 (.mv (.t 0)),.V 42 (.bsl 1 (.int .i64 0) 2 [(0,.c (.int .i64 10)),(1,.c (.int .i64 11))]),.W 43 (.call (.c (.fn 445 [])) [.t 41,.t 42]),.V 6 (.asg (.t 43))] [0,6] [0,1000]) (.seq (.reg false [.V 44 (.bsl 3 (.agg [.str [],.int .i64 0,.int .i64 0]) 0 []),.W 4 (.asg (.t 44))] [0,4,6] [0,4,1000]) (.seq (.reg false [.V 7 (.asg (.c (.int .i64 0)))] [0,4,6,7] [0,4,1000]) (.block 3 (.loop spec_l16Draw_k3))))) .skip)))))) spec_l16Draw_k4
def spec_l16Draw_ir : Fn := { np := 1,io := [true],res := [.t 2],own := [true],body :=
 (.seq (.reg false [.W 2 (.asg (.c (.nils 3)))] [0] [0,1000]) (.seq (.reg false [.V 8 (.bsl 1 (.str []) 5 [(0,.c (.str [109,97])),(1,.c (.str [109,98])),(2,.c (.str [109,99])),(3,.c (.str [109,100])),(4,.c (.str [109,101]))]),.W 3 (.asg (.t 8))] [0,3] [0,3,1000]) (.seq (.reg false [.V 9 (.bsl 3 (.agg [.str [],.int .i64 0,.int .i64 0]) 0 []),.W 4 (.asg (.t 9))] [0,3,4] [0,3,4,1000]) (.seq (.seq (.reg false [.V 5 (.asg (.c (.int .i64 0)))] [0,3,4,5] [0,3,4,1000]) (.block 0 (.loop spec_l16Draw_k1))) spec_l16Draw_k5)))) }
noncomputable def spec_l16Draw_D : List (Nat × Callee) := [(445,spec_l00Src_among_c),(463,spec_l00Src_pick_c),(547,spec_l16DrawOne_c),(548,spec_l16Bent_c),(642,spec_l00Src_one_c)]
def spec_l16Draw_H : List (Nat × ET) := [(2,T_Mode),(3,(.one .str)),(4,T_Mode),(8,(.one .str)),(9,T_Mode),(11,(.one .str)),(19,T_Mode),(21,(.one .str)),(26,T_Mode),(27,T_Mode),(32,T_Mode),(37,T_Mode),(38,T_Mode),(42,(.one (.int .i64))),(44,T_Mode),(50,T_Mode),(55,(.one (.int .u8))),(59,T_Mode),(60,T_Mode),(61,T_Mode)]
noncomputable def spec_l16Draw_c : Callee := mkCallee spec_l16Draw_D spec_l16Draw_H spec_l16Draw_ir [.box T_l00Src] [.tok T_Mode] [.box T_l00Src]
noncomputable def spec_l16Draw (a0 : T_l00Src.ty) : Option (List T_Mode.ty × T_l00Src.ty) := spec_l16Draw_c.f (a0,())
noncomputable def spec_l16Draw_p0  (v5 : Int) (r0_0 : List Int) (r0_1 : Int) (r0_2 : Int) (r3 : List (List UInt8)) (r4 : List T_Mode.ty) : Option (List T_Mode.ty × T_l00Src.ty) :=
 goL spec_l16Draw_D spec_l16Draw_H (vleave spec_l16Draw_ir [.box T_l00Src] [.tok T_Mode] [.box T_l00Src] []) [.c spec_l16Draw_k0,.l spec_l16Draw_k1,.e 0,.c spec_l16Draw_k5]
  ⟨[(0,.loc 0 0 0),(3,.view 3 0 r3.length),(4,.view 4 0 r4.length),(5,.int .i64 v5)],[(0,some (.var 3 (.agg [.sl (.one (.int .u8)) r0_0,.int .i64 r0_1,.int .u64 r0_2]))),(3,some (.sl (.one .str) r3)),(4,some (.sl T_Mode r4)),(1000,none)]⟩
noncomputable def spec_l16Draw_p1  (v6 : Int) (v7 : Int) (r0_0 : List Int) (r0_1 : Int) (r0_2 : Int) (r4 : List T_Mode.ty) : Option (List T_Mode.ty × T_l00Src.ty) :=
 goL spec_l16Draw_D spec_l16Draw_H (vleave spec_l16Draw_ir [.box T_l00Src] [.tok T_Mode] [.box T_l00Src] []) [.c spec_l16Draw_k2,.l spec_l16Draw_k3,.e 3,.e 2,.c spec_l16Draw_k4]
  ⟨[(0,.loc 0 0 0),(4,.view 4 0 r4.length),(6,.int .i64 v6),(7,.int .i64 v7)],[(0,some (.var 3 (.agg [.sl (.one (.int .u8)) r0_0,.int .i64 r0_1,.int .u64 r0_2]))),(4,some (.sl T_Mode r4)),(1000,none)]⟩
theorem spec_l16Draw_eq (a0 : T_l00Src.ty) : spec_l16Draw a0 =
 spec_l16Draw_p0 0 a0.1 a0.2.1 a0.2.2.1 [[109,97],[109,98],[109,99],[109,100],[109,101]] [] :=
 (mk_f _ _ _ _ _ _ _ 4000).trans (by kernel_rfl)
theorem spec_l16Draw_p0_eq  (v5 : Int) (r0_0 : List Int) (r0_1 : Int) (r0_2 : Int) (r3 : List (List UInt8)) (r4 : List T_Mode.ty) : spec_l16Draw_p0 v5 r0_0 r0_1 r0_2 r3 r4 =
 if decide (v5 < (r3.length : Int)) then
  (spec_l00Src_one (r0_0,r0_1,r0_2,()) 3).bind fun x1 =>
   if (!x1.1) then
    if decide (0 ≤ v5) && decide (v5 < (r3.length : Int)) then
     (r3[v5.toNat]?).bind fun x2 =>
      (spec_l16DrawOne (x1.2.1,x1.2.2.1,x1.2.2.2.1,()) x2).bind fun x3 =>
       if decide (r4.length + 1 < lim) then
        spec_l16Draw_p0 (IntKind.i64.wrap (v5 + 1)) x3.2.1 x3.2.2.1 x3.2.2.2.1 r3 ((r4.take r4.length) ++ [(x3.1.1,x3.1.2.1,x3.1.2.2.1,())])
       else
        none
    else
     none
   else
    spec_l16Draw_p0 (IntKind.i64.wrap (v5 + 1)) x1.2.1 x1.2.2.1 x1.2.2.2.1 r3 r4
 else
  (spec_l00Src_pick (r0_0,r0_1,r0_2,()) 20).bind fun x4 =>
   if (x4.1 == 0) then
    (spec_l16DrawOne (x4.2.1,x4.2.2.1,x4.2.2.2.1,()) [122,122]).bind fun x5 =>
     (spec_l16Bent (x5.2.1,x5.2.2.1,x5.2.2.2.1,()) (x5.1.1,x5.1.2.1,x5.1.2.2.1,())).bind fun x6 =>
      if decide (r4.length + 1 < lim) then
       some ((((r4.take r4.length) ++ [(x6.1.1,x6.1.2.1,x6.1.2.2.1,())]).take (((r4.take r4.length) ++ [(x6.1.1,x6.1.2.1,x6.1.2.2.1,())]).length)),(x6.2.1,x6.2.2.1,x6.2.2.2.1,()))
      else
       none
   else
    if (x4.1 == 1) then
     (spec_l00Src_among (x4.2.1,x4.2.2.1,x4.2.2.2.1,()) [10,11]).bind fun x7 =>
      spec_l16Draw_p1 x7.1 0 x7.2.1 x7.2.2.1 x7.2.2.2.1 []
    else
     some ((r4.take r4.length),(x4.2.1,x4.2.2.1,x4.2.2.2.1,())) :=
 (goL_dn _ _ _ 4000 _ _).trans (by kernel_rfl)
theorem spec_l16Draw_p1_eq  (v6 : Int) (v7 : Int) (r0_0 : List Int) (r0_1 : Int) (r0_2 : Int) (r4 : List T_Mode.ty) : spec_l16Draw_p1 v6 v7 r0_0 r0_1 r0_2 r4 =
 if decide (v7 < v6) then
  if decide ([110].length + ([IntKind.u8.wrap (IntKind.i64.wrap (97 + v7))].map vu8).length ≤ strMax) then
   (spec_l16DrawOne (r0_0,r0_1,r0_2,()) ([110] ++ ([IntKind.u8.wrap (IntKind.i64.wrap (97 + v7))].map vu8))).bind fun x1 =>
    if decide (r4.length + 1 < lim) then
     spec_l16Draw_p1 v6 (IntKind.i64.wrap (v7 + 1)) x1.2.1 x1.2.2.1 x1.2.2.2.1 ((r4.take r4.length) ++ [(x1.1.1,x1.1.2.1,x1.1.2.2.1,())])
    else
     none
  else
   none
 else
  some ((r4.take r4.length),(r0_0,r0_1,r0_2,())) :=
 (goL_dn _ _ _ 4000 _ _).trans (by kernel_rfl)
def spec_l06DrawBudget_ir : Fn := { np := 1,io := [true],res := [.t 2],own := [false],body :=
 (.seq (.reg false [.V 2 (.asg (.c (.int .i64 0)))] [0] [0,1000]) (.seq (.reg false [.V 3 (.mv (.t 0)),.V 4 (.bsl 1 (.int .i64 0) 7 [(0,.c (.int .i64 1)),(1,.c (.int .i64 10)),(2,.c (.int .i64 100)),(3,.c (.int .i64 1000)),(4,.c (.int .i64 20000)),(5,.c (.int .i64 0)),(6,.c (.int .i64 20001))]),.W 5 (.call (.c (.fn 445 [])) [.t 3,.t 4]),.V 2 (.asg (.t 5))] [0,2] [0,1000]) .ret)) }
noncomputable def spec_l06DrawBudget_D : List (Nat × Callee) := [(445,spec_l00Src_among_c)]
def spec_l06DrawBudget_H : List (Nat × ET) := [(4,(.one (.int .i64)))]
noncomputable def spec_l06DrawBudget_c : Callee := mkCallee spec_l06DrawBudget_D spec_l06DrawBudget_H spec_l06DrawBudget_ir [.box T_l00Src] [.d (.one (.int .i64))] [.box T_l00Src]
noncomputable def spec_l06DrawBudget (a0 : T_l00Src.ty) : Option (Int × T_l00Src.ty) := spec_l06DrawBudget_c.f (a0,())
theorem spec_l06DrawBudget_eq (a0 : T_l00Src.ty) : spec_l06DrawBudget a0 =
 (spec_l00Src_among a0 [1,10,100,1000,20000,0,20001]).bind fun x1 =>
  some (x1.1,(x1.2.1,x1.2.2.1,x1.2.2.2.1,())) :=
 (mk_f _ _ _ _ _ _ _ 4000).trans (by kernel_rfl)
def spec_DrawMatchModes_ir : Fn := { np := 1,io := [],res := [.t 2,.t 3,.t 4],own := [true,true,false],body :=
 (.seq (.reg false [.W 2 (.asg (.c (.nils 3))),.W 3 (.asg (.c (.nils 3))),.V 4 (.asg (.c (.int .i64 0)))] [0] []) (.seq (.reg false [.V 8 (.mv (.t 0)),.W 9 (.call (.c (.fn 441 [])) [.t 8]),.V 5 (.asg (.t 9))] [5] [9,10000]) (.seq (.reg false [.V 10 (.mv (.t 5)),.W 11 (.call (.c (.fn 470 [])) [.t 10]),.W 6 (.asg (.t 11))] [5,6] [6,9,10000]) (.seq (.reg false [.V 12 (.mv (.t 5)),.W 13 (.call (.c (.fn 470 [])) [.t 12]),.W 7 (.asg (.t 13))] [5,6,7] [6,7,9,10000]) (.seq (.reg false [.V 14 (.mv (.t 6)),.V 15 (.mv (.t 7)),.V 16 (.mv (.t 5)),.W 17 (.call (.c (.fn 469 [])) [.t 16]),.W 2 (.asg (.t 14)),.W 3 (.asg (.t 15)),.V 4 (.asg (.t 17))] [2,3,4] [2,3,6,7]) .ret))))) }
noncomputable def spec_DrawMatchModes_D : List (Nat × Callee) := [(441,spec_l00From_c),(469,spec_l06DrawBudget_c),(470,spec_l16Draw_c)]
def spec_DrawMatchModes_H : List (Nat × ET) := [(2,T_Mode),(3,T_Mode),(6,T_Mode),(7,T_Mode),(8,(.one (.int .u8))),(11,T_Mode),(13,T_Mode),(14,T_Mode),(15,T_Mode)]
noncomputable def spec_DrawMatchModes_c : Callee := mkCallee spec_DrawMatchModes_D spec_DrawMatchModes_H spec_DrawMatchModes_ir [.d (.one (.sl (.one (.int .u8))))] [.tok T_Mode,.tok T_Mode,.d (.one (.int .i64))] []
noncomputable def spec_DrawMatchModes (a0 : List Int) : Option (List T_Mode.ty × List T_Mode.ty × Int) := spec_DrawMatchModes_c.f (a0,())
theorem spec_DrawMatchModes_eq (a0 : List Int) : spec_DrawMatchModes a0 =
 (spec_l00From a0).bind fun x1 =>
  (spec_l16Draw x1).bind fun x2 =>
   (spec_l16Draw (x2.2.1,x2.2.2.1,x2.2.2.2.1,())).bind fun x3 =>
    (spec_l06DrawBudget (x3.2.1,x3.2.2.1,x3.2.2.2.1,())).bind fun x4 =>
     some ((x2.1.take x2.1.length),(x3.1.take x3.1.length),x4.1) :=
 (mk_f _ _ _ _ _ _ _ 4000).trans (by kernel_rfl)
def impl_isDigit_ir : Fn := { np := 1,io := [],res := [.t 2],own := [false],body :=
 (.seq (.reg false [.V 2 (.asg (.c (.bool false)))] [0] []) (.seq (.reg false [.V 3 (.mv (.t 0)),.V 4 (.bin .geq (.t 3) (.c (.int .u8 48))),.V 5 (.mv (.t 4)),.G 6 (.mv (.t 0)) 2 true,.G 7 (.bin .leq (.t 6) (.c (.int .u8 57))) 2 true,.V 8 (.pick (.t 5) (.t 7) (.c (.bool false))),.V 2 (.asg (.t 8))] [2] []) .ret)) }
noncomputable def impl_isDigit_D : List (Nat × Callee) := []
def impl_isDigit_H : List (Nat × ET) := []
noncomputable def impl_isDigit_c : Callee := mkCallee impl_isDigit_D impl_isDigit_H impl_isDigit_ir [.d (.one (.int .u8))] [.d (.one .bool)] []
noncomputable def impl_isDigit (a0 : Int) : Option (Bool) := impl_isDigit_c.f (a0,())
theorem impl_isDigit_eq (a0 : Int) : impl_isDigit a0 =
 if decide (a0 ≥ 48) then
  some (decide (a0 ≤ 57))
 else
  some false :=
 (mk_f _ _ _ _ _ _ _ 4000).trans (by kernel_rfl)
def impl_few_ir : Fn := { np := 2,io := [],res := [.t 4],own := [false],body :=
 (.seq (.reg false [.V 4 (.asg (.c (.bool false)))] [0,1] []) (.seq (.reg false [.V 5 (.mv (.t 0)),.V 6 (.mv (.t 1)),.V 7 (.bin .leq (.t 5) (.t 6)),.V 4 (.asg (.t 7))] [4] []) .ret)) }
noncomputable def impl_few_D : List (Nat × Callee) := []
def impl_few_H : List (Nat × ET) := []
noncomputable def impl_few_c : Callee := mkCallee impl_few_D impl_few_H impl_few_ir [.d (.one (.int .i64)),.d (.one (.int .i64))] [.d (.one .bool)] []
noncomputable def impl_few (a0 : Int) (a1 : Int) : Option (Bool) := impl_few_c.f (a0,a1,())
theorem impl_few_eq (a0 : Int) (a1 : Int) : impl_few a0 a1 =
 some (decide (a0 ≤ a1)) :=
 (mk_f _ _ _ _ _ _ _ 4000).trans (by kernel_rfl)
def impl_IsName_k0 : C :=
 .seq (.reg false [.V 21 (.mv (.t 4)),.V 22 (.un .not (.t 21)),.V 23 (.mv (.t 22)),.G 24 (.mv (.t 3)) 2 true,.G 25 (.bin .eql (.t 24) (.c (.int .i64 0))) 2 true,.G 26 (.mv (.t 25)) 2 true,.G 27 (.mv (.t 0)) 5 false,.G 28 (.mv (.t 3)) 5 false,.G 29 (.ix (.t 27) (.t 28)) 5 false,.G 30 (.call (.c (.fn 22 [])) [.t 29]) 5 false,.G 31 (.un .not (.t 30)) 5 false,.G 32 (.pick (.t 26) (.c (.bool true)) (.t 31)) 2 true,.V 33 (.pick (.t 23) (.t 32) (.c (.bool false)))] [0,3,33] []) (.cond (.t 33) (.seq (.reg false [.V 2 (.asg (.c (.bool false)))] [2] []) .ret) .skip)
def impl_IsName_k1 : C :=
 .reg false [.V 9 (.mv (.t 3)),.V 10 (.bin .add (.t 9) (.c (.int .i64 1))),.V 3 (.asg (.t 10))] [0,3] []
def impl_IsName_k2 : C :=
 .seq (.seq (.reg false [.V 5 (.mv (.t 3)),.V 6 (.mv (.t 0)),.V 7 (.lens (.t 6)),.V 8 (.bin .lss (.t 5) (.t 7))] [0,3,8] []) (.cond (.t 8) .skip (.exit 0))) (.seq (.block 1 (.seq (.reg false [.V 11 (.mv (.t 0)),.V 12 (.mv (.t 3)),.V 13 (.ix (.t 11) (.t 12)),.V 14 (.bin .geq (.t 13) (.c (.int .u8 97))),.V 15 (.mv (.t 14)),.G 16 (.mv (.t 0)) 4 true,.G 17 (.mv (.t 3)) 4 true,.G 18 (.ix (.t 16) (.t 17)) 4 true,.G 19 (.bin .leq (.t 18) (.c (.int .u8 122))) 4 true,.V 20 (.pick (.t 15) (.t 19) (.c (.bool false))),.V 4 (.asg (.t 20))] [0,3,4] []) (.norm [0,3,4] [] impl_IsName_k0))) impl_IsName_k1)
def impl_IsName_k3 : C :=
 .norm [0,3] [] impl_IsName_k2
def impl_IsName_k4 : C :=
 .seq (.reg false [.V 34 (.mv (.t 0)),.V 35 (.bin .neq (.t 34) (.c (.str []))),.V 36 (.mv (.t 35)),.G 37 (.mv (.t 0)) 2 true,.G 38 (.lens (.t 37)) 2 true,.G 39 (.call (.c (.fn 21 [])) [.t 38,.c (.int .i64 10)]) 2 true,.V 40 (.pick (.t 36) (.t 39) (.c (.bool false))),.V 2 (.asg (.t 40))] [2] []) .ret
def impl_IsName_ir : Fn := { np := 1,io := [],res := [.t 2],own := [false],body :=
 (.seq (.reg false [.V 2 (.asg (.c (.bool false)))] [0] []) (.seq (.seq (.reg false [.V 3 (.asg (.c (.int .i64 0)))] [0,3] []) (.block 0 (.loop impl_IsName_k3))) impl_IsName_k4)) }
noncomputable def impl_IsName_D : List (Nat × Callee) := [(21,impl_few_c),(22,impl_isDigit_c)]
def impl_IsName_H : List (Nat × ET) := []
noncomputable def impl_IsName_c : Callee := mkCallee impl_IsName_D impl_IsName_H impl_IsName_ir [.d (.one .str)] [.d (.one .bool)] []
noncomputable def impl_IsName (a0 : List UInt8) : Option (Bool) := impl_IsName_c.f (a0,())
noncomputable def impl_IsName_p0  (v0 : List UInt8) (v3 : Int) : Option (Bool) :=
 goL impl_IsName_D impl_IsName_H (vleave impl_IsName_ir [.d (.one .str)] [.d (.one .bool)] [] []) [.c impl_IsName_k2,.l impl_IsName_k3,.e 0,.c impl_IsName_k4]
  ⟨[(0,.str v0),(3,.int .i64 v3)],[]⟩
noncomputable def impl_IsName_p1  (v0 : List UInt8) (v3 : Int) (v4 : Bool) : Option (Bool) :=
 goL impl_IsName_D impl_IsName_H (vleave impl_IsName_ir [.d (.one .str)] [.d (.one .bool)] [] []) [.c impl_IsName_k0,.e 1,.c impl_IsName_k1,.l impl_IsName_k3,.e 0,.c impl_IsName_k4]
  ⟨[(0,.str v0),(3,.int .i64 v3),(4,.bool v4)],[]⟩
theorem impl_IsName_eq (a0 : List UInt8) : impl_IsName a0 =
 impl_IsName_p0 a0 0 :=
 (mk_f _ _ _ _ _ _ _ 4000).trans (by kernel_rfl)
theorem impl_IsName_p0_eq  (v0 : List UInt8) (v3 : Int) : impl_IsName_p0 v0 v3 =
 if decide (v3 < (v0.length : Int)) then
  if decide (0 ≤ v3) then
   (v0[v3.toNat]?).bind fun x1 =>
    if decide ((x1.toNat : Int) ≥ 97) then
     if decide (0 ≤ v3) then
      (v0[v3.toNat]?).bind fun x2 =>
       impl_IsName_p1 v0 v3 (decide ((x2.toNat : Int) ≤ 122))
     else
      none
    else
     impl_IsName_p1 v0 v3 false
  else
   none
 else
  if (!(v0 == [])) then
   (impl_few (v0.length : Int) 10).bind fun x3 =>
    some x3
  else
   some false :=
 (goL_dn _ _ _ 4000 _ _).trans (by kernel_rfl)
theorem impl_IsName_p1_eq  (v0 : List UInt8) (v3 : Int) (v4 : Bool) : impl_IsName_p1 v0 v3 v4 =
 if (!v4) then
  if (v3 == 0) then
   some false
  else
   if decide (0 ≤ v3) then
    (v0[v3.toNat]?).bind fun x1 =>
     (impl_isDigit (x1.toNat : Int)).bind fun x2 =>
      if (!x2) then
       some false
      else
       impl_IsName_p0 v0 (IntKind.i64.wrap (v3 + 1))
   else
    none
 else
  impl_IsName_p0 v0 (IntKind.i64.wrap (v3 + 1)) :=
 (goL_dn _ _ _ 4000 _ _).trans (by kernel_rfl)
def impl_within_ir : Fn := { np := 3,io := [],res := [.t 6],own := [false],body :=
 (.seq (.reg false [.V 6 (.asg (.c (.bool false)))] [0,1,2] []) (.seq (.reg false [.V 7 (.mv (.t 1)),.V 8 (.mv (.t 0)),.V 9 (.bin .leq (.t 7) (.t 8)),.V 10 (.mv (.t 9)),.G 11 (.mv (.t 0)) 3 true,.G 12 (.mv (.t 2)) 3 true,.G 13 (.bin .leq (.t 11) (.t 12)) 3 true,.V 14 (.pick (.t 10) (.t 13) (.c (.bool false))),.V 6 (.asg (.t 14))] [6] []) .ret)) }
noncomputable def impl_within_D : List (Nat × Callee) := []
def impl_within_H : List (Nat × ET) := []
noncomputable def impl_within_c : Callee := mkCallee impl_within_D impl_within_H impl_within_ir [.d (.one (.int .i64)),.d (.one (.int .i64)),.d (.one (.int .i64))] [.d (.one .bool)] []
noncomputable def impl_within (a0 : Int) (a1 : Int) (a2 : Int) : Option (Bool) := impl_within_c.f (a0,a1,a2,())
theorem impl_within_eq (a0 : Int) (a1 : Int) (a2 : Int) : impl_within a0 a1 a2 =
 if decide (a1 ≤ a0) then
  some (decide (a0 ≤ a2))
 else
  some false :=
 (mk_f _ _ _ _ _ _ _ 4000).trans (by kernel_rfl)
def impl_isTone_ir : Fn := { np := 1,io := [],res := [.t 2],own := [false],body :=
 (.seq (.reg false [.V 2 (.asg (.c (.bool false)))] [0] []) (.seq (.reg false [.V 3 (.mv (.t 0)),.V 4 (.call (.c (.fn 23 [])) [.t 3,.c (.int .i64 1000),.c (.int .i64 100000)]),.V 2 (.asg (.t 4))] [2] []) .ret)) }
noncomputable def impl_isTone_D : List (Nat × Callee) := [(23,impl_within_c)]
def impl_isTone_H : List (Nat × ET) := []
noncomputable def impl_isTone_c : Callee := mkCallee impl_isTone_D impl_isTone_H impl_isTone_ir [.d (.one (.int .i64))] [.d (.one .bool)] []
noncomputable def impl_isTone (a0 : Int) : Option (Bool) := impl_isTone_c.f (a0,())
theorem impl_isTone_eq (a0 : Int) : impl_isTone a0 =
 (impl_within a0 1000 100000).bind fun x1 =>
  some x1 :=
 (mk_f _ _ _ _ _ _ _ 4000).trans (by kernel_rfl)
def impl_Mode_valid_ir : Fn := { np := 1,io := [],res := [.t 2],own := [false],body :=
 (.seq (.reg false [.W 1 (.box 3 (.t 0)),.V 2 (.asg (.c (.bool false)))] [1] [1]) (.seq (.reg false [.V 3 (.fa 0 (.t 1)),.V 4 (.ld none (.t 3)),.V 5 (.call (.c (.fn 24 [])) [.t 4]),.V 6 (.mv (.t 5)),.G 7 (.fa 1 (.t 1)) 3 true,.G 8 (.ld none (.t 7)) 3 true,.G 9 (.call (.c (.fn 545 [])) [.t 8]) 3 true,.V 10 (.pick (.t 6) (.t 9) (.c (.bool false))),.V 11 (.mv (.t 10)),.G 12 (.fa 2 (.t 1)) 8 true,.G 13 (.ld none (.t 12)) 8 true,.G 14 (.call (.c (.fn 23 [])) [.t 13,.c (.int .i64 1),.c (.int .i64 500)]) 8 true,.V 15 (.pick (.t 11) (.t 14) (.c (.bool false))),.V 2 (.asg (.t 15))] [2] []) .ret)) }
noncomputable def impl_Mode_valid_D : List (Nat × Callee) := [(23,impl_within_c),(24,impl_IsName_c),(545,impl_isTone_c)]
def impl_Mode_valid_H : List (Nat × ET) := []
noncomputable def impl_Mode_valid_c : Callee := mkCallee impl_Mode_valid_D impl_Mode_valid_H impl_Mode_valid_ir [.d T_Mode] [.d (.one .bool)] []
noncomputable def impl_Mode_valid (a0 : T_Mode.ty) : Option (Bool) := impl_Mode_valid_c.f (a0,())
theorem impl_Mode_valid_eq (a0 : T_Mode.ty) : impl_Mode_valid a0 =
 (impl_IsName a0.1).bind fun x1 =>
  if x1 then
   (impl_isTone a0.2.1).bind fun x2 =>
    if x2 then
     (impl_within a0.2.2.1 1 500).bind fun x3 =>
      some x3
    else
     some false
  else
   some false :=
 (mk_f _ _ _ _ _ _ _ 4000).trans (by kernel_rfl)
def impl_ValidModes_k0 : C :=
 .seq (.reg false [.V 8 (.bin .lss (.t 7) (.t 6))] [0,5,6,7,8] []) (.seq (.cond (.t 8) .skip (.exit 0)) (.seq (.block 1 (.seq (.reg false [.V 9 (.mv (.t 7)),.V 10 (.ia 3 (.t 5) (.t 7)),.V 11 (.ld (some 3) (.t 10)),.W 4 (.alloc 3 (.agg [.str [],.int .i64 0,.int .i64 0])),.V 3 (.asg (.t 9)),⟨none,true,.sto 3 (.t 4) (.t 11),none,false,[]⟩] [0,3,4,5,6,7] [4]) (.seq (.reg true [.V 12 (.ld (some 3) (.t 4)),.V 13 (.call (.c (.fn 551 [])) [.t 12]),.V 14 (.un .not (.t 13)),.V 15 (.mv (.t 14)),.G 16 (.mv (.t 3)) 3 false,.G 17 (.bin .gtr (.t 16) (.c (.int .i64 0))) 3 false,.G 18 (.mv (.t 17)) 3 false,.G 19 (.mv (.t 0)) 6 true,.G 20 (.mv (.t 3)) 6 true,.G 21 (.bin .sub (.t 20) (.c (.int .i64 1))) 6 true,.G 22 (.ia 3 (.t 19) (.t 21)) 6 true,.G 23 (.fa 0 (.t 22)) 6 true,.G 24 (.ld none (.t 23)) 6 true,.G 25 (.fa 0 (.t 4)) 6 true,.G 26 (.ld none (.t 25)) 6 true,.G 27 (.bin .geq (.t 24) (.t 26)) 6 true,.G 28 (.pick (.t 18) (.t 27) (.c (.bool false))) 3 false,.V 29 (.pick (.t 15) (.c (.bool true)) (.t 28))] [0,5,6,7,29] []) (.cond (.t 29) (.seq (.reg false [.V 2 (.asg (.c (.bool false)))] [2] []) .ret) .skip)))) (.reg false [.V 30 (.bin .add (.t 7) (.c (.int .i64 1))),.V 7 (.mv (.t 30))] [0,5,6,7] [])))
def impl_ValidModes_k1 : C :=
 .norm [0,5,6,7] [] impl_ValidModes_k0
def impl_ValidModes_k2 : C :=
 .seq (.reg false [.V 31 (.mv (.t 0)),.V 32 (.len (.t 31)),.V 33 (.call (.c (.fn 21 [])) [.t 32,.c (.int .i64 10)]),.V 2 (.asg (.t 33))] [2] []) .ret
def impl_ValidModes_ir : Fn := { np := 1,io := [],res := [.t 2],own := [false],body :=
 (.seq (.reg false [.V 2 (.asg (.c (.bool false)))] [0] []) (.seq (.seq (.reg false [.V 5 (.mv (.t 0)),.V 6 (.len (.t 5)),.V 7 (.mv (.c (.int .i64 0)))] [0,5,6,7] []) (.block 0 (.loop impl_ValidModes_k1))) impl_ValidModes_k2)) }
noncomputable def impl_ValidModes_D : List (Nat × Callee) := [(21,impl_few_c),(551,impl_Mode_valid_c)]
def impl_ValidModes_H : List (Nat × ET) := [(5,T_Mode),(19,T_Mode),(31,T_Mode)]
noncomputable def impl_ValidModes_c : Callee := mkCallee impl_ValidModes_D impl_ValidModes_H impl_ValidModes_ir [.d (.one (.sl T_Mode))] [.d (.one .bool)] []
noncomputable def impl_ValidModes (a0 : List T_Mode.ty) : Option (Bool) := impl_ValidModes_c.f (a0,())
noncomputable def impl_ValidModes_p0  (v0 : List T_Mode.ty) (v5 : List T_Mode.ty) (v6 : Int) (v7 : Int) : Option (Bool) :=
 goL impl_ValidModes_D impl_ValidModes_H (vleave impl_ValidModes_ir [.d (.one (.sl T_Mode))] [.d (.one .bool)] [] []) [.c impl_ValidModes_k0,.l impl_ValidModes_k1,.e 0,.c impl_ValidModes_k2]
  ⟨[(0,.sl T_Mode v0),(5,.sl T_Mode v5),(6,.int .i64 v6),(7,.int .i64 v7)],[]⟩
theorem impl_ValidModes_eq (a0 : List T_Mode.ty) : impl_ValidModes a0 =
 impl_ValidModes_p0 a0 a0 (a0.length : Int) 0 :=
 (mk_f _ _ _ _ _ _ _ 4000).trans (by kernel_rfl)
theorem impl_ValidModes_p0_eq  (v0 : List T_Mode.ty) (v5 : List T_Mode.ty) (v6 : Int) (v7 : Int) : impl_ValidModes_p0 v0 v5 v6 v7 =
 if decide (v7 < v6) then
  if decide (0 ≤ v7) then
   (v5[v7.toNat]?).bind fun x1 =>
    (impl_Mode_valid x1).bind fun x2 =>
     if (!x2) then
      some false
     else
      if decide (v7 > 0) then
       if decide (0 ≤ IntKind.i64.wrap (v7 - 1)) then
        (v0[(IntKind.i64.wrap (v7 - 1)).toNat]?).bind fun x3 =>
         if (!Op.bytesLess x3.1 x1.1) then
          some false
         else
          impl_ValidModes_p0 v0 v5 v6 (IntKind.i64.wrap (v7 + 1))
       else
        none
      else
       impl_ValidModes_p0 v0 v5 v6 (IntKind.i64.wrap (v7 + 1))
  else
   none
 else
  (impl_few (v0.length : Int) 10).bind fun x4 =>
   some x4 :=
 (goL_dn _ _ _ 4000 _ _).trans (by kernel_rfl)
def impl_clone_int64__ir : Fn := { np := 1,io := [],res := [.t 2],own := [true],body :=
 (.seq (.reg false [.W 2 (.asg (.c (.nils 1)))] [0] []) (.seq (.reg false [.V 3 (.mv (.t 0)),.V 4 (.len (.t 3)),.V 5 (.mks 1 8 (.int .i64 0) (.c (.int .i64 0)) (.t 4)),.V 6 (.mv (.t 0)),.W 7 (.app 1 8 (.t 5) (.t 6)),.W 2 (.asg (.t 7))] [2] [2]) .ret)) }
noncomputable def impl_clone_int64__D : List (Nat × Callee) := []
def impl_clone_int64__H : List (Nat × ET) := [(2,(.one (.int .i64))),(3,(.one (.int .i64))),(5,(.one (.int .i64))),(6,(.one (.int .i64))),(7,(.one (.int .i64)))]
noncomputable def impl_clone_int64__c : Callee := mkCallee impl_clone_int64__D impl_clone_int64__H impl_clone_int64__ir [.d (.one (.sl (.one (.int .i64))))] [.tok (.one (.int .i64))] []
noncomputable def impl_clone_int64_ (a0 : List Int) : Option (List Int) := impl_clone_int64__c.f (a0,())
theorem impl_clone_int64__eq (a0 : List Int) : impl_clone_int64_ a0 =
 if decide (0 ≤ (a0.length : Int)) && decide ((a0.length : Int).toNat < lim) then
  if decide (0 + a0.length < lim) then
   some (([] ++ a0).take (([] ++ a0).length))
  else
   none
 else
  none :=
 (mk_f _ _ _ _ _ _ _ 4000).trans (by kernel_rfl)
def impl_distance_ir : Fn := { np := 2,io := [],res := [.t 4],own := [false],body :=
 (.seq (.reg false [.V 4 (.asg (.c (.int .i64 0)))] [0,1] []) (.seq (.reg false [.V 5 (.mv (.t 0)),.V 6 (.mv (.t 1)),.V 7 (.bin .sub (.t 5) (.t 6)),.V 8 (.mv (.t 1)),.V 9 (.mv (.t 0)),.V 10 (.bin .sub (.t 8) (.t 9)),.V 11 (.max [.t 7,.t 10]),.V 4 (.asg (.t 11))] [4] []) .ret)) }
noncomputable def impl_distance_D : List (Nat × Callee) := []
def impl_distance_H : List (Nat × ET) := []
noncomputable def impl_distance_c : Callee := mkCallee impl_distance_D impl_distance_H impl_distance_ir [.d (.one (.int .i64)),.d (.one (.int .i64))] [.d (.one (.int .i64))] []
noncomputable def impl_distance (a0 : Int) (a1 : Int) : Option (Int) := impl_distance_c.f (a0,a1,())
theorem impl_distance_eq (a0 : Int) (a1 : Int) : impl_distance a0 a1 =
 some (if IntKind.i64.wrap (a1 - a0) > IntKind.i64.wrap (a0 - a1) then IntKind.i64.wrap (a1 - a0) else IntKind.i64.wrap (a0 - a1)) :=
 (mk_f _ _ _ _ _ _ _ 4000).trans (by kernel_rfl)
def impl_matching_search_k0 : C :=
 .reg true [.V 36 (.mv (.t 0)),.V 37 (.mv (.t 0)),.V 38 (.mv (.t 0)),.V 39 (.mv (.t 0)),.V 40 (.nilck (.t 39)),.V 41 (.fa 4 (.t 40)),.V 42 (.ld none (.t 41)),.V 43 (.call (.c (.fn 624 [])) [.t 42]),.V 44 (.mv (.t 0)),.V 45 (.nilck (.t 44)),.V 46 (.fa 5 (.t 45)),.V 47 (.ld none (.t 46)),.V 48 (.nilck (.t 36)),.V 49 (.fa 6 (.t 48)),⟨none,true,.sto 1 (.t 49) (.t 43),none,true,[0]⟩,.V 50 (.nilck (.t 37)),.V 51 (.fa 7 (.t 50)),⟨none,true,.sto 1 (.t 51) (.t 47),none,true,[0]⟩,.V 52 (.nilck (.t 38)),.V 53 (.fa 8 (.t 52)),⟨none,true,.sto 1 (.t 53) (.c (.bool true)),none,false,[]⟩] [0] [0,1000,1001,1002,1004,1006]
def impl_matching_search_k1 : C :=
 .seq (.reg false [.V 2 (.asg (.c (.bool true)))] [0,2] [0,1000,1001,1002,1004,1006]) .ret
def impl_matching_search_k2 : C :=
 .seq (.reg false [.V 60 (.bin .lss (.t 59) (.t 58))] [0,3,57,58,59,60] [0,1000,1001,1002,1004,1006]) (.seq (.cond (.t 60) .skip (.exit 0)) (.seq (.block 1 (.seq (.reg false [.V 61 (.mv (.t 59)),.V 62 (.ia 3 (.t 57) (.t 59)),.V 63 (.ld (some 3) (.t 62)),.W 5 (.alloc 3 (.agg [.str [],.int .i64 0,.int .i64 0])),.V 4 (.asg (.t 61)),⟨none,true,.sto 3 (.t 5) (.t 63),none,false,[]⟩] [0,3,4,5,57,58,59] [0,5,1000,1001,1002,1004,1006]) (.seq (.seq (.reg false [.V 64 (.mv (.t 0)),.V 65 (.nilck (.t 64)),.V 66 (.fa 2 (.t 65)),.V 67 (.ld none (.t 66)),.V 68 (.mv (.t 4)),.V 69 (.ia 1 (.t 67) (.t 68)),.V 70 (.ld none (.t 69))] [0,3,4,5,57,58,59,70] [0,5,1000,1001,1002,1004,1006]) (.cond (.t 70) (.exit 1) .skip)) (.seq (.seq (.reg false [.V 71 (.mv (.t 0)),.V 72 (.nilck (.t 71)),.V 73 (.fa 3 (.t 72)),.V 74 (.ld none (.t 73)),.V 75 (.bin .eql (.t 74) (.c (.int .i64 0)))] [0,3,4,5,57,58,59,75] [0,5,1000,1001,1002,1004,1006]) (.cond (.t 75) (.seq (.reg false [.V 2 (.asg (.c (.bool false)))] [0,2] [0,1000,1001,1002,1004,1006]) .ret) .skip)) (.seq (.reg false [.V 76 (.mv (.t 0)),.V 77 (.nilck (.t 76)),.V 78 (.fa 3 (.t 77)),.V 79 (.ld none (.t 78)),.V 80 (.bin .sub (.t 79) (.c (.int .i64 1))),.V 81 (.nilck (.t 76)),.V 82 (.fa 3 (.t 81)),⟨none,true,.sto 1 (.t 82) (.t 80),none,false,[]⟩] [0,3,4,5,57,58,59] [0,5,1000,1001,1002,1004,1006]) (.seq (.reg true [.V 83 (.mv (.t 0)),.V 84 (.nilck (.t 83)),.V 85 (.fa 0 (.t 84)),.V 86 (.ld none (.t 85)),.V 87 (.mv (.t 3)),.V 88 (.ia 3 (.t 86) (.t 87)),.V 89 (.fa 1 (.t 88)),.V 90 (.ld none (.t 89)),.V 91 (.fa 1 (.t 5)),.V 92 (.ld none (.t 91)),.V 93 (.call (.c (.fn 448 [])) [.t 90,.t 92]),.V 6 (.asg (.t 93))] [0,3,4,6,57,58,59] [0,1000,1001,1002,1004,1006]) (.seq (.reg true [⟨some 94,false,.mv (.t 0),none,false,[1000000,1000001,1000002]⟩,⟨some 95,false,.nilck (.t 94),none,false,[1000000,1000001,1000002]⟩,⟨some 96,false,.fa 2 (.t 95),none,false,[1000000,1000001,1000002]⟩,⟨some 97,false,.ld none (.t 96),none,false,[1000000,1000001,1000002]⟩,⟨some 98,false,.mv (.t 4),none,false,[1000000,1000001,1000002]⟩,⟨some 99,false,.mv (.t 0),none,false,[1000000,1000001,1000002]⟩,⟨some 100,false,.mv (.t 0),none,false,[1000000,1000001,1000002]⟩,.V 101 (.mv (.t 0)),.V 102 (.nilck (.t 101)),.V 103 (.fa 4 (.t 102)),.V 104 (.ld none (.t 103)),.V 105 (.mv (.t 4)),.V 106 (.bsl 1 (.int .i64 0) 1 [(0,.t 105)]),⟨some 107,true,.app 1 8 (.t 104) (.t 106),none,true,[0,4,6,94,95,96,97,98,99,100,108,109,110,111,112,113]⟩,⟨some 108,false,.mv (.t 0),none,false,[1000000,1000001,1000002]⟩,⟨some 109,false,.nilck (.t 108),none,false,[1000000,1000001,1000002]⟩,⟨some 110,false,.fa 5 (.t 109),none,false,[1000000,1000001,1000002]⟩,⟨some 111,false,.ld none (.t 110),none,false,[1000000,1000001,1000002]⟩,⟨some 112,false,.mv (.t 6),none,false,[1000000,1000001,1000002]⟩,⟨some 113,false,.bin .add (.t 111) (.t 112),none,true,[1000000,1000001,1000002]⟩,.V 114 (.ia 1 (.t 97) (.t 98)),⟨none,true,.sto 1 (.t 114) (.c (.bool true)),none,true,[0,6,99,100,111,112,113]⟩,.V 115 (.nilck (.t 99)),.V 116 (.fa 4 (.t 115)),⟨none,true,.sto 1 (.t 116) (.t 107),none,true,[0,6,100,111,112,113]⟩,.V 117 (.nilck (.t 100)),.V 118 (.fa 5 (.t 117)),⟨none,true,.sto 1 (.t 118) (.t 113),none,false,[]⟩] [0,3,4,6,57,58,59] [0,1000,1001,1002,1004,1006]) (.seq (.reg false [.V 119 (.mv (.t 0)),.W 120 (.call (.c (.fn 471 [])) [.t 119]),.V 7 (.asg (.t 120))] [0,3,4,6,7,57,58,59] [0,1000,1001,1002,1004,1006]) (.seq (.reg true [.V 121 (.mv (.t 0)),.V 122 (.nilck (.t 121)),.V 123 (.fa 2 (.t 122)),.V 124 (.ld none (.t 123)),.V 125 (.mv (.t 4)),.V 126 (.mv (.t 0)),.V 127 (.mv (.t 0)),.V 128 (.mv (.t 0)),.V 129 (.nilck (.t 128)),.V 130 (.fa 4 (.t 129)),.V 131 (.ld none (.t 130)),⟨some 132,false,.mv (.t 3),none,false,[1000000]⟩,.V 133 (.slc 1 (.t 131) none (some (.t 132))),.V 134 (.mv (.t 0)),.V 135 (.nilck (.t 134)),.V 136 (.fa 5 (.t 135)),.V 137 (.ld none (.t 136)),⟨some 138,false,.mv (.t 6),none,false,[1000000]⟩,⟨some 139,false,.bin .sub (.t 137) (.t 138),none,true,[]⟩,.V 140 (.ia 1 (.t 124) (.t 125)),⟨none,true,.sto 1 (.t 140) (.c (.bool false)),none,true,[0,3,6,131,132,137,138]⟩,.V 141 (.nilck (.t 126)),.V 142 (.fa 4 (.t 141)),⟨none,true,.sto 1 (.t 142) (.t 133),none,true,[0,6,137,138]⟩,.V 143 (.nilck (.t 127)),.V 144 (.fa 5 (.t 143)),⟨none,true,.sto 1 (.t 144) (.t 139),none,false,[]⟩] [0,3,7,57,58,59] [0,1000,1001,1002,1004,1006]) (.seq (.reg false [.V 145 (.mv (.t 7)),.V 146 (.un .not (.t 145))] [0,3,57,58,59,146] [0,1000,1001,1002,1004,1006]) (.cond (.t 146) (.seq (.reg false [.V 2 (.asg (.c (.bool false)))] [0,2] [0,1000,1001,1002,1004,1006]) .ret) .skip))))))))))) (.reg false [.V 147 (.bin .add (.t 59) (.c (.int .i64 1))),.V 59 (.mv (.t 147))] [0,3,57,58,59] [0,1000,1001,1002,1004,1006])))
def impl_matching_search_k3 : C :=
 .norm [0,3,57,58,59] [0,1000,1001,1002,1004,1006] impl_matching_search_k2
def impl_matching_search_k4 : C :=
 .seq (.reg false [.V 2 (.asg (.c (.bool true)))] [0,2] [0,1000,1001,1002,1004,1006]) .ret
def impl_matching_search_k5 : C :=
 .seq (.seq (.reg false [.V 54 (.mv (.t 0)),.V 55 (.nilck (.t 54)),.V 56 (.fa 1 (.t 55)),.V 57 (.ld none (.t 56)),.V 58 (.len (.t 57)),.V 59 (.mv (.c (.int .i64 0)))] [0,3,57,58,59] [0,1000,1001,1002,1004,1006]) (.block 0 (.loop impl_matching_search_k3))) impl_matching_search_k4
def impl_matching_search_ir : Fn := { np := 1,io := [true],res := [.t 2],own := [false],body :=
 (.seq (.reg false [.V 2 (.asg (.c (.bool false)))] [0] [0,1000,1001,1002,1004,1006]) (.seq (.reg false [.V 8 (.mv (.t 0)),.V 9 (.nilck (.t 8)),.V 10 (.fa 4 (.t 9)),.V 11 (.ld none (.t 10)),.V 12 (.len (.t 11)),.V 3 (.asg (.t 12))] [0,3] [0,1000,1001,1002,1004,1006]) (.seq (.seq (.reg false [.V 13 (.mv (.t 3)),.V 14 (.mv (.t 0)),.V 15 (.nilck (.t 14)),.V 16 (.fa 0 (.t 15)),.V 17 (.ld none (.t 16)),.V 18 (.len (.t 17)),.V 19 (.bin .eql (.t 13) (.t 18))] [0,3,19] [0,1000,1001,1002,1004,1006]) (.cond (.t 19) (.seq (.seq (.reg true [.V 20 (.mv (.t 0)),.V 21 (.nilck (.t 20)),.V 22 (.fa 8 (.t 21)),.V 23 (.ld none (.t 22)),.V 24 (.un .not (.t 23)),.V 25 (.mv (.t 24)),.G 26 (.mv (.t 0)) 5 false,.G 27 (.nilck (.t 26)) 5 false,.G 28 (.fa 5 (.t 27)) 5 false,.G 29 (.ld none (.t 28)) 5 false,.G 30 (.mv (.t 0)) 5 false,.G 31 (.nilck (.t 30)) 5 false,.G 32 (.fa 7 (.t 31)) 5 false,.G 33 (.ld none (.t 32)) 5 false,.G 34 (.bin .lss (.t 29) (.t 33)) 5 false,.V 35 (.pick (.t 25) (.c (.bool true)) (.t 34))] [0,35] [0,1000,1001,1002,1004,1006]) (.cond (.t 35) (.norm [0] [0,1000,1001,1002,1004,1006] impl_matching_search_k0) .skip)) impl_matching_search_k1) .skip)) impl_matching_search_k5))) }
def impl_matching_search_H : List (Nat × ET) := [(11,(.one (.int .i64))),(17,T_Mode),(42,(.one (.int .i64))),(43,(.one (.int .i64))),(57,T_Mode),(67,(.one .bool)),(86,T_Mode),(97,(.one .bool)),(104,(.one (.int .i64))),(106,(.one (.int .i64))),(107,(.one (.int .i64))),(124,(.one .bool)),(131,(.one (.int .i64))),(133,(.one (.int .i64)))]
noncomputable def impl_matching_search_F : Nat → tysU [.box T_matchingO] → Option (tys1 ([.d (.one .bool)] ++ [.box T_matchingO]))
 | 0 => fun _ => none
 | n + 1 => (mkCallee [(448,impl_distance_c),(471,⟨[true],[.box T_matchingO],[.d (.one .bool)],[.box T_matchingO],impl_matching_search_F n⟩),(624,impl_clone_int64__c)] impl_matching_search_H impl_matching_search_ir [.box T_matchingO] [.d (.one .bool)] [.box T_matchingO]).f
noncomputable def impl_matching_search_D (n : Nat) : List (Nat × Callee) := [(448,impl_distance_c),(471,⟨[true],[.box T_matchingO],[.d (.one .bool)],[.box T_matchingO],impl_matching_search_F n⟩),(624,impl_clone_int64__c)]
noncomputable def impl_matching_search_c : Callee := ⟨[true],[.box T_matchingO],[.d (.one .bool)],[.box T_matchingO],impl_matching_search_F 1000⟩
noncomputable def impl_matching_search_N (n : Nat) : Callee := ⟨[true],[.box T_matchingO],[.d (.one .bool)],[.box T_matchingO],impl_matching_search_F n⟩
theorem impl_matching_search_N_eq (n : Nat) : impl_matching_search_N (n + 1) = mkCallee (impl_matching_search_D n) impl_matching_search_H impl_matching_search_ir [.box T_matchingO] [.d (.one .bool)] [.box T_matchingO] := rfl
noncomputable def impl_matching_search (n : Nat) (a0 : T_matchingO.ty) : Option (Bool × T_matchingO.ty) := impl_matching_search_F n (a0,())
noncomputable def impl_matching_search_p0 (n : Nat)  (r0_0 : List T_Mode.ty) (r0_1 : List T_Mode.ty) (r0_3 : Int) (r0_5 : Int) (r0_7 : Int) (r0_8 : Bool) (r1002 : List Bool) (r1004 : List Int) (r1006 : List Int) : Option (Bool × T_matchingO.ty) :=
 goL (impl_matching_search_D n) impl_matching_search_H (vleave impl_matching_search_ir [.box T_matchingO] [.d (.one .bool)] [.box T_matchingO] []) [.c impl_matching_search_k0,.c impl_matching_search_k1,.c impl_matching_search_k5]
  ⟨[(0,.loc 0 0 0)],[(0,some (.var 9 (.agg [.sl T_Mode r0_0,.sl T_Mode r0_1,.view 1002 0 r1002.length,.int .i64 r0_3,.view 1004 0 r1004.length,.int .i64 r0_5,.view 1006 0 r1006.length,.int .i64 r0_7,.bool r0_8]))),(1000,none),(1001,none),(1002,some (.sl (.one .bool) r1002)),(1004,some (.sl (.one (.int .i64)) r1004)),(1006,some (.sl (.one (.int .i64)) r1006))]⟩
noncomputable def impl_matching_search_p1 (n : Nat)  (v3 : Int) (v57 : List T_Mode.ty) (v58 : Int) (v59 : Int) (r0_0 : List T_Mode.ty) (r0_1 : List T_Mode.ty) (r0_2n : Nat) (r0_3 : Int) (r0_4n : Nat) (r0_5 : Int) (r0_7 : Int) (r0_8 : Bool) (r1002 : List Bool) (r1004 : List Int) (r1006 : List Int) : Option (Bool × T_matchingO.ty) :=
 goL (impl_matching_search_D n) impl_matching_search_H (vleave impl_matching_search_ir [.box T_matchingO] [.d (.one .bool)] [.box T_matchingO] []) [.c impl_matching_search_k2,.l impl_matching_search_k3,.e 0,.c impl_matching_search_k4]
  ⟨[(0,.loc 0 0 0),(3,.int .i64 v3),(57,.sl T_Mode v57),(58,.int .i64 v58),(59,.int .i64 v59)],[(0,some (.var 9 (.agg [.sl T_Mode r0_0,.sl T_Mode r0_1,.view 1002 0 r0_2n,.int .i64 r0_3,.view 1004 0 r0_4n,.int .i64 r0_5,.view 1006 0 r1006.length,.int .i64 r0_7,.bool r0_8]))),(1000,none),(1001,none),(1002,some (.sl (.one .bool) r1002)),(1004,some (.sl (.one (.int .i64)) r1004)),(1006,some (.sl (.one (.int .i64)) r1006))]⟩
theorem impl_matching_search_eq (n : Nat) (a0 : T_matchingO.ty) : impl_matching_search (n + 1) a0 =
 if ((a0.2.2.2.2.1.length : Int) == (a0.1.length : Int)) then
  if (!a0.2.2.2.2.2.2.2.2.1) then
   impl_matching_search_p0 n a0.1 a0.2.1 a0.2.2.2.1 a0.2.2.2.2.2.1 a0.2.2.2.2.2.2.2.1 a0.2.2.2.2.2.2.2.2.1 a0.2.2.1 a0.2.2.2.2.1 a0.2.2.2.2.2.2.1
  else
   if decide (a0.2.2.2.2.2.1 < a0.2.2.2.2.2.2.2.1) then
    impl_matching_search_p0 n a0.1 a0.2.1 a0.2.2.2.1 a0.2.2.2.2.2.1 a0.2.2.2.2.2.2.2.1 a0.2.2.2.2.2.2.2.2.1 a0.2.2.1 a0.2.2.2.2.1 a0.2.2.2.2.2.2.1
   else
    some (true,(a0.1,a0.2.1,(a0.2.2.1.take a0.2.2.1.length),a0.2.2.2.1,(a0.2.2.2.2.1.take a0.2.2.2.2.1.length),a0.2.2.2.2.2.1,(a0.2.2.2.2.2.2.1.take a0.2.2.2.2.2.2.1.length),a0.2.2.2.2.2.2.2.1,a0.2.2.2.2.2.2.2.2.1,()))
 else
  impl_matching_search_p1 n (a0.2.2.2.2.1.length : Int) a0.2.1 (a0.2.1.length : Int) 0 a0.1 a0.2.1 a0.2.2.1.length a0.2.2.2.1 a0.2.2.2.2.1.length a0.2.2.2.2.2.1 a0.2.2.2.2.2.2.2.1 a0.2.2.2.2.2.2.2.2.1 a0.2.2.1 a0.2.2.2.2.1 a0.2.2.2.2.2.2.1 :=
 (mk_f (impl_matching_search_D n) impl_matching_search_H impl_matching_search_ir [.box T_matchingO] [.d (.one .bool)] [.box T_matchingO] (a0,()) 4000).trans (by kernel_rfl)
theorem impl_matching_search_p0_eq (n : Nat)  (r0_0 : List T_Mode.ty) (r0_1 : List T_Mode.ty) (r0_3 : Int) (r0_5 : Int) (r0_7 : Int) (r0_8 : Bool) (r1002 : List Bool) (r1004 : List Int) (r1006 : List Int) : impl_matching_search_p0 n r0_0 r0_1 r0_3 r0_5 r0_7 r0_8 r1002 r1004 r1006 =
 (impl_clone_int64_ (r1004.take r1004.length)).bind fun x1 =>
  some (true,(r0_0,r0_1,(r1002.take r1002.length),r0_3,(r1004.take r1004.length),r0_5,(x1.take x1.length),r0_5,true,())) :=
 (goL_dn _ _ _ 4000 _ _).trans (by kernel_rfl)
theorem impl_matching_search_p1_eq (n : Nat)  (v3 : Int) (v57 : List T_Mode.ty) (v58 : Int) (v59 : Int) (r0_0 : List T_Mode.ty) (r0_1 : List T_Mode.ty) (r0_2n : Nat) (r0_3 : Int) (r0_4n : Nat) (r0_5 : Int) (r0_7 : Int) (r0_8 : Bool) (r1002 : List Bool) (r1004 : List Int) (r1006 : List Int) : impl_matching_search_p1 n v3 v57 v58 v59 r0_0 r0_1 r0_2n r0_3 r0_4n r0_5 r0_7 r0_8 r1002 r1004 r1006 =
 if decide (v59 < v58) then
  if decide (0 ≤ v59) then
   (v57[v59.toNat]?).bind fun x1 =>
    if decide (0 ≤ v59) && decide (v59 < (r0_2n : Int)) then
     (r1002[v59.toNat]?).bind fun x2 =>
      if x2 then
       impl_matching_search_p1 n v3 v57 v58 (IntKind.i64.wrap (v59 + 1)) r0_0 r0_1 r0_2n r0_3 r0_4n r0_5 r0_7 r0_8 r1002 r1004 r1006
      else
       if (r0_3 == 0) then
        some (false,(r0_0,r0_1,(r1002.take r0_2n),r0_3,(r1004.take r0_4n),r0_5,(r1006.take r1006.length),r0_7,r0_8,()))
       else
        if decide (0 ≤ v3) then
         (r0_0[v3.toNat]?).bind fun x3 =>
          (impl_distance x3.2.1 x1.2.1).bind fun x4 =>
           if decide (r0_4n + 1 < lim) then
            if decide (0 ≤ v59) && decide (v59 < (r0_2n : Int)) then
             (r1002[v59.toNat]?).bind fun x5 =>
              (impl_matching_search n (r0_0,r0_1,((r1002.set v59.toNat true).take r0_2n),IntKind.i64.wrap (r0_3 - 1),(((r1004.take r0_4n) ++ [v59]).take (((r1004.take r0_4n) ++ [v59]).length)),IntKind.i64.wrap (r0_5 + x4),(r1006.take r1006.length),r0_7,r0_8,())).bind fun x6 =>
               if decide (0 ≤ v3) && decide (v3 ≤ (x6.2.2.2.2.2.1.length : Int)) then
                if decide (0 ≤ v59) && decide (v59 < (x6.2.2.2.1.length : Int)) then
                 (x6.2.2.2.1[v59.toNat]?).bind fun x7 =>
                  if (!x6.1) then
                   some (false,(x6.2.1,x6.2.2.1,((x6.2.2.2.1.set v59.toNat false).take x6.2.2.2.1.length),x6.2.2.2.2.1,(x6.2.2.2.2.2.1.take v3.toNat),IntKind.i64.wrap (x6.2.2.2.2.2.2.1 - x4),(x6.2.2.2.2.2.2.2.1.take x6.2.2.2.2.2.2.2.1.length),x6.2.2.2.2.2.2.2.2.1,x6.2.2.2.2.2.2.2.2.2.1,()))
                  else
                   impl_matching_search_p1 n v3 v57 v58 (IntKind.i64.wrap (v59 + 1)) x6.2.1 x6.2.2.1 x6.2.2.2.1.length x6.2.2.2.2.1 v3.toNat (IntKind.i64.wrap (x6.2.2.2.2.2.2.1 - x4)) x6.2.2.2.2.2.2.2.2.1 x6.2.2.2.2.2.2.2.2.2.1 (x6.2.2.2.1.set v59.toNat false) x6.2.2.2.2.2.1 x6.2.2.2.2.2.2.2.1
                else
                 none
               else
                none
            else
             none
           else
            none
        else
         none
    else
     none
  else
   none
 else
  some (true,(r0_0,r0_1,(r1002.take r0_2n),r0_3,(r1004.take r0_4n),r0_5,(r1006.take r1006.length),r0_7,r0_8,())) :=
 (goL_dn _ _ _ 4000 _ _).trans (by kernel_rfl)
def impl_MatchModes_k0 : C :=
 .seq (.reg false [.V 20 (.mv (.t 1)),.V 21 (.len (.t 20)),.V 22 (.mv (.t 0)),.V 23 (.len (.t 22)),.V 24 (.bin .lss (.t 21) (.t 23)),.V 19 (.asg (.t 24))] [0,1,2,19] []) (.cond (.t 19) (.seq (.reg false [.W 6 (.asg (.c (.nils 1))),.V 7 (.asg (.c (.int .i64 0))),.V 8 (.asg (.c (.int .i64 7)))] [6,7,8] [6,37002,37004,37006]) .ret) (.seq (.reg false [.V 26 (.mv (.t 2)),.V 27 (.call (.c (.fn 23 [])) [.t 26,.c (.int .i64 1),.c (.int .i64 20000)]),.V 28 (.un .not (.t 27)),.V 25 (.asg (.t 28))] [0,1,2,25] []) (.cond (.t 25) (.seq (.reg false [.W 6 (.asg (.c (.nils 1))),.V 7 (.asg (.c (.int .i64 0))),.V 8 (.asg (.c (.int .i64 2)))] [6,7,8] [6,37002,37004,37006]) .ret) .skip)))
def impl_MatchModes_k1 : C :=
 .seq (.reg false [.V 29 (.mv (.t 0)),.V 30 (.mv (.t 1)),.V 31 (.mv (.t 1)),.V 32 (.len (.t 31)),.V 33 (.mks 1 1 (.bool false) (.t 32) (.t 32)),.V 34 (.mv (.t 2)),.V 35 (.build [.nils 3,.nils 3,.nils 1,.int .i64 0,.nils 1,.int .i64 0,.nils 1,.int .i64 0,.bool false] [(0,1,.t 29),(1,1,.t 30),(2,1,.t 33),(3,1,.t 34)]),.W 36 (.box 9 (.t 35)),.V 9 (.asg (.t 36))] [9] [36,37000,37001,37002,37004,37006]) (.seq (.seq (.opn 37002 (.opn 37004 (.opn 37006 (.reg false [.V 37 (.mv (.t 9)),.W 38 (.call (.c (.fn 471 [])) [.t 37]),.V 39 (.un .not (.t 38))] [9,39] [36,37000,37001,37002,37004,37006])))) (.cond (.t 39) (.seq (.reg false [.W 6 (.asg (.c (.nils 1))),.V 7 (.asg (.c (.int .i64 0))),.V 8 (.asg (.c (.int .i64 5)))] [6,7,8] [6,37002,37004,37006]) .ret) .skip)) (.seq (.reg true [.V 40 (.mv (.t 9)),.V 41 (.nilck (.t 40)),.V 42 (.fa 6 (.t 41)),.V 43 (.ld none (.t 42)),⟨some 44,false,.mv (.t 9),none,false,[1000000]⟩,⟨some 45,false,.nilck (.t 44),none,false,[1000000]⟩,⟨some 46,false,.fa 7 (.t 45),none,false,[1000000]⟩,⟨some 47,false,.ld none (.t 46),none,true,[]⟩,⟨some 6,true,.asg (.t 43),none,false,[9,44,45,46]⟩,.V 7 (.asg (.t 47)),.V 8 (.asg (.c (.int .i64 0)))] [6,7,8] [6,37002,37004,37006]) .ret))
def impl_MatchModes_k2 : C :=
 .norm [0,1,2] [] impl_MatchModes_k1
def impl_MatchModes_ir : Fn := { np := 3,io := [],res := [.t 6,.t 7,.t 8],own := [false,false,false],body :=
 (.seq (.reg false [.W 6 (.asg (.c (.nils 1))),.V 7 (.asg (.c (.int .i64 0))),.V 8 (.asg (.c (.int .i64 0)))] [0,1,2] []) (.seq (.block 0 (.seq (.reg false [.V 11 (.mv (.t 0)),.V 12 (.call (.c (.fn 472 [])) [.t 11]),.V 13 (.un .not (.t 12)),.V 14 (.mv (.t 13)),.G 15 (.mv (.t 1)) 3 false,.G 16 (.call (.c (.fn 472 [])) [.t 15]) 3 false,.G 17 (.un .not (.t 16)) 3 false,.V 18 (.pick (.t 14) (.c (.bool true)) (.t 17)),.V 10 (.asg (.t 18))] [0,1,2,10] []) (.cond (.t 10) (.seq (.reg false [.W 6 (.asg (.c (.nils 1))),.V 7 (.asg (.c (.int .i64 0))),.V 8 (.asg (.c (.int .i64 1)))] [6,7,8] [6,37002,37004,37006]) .ret) (.norm [0,1,2] [] impl_MatchModes_k0)))) impl_MatchModes_k2)) }
noncomputable def impl_MatchModes_D : List (Nat × Callee) := [(23,impl_within_c),(471,impl_matching_search_c),(472,impl_ValidModes_c)]
def impl_MatchModes_H : List (Nat × ET) := [(6,(.one (.int .i64))),(11,T_Mode),(15,T_Mode),(20,T_Mode),(22,T_Mode),(29,T_Mode),(30,T_Mode),(31,T_Mode),(33,(.one .bool)),(43,(.one (.int .i64))),(37002,(.one .bool)),(37004,(.one (.int .i64))),(37006,(.one (.int .i64)))]
noncomputable def impl_MatchModes_c : Callee := mkCallee impl_MatchModes_D impl_MatchModes_H impl_MatchModes_ir [.d (.one (.sl T_Mode)),.d (.one (.sl T_Mode)),.d (.one (.int .i64))] [.d (.one (.sl (.one (.int .i64)))),.d (.one (.int .i64)),.d (.one (.int .i64))] []
noncomputable def impl_MatchModes (a0 : List T_Mode.ty) (a1 : List T_Mode.ty) (a2 : Int) : Option (List Int × Int × Int) := impl_MatchModes_c.f (a0,a1,a2,())
noncomputable def impl_MatchModes_p0  (v0 : List T_Mode.ty) (v1 : List T_Mode.ty) (v2 : Int) : Option (List Int × Int × Int) :=
 goL impl_MatchModes_D impl_MatchModes_H (vleave impl_MatchModes_ir [.d (.one (.sl T_Mode)),.d (.one (.sl T_Mode)),.d (.one (.int .i64))] [.d (.one (.sl (.one (.int .i64)))),.d (.one (.int .i64)),.d (.one (.int .i64))] [] []) [.c impl_MatchModes_k0,.e 0,.c impl_MatchModes_k2]
  ⟨[(0,.sl T_Mode v0),(1,.sl T_Mode v1),(2,.int .i64 v2)],[]⟩
noncomputable def impl_MatchModes_p1  (v0 : List T_Mode.ty) (v1 : List T_Mode.ty) (v2 : Int) : Option (List Int × Int × Int) :=
 goL impl_MatchModes_D impl_MatchModes_H (vleave impl_MatchModes_ir [.d (.one (.sl T_Mode)),.d (.one (.sl T_Mode)),.d (.one (.int .i64))] [.d (.one (.sl (.one (.int .i64)))),.d (.one (.int .i64)),.d (.one (.int .i64))] [] []) [.c impl_MatchModes_k1]
  ⟨[(0,.sl T_Mode v0),(1,.sl T_Mode v1),(2,.int .i64 v2)],[]⟩
theorem impl_MatchModes_eq (a0 : List T_Mode.ty) (a1 : List T_Mode.ty) (a2 : Int) : impl_MatchModes a0 a1 a2 =
 (impl_ValidModes a0).bind fun x1 =>
  if (!x1) then
   some ([],0,1)
  else
   (impl_ValidModes a1).bind fun x2 =>
    if (!x2) then
     some ([],0,1)
    else
     impl_MatchModes_p0 a0 a1 a2 :=
 (mk_f _ _ _ _ _ _ _ 4000).trans (by kernel_rfl)
theorem impl_MatchModes_p0_eq  (v0 : List T_Mode.ty) (v1 : List T_Mode.ty) (v2 : Int) : impl_MatchModes_p0 v0 v1 v2 =
 if decide ((v1.length : Int) < (v0.length : Int)) then
  some ([],0,7)
 else
  (impl_within v2 1 20000).bind fun x1 =>
   if (!x1) then
    some ([],0,2)
   else
    impl_MatchModes_p1 v0 v1 v2 :=
 (goL_dn _ _ _ 4000 _ _).trans (by kernel_rfl)
theorem impl_MatchModes_p1_eq  (v0 : List T_Mode.ty) (v1 : List T_Mode.ty) (v2 : Int) : impl_MatchModes_p1 v0 v1 v2 =
 if decide (0 ≤ (v1.length : Int)) && decide ((v1.length : Int) ≤ (v1.length : Int)) && decide ((v1.length : Int).toNat < lim) then
  (impl_matching_search 1000 (v0,v1,((List.replicate ((v1.length : Int).toNat) (false : Bool)).take ((List.replicate ((v1.length : Int).toNat) (false : Bool)).length)),v2,[],0,[],0,false,())).bind fun x1 =>
   if (!x1.1) then
    some ([],0,5)
   else
    some ((x1.2.2.2.2.2.2.2.1.take x1.2.2.2.2.2.2.2.1.length),x1.2.2.2.2.2.2.2.2.1,0)
 else
  none :=
 (goL_dn _ _ _ 4000 _ _).trans (by kernel_rfl)
def laws_b10Has_k0 : C :=
 .seq (.seq (.reg false [.V 6 (.mv (.t 5)),.V 7 (.mv (.t 0)),.V 8 (.len (.t 7)),.V 9 (.bin .lss (.t 6) (.t 8))] [0,1,5,9] []) (.cond (.t 9) .skip (.exit 0))) (.seq (.block 1 (.seq (.reg false [.V 12 (.mv (.t 0)),.V 13 (.mv (.t 5)),.V 14 (.ia 1 (.t 12) (.t 13)),.V 15 (.ld none (.t 14)),.V 16 (.mv (.t 1)),.V 17 (.bin .eql (.t 15) (.t 16))] [0,1,5,17] []) (.cond (.t 17) (.seq (.reg false [.V 4 (.asg (.c (.bool true)))] [4] []) .ret) .skip))) (.reg false [.V 10 (.mv (.t 5)),.V 11 (.bin .add (.t 10) (.c (.int .i64 1))),.V 5 (.asg (.t 11))] [0,1,5] []))
def laws_b10Has_k1 : C :=
 .norm [0,1,5] [] laws_b10Has_k0
def laws_b10Has_k2 : C :=
 .seq (.reg false [.V 4 (.asg (.c (.bool false)))] [4] []) .ret
def laws_b10Has_ir : Fn := { np := 2,io := [],res := [.t 4],own := [false],body :=
 (.seq (.reg false [.V 4 (.asg (.c (.bool false)))] [0,1] []) (.seq (.seq (.reg false [.V 5 (.asg (.c (.int .i64 0)))] [0,1,5] []) (.block 0 (.loop laws_b10Has_k1))) laws_b10Has_k2)) }
noncomputable def laws_b10Has_D : List (Nat × Callee) := []
def laws_b10Has_H : List (Nat × ET) := [(7,(.one (.int .i64))),(12,(.one (.int .i64)))]
noncomputable def laws_b10Has_c : Callee := mkCallee laws_b10Has_D laws_b10Has_H laws_b10Has_ir [.d (.one (.sl (.one (.int .i64)))),.d (.one (.int .i64))] [.d (.one .bool)] []
noncomputable def laws_b10Has (a0 : List Int) (a1 : Int) : Option (Bool) := laws_b10Has_c.f (a0,a1,())
noncomputable def laws_b10Has_p0  (v0 : List Int) (v1 : Int) (v5 : Int) : Option (Bool) :=
 goL laws_b10Has_D laws_b10Has_H (vleave laws_b10Has_ir [.d (.one (.sl (.one (.int .i64)))),.d (.one (.int .i64))] [.d (.one .bool)] [] []) [.c laws_b10Has_k0,.l laws_b10Has_k1,.e 0,.c laws_b10Has_k2]
  ⟨[(0,.sl (.one (.int .i64)) v0),(1,.int .i64 v1),(5,.int .i64 v5)],[]⟩
theorem laws_b10Has_eq (a0 : List Int) (a1 : Int) : laws_b10Has a0 a1 =
 laws_b10Has_p0 a0 a1 0 :=
 (mk_f _ _ _ _ _ _ _ 4000).trans (by kernel_rfl)
theorem laws_b10Has_p0_eq  (v0 : List Int) (v1 : Int) (v5 : Int) : laws_b10Has_p0 v0 v1 v5 =
 if decide (v5 < (v0.length : Int)) then
  if decide (0 ≤ v5) then
   (v0[v5.toNat]?).bind fun x1 =>
    if (x1 == v1) then
     some true
    else
     laws_b10Has_p0 v0 v1 (IntKind.i64.wrap (v5 + 1))
  else
   none
 else
  some false :=
 (goL_dn _ _ _ 4000 _ _).trans (by kernel_rfl)
def laws_b10Abs_ir : Fn := { np := 1,io := [],res := [.t 2],own := [false],body :=
 (.seq (.reg false [.V 2 (.asg (.c (.int .i64 0)))] [0] []) (.seq (.seq (.reg false [.V 3 (.mv (.t 0)),.V 4 (.bin .lss (.t 3) (.c (.int .i64 0)))] [0,4] []) (.cond (.t 4) (.seq (.reg false [.V 5 (.mv (.t 0)),.V 6 (.un .neg (.t 5)),.V 2 (.asg (.t 6))] [2] []) .ret) .skip)) (.seq (.reg false [.V 7 (.mv (.t 0)),.V 2 (.asg (.t 7))] [2] []) .ret))) }
noncomputable def laws_b10Abs_D : List (Nat × Callee) := []
def laws_b10Abs_H : List (Nat × ET) := []
noncomputable def laws_b10Abs_c : Callee := mkCallee laws_b10Abs_D laws_b10Abs_H laws_b10Abs_ir [.d (.one (.int .i64))] [.d (.one (.int .i64))] []
noncomputable def laws_b10Abs (a0 : Int) : Option (Int) := laws_b10Abs_c.f (a0,())
theorem laws_b10Abs_eq (a0 : Int) : laws_b10Abs a0 =
 if decide (a0 < 0) then
  some (IntKind.i64.wrap (0 - a0))
 else
  some a0 :=
 (mk_f _ _ _ _ _ _ _ 4000).trans (by kernel_rfl)
def spec_DrawClosestModes_ir : Fn := { np := 1,io := [],res := [.t 2],own := [true],body :=
 (.seq (.reg false [.W 2 (.asg (.c (.nils 3)))] [0] []) (.seq (.reg false [.V 4 (.mv (.t 0)),.W 5 (.call (.c (.fn 441 [])) [.t 4]),.V 3 (.asg (.t 5))] [3] [5,6000]) (.seq (.reg false [.V 6 (.mv (.t 3)),.W 7 (.call (.c (.fn 470 [])) [.t 6]),.W 2 (.asg (.t 7))] [2] [2]) .ret))) }
noncomputable def spec_DrawClosestModes_D : List (Nat × Callee) := [(441,spec_l00From_c),(470,spec_l16Draw_c)]
def spec_DrawClosestModes_H : List (Nat × ET) := [(2,T_Mode),(4,(.one (.int .u8))),(7,T_Mode)]
noncomputable def spec_DrawClosestModes_c : Callee := mkCallee spec_DrawClosestModes_D spec_DrawClosestModes_H spec_DrawClosestModes_ir [.d (.one (.sl (.one (.int .u8))))] [.tok T_Mode] []
noncomputable def spec_DrawClosestModes (a0 : List Int) : Option (List T_Mode.ty) := spec_DrawClosestModes_c.f (a0,())
theorem spec_DrawClosestModes_eq (a0 : List Int) : spec_DrawClosestModes a0 =
 (spec_l00From a0).bind fun x1 =>
  (spec_l16Draw x1).bind fun x2 =>
   some (x2.1.take x2.1.length) :=
 (mk_f _ _ _ _ _ _ _ 4000).trans (by kernel_rfl)
def impl_ClosestModes_k0 : C :=
 .seq (.seq (.reg false [.V 25 (.mv (.t 9)),.V 26 (.mv (.t 0)),.V 27 (.len (.t 26)),.V 28 (.bin .lss (.t 25) (.t 27))] [0,5,6,7,8,9,16,17,18,28] [8]) (.cond (.t 28) .skip (.exit 2))) (.seq (.block 3 (.seq (.reg true [.V 31 (.fa 1 (.t 8)),.V 32 (.ld none (.t 31)),.V 33 (.mv (.t 0)),.V 34 (.mv (.t 9)),.V 35 (.ia 3 (.t 33) (.t 34)),.V 36 (.fa 1 (.t 35)),.V 37 (.ld none (.t 36)),.V 38 (.call (.c (.fn 448 [])) [.t 32,.t 37]),.V 39 (.mv (.t 0)),.V 40 (.mv (.t 5)),.V 41 (.ia 3 (.t 39) (.t 40)),.V 42 (.fa 1 (.t 41)),.V 43 (.ld none (.t 42)),.V 44 (.mv (.t 0)),.V 45 (.mv (.t 6)),.V 46 (.ia 3 (.t 44) (.t 45)),.V 47 (.fa 1 (.t 46)),.V 48 (.ld none (.t 47)),.V 49 (.call (.c (.fn 448 [])) [.t 43,.t 48]),.V 50 (.bin .lss (.t 38) (.t 49))] [0,5,6,7,8,9,16,17,18,50] [8]) (.cond (.t 50) (.reg false [.V 51 (.mv (.t 7)),.V 52 (.mv (.t 9)),.V 5 (.asg (.t 51)),.V 6 (.asg (.t 52))] [0,5,6,7,8,9,16,17,18] [8]) .skip))) (.reg false [.V 29 (.mv (.t 9)),.V 30 (.bin .add (.t 29) (.c (.int .i64 1))),.V 9 (.asg (.t 30))] [0,5,6,7,8,9,16,17,18] [8]))
def impl_ClosestModes_k1 : C :=
 .norm [0,5,6,7,8,9,16,17,18] [8] impl_ClosestModes_k0
def impl_ClosestModes_k2 : C :=
 .reg false [.V 53 (.bin .add (.t 18) (.c (.int .i64 1))),.V 18 (.mv (.t 53))] [0,5,6,16,17,18] []
def impl_ClosestModes_k3 : C :=
 .seq (.reg false [.V 19 (.bin .lss (.t 18) (.t 17))] [0,5,6,16,17,18,19] []) (.seq (.cond (.t 19) .skip (.exit 0)) (.seq (.block 1 (.seq (.reg false [.V 20 (.mv (.t 18)),.V 21 (.ia 3 (.t 16) (.t 18)),.V 22 (.ld (some 3) (.t 21)),.W 8 (.alloc 3 (.agg [.str [],.int .i64 0,.int .i64 0])),.V 7 (.asg (.t 20)),⟨none,true,.sto 3 (.t 8) (.t 22),none,false,[]⟩] [0,5,6,7,8,16,17,18] [8]) (.seq (.reg false [.V 23 (.mv (.t 7)),.V 24 (.bin .add (.t 23) (.c (.int .i64 1))),.V 9 (.asg (.t 24))] [0,5,6,7,8,9,16,17,18] [8]) (.block 2 (.loop impl_ClosestModes_k1))))) impl_ClosestModes_k2))
def impl_ClosestModes_k4 : C :=
 .norm [0,5,6,16,17,18] [] impl_ClosestModes_k3
def impl_ClosestModes_k5 : C :=
 .seq (.reg false [.V 54 (.mv (.t 5)),.V 55 (.mv (.t 6)),.V 2 (.asg (.t 54)),.V 3 (.asg (.t 55)),.V 4 (.asg (.c (.int .i64 0)))] [2,3,4] []) .ret
def impl_ClosestModes_ir : Fn := { np := 1,io := [],res := [.t 2,.t 3,.t 4],own := [false,false,false],body :=
 (.seq (.reg false [.V 2 (.asg (.c (.int .i64 0))),.V 3 (.asg (.c (.int .i64 0))),.V 4 (.asg (.c (.int .i64 0)))] [0] []) (.seq (.seq (.reg false [.V 10 (.mv (.t 0)),.V 11 (.call (.c (.fn 472 [])) [.t 10]),.V 12 (.un .not (.t 11))] [0,12] []) (.cond (.t 12) (.seq (.reg false [.V 2 (.asg (.c (.int .i64 0))),.V 3 (.asg (.c (.int .i64 0))),.V 4 (.asg (.c (.int .i64 1)))] [2,3,4] []) .ret) .skip)) (.seq (.seq (.reg false [.V 13 (.mv (.t 0)),.V 14 (.len (.t 13)),.V 15 (.bin .lss (.t 14) (.c (.int .i64 2)))] [0,15] []) (.cond (.t 15) (.seq (.reg false [.V 2 (.asg (.c (.int .i64 0))),.V 3 (.asg (.c (.int .i64 0))),.V 4 (.asg (.c (.int .i64 3)))] [2,3,4] []) .ret) .skip)) (.seq (.reg false [.V 5 (.asg (.c (.int .i64 0))),.V 6 (.asg (.c (.int .i64 1)))] [0,5,6] []) (.seq (.seq (.reg false [.V 16 (.mv (.t 0)),.V 17 (.len (.t 16)),.V 18 (.mv (.c (.int .i64 0)))] [0,5,6,16,17,18] []) (.block 0 (.loop impl_ClosestModes_k4))) impl_ClosestModes_k5))))) }
noncomputable def impl_ClosestModes_D : List (Nat × Callee) := [(448,impl_distance_c),(472,impl_ValidModes_c)]
def impl_ClosestModes_H : List (Nat × ET) := [(10,T_Mode),(13,T_Mode),(16,T_Mode),(26,T_Mode),(33,T_Mode),(39,T_Mode),(44,T_Mode)]
noncomputable def impl_ClosestModes_c : Callee := mkCallee impl_ClosestModes_D impl_ClosestModes_H impl_ClosestModes_ir [.d (.one (.sl T_Mode))] [.d (.one (.int .i64)),.d (.one (.int .i64)),.d (.one (.int .i64))] []
noncomputable def impl_ClosestModes (a0 : List T_Mode.ty) : Option (Int × Int × Int) := impl_ClosestModes_c.f (a0,())
noncomputable def impl_ClosestModes_p0  (v0 : List T_Mode.ty) (v5 : Int) (v6 : Int) (v16 : List T_Mode.ty) (v17 : Int) (v18 : Int) : Option (Int × Int × Int) :=
 goL impl_ClosestModes_D impl_ClosestModes_H (vleave impl_ClosestModes_ir [.d (.one (.sl T_Mode))] [.d (.one (.int .i64)),.d (.one (.int .i64)),.d (.one (.int .i64))] [] []) [.c impl_ClosestModes_k3,.l impl_ClosestModes_k4,.e 0,.c impl_ClosestModes_k5]
  ⟨[(0,.sl T_Mode v0),(5,.int .i64 v5),(6,.int .i64 v6),(16,.sl T_Mode v16),(17,.int .i64 v17),(18,.int .i64 v18)],[]⟩
noncomputable def impl_ClosestModes_p1  (v0 : List T_Mode.ty) (v5 : Int) (v6 : Int) (v7 : Int) (v9 : Int) (v16 : List T_Mode.ty) (v17 : Int) (v18 : Int) (r8_0 : List UInt8) (r8_1 : Int) (r8_2 : Int) : Option (Int × Int × Int) :=
 goL impl_ClosestModes_D impl_ClosestModes_H (vleave impl_ClosestModes_ir [.d (.one (.sl T_Mode))] [.d (.one (.int .i64)),.d (.one (.int .i64)),.d (.one (.int .i64))] [] []) [.c impl_ClosestModes_k0,.l impl_ClosestModes_k1,.e 2,.e 1,.c impl_ClosestModes_k2,.l impl_ClosestModes_k4,.e 0,.c impl_ClosestModes_k5]
  ⟨[(0,.sl T_Mode v0),(5,.int .i64 v5),(6,.int .i64 v6),(7,.int .i64 v7),(8,.loc 8 0 0),(9,.int .i64 v9),(16,.sl T_Mode v16),(17,.int .i64 v17),(18,.int .i64 v18)],[(8,some (.var 3 (.agg [.str r8_0,.int .i64 r8_1,.int .i64 r8_2])))]⟩
theorem impl_ClosestModes_eq (a0 : List T_Mode.ty) : impl_ClosestModes a0 =
 (impl_ValidModes a0).bind fun x1 =>
  if (!x1) then
   some (0,0,1)
  else
   if decide ((a0.length : Int) < 2) then
    some (0,0,3)
   else
    impl_ClosestModes_p0 a0 0 1 a0 (a0.length : Int) 0 :=
 (mk_f _ _ _ _ _ _ _ 4000).trans (by kernel_rfl)
theorem impl_ClosestModes_p0_eq  (v0 : List T_Mode.ty) (v5 : Int) (v6 : Int) (v16 : List T_Mode.ty) (v17 : Int) (v18 : Int) : impl_ClosestModes_p0 v0 v5 v6 v16 v17 v18 =
 if decide (v18 < v17) then
  if decide (0 ≤ v18) then
   (v16[v18.toNat]?).bind fun x1 =>
    impl_ClosestModes_p1 v0 v5 v6 v18 (IntKind.i64.wrap (v18 + 1)) v16 v17 v18 x1.1 x1.2.1 x1.2.2.1
  else
   none
 else
  some (v5,v6,0) :=
 (goL_dn _ _ _ 4000 _ _).trans (by kernel_rfl)
theorem impl_ClosestModes_p1_eq  (v0 : List T_Mode.ty) (v5 : Int) (v6 : Int) (v7 : Int) (v9 : Int) (v16 : List T_Mode.ty) (v17 : Int) (v18 : Int) (r8_0 : List UInt8) (r8_1 : Int) (r8_2 : Int) : impl_ClosestModes_p1 v0 v5 v6 v7 v9 v16 v17 v18 r8_0 r8_1 r8_2 =
 if decide (v9 < (v0.length : Int)) then
  if decide (0 ≤ v9) then
   (v0[v9.toNat]?).bind fun x1 =>
    (impl_distance r8_1 x1.2.1).bind fun x2 =>
     if decide (0 ≤ v5) then
      (v0[v5.toNat]?).bind fun x3 =>
       if decide (0 ≤ v6) then
        (v0[v6.toNat]?).bind fun x4 =>
         (impl_distance x3.2.1 x4.2.1).bind fun x5 =>
          if decide (x2 < x5) then
           impl_ClosestModes_p1 v0 v7 v9 v7 (IntKind.i64.wrap (v9 + 1)) v16 v17 v18 r8_0 r8_1 r8_2
          else
           impl_ClosestModes_p1 v0 v5 v6 v7 (IntKind.i64.wrap (v9 + 1)) v16 v17 v18 r8_0 r8_1 r8_2
       else
        none
     else
      none
  else
   none
 else
  impl_ClosestModes_p0 v0 v5 v6 v16 v17 (IntKind.i64.wrap (v18 + 1)) :=
 (goL_dn _ _ _ 4000 _ _).trans (by kernel_rfl)
def spec_DrawShiftModes_ir : Fn := { np := 1,io := [],res := [.t 2,.t 3],own := [true,false],body :=
 (.seq (.reg false [.W 2 (.asg (.c (.nils 3))),.V 3 (.asg (.c (.int .i64 0)))] [0] []) (.seq (.reg false [.V 6 (.mv (.t 0)),.W 7 (.call (.c (.fn 441 [])) [.t 6]),.V 4 (.asg (.t 7))] [4] [7,8000]) (.seq (.reg false [.V 8 (.mv (.t 4)),.W 9 (.call (.c (.fn 470 [])) [.t 8]),.W 5 (.asg (.t 9))] [4,5] [5,7,8000]) (.seq (.reg false [.V 10 (.mv (.t 5)),.V 11 (.mv (.t 4)),.V 12 (.bsl 1 (.int .i64 0) 8 [(0,.c (.int .i64 0)),(1,.c (.int .i64 1)),(2,.c (.int .i64 700)),(3,.c (.int .i64 950)),(4,.c (.int .i64 1000)),(5,.c (.int .i64 1060)),(6,.c (.int .i64 3000)),(7,.c (.int .i64 3001))]),.W 13 (.call (.c (.fn 445 [])) [.t 11,.t 12]),.W 2 (.asg (.t 10)),.V 3 (.asg (.t 13))] [2,3] [2,5]) .ret)))) }
noncomputable def spec_DrawShiftModes_D : List (Nat × Callee) := [(441,spec_l00From_c),(445,spec_l00Src_among_c),(470,spec_l16Draw_c)]
def spec_DrawShiftModes_H : List (Nat × ET) := [(2,T_Mode),(5,T_Mode),(6,(.one (.int .u8))),(9,T_Mode),(10,T_Mode),(12,(.one (.int .i64)))]
noncomputable def spec_DrawShiftModes_c : Callee := mkCallee spec_DrawShiftModes_D spec_DrawShiftModes_H spec_DrawShiftModes_ir [.d (.one (.sl (.one (.int .u8))))] [.tok T_Mode,.d (.one (.int .i64))] []
noncomputable def spec_DrawShiftModes (a0 : List Int) : Option (List T_Mode.ty × Int) := spec_DrawShiftModes_c.f (a0,())
theorem spec_DrawShiftModes_eq (a0 : List Int) : spec_DrawShiftModes a0 =
 (spec_l00From a0).bind fun x1 =>
  (spec_l16Draw x1).bind fun x2 =>
   (spec_l00Src_among (x2.2.1,x2.2.2.1,x2.2.2.2.1,()) [0,1,700,950,1000,1060,3000,3001]).bind fun x3 =>
    some ((x2.1.take x2.1.length),x3.1) :=
 (mk_f _ _ _ _ _ _ _ 4000).trans (by kernel_rfl)
def impl_clone_impl_Mode__ir : Fn := { np := 1,io := [],res := [.t 2],own := [true],body :=
 (.seq (.reg false [.W 2 (.asg (.c (.nils 3)))] [0] []) (.seq (.reg false [.V 3 (.mv (.t 0)),.V 4 (.len (.t 3)),.V 5 (.mks 3 32 (.agg [.str [],.int .i64 0,.int .i64 0]) (.c (.int .i64 0)) (.t 4)),.V 6 (.mv (.t 0)),.W 7 (.app 3 32 (.t 5) (.t 6)),.W 2 (.asg (.t 7))] [2] [2]) .ret)) }
noncomputable def impl_clone_impl_Mode__D : List (Nat × Callee) := []
def impl_clone_impl_Mode__H : List (Nat × ET) := [(2,T_Mode),(3,T_Mode),(5,T_Mode),(6,T_Mode),(7,T_Mode)]
noncomputable def impl_clone_impl_Mode__c : Callee := mkCallee impl_clone_impl_Mode__D impl_clone_impl_Mode__H impl_clone_impl_Mode__ir [.d (.one (.sl T_Mode))] [.tok T_Mode] []
noncomputable def impl_clone_impl_Mode_ (a0 : List T_Mode.ty) : Option (List T_Mode.ty) := impl_clone_impl_Mode__c.f (a0,())
theorem impl_clone_impl_Mode__eq (a0 : List T_Mode.ty) : impl_clone_impl_Mode_ a0 =
 if decide (0 ≤ (a0.length : Int)) && decide ((a0.length : Int).toNat < lim) then
  if decide (0 + a0.length < lim) then
   some (([] ++ a0).take (([] ++ a0).length))
  else
   none
 else
  none :=
 (mk_f _ _ _ _ _ _ _ 4000).trans (by kernel_rfl)
def impl_divRound_ir : Fn := { np := 2,io := [],res := [.t 4],own := [false],body :=
 (.seq (.reg false [.V 4 (.asg (.c (.int .i64 0)))] [0,1] []) (.seq (.reg false [.V 8 (.mv (.t 0)),.V 9 (.bin .lss (.t 8) (.c (.int .i64 0))),.V 10 (.mv (.t 1)),.V 11 (.bin .lss (.t 10) (.c (.int .i64 0))),.V 12 (.eqb true (.t 9) (.t 11)),.V 5 (.asg (.t 12))] [0,1,5] []) (.seq (.reg false [.V 13 (.mv (.t 0)),.V 14 (.mv (.t 0)),.V 15 (.un .neg (.t 14)),.V 16 (.max [.t 13,.t 15]),.V 17 (.mv (.t 1)),.V 18 (.mv (.t 1)),.V 19 (.un .neg (.t 18)),.V 20 (.max [.t 17,.t 19]),.V 0 (.asg (.t 16)),.V 1 (.asg (.t 20))] [0,1,5] []) (.seq (.reg false [.V 21 (.mv (.t 0)),.V 22 (.mv (.t 1)),.V 23 (.bin .quo (.t 21) (.t 22)),.V 6 (.asg (.t 23))] [0,1,5,6] []) (.seq (.seq (.reg false [.V 24 (.mv (.t 0)),.V 25 (.mv (.t 1)),.V 26 (.bin .rem (.t 24) (.t 25)),.V 7 (.asg (.t 26))] [1,5,6,7] []) (.seq (.reg false [.V 27 (.mv (.t 7)),.V 28 (.mv (.t 1)),.V 29 (.mv (.t 7)),.V 30 (.bin .sub (.t 28) (.t 29)),.V 31 (.bin .geq (.t 27) (.t 30))] [5,6,31] []) (.cond (.t 31) (.reg false [.V 32 (.mv (.t 6)),.V 33 (.bin .add (.t 32) (.c (.int .i64 1))),.V 6 (.asg (.t 33))] [5,6] []) .skip))) (.seq (.seq (.reg false [.V 34 (.mv (.t 5))] [6,34] []) (.cond (.t 34) (.seq (.reg false [.V 35 (.mv (.t 6)),.V 36 (.un .neg (.t 35)),.V 4 (.asg (.t 36))] [4] []) .ret) .skip)) (.seq (.reg false [.V 37 (.mv (.t 6)),.V 4 (.asg (.t 37))] [4] []) .ret))))))) }
noncomputable def impl_divRound_D : List (Nat × Callee) := []
def impl_divRound_H : List (Nat × ET) := []
noncomputable def impl_divRound_c : Callee := mkCallee impl_divRound_D impl_divRound_H impl_divRound_ir [.d (.one (.int .i64)),.d (.one (.int .i64))] [.d (.one (.int .i64))] []
noncomputable def impl_divRound (a0 : Int) (a1 : Int) : Option (Int) := impl_divRound_c.f (a0,a1,())
theorem impl_divRound_eq (a0 : Int) (a1 : Int) : impl_divRound a0 a1 =
 if decide ((if IntKind.i64.wrap (0 - a1) > a1 then IntKind.i64.wrap (0 - a1) else a1) = 0) then
  none
 else
  if decide ((if IntKind.i64.wrap (0 - a1) > a1 then IntKind.i64.wrap (0 - a1) else a1) = 0) then
   none
  else
   if decide ((if IntKind.i64.wrap (0 - a0) > a0 then IntKind.i64.wrap (0 - a0) else a0).tmod (if IntKind.i64.wrap (0 - a1) > a1 then IntKind.i64.wrap (0 - a1) else a1) ≥ IntKind.i64.wrap ((if IntKind.i64.wrap (0 - a1) > a1 then IntKind.i64.wrap (0 - a1) else a1) - ((if IntKind.i64.wrap (0 - a0) > a0 then IntKind.i64.wrap (0 - a0) else a0).tmod (if IntKind.i64.wrap (0 - a1) > a1 then IntKind.i64.wrap (0 - a1) else a1)))) then
    if (!(decide (a0 < 0) == decide (a1 < 0))) then
     some (IntKind.i64.wrap (0 - (IntKind.i64.wrap ((IntKind.i64.wrap ((if IntKind.i64.wrap (0 - a0) > a0 then IntKind.i64.wrap (0 - a0) else a0).tdiv (if IntKind.i64.wrap (0 - a1) > a1 then IntKind.i64.wrap (0 - a1) else a1))) + 1))))
    else
     some (IntKind.i64.wrap ((IntKind.i64.wrap ((if IntKind.i64.wrap (0 - a0) > a0 then IntKind.i64.wrap (0 - a0) else a0).tdiv (if IntKind.i64.wrap (0 - a1) > a1 then IntKind.i64.wrap (0 - a1) else a1))) + 1))
   else
    if (!(decide (a0 < 0) == decide (a1 < 0))) then
     some (IntKind.i64.wrap (0 - (IntKind.i64.wrap ((if IntKind.i64.wrap (0 - a0) > a0 then IntKind.i64.wrap (0 - a0) else a0).tdiv (if IntKind.i64.wrap (0 - a1) > a1 then IntKind.i64.wrap (0 - a1) else a1)))))
    else
     some (IntKind.i64.wrap ((if IntKind.i64.wrap (0 - a0) > a0 then IntKind.i64.wrap (0 - a0) else a0).tdiv (if IntKind.i64.wrap (0 - a1) > a1 then IntKind.i64.wrap (0 - a1) else a1))) :=
 (mk_f _ _ _ _ _ _ _ 4000).trans (by kernel_rfl)
def impl_ShiftModes_k0 : C :=
 .seq (.reg false [.V 19 (.bin .lss (.t 18) (.t 17))] [1,6,17,18,19] [6]) (.seq (.cond (.t 19) .skip (.exit 0)) (.seq (.block 1 (.seq (.reg false [.V 20 (.mv (.t 18)),.V 7 (.asg (.t 20))] [1,6,7,17,18] [6]) (.reg false [.V 21 (.mv (.t 6)),.V 22 (.mv (.t 7)),.V 23 (.mv (.t 6)),.V 24 (.mv (.t 7)),.V 25 (.ia 3 (.t 23) (.t 24)),.V 26 (.fa 1 (.t 25)),.V 27 (.ld none (.t 26)),.V 28 (.mv (.t 1)),.V 29 (.bin .mul (.t 27) (.t 28)),.V 30 (.call (.c (.fn 27 [])) [.t 29,.c (.int .i64 1000)]),.V 31 (.ia 3 (.t 21) (.t 22)),.V 32 (.fa 1 (.t 31)),⟨none,true,.sto 1 (.t 32) (.t 30),none,false,[]⟩] [1,6,17,18] [6]))) (.reg false [.V 33 (.bin .add (.t 18) (.c (.int .i64 1))),.V 18 (.mv (.t 33))] [1,6,17,18] [6])))
def impl_ShiftModes_k1 : C :=
 .norm [1,6,17,18] [6] impl_ShiftModes_k0
def impl_ShiftModes_k2 : C :=
 .seq (.seq (.reg false [.V 34 (.mv (.t 6)),.V 35 (.call (.c (.fn 472 [])) [.t 34]),.V 36 (.un .not (.t 35))] [6,36] [6]) (.cond (.t 36) (.seq (.reg false [.W 4 (.asg (.c (.nils 3))),.V 5 (.asg (.c (.int .i64 6)))] [4,5] [4,6]) .ret) .skip)) (.seq (.reg false [.V 37 (.mv (.t 6)),.W 4 (.asg (.t 37)),.V 5 (.asg (.c (.int .i64 0)))] [4,5] [4,6]) .ret)
def impl_ShiftModes_ir : Fn := { np := 2,io := [],res := [.t 4,.t 5],own := [true,false],body :=
 (.seq (.reg false [.W 4 (.asg (.c (.nils 3))),.V 5 (.asg (.c (.int .i64 0)))] [0,1] []) (.seq (.seq (.reg false [.V 8 (.mv (.t 0)),.V 9 (.call (.c (.fn 472 [])) [.t 8]),.V 10 (.un .not (.t 9))] [0,1,10] []) (.cond (.t 10) (.seq (.reg false [.W 4 (.asg (.c (.nils 3))),.V 5 (.asg (.c (.int .i64 1)))] [4,5] [4,6]) .ret) .skip)) (.seq (.seq (.reg false [.V 11 (.mv (.t 1)),.V 12 (.call (.c (.fn 23 [])) [.t 11,.c (.int .i64 1),.c (.int .i64 3000)]),.V 13 (.un .not (.t 12))] [0,1,13] []) (.cond (.t 13) (.seq (.reg false [.W 4 (.asg (.c (.nils 3))),.V 5 (.asg (.c (.int .i64 2)))] [4,5] [4,6]) .ret) .skip)) (.seq (.reg false [.V 14 (.mv (.t 0)),.V 15 (.call (.c (.fn 473 [])) [.t 14]),.W 6 (.asg (.t 15))] [1,6] [6]) (.seq (.seq (.reg false [.V 16 (.mv (.t 6)),.V 17 (.len (.t 16)),.V 18 (.mv (.c (.int .i64 0)))] [1,6,17,18] [6]) (.block 0 (.loop impl_ShiftModes_k1))) impl_ShiftModes_k2))))) }
noncomputable def impl_ShiftModes_D : List (Nat × Callee) := [(23,impl_within_c),(27,impl_divRound_c),(472,impl_ValidModes_c),(473,impl_clone_impl_Mode__c)]
def impl_ShiftModes_H : List (Nat × ET) := [(4,T_Mode),(6,T_Mode),(8,T_Mode),(14,T_Mode),(15,T_Mode),(16,T_Mode),(21,T_Mode),(23,T_Mode),(34,T_Mode),(37,T_Mode)]
noncomputable def impl_ShiftModes_c : Callee := mkCallee impl_ShiftModes_D impl_ShiftModes_H impl_ShiftModes_ir [.d (.one (.sl T_Mode)),.d (.one (.int .i64))] [.tok T_Mode,.d (.one (.int .i64))] []
noncomputable def impl_ShiftModes (a0 : List T_Mode.ty) (a1 : Int) : Option (List T_Mode.ty × Int) := impl_ShiftModes_c.f (a0,a1,())
noncomputable def impl_ShiftModes_p0  (v1 : Int) (v6n : Nat) (v17 : Int) (v18 : Int) (r6 : List T_Mode.ty) : Option (List T_Mode.ty × Int) :=
 goL impl_ShiftModes_D impl_ShiftModes_H (vleave impl_ShiftModes_ir [.d (.one (.sl T_Mode)),.d (.one (.int .i64))] [.tok T_Mode,.d (.one (.int .i64))] [] []) [.c impl_ShiftModes_k0,.l impl_ShiftModes_k1,.e 0,.c impl_ShiftModes_k2]
  ⟨[(1,.int .i64 v1),(6,.view 6 0 v6n),(17,.int .i64 v17),(18,.int .i64 v18)],[(6,some (.sl T_Mode r6))]⟩
theorem impl_ShiftModes_eq (a0 : List T_Mode.ty) (a1 : Int) : impl_ShiftModes a0 a1 =
 (impl_ValidModes a0).bind fun x1 =>
  if (!x1) then
   some ([],1)
  else
   (impl_within a1 1 3000).bind fun x2 =>
    if (!x2) then
     some ([],2)
    else
     (impl_clone_impl_Mode_ a0).bind fun x3 =>
      impl_ShiftModes_p0 a1 x3.length (x3.length : Int) 0 x3 :=
 (mk_f _ _ _ _ _ _ _ 4000).trans (by kernel_rfl)
theorem impl_ShiftModes_p0_eq  (v1 : Int) (v6n : Nat) (v17 : Int) (v18 : Int) (r6 : List T_Mode.ty) : impl_ShiftModes_p0 v1 v6n v17 v18 r6 =
 if decide (v18 < v17) then
  if decide (0 ≤ v18) && decide (v18 < (v6n : Int)) then
   (r6[v18.toNat]?).bind fun x1 =>
    (impl_divRound (IntKind.i64.wrap (x1.2.1 * v1)) 1000).bind fun x2 =>
     if decide (0 ≤ v18) && decide (v18 < (v6n : Int)) then
      (r6[v18.toNat]?).bind fun x3 =>
       impl_ShiftModes_p0 v1 v6n v17 (IntKind.i64.wrap (v18 + 1)) (r6.set v18.toNat (x3.1,x2,x3.2.2.1,()))
     else
      none
  else
   none
 else
  (impl_ValidModes (r6.take v6n)).bind fun x4 =>
   if (!x4) then
    some ([],6)
   else
    some ((r6.take v6n),0) :=
 (goL_dn _ _ _ 4000 _ _).trans (by kernel_rfl)
def spec_l01Small_ir : Fn := { np := 1,io := [],res := [.t 2],own := [false],body :=
 (.seq (.reg false [.V 2 (.asg (.c (.bool false)))] [0] []) (.seq (.reg false [.V 3 (.mv (.t 0)),.V 4 (.bin .geq (.t 3) (.c (.int .u8 97))),.V 5 (.mv (.t 4)),.G 6 (.mv (.t 0)) 2 true,.G 7 (.bin .leq (.t 6) (.c (.int .u8 122))) 2 true,.V 8 (.pick (.t 5) (.t 7) (.c (.bool false))),.V 2 (.asg (.t 8))] [2] []) .ret)) }
noncomputable def spec_l01Small_D : List (Nat × Callee) := []
def spec_l01Small_H : List (Nat × ET) := []
noncomputable def spec_l01Small_c : Callee := mkCallee spec_l01Small_D spec_l01Small_H spec_l01Small_ir [.d (.one (.int .u8))] [.d (.one .bool)] []
noncomputable def spec_l01Small (a0 : Int) : Option (Bool) := spec_l01Small_c.f (a0,())
theorem spec_l01Small_eq (a0 : Int) : spec_l01Small a0 =
 if decide (a0 ≥ 97) then
  some (decide (a0 ≤ 122))
 else
  some false :=
 (mk_f _ _ _ _ _ _ _ 4000).trans (by kernel_rfl)
def spec_l01Digit_ir : Fn := { np := 1,io := [],res := [.t 2],own := [false],body :=
 (.seq (.reg false [.V 2 (.asg (.c (.bool false)))] [0] []) (.seq (.reg false [.V 3 (.mv (.t 0)),.V 4 (.bin .geq (.t 3) (.c (.int .u8 48))),.V 5 (.mv (.t 4)),.G 6 (.mv (.t 0)) 2 true,.G 7 (.bin .leq (.t 6) (.c (.int .u8 57))) 2 true,.V 8 (.pick (.t 5) (.t 7) (.c (.bool false))),.V 2 (.asg (.t 8))] [2] []) .ret)) }
noncomputable def spec_l01Digit_D : List (Nat × Callee) := []
def spec_l01Digit_H : List (Nat × ET) := []
noncomputable def spec_l01Digit_c : Callee := mkCallee spec_l01Digit_D spec_l01Digit_H spec_l01Digit_ir [.d (.one (.int .u8))] [.d (.one .bool)] []
noncomputable def spec_l01Digit (a0 : Int) : Option (Bool) := spec_l01Digit_c.f (a0,())
theorem spec_l01Digit_eq (a0 : Int) : spec_l01Digit a0 =
 if decide (a0 ≥ 48) then
  some (decide (a0 ≤ 57))
 else
  some false :=
 (mk_f _ _ _ _ _ _ _ 4000).trans (by kernel_rfl)
def spec_l01Name_k0 : C :=
 .seq (.seq (.reg false [.V 17 (.mv (.t 3)),.V 18 (.mv (.t 0)),.V 19 (.lens (.t 18)),.V 20 (.bin .lss (.t 17) (.t 19))] [0,3,20] []) (.cond (.t 20) .skip (.exit 0))) (.seq (.block 1 (.seq (.reg false [.V 23 (.mv (.t 0)),.V 24 (.mv (.t 3)),.V 25 (.ix (.t 23) (.t 24)),.V 26 (.call (.c (.fn 11 [])) [.t 25]),.V 27 (.un .not (.t 26)),.V 28 (.mv (.t 27)),.G 29 (.mv (.t 0)) 5 true,.G 30 (.mv (.t 3)) 5 true,.G 31 (.ix (.t 29) (.t 30)) 5 true,.G 32 (.call (.c (.fn 12 [])) [.t 31]) 5 true,.G 33 (.un .not (.t 32)) 5 true,.V 34 (.pick (.t 28) (.t 33) (.c (.bool false)))] [0,3,34] []) (.cond (.t 34) (.seq (.reg false [.V 2 (.asg (.c (.bool false)))] [2] []) .ret) .skip))) (.reg false [.V 21 (.mv (.t 3)),.V 22 (.bin .add (.t 21) (.c (.int .i64 1))),.V 3 (.asg (.t 22))] [0,3] []))
def spec_l01Name_k1 : C :=
 .norm [0,3] [] spec_l01Name_k0
def spec_l01Name_k2 : C :=
 .seq (.reg false [.V 2 (.asg (.c (.bool true)))] [2] []) .ret
def spec_l01Name_k3 : C :=
 .seq (.seq (.reg false [.V 3 (.asg (.c (.int .i64 0)))] [0,3] []) (.block 0 (.loop spec_l01Name_k1))) spec_l01Name_k2
def spec_l01Name_ir : Fn := { np := 1,io := [],res := [.t 2],own := [false],body :=
 (.seq (.reg false [.V 2 (.asg (.c (.bool false)))] [0] []) (.seq (.seq (.reg false [.V 4 (.mv (.t 0)),.V 5 (.bin .eql (.t 4) (.c (.str []))),.V 6 (.mv (.t 5)),.G 7 (.mv (.t 0)) 2 false,.G 8 (.lens (.t 7)) 2 false,.G 9 (.bin .gtr (.t 8) (.c (.int .i64 10))) 2 false,.V 10 (.pick (.t 6) (.c (.bool true)) (.t 9)),.V 11 (.mv (.t 10)),.G 12 (.mv (.t 0)) 7 false,.G 13 (.ix (.t 12) (.c (.int .i64 0))) 7 false,.G 14 (.call (.c (.fn 11 [])) [.t 13]) 7 false,.G 15 (.un .not (.t 14)) 7 false,.V 16 (.pick (.t 11) (.c (.bool true)) (.t 15))] [0,16] []) (.cond (.t 16) (.seq (.reg false [.V 2 (.asg (.c (.bool false)))] [2] []) .ret) .skip)) (.norm [0] [] spec_l01Name_k3))) }
noncomputable def spec_l01Name_D : List (Nat × Callee) := [(11,spec_l01Small_c),(12,spec_l01Digit_c)]
def spec_l01Name_H : List (Nat × ET) := []
noncomputable def spec_l01Name_c : Callee := mkCallee spec_l01Name_D spec_l01Name_H spec_l01Name_ir [.d (.one .str)] [.d (.one .bool)] []
noncomputable def spec_l01Name (a0 : List UInt8) : Option (Bool) := spec_l01Name_c.f (a0,())
noncomputable def spec_l01Name_p0  (v0 : List UInt8) : Option (Bool) :=
 goL spec_l01Name_D spec_l01Name_H (vleave spec_l01Name_ir [.d (.one .str)] [.d (.one .bool)] [] []) [.c spec_l01Name_k3]
  ⟨[(0,.str v0)],[]⟩
noncomputable def spec_l01Name_p1  (v0 : List UInt8) (v3 : Int) : Option (Bool) :=
 goL spec_l01Name_D spec_l01Name_H (vleave spec_l01Name_ir [.d (.one .str)] [.d (.one .bool)] [] []) [.c spec_l01Name_k0,.l spec_l01Name_k1,.e 0,.c spec_l01Name_k2]
  ⟨[(0,.str v0),(3,.int .i64 v3)],[]⟩
theorem spec_l01Name_eq (a0 : List UInt8) : spec_l01Name a0 =
 if (a0 == []) then
  some false
 else
  if decide ((a0.length : Int) > 10) then
   some false
  else
   (a0[0]?).bind fun x1 =>
    (spec_l01Small (x1.toNat : Int)).bind fun x2 =>
     if (!x2) then
      some false
     else
      spec_l01Name_p0 a0 :=
 (mk_f _ _ _ _ _ _ _ 4000).trans (by kernel_rfl)
theorem spec_l01Name_p0_eq  (v0 : List UInt8) : spec_l01Name_p0 v0 =
 spec_l01Name_p1 v0 0 :=
 (goL_dn _ _ _ 4000 _ _).trans (by kernel_rfl)
theorem spec_l01Name_p1_eq  (v0 : List UInt8) (v3 : Int) : spec_l01Name_p1 v0 v3 =
 if decide (v3 < (v0.length : Int)) then
  if decide (0 ≤ v3) then
   (v0[v3.toNat]?).bind fun x1 =>
    (spec_l01Small (x1.toNat : Int)).bind fun x2 =>
     if (!x2) then
      if decide (0 ≤ v3) then
       (v0[v3.toNat]?).bind fun x3 =>
        (spec_l01Digit (x3.toNat : Int)).bind fun x4 =>
         if (!x4) then
          some false
         else
          spec_l01Name_p1 v0 (IntKind.i64.wrap (v3 + 1))
      else
       none
     else
      spec_l01Name_p1 v0 (IntKind.i64.wrap (v3 + 1))
  else
   none
 else
  some true :=
 (goL_dn _ _ _ 4000 _ _).trans (by kernel_rfl)
def spec_l00In_ir : Fn := { np := 3,io := [],res := [.t 6],own := [false],body :=
 (.seq (.reg false [.V 6 (.asg (.c (.bool false)))] [0,1,2] []) (.seq (.reg false [.V 7 (.mv (.t 0)),.V 8 (.mv (.t 1)),.V 9 (.bin .geq (.t 7) (.t 8)),.V 10 (.mv (.t 9)),.G 11 (.mv (.t 0)) 3 true,.G 12 (.mv (.t 2)) 3 true,.G 13 (.bin .leq (.t 11) (.t 12)) 3 true,.V 14 (.pick (.t 10) (.t 13) (.c (.bool false))),.V 6 (.asg (.t 14))] [6] []) .ret)) }
noncomputable def spec_l00In_D : List (Nat × Callee) := []
def spec_l00In_H : List (Nat × ET) := []
noncomputable def spec_l00In_c : Callee := mkCallee spec_l00In_D spec_l00In_H spec_l00In_ir [.d (.one (.int .i64)),.d (.one (.int .i64)),.d (.one (.int .i64))] [.d (.one .bool)] []
noncomputable def spec_l00In (a0 : Int) (a1 : Int) (a2 : Int) : Option (Bool) := spec_l00In_c.f (a0,a1,a2,())
theorem spec_l00In_eq (a0 : Int) (a1 : Int) (a2 : Int) : spec_l00In a0 a1 a2 =
 if decide (a0 ≥ a1) then
  some (decide (a0 ≤ a2))
 else
  some false :=
 (mk_f _ _ _ _ _ _ _ 4000).trans (by kernel_rfl)
def spec_l16Tone_ir : Fn := { np := 1,io := [],res := [.t 2],own := [false],body :=
 (.seq (.reg false [.V 2 (.asg (.c (.bool false)))] [0] []) (.seq (.reg false [.V 3 (.mv (.t 0)),.V 4 (.call (.c (.fn 1 [])) [.t 3,.c (.int .i64 1000),.c (.int .i64 100000)]),.V 2 (.asg (.t 4))] [2] []) .ret)) }
noncomputable def spec_l16Tone_D : List (Nat × Callee) := [(1,spec_l00In_c)]
def spec_l16Tone_H : List (Nat × ET) := []
noncomputable def spec_l16Tone_c : Callee := mkCallee spec_l16Tone_D spec_l16Tone_H spec_l16Tone_ir [.d (.one (.int .i64))] [.d (.one .bool)] []
noncomputable def spec_l16Tone (a0 : Int) : Option (Bool) := spec_l16Tone_c.f (a0,())
theorem spec_l16Tone_eq (a0 : Int) : spec_l16Tone a0 =
 (spec_l00In a0 1000 100000).bind fun x1 =>
  some x1 :=
 (mk_f _ _ _ _ _ _ _ 4000).trans (by kernel_rfl)
def spec_l16One_ir : Fn := { np := 1,io := [],res := [.t 2],own := [false],body :=
 (.seq (.reg false [.V 2 (.asg (.c (.bool false)))] [0] []) (.seq (.reg false [.V 3 (.mv (.t 0)),.V 4 (.nilck (.t 3)),.V 5 (.fa 0 (.t 4)),.V 6 (.ld none (.t 5)),.V 7 (.call (.c (.fn 13 [])) [.t 6]),.V 8 (.mv (.t 7)),.G 9 (.mv (.t 0)) 5 true,.G 10 (.nilck (.t 9)) 5 true,.G 11 (.fa 1 (.t 10)) 5 true,.G 12 (.ld none (.t 11)) 5 true,.G 13 (.call (.c (.fn 1012 [])) [.t 12]) 5 true,.V 14 (.pick (.t 8) (.t 13) (.c (.bool false))),.V 15 (.mv (.t 14)),.G 16 (.mv (.t 0)) 12 true,.G 17 (.nilck (.t 16)) 12 true,.G 18 (.fa 2 (.t 17)) 12 true,.G 19 (.ld none (.t 18)) 12 true,.G 20 (.call (.c (.fn 1 [])) [.t 19,.c (.int .i64 1),.c (.int .i64 500)]) 12 true,.V 21 (.pick (.t 15) (.t 20) (.c (.bool false))),.V 2 (.asg (.t 21))] [2] []) .ret)) }
noncomputable def spec_l16One_D : List (Nat × Callee) := [(1,spec_l00In_c),(13,spec_l01Name_c),(1012,spec_l16Tone_c)]
def spec_l16One_H : List (Nat × ET) := []
noncomputable def spec_l16One_c : Callee := mkCallee spec_l16One_D spec_l16One_H spec_l16One_ir [.p T_Mode] [.d (.one .bool)] []
noncomputable def spec_l16One (a0 : T_Mode.ty) : Option (Bool) := spec_l16One_c.f (a0,())
theorem spec_l16One_eq (a0 : T_Mode.ty) : spec_l16One a0 =
 (spec_l01Name a0.1).bind fun x1 =>
  if x1 then
   (spec_l16Tone a0.2.1).bind fun x2 =>
    if x2 then
     (spec_l00In a0.2.2.1 1 500).bind fun x3 =>
      some x3
    else
     some false
  else
   some false :=
 (mk_f _ _ _ _ _ _ _ 4000).trans (by kernel_rfl)
def spec_l16Ok_k0 : C :=
 .seq (.seq (.reg false [.V 4 (.mv (.t 3)),.V 5 (.mv (.t 0)),.V 6 (.len (.t 5)),.V 7 (.bin .lss (.t 4) (.t 6))] [0,3,7] []) (.cond (.t 7) .skip (.exit 0))) (.seq (.block 1 (.seq (.reg true [.V 10 (.mv (.t 0)),.V 11 (.mv (.t 3)),.V 12 (.ia 3 (.t 10) (.t 11)),.V 13 (.call (.c (.fn 848 [])) [.t 12]),.V 14 (.un .not (.t 13)),.V 15 (.mv (.t 14)),.G 16 (.mv (.t 3)) 5 false,.G 17 (.bin .gtr (.t 16) (.c (.int .i64 0))) 5 false,.G 18 (.mv (.t 17)) 5 false,.G 19 (.mv (.t 0)) 8 true,.G 20 (.mv (.t 3)) 8 true,.G 21 (.bin .sub (.t 20) (.c (.int .i64 1))) 8 true,.G 22 (.ia 3 (.t 19) (.t 21)) 8 true,.G 23 (.fa 0 (.t 22)) 8 true,.G 24 (.ld none (.t 23)) 8 true,.G 25 (.mv (.t 0)) 8 true,.G 26 (.mv (.t 3)) 8 true,.G 27 (.ia 3 (.t 25) (.t 26)) 8 true,.G 28 (.fa 0 (.t 27)) 8 true,.G 29 (.ld none (.t 28)) 8 true,.G 30 (.bin .geq (.t 24) (.t 29)) 8 true,.G 31 (.pick (.t 18) (.t 30) (.c (.bool false))) 5 false,.V 32 (.pick (.t 15) (.c (.bool true)) (.t 31))] [0,3,32] []) (.cond (.t 32) (.seq (.reg false [.V 2 (.asg (.c (.bool false)))] [2] []) .ret) .skip))) (.reg false [.V 8 (.mv (.t 3)),.V 9 (.bin .add (.t 8) (.c (.int .i64 1))),.V 3 (.asg (.t 9))] [0,3] []))
def spec_l16Ok_k1 : C :=
 .norm [0,3] [] spec_l16Ok_k0
def spec_l16Ok_k2 : C :=
 .seq (.reg false [.V 33 (.mv (.t 0)),.V 34 (.len (.t 33)),.V 35 (.bin .leq (.t 34) (.c (.int .i64 10))),.V 2 (.asg (.t 35))] [2] []) .ret
def spec_l16Ok_ir : Fn := { np := 1,io := [],res := [.t 2],own := [false],body :=
 (.seq (.reg false [.V 2 (.asg (.c (.bool false)))] [0] []) (.seq (.seq (.reg false [.V 3 (.asg (.c (.int .i64 0)))] [0,3] []) (.block 0 (.loop spec_l16Ok_k1))) spec_l16Ok_k2)) }
noncomputable def spec_l16Ok_D : List (Nat × Callee) := [(848,spec_l16One_c)]
def spec_l16Ok_H : List (Nat × ET) := [(5,T_Mode),(10,T_Mode),(19,T_Mode),(25,T_Mode),(33,T_Mode)]
noncomputable def spec_l16Ok_c : Callee := mkCallee spec_l16Ok_D spec_l16Ok_H spec_l16Ok_ir [.d (.one (.sl T_Mode))] [.d (.one .bool)] []
noncomputable def spec_l16Ok (a0 : List T_Mode.ty) : Option (Bool) := spec_l16Ok_c.f (a0,())
noncomputable def spec_l16Ok_p0  (v0 : List T_Mode.ty) (v3 : Int) : Option (Bool) :=
 goL spec_l16Ok_D spec_l16Ok_H (vleave spec_l16Ok_ir [.d (.one (.sl T_Mode))] [.d (.one .bool)] [] []) [.c spec_l16Ok_k0,.l spec_l16Ok_k1,.e 0,.c spec_l16Ok_k2]
  ⟨[(0,.sl T_Mode v0),(3,.int .i64 v3)],[]⟩
theorem spec_l16Ok_eq (a0 : List T_Mode.ty) : spec_l16Ok a0 =
 spec_l16Ok_p0 a0 0 :=
 (mk_f _ _ _ _ _ _ _ 4000).trans (by kernel_rfl)
theorem spec_l16Ok_p0_eq  (v0 : List T_Mode.ty) (v3 : Int) : spec_l16Ok_p0 v0 v3 =
 if decide (v3 < (v0.length : Int)) then
  if decide (0 ≤ v3) then
   (v0[v3.toNat]?).bind fun x1 =>
    (spec_l16One x1).bind fun x2 =>
     if (!x2) then
      some false
     else
      if decide (v3 > 0) then
       if decide (0 ≤ IntKind.i64.wrap (v3 - 1)) then
        (v0[(IntKind.i64.wrap (v3 - 1)).toNat]?).bind fun x3 =>
         if decide (0 ≤ v3) then
          (v0[v3.toNat]?).bind fun x4 =>
           if (!Op.bytesLess x3.1 x4.1) then
            some false
           else
            spec_l16Ok_p0 v0 (IntKind.i64.wrap (v3 + 1))
         else
          none
       else
        none
      else
       spec_l16Ok_p0 v0 (IntKind.i64.wrap (v3 + 1))
  else
   none
 else
  some (decide ((v0.length : Int) ≤ 10)) :=
 (goL_dn _ _ _ 4000 _ _).trans (by kernel_rfl)
def spec_ValidModes_ir : Fn := { np := 1,io := [],res := [.t 2],own := [false],body :=
 (.seq (.reg false [.V 2 (.asg (.c (.bool false)))] [0] []) (.seq (.reg false [.V 3 (.mv (.t 0)),.V 4 (.call (.c (.fn 474 [])) [.t 3]),.V 2 (.asg (.t 4))] [2] []) .ret)) }
noncomputable def spec_ValidModes_D : List (Nat × Callee) := [(474,spec_l16Ok_c)]
def spec_ValidModes_H : List (Nat × ET) := [(3,T_Mode)]
noncomputable def spec_ValidModes_c : Callee := mkCallee spec_ValidModes_D spec_ValidModes_H spec_ValidModes_ir [.d (.one (.sl T_Mode))] [.d (.one .bool)] []
noncomputable def spec_ValidModes (a0 : List T_Mode.ty) : Option (Bool) := spec_ValidModes_c.f (a0,())
theorem spec_ValidModes_eq (a0 : List T_Mode.ty) : spec_ValidModes a0 =
 (spec_l16Ok a0).bind fun x1 =>
  some x1 :=
 (mk_f _ _ _ _ _ _ _ 4000).trans (by kernel_rfl)
def spec_DrawWolfNotes_ir : Fn := { np := 1,io := [],res := [.t 2,.t 3],own := [true,false],body :=
 (.seq (.reg false [.W 2 (.asg (.c (.nils 3))),.V 3 (.asg (.c (.int .i64 0)))] [0] []) (.seq (.reg false [.V 6 (.mv (.t 0)),.W 7 (.call (.c (.fn 441 [])) [.t 6]),.V 4 (.asg (.t 7))] [4] [7,8000]) (.seq (.reg false [.V 8 (.mv (.t 4)),.W 9 (.call (.c (.fn 470 [])) [.t 8]),.W 5 (.asg (.t 9))] [4,5] [5,7,8000]) (.seq (.reg false [.V 10 (.mv (.t 5)),.V 11 (.mv (.t 4)),.V 12 (.bsl 1 (.int .i64 0) 7 [(0,.c (.int .i64 0)),(1,.c (.int .i64 5)),(2,.c (.int .i64 20)),(3,.c (.int .i64 90)),(4,.c (.int .i64 1000)),(5,.c (.int .i64 1001)),(6,.c (.int .i64 (-1)))]),.W 13 (.call (.c (.fn 445 [])) [.t 11,.t 12]),.W 2 (.asg (.t 10)),.V 3 (.asg (.t 13))] [2,3] [2,5]) .ret)))) }
noncomputable def spec_DrawWolfNotes_D : List (Nat × Callee) := [(441,spec_l00From_c),(445,spec_l00Src_among_c),(470,spec_l16Draw_c)]
def spec_DrawWolfNotes_H : List (Nat × ET) := [(2,T_Mode),(5,T_Mode),(6,(.one (.int .u8))),(9,T_Mode),(10,T_Mode),(12,(.one (.int .i64)))]
noncomputable def spec_DrawWolfNotes_c : Callee := mkCallee spec_DrawWolfNotes_D spec_DrawWolfNotes_H spec_DrawWolfNotes_ir [.d (.one (.sl (.one (.int .u8))))] [.tok T_Mode,.d (.one (.int .i64))] []
noncomputable def spec_DrawWolfNotes (a0 : List Int) : Option (List T_Mode.ty × Int) := spec_DrawWolfNotes_c.f (a0,())
theorem spec_DrawWolfNotes_eq (a0 : List Int) : spec_DrawWolfNotes a0 =
 (spec_l00From a0).bind fun x1 =>
  (spec_l16Draw x1).bind fun x2 =>
   (spec_l00Src_among (x2.2.1,x2.2.2.1,x2.2.2.2.1,()) [0,5,20,90,1000,1001,(-1)]).bind fun x3 =>
    some ((x2.1.take x2.1.length),x3.1) :=
 (mk_f _ _ _ _ _ _ _ 4000).trans (by kernel_rfl)
def impl_noteTone_ir : Fn := { np := 1,io := [],res := [.t 2],own := [false],body :=
 (.seq (.reg false [.V 2 (.asg (.c (.int .i64 0)))] [0] []) (.seq (.reg false [.V 3 (.build [.int .i64 0,.int .i64 0,.int .i64 0,.int .i64 0,.int .i64 0,.int .i64 0,.int .i64 0,.int .i64 0,.int .i64 0,.int .i64 0,.int .i64 0,.int .i64 0] [(0,1,.c (.int .i64 1308)),(1,1,.c (.int .i64 1386)),(2,1,.c (.int .i64 1468)),(3,1,.c (.int .i64 1556)),(4,1,.c (.int .i64 1648)),(5,1,.c (.int .i64 1746)),(6,1,.c (.int .i64 1850)),(7,1,.c (.int .i64 1960)),(8,1,.c (.int .i64 2077)),(9,1,.c (.int .i64 2200)),(10,1,.c (.int .i64 2331)),(11,1,.c (.int .i64 2469))]),.V 4 (.mv (.t 0)),.V 5 (.bin .rem (.t 4) (.c (.int .i64 12))),.V 6 (.ixa 12 1 none (.t 3) (.t 5)),.V 7 (.mv (.t 0)),.V 8 (.bin .quo (.t 7) (.c (.int .i64 12))),.V 9 (.bin .shl (.t 6) (.t 8)),.V 2 (.asg (.t 9))] [2] []) .ret)) }
noncomputable def impl_noteTone_D : List (Nat × Callee) := []
def impl_noteTone_H : List (Nat × ET) := []
noncomputable def impl_noteTone_c : Callee := mkCallee impl_noteTone_D impl_noteTone_H impl_noteTone_ir [.d (.one (.int .i64))] [.d (.one (.int .i64))] []
noncomputable def impl_noteTone (a0 : Int) : Option (Int) := impl_noteTone_c.f (a0,())
theorem impl_noteTone_eq (a0 : Int) : impl_noteTone a0 =
 if decide (a0.tmod 12 = 0) then
  if decide (IntKind.i64.wrap (a0.tdiv 12) < 0) then
   none
  else
   some (IntKind.i64.wrap (1308 * 2 ^ (min (IntKind.i64.wrap (a0.tdiv 12)).toNat IntKind.i64.bits)))
 else
  if decide (a0.tmod 12 = 1) then
   if decide (IntKind.i64.wrap (a0.tdiv 12) < 0) then
    none
   else
    some (IntKind.i64.wrap (1386 * 2 ^ (min (IntKind.i64.wrap (a0.tdiv 12)).toNat IntKind.i64.bits)))
  else
   if decide (a0.tmod 12 = 2) then
    if decide (IntKind.i64.wrap (a0.tdiv 12) < 0) then
     none
    else
     some (IntKind.i64.wrap (1468 * 2 ^ (min (IntKind.i64.wrap (a0.tdiv 12)).toNat IntKind.i64.bits)))
   else
    if decide (a0.tmod 12 = 3) then
     if decide (IntKind.i64.wrap (a0.tdiv 12) < 0) then
      none
     else
      some (IntKind.i64.wrap (1556 * 2 ^ (min (IntKind.i64.wrap (a0.tdiv 12)).toNat IntKind.i64.bits)))
    else
     if decide (a0.tmod 12 = 4) then
      if decide (IntKind.i64.wrap (a0.tdiv 12) < 0) then
       none
      else
       some (IntKind.i64.wrap (1648 * 2 ^ (min (IntKind.i64.wrap (a0.tdiv 12)).toNat IntKind.i64.bits)))
     else
      if decide (a0.tmod 12 = 5) then
       if decide (IntKind.i64.wrap (a0.tdiv 12) < 0) then
        none
       else
        some (IntKind.i64.wrap (1746 * 2 ^ (min (IntKind.i64.wrap (a0.tdiv 12)).toNat IntKind.i64.bits)))
      else
       if decide (a0.tmod 12 = 6) then
        if decide (IntKind.i64.wrap (a0.tdiv 12) < 0) then
         none
        else
         some (IntKind.i64.wrap (1850 * 2 ^ (min (IntKind.i64.wrap (a0.tdiv 12)).toNat IntKind.i64.bits)))
       else
        if decide (a0.tmod 12 = 7) then
         if decide (IntKind.i64.wrap (a0.tdiv 12) < 0) then
          none
         else
          some (IntKind.i64.wrap (1960 * 2 ^ (min (IntKind.i64.wrap (a0.tdiv 12)).toNat IntKind.i64.bits)))
        else
         if decide (a0.tmod 12 = 8) then
          if decide (IntKind.i64.wrap (a0.tdiv 12) < 0) then
           none
          else
           some (IntKind.i64.wrap (2077 * 2 ^ (min (IntKind.i64.wrap (a0.tdiv 12)).toNat IntKind.i64.bits)))
         else
          if decide (a0.tmod 12 = 9) then
           if decide (IntKind.i64.wrap (a0.tdiv 12) < 0) then
            none
           else
            some (IntKind.i64.wrap (2200 * 2 ^ (min (IntKind.i64.wrap (a0.tdiv 12)).toNat IntKind.i64.bits)))
          else
           if decide (a0.tmod 12 = 10) then
            if decide (IntKind.i64.wrap (a0.tdiv 12) < 0) then
             none
            else
             some (IntKind.i64.wrap (2331 * 2 ^ (min (IntKind.i64.wrap (a0.tdiv 12)).toNat IntKind.i64.bits)))
           else
            if decide (a0.tmod 12 = 11) then
             if decide (IntKind.i64.wrap (a0.tdiv 12) < 0) then
              none
             else
              some (IntKind.i64.wrap (2469 * 2 ^ (min (IntKind.i64.wrap (a0.tdiv 12)).toNat IntKind.i64.bits)))
            else
             none :=
 (mk_f _ _ _ _ _ _ _ 4000).trans (by kernel_rfl)
def impl_WolfNotes_k0 : C :=
 .seq (.reg false [.V 24 (.bin .lss (.t 23) (.t 22))] [0,1,6,7,8,18,21,22,23,24] [6]) (.seq (.cond (.t 24) .skip (.exit 2)) (.seq (.block 3 (.seq (.reg false [.V 25 (.ia 3 (.t 21) (.t 23)),.V 26 (.ld (some 3) (.t 25)),.W 10 (.alloc 3 (.agg [.str [],.int .i64 0,.int .i64 0])),⟨none,true,.sto 3 (.t 10) (.t 26),none,false,[]⟩] [0,1,6,7,8,10,18,21,22,23] [6,10]) (.reg true [.V 27 (.mv (.t 8)),.V 28 (.mv (.t 27)),.G 29 (.mv (.t 7)) 1 false,.G 30 (.call (.c (.fn 475 [])) [.t 29]) 1 false,.G 31 (.fa 1 (.t 10)) 1 false,.G 32 (.ld none (.t 31)) 1 false,.G 33 (.call (.c (.fn 448 [])) [.t 30,.t 32]) 1 false,.G 34 (.mv (.t 1)) 1 false,.G 35 (.bin .leq (.t 33) (.t 34)) 1 false,.V 36 (.pick (.t 28) (.c (.bool true)) (.t 35)),.V 8 (.asg (.t 36))] [0,1,6,7,8,18,21,22,23] [6]))) (.reg false [.V 37 (.bin .add (.t 23) (.c (.int .i64 1))),.V 23 (.mv (.t 37))] [0,1,6,7,8,18,21,22,23] [6])))
def impl_WolfNotes_k1 : C :=
 .norm [0,1,6,7,8,18,21,22,23] [6] impl_WolfNotes_k0
def impl_WolfNotes_k2 : C :=
 .seq (.reg false [.V 38 (.mv (.t 8))] [0,1,6,7,18,38] [6]) (.cond (.t 38) (.reg false [.V 39 (.mv (.t 6)),.V 40 (.mv (.t 7)),.V 41 (.bsl 1 (.int .i64 0) 1 [(0,.t 40)]),.W 42 (.app 1 8 (.t 39) (.t 41)),.W 6 (.asg (.t 42))] [0,1,6,18] [6]) .skip)
def impl_WolfNotes_k3 : C :=
 .reg false [.V 43 (.bin .add (.t 18) (.c (.int .i64 1))),.V 18 (.mv (.t 43))] [0,1,6,18] [6]
def impl_WolfNotes_k4 : C :=
 .seq (.reg false [.V 19 (.bin .lss (.t 18) (.c (.int .i64 61)))] [0,1,6,18,19] [6]) (.seq (.cond (.t 19) .skip (.exit 0)) (.seq (.block 1 (.seq (.reg false [.V 20 (.mv (.t 18)),.V 7 (.asg (.t 20))] [0,1,6,7,18] [6]) (.seq (.reg false [.V 8 (.asg (.c (.bool false)))] [0,1,6,7,8,18] [6]) (.seq (.seq (.reg false [.V 21 (.mv (.t 0)),.V 22 (.len (.t 21)),.V 23 (.mv (.c (.int .i64 0)))] [0,1,6,7,8,18,21,22,23] [6]) (.block 2 (.loop impl_WolfNotes_k1))) impl_WolfNotes_k2)))) impl_WolfNotes_k3))
def impl_WolfNotes_k5 : C :=
 .norm [0,1,6,18] [6] impl_WolfNotes_k4
def impl_WolfNotes_k6 : C :=
 .seq (.reg false [.V 44 (.mv (.t 6)),.W 4 (.asg (.t 44)),.V 5 (.asg (.c (.int .i64 0)))] [4,5] [4,6]) .ret
def impl_WolfNotes_ir : Fn := { np := 2,io := [],res := [.t 4,.t 5],own := [true,false],body :=
 (.seq (.reg false [.W 4 (.asg (.c (.nils 1))),.V 5 (.asg (.c (.int .i64 0)))] [0,1] []) (.seq (.seq (.reg false [.V 11 (.mv (.t 0)),.V 12 (.call (.c (.fn 472 [])) [.t 11]),.V 13 (.un .not (.t 12))] [0,1,13] []) (.cond (.t 13) (.seq (.reg false [.W 4 (.asg (.c (.nils 1))),.V 5 (.asg (.c (.int .i64 1)))] [4,5] [4,6]) .ret) .skip)) (.seq (.seq (.reg false [.V 14 (.mv (.t 1)),.V 15 (.call (.c (.fn 23 [])) [.t 14,.c (.int .i64 0),.c (.int .i64 1000)]),.V 16 (.un .not (.t 15))] [0,1,16] []) (.cond (.t 16) (.seq (.reg false [.W 4 (.asg (.c (.nils 1))),.V 5 (.asg (.c (.int .i64 2)))] [4,5] [4,6]) .ret) .skip)) (.seq (.reg false [.V 17 (.bsl 1 (.int .i64 0) 0 []),.W 6 (.asg (.t 17))] [0,1,6] [6]) (.seq (.seq (.reg false [.V 18 (.mv (.c (.int .i64 0)))] [0,1,6,18] [6]) (.block 0 (.loop impl_WolfNotes_k5))) impl_WolfNotes_k6))))) }
noncomputable def impl_WolfNotes_D : List (Nat × Callee) := [(23,impl_within_c),(448,impl_distance_c),(472,impl_ValidModes_c),(475,impl_noteTone_c)]
def impl_WolfNotes_H : List (Nat × ET) := [(4,(.one (.int .i64))),(6,(.one (.int .i64))),(11,T_Mode),(17,(.one (.int .i64))),(21,T_Mode),(39,(.one (.int .i64))),(41,(.one (.int .i64))),(42,(.one (.int .i64))),(44,(.one (.int .i64)))]
noncomputable def impl_WolfNotes_c : Callee := mkCallee impl_WolfNotes_D impl_WolfNotes_H impl_WolfNotes_ir [.d (.one (.sl T_Mode)),.d (.one (.int .i64))] [.tok (.one (.int .i64)),.d (.one (.int .i64))] []
noncomputable def impl_WolfNotes (a0 : List T_Mode.ty) (a1 : Int) : Option (List Int × Int) := impl_WolfNotes_c.f (a0,a1,())
noncomputable def impl_WolfNotes_p0  (v0 : List T_Mode.ty) (v1 : Int) (v18 : Int) (r6 : List Int) : Option (List Int × Int) :=
 goL impl_WolfNotes_D impl_WolfNotes_H (vleave impl_WolfNotes_ir [.d (.one (.sl T_Mode)),.d (.one (.int .i64))] [.tok (.one (.int .i64)),.d (.one (.int .i64))] [] []) [.c impl_WolfNotes_k4,.l impl_WolfNotes_k5,.e 0,.c impl_WolfNotes_k6]
  ⟨[(0,.sl T_Mode v0),(1,.int .i64 v1),(6,.view 6 0 r6.length),(18,.int .i64 v18)],[(6,some (.sl (.one (.int .i64)) r6))]⟩
noncomputable def impl_WolfNotes_p1  (v0 : List T_Mode.ty) (v1 : Int) (v7 : Int) (v8 : Bool) (v18 : Int) (v21 : List T_Mode.ty) (v22 : Int) (v23 : Int) (r6 : List Int) : Option (List Int × Int) :=
 goL impl_WolfNotes_D impl_WolfNotes_H (vleave impl_WolfNotes_ir [.d (.one (.sl T_Mode)),.d (.one (.int .i64))] [.tok (.one (.int .i64)),.d (.one (.int .i64))] [] []) [.c impl_WolfNotes_k0,.l impl_WolfNotes_k1,.e 2,.c impl_WolfNotes_k2,.e 1,.c impl_WolfNotes_k3,.l impl_WolfNotes_k5,.e 0,.c impl_WolfNotes_k6]
  ⟨[(0,.sl T_Mode v0),(1,.int .i64 v1),(6,.view 6 0 r6.length),(7,.int .i64 v7),(8,.bool v8),(18,.int .i64 v18),(21,.sl T_Mode v21),(22,.int .i64 v22),(23,.int .i64 v23)],[(6,some (.sl (.one (.int .i64)) r6))]⟩
theorem impl_WolfNotes_eq (a0 : List T_Mode.ty) (a1 : Int) : impl_WolfNotes a0 a1 =
 (impl_ValidModes a0).bind fun x1 =>
  if (!x1) then
   some ([],1)
  else
   (impl_within a1 0 1000).bind fun x2 =>
    if (!x2) then
     some ([],2)
    else
     impl_WolfNotes_p0 a0 a1 0 [] :=
 (mk_f _ _ _ _ _ _ _ 4000).trans (by kernel_rfl)
theorem impl_WolfNotes_p0_eq  (v0 : List T_Mode.ty) (v1 : Int) (v18 : Int) (r6 : List Int) : impl_WolfNotes_p0 v0 v1 v18 r6 =
 if decide (v18 < 61) then
  impl_WolfNotes_p1 v0 v1 v18 false v18 v0 (v0.length : Int) 0 r6
 else
  some ((r6.take r6.length),0) :=
 (goL_dn _ _ _ 4000 _ _).trans (by kernel_rfl)
theorem impl_WolfNotes_p1_eq  (v0 : List T_Mode.ty) (v1 : Int) (v7 : Int) (v8 : Bool) (v18 : Int) (v21 : List T_Mode.ty) (v22 : Int) (v23 : Int) (r6 : List Int) : impl_WolfNotes_p1 v0 v1 v7 v8 v18 v21 v22 v23 r6 =
 if decide (v23 < v22) then
  if decide (0 ≤ v23) then
   (v21[v23.toNat]?).bind fun x1 =>
    if v8 then
     impl_WolfNotes_p1 v0 v1 v7 true v18 v21 v22 (IntKind.i64.wrap (v23 + 1)) r6
    else
     (impl_noteTone v7).bind fun x2 =>
      (impl_distance x2 x1.2.1).bind fun x3 =>
       impl_WolfNotes_p1 v0 v1 v7 (decide (x3 ≤ v1)) v18 v21 v22 (IntKind.i64.wrap (v23 + 1)) r6
  else
   none
 else
  if v8 then
   if decide (r6.length + 1 < lim) then
    impl_WolfNotes_p0 v0 v1 (IntKind.i64.wrap (v18 + 1)) ((r6.take r6.length) ++ [v7])
   else
    none
  else
   impl_WolfNotes_p0 v0 v1 (IntKind.i64.wrap (v18 + 1)) r6 :=
 (goL_dn _ _ _ 4000 _ _).trans (by kernel_rfl)
def spec_l16Note_ir : Fn := { np := 1,io := [],res := [.t 2],own := [false],body :=
 (.seq (.reg false [.V 2 (.asg (.c (.bool false)))] [0] []) (.seq (.reg false [.V 3 (.mv (.t 0)),.V 4 (.call (.c (.fn 1 [])) [.t 3,.c (.int .i64 0),.c (.int .i64 60)]),.V 2 (.asg (.t 4))] [2] []) .ret)) }
noncomputable def spec_l16Note_D : List (Nat × Callee) := [(1,spec_l00In_c)]
def spec_l16Note_H : List (Nat × ET) := []
noncomputable def spec_l16Note_c : Callee := mkCallee spec_l16Note_D spec_l16Note_H spec_l16Note_ir [.d (.one (.int .i64))] [.d (.one .bool)] []
noncomputable def spec_l16Note (a0 : Int) : Option (Bool) := spec_l16Note_c.f (a0,())
theorem spec_l16Note_eq (a0 : Int) : spec_l16Note a0 =
 (spec_l00In a0 0 60).bind fun x1 =>
  some x1 :=
 (mk_f _ _ _ _ _ _ _ 4000).trans (by kernel_rfl)
def spec_l16NoteTone_ir : Fn := { np := 1,io := [],res := [.t 2],own := [false],body :=
 (.seq (.reg false [.V 2 (.asg (.c (.int .i64 0)))] [0] []) (.seq (.reg false [.V 4 (.bsl 1 (.int .i64 0) 12 [(0,.c (.int .i64 1308)),(1,.c (.int .i64 1386)),(2,.c (.int .i64 1468)),(3,.c (.int .i64 1556)),(4,.c (.int .i64 1648)),(5,.c (.int .i64 1746)),(6,.c (.int .i64 1850)),(7,.c (.int .i64 1960)),(8,.c (.int .i64 2077)),(9,.c (.int .i64 2200)),(10,.c (.int .i64 2331)),(11,.c (.int .i64 2469))]),.W 3 (.asg (.t 4))] [0,3] [3]) (.seq (.reg false [.V 5 (.mv (.t 3)),.V 6 (.mv (.t 0)),.V 7 (.bin .rem (.t 6) (.c (.int .i64 12))),.V 8 (.ia 1 (.t 5) (.t 7)),.V 9 (.ld none (.t 8)),.V 10 (.mv (.t 0)),.V 11 (.bin .quo (.t 10) (.c (.int .i64 12))),.V 12 (.conv (.int .u64) (.t 11)),.V 13 (.bin .shl (.t 9) (.t 12)),.V 2 (.asg (.t 13))] [2] []) .ret))) }
noncomputable def spec_l16NoteTone_D : List (Nat × Callee) := []
def spec_l16NoteTone_H : List (Nat × ET) := [(3,(.one (.int .i64))),(4,(.one (.int .i64))),(5,(.one (.int .i64)))]
noncomputable def spec_l16NoteTone_c : Callee := mkCallee spec_l16NoteTone_D spec_l16NoteTone_H spec_l16NoteTone_ir [.d (.one (.int .i64))] [.d (.one (.int .i64))] []
noncomputable def spec_l16NoteTone (a0 : Int) : Option (Int) := spec_l16NoteTone_c.f (a0,())
theorem spec_l16NoteTone_eq (a0 : Int) : spec_l16NoteTone a0 =
 if decide (0 ≤ a0.tmod 12) && decide (a0.tmod 12 < 12) then
  ([1308,1386,1468,1556,1648,1746,1850,1960,2077,2200,2331,2469][(a0.tmod 12).toNat]?).bind fun x1 =>
   if decide (IntKind.u64.wrap (IntKind.i64.wrap (a0.tdiv 12)) < 0) then
    none
   else
    some (IntKind.i64.wrap (x1 * 2 ^ (min (IntKind.u64.wrap (IntKind.i64.wrap (a0.tdiv 12))).toNat IntKind.i64.bits)))
 else
  none :=
 (mk_f _ _ _ _ _ _ _ 4000).trans (by kernel_rfl)
def spec_NoteTone_ir : Fn := { np := 1,io := [],res := [.t 2,.t 3],own := [false,false],body :=
 (.seq (.reg false [.V 2 (.asg (.c (.int .i64 0))),.V 3 (.asg (.c (.int .i64 0)))] [0] []) (.seq (.seq (.reg false [.V 4 (.mv (.t 0)),.V 5 (.call (.c (.fn 477 [])) [.t 4]),.V 6 (.un .not (.t 5))] [0,6] []) (.cond (.t 6) (.seq (.reg false [.V 2 (.asg (.c (.int .i64 0))),.V 3 (.asg (.c (.int .i64 2)))] [2,3] []) .ret) .skip)) (.seq (.reg false [.V 7 (.mv (.t 0)),.V 8 (.call (.c (.fn 476 [])) [.t 7]),.V 2 (.asg (.t 8)),.V 3 (.asg (.c (.int .i64 0)))] [2,3] []) .ret))) }
noncomputable def spec_NoteTone_D : List (Nat × Callee) := [(476,spec_l16NoteTone_c),(477,spec_l16Note_c)]
def spec_NoteTone_H : List (Nat × ET) := []
noncomputable def spec_NoteTone_c : Callee := mkCallee spec_NoteTone_D spec_NoteTone_H spec_NoteTone_ir [.d (.one (.int .i64))] [.d (.one (.int .i64)),.d (.one (.int .i64))] []
noncomputable def spec_NoteTone (a0 : Int) : Option (Int × Int) := spec_NoteTone_c.f (a0,())
theorem spec_NoteTone_eq (a0 : Int) : spec_NoteTone a0 =
 (spec_l16Note a0).bind fun x1 =>
  if (!x1) then
   some (0,2)
  else
   (spec_l16NoteTone a0).bind fun x2 =>
    some (x2,0) :=
 (mk_f _ _ _ _ _ _ _ 4000).trans (by kernel_rfl)
def laws_FnModes_k0 : C :=
 .seq (.reg true [.V 98 (.mv (.t 11)),.V 99 (.mv (.t 5)),.V 100 (.mv (.t 13)),.V 101 (.ia 3 (.t 99) (.t 100)),.V 102 (.fa 1 (.t 101)),.V 103 (.ld none (.t 102)),.V 104 (.mv (.t 6)),.V 105 (.mv (.t 8)),.V 106 (.mv (.t 13)),.V 107 (.ia 1 (.t 105) (.t 106)),.V 108 (.ld none (.t 107)),.V 109 (.ia 3 (.t 104) (.t 108)),.V 110 (.fa 1 (.t 109)),.V 111 (.ld none (.t 110)),.V 112 (.bin .sub (.t 103) (.t 111)),.V 113 (.call (.c (.fn 66 [])) [.t 112]),.V 114 (.bin .add (.t 98) (.t 113)),.V 11 (.asg (.t 114))] [0,1,5,6,8,9,11,12,13] [5,6,8]) (.reg true [.V 115 (.mv (.t 12)),.V 116 (.mv (.t 5)),.V 117 (.mv (.t 13)),.V 118 (.ia 3 (.t 116) (.t 117)),.V 119 (.fa 1 (.t 118)),.V 120 (.ld none (.t 119)),.V 121 (.mv (.t 6)),.V 122 (.mv (.t 13)),.V 123 (.ia 3 (.t 121) (.t 122)),.V 124 (.fa 1 (.t 123)),.V 125 (.ld none (.t 124)),.V 126 (.bin .sub (.t 120) (.t 125)),.V 127 (.call (.c (.fn 66 [])) [.t 126]),.V 128 (.bin .add (.t 115) (.t 127)),.V 12 (.asg (.t 128))] [0,1,5,6,8,9,11,12,13] [5,6,8])
def laws_FnModes_k1 : C :=
 .reg false [.V 72 (.mv (.t 13)),.V 73 (.bin .add (.t 72) (.c (.int .i64 1))),.V 13 (.asg (.t 73))] [0,1,5,6,8,9,11,12,13] [5,6,8]
def laws_FnModes_k2 : C :=
 .seq (.seq (.reg false [.V 68 (.mv (.t 13)),.V 69 (.mv (.t 8)),.V 70 (.len (.t 69)),.V 71 (.bin .lss (.t 68) (.t 70))] [0,1,5,6,8,9,11,12,13,71] [5,6,8]) (.cond (.t 71) .skip (.exit 0))) (.seq (.block 1 (.seq (.seq (.reg true [.V 74 (.mv (.t 8)),.V 75 (.mv (.t 13)),.V 76 (.ia 1 (.t 74) (.t 75)),.V 77 (.ld none (.t 76)),.V 78 (.bin .lss (.t 77) (.c (.int .i64 0))),.V 79 (.mv (.t 78)),.G 80 (.mv (.t 8)) 5 false,.G 81 (.mv (.t 13)) 5 false,.G 82 (.ia 1 (.t 80) (.t 81)) 5 false,.G 83 (.ld none (.t 82)) 5 false,.G 84 (.mv (.t 6)) 5 false,.G 85 (.len (.t 84)) 5 false,.G 86 (.bin .geq (.t 83) (.t 85)) 5 false,.V 87 (.pick (.t 79) (.c (.bool true)) (.t 86)),.V 88 (.mv (.t 87)),.G 89 (.mv (.t 8)) 14 false,.G 90 (.mv (.t 13)) 14 false,.G 91 (.slc 1 (.t 89) none (some (.t 90))) 14 false,.G 92 (.mv (.t 8)) 14 false,.G 93 (.mv (.t 13)) 14 false,.G 94 (.ia 1 (.t 92) (.t 93)) 14 false,.G 95 (.ld none (.t 94)) 14 false,.G 96 (.call (.c (.fn 69 [])) [.t 91,.t 95]) 14 false,.V 97 (.pick (.t 88) (.c (.bool true)) (.t 96))] [0,1,5,6,8,9,11,12,13,97] [5,6,8]) (.cond (.t 97) (.seq (.reg false [.V 4 (.asg (.c (.bool false)))] [4] []) .ret) .skip)) (.norm [0,1,5,6,8,9,11,12,13] [5,6,8] laws_FnModes_k0))) laws_FnModes_k1)
def laws_FnModes_k3 : C :=
 .norm [0,1,5,6,8,9,11,12,13] [5,6,8] laws_FnModes_k2
def laws_FnModes_k4 : C :=
 .seq (.reg false [.V 129 (.mv (.t 11)),.V 130 (.mv (.t 9)),.V 131 (.bin .neq (.t 129) (.t 130)),.V 132 (.mv (.t 131)),.G 133 (.mv (.t 9)) 3 false,.G 134 (.mv (.t 12)) 3 false,.G 135 (.bin .gtr (.t 133) (.t 134)) 3 false,.V 136 (.pick (.t 132) (.c (.bool true)) (.t 135))] [0,1,136] []) (.cond (.t 136) (.seq (.reg false [.V 4 (.asg (.c (.bool false)))] [4] []) .ret) .skip)
def laws_FnModes_k5 : C :=
 .seq (.seq (.reg false [.V 13 (.asg (.c (.int .i64 0)))] [0,1,5,6,8,9,11,12,13] [5,6,8]) (.block 0 (.loop laws_FnModes_k3))) laws_FnModes_k4
def laws_FnModes_k6 : C :=
 .seq (.seq (.reg false [.V 173 (.mv (.t 19)),.V 174 (.mv (.t 18)),.V 175 (.bin .lss (.t 173) (.t 174))] [0,1,14,15,16,18,19,175] [14]) (.cond (.t 175) .skip (.exit 4))) (.seq (.block 5 (.seq (.reg true [.V 178 (.mv (.t 14)),.V 179 (.mv (.t 18)),.V 180 (.ia 3 (.t 178) (.t 179)),.V 181 (.fa 1 (.t 180)),.V 182 (.ld none (.t 181)),.V 183 (.mv (.t 14)),.V 184 (.mv (.t 19)),.V 185 (.ia 3 (.t 183) (.t 184)),.V 186 (.fa 1 (.t 185)),.V 187 (.ld none (.t 186)),.V 188 (.bin .sub (.t 182) (.t 187)),.V 189 (.call (.c (.fn 66 [])) [.t 188]),.V 190 (.mv (.t 14)),.V 191 (.mv (.t 15)),.V 192 (.ia 3 (.t 190) (.t 191)),.V 193 (.fa 1 (.t 192)),.V 194 (.ld none (.t 193)),.V 195 (.mv (.t 14)),.V 196 (.mv (.t 16)),.V 197 (.ia 3 (.t 195) (.t 196)),.V 198 (.fa 1 (.t 197)),.V 199 (.ld none (.t 198)),.V 200 (.bin .sub (.t 194) (.t 199)),.V 201 (.call (.c (.fn 66 [])) [.t 200]),.V 202 (.bin .lss (.t 189) (.t 201))] [0,1,14,15,16,18,19,202] [14]) (.cond (.t 202) (.seq (.reg false [.V 4 (.asg (.c (.bool false)))] [4] []) .ret) .skip))) (.reg false [.V 176 (.mv (.t 19)),.V 177 (.bin .add (.t 176) (.c (.int .i64 1))),.V 19 (.asg (.t 177))] [0,1,14,15,16,18,19] [14]))
def laws_FnModes_k7 : C :=
 .norm [0,1,14,15,16,18,19] [14] laws_FnModes_k6
def laws_FnModes_k8 : C :=
 .reg false [.V 171 (.mv (.t 18)),.V 172 (.bin .add (.t 171) (.c (.int .i64 1))),.V 18 (.asg (.t 172))] [0,1,14,15,16,18] [14]
def laws_FnModes_k9 : C :=
 .seq (.seq (.reg false [.V 167 (.mv (.t 18)),.V 168 (.mv (.t 14)),.V 169 (.len (.t 168)),.V 170 (.bin .lss (.t 167) (.t 169))] [0,1,14,15,16,18,170] [14]) (.cond (.t 170) .skip (.exit 2))) (.seq (.block 3 (.seq (.reg false [.V 19 (.asg (.c (.int .i64 0)))] [0,1,14,15,16,18,19] [14]) (.block 4 (.loop laws_FnModes_k7)))) laws_FnModes_k8)
def laws_FnModes_k10 : C :=
 .norm [0,1,14,15,16,18] [14] laws_FnModes_k9
def laws_FnModes_k11 : C :=
 .seq (.reg false [.V 18 (.asg (.c (.int .i64 0)))] [0,1,14,15,16,18] [14]) (.block 2 (.loop laws_FnModes_k10))
def laws_FnModes_k12 : C :=
 .seq (.seq (.reg false [.V 226 (.mv (.t 24)),.V 227 (.mv (.t 20)),.V 228 (.len (.t 227)),.V 229 (.bin .lss (.t 226) (.t 228))] [1,20,21,22,24,229] [20,22]) (.cond (.t 229) .skip (.exit 6))) (.seq (.block 7 (.seq (.reg true [.V 232 (.mv (.t 22)),.V 233 (.mv (.t 24)),.V 234 (.ia 3 (.t 232) (.t 233)),.V 235 (.fa 1 (.t 234)),.V 236 (.ld none (.t 235)),.V 237 (.bin .mul (.c (.int .i64 1000)) (.t 236)),.V 238 (.mv (.t 20)),.V 239 (.mv (.t 24)),.V 240 (.ia 3 (.t 238) (.t 239)),.V 241 (.fa 1 (.t 240)),.V 242 (.ld none (.t 241)),.V 243 (.mv (.t 21)),.V 244 (.bin .mul (.t 242) (.t 243)),.V 245 (.bin .sub (.t 237) (.t 244)),.V 246 (.call (.c (.fn 66 [])) [.t 245]),.V 247 (.bin .mul (.c (.int .i64 2)) (.t 246)),.V 248 (.bin .gtr (.t 247) (.c (.int .i64 1000))),.V 249 (.mv (.t 248)),.G 250 (.mv (.t 22)) 17 false,.G 251 (.mv (.t 24)) 17 false,.G 252 (.ia 3 (.t 250) (.t 251)) 17 false,.G 253 (.fa 0 (.t 252)) 17 false,.G 254 (.ld none (.t 253)) 17 false,.G 255 (.mv (.t 20)) 17 false,.G 256 (.mv (.t 24)) 17 false,.G 257 (.ia 3 (.t 255) (.t 256)) 17 false,.G 258 (.fa 0 (.t 257)) 17 false,.G 259 (.ld none (.t 258)) 17 false,.G 260 (.bin .neq (.t 254) (.t 259)) 17 false,.V 261 (.pick (.t 249) (.c (.bool true)) (.t 260)),.V 262 (.mv (.t 261)),.G 263 (.mv (.t 22)) 30 false,.G 264 (.mv (.t 24)) 30 false,.G 265 (.ia 3 (.t 263) (.t 264)) 30 false,.G 266 (.fa 2 (.t 265)) 30 false,.G 267 (.ld none (.t 266)) 30 false,.G 268 (.mv (.t 20)) 30 false,.G 269 (.mv (.t 24)) 30 false,.G 270 (.ia 3 (.t 268) (.t 269)) 30 false,.G 271 (.fa 2 (.t 270)) 30 false,.G 272 (.ld none (.t 271)) 30 false,.G 273 (.bin .neq (.t 267) (.t 272)) 30 false,.V 274 (.pick (.t 262) (.c (.bool true)) (.t 273))] [1,20,21,22,24,274] [20,22]) (.cond (.t 274) (.seq (.reg false [.V 4 (.asg (.c (.bool false)))] [4] []) .ret) .skip))) (.reg false [.V 230 (.mv (.t 24)),.V 231 (.bin .add (.t 230) (.c (.int .i64 1))),.V 24 (.asg (.t 231))] [1,20,21,22,24] [20,22]))
def laws_FnModes_k13 : C :=
 .norm [1,20,21,22,24] [20,22] laws_FnModes_k12
def laws_FnModes_k14 : C :=
 .seq (.reg false [.V 24 (.asg (.c (.int .i64 0)))] [1,20,21,22,24] [20,22]) (.block 6 (.loop laws_FnModes_k13))
def laws_FnModes_k15 : C :=
 .seq (.seq (.reg false [.V 303 (.mv (.t 33)),.V 304 (.mv (.t 25)),.V 305 (.len (.t 304)),.V 306 (.bin .lss (.t 303) (.t 305))] [25,26,27,29,30,31,32,33,306] [25,27]) (.cond (.t 306) .skip (.exit 10))) (.seq (.block 11 (.reg false [.V 309 (.mv (.t 32)),.V 310 (.mv (.t 309)),.G 311 (.mv (.t 30)) 1 false,.G 312 (.mv (.t 25)) 1 false,.G 313 (.mv (.t 33)) 1 false,.G 314 (.ia 3 (.t 312) (.t 313)) 1 false,.G 315 (.fa 1 (.t 314)) 1 false,.G 316 (.ld none (.t 315)) 1 false,.G 317 (.bin .sub (.t 311) (.t 316)) 1 false,.G 318 (.call (.c (.fn 66 [])) [.t 317]) 1 false,.G 319 (.mv (.t 26)) 1 false,.G 320 (.bin .leq (.t 318) (.t 319)) 1 false,.V 321 (.pick (.t 310) (.c (.bool true)) (.t 320)),.V 32 (.asg (.t 321))] [25,26,27,29,30,31,32,33] [25,27])) (.reg false [.V 307 (.mv (.t 33)),.V 308 (.bin .add (.t 307) (.c (.int .i64 1))),.V 33 (.asg (.t 308))] [25,26,27,29,30,31,32,33] [25,27]))
def laws_FnModes_k16 : C :=
 .norm [25,26,27,29,30,31,32,33] [25,27] laws_FnModes_k15
def laws_FnModes_k17 : C :=
 .seq (.reg false [.V 322 (.mv (.t 31)),.V 323 (.bin .neq (.t 322) (.c (.int .i64 0))),.V 324 (.mv (.t 323)),.G 325 (.mv (.t 27)) 2 false,.G 326 (.mv (.t 29)) 2 false,.G 327 (.call (.c (.fn 69 [])) [.t 325,.t 326]) 2 false,.G 328 (.mv (.t 32)) 2 false,.G 329 (.eqb true (.t 327) (.t 328)) 2 false,.V 330 (.pick (.t 324) (.c (.bool true)) (.t 329))] [25,26,27,29,330] [25,27]) (.cond (.t 330) (.seq (.reg false [.V 4 (.asg (.c (.bool false)))] [4] []) .ret) .skip)
def laws_FnModes_k18 : C :=
 .reg false [.V 296 (.mv (.t 29)),.V 297 (.bin .add (.t 296) (.c (.int .i64 1))),.V 29 (.asg (.t 297))] [25,26,27,29] [25,27]
def laws_FnModes_k19 : C :=
 .seq (.seq (.reg false [.V 294 (.mv (.t 29)),.V 295 (.bin .leq (.t 294) (.c (.int .i64 60)))] [25,26,27,29,295] [25,27]) (.cond (.t 295) .skip (.exit 8))) (.seq (.block 9 (.seq (.reg false [.V 299 (.mv (.t 29)),.V 300 (.call (.c (.fn 101 [])) [.t 299]),.V 298 (.mv (.t 300)),.V 301 (.ext (.t 298) 0),.V 302 (.ext (.t 298) 1),.V 30 (.asg (.t 301)),.V 31 (.asg (.t 302))] [25,26,27,29,30,31] [25,27]) (.seq (.reg false [.V 32 (.asg (.c (.bool false)))] [25,26,27,29,30,31,32] [25,27]) (.seq (.seq (.reg false [.V 33 (.asg (.c (.int .i64 0)))] [25,26,27,29,30,31,32,33] [25,27]) (.block 10 (.loop laws_FnModes_k16))) laws_FnModes_k17)))) laws_FnModes_k18)
def laws_FnModes_k20 : C :=
 .norm [25,26,27,29] [25,27] laws_FnModes_k19
def laws_FnModes_k21 : C :=
 .seq (.reg false [.V 4 (.asg (.c (.bool true)))] [4] []) .ret
def laws_FnModes_k22 : C :=
 .seq (.reg false [.V 279 (.mv (.t 1)),.V 280 (.call (.c (.fn 103 [])) [.t 279]),.V 278 (.mv (.t 280)),.V 281 (.ext (.t 278) 0),.V 282 (.ext (.t 278) 1),.W 25 (.asg (.t 281)),.V 26 (.asg (.t 282))] [25,26] [25]) (.seq (.reg false [.V 284 (.mv (.t 25)),.V 285 (.mv (.t 26)),.V 286 (.call (.c (.fn 102 [])) [.t 284,.t 285]),.V 283 (.mv (.t 286)),.V 287 (.ext (.t 283) 0),.V 288 (.ext (.t 283) 1),.W 27 (.asg (.t 287)),.V 28 (.asg (.t 288))] [25,26,27,28] [25,27]) (.seq (.seq (.reg false [.V 289 (.mv (.t 28)),.V 290 (.bin .neq (.t 289) (.c (.int .i64 0)))] [25,26,27,290] [25,27]) (.cond (.t 290) (.seq (.reg false [.V 291 (.mv (.t 27)),.V 292 (.len (.t 291)),.V 293 (.bin .eql (.t 292) (.c (.int .i64 0))),.V 4 (.asg (.t 293))] [4] []) .ret) .skip)) (.seq (.seq (.reg false [.V 29 (.asg (.c (.int .i64 0)))] [25,26,27,29] [25,27]) (.block 8 (.loop laws_FnModes_k20))) laws_FnModes_k21)))
def laws_FnModes_k23 : C :=
 .norm [1] [] laws_FnModes_k22
def laws_FnModes_k24 : C :=
 .seq (.reg false [.V 204 (.mv (.t 0)),.V 205 (.call (.c (.fn 106 [])) [.t 204]),.V 203 (.mv (.t 205)),.V 206 (.ext (.t 203) 0),.V 207 (.ext (.t 203) 1),.W 20 (.asg (.t 206)),.V 21 (.asg (.t 207))] [1,20,21] [20]) (.seq (.reg false [.V 209 (.mv (.t 20)),.V 210 (.mv (.t 21)),.V 211 (.call (.c (.fn 105 [])) [.t 209,.t 210]),.V 208 (.mv (.t 211)),.V 212 (.ext (.t 208) 0),.V 213 (.ext (.t 208) 1),.W 22 (.asg (.t 212)),.V 23 (.asg (.t 213))] [1,20,21,22,23] [20,22]) (.seq (.seq (.reg false [.V 214 (.mv (.t 23)),.V 215 (.bin .eql (.t 214) (.c (.int .i64 0)))] [1,20,21,22,215] [20,22]) (.cond (.t 215) (.seq (.seq (.reg false [.V 216 (.mv (.t 22)),.V 217 (.len (.t 216)),.V 218 (.mv (.t 20)),.V 219 (.len (.t 218)),.V 220 (.bin .neq (.t 217) (.t 219)),.V 221 (.mv (.t 220)),.G 222 (.mv (.t 22)) 5 false,.G 223 (.call (.c (.fn 104 [])) [.t 222]) 5 false,.G 224 (.un .not (.t 223)) 5 false,.V 225 (.pick (.t 221) (.c (.bool true)) (.t 224))] [1,20,21,22,225] [20,22]) (.cond (.t 225) (.seq (.reg false [.V 4 (.asg (.c (.bool false)))] [4] []) .ret) .skip)) (.norm [1,20,21,22] [20,22] laws_FnModes_k14)) (.seq (.reg false [.V 275 (.mv (.t 22)),.V 276 (.len (.t 275)),.V 277 (.bin .neq (.t 276) (.c (.int .i64 0)))] [1,277] []) (.cond (.t 277) (.seq (.reg false [.V 4 (.asg (.c (.bool false)))] [4] []) .ret) .skip)))) laws_FnModes_k23))
def laws_FnModes_k25 : C :=
 .norm [0,1] [] laws_FnModes_k24
def laws_FnModes_k26 : C :=
 .seq (.reg false [.V 144 (.mv (.t 1)),.V 145 (.call (.c (.fn 108 [])) [.t 144]),.W 14 (.asg (.t 145))] [0,1,14] [14]) (.seq (.reg false [.V 147 (.mv (.t 14)),.V 148 (.call (.c (.fn 107 [])) [.t 147]),.V 146 (.mv (.t 148)),.V 149 (.ext (.t 146) 0),.V 150 (.ext (.t 146) 1),.V 151 (.ext (.t 146) 2),.V 15 (.asg (.t 149)),.V 16 (.asg (.t 150)),.V 17 (.asg (.t 151))] [0,1,14,15,16,17] [14]) (.seq (.seq (.reg false [.V 152 (.mv (.t 17)),.V 153 (.bin .eql (.t 152) (.c (.int .i64 0)))] [0,1,14,15,16,153] [14]) (.cond (.t 153) (.seq (.seq (.reg false [.V 154 (.mv (.t 15)),.V 155 (.bin .lss (.t 154) (.c (.int .i64 0))),.V 156 (.mv (.t 155)),.G 157 (.mv (.t 15)) 2 false,.G 158 (.mv (.t 16)) 2 false,.G 159 (.bin .geq (.t 157) (.t 158)) 2 false,.V 160 (.pick (.t 156) (.c (.bool true)) (.t 159)),.V 161 (.mv (.t 160)),.G 162 (.mv (.t 16)) 7 false,.G 163 (.mv (.t 14)) 7 false,.G 164 (.len (.t 163)) 7 false,.G 165 (.bin .geq (.t 162) (.t 164)) 7 false,.V 166 (.pick (.t 161) (.c (.bool true)) (.t 165))] [0,1,14,15,16,166] [14]) (.cond (.t 166) (.seq (.reg false [.V 4 (.asg (.c (.bool false)))] [4] []) .ret) .skip)) (.norm [0,1,14,15,16] [14] laws_FnModes_k11)) .skip)) laws_FnModes_k25))
def laws_FnModes_k27 : C :=
 .norm [0,1] [] laws_FnModes_k26
def laws_FnModes_k28 : C :=
 .seq (.reg false [.V 41 (.mv (.t 0)),.V 42 (.call (.c (.fn 110 [])) [.t 41]),.V 40 (.mv (.t 42)),.V 43 (.ext (.t 40) 0),.V 44 (.ext (.t 40) 1),.V 45 (.ext (.t 40) 2),.W 5 (.asg (.t 43)),.W 6 (.asg (.t 44)),.V 7 (.asg (.t 45))] [0,1,5,6,7] [5,6]) (.seq (.reg false [.V 47 (.mv (.t 5)),.V 48 (.mv (.t 6)),.V 49 (.mv (.t 7)),.W 50 (.call (.c (.fn 109 [])) [.t 47,.t 48,.t 49]),.V 46 (.mv (.t 50)),.V 51 (.ext (.t 46) 0),.V 52 (.ext (.t 46) 1),.V 53 (.ext (.t 46) 2),.W 8 (.asg (.t 51)),.V 9 (.asg (.t 52)),.V 10 (.asg (.t 53))] [0,1,5,6,8,9,10] [5,6,8]) (.seq (.seq (.reg false [.V 54 (.mv (.t 10)),.V 55 (.bin .eql (.t 54) (.c (.int .i64 0)))] [0,1,5,6,8,9,55] [5,6,8]) (.cond (.t 55) (.seq (.reg false [.V 11 (.asg (.c (.int .i64 0)))] [0,1,5,6,8,9,11] [5,6,8]) (.seq (.reg false [.V 12 (.asg (.c (.int .i64 0)))] [0,1,5,6,8,9,11,12] [5,6,8]) (.seq (.seq (.reg false [.V 56 (.mv (.t 8)),.V 57 (.len (.t 56)),.V 58 (.mv (.t 5)),.V 59 (.len (.t 58)),.V 60 (.bin .neq (.t 57) (.t 59)),.V 61 (.mv (.t 60)),.G 62 (.mv (.t 6)) 5 false,.G 63 (.len (.t 62)) 5 false,.G 64 (.mv (.t 5)) 5 false,.G 65 (.len (.t 64)) 5 false,.G 66 (.bin .lss (.t 63) (.t 65)) 5 false,.V 67 (.pick (.t 61) (.c (.bool true)) (.t 66))] [0,1,5,6,8,9,11,12,67] [5,6,8]) (.cond (.t 67) (.seq (.reg false [.V 4 (.asg (.c (.bool false)))] [4] []) .ret) .skip)) (.norm [0,1,5,6,8,9,11,12] [5,6,8] laws_FnModes_k5)))) (.seq (.reg false [.V 137 (.mv (.t 8)),.V 138 (.len (.t 137)),.V 139 (.bin .neq (.t 138) (.c (.int .i64 0))),.V 140 (.mv (.t 139)),.G 141 (.mv (.t 9)) 3 false,.G 142 (.bin .neq (.t 141) (.c (.int .i64 0))) 3 false,.V 143 (.pick (.t 140) (.c (.bool true)) (.t 142))] [0,1,143] []) (.cond (.t 143) (.seq (.reg false [.V 4 (.asg (.c (.bool false)))] [4] []) .ret) .skip)))) laws_FnModes_k27))
def laws_FnModes_ir : Fn := { np := 2,io := [],res := [.t 4],own := [false],body :=
 (.seq (.reg false [.V 4 (.asg (.c (.bool false)))] [0,1] []) (.seq (.seq (.reg false [.V 34 (.mv (.t 0)),.V 35 (.call (.c (.fn 76 [])) [.t 34]),.V 36 (.mv (.t 35)),.G 37 (.mv (.t 1)) 2 false,.G 38 (.call (.c (.fn 76 [])) [.t 37]) 2 false,.V 39 (.pick (.t 36) (.c (.bool true)) (.t 38))] [0,1,39] []) (.cond (.t 39) (.seq (.reg false [.V 4 (.asg (.c (.bool true)))] [4] []) .ret) .skip)) (.norm [0,1] [] laws_FnModes_k28))) }
noncomputable def laws_FnModes_D : List (Nat × Callee) := [(66,laws_b10Abs_c),(69,laws_b10Has_c),(76,laws_b10Long_c),(101,spec_NoteTone_c),(102,impl_WolfNotes_c),(103,spec_DrawWolfNotes_c),(104,spec_ValidModes_c),(105,impl_ShiftModes_c),(106,spec_DrawShiftModes_c),(107,impl_ClosestModes_c),(108,spec_DrawClosestModes_c),(109,impl_MatchModes_c),(110,spec_DrawMatchModes_c)]
def laws_FnModes_H : List (Nat × ET) := [(5,T_Mode),(6,T_Mode),(8,(.one (.int .i64))),(14,T_Mode),(20,T_Mode),(22,T_Mode),(25,T_Mode),(27,(.one (.int .i64))),(34,(.one (.int .u8))),(37,(.one (.int .u8))),(41,(.one (.int .u8))),(43,T_Mode),(44,T_Mode),(47,T_Mode),(48,T_Mode),(51,(.one (.int .i64))),(56,(.one (.int .i64))),(58,T_Mode),(62,T_Mode),(64,T_Mode),(69,(.one (.int .i64))),(74,(.one (.int .i64))),(80,(.one (.int .i64))),(84,T_Mode),(89,(.one (.int .i64))),(91,(.one (.int .i64))),(92,(.one (.int .i64))),(99,T_Mode),(104,T_Mode),(105,(.one (.int .i64))),(116,T_Mode),(121,T_Mode),(137,(.one (.int .i64))),(144,(.one (.int .u8))),(145,T_Mode),(147,T_Mode),(163,T_Mode),(168,T_Mode),(178,T_Mode),(183,T_Mode),(190,T_Mode),(195,T_Mode),(204,(.one (.int .u8))),(206,T_Mode),(209,T_Mode),(212,T_Mode),(216,T_Mode),(218,T_Mode),(222,T_Mode),(227,T_Mode),(232,T_Mode),(238,T_Mode),(250,T_Mode),(255,T_Mode),(263,T_Mode),(268,T_Mode),(275,T_Mode),(279,(.one (.int .u8))),(281,T_Mode),(284,T_Mode),(287,(.one (.int .i64))),(291,(.one (.int .i64))),(304,T_Mode),(312,T_Mode),(325,(.one (.int .i64)))]
noncomputable def laws_FnModes_c : Callee := mkCallee laws_FnModes_D laws_FnModes_H laws_FnModes_ir [.d (.one (.sl (.one (.int .u8)))),.d (.one (.sl (.one (.int .u8))))] [.d (.one .bool)] []
noncomputable def laws_FnModes (a0 : List Int) (a1 : List Int) : Option (Bool) := laws_FnModes_c.f (a0,a1,())
noncomputable def laws_FnModes_p0  (v0 : List Int) (v1 : List Int) : Option (Bool) :=
 goL laws_FnModes_D laws_FnModes_H (vleave laws_FnModes_ir [.d (.one (.sl (.one (.int .u8)))),.d (.one (.sl (.one (.int .u8))))] [.d (.one .bool)] [] []) [.c laws_FnModes_k28]
  ⟨[(0,.sl (.one (.int .u8)) v0),(1,.sl (.one (.int .u8)) v1)],[]⟩
noncomputable def laws_FnModes_p1  (v0 : List Int) (v1 : List Int) (v5 : List T_Mode.ty) (v6 : List T_Mode.ty) (v8 : List Int) (v9 : Int) (v11 : Int) (v12 : Int) : Option (Bool) :=
 goL laws_FnModes_D laws_FnModes_H (vleave laws_FnModes_ir [.d (.one (.sl (.one (.int .u8)))),.d (.one (.sl (.one (.int .u8))))] [.d (.one .bool)] [] []) [.c laws_FnModes_k5,.c laws_FnModes_k27]
  ⟨[(0,.sl (.one (.int .u8)) v0),(1,.sl (.one (.int .u8)) v1),(5,.sl T_Mode v5),(6,.sl T_Mode v6),(8,.sl (.one (.int .i64)) v8),(9,.int .i64 v9),(11,.int .i64 v11),(12,.int .i64 v12)],[(5,none),(6,none),(8,none)]⟩
noncomputable def laws_FnModes_p2  (v0 : List Int) (v1 : List Int) : Option (Bool) :=
 goL laws_FnModes_D laws_FnModes_H (vleave laws_FnModes_ir [.d (.one (.sl (.one (.int .u8)))),.d (.one (.sl (.one (.int .u8))))] [.d (.one .bool)] [] []) [.c laws_FnModes_k26]
  ⟨[(0,.sl (.one (.int .u8)) v0),(1,.sl (.one (.int .u8)) v1)],[]⟩
noncomputable def laws_FnModes_p3  (v0 : List Int) (v1 : List Int) (v5 : List T_Mode.ty) (v6 : List T_Mode.ty) (v8 : List Int) (v9 : Int) (v11 : Int) (v12 : Int) (v13 : Int) : Option (Bool) :=
 goL laws_FnModes_D laws_FnModes_H (vleave laws_FnModes_ir [.d (.one (.sl (.one (.int .u8)))),.d (.one (.sl (.one (.int .u8))))] [.d (.one .bool)] [] []) [.c laws_FnModes_k2,.l laws_FnModes_k3,.e 0,.c laws_FnModes_k4,.c laws_FnModes_k27]
  ⟨[(0,.sl (.one (.int .u8)) v0),(1,.sl (.one (.int .u8)) v1),(5,.sl T_Mode v5),(6,.sl T_Mode v6),(8,.sl (.one (.int .i64)) v8),(9,.int .i64 v9),(11,.int .i64 v11),(12,.int .i64 v12),(13,.int .i64 v13)],[(5,none),(6,none),(8,none)]⟩
noncomputable def laws_FnModes_p4  (v0 : List Int) (v1 : List Int) (v15 : Int) (v16 : Int) (r14 : List T_Mode.ty) : Option (Bool) :=
 goL laws_FnModes_D laws_FnModes_H (vleave laws_FnModes_ir [.d (.one (.sl (.one (.int .u8)))),.d (.one (.sl (.one (.int .u8))))] [.d (.one .bool)] [] []) [.c laws_FnModes_k11,.c laws_FnModes_k25]
  ⟨[(0,.sl (.one (.int .u8)) v0),(1,.sl (.one (.int .u8)) v1),(14,.view 14 0 r14.length),(15,.int .i64 v15),(16,.int .i64 v16)],[(14,some (.sl T_Mode r14))]⟩
noncomputable def laws_FnModes_p5  (v0 : List Int) (v1 : List Int) : Option (Bool) :=
 goL laws_FnModes_D laws_FnModes_H (vleave laws_FnModes_ir [.d (.one (.sl (.one (.int .u8)))),.d (.one (.sl (.one (.int .u8))))] [.d (.one .bool)] [] []) [.c laws_FnModes_k24]
  ⟨[(0,.sl (.one (.int .u8)) v0),(1,.sl (.one (.int .u8)) v1)],[]⟩
noncomputable def laws_FnModes_p6  (v0 : List Int) (v1 : List Int) (v5 : List T_Mode.ty) (v6 : List T_Mode.ty) (v8 : List Int) (v9 : Int) (v11 : Int) (v12 : Int) (v13 : Int) : Option (Bool) :=
 goL laws_FnModes_D laws_FnModes_H (vleave laws_FnModes_ir [.d (.one (.sl (.one (.int .u8)))),.d (.one (.sl (.one (.int .u8))))] [.d (.one .bool)] [] []) [.c laws_FnModes_k0,.e 1,.c laws_FnModes_k1,.l laws_FnModes_k3,.e 0,.c laws_FnModes_k4,.c laws_FnModes_k27]
  ⟨[(0,.sl (.one (.int .u8)) v0),(1,.sl (.one (.int .u8)) v1),(5,.sl T_Mode v5),(6,.sl T_Mode v6),(8,.sl (.one (.int .i64)) v8),(9,.int .i64 v9),(11,.int .i64 v11),(12,.int .i64 v12),(13,.int .i64 v13)],[(5,none),(6,none),(8,none)]⟩
noncomputable def laws_FnModes_p7  (v0 : List Int) (v1 : List Int) (v15 : Int) (v16 : Int) (v18 : Int) (r14 : List T_Mode.ty) : Option (Bool) :=
 goL laws_FnModes_D laws_FnModes_H (vleave laws_FnModes_ir [.d (.one (.sl (.one (.int .u8)))),.d (.one (.sl (.one (.int .u8))))] [.d (.one .bool)] [] []) [.c laws_FnModes_k9,.l laws_FnModes_k10,.e 2,.c laws_FnModes_k25]
  ⟨[(0,.sl (.one (.int .u8)) v0),(1,.sl (.one (.int .u8)) v1),(14,.view 14 0 r14.length),(15,.int .i64 v15),(16,.int .i64 v16),(18,.int .i64 v18)],[(14,some (.sl T_Mode r14))]⟩
noncomputable def laws_FnModes_p8  (v1 : List Int) (v21 : Int) (r20 : List T_Mode.ty) (r22 : List T_Mode.ty) : Option (Bool) :=
 goL laws_FnModes_D laws_FnModes_H (vleave laws_FnModes_ir [.d (.one (.sl (.one (.int .u8)))),.d (.one (.sl (.one (.int .u8))))] [.d (.one .bool)] [] []) [.c laws_FnModes_k14,.c laws_FnModes_k23]
  ⟨[(1,.sl (.one (.int .u8)) v1),(20,.view 20 0 r20.length),(21,.int .i64 v21),(22,.view 22 0 r22.length)],[(20,some (.sl T_Mode r20)),(22,some (.sl T_Mode r22))]⟩
noncomputable def laws_FnModes_p9  (v1 : List Int) : Option (Bool) :=
 goL laws_FnModes_D laws_FnModes_H (vleave laws_FnModes_ir [.d (.one (.sl (.one (.int .u8)))),.d (.one (.sl (.one (.int .u8))))] [.d (.one .bool)] [] []) [.c laws_FnModes_k22]
  ⟨[(1,.sl (.one (.int .u8)) v1)],[]⟩
noncomputable def laws_FnModes_p10  (v0 : List Int) (v1 : List Int) (v15 : Int) (v16 : Int) (v18 : Int) (v19 : Int) (r14 : List T_Mode.ty) : Option (Bool) :=
 goL laws_FnModes_D laws_FnModes_H (vleave laws_FnModes_ir [.d (.one (.sl (.one (.int .u8)))),.d (.one (.sl (.one (.int .u8))))] [.d (.one .bool)] [] []) [.c laws_FnModes_k6,.l laws_FnModes_k7,.e 4,.e 3,.c laws_FnModes_k8,.l laws_FnModes_k10,.e 2,.c laws_FnModes_k25]
  ⟨[(0,.sl (.one (.int .u8)) v0),(1,.sl (.one (.int .u8)) v1),(14,.view 14 0 r14.length),(15,.int .i64 v15),(16,.int .i64 v16),(18,.int .i64 v18),(19,.int .i64 v19)],[(14,some (.sl T_Mode r14))]⟩
noncomputable def laws_FnModes_p11  (v1 : List Int) (v21 : Int) (v24 : Int) (r20 : List T_Mode.ty) (r22 : List T_Mode.ty) : Option (Bool) :=
 goL laws_FnModes_D laws_FnModes_H (vleave laws_FnModes_ir [.d (.one (.sl (.one (.int .u8)))),.d (.one (.sl (.one (.int .u8))))] [.d (.one .bool)] [] []) [.c laws_FnModes_k12,.l laws_FnModes_k13,.e 6,.c laws_FnModes_k23]
  ⟨[(1,.sl (.one (.int .u8)) v1),(20,.view 20 0 r20.length),(21,.int .i64 v21),(22,.view 22 0 r22.length),(24,.int .i64 v24)],[(20,some (.sl T_Mode r20)),(22,some (.sl T_Mode r22))]⟩
noncomputable def laws_FnModes_p12  (v26 : Int) (v29 : Int) (r25 : List T_Mode.ty) (r27 : List Int) : Option (Bool) :=
 goL laws_FnModes_D laws_FnModes_H (vleave laws_FnModes_ir [.d (.one (.sl (.one (.int .u8)))),.d (.one (.sl (.one (.int .u8))))] [.d (.one .bool)] [] []) [.c laws_FnModes_k19,.l laws_FnModes_k20,.e 8,.c laws_FnModes_k21]
  ⟨[(25,.view 25 0 r25.length),(26,.int .i64 v26),(27,.view 27 0 r27.length),(29,.int .i64 v29)],[(25,some (.sl T_Mode r25)),(27,some (.sl (.one (.int .i64)) r27))]⟩
noncomputable def laws_FnModes_p13  (v26 : Int) (v29 : Int) (v30 : Int) (v31 : Int) (v32 : Bool) (v33 : Int) (r25 : List T_Mode.ty) (r27 : List Int) : Option (Bool) :=
 goL laws_FnModes_D laws_FnModes_H (vleave laws_FnModes_ir [.d (.one (.sl (.one (.int .u8)))),.d (.one (.sl (.one (.int .u8))))] [.d (.one .bool)] [] []) [.c laws_FnModes_k15,.l laws_FnModes_k16,.e 10,.c laws_FnModes_k17,.e 9,.c laws_FnModes_k18,.l laws_FnModes_k20,.e 8,.c laws_FnModes_k21]
  ⟨[(25,.view 25 0 r25.length),(26,.int .i64 v26),(27,.view 27 0 r27.length),(29,.int .i64 v29),(30,.int .i64 v30),(31,.int .i64 v31),(32,.bool v32),(33,.int .i64 v33)],[(25,some (.sl T_Mode r25)),(27,some (.sl (.one (.int .i64)) r27))]⟩
theorem laws_FnModes_eq (a0 : List Int) (a1 : List Int) : laws_FnModes a0 a1 =
 (laws_b10Long a0).bind fun x1 =>
  if x1 then
   some true
  else
   (laws_b10Long a1).bind fun x2 =>
    if x2 then
     some true
    else
     laws_FnModes_p0 a0 a1 :=
 (mk_f _ _ _ _ _ _ _ 4000).trans (by kernel_rfl)
theorem laws_FnModes_p0_eq  (v0 : List Int) (v1 : List Int) : laws_FnModes_p0 v0 v1 =
 (spec_DrawMatchModes v0).bind fun x1 =>
  (impl_MatchModes (x1.1.take x1.1.length) (x1.2.1.take x1.2.1.length) x1.2.2).bind fun x2 =>
   if (x2.2.2 == 0) then
    if ((x2.1.length : Int) != ((x1.1.take x1.1.length).length : Int)) then
     some false
    else
     if decide (((x1.2.1.take x1.2.1.length).length : Int) < ((x1.1.take x1.1.length).length : Int)) then
      some false
     else
      laws_FnModes_p1 v0 v1 (x1.1.take x1.1.length) (x1.2.1.take x1.2.1.length) x2.1 x2.2.1 0 0
   else
    if ((x2.1.length : Int) != 0) then
     some false
    else
     if (x2.2.1 != 0) then
      some false
     else
      laws_FnModes_p2 v0 v1 :=
 (goL_dn _ _ _ 4000 _ _).trans (by kernel_rfl)
theorem laws_FnModes_p1_eq  (v0 : List Int) (v1 : List Int) (v5 : List T_Mode.ty) (v6 : List T_Mode.ty) (v8 : List Int) (v9 : Int) (v11 : Int) (v12 : Int) : laws_FnModes_p1 v0 v1 v5 v6 v8 v9 v11 v12 =
 laws_FnModes_p3 v0 v1 v5 v6 v8 v9 v11 v12 0 :=
 (goL_dn _ _ _ 4000 _ _).trans (by kernel_rfl)
theorem laws_FnModes_p2_eq  (v0 : List Int) (v1 : List Int) : laws_FnModes_p2 v0 v1 =
 (spec_DrawClosestModes v1).bind fun x1 =>
  (impl_ClosestModes (x1.take x1.length)).bind fun x2 =>
   if (x2.2.2 == 0) then
    if decide (x2.1 < 0) then
     some false
    else
     if decide (x2.1 ≥ x2.2.1) then
      some false
     else
      if decide (x2.2.1 ≥ (x1.length : Int)) then
       some false
      else
       laws_FnModes_p4 v0 v1 x2.1 x2.2.1 x1
   else
    laws_FnModes_p5 v0 v1 :=
 (goL_dn _ _ _ 4000 _ _).trans (by kernel_rfl)
theorem laws_FnModes_p3_eq  (v0 : List Int) (v1 : List Int) (v5 : List T_Mode.ty) (v6 : List T_Mode.ty) (v8 : List Int) (v9 : Int) (v11 : Int) (v12 : Int) (v13 : Int) : laws_FnModes_p3 v0 v1 v5 v6 v8 v9 v11 v12 v13 =
 if decide (v13 < (v8.length : Int)) then
  if decide (0 ≤ v13) then
   (v8[v13.toNat]?).bind fun x1 =>
    if decide (x1 < 0) then
     some false
    else
     if decide (0 ≤ v13) then
      (v8[v13.toNat]?).bind fun x2 =>
       if decide (x2 ≥ (v6.length : Int)) then
        some false
       else
        if decide (0 ≤ v13) && decide (v13 ≤ (v8.length : Int)) then
         if decide (0 ≤ v13) then
          (v8[v13.toNat]?).bind fun x3 =>
           (laws_b10Has (v8.take v13.toNat) x3).bind fun x4 =>
            if x4 then
             some false
            else
             laws_FnModes_p6 v0 v1 v5 v6 v8 v9 v11 v12 v13
         else
          none
        else
         none
     else
      none
  else
   none
 else
  if (v11 != v9) then
   some false
  else
   if decide (v9 > v12) then
    some false
   else
    laws_FnModes_p2 v0 v1 :=
 (goL_dn _ _ _ 4000 _ _).trans (by kernel_rfl)
theorem laws_FnModes_p4_eq  (v0 : List Int) (v1 : List Int) (v15 : Int) (v16 : Int) (r14 : List T_Mode.ty) : laws_FnModes_p4 v0 v1 v15 v16 r14 =
 laws_FnModes_p7 v0 v1 v15 v16 0 r14 :=
 (goL_dn _ _ _ 4000 _ _).trans (by kernel_rfl)
theorem laws_FnModes_p5_eq  (v0 : List Int) (v1 : List Int) : laws_FnModes_p5 v0 v1 =
 (spec_DrawShiftModes v0).bind fun x1 =>
  (impl_ShiftModes (x1.1.take x1.1.length) x1.2).bind fun x2 =>
   if (x2.2 == 0) then
    if ((x2.1.length : Int) != (x1.1.length : Int)) then
     some false
    else
     (spec_ValidModes (x2.1.take x2.1.length)).bind fun x3 =>
      if (!x3) then
       some false
      else
       laws_FnModes_p8 v1 x1.2 x1.1 x2.1
   else
    if ((x2.1.length : Int) != 0) then
     some false
    else
     laws_FnModes_p9 v1 :=
 (goL_dn _ _ _ 4000 _ _).trans (by kernel_rfl)
theorem laws_FnModes_p6_eq  (v0 : List Int) (v1 : List Int) (v5 : List T_Mode.ty) (v6 : List T_Mode.ty) (v8 : List Int) (v9 : Int) (v11 : Int) (v12 : Int) (v13 : Int) : laws_FnModes_p6 v0 v1 v5 v6 v8 v9 v11 v12 v13 =
 if decide (0 ≤ v13) then
  (v5[v13.toNat]?).bind fun x1 =>
   if decide (0 ≤ v13) then
    (v8[v13.toNat]?).bind fun x2 =>
     if decide (0 ≤ x2) then
      (v6[x2.toNat]?).bind fun x3 =>
       (laws_b10Abs (IntKind.i64.wrap (x1.2.1 - x3.2.1))).bind fun x4 =>
        if decide (0 ≤ v13) then
         (v5[v13.toNat]?).bind fun x5 =>
          if decide (0 ≤ v13) then
           (v6[v13.toNat]?).bind fun x6 =>
            (laws_b10Abs (IntKind.i64.wrap (x5.2.1 - x6.2.1))).bind fun x7 =>
             laws_FnModes_p3 v0 v1 v5 v6 v8 v9 (IntKind.i64.wrap (v11 + x4)) (IntKind.i64.wrap (v12 + x7)) (IntKind.i64.wrap (v13 + 1))
          else
           none
        else
         none
     else
      none
   else
    none
 else
  none :=
 (goL_dn _ _ _ 4000 _ _).trans (by kernel_rfl)
theorem laws_FnModes_p7_eq  (v0 : List Int) (v1 : List Int) (v15 : Int) (v16 : Int) (v18 : Int) (r14 : List T_Mode.ty) : laws_FnModes_p7 v0 v1 v15 v16 v18 r14 =
 if decide (v18 < (r14.length : Int)) then
  laws_FnModes_p10 v0 v1 v15 v16 v18 0 r14
 else
  laws_FnModes_p5 v0 v1 :=
 (goL_dn _ _ _ 4000 _ _).trans (by kernel_rfl)
theorem laws_FnModes_p8_eq  (v1 : List Int) (v21 : Int) (r20 : List T_Mode.ty) (r22 : List T_Mode.ty) : laws_FnModes_p8 v1 v21 r20 r22 =
 laws_FnModes_p11 v1 v21 0 r20 r22 :=
 (goL_dn _ _ _ 4000 _ _).trans (by kernel_rfl)
theorem laws_FnModes_p9_eq  (v1 : List Int) : laws_FnModes_p9 v1 =
 (spec_DrawWolfNotes v1).bind fun x1 =>
  (impl_WolfNotes (x1.1.take x1.1.length) x1.2).bind fun x2 =>
   if (x2.2 != 0) then
    some ((x2.1.length : Int) == 0)
   else
    laws_FnModes_p12 x1.2 0 x1.1 x2.1 :=
 (goL_dn _ _ _ 4000 _ _).trans (by kernel_rfl)
theorem laws_FnModes_p10_eq  (v0 : List Int) (v1 : List Int) (v15 : Int) (v16 : Int) (v18 : Int) (v19 : Int) (r14 : List T_Mode.ty) : laws_FnModes_p10 v0 v1 v15 v16 v18 v19 r14 =
 if decide (v19 < v18) then
  if decide (0 ≤ v18) && decide (v18 < (r14.length : Int)) then
   (r14[v18.toNat]?).bind fun x1 =>
    if decide (0 ≤ v19) && decide (v19 < (r14.length : Int)) then
     (r14[v19.toNat]?).bind fun x2 =>
      (laws_b10Abs (IntKind.i64.wrap (x1.2.1 - x2.2.1))).bind fun x3 =>
       if decide (0 ≤ v15) && decide (v15 < (r14.length : Int)) then
        (r14[v15.toNat]?).bind fun x4 =>
         if decide (0 ≤ v16) && decide (v16 < (r14.length : Int)) then
          (r14[v16.toNat]?).bind fun x5 =>
           (laws_b10Abs (IntKind.i64.wrap (x4.2.1 - x5.2.1))).bind fun x6 =>
            if decide (x3 < x6) then
             some false
            else
             laws_FnModes_p10 v0 v1 v15 v16 v18 (IntKind.i64.wrap (v19 + 1)) r14
         else
          none
       else
        none
    else
     none
  else
   none
 else
  laws_FnModes_p7 v0 v1 v15 v16 (IntKind.i64.wrap (v18 + 1)) r14 :=
 (goL_dn _ _ _ 4000 _ _).trans (by kernel_rfl)
theorem laws_FnModes_p11_eq  (v1 : List Int) (v21 : Int) (v24 : Int) (r20 : List T_Mode.ty) (r22 : List T_Mode.ty) : laws_FnModes_p11 v1 v21 v24 r20 r22 =
 if decide (v24 < (r20.length : Int)) then
  if decide (0 ≤ v24) && decide (v24 < (r22.length : Int)) then
   (r22[v24.toNat]?).bind fun x1 =>
    if decide (0 ≤ v24) && decide (v24 < (r20.length : Int)) then
     (r20[v24.toNat]?).bind fun x2 =>
      (laws_b10Abs (IntKind.i64.wrap ((IntKind.i64.wrap (1000 * x1.2.1)) - (IntKind.i64.wrap (x2.2.1 * v21))))).bind fun x3 =>
       if decide (IntKind.i64.wrap (2 * x3) > 1000) then
        some false
       else
        if decide (0 ≤ v24) && decide (v24 < (r22.length : Int)) then
         (r22[v24.toNat]?).bind fun x4 =>
          if decide (0 ≤ v24) && decide (v24 < (r20.length : Int)) then
           (r20[v24.toNat]?).bind fun x5 =>
            if (!(x4.1 == x5.1)) then
             some false
            else
             if decide (0 ≤ v24) && decide (v24 < (r22.length : Int)) then
              (r22[v24.toNat]?).bind fun x6 =>
               if decide (0 ≤ v24) && decide (v24 < (r20.length : Int)) then
                (r20[v24.toNat]?).bind fun x7 =>
                 if (x6.2.2.1 != x7.2.2.1) then
                  some false
                 else
                  laws_FnModes_p11 v1 v21 (IntKind.i64.wrap (v24 + 1)) r20 r22
               else
                none
             else
              none
          else
           none
        else
         none
    else
     none
  else
   none
 else
  laws_FnModes_p9 v1 :=
 (goL_dn _ _ _ 4000 _ _).trans (by kernel_rfl)
theorem laws_FnModes_p12_eq  (v26 : Int) (v29 : Int) (r25 : List T_Mode.ty) (r27 : List Int) : laws_FnModes_p12 v26 v29 r25 r27 =
 if decide (v29 ≤ 60) then
  (spec_NoteTone v29).bind fun x1 =>
   laws_FnModes_p13 v26 v29 x1.1 x1.2 false 0 r25 r27
 else
  some true :=
 (goL_dn _ _ _ 4000 _ _).trans (by kernel_rfl)
theorem laws_FnModes_p13_eq  (v26 : Int) (v29 : Int) (v30 : Int) (v31 : Int) (v32 : Bool) (v33 : Int) (r25 : List T_Mode.ty) (r27 : List Int) : laws_FnModes_p13 v26 v29 v30 v31 v32 v33 r25 r27 =
 if decide (v33 < (r25.length : Int)) then
  if v32 then
   laws_FnModes_p13 v26 v29 v30 v31 true (IntKind.i64.wrap (v33 + 1)) r25 r27
  else
   if decide (0 ≤ v33) && decide (v33 < (r25.length : Int)) then
    (r25[v33.toNat]?).bind fun x1 =>
     (laws_b10Abs (IntKind.i64.wrap (v30 - x1.2.1))).bind fun x2 =>
      laws_FnModes_p13 v26 v29 v30 v31 (decide (x2 ≤ v26)) (IntKind.i64.wrap (v33 + 1)) r25 r27
   else
    none
 else
  if (v31 != 0) then
   some false
  else
   (laws_b10Has (r27.take r27.length) v29).bind fun x3 =>
    if (!(x3 == v32)) then
     some false
    else
     laws_FnModes_p12 v26 (IntKind.i64.wrap (v29 + 1)) r25 r27 :=
 (goL_dn _ _ _ 4000 _ _).trans (by kernel_rfl)
end Go.Ab.P
