/- Functions of the program: abstract forms, and what their runs give. Conditions: none. -/
import Derived.Test.YtpokgomeahjacaaL4
set_option maxRecDepth 100000
set_option linter.unusedVariables false
namespace Go.Ab.P
open Go.Ab
@[reducible] def T_Pot : ET := .agg (.cons .str (.cons (.int .i64) (.cons (.int .i64) (.cons (.int .i64) (.cons (.int .i64) .nil)))))
@[reducible] def T_l00Src : ET := .agg (.cons (.sl (.one (.int .u8))) (.cons (.int .i64) (.cons (.int .u64) .nil)))
@[reducible] def T_gluingO : ET := .agg (.cons (.sl T_Pot) (.cons (.sl (.one (.int .i64))) (.cons (.own (.one (.int .i64))) (.cons (.int .i64) (.cons (.own (.one (.int .i64))) (.cons (.int .i64) (.cons (.own (.one (.int .i64))) (.cons (.int .i64) (.cons .bool .nil)))))))))
def laws_b10Long_ir : Fn := { np := 1,io := [],res := [.t 2],own := [false],body :=
 (.seq (.reg false [.V 2 (.asg (.c (.bool false)))] [0] []) (.seq (.reg false [.V 3 (.mv (.t 0)),.V 4 (.len (.t 3)),.V 5 (.bin .gtr (.t 4) (.c (.int .i64 1048576))),.V 2 (.asg (.t 5))] [2] []) .ret)) }
noncomputable def laws_b10Long_D : List (Nat × Callee) := []
def laws_b10Long_H : List (Nat × ET) := [(3,(.one (.int .u8)))]
noncomputable def laws_b10Long_c : Callee := mkCallee laws_b10Long_D laws_b10Long_H laws_b10Long_ir [.d (.one (.sl (.one (.int .u8))))] [.d (.one .bool)] []
noncomputable def laws_b10Long (a0 : List Int) : Option (Bool) := laws_b10Long_c.f (a0,())
theorem laws_b10Long_eq (a0 : List Int) : laws_b10Long a0 =
 some (decide ((a0.length : Int) > 1048576)) :=
 (mk_f _ _ _ _ _ _ _ 4000).trans (by kernel_rfl)
def spec_l00From_ir : Fn := { np := 1,io := [],res := [.t 2],own := [true],body :=
 (.seq (.reg false [.V 2 (.asg (.c (.cst (.pointer none))))] [0] []) (.seq (.reg false [.V 3 (.mv (.t 0)),.V 4 (.build [.nils 1,.int .i64 0,.int .u64 0] [(0,1,.t 3)]),.W 5 (.box 3 (.t 4)),.V 2 (.asg (.t 5))] [2] [5,6000]) .ret)) }
noncomputable def spec_l00From_D : List (Nat × Callee) := []
def spec_l00From_H : List (Nat × ET) := [(3,(.one (.int .u8)))]
noncomputable def spec_l00From_c : Callee := mkCallee spec_l00From_D spec_l00From_H spec_l00From_ir [.d (.one (.sl (.one (.int .u8))))] [.box T_l00Src] []
noncomputable def spec_l00From (a0 : List Int) : Option (T_l00Src.ty) := spec_l00From_c.f (a0,())
theorem spec_l00From_eq (a0 : List Int) : spec_l00From a0 =
 some (a0,0,0,()) :=
 (mk_f _ _ _ _ _ _ _ 4000).trans (by kernel_rfl)
def spec_l00Src_next_k0 : C :=
 .seq (.reg false [.V 25 (.mv (.t 0)),.V 26 (.nilck (.t 25)),.V 27 (.fa 1 (.t 26)),.V 28 (.ld none (.t 27)),.V 29 (.bin .add (.t 28) (.c (.int .i64 1))),.V 30 (.nilck (.t 25)),.V 31 (.fa 1 (.t 30)),⟨none,true,.sto 1 (.t 31) (.t 29),none,false,[]⟩] [0,3] [0,1000]) (.seq (.reg false [.V 32 (.mv (.t 0)),.V 33 (.mv (.t 0)),.V 34 (.nilck (.t 33)),.V 35 (.fa 2 (.t 34)),.V 36 (.ld none (.t 35)),.V 37 (.bin .mul (.t 36) (.c (.int .u64 6364136223846793005))),.V 38 (.mv (.t 3)),.V 39 (.conv (.int .u64) (.t 38)),.V 40 (.bin .add (.t 37) (.t 39)),.V 41 (.bin .add (.t 40) (.c (.int .u64 1442695040888963407))),.V 42 (.nilck (.t 32)),.V 43 (.fa 2 (.t 42)),⟨none,true,.sto 1 (.t 43) (.t 41),none,false,[]⟩] [0,3] [0,1000]) (.seq (.seq (.reg true [.V 44 (.mv (.t 0)),.V 45 (.nilck (.t 44)),.V 46 (.fa 1 (.t 45)),.V 47 (.ld none (.t 46)),.V 48 (.mv (.t 0)),.V 49 (.nilck (.t 48)),.V 50 (.fa 0 (.t 49)),.V 51 (.ld none (.t 50)),.V 52 (.len (.t 51)),.V 53 (.bin .leq (.t 47) (.t 52))] [0,3,53] [0,1000]) (.cond (.t 53) (.seq (.reg false [.V 54 (.mv (.t 3)),.V 2 (.asg (.t 54))] [0,2] [0,1000]) .ret) .skip)) (.seq (.reg false [.V 55 (.mv (.t 0)),.V 56 (.nilck (.t 55)),.V 57 (.fa 2 (.t 56)),.V 58 (.ld none (.t 57)),.V 59 (.bin .shr (.t 58) (.c (.int .u64 40))),.V 60 (.bin .and (.t 59) (.c (.int .u64 255))),.V 61 (.conv (.int .i64) (.t 60)),.V 2 (.asg (.t 61))] [0,2] [0,1000]) .ret)))
def spec_l00Src_next_ir : Fn := { np := 1,io := [true],res := [.t 2],own := [false],body :=
 (.seq (.reg false [.V 2 (.asg (.c (.int .i64 0)))] [0] [0,1000]) (.seq (.reg false [.V 3 (.asg (.c (.int .i64 0)))] [0,3] [0,1000]) (.seq (.seq (.reg true [.V 4 (.mv (.t 0)),.V 5 (.nilck (.t 4)),.V 6 (.fa 1 (.t 5)),.V 7 (.ld none (.t 6)),.V 8 (.mv (.t 0)),.V 9 (.nilck (.t 8)),.V 10 (.fa 0 (.t 9)),.V 11 (.ld none (.t 10)),.V 12 (.len (.t 11)),.V 13 (.bin .lss (.t 7) (.t 12))] [0,3,13] [0,1000]) (.cond (.t 13) (.reg true [.V 14 (.mv (.t 0)),.V 15 (.nilck (.t 14)),.V 16 (.fa 0 (.t 15)),.V 17 (.ld none (.t 16)),.V 18 (.mv (.t 0)),.V 19 (.nilck (.t 18)),.V 20 (.fa 1 (.t 19)),.V 21 (.ld none (.t 20)),.V 22 (.ia 1 (.t 17) (.t 21)),.V 23 (.ld none (.t 22)),.V 24 (.conv (.int .i64) (.t 23)),.V 3 (.asg (.t 24))] [0,3] [0,1000]) .skip)) (.norm [0,3] [0,1000] spec_l00Src_next_k0)))) }
noncomputable def spec_l00Src_next_D : List (Nat × Callee) := []
def spec_l00Src_next_H : List (Nat × ET) := [(11,(.one (.int .u8))),(17,(.one (.int .u8))),(51,(.one (.int .u8)))]
noncomputable def spec_l00Src_next_c : Callee := mkCallee spec_l00Src_next_D spec_l00Src_next_H spec_l00Src_next_ir [.box T_l00Src] [.d (.one (.int .i64))] [.box T_l00Src]
noncomputable def spec_l00Src_next (a0 : T_l00Src.ty) : Option (Int × T_l00Src.ty) := spec_l00Src_next_c.f (a0,())
noncomputable def spec_l00Src_next_p0  (v3 : Int) (r0_0 : List Int) (r0_1 : Int) (r0_2 : Int) : Option (Int × T_l00Src.ty) :=
 goL spec_l00Src_next_D spec_l00Src_next_H (vleave spec_l00Src_next_ir [.box T_l00Src] [.d (.one (.int .i64))] [.box T_l00Src] []) [.c spec_l00Src_next_k0]
  ⟨[(0,.loc 0 0 0),(3,.int .i64 v3)],[(0,some (.var 3 (.agg [.sl (.one (.int .u8)) r0_0,.int .i64 r0_1,.int .u64 r0_2]))),(1000,none)]⟩
theorem spec_l00Src_next_eq (a0 : T_l00Src.ty) : spec_l00Src_next a0 =
 if decide (a0.2.1 < (a0.1.length : Int)) then
  if decide (0 ≤ a0.2.1) then
   (a0.1[a0.2.1.toNat]?).bind fun x1 =>
    spec_l00Src_next_p0 (IntKind.i64.wrap x1) a0.1 a0.2.1 a0.2.2.1
  else
   none
 else
  spec_l00Src_next_p0 0 a0.1 a0.2.1 a0.2.2.1 :=
 (mk_f _ _ _ _ _ _ _ 4000).trans (by kernel_rfl)
theorem spec_l00Src_next_p0_eq  (v3 : Int) (r0_0 : List Int) (r0_1 : Int) (r0_2 : Int) : spec_l00Src_next_p0 v3 r0_0 r0_1 r0_2 =
 if decide (IntKind.i64.wrap (r0_1 + 1) ≤ (r0_0.length : Int)) then
  some (v3,(r0_0,IntKind.i64.wrap (r0_1 + 1),IntKind.u64.wrap ((IntKind.u64.wrap ((IntKind.u64.wrap (r0_2 * 6364136223846793005)) + (IntKind.u64.wrap v3))) + 1442695040888963407),()))
 else
  some (IntKind.i64.wrap (IntKind.u64.wrap ((BitVec.ofInt IntKind.u64.bits (Int.fdiv (IntKind.u64.wrap ((IntKind.u64.wrap ((IntKind.u64.wrap (r0_2 * 6364136223846793005)) + (IntKind.u64.wrap v3))) + 1442695040888963407)) (2 ^ (min (40 : Int).toNat IntKind.u64.bits))) &&& BitVec.ofInt IntKind.u64.bits 255).toNat : Int)),(r0_0,IntKind.i64.wrap (r0_1 + 1),IntKind.u64.wrap ((IntKind.u64.wrap ((IntKind.u64.wrap (r0_2 * 6364136223846793005)) + (IntKind.u64.wrap v3))) + 1442695040888963407),())) :=
 (goL_dn _ _ _ 4000 _ _).trans (by kernel_rfl)
def spec_l00Src_pick_ir : Fn := { np := 2,io := [true,false],res := [.t 4],own := [false],body :=
 (.seq (.reg false [.V 4 (.asg (.c (.int .i64 0)))] [0,1] [0,1000]) (.seq (.seq (.reg false [.V 6 (.mv (.t 1)),.V 7 (.bin .leq (.t 6) (.c (.int .i64 1)))] [0,1,7] [0,1000]) (.cond (.t 7) (.seq (.reg false [.V 4 (.asg (.c (.int .i64 0)))] [0,4] [0,1000]) .ret) .skip)) (.seq (.reg false [.V 8 (.mv (.t 0)),.W 9 (.call (.c (.fn 847 [])) [.t 8]),.V 5 (.asg (.t 9))] [0,1,5] [0,1000]) (.seq (.seq (.reg false [.V 10 (.mv (.t 1)),.V 11 (.bin .gtr (.t 10) (.c (.int .i64 200)))] [0,1,5,11] [0,1000]) (.cond (.t 11) (.reg false [.V 12 (.mv (.t 5)),.V 13 (.bin .mul (.t 12) (.c (.int .i64 256))),.V 14 (.mv (.t 0)),.W 15 (.call (.c (.fn 847 [])) [.t 14]),.V 16 (.bin .add (.t 13) (.t 15)),.V 5 (.asg (.t 16))] [0,1,5] [0,1000]) .skip)) (.seq (.reg false [.V 17 (.mv (.t 5)),.V 18 (.mv (.t 1)),.V 19 (.bin .rem (.t 17) (.t 18)),.V 4 (.asg (.t 19))] [0,4] [0,1000]) .ret))))) }
noncomputable def spec_l00Src_pick_D : List (Nat × Callee) := [(847,spec_l00Src_next_c)]
def spec_l00Src_pick_H : List (Nat × ET) := []
noncomputable def spec_l00Src_pick_c : Callee := mkCallee spec_l00Src_pick_D spec_l00Src_pick_H spec_l00Src_pick_ir [.box T_l00Src,.d (.one (.int .i64))] [.d (.one (.int .i64))] [.box T_l00Src]
noncomputable def spec_l00Src_pick (a0 : T_l00Src.ty) (a1 : Int) : Option (Int × T_l00Src.ty) := spec_l00Src_pick_c.f (a0,a1,())
theorem spec_l00Src_pick_eq (a0 : T_l00Src.ty) (a1 : Int) : spec_l00Src_pick a0 a1 =
 if decide (a1 ≤ 1) then
  some (0,a0)
 else
  (spec_l00Src_next a0).bind fun x1 =>
   if decide (a1 > 200) then
    (spec_l00Src_next (x1.2.1,x1.2.2.1,x1.2.2.2.1,())).bind fun x2 =>
     if decide (a1 = 0) then
      none
     else
      some ((IntKind.i64.wrap ((IntKind.i64.wrap (x1.1 * 256)) + x2.1)).tmod a1,(x2.2.1,x2.2.2.1,x2.2.2.2.1,()))
   else
    if decide (a1 = 0) then
     none
    else
     some (x1.1.tmod a1,(x1.2.1,x1.2.2.1,x1.2.2.2.1,())) :=
 (mk_f _ _ _ _ _ _ _ 4000).trans (by kernel_rfl)
def spec_l00Src_one_ir : Fn := { np := 2,io := [true,false],res := [.t 4],own := [false],body :=
 (.seq (.reg false [.V 4 (.asg (.c (.bool false)))] [0,1] [0,1000]) (.seq (.reg false [.V 5 (.mv (.t 0)),.V 6 (.mv (.t 1)),.W 7 (.call (.c (.fn 463 [])) [.t 5,.t 6]),.V 8 (.bin .eql (.t 7) (.c (.int .i64 0))),.V 4 (.asg (.t 8))] [0,4] [0,1000]) .ret)) }
noncomputable def spec_l00Src_one_D : List (Nat × Callee) := [(463,spec_l00Src_pick_c)]
def spec_l00Src_one_H : List (Nat × ET) := []
noncomputable def spec_l00Src_one_c : Callee := mkCallee spec_l00Src_one_D spec_l00Src_one_H spec_l00Src_one_ir [.box T_l00Src,.d (.one (.int .i64))] [.d (.one .bool)] [.box T_l00Src]
noncomputable def spec_l00Src_one (a0 : T_l00Src.ty) (a1 : Int) : Option (Bool × T_l00Src.ty) := spec_l00Src_one_c.f (a0,a1,())
theorem spec_l00Src_one_eq (a0 : T_l00Src.ty) (a1 : Int) : spec_l00Src_one a0 a1 =
 (spec_l00Src_pick a0 a1).bind fun x1 =>
  some ((x1.1 == 0),(x1.2.1,x1.2.2.1,x1.2.2.2.1,())) :=
 (mk_f _ _ _ _ _ _ _ 4000).trans (by kernel_rfl)
def spec_l14DrawOne_ir : Fn := { np := 2,io := [true,false],res := [.cell 4 (some 5)],own := [false],body :=
 (.seq (.reg false [.W 4 (.alloc 5 (.agg [.str [],.int .i64 0,.int .i64 0,.int .i64 0,.int .i64 0]))] [0,1,4] [0,4,1000]) (.seq (.reg false [.V 6 (.mv (.t 1)),.V 7 (.mv (.t 0)),.W 8 (.call (.c (.fn 463 [])) [.t 7,.c (.int .i64 30)]),.V 9 (.bin .mul (.c (.int .i64 10)) (.t 8)),.V 10 (.bin .add (.c (.int .i64 20)) (.t 9)),.V 11 (.build [.str [],.int .i64 0,.int .i64 0,.int .i64 0,.int .i64 0] [(0,1,.t 6),(1,1,.t 10)]),.W 5 (.alloc 5 (.agg [.str [],.int .i64 0,.int .i64 0,.int .i64 0,.int .i64 0])),⟨none,true,.sto 5 (.t 5) (.t 11),none,false,[]⟩] [0,4,5] [0,4,5,1000]) (.seq (.reg true [⟨some 12,false,.fa 1 (.t 5),none,false,[1000000]⟩,⟨some 13,false,.ld none (.t 12),none,true,[]⟩,.V 14 (.mv (.t 0)),⟨some 15,true,.call (.c (.fn 463 [])) [.t 14,.c (.int .i64 60)],none,false,[5,12]⟩,.V 16 (.bin .mul (.c (.int .i64 10)) (.t 15)),.V 17 (.bin .add (.t 13) (.t 16)),.V 18 (.fa 2 (.t 5)),⟨none,true,.sto 1 (.t 18) (.t 17),none,false,[]⟩] [0,4,5] [0,4,5,1000]) (.seq (.reg false [.V 19 (.mv (.t 0)),.W 20 (.call (.c (.fn 463 [])) [.t 19,.c (.int .i64 45)]),.V 21 (.bin .add (.c (.int .i64 40)) (.t 20)),.V 22 (.fa 3 (.t 5)),⟨none,true,.sto 1 (.t 22) (.t 21),none,false,[]⟩] [0,4,5] [0,4,5,1000]) (.seq (.reg false [.V 23 (.mv (.t 0)),.W 24 (.call (.c (.fn 463 [])) [.t 23,.c (.int .i64 3)]),.V 25 (.mv (.t 0)),.W 26 (.call (.c (.fn 463 [])) [.t 25,.c (.int .i64 30)]),.V 27 (.bin .mul (.t 24) (.t 26)),.V 28 (.fa 4 (.t 5)),⟨none,true,.sto 1 (.t 28) (.t 27),none,false,[]⟩] [0,4,5] [0,4,5,1000]) (.seq (.reg false [.V 29 (.ld (some 5) (.t 5)),⟨none,true,.sto 5 (.t 4) (.t 29),none,false,[]⟩] [0,4] [0,4,1000]) .ret)))))) }
noncomputable def spec_l14DrawOne_D : List (Nat × Callee) := [(463,spec_l00Src_pick_c)]
def spec_l14DrawOne_H : List (Nat × ET) := []
noncomputable def spec_l14DrawOne_c : Callee := mkCallee spec_l14DrawOne_D spec_l14DrawOne_H spec_l14DrawOne_ir [.box T_l00Src,.d (.one .str)] [.d T_Pot] [.box T_l00Src]
noncomputable def spec_l14DrawOne (a0 : T_l00Src.ty) (a1 : List UInt8) : Option (T_Pot.ty × T_l00Src.ty) := spec_l14DrawOne_c.f (a0,a1,())
theorem spec_l14DrawOne_eq (a0 : T_l00Src.ty) (a1 : List UInt8) : spec_l14DrawOne a0 a1 =
 (spec_l00Src_pick a0 30).bind fun x1 =>
  (spec_l00Src_pick (x1.2.1,x1.2.2.1,x1.2.2.2.1,()) 60).bind fun x2 =>
   (spec_l00Src_pick (x2.2.1,x2.2.2.1,x2.2.2.2.1,()) 45).bind fun x3 =>
    (spec_l00Src_pick (x3.2.1,x3.2.2.1,x3.2.2.2.1,()) 3).bind fun x4 =>
     (spec_l00Src_pick (x4.2.1,x4.2.2.1,x4.2.2.2.1,()) 30).bind fun x5 =>
      some ((a1,IntKind.i64.wrap (20 + (IntKind.i64.wrap (10 * x1.1))),IntKind.i64.wrap ((IntKind.i64.wrap (20 + (IntKind.i64.wrap (10 * x1.1)))) + (IntKind.i64.wrap (10 * x2.1))),IntKind.i64.wrap (40 + x3.1),IntKind.i64.wrap (x4.1 * x5.1),()),(x5.2.1,x5.2.2.1,x5.2.2.2.1,())) :=
 (mk_f _ _ _ _ _ _ _ 4000).trans (by kernel_rfl)
def spec_l00Src_among_ir : Fn := { np := 2,io := [true,false],res := [.t 4],own := [false],body :=
 (.seq (.reg false [.V 4 (.asg (.c (.int .i64 0)))] [0,1] [0,1000]) (.seq (.reg false [.V 5 (.mv (.t 1)),.V 6 (.mv (.t 0)),.V 7 (.mv (.t 1)),.V 8 (.len (.t 7)),.W 9 (.call (.c (.fn 463 [])) [.t 6,.t 8]),.V 10 (.ia 1 (.t 5) (.t 9)),.V 11 (.ld none (.t 10)),.V 4 (.asg (.t 11))] [0,4] [0,1000]) .ret)) }
noncomputable def spec_l00Src_among_D : List (Nat × Callee) := [(463,spec_l00Src_pick_c)]
def spec_l00Src_among_H : List (Nat × ET) := [(5,(.one (.int .i64))),(7,(.one (.int .i64)))]
noncomputable def spec_l00Src_among_c : Callee := mkCallee spec_l00Src_among_D spec_l00Src_among_H spec_l00Src_among_ir [.box T_l00Src,.d (.one (.sl (.one (.int .i64))))] [.d (.one (.int .i64))] [.box T_l00Src]
noncomputable def spec_l00Src_among (a0 : T_l00Src.ty) (a1 : List Int) : Option (Int × T_l00Src.ty) := spec_l00Src_among_c.f (a0,a1,())
theorem spec_l00Src_among_eq (a0 : T_l00Src.ty) (a1 : List Int) : spec_l00Src_among a0 a1 =
 (spec_l00Src_pick a0 (a1.length : Int)).bind fun x1 =>
  if decide (0 ≤ x1.1) then
   (a1[x1.1.toNat]?).bind fun x2 =>
    some (x2,(x1.2.1,x1.2.2.1,x1.2.2.2.1,()))
  else
   none :=
 (mk_f _ _ _ _ _ _ _ 4000).trans (by kernel_rfl)
def spec_l14Bent_ir : Fn := { np := 2,io := [true,false],res := [.cell 4 (some 5)],own := [false],body :=
 (.seq (.reg false [.W 3 (.box 5 (.t 1)),.W 4 (.alloc 5 (.agg [.str [],.int .i64 0,.int .i64 0,.int .i64 0,.int .i64 0]))] [0,3,4] [0,3,4,1000]) (.seq (.seq (.reg false [.V 5 (.mv (.t 0)),.W 6 (.call (.c (.fn 463 [])) [.t 5,.c (.int .i64 20)])] [0,3,4,6] [0,3,4,1000]) (.block 0 (.seq (.reg false [.V 8 (.bin .eql (.t 6) (.c (.int .i64 0))),.V 7 (.asg (.t 8))] [0,3,4,6,7] [0,3,4,1000]) (.cond (.t 7) (.reg false [.V 9 (.mv (.t 0)),.V 10 (.bsl 1 (.int .i64 0) 4 [(0,.c (.int .i64 0)),(1,.c (.int .i64 1)),(2,.c (.int .i64 10000)),(3,.c (.int .i64 10001))]),.W 11 (.call (.c (.fn 445 [])) [.t 9,.t 10]),.V 12 (.fa 1 (.t 3)),⟨none,true,.sto 1 (.t 12) (.t 11),none,false,[]⟩] [0,3,4] [0,3,4,1000]) (.seq (.reg false [.V 14 (.bin .eql (.t 6) (.c (.int .i64 1))),.V 13 (.asg (.t 14))] [0,3,4,6,13] [0,3,4,1000]) (.cond (.t 13) (.reg false [.V 15 (.mv (.t 0)),.V 16 (.bsl 1 (.int .i64 0) 4 [(0,.c (.int .i64 0)),(1,.c (.int .i64 1)),(2,.c (.int .i64 10000)),(3,.c (.int .i64 10001))]),.W 17 (.call (.c (.fn 445 [])) [.t 15,.t 16]),.V 18 (.fa 2 (.t 3)),⟨none,true,.sto 1 (.t 18) (.t 17),none,false,[]⟩] [0,3,4] [0,3,4,1000]) (.seq (.reg false [.V 20 (.bin .eql (.t 6) (.c (.int .i64 2))),.V 19 (.asg (.t 20))] [0,3,4,6,19] [0,3,4,1000]) (.cond (.t 19) (.reg false [.V 21 (.mv (.t 0)),.V 22 (.bsl 1 (.int .i64 0) 4 [(0,.c (.int .i64 19)),(1,.c (.int .i64 20)),(2,.c (.int .i64 95)),(3,.c (.int .i64 96))]),.W 23 (.call (.c (.fn 445 [])) [.t 21,.t 22]),.V 24 (.fa 3 (.t 3)),⟨none,true,.sto 1 (.t 24) (.t 23),none,false,[]⟩] [0,3,4] [0,3,4,1000]) (.seq (.reg false [.V 26 (.bin .eql (.t 6) (.c (.int .i64 3))),.V 25 (.asg (.t 26))] [0,3,4,25] [0,3,4,1000]) (.cond (.t 25) (.reg false [.V 27 (.mv (.t 0)),.V 28 (.bsl 1 (.int .i64 0) 4 [(0,.c (.int .i64 (-1))),(1,.c (.int .i64 0)),(2,.c (.int .i64 1000)),(3,.c (.int .i64 1001))]),.W 29 (.call (.c (.fn 445 [])) [.t 27,.t 28]),.V 30 (.fa 4 (.t 3)),⟨none,true,.sto 1 (.t 30) (.t 29),none,false,[]⟩] [0,3,4] [0,3,4,1000]) .skip)))))))))) (.seq (.reg false [.V 31 (.ld (some 5) (.t 3)),⟨none,true,.sto 5 (.t 4) (.t 31),none,false,[]⟩] [0,4] [0,4,1000]) .ret))) }
noncomputable def spec_l14Bent_D : List (Nat × Callee) := [(445,spec_l00Src_among_c),(463,spec_l00Src_pick_c)]
def spec_l14Bent_H : List (Nat × ET) := [(10,(.one (.int .i64))),(16,(.one (.int .i64))),(22,(.one (.int .i64))),(28,(.one (.int .i64)))]
noncomputable def spec_l14Bent_c : Callee := mkCallee spec_l14Bent_D spec_l14Bent_H spec_l14Bent_ir [.box T_l00Src,.d T_Pot] [.d T_Pot] [.box T_l00Src]
noncomputable def spec_l14Bent (a0 : T_l00Src.ty) (a1 : T_Pot.ty) : Option (T_Pot.ty × T_l00Src.ty) := spec_l14Bent_c.f (a0,a1,())
theorem spec_l14Bent_eq (a0 : T_l00Src.ty) (a1 : T_Pot.ty) : spec_l14Bent a0 a1 =
 (spec_l00Src_pick a0 20).bind fun x1 =>
  if (x1.1 == 0) then
   (spec_l00Src_among (x1.2.1,x1.2.2.1,x1.2.2.2.1,()) [0,1,10000,10001]).bind fun x2 =>
    some ((a1.1,x2.1,a1.2.2.1,a1.2.2.2.1,a1.2.2.2.2.1,()),(x2.2.1,x2.2.2.1,x2.2.2.2.1,()))
  else
   if (x1.1 == 1) then
    (spec_l00Src_among (x1.2.1,x1.2.2.1,x1.2.2.2.1,()) [0,1,10000,10001]).bind fun x3 =>
     some ((a1.1,a1.2.1,x3.1,a1.2.2.2.1,a1.2.2.2.2.1,()),(x3.2.1,x3.2.2.1,x3.2.2.2.1,()))
   else
    if (x1.1 == 2) then
     (spec_l00Src_among (x1.2.1,x1.2.2.1,x1.2.2.2.1,()) [19,20,95,96]).bind fun x4 =>
      some ((a1.1,a1.2.1,a1.2.2.1,x4.1,a1.2.2.2.2.1,()),(x4.2.1,x4.2.2.1,x4.2.2.2.1,()))
    else
     if (x1.1 == 3) then
      (spec_l00Src_among (x1.2.1,x1.2.2.1,x1.2.2.2.1,()) [(-1),0,1000,1001]).bind fun x5 =>
       some ((a1.1,a1.2.1,a1.2.2.1,a1.2.2.2.1,x5.1,()),(x5.2.1,x5.2.2.1,x5.2.2.2.1,()))
     else
      some (a1,(x1.2.1,x1.2.2.1,x1.2.2.2.1,())) :=
 (mk_f _ _ _ _ _ _ _ 4000).trans (by kernel_rfl)
def spec_l01Dec_k0 : C :=
 .reg false [.V 22 (.mv (.t 3)),.V 23 (.mv (.t 5)),.V 24 (.bin .add (.c (.int .i64 48)) (.t 23)),.V 25 (.conv (.int .u8) (.t 24)),.V 26 (.bsl 1 (.int .u8 0) 1 [(0,.t 25)]),.W 27 (.app 1 1 (.t 22) (.t 26)),.W 3 (.asg (.t 27))] [0,3,4] [3]
def spec_l01Dec_k1 : C :=
 .reg false [.V 14 (.mv (.t 4)),.V 15 (.bin .quo (.t 14) (.c (.int .i64 10))),.V 4 (.asg (.t 15))] [0,3,4] [3]
def spec_l01Dec_k2 : C :=
 .seq (.seq (.reg false [.V 12 (.mv (.t 4)),.V 13 (.bin .neq (.t 12) (.c (.int .i64 0)))] [0,3,4,13] [3]) (.cond (.t 13) .skip (.exit 0))) (.seq (.block 1 (.seq (.reg false [.V 16 (.mv (.t 4)),.V 17 (.bin .rem (.t 16) (.c (.int .i64 10))),.V 5 (.asg (.t 17))] [0,3,4,5] [3]) (.seq (.seq (.reg false [.V 18 (.mv (.t 5)),.V 19 (.bin .lss (.t 18) (.c (.int .i64 0)))] [0,3,4,5,19] [3]) (.cond (.t 19) (.reg false [.V 20 (.mv (.t 5)),.V 21 (.un .neg (.t 20)),.V 5 (.asg (.t 21))] [0,3,4,5] [3]) .skip)) (.norm [0,3,4,5] [3] spec_l01Dec_k0)))) spec_l01Dec_k1)
def spec_l01Dec_k3 : C :=
 .norm [0,3,4] [3] spec_l01Dec_k2
def spec_l01Dec_k4 : C :=
 .seq (.seq (.reg false [.V 37 (.mv (.t 7)),.V 38 (.bin .geq (.t 37) (.c (.int .i64 0)))] [3,6,7,38] [3,6]) (.cond (.t 38) .skip (.exit 2))) (.seq (.block 3 (.reg false [.V 41 (.mv (.t 6)),.V 42 (.mv (.t 3)),.V 43 (.mv (.t 7)),.V 44 (.ia 1 (.t 42) (.t 43)),.V 45 (.ld none (.t 44)),.V 46 (.bsl 1 (.int .u8 0) 1 [(0,.t 45)]),.W 47 (.app 1 1 (.t 41) (.t 46)),.W 6 (.asg (.t 47))] [3,6,7] [3,6])) (.reg false [.V 39 (.mv (.t 7)),.V 40 (.bin .sub (.t 39) (.c (.int .i64 1))),.V 7 (.asg (.t 40))] [3,6,7] [3,6]))
def spec_l01Dec_k5 : C :=
 .norm [3,6,7] [3,6] spec_l01Dec_k4
def spec_l01Dec_k6 : C :=
 .seq (.reg false [.V 48 (.mv (.t 6)),.V 49 (.conv .bytesStr (.t 48)),.V 2 (.asg (.t 49))] [2] []) .ret
def spec_l01Dec_k7 : C :=
 .seq (.reg false [.V 33 (.bsl 1 (.int .u8 0) 0 []),.W 6 (.asg (.t 33))] [3,6] [3,6]) (.seq (.seq (.reg false [.V 34 (.mv (.t 3)),.V 35 (.len (.t 34)),.V 36 (.bin .sub (.t 35) (.c (.int .i64 1))),.V 7 (.asg (.t 36))] [3,6,7] [3,6]) (.block 2 (.loop spec_l01Dec_k5))) spec_l01Dec_k6)
def spec_l01Dec_k8 : C :=
 .seq (.seq (.reg false [.V 28 (.mv (.t 0)),.V 29 (.bin .lss (.t 28) (.c (.int .i64 0)))] [3,29] [3]) (.cond (.t 29) (.reg false [.V 30 (.mv (.t 3)),.V 31 (.bsl 1 (.int .u8 0) 1 [(0,.c (.int .u8 45))]),.W 32 (.app 1 1 (.t 30) (.t 31)),.W 3 (.asg (.t 32))] [3] [3]) .skip)) (.norm [3] [3] spec_l01Dec_k7)
def spec_l01Dec_ir : Fn := { np := 1,io := [],res := [.t 2],own := [false],body :=
 (.seq (.reg false [.V 2 (.asg (.c (.str [])))] [0] []) (.seq (.seq (.reg false [.V 8 (.mv (.t 0)),.V 9 (.bin .eql (.t 8) (.c (.int .i64 0)))] [0,9] []) (.cond (.t 9) (.seq (.reg false [.V 2 (.asg (.c (.str [48])))] [2] []) .ret) .skip)) (.seq (.reg false [.V 10 (.bsl 1 (.int .u8 0) 0 []),.W 3 (.asg (.t 10))] [0,3] [3]) (.seq (.seq (.reg false [.V 11 (.mv (.t 0)),.V 4 (.asg (.t 11))] [0,3,4] [3]) (.block 0 (.loop spec_l01Dec_k3))) spec_l01Dec_k8)))) }
noncomputable def spec_l01Dec_D : List (Nat × Callee) := []
def spec_l01Dec_H : List (Nat × ET) := [(3,(.one (.int .u8))),(6,(.one (.int .u8))),(10,(.one (.int .u8))),(22,(.one (.int .u8))),(26,(.one (.int .u8))),(27,(.one (.int .u8))),(30,(.one (.int .u8))),(31,(.one (.int .u8))),(32,(.one (.int .u8))),(33,(.one (.int .u8))),(34,(.one (.int .u8))),(41,(.one (.int .u8))),(42,(.one (.int .u8))),(46,(.one (.int .u8))),(47,(.one (.int .u8))),(48,(.one (.int .u8)))]
noncomputable def spec_l01Dec_c : Callee := mkCallee spec_l01Dec_D spec_l01Dec_H spec_l01Dec_ir [.d (.one (.int .i64))] [.d (.one .str)] []
noncomputable def spec_l01Dec (a0 : Int) : Option (List UInt8) := spec_l01Dec_c.f (a0,())
noncomputable def spec_l01Dec_p0  (v0 : Int) (v4 : Int) (r3 : List Int) : Option (List UInt8) :=
 goL spec_l01Dec_D spec_l01Dec_H (vleave spec_l01Dec_ir [.d (.one (.int .i64))] [.d (.one .str)] [] []) [.c spec_l01Dec_k2,.l spec_l01Dec_k3,.e 0,.c spec_l01Dec_k8]
  ⟨[(0,.int .i64 v0),(3,.view 3 0 r3.length),(4,.int .i64 v4)],[(3,some (.sl (.one (.int .u8)) r3))]⟩
noncomputable def spec_l01Dec_p1  (v0 : Int) (v4 : Int) (v5 : Int) (r3 : List Int) : Option (List UInt8) :=
 goL spec_l01Dec_D spec_l01Dec_H (vleave spec_l01Dec_ir [.d (.one (.int .i64))] [.d (.one .str)] [] []) [.c spec_l01Dec_k0,.e 1,.c spec_l01Dec_k1,.l spec_l01Dec_k3,.e 0,.c spec_l01Dec_k8]
  ⟨[(0,.int .i64 v0),(3,.view 3 0 r3.length),(4,.int .i64 v4),(5,.int .i64 v5)],[(3,some (.sl (.one (.int .u8)) r3))]⟩
noncomputable def spec_l01Dec_p2  (r3 : List Int) : Option (List UInt8) :=
 goL spec_l01Dec_D spec_l01Dec_H (vleave spec_l01Dec_ir [.d (.one (.int .i64))] [.d (.one .str)] [] []) [.c spec_l01Dec_k7]
  ⟨[(3,.view 3 0 r3.length)],[(3,some (.sl (.one (.int .u8)) r3))]⟩
noncomputable def spec_l01Dec_p3  (v7 : Int) (r3 : List Int) (r6 : List Int) : Option (List UInt8) :=
 goL spec_l01Dec_D spec_l01Dec_H (vleave spec_l01Dec_ir [.d (.one (.int .i64))] [.d (.one .str)] [] []) [.c spec_l01Dec_k4,.l spec_l01Dec_k5,.e 2,.c spec_l01Dec_k6]
  ⟨[(3,.view 3 0 r3.length),(6,.view 6 0 r6.length),(7,.int .i64 v7)],[(3,some (.sl (.one (.int .u8)) r3)),(6,some (.sl (.one (.int .u8)) r6))]⟩
theorem spec_l01Dec_eq (a0 : Int) : spec_l01Dec a0 =
 if (a0 == 0) then
  some [48]
 else
  spec_l01Dec_p0 a0 a0 [] :=
 (mk_f _ _ _ _ _ _ _ 4000).trans (by kernel_rfl)
theorem spec_l01Dec_p0_eq  (v0 : Int) (v4 : Int) (r3 : List Int) : spec_l01Dec_p0 v0 v4 r3 =
 if (v4 != 0) then
  if decide (v4.tmod 10 < 0) then
   spec_l01Dec_p1 v0 v4 (IntKind.i64.wrap (0 - (v4.tmod 10))) r3
  else
   spec_l01Dec_p1 v0 v4 (v4.tmod 10) r3
 else
  if decide (v0 < 0) then
   if decide (r3.length + 1 < lim) then
    spec_l01Dec_p2 ((r3.take r3.length) ++ [45])
   else
    none
  else
   spec_l01Dec_p2 r3 :=
 (goL_dn _ _ _ 4000 _ _).trans (by kernel_rfl)
theorem spec_l01Dec_p1_eq  (v0 : Int) (v4 : Int) (v5 : Int) (r3 : List Int) : spec_l01Dec_p1 v0 v4 v5 r3 =
 if decide (r3.length + 1 < lim) then
  spec_l01Dec_p0 v0 (IntKind.i64.wrap (v4.tdiv 10)) ((r3.take r3.length) ++ [IntKind.u8.wrap (IntKind.i64.wrap (48 + v5))])
 else
  none :=
 (goL_dn _ _ _ 4000 _ _).trans (by kernel_rfl)
theorem spec_l01Dec_p2_eq  (r3 : List Int) : spec_l01Dec_p2 r3 =
 spec_l01Dec_p3 (IntKind.i64.wrap ((r3.length : Int) - 1)) r3 [] :=
 (goL_dn _ _ _ 4000 _ _).trans (by kernel_rfl)
theorem spec_l01Dec_p3_eq  (v7 : Int) (r3 : List Int) (r6 : List Int) : spec_l01Dec_p3 v7 r3 r6 =
 if decide (v7 ≥ 0) then
  if decide (0 ≤ v7) && decide (v7 < (r3.length : Int)) then
   (r3[v7.toNat]?).bind fun x1 =>
    if decide (r6.length + 1 < lim) then
     spec_l01Dec_p3 (IntKind.i64.wrap (v7 - 1)) r3 ((r6.take r6.length) ++ [x1])
    else
     none
  else
   none
 else
  some ((r6.take r6.length).map vu8) :=
 (goL_dn _ _ _ 4000 _ _).trans (by kernel_rfl)
def spec_l14Draw_k0 : C :=
 .seq (.seq (.reg false [.V 10 (.mv (.t 5)),.V 11 (.mv (.t 3)),.V 12 (.len (.t 11)),.V 13 (.bin .lss (.t 10) (.t 12))] [0,3,4,5,13] [0,3,4,1000]) (.cond (.t 13) .skip (.exit 0))) (.seq (.block 1 (.seq (.reg false [.V 16 (.mv (.t 0)),.W 17 (.call (.c (.fn 642 [])) [.t 16,.c (.int .i64 3)]),.V 18 (.un .not (.t 17))] [0,3,4,5,18] [0,3,4,1000]) (.cond (.t 18) (.reg false [.V 19 (.mv (.t 4)),.V 20 (.mv (.t 0)),.V 21 (.mv (.t 3)),.V 22 (.mv (.t 5)),.V 23 (.ia 1 (.t 21) (.t 22)),.V 24 (.ld none (.t 23)),.W 25 (.call (.c (.fn 558 [])) [.t 20,.t 24]),.V 26 (.bsl 5 (.agg [.str [],.int .i64 0,.int .i64 0,.int .i64 0,.int .i64 0]) 1 [(0,.t 25)]),.W 27 (.app 5 48 (.t 19) (.t 26)),.W 4 (.asg (.t 27))] [0,3,4,5] [0,3,4,1000]) .skip))) (.reg false [.V 14 (.mv (.t 5)),.V 15 (.bin .add (.t 14) (.c (.int .i64 1))),.V 5 (.asg (.t 15))] [0,3,4,5] [0,3,4,1000]))
def spec_l14Draw_k1 : C :=
 .norm [0,3,4,5] [0,3,4,1000] spec_l14Draw_k0
def spec_l14Draw_k2 : C :=
 .seq (.seq (.reg false [.V 45 (.mv (.t 7)),.V 46 (.mv (.t 6)),.V 47 (.bin .lss (.t 45) (.t 46))] [0,4,6,7,47] [0,4,1000]) (.cond (.t 47) .skip (.exit 3))) (.seq (.block 4 (.reg false [.V 50 (.mv (.t 4)),.V 51 (.mv (.t 0)),.V 52 (.mv (.t 7)),.V 53 (.call (.c (.fn 726 [])) [.t 52]),.V 54 (.bin .add (.c (.str [110])) (.t 53)),.W 55 (.call (.c (.fn 558 [])) [.t 51,.t 54]),.V 56 (.bsl 5 (.agg [.str [],.int .i64 0,.int .i64 0,.int .i64 0,.int .i64 0]) 1 [(0,.t 55)]),.W 57 (.app 5 48 (.t 50) (.t 56)),.W 4 (.asg (.t 57))] [0,4,6,7] [0,4,1000])) (.reg false [.V 48 (.mv (.t 7)),.V 49 (.bin .add (.t 48) (.c (.int .i64 1))),.V 7 (.asg (.t 49))] [0,4,6,7] [0,4,1000]))
def spec_l14Draw_k3 : C :=
 .norm [0,4,6,7] [0,4,1000] spec_l14Draw_k2
def spec_l14Draw_k4 : C :=
 .seq (.reg false [.V 58 (.mv (.t 4)),.W 2 (.asg (.t 58))] [0,2] [0,2,4,1000]) .ret
def spec_l14Draw_k5 : C :=
 .seq (.seq (.reg false [.V 28 (.mv (.t 0)),.W 29 (.call (.c (.fn 463 [])) [.t 28,.c (.int .i64 20)])] [0,4,29] [0,4,1000]) (.block 2 (.seq (.reg false [.V 31 (.bin .eql (.t 29) (.c (.int .i64 0))),.V 30 (.asg (.t 31))] [0,4,29,30] [0,4,1000]) (.cond (.t 30) (.reg false [.V 32 (.mv (.t 4)),.V 33 (.mv (.t 0)),.V 34 (.mv (.t 0)),.W 35 (.call (.c (.fn 558 [])) [.t 34,.c (.str [122,122])]),.W 36 (.call (.c (.fn 559 [])) [.t 33,.t 35]),.V 37 (.bsl 5 (.agg [.str [],.int .i64 0,.int .i64 0,.int .i64 0,.int .i64 0]) 1 [(0,.t 36)]),.W 38 (.app 5 48 (.t 32) (.t 37)),.W 4 (.asg (.t 38))] [0,4] [0,4,1000]) (.seq (.reg false [.V 40 (.bin .eql (.t 29) (.c (.int .i64 1))),.V 39 (.asg (.t 40))] [0,4,39] [0,4,1000]) (.cond (.t 39) (.seq (.reg false [.V 41 (.mv (.t 0)),.V 42 (.bsl 1 (.int .i64 0) 2 [(0,.c (.int .i64 8)),(1,.c (.int .i64 9))]),.W 43 (.call (.c (.fn 445 [])) [.t 41,.t 42]),.V 6 (.asg (.t 43))] [0,6] [0,1000]) (.seq (.reg false [.V 44 (.bsl 5 (.agg [.str [],.int .i64 0,.int .i64 0,.int .i64 0,.int .i64 0]) 0 []),.W 4 (.asg (.t 44))] [0,4,6] [0,4,1000]) (.seq (.reg false [.V 7 (.asg (.c (.int .i64 0)))] [0,4,6,7] [0,4,1000]) (.block 3 (.loop spec_l14Draw_k3))))) .skip)))))) spec_l14Draw_k4
def spec_l14Draw_ir : Fn := { np := 1,io := [true],res := [.t 2],own := [true],body :=
 (.seq (.reg false [.W 2 (.asg (.c (.nils 5)))] [0] [0,1000]) (.seq (.reg false [.V 8 (.bsl 1 (.str []) 4 [(0,.c (.str [98,111,110,101])),(1,.c (.str [102,105,115,104])),(2,.c (.str [104,105,100,101])),(3,.c (.str [114,97,98,98,105,116]))]),.W 3 (.asg (.t 8))] [0,3] [0,3,1000]) (.seq (.reg false [.V 9 (.bsl 5 (.agg [.str [],.int .i64 0,.int .i64 0,.int .i64 0,.int .i64 0]) 0 []),.W 4 (.asg (.t 9))] [0,3,4] [0,3,4,1000]) (.seq (.seq (.reg false [.V 5 (.asg (.c (.int .i64 0)))] [0,3,4,5] [0,3,4,1000]) (.block 0 (.loop spec_l14Draw_k1))) spec_l14Draw_k5)))) }
noncomputable def spec_l14Draw_D : List (Nat × Callee) := [(445,spec_l00Src_among_c),(463,spec_l00Src_pick_c),(558,spec_l14DrawOne_c),(559,spec_l14Bent_c),(642,spec_l00Src_one_c),(726,spec_l01Dec_c)]
def spec_l14Draw_H : List (Nat × ET) := [(2,T_Pot),(3,(.one .str)),(4,T_Pot),(8,(.one .str)),(9,T_Pot),(11,(.one .str)),(19,T_Pot),(21,(.one .str)),(26,T_Pot),(27,T_Pot),(32,T_Pot),(37,T_Pot),(38,T_Pot),(42,(.one (.int .i64))),(44,T_Pot),(50,T_Pot),(56,T_Pot),(57,T_Pot),(58,T_Pot)]
noncomputable def spec_l14Draw_c : Callee := mkCallee spec_l14Draw_D spec_l14Draw_H spec_l14Draw_ir [.box T_l00Src] [.tok T_Pot] [.box T_l00Src]
noncomputable def spec_l14Draw (a0 : T_l00Src.ty) : Option (List T_Pot.ty × T_l00Src.ty) := spec_l14Draw_c.f (a0,())
noncomputable def spec_l14Draw_p0  (v5 : Int) (r0_0 : List Int) (r0_1 : Int) (r0_2 : Int) (r3 : List (List UInt8)) (r4 : List T_Pot.ty) : Option (List T_Pot.ty × T_l00Src.ty) :=
 goL spec_l14Draw_D spec_l14Draw_H (vleave spec_l14Draw_ir [.box T_l00Src] [.tok T_Pot] [.box T_l00Src] []) [.c spec_l14Draw_k0,.l spec_l14Draw_k1,.e 0,.c spec_l14Draw_k5]
  ⟨[(0,.loc 0 0 0),(3,.view 3 0 r3.length),(4,.view 4 0 r4.length),(5,.int .i64 v5)],[(0,some (.var 3 (.agg [.sl (.one (.int .u8)) r0_0,.int .i64 r0_1,.int .u64 r0_2]))),(3,some (.sl (.one .str) r3)),(4,some (.sl T_Pot r4)),(1000,none)]⟩
noncomputable def spec_l14Draw_p1  (v6 : Int) (v7 : Int) (r0_0 : List Int) (r0_1 : Int) (r0_2 : Int) (r4 : List T_Pot.ty) : Option (List T_Pot.ty × T_l00Src.ty) :=
 goL spec_l14Draw_D spec_l14Draw_H (vleave spec_l14Draw_ir [.box T_l00Src] [.tok T_Pot] [.box T_l00Src] []) [.c spec_l14Draw_k2,.l spec_l14Draw_k3,.e 3,.e 2,.c spec_l14Draw_k4]
  ⟨[(0,.loc 0 0 0),(4,.view 4 0 r4.length),(6,.int .i64 v6),(7,.int .i64 v7)],[(0,some (.var 3 (.agg [.sl (.one (.int .u8)) r0_0,.int .i64 r0_1,.int .u64 r0_2]))),(4,some (.sl T_Pot r4)),(1000,none)]⟩
theorem spec_l14Draw_eq (a0 : T_l00Src.ty) : spec_l14Draw a0 =
 spec_l14Draw_p0 0 a0.1 a0.2.1 a0.2.2.1 [[98,111,110,101],[102,105,115,104],[104,105,100,101],[114,97,98,98,105,116]] [] :=
 (mk_f _ _ _ _ _ _ _ 4000).trans (by kernel_rfl)
theorem spec_l14Draw_p0_eq  (v5 : Int) (r0_0 : List Int) (r0_1 : Int) (r0_2 : Int) (r3 : List (List UInt8)) (r4 : List T_Pot.ty) : spec_l14Draw_p0 v5 r0_0 r0_1 r0_2 r3 r4 =
 if decide (v5 < (r3.length : Int)) then
  (spec_l00Src_one (r0_0,r0_1,r0_2,()) 3).bind fun x1 =>
   if (!x1.1) then
    if decide (0 ≤ v5) && decide (v5 < (r3.length : Int)) then
     (r3[v5.toNat]?).bind fun x2 =>
      (spec_l14DrawOne (x1.2.1,x1.2.2.1,x1.2.2.2.1,()) x2).bind fun x3 =>
       if decide (r4.length + 1 < lim) then
        spec_l14Draw_p0 (IntKind.i64.wrap (v5 + 1)) x3.2.1 x3.2.2.1 x3.2.2.2.1 r3 ((r4.take r4.length) ++ [(x3.1.1,x3.1.2.1,x3.1.2.2.1,x3.1.2.2.2.1,x3.1.2.2.2.2.1,())])
       else
        none
    else
     none
   else
    spec_l14Draw_p0 (IntKind.i64.wrap (v5 + 1)) x1.2.1 x1.2.2.1 x1.2.2.2.1 r3 r4
 else
  (spec_l00Src_pick (r0_0,r0_1,r0_2,()) 20).bind fun x4 =>
   if (x4.1 == 0) then
    (spec_l14DrawOne (x4.2.1,x4.2.2.1,x4.2.2.2.1,()) [122,122]).bind fun x5 =>
     (spec_l14Bent (x5.2.1,x5.2.2.1,x5.2.2.2.1,()) (x5.1.1,x5.1.2.1,x5.1.2.2.1,x5.1.2.2.2.1,x5.1.2.2.2.2.1,())).bind fun x6 =>
      if decide (r4.length + 1 < lim) then
       some ((((r4.take r4.length) ++ [(x6.1.1,x6.1.2.1,x6.1.2.2.1,x6.1.2.2.2.1,x6.1.2.2.2.2.1,())]).take (((r4.take r4.length) ++ [(x6.1.1,x6.1.2.1,x6.1.2.2.1,x6.1.2.2.2.1,x6.1.2.2.2.2.1,())]).length)),(x6.2.1,x6.2.2.1,x6.2.2.2.1,()))
      else
       none
   else
    if (x4.1 == 1) then
     (spec_l00Src_among (x4.2.1,x4.2.2.1,x4.2.2.2.1,()) [8,9]).bind fun x7 =>
      spec_l14Draw_p1 x7.1 0 x7.2.1 x7.2.2.1 x7.2.2.2.1 []
    else
     some ((r4.take r4.length),(x4.2.1,x4.2.2.1,x4.2.2.2.1,())) :=
 (goL_dn _ _ _ 4000 _ _).trans (by kernel_rfl)
theorem spec_l14Draw_p1_eq  (v6 : Int) (v7 : Int) (r0_0 : List Int) (r0_1 : Int) (r0_2 : Int) (r4 : List T_Pot.ty) : spec_l14Draw_p1 v6 v7 r0_0 r0_1 r0_2 r4 =
 if decide (v7 < v6) then
  (spec_l01Dec v7).bind fun x1 =>
   if decide ([110].length + x1.length ≤ strMax) then
    (spec_l14DrawOne (r0_0,r0_1,r0_2,()) ([110] ++ x1)).bind fun x2 =>
     if decide (r4.length + 1 < lim) then
      spec_l14Draw_p1 v6 (IntKind.i64.wrap (v7 + 1)) x2.2.1 x2.2.2.1 x2.2.2.2.1 ((r4.take r4.length) ++ [(x2.1.1,x2.1.2.1,x2.1.2.2.1,x2.1.2.2.2.1,x2.1.2.2.2.2.1,())])
     else
      none
   else
    none
 else
  some ((r4.take r4.length),(r0_0,r0_1,r0_2,())) :=
 (goL_dn _ _ _ 4000 _ _).trans (by kernel_rfl)
def spec_l14DrawNeeds_k0 : C :=
 .seq (.seq (.reg false [.V 9 (.mv (.t 4)),.V 10 (.bin .gtr (.t 9) (.c (.int .i64 0)))] [0,3,4,10] [0,3,1000]) (.cond (.t 10) .skip (.exit 0))) (.seq (.block 1 (.reg false [.V 13 (.mv (.t 3)),.V 14 (.mv (.t 0)),.W 15 (.call (.c (.fn 463 [])) [.t 14,.c (.int .i64 40)]),.V 16 (.bin .add (.c (.int .i64 1)) (.t 15)),.V 17 (.bin .mul (.c (.int .i64 10)) (.t 16)),.V 18 (.bsl 1 (.int .i64 0) 1 [(0,.t 17)]),.W 19 (.app 1 8 (.t 13) (.t 18)),.W 3 (.asg (.t 19))] [0,3,4] [0,3,1000])) (.reg false [.V 11 (.mv (.t 4)),.V 12 (.bin .sub (.t 11) (.c (.int .i64 1))),.V 4 (.asg (.t 12))] [0,3,4] [0,3,1000]))
def spec_l14DrawNeeds_k1 : C :=
 .norm [0,3,4] [0,3,1000] spec_l14DrawNeeds_k0
def spec_l14DrawNeeds_k2 : C :=
 .seq (.seq (.reg false [.V 36 (.mv (.t 3)),.V 37 (.len (.t 36)),.V 38 (.mv (.t 5)),.V 39 (.bin .lss (.t 37) (.t 38))] [0,3,5,39] [0,3,1000]) (.cond (.t 39) .skip (.exit 3))) (.block 4 (.reg false [.V 40 (.mv (.t 3)),.V 41 (.bsl 1 (.int .i64 0) 1 [(0,.c (.int .i64 5))]),.W 42 (.app 1 8 (.t 40) (.t 41)),.W 3 (.asg (.t 42))] [0,3,5] [0,3,1000]))
def spec_l14DrawNeeds_k3 : C :=
 .norm [0,3,5] [0,3,1000] spec_l14DrawNeeds_k2
def spec_l14DrawNeeds_k4 : C :=
 .seq (.reg false [.V 43 (.mv (.t 3)),.W 2 (.asg (.t 43))] [0,2] [0,2,3,1000]) .ret
def spec_l14DrawNeeds_k5 : C :=
 .seq (.seq (.reg false [.V 20 (.mv (.t 0)),.W 21 (.call (.c (.fn 463 [])) [.t 20,.c (.int .i64 18)])] [0,3,21] [0,3,1000]) (.block 2 (.seq (.reg false [.V 23 (.bin .eql (.t 21) (.c (.int .i64 0))),.V 22 (.asg (.t 23))] [0,3,21,22] [0,3,1000]) (.cond (.t 22) (.reg false [.V 24 (.mv (.t 3)),.V 25 (.mv (.t 0)),.V 26 (.bsl 1 (.int .i64 0) 4 [(0,.c (.int .i64 0)),(1,.c (.int .i64 1)),(2,.c (.int .i64 10000)),(3,.c (.int .i64 10001))]),.W 27 (.call (.c (.fn 445 [])) [.t 25,.t 26]),.V 28 (.bsl 1 (.int .i64 0) 1 [(0,.t 27)]),.W 29 (.app 1 8 (.t 24) (.t 28)),.W 3 (.asg (.t 29))] [0,3] [0,3,1000]) (.seq (.reg false [.V 31 (.bin .eql (.t 21) (.c (.int .i64 1))),.V 30 (.asg (.t 31))] [0,3,30] [0,3,1000]) (.cond (.t 30) (.seq (.reg false [.V 32 (.mv (.t 0)),.V 33 (.bsl 1 (.int .i64 0) 2 [(0,.c (.int .i64 10)),(1,.c (.int .i64 11))]),.W 34 (.call (.c (.fn 445 [])) [.t 32,.t 33]),.V 5 (.asg (.t 34))] [0,5] [0,1000]) (.seq (.reg false [.V 35 (.bsl 1 (.int .i64 0) 0 []),.W 3 (.asg (.t 35))] [0,3,5] [0,3,1000]) (.block 3 (.loop spec_l14DrawNeeds_k3)))) .skip)))))) spec_l14DrawNeeds_k4
def spec_l14DrawNeeds_ir : Fn := { np := 1,io := [true],res := [.t 2],own := [true],body :=
 (.seq (.reg false [.W 2 (.asg (.c (.nils 1)))] [0] [0,1000]) (.seq (.reg false [.V 6 (.bsl 1 (.int .i64 0) 0 []),.W 3 (.asg (.t 6))] [0,3] [0,3,1000]) (.seq (.seq (.reg false [.V 7 (.mv (.t 0)),.W 8 (.call (.c (.fn 463 [])) [.t 7,.c (.int .i64 6)]),.V 4 (.asg (.t 8))] [0,3,4] [0,3,1000]) (.block 0 (.loop spec_l14DrawNeeds_k1))) spec_l14DrawNeeds_k5))) }
noncomputable def spec_l14DrawNeeds_D : List (Nat × Callee) := [(445,spec_l00Src_among_c),(463,spec_l00Src_pick_c)]
def spec_l14DrawNeeds_H : List (Nat × ET) := [(2,(.one (.int .i64))),(3,(.one (.int .i64))),(6,(.one (.int .i64))),(13,(.one (.int .i64))),(18,(.one (.int .i64))),(19,(.one (.int .i64))),(24,(.one (.int .i64))),(26,(.one (.int .i64))),(28,(.one (.int .i64))),(29,(.one (.int .i64))),(33,(.one (.int .i64))),(35,(.one (.int .i64))),(36,(.one (.int .i64))),(40,(.one (.int .i64))),(41,(.one (.int .i64))),(42,(.one (.int .i64))),(43,(.one (.int .i64)))]
noncomputable def spec_l14DrawNeeds_c : Callee := mkCallee spec_l14DrawNeeds_D spec_l14DrawNeeds_H spec_l14DrawNeeds_ir [.box T_l00Src] [.tok (.one (.int .i64))] [.box T_l00Src]
noncomputable def spec_l14DrawNeeds (a0 : T_l00Src.ty) : Option (List Int × T_l00Src.ty) := spec_l14DrawNeeds_c.f (a0,())
noncomputable def spec_l14DrawNeeds_p0  (v4 : Int) (r0_0 : List Int) (r0_1 : Int) (r0_2 : Int) (r3 : List Int) : Option (List Int × T_l00Src.ty) :=
 goL spec_l14DrawNeeds_D spec_l14DrawNeeds_H (vleave spec_l14DrawNeeds_ir [.box T_l00Src] [.tok (.one (.int .i64))] [.box T_l00Src] []) [.c spec_l14DrawNeeds_k0,.l spec_l14DrawNeeds_k1,.e 0,.c spec_l14DrawNeeds_k5]
  ⟨[(0,.loc 0 0 0),(3,.view 3 0 r3.length),(4,.int .i64 v4)],[(0,some (.var 3 (.agg [.sl (.one (.int .u8)) r0_0,.int .i64 r0_1,.int .u64 r0_2]))),(3,some (.sl (.one (.int .i64)) r3)),(1000,none)]⟩
noncomputable def spec_l14DrawNeeds_p1  (v5 : Int) (r0_0 : List Int) (r0_1 : Int) (r0_2 : Int) (r3 : List Int) : Option (List Int × T_l00Src.ty) :=
 goL spec_l14DrawNeeds_D spec_l14DrawNeeds_H (vleave spec_l14DrawNeeds_ir [.box T_l00Src] [.tok (.one (.int .i64))] [.box T_l00Src] []) [.c spec_l14DrawNeeds_k2,.l spec_l14DrawNeeds_k3,.e 3,.e 2,.c spec_l14DrawNeeds_k4]
  ⟨[(0,.loc 0 0 0),(3,.view 3 0 r3.length),(5,.int .i64 v5)],[(0,some (.var 3 (.agg [.sl (.one (.int .u8)) r0_0,.int .i64 r0_1,.int .u64 r0_2]))),(3,some (.sl (.one (.int .i64)) r3)),(1000,none)]⟩
theorem spec_l14DrawNeeds_eq (a0 : T_l00Src.ty) : spec_l14DrawNeeds a0 =
 (spec_l00Src_pick a0 6).bind fun x1 =>
  spec_l14DrawNeeds_p0 x1.1 x1.2.1 x1.2.2.1 x1.2.2.2.1 [] :=
 (mk_f _ _ _ _ _ _ _ 4000).trans (by kernel_rfl)
theorem spec_l14DrawNeeds_p0_eq  (v4 : Int) (r0_0 : List Int) (r0_1 : Int) (r0_2 : Int) (r3 : List Int) : spec_l14DrawNeeds_p0 v4 r0_0 r0_1 r0_2 r3 =
 if decide (v4 > 0) then
  (spec_l00Src_pick (r0_0,r0_1,r0_2,()) 40).bind fun x1 =>
   if decide (r3.length + 1 < lim) then
    spec_l14DrawNeeds_p0 (IntKind.i64.wrap (v4 - 1)) x1.2.1 x1.2.2.1 x1.2.2.2.1 ((r3.take r3.length) ++ [IntKind.i64.wrap (10 * (IntKind.i64.wrap (1 + x1.1)))])
   else
    none
 else
  (spec_l00Src_pick (r0_0,r0_1,r0_2,()) 18).bind fun x2 =>
   if (x2.1 == 0) then
    (spec_l00Src_among (x2.2.1,x2.2.2.1,x2.2.2.2.1,()) [0,1,10000,10001]).bind fun x3 =>
     if decide (r3.length + 1 < lim) then
      some ((((r3.take r3.length) ++ [x3.1]).take (((r3.take r3.length) ++ [x3.1]).length)),(x3.2.1,x3.2.2.1,x3.2.2.2.1,()))
     else
      none
   else
    if (x2.1 == 1) then
     (spec_l00Src_among (x2.2.1,x2.2.2.1,x2.2.2.2.1,()) [10,11]).bind fun x4 =>
      spec_l14DrawNeeds_p1 x4.1 x4.2.1 x4.2.2.1 x4.2.2.2.1 []
    else
     some ((r3.take r3.length),(x2.2.1,x2.2.2.1,x2.2.2.2.1,())) :=
 (goL_dn _ _ _ 4000 _ _).trans (by kernel_rfl)
theorem spec_l14DrawNeeds_p1_eq  (v5 : Int) (r0_0 : List Int) (r0_1 : Int) (r0_2 : Int) (r3 : List Int) : spec_l14DrawNeeds_p1 v5 r0_0 r0_1 r0_2 r3 =
 if decide ((r3.length : Int) < v5) then
  if decide (r3.length + 1 < lim) then
   spec_l14DrawNeeds_p1 v5 r0_0 r0_1 r0_2 ((r3.take r3.length) ++ [5])
  else
   none
 else
  some ((r3.take r3.length),(r0_0,r0_1,r0_2,())) :=
 (goL_dn _ _ _ 4000 _ _).trans (by kernel_rfl)
def spec_l06DrawBudget_ir : Fn := { np := 1,io := [true],res := [.t 2],own := [false],body :=
 (.seq (.reg false [.V 2 (.asg (.c (.int .i64 0)))] [0] [0,1000]) (.seq (.reg false [.V 3 (.mv (.t 0)),.V 4 (.bsl 1 (.int .i64 0) 7 [(0,.c (.int .i64 1)),(1,.c (.int .i64 10)),(2,.c (.int .i64 100)),(3,.c (.int .i64 1000)),(4,.c (.int .i64 20000)),(5,.c (.int .i64 0)),(6,.c (.int .i64 20001))]),.W 5 (.call (.c (.fn 445 [])) [.t 3,.t 4]),.V 2 (.asg (.t 5))] [0,2] [0,1000]) .ret)) }
noncomputable def spec_l06DrawBudget_D : List (Nat × Callee) := [(445,spec_l00Src_among_c)]
def spec_l06DrawBudget_H : List (Nat × ET) := [(4,(.one (.int .i64)))]
noncomputable def spec_l06DrawBudget_c : Callee := mkCallee spec_l06DrawBudget_D spec_l06DrawBudget_H spec_l06DrawBudget_ir [.box T_l00Src] [.d (.one (.int .i64))] [.box T_l00Src]
noncomputable def spec_l06DrawBudget (a0 : T_l00Src.ty) : Option (Int × T_l00Src.ty) := spec_l06DrawBudget_c.f (a0,())
theorem spec_l06DrawBudget_eq (a0 : T_l00Src.ty) : spec_l06DrawBudget a0 =
 (spec_l00Src_among a0 [1,10,100,1000,20000,0,20001]).bind fun x1 =>
  some (x1.1,(x1.2.1,x1.2.2.1,x1.2.2.2.1,())) :=
 (mk_f _ _ _ _ _ _ _ 4000).trans (by kernel_rfl)
def spec_DrawGlueJoints_ir : Fn := { np := 1,io := [],res := [.t 2,.t 3,.t 4],own := [true,true,false],body :=
 (.seq (.reg false [.W 2 (.asg (.c (.nils 5))),.W 3 (.asg (.c (.nils 1))),.V 4 (.asg (.c (.int .i64 0)))] [0] []) (.seq (.reg false [.V 8 (.mv (.t 0)),.W 9 (.call (.c (.fn 441 [])) [.t 8]),.V 5 (.asg (.t 9))] [5] [9,10000]) (.seq (.reg false [.V 10 (.mv (.t 5)),.W 11 (.call (.c (.fn 553 [])) [.t 10]),.W 6 (.asg (.t 11))] [5,6] [6,9,10000]) (.seq (.reg false [.V 12 (.mv (.t 5)),.W 13 (.call (.c (.fn 552 [])) [.t 12]),.W 7 (.asg (.t 13))] [5,6,7] [6,7,9,10000]) (.seq (.reg false [.V 14 (.mv (.t 6)),.V 15 (.mv (.t 7)),.V 16 (.mv (.t 5)),.W 17 (.call (.c (.fn 469 [])) [.t 16]),.W 2 (.asg (.t 14)),.W 3 (.asg (.t 15)),.V 4 (.asg (.t 17))] [2,3,4] [2,3,6,7]) .ret))))) }
noncomputable def spec_DrawGlueJoints_D : List (Nat × Callee) := [(441,spec_l00From_c),(469,spec_l06DrawBudget_c),(552,spec_l14DrawNeeds_c),(553,spec_l14Draw_c)]
def spec_DrawGlueJoints_H : List (Nat × ET) := [(2,T_Pot),(3,(.one (.int .i64))),(6,T_Pot),(7,(.one (.int .i64))),(8,(.one (.int .u8))),(11,T_Pot),(13,(.one (.int .i64))),(14,T_Pot),(15,(.one (.int .i64)))]
noncomputable def spec_DrawGlueJoints_c : Callee := mkCallee spec_DrawGlueJoints_D spec_DrawGlueJoints_H spec_DrawGlueJoints_ir [.d (.one (.sl (.one (.int .u8))))] [.tok T_Pot,.tok (.one (.int .i64)),.d (.one (.int .i64))] []
noncomputable def spec_DrawGlueJoints (a0 : List Int) : Option (List T_Pot.ty × List Int × Int) := spec_DrawGlueJoints_c.f (a0,())
theorem spec_DrawGlueJoints_eq (a0 : List Int) : spec_DrawGlueJoints a0 =
 (spec_l00From a0).bind fun x1 =>
  (spec_l14Draw x1).bind fun x2 =>
   (spec_l14DrawNeeds (x2.2.1,x2.2.2.1,x2.2.2.2.1,())).bind fun x3 =>
    (spec_l06DrawBudget (x3.2.1,x3.2.2.1,x3.2.2.2.1,())).bind fun x4 =>
     some ((x2.1.take x2.1.length),(x3.1.take x3.1.length),x4.1) :=
 (mk_f _ _ _ _ _ _ _ 4000).trans (by kernel_rfl)
def impl_isDigit_ir : Fn := { np := 1,io := [],res := [.t 2],own := [false],body :=
 (.seq (.reg false [.V 2 (.asg (.c (.bool false)))] [0] []) (.seq (.reg false [.V 3 (.mv (.t 0)),.V 4 (.bin .geq (.t 3) (.c (.int .u8 48))),.V 5 (.mv (.t 4)),.G 6 (.mv (.t 0)) 2 true,.G 7 (.bin .leq (.t 6) (.c (.int .u8 57))) 2 true,.V 8 (.pick (.t 5) (.t 7) (.c (.bool false))),.V 2 (.asg (.t 8))] [2] []) .ret)) }
noncomputable def impl_isDigit_D : List (Nat × Callee) := []
def impl_isDigit_H : List (Nat × ET) := []
noncomputable def impl_isDigit_c : Callee := mkCallee impl_isDigit_D impl_isDigit_H impl_isDigit_ir [.d (.one (.int .u8))] [.d (.one .bool)] []
noncomputable def impl_isDigit (a0 : Int) : Option (Bool) := impl_isDigit_c.f (a0,())
theorem impl_isDigit_eq (a0 : Int) : impl_isDigit a0 =
 if decide (a0 ≥ 48) then
  some (decide (a0 ≤ 57))
 else
  some false :=
 (mk_f _ _ _ _ _ _ _ 4000).trans (by kernel_rfl)
def impl_few_ir : Fn := { np := 2,io := [],res := [.t 4],own := [false],body :=
 (.seq (.reg false [.V 4 (.asg (.c (.bool false)))] [0,1] []) (.seq (.reg false [.V 5 (.mv (.t 0)),.V 6 (.mv (.t 1)),.V 7 (.bin .leq (.t 5) (.t 6)),.V 4 (.asg (.t 7))] [4] []) .ret)) }
noncomputable def impl_few_D : List (Nat × Callee) := []
def impl_few_H : List (Nat × ET) := []
noncomputable def impl_few_c : Callee := mkCallee impl_few_D impl_few_H impl_few_ir [.d (.one (.int .i64)),.d (.one (.int .i64))] [.d (.one .bool)] []
noncomputable def impl_few (a0 : Int) (a1 : Int) : Option (Bool) := impl_few_c.f (a0,a1,())
theorem impl_few_eq (a0 : Int) (a1 : Int) : impl_few a0 a1 =
 some (decide (a0 ≤ a1)) :=
 (mk_f _ _ _ _ _ _ _ 4000).trans (by kernel_rfl)
def impl_IsName_k0 : C :=
 .seq (.reg false [.V 21 (.mv (.t 4)),.V 22 (.un .not (.t 21)),.V 23 (.mv (.t 22)),.G 24 (.mv (.t 3)) 2 true,.G 25 (.bin .eql (.t 24) (.c (.int .i64 0))) 2 true,.G 26 (.mv (.t 25)) 2 true,.G 27 (.mv (.t 0)) 5 false,.G 28 (.mv (.t 3)) 5 false,.G 29 (.ix (.t 27) (.t 28)) 5 false,.G 30 (.call (.c (.fn 22 [])) [.t 29]) 5 false,.G 31 (.un .not (.t 30)) 5 false,.G 32 (.pick (.t 26) (.c (.bool true)) (.t 31)) 2 true,.V 33 (.pick (.t 23) (.t 32) (.c (.bool false)))] [0,3,33] []) (.cond (.t 33) (.seq (.reg false [.V 2 (.asg (.c (.bool false)))] [2] []) .ret) .skip)
def impl_IsName_k1 : C :=
 .reg false [.V 9 (.mv (.t 3)),.V 10 (.bin .add (.t 9) (.c (.int .i64 1))),.V 3 (.asg (.t 10))] [0,3] []
def impl_IsName_k2 : C :=
 .seq (.seq (.reg false [.V 5 (.mv (.t 3)),.V 6 (.mv (.t 0)),.V 7 (.lens (.t 6)),.V 8 (.bin .lss (.t 5) (.t 7))] [0,3,8] []) (.cond (.t 8) .skip (.exit 0))) (.seq (.block 1 (.seq (.reg false [.V 11 (.mv (.t 0)),.V 12 (.mv (.t 3)),.V 13 (.ix (.t 11) (.t 12)),.V 14 (.bin .geq (.t 13) (.c (.int .u8 97))),.V 15 (.mv (.t 14)),.G 16 (.mv (.t 0)) 4 true,.G 17 (.mv (.t 3)) 4 true,.G 18 (.ix (.t 16) (.t 17)) 4 true,.G 19 (.bin .leq (.t 18) (.c (.int .u8 122))) 4 true,.V 20 (.pick (.t 15) (.t 19) (.c (.bool false))),.V 4 (.asg (.t 20))] [0,3,4] []) (.norm [0,3,4] [] impl_IsName_k0))) impl_IsName_k1)
def impl_IsName_k3 : C :=
 .norm [0,3] [] impl_IsName_k2
def impl_IsName_k4 : C :=
 .seq (.reg false [.V 34 (.mv (.t 0)),.V 35 (.bin .neq (.t 34) (.c (.str []))),.V 36 (.mv (.t 35)),.G 37 (.mv (.t 0)) 2 true,.G 38 (.lens (.t 37)) 2 true,.G 39 (.call (.c (.fn 21 [])) [.t 38,.c (.int .i64 10)]) 2 true,.V 40 (.pick (.t 36) (.t 39) (.c (.bool false))),.V 2 (.asg (.t 40))] [2] []) .ret
def impl_IsName_ir : Fn := { np := 1,io := [],res := [.t 2],own := [false],body :=
 (.seq (.reg false [.V 2 (.asg (.c (.bool false)))] [0] []) (.seq (.seq (.reg false [.V 3 (.asg (.c (.int .i64 0)))] [0,3] []) (.block 0 (.loop impl_IsName_k3))) impl_IsName_k4)) }
noncomputable def impl_IsName_D : List (Nat × Callee) := [(21,impl_few_c),(22,impl_isDigit_c)]
def impl_IsName_H : List (Nat × ET) := []
noncomputable def impl_IsName_c : Callee := mkCallee impl_IsName_D impl_IsName_H impl_IsName_ir [.d (.one .str)] [.d (.one .bool)] []
noncomputable def impl_IsName (a0 : List UInt8) : Option (Bool) := impl_IsName_c.f (a0,())
noncomputable def impl_IsName_p0  (v0 : List UInt8) (v3 : Int) : Option (Bool) :=
 goL impl_IsName_D impl_IsName_H (vleave impl_IsName_ir [.d (.one .str)] [.d (.one .bool)] [] []) [.c impl_IsName_k2,.l impl_IsName_k3,.e 0,.c impl_IsName_k4]
  ⟨[(0,.str v0),(3,.int .i64 v3)],[]⟩
noncomputable def impl_IsName_p1  (v0 : List UInt8) (v3 : Int) (v4 : Bool) : Option (Bool) :=
 goL impl_IsName_D impl_IsName_H (vleave impl_IsName_ir [.d (.one .str)] [.d (.one .bool)] [] []) [.c impl_IsName_k0,.e 1,.c impl_IsName_k1,.l impl_IsName_k3,.e 0,.c impl_IsName_k4]
  ⟨[(0,.str v0),(3,.int .i64 v3),(4,.bool v4)],[]⟩
theorem impl_IsName_eq (a0 : List UInt8) : impl_IsName a0 =
 impl_IsName_p0 a0 0 :=
 (mk_f _ _ _ _ _ _ _ 4000).trans (by kernel_rfl)
theorem impl_IsName_p0_eq  (v0 : List UInt8) (v3 : Int) : impl_IsName_p0 v0 v3 =
 if decide (v3 < (v0.length : Int)) then
  if decide (0 ≤ v3) then
   (v0[v3.toNat]?).bind fun x1 =>
    if decide ((x1.toNat : Int) ≥ 97) then
     if decide (0 ≤ v3) then
      (v0[v3.toNat]?).bind fun x2 =>
       impl_IsName_p1 v0 v3 (decide ((x2.toNat : Int) ≤ 122))
     else
      none
    else
     impl_IsName_p1 v0 v3 false
  else
   none
 else
  if (!(v0 == [])) then
   (impl_few (v0.length : Int) 10).bind fun x3 =>
    some x3
  else
   some false :=
 (goL_dn _ _ _ 4000 _ _).trans (by kernel_rfl)
theorem impl_IsName_p1_eq  (v0 : List UInt8) (v3 : Int) (v4 : Bool) : impl_IsName_p1 v0 v3 v4 =
 if (!v4) then
  if (v3 == 0) then
   some false
  else
   if decide (0 ≤ v3) then
    (v0[v3.toNat]?).bind fun x1 =>
     (impl_isDigit (x1.toNat : Int)).bind fun x2 =>
      if (!x2) then
       some false
      else
       impl_IsName_p0 v0 (IntKind.i64.wrap (v3 + 1))
   else
    none
 else
  impl_IsName_p0 v0 (IntKind.i64.wrap (v3 + 1)) :=
 (goL_dn _ _ _ 4000 _ _).trans (by kernel_rfl)
def impl_within_ir : Fn := { np := 3,io := [],res := [.t 6],own := [false],body :=
 (.seq (.reg false [.V 6 (.asg (.c (.bool false)))] [0,1,2] []) (.seq (.reg false [.V 7 (.mv (.t 1)),.V 8 (.mv (.t 0)),.V 9 (.bin .leq (.t 7) (.t 8)),.V 10 (.mv (.t 9)),.G 11 (.mv (.t 0)) 3 true,.G 12 (.mv (.t 2)) 3 true,.G 13 (.bin .leq (.t 11) (.t 12)) 3 true,.V 14 (.pick (.t 10) (.t 13) (.c (.bool false))),.V 6 (.asg (.t 14))] [6] []) .ret)) }
noncomputable def impl_within_D : List (Nat × Callee) := []
def impl_within_H : List (Nat × ET) := []
noncomputable def impl_within_c : Callee := mkCallee impl_within_D impl_within_H impl_within_ir [.d (.one (.int .i64)),.d (.one (.int .i64)),.d (.one (.int .i64))] [.d (.one .bool)] []
noncomputable def impl_within (a0 : Int) (a1 : Int) (a2 : Int) : Option (Bool) := impl_within_c.f (a0,a1,a2,())
theorem impl_within_eq (a0 : Int) (a1 : Int) (a2 : Int) : impl_within a0 a1 a2 =
 if decide (a1 ≤ a0) then
  some (decide (a0 ≤ a2))
 else
  some false :=
 (mk_f _ _ _ _ _ _ _ 4000).trans (by kernel_rfl)
def impl_isGrams_ir : Fn := { np := 1,io := [],res := [.t 2],own := [false],body :=
 (.seq (.reg false [.V 2 (.asg (.c (.bool false)))] [0] []) (.seq (.reg false [.V 3 (.mv (.t 0)),.V 4 (.call (.c (.fn 23 [])) [.t 3,.c (.int .i64 1),.c (.int .i64 10000)]),.V 2 (.asg (.t 4))] [2] []) .ret)) }
noncomputable def impl_isGrams_D : List (Nat × Callee) := [(23,impl_within_c)]
def impl_isGrams_H : List (Nat × ET) := []
noncomputable def impl_isGrams_c : Callee := mkCallee impl_isGrams_D impl_isGrams_H impl_isGrams_ir [.d (.one (.int .i64))] [.d (.one .bool)] []
noncomputable def impl_isGrams (a0 : Int) : Option (Bool) := impl_isGrams_c.f (a0,())
theorem impl_isGrams_eq (a0 : Int) : impl_isGrams a0 =
 (impl_within a0 1 10000).bind fun x1 =>
  some x1 :=
 (mk_f _ _ _ _ _ _ _ 4000).trans (by kernel_rfl)
def impl_isHeat_ir : Fn := { np := 1,io := [],res := [.t 2],own := [false],body :=
 (.seq (.reg false [.V 2 (.asg (.c (.bool false)))] [0] []) (.seq (.reg false [.V 3 (.mv (.t 0)),.V 4 (.call (.c (.fn 23 [])) [.t 3,.c (.int .i64 20),.c (.int .i64 95)]),.V 2 (.asg (.t 4))] [2] []) .ret)) }
noncomputable def impl_isHeat_D : List (Nat × Callee) := [(23,impl_within_c)]
def impl_isHeat_H : List (Nat × ET) := []
noncomputable def impl_isHeat_c : Callee := mkCallee impl_isHeat_D impl_isHeat_H impl_isHeat_ir [.d (.one (.int .i64))] [.d (.one .bool)] []
noncomputable def impl_isHeat (a0 : Int) : Option (Bool) := impl_isHeat_c.f (a0,())
theorem impl_isHeat_eq (a0 : Int) : impl_isHeat a0 =
 (impl_within a0 20 95).bind fun x1 =>
  some x1 :=
 (mk_f _ _ _ _ _ _ _ 4000).trans (by kernel_rfl)
def impl_Pot_valid_ir : Fn := { np := 1,io := [],res := [.t 2],own := [false],body :=
 (.seq (.reg false [.W 1 (.box 5 (.t 0)),.V 2 (.asg (.c (.bool false)))] [1] [1]) (.seq (.reg false [.V 3 (.fa 0 (.t 1)),.V 4 (.ld none (.t 3)),.V 5 (.call (.c (.fn 24 [])) [.t 4]),.V 6 (.mv (.t 5)),.G 7 (.fa 1 (.t 1)) 3 true,.G 8 (.ld none (.t 7)) 3 true,.G 9 (.call (.c (.fn 25 [])) [.t 8]) 3 true,.V 10 (.pick (.t 6) (.t 9) (.c (.bool false))),.V 11 (.mv (.t 10)),.G 12 (.fa 2 (.t 1)) 8 true,.G 13 (.ld none (.t 12)) 8 true,.G 14 (.call (.c (.fn 25 [])) [.t 13]) 8 true,.V 15 (.pick (.t 11) (.t 14) (.c (.bool false))),.V 16 (.mv (.t 15)),.G 17 (.fa 3 (.t 1)) 13 true,.G 18 (.ld none (.t 17)) 13 true,.G 19 (.call (.c (.fn 26 [])) [.t 18]) 13 true,.V 20 (.pick (.t 16) (.t 19) (.c (.bool false))),.V 21 (.mv (.t 20)),.G 22 (.fa 4 (.t 1)) 18 true,.G 23 (.ld none (.t 22)) 18 true,.G 24 (.call (.c (.fn 23 [])) [.t 23,.c (.int .i64 0),.c (.int .i64 1000)]) 18 true,.V 25 (.pick (.t 21) (.t 24) (.c (.bool false))),.V 2 (.asg (.t 25))] [2] []) .ret)) }
noncomputable def impl_Pot_valid_D : List (Nat × Callee) := [(23,impl_within_c),(24,impl_IsName_c),(25,impl_isGrams_c),(26,impl_isHeat_c)]
def impl_Pot_valid_H : List (Nat × ET) := []
noncomputable def impl_Pot_valid_c : Callee := mkCallee impl_Pot_valid_D impl_Pot_valid_H impl_Pot_valid_ir [.d T_Pot] [.d (.one .bool)] []
noncomputable def impl_Pot_valid (a0 : T_Pot.ty) : Option (Bool) := impl_Pot_valid_c.f (a0,())
theorem impl_Pot_valid_eq (a0 : T_Pot.ty) : impl_Pot_valid a0 =
 (impl_IsName a0.1).bind fun x1 =>
  if x1 then
   (impl_isGrams a0.2.1).bind fun x2 =>
    if x2 then
     (impl_isGrams a0.2.2.1).bind fun x3 =>
      if x3 then
       (impl_isHeat a0.2.2.2.1).bind fun x4 =>
        if x4 then
         (impl_within a0.2.2.2.2.1 0 1000).bind fun x5 =>
          some x5
        else
         some false
      else
       some false
    else
     some false
  else
   some false :=
 (mk_f _ _ _ _ _ _ _ 4000).trans (by kernel_rfl)
def impl_ValidPots_k0 : C :=
 .seq (.reg false [.V 8 (.bin .lss (.t 7) (.t 6))] [0,5,6,7,8] []) (.seq (.cond (.t 8) .skip (.exit 0)) (.seq (.block 1 (.seq (.reg false [.V 9 (.mv (.t 7)),.V 10 (.ia 5 (.t 5) (.t 7)),.V 11 (.ld (some 5) (.t 10)),.W 4 (.alloc 5 (.agg [.str [],.int .i64 0,.int .i64 0,.int .i64 0,.int .i64 0])),.V 3 (.asg (.t 9)),⟨none,true,.sto 5 (.t 4) (.t 11),none,false,[]⟩] [0,3,4,5,6,7] [4]) (.seq (.reg true [.V 12 (.ld (some 5) (.t 4)),.V 13 (.call (.c (.fn 30 [])) [.t 12]),.V 14 (.un .not (.t 13)),.V 15 (.mv (.t 14)),.G 16 (.mv (.t 3)) 3 false,.G 17 (.bin .gtr (.t 16) (.c (.int .i64 0))) 3 false,.G 18 (.mv (.t 17)) 3 false,.G 19 (.mv (.t 0)) 6 true,.G 20 (.mv (.t 3)) 6 true,.G 21 (.bin .sub (.t 20) (.c (.int .i64 1))) 6 true,.G 22 (.ia 5 (.t 19) (.t 21)) 6 true,.G 23 (.fa 0 (.t 22)) 6 true,.G 24 (.ld none (.t 23)) 6 true,.G 25 (.fa 0 (.t 4)) 6 true,.G 26 (.ld none (.t 25)) 6 true,.G 27 (.bin .geq (.t 24) (.t 26)) 6 true,.G 28 (.pick (.t 18) (.t 27) (.c (.bool false))) 3 false,.V 29 (.pick (.t 15) (.c (.bool true)) (.t 28))] [0,5,6,7,29] []) (.cond (.t 29) (.seq (.reg false [.V 2 (.asg (.c (.bool false)))] [2] []) .ret) .skip)))) (.reg false [.V 30 (.bin .add (.t 7) (.c (.int .i64 1))),.V 7 (.mv (.t 30))] [0,5,6,7] [])))
def impl_ValidPots_k1 : C :=
 .norm [0,5,6,7] [] impl_ValidPots_k0
def impl_ValidPots_k2 : C :=
 .seq (.reg false [.V 31 (.mv (.t 0)),.V 32 (.len (.t 31)),.V 33 (.call (.c (.fn 21 [])) [.t 32,.c (.int .i64 8)]),.V 2 (.asg (.t 33))] [2] []) .ret
def impl_ValidPots_ir : Fn := { np := 1,io := [],res := [.t 2],own := [false],body :=
 (.seq (.reg false [.V 2 (.asg (.c (.bool false)))] [0] []) (.seq (.seq (.reg false [.V 5 (.mv (.t 0)),.V 6 (.len (.t 5)),.V 7 (.mv (.c (.int .i64 0)))] [0,5,6,7] []) (.block 0 (.loop impl_ValidPots_k1))) impl_ValidPots_k2)) }
noncomputable def impl_ValidPots_D : List (Nat × Callee) := [(21,impl_few_c),(30,impl_Pot_valid_c)]
def impl_ValidPots_H : List (Nat × ET) := [(5,T_Pot),(19,T_Pot),(31,T_Pot)]
noncomputable def impl_ValidPots_c : Callee := mkCallee impl_ValidPots_D impl_ValidPots_H impl_ValidPots_ir [.d (.one (.sl T_Pot))] [.d (.one .bool)] []
noncomputable def impl_ValidPots (a0 : List T_Pot.ty) : Option (Bool) := impl_ValidPots_c.f (a0,())
noncomputable def impl_ValidPots_p0  (v0 : List T_Pot.ty) (v5 : List T_Pot.ty) (v6 : Int) (v7 : Int) : Option (Bool) :=
 goL impl_ValidPots_D impl_ValidPots_H (vleave impl_ValidPots_ir [.d (.one (.sl T_Pot))] [.d (.one .bool)] [] []) [.c impl_ValidPots_k0,.l impl_ValidPots_k1,.e 0,.c impl_ValidPots_k2]
  ⟨[(0,.sl T_Pot v0),(5,.sl T_Pot v5),(6,.int .i64 v6),(7,.int .i64 v7)],[]⟩
theorem impl_ValidPots_eq (a0 : List T_Pot.ty) : impl_ValidPots a0 =
 impl_ValidPots_p0 a0 a0 (a0.length : Int) 0 :=
 (mk_f _ _ _ _ _ _ _ 4000).trans (by kernel_rfl)
theorem impl_ValidPots_p0_eq  (v0 : List T_Pot.ty) (v5 : List T_Pot.ty) (v6 : Int) (v7 : Int) : impl_ValidPots_p0 v0 v5 v6 v7 =
 if decide (v7 < v6) then
  if decide (0 ≤ v7) then
   (v5[v7.toNat]?).bind fun x1 =>
    (impl_Pot_valid x1).bind fun x2 =>
     if (!x2) then
      some false
     else
      if decide (v7 > 0) then
       if decide (0 ≤ IntKind.i64.wrap (v7 - 1)) then
        (v0[(IntKind.i64.wrap (v7 - 1)).toNat]?).bind fun x3 =>
         if (!Op.bytesLess x3.1 x1.1) then
          some false
         else
          impl_ValidPots_p0 v0 v5 v6 (IntKind.i64.wrap (v7 + 1))
       else
        none
      else
       impl_ValidPots_p0 v0 v5 v6 (IntKind.i64.wrap (v7 + 1))
  else
   none
 else
  (impl_few (v0.length : Int) 8).bind fun x4 =>
   some x4 :=
 (goL_dn _ _ _ 4000 _ _).trans (by kernel_rfl)
def impl_areNeeds_k0 : C :=
 .seq (.reg false [.V 8 (.bin .lss (.t 7) (.t 6))] [0,5,6,7,8] []) (.seq (.cond (.t 8) .skip (.exit 0)) (.seq (.block 1 (.seq (.reg false [.V 9 (.ia 1 (.t 5) (.t 7)),.V 10 (.ld none (.t 9)),.V 4 (.asg (.t 10))] [0,4,5,6,7] []) (.seq (.reg false [.V 11 (.mv (.t 4)),.V 12 (.call (.c (.fn 25 [])) [.t 11]),.V 13 (.un .not (.t 12))] [0,5,6,7,13] []) (.cond (.t 13) (.seq (.reg false [.V 2 (.asg (.c (.bool false)))] [2] []) .ret) .skip)))) (.reg false [.V 14 (.bin .add (.t 7) (.c (.int .i64 1))),.V 7 (.mv (.t 14))] [0,5,6,7] [])))
def impl_areNeeds_k1 : C :=
 .norm [0,5,6,7] [] impl_areNeeds_k0
def impl_areNeeds_k2 : C :=
 .seq (.reg false [.V 15 (.mv (.t 0)),.V 16 (.len (.t 15)),.V 17 (.call (.c (.fn 21 [])) [.t 16,.c (.int .i64 10)]),.V 2 (.asg (.t 17))] [2] []) .ret
def impl_areNeeds_ir : Fn := { np := 1,io := [],res := [.t 2],own := [false],body :=
 (.seq (.reg false [.V 2 (.asg (.c (.bool false)))] [0] []) (.seq (.seq (.reg false [.V 5 (.mv (.t 0)),.V 6 (.len (.t 5)),.V 7 (.mv (.c (.int .i64 0)))] [0,5,6,7] []) (.block 0 (.loop impl_areNeeds_k1))) impl_areNeeds_k2)) }
noncomputable def impl_areNeeds_D : List (Nat × Callee) := [(21,impl_few_c),(25,impl_isGrams_c)]
def impl_areNeeds_H : List (Nat × ET) := [(5,(.one (.int .i64))),(15,(.one (.int .i64)))]
noncomputable def impl_areNeeds_c : Callee := mkCallee impl_areNeeds_D impl_areNeeds_H impl_areNeeds_ir [.d (.one (.sl (.one (.int .i64))))] [.d (.one .bool)] []
noncomputable def impl_areNeeds (a0 : List Int) : Option (Bool) := impl_areNeeds_c.f (a0,())
noncomputable def impl_areNeeds_p0  (v0 : List Int) (v5 : List Int) (v6 : Int) (v7 : Int) : Option (Bool) :=
 goL impl_areNeeds_D impl_areNeeds_H (vleave impl_areNeeds_ir [.d (.one (.sl (.one (.int .i64))))] [.d (.one .bool)] [] []) [.c impl_areNeeds_k0,.l impl_areNeeds_k1,.e 0,.c impl_areNeeds_k2]
  ⟨[(0,.sl (.one (.int .i64)) v0),(5,.sl (.one (.int .i64)) v5),(6,.int .i64 v6),(7,.int .i64 v7)],[]⟩
theorem impl_areNeeds_eq (a0 : List Int) : impl_areNeeds a0 =
 impl_areNeeds_p0 a0 a0 (a0.length : Int) 0 :=
 (mk_f _ _ _ _ _ _ _ 4000).trans (by kernel_rfl)
theorem impl_areNeeds_p0_eq  (v0 : List Int) (v5 : List Int) (v6 : Int) (v7 : Int) : impl_areNeeds_p0 v0 v5 v6 v7 =
 if decide (v7 < v6) then
  if decide (0 ≤ v7) then
   (v5[v7.toNat]?).bind fun x1 =>
    (impl_isGrams x1).bind fun x2 =>
     if (!x2) then
      some false
     else
      impl_areNeeds_p0 v0 v5 v6 (IntKind.i64.wrap (v7 + 1))
  else
   none
 else
  (impl_few (v0.length : Int) 10).bind fun x3 =>
   some x3 :=
 (goL_dn _ _ _ 4000 _ _).trans (by kernel_rfl)
def impl_contents_k0 : C :=
 .seq (.reg false [.V 10 (.bin .lss (.t 9) (.t 8))] [3,7,8,9,10] [3]) (.seq (.cond (.t 10) .skip (.exit 0)) (.seq (.block 1 (.seq (.reg false [.V 11 (.ia 5 (.t 7) (.t 9)),.V 12 (.ld (some 5) (.t 11)),.W 5 (.alloc 5 (.agg [.str [],.int .i64 0,.int .i64 0,.int .i64 0,.int .i64 0])),⟨none,true,.sto 5 (.t 5) (.t 12),none,false,[]⟩] [3,5,7,8,9] [3,5]) (.reg false [.V 13 (.mv (.t 3)),.V 14 (.fa 1 (.t 5)),.V 15 (.ld none (.t 14)),.V 16 (.fa 2 (.t 5)),.V 17 (.ld none (.t 16)),.V 18 (.bin .add (.t 15) (.t 17)),.V 19 (.bsl 1 (.int .i64 0) 1 [(0,.t 18)]),.W 20 (.app 1 8 (.t 13) (.t 19)),.W 3 (.asg (.t 20))] [3,7,8,9] [3]))) (.reg false [.V 21 (.bin .add (.t 9) (.c (.int .i64 1))),.V 9 (.mv (.t 21))] [3,7,8,9] [3])))
def impl_contents_k1 : C :=
 .norm [3,7,8,9] [3] impl_contents_k0
def impl_contents_k2 : C :=
 .seq (.reg false [.V 22 (.mv (.t 3)),.W 2 (.asg (.t 22))] [2] [2,3]) .ret
def impl_contents_ir : Fn := { np := 1,io := [],res := [.t 2],own := [true],body :=
 (.seq (.reg false [.W 2 (.asg (.c (.nils 1)))] [0] []) (.seq (.reg false [.V 6 (.bsl 1 (.int .i64 0) 0 []),.W 3 (.asg (.t 6))] [0,3] [3]) (.seq (.seq (.reg false [.V 7 (.mv (.t 0)),.V 8 (.len (.t 7)),.V 9 (.mv (.c (.int .i64 0)))] [3,7,8,9] [3]) (.block 0 (.loop impl_contents_k1))) impl_contents_k2))) }
noncomputable def impl_contents_D : List (Nat × Callee) := []
def impl_contents_H : List (Nat × ET) := [(2,(.one (.int .i64))),(3,(.one (.int .i64))),(6,(.one (.int .i64))),(7,T_Pot),(13,(.one (.int .i64))),(19,(.one (.int .i64))),(20,(.one (.int .i64))),(22,(.one (.int .i64)))]
noncomputable def impl_contents_c : Callee := mkCallee impl_contents_D impl_contents_H impl_contents_ir [.d (.one (.sl T_Pot))] [.tok (.one (.int .i64))] []
noncomputable def impl_contents (a0 : List T_Pot.ty) : Option (List Int) := impl_contents_c.f (a0,())
noncomputable def impl_contents_p0  (v7 : List T_Pot.ty) (v8 : Int) (v9 : Int) (r3 : List Int) : Option (List Int) :=
 goL impl_contents_D impl_contents_H (vleave impl_contents_ir [.d (.one (.sl T_Pot))] [.tok (.one (.int .i64))] [] []) [.c impl_contents_k0,.l impl_contents_k1,.e 0,.c impl_contents_k2]
  ⟨[(3,.view 3 0 r3.length),(7,.sl T_Pot v7),(8,.int .i64 v8),(9,.int .i64 v9)],[(3,some (.sl (.one (.int .i64)) r3))]⟩
theorem impl_contents_eq (a0 : List T_Pot.ty) : impl_contents a0 =
 impl_contents_p0 a0 (a0.length : Int) 0 [] :=
 (mk_f _ _ _ _ _ _ _ 4000).trans (by kernel_rfl)
theorem impl_contents_p0_eq  (v7 : List T_Pot.ty) (v8 : Int) (v9 : Int) (r3 : List Int) : impl_contents_p0 v7 v8 v9 r3 =
 if decide (v9 < v8) then
  if decide (0 ≤ v9) then
   (v7[v9.toNat]?).bind fun x1 =>
    if decide (r3.length + 1 < lim) then
     impl_contents_p0 v7 v8 (IntKind.i64.wrap (v9 + 1)) ((r3.take r3.length) ++ [IntKind.i64.wrap (x1.2.1 + x1.2.2.1)])
    else
     none
  else
   none
 else
  some (r3.take r3.length) :=
 (goL_dn _ _ _ 4000 _ _).trans (by kernel_rfl)
def impl_clone_int64__ir : Fn := { np := 1,io := [],res := [.t 2],own := [true],body :=
 (.seq (.reg false [.W 2 (.asg (.c (.nils 1)))] [0] []) (.seq (.reg false [.V 3 (.mv (.t 0)),.V 4 (.len (.t 3)),.V 5 (.mks 1 8 (.int .i64 0) (.c (.int .i64 0)) (.t 4)),.V 6 (.mv (.t 0)),.W 7 (.app 1 8 (.t 5) (.t 6)),.W 2 (.asg (.t 7))] [2] [2]) .ret)) }
noncomputable def impl_clone_int64__D : List (Nat × Callee) := []
def impl_clone_int64__H : List (Nat × ET) := [(2,(.one (.int .i64))),(3,(.one (.int .i64))),(5,(.one (.int .i64))),(6,(.one (.int .i64))),(7,(.one (.int .i64)))]
noncomputable def impl_clone_int64__c : Callee := mkCallee impl_clone_int64__D impl_clone_int64__H impl_clone_int64__ir [.d (.one (.sl (.one (.int .i64))))] [.tok (.one (.int .i64))] []
noncomputable def impl_clone_int64_ (a0 : List Int) : Option (List Int) := impl_clone_int64__c.f (a0,())
theorem impl_clone_int64__eq (a0 : List Int) : impl_clone_int64_ a0 =
 if decide (0 ≤ (a0.length : Int)) && decide ((a0.length : Int).toNat < lim) then
  if decide (0 + a0.length < lim) then
   some (([] ++ a0).take (([] ++ a0).length))
  else
   none
 else
  none :=
 (mk_f _ _ _ _ _ _ _ 4000).trans (by kernel_rfl)
def impl_divRound_ir : Fn := { np := 2,io := [],res := [.t 4],own := [false],body :=
 (.seq (.reg false [.V 4 (.asg (.c (.int .i64 0)))] [0,1] []) (.seq (.reg false [.V 8 (.mv (.t 0)),.V 9 (.bin .lss (.t 8) (.c (.int .i64 0))),.V 10 (.mv (.t 1)),.V 11 (.bin .lss (.t 10) (.c (.int .i64 0))),.V 12 (.eqb true (.t 9) (.t 11)),.V 5 (.asg (.t 12))] [0,1,5] []) (.seq (.reg false [.V 13 (.mv (.t 0)),.V 14 (.mv (.t 0)),.V 15 (.un .neg (.t 14)),.V 16 (.max [.t 13,.t 15]),.V 17 (.mv (.t 1)),.V 18 (.mv (.t 1)),.V 19 (.un .neg (.t 18)),.V 20 (.max [.t 17,.t 19]),.V 0 (.asg (.t 16)),.V 1 (.asg (.t 20))] [0,1,5] []) (.seq (.reg false [.V 21 (.mv (.t 0)),.V 22 (.mv (.t 1)),.V 23 (.bin .quo (.t 21) (.t 22)),.V 6 (.asg (.t 23))] [0,1,5,6] []) (.seq (.seq (.reg false [.V 24 (.mv (.t 0)),.V 25 (.mv (.t 1)),.V 26 (.bin .rem (.t 24) (.t 25)),.V 7 (.asg (.t 26))] [1,5,6,7] []) (.seq (.reg false [.V 27 (.mv (.t 7)),.V 28 (.mv (.t 1)),.V 29 (.mv (.t 7)),.V 30 (.bin .sub (.t 28) (.t 29)),.V 31 (.bin .geq (.t 27) (.t 30))] [5,6,31] []) (.cond (.t 31) (.reg false [.V 32 (.mv (.t 6)),.V 33 (.bin .add (.t 32) (.c (.int .i64 1))),.V 6 (.asg (.t 33))] [5,6] []) .skip))) (.seq (.seq (.reg false [.V 34 (.mv (.t 5))] [6,34] []) (.cond (.t 34) (.seq (.reg false [.V 35 (.mv (.t 6)),.V 36 (.un .neg (.t 35)),.V 4 (.asg (.t 36))] [4] []) .ret) .skip)) (.seq (.reg false [.V 37 (.mv (.t 6)),.V 4 (.asg (.t 37))] [4] []) .ret))))))) }
noncomputable def impl_divRound_D : List (Nat × Callee) := []
def impl_divRound_H : List (Nat × ET) := []
noncomputable def impl_divRound_c : Callee := mkCallee impl_divRound_D impl_divRound_H impl_divRound_ir [.d (.one (.int .i64)),.d (.one (.int .i64))] [.d (.one (.int .i64))] []
noncomputable def impl_divRound (a0 : Int) (a1 : Int) : Option (Int) := impl_divRound_c.f (a0,a1,())
theorem impl_divRound_eq (a0 : Int) (a1 : Int) : impl_divRound a0 a1 =
 if decide ((if IntKind.i64.wrap (0 - a1) > a1 then IntKind.i64.wrap (0 - a1) else a1) = 0) then
  none
 else
  if decide ((if IntKind.i64.wrap (0 - a1) > a1 then IntKind.i64.wrap (0 - a1) else a1) = 0) then
   none
  else
   if decide ((if IntKind.i64.wrap (0 - a0) > a0 then IntKind.i64.wrap (0 - a0) else a0).tmod (if IntKind.i64.wrap (0 - a1) > a1 then IntKind.i64.wrap (0 - a1) else a1) ≥ IntKind.i64.wrap ((if IntKind.i64.wrap (0 - a1) > a1 then IntKind.i64.wrap (0 - a1) else a1) - ((if IntKind.i64.wrap (0 - a0) > a0 then IntKind.i64.wrap (0 - a0) else a0).tmod (if IntKind.i64.wrap (0 - a1) > a1 then IntKind.i64.wrap (0 - a1) else a1)))) then
    if (!(decide (a0 < 0) == decide (a1 < 0))) then
     some (IntKind.i64.wrap (0 - (IntKind.i64.wrap ((IntKind.i64.wrap ((if IntKind.i64.wrap (0 - a0) > a0 then IntKind.i64.wrap (0 - a0) else a0).tdiv (if IntKind.i64.wrap (0 - a1) > a1 then IntKind.i64.wrap (0 - a1) else a1))) + 1))))
    else
     some (IntKind.i64.wrap ((IntKind.i64.wrap ((if IntKind.i64.wrap (0 - a0) > a0 then IntKind.i64.wrap (0 - a0) else a0).tdiv (if IntKind.i64.wrap (0 - a1) > a1 then IntKind.i64.wrap (0 - a1) else a1))) + 1))
   else
    if (!(decide (a0 < 0) == decide (a1 < 0))) then
     some (IntKind.i64.wrap (0 - (IntKind.i64.wrap ((if IntKind.i64.wrap (0 - a0) > a0 then IntKind.i64.wrap (0 - a0) else a0).tdiv (if IntKind.i64.wrap (0 - a1) > a1 then IntKind.i64.wrap (0 - a1) else a1)))))
    else
     some (IntKind.i64.wrap ((if IntKind.i64.wrap (0 - a0) > a0 then IntKind.i64.wrap (0 - a0) else a0).tdiv (if IntKind.i64.wrap (0 - a1) > a1 then IntKind.i64.wrap (0 - a1) else a1))) :=
 (mk_f _ _ _ _ _ _ _ 4000).trans (by kernel_rfl)
def impl_Pot_strength_ir : Fn := { np := 1,io := [],res := [.t 2],own := [false],body :=
 (.seq (.reg false [.W 1 (.box 5 (.t 0)),.V 2 (.asg (.c (.int .i64 0)))] [1] [1]) (.seq (.reg true [.V 3 (.fa 1 (.t 1)),.V 4 (.ld none (.t 3)),.V 5 (.bin .mul (.c (.int .i64 1000)) (.t 4)),.V 6 (.fa 1 (.t 1)),.V 7 (.ld none (.t 6)),.V 8 (.fa 2 (.t 1)),.V 9 (.ld none (.t 8)),.V 10 (.bin .add (.t 7) (.t 9)),.V 11 (.call (.c (.fn 27 [])) [.t 5,.t 10]),.V 12 (.fa 4 (.t 1)),.V 13 (.ld none (.t 12)),.V 14 (.bin .mul (.c (.int .i64 2)) (.t 13)),.V 15 (.bin .sub (.t 11) (.t 14)),.V 16 (.fa 3 (.t 1)),.V 17 (.ld none (.t 16)),.V 18 (.bin .sub (.t 17) (.c (.int .i64 70))),.V 19 (.max [.c (.int .i64 0),.t 18]),.V 20 (.bin .mul (.c (.int .i64 10)) (.t 19)),.V 21 (.bin .sub (.t 15) (.t 20)),.V 22 (.max [.c (.int .i64 0),.t 21]),.V 2 (.asg (.t 22))] [2] []) .ret)) }
noncomputable def impl_Pot_strength_D : List (Nat × Callee) := [(27,impl_divRound_c)]
def impl_Pot_strength_H : List (Nat × ET) := []
noncomputable def impl_Pot_strength_c : Callee := mkCallee impl_Pot_strength_D impl_Pot_strength_H impl_Pot_strength_ir [.d T_Pot] [.d (.one (.int .i64))] []
noncomputable def impl_Pot_strength (a0 : T_Pot.ty) : Option (Int) := impl_Pot_strength_c.f (a0,())
theorem impl_Pot_strength_eq (a0 : T_Pot.ty) : impl_Pot_strength a0 =
 (impl_divRound (IntKind.i64.wrap (1000 * a0.2.1)) (IntKind.i64.wrap (a0.2.1 + a0.2.2.1))).bind fun x1 =>
  some (if IntKind.i64.wrap ((IntKind.i64.wrap (x1 - (IntKind.i64.wrap (2 * a0.2.2.2.2.1)))) - (IntKind.i64.wrap (10 * (if IntKind.i64.wrap (a0.2.2.2.1 - 70) > 0 then IntKind.i64.wrap (a0.2.2.2.1 - 70) else 0)))) > 0 then IntKind.i64.wrap ((IntKind.i64.wrap (x1 - (IntKind.i64.wrap (2 * a0.2.2.2.2.1)))) - (IntKind.i64.wrap (10 * (if IntKind.i64.wrap (a0.2.2.2.1 - 70) > 0 then IntKind.i64.wrap (a0.2.2.2.1 - 70) else 0)))) else 0) :=
 (mk_f _ _ _ _ _ _ _ 4000).trans (by kernel_rfl)
def impl_gluing_search_k0 : C :=
 .reg true [.V 35 (.mv (.t 0)),.V 36 (.mv (.t 0)),.V 37 (.mv (.t 0)),.V 38 (.mv (.t 0)),.V 39 (.nilck (.t 38)),.V 40 (.fa 4 (.t 39)),.V 41 (.ld none (.t 40)),.V 42 (.call (.c (.fn 624 [])) [.t 41]),.V 43 (.mv (.t 0)),.V 44 (.nilck (.t 43)),.V 45 (.fa 5 (.t 44)),.V 46 (.ld none (.t 45)),.V 47 (.nilck (.t 35)),.V 48 (.fa 6 (.t 47)),⟨none,true,.sto 1 (.t 48) (.t 42),none,true,[0]⟩,.V 49 (.nilck (.t 36)),.V 50 (.fa 7 (.t 49)),⟨none,true,.sto 1 (.t 50) (.t 46),none,true,[0]⟩,.V 51 (.nilck (.t 37)),.V 52 (.fa 8 (.t 51)),⟨none,true,.sto 1 (.t 52) (.c (.bool true)),none,false,[]⟩] [0] [0,1000,1001,1002,1004,1006]
def impl_gluing_search_k1 : C :=
 .seq (.reg false [.V 2 (.asg (.c (.bool true)))] [0,2] [0,1000,1001,1002,1004,1006]) .ret
def impl_gluing_search_k2 : C :=
 .seq (.reg false [.V 59 (.bin .lss (.t 58) (.t 57))] [0,3,56,57,58,59] [0,1000,1001,1002,1004,1006]) (.seq (.cond (.t 59) .skip (.exit 0)) (.seq (.block 1 (.seq (.reg false [.V 60 (.mv (.t 58)),.V 61 (.ia 5 (.t 56) (.t 58)),.V 62 (.ld (some 5) (.t 61)),.W 5 (.alloc 5 (.agg [.str [],.int .i64 0,.int .i64 0,.int .i64 0,.int .i64 0])),.V 4 (.asg (.t 60)),⟨none,true,.sto 5 (.t 5) (.t 62),none,false,[]⟩] [0,3,4,5,56,57,58] [0,5,1000,1001,1002,1004,1006]) (.seq (.seq (.reg true [.V 63 (.mv (.t 0)),.V 64 (.nilck (.t 63)),.V 65 (.fa 2 (.t 64)),.V 66 (.ld none (.t 65)),.V 67 (.mv (.t 4)),.V 68 (.ia 1 (.t 66) (.t 67)),.V 69 (.ld none (.t 68)),.V 70 (.mv (.t 0)),.V 71 (.nilck (.t 70)),.V 72 (.fa 1 (.t 71)),.V 73 (.ld none (.t 72)),.V 74 (.mv (.t 3)),.V 75 (.ia 1 (.t 73) (.t 74)),.V 76 (.ld none (.t 75)),.V 77 (.bin .lss (.t 69) (.t 76))] [0,3,4,5,56,57,58,77] [0,5,1000,1001,1002,1004,1006]) (.cond (.t 77) (.exit 1) .skip)) (.seq (.seq (.reg false [.V 78 (.mv (.t 0)),.V 79 (.nilck (.t 78)),.V 80 (.fa 3 (.t 79)),.V 81 (.ld none (.t 80)),.V 82 (.bin .eql (.t 81) (.c (.int .i64 0)))] [0,3,4,5,56,57,58,82] [0,5,1000,1001,1002,1004,1006]) (.cond (.t 82) (.seq (.reg false [.V 2 (.asg (.c (.bool false)))] [0,2] [0,1000,1001,1002,1004,1006]) .ret) .skip)) (.seq (.reg false [.V 83 (.mv (.t 0)),.V 84 (.nilck (.t 83)),.V 85 (.fa 3 (.t 84)),.V 86 (.ld none (.t 85)),.V 87 (.bin .sub (.t 86) (.c (.int .i64 1))),.V 88 (.nilck (.t 83)),.V 89 (.fa 3 (.t 88)),⟨none,true,.sto 1 (.t 89) (.t 87),none,false,[]⟩] [0,3,4,5,56,57,58] [0,5,1000,1001,1002,1004,1006]) (.seq (.reg true [.V 90 (.mv (.t 0)),.V 91 (.nilck (.t 90)),.V 92 (.fa 2 (.t 91)),.V 93 (.ld none (.t 92)),.V 94 (.mv (.t 4)),.V 95 (.ia 1 (.t 93) (.t 94)),.V 96 (.ld none (.t 95)),.V 97 (.mv (.t 0)),.V 98 (.nilck (.t 97)),.V 99 (.fa 1 (.t 98)),.V 100 (.ld none (.t 99)),.V 101 (.mv (.t 3)),.V 102 (.ia 1 (.t 100) (.t 101)),.V 103 (.ld none (.t 102)),.V 104 (.bin .sub (.t 96) (.t 103)),.V 105 (.ia 1 (.t 93) (.t 94)),⟨none,true,.sto 1 (.t 105) (.t 104),none,false,[]⟩] [0,3,4,5,56,57,58] [0,5,1000,1001,1002,1004,1006]) (.seq (.reg true [⟨some 106,false,.mv (.t 0),none,false,[1000000,1000001,1000002]⟩,⟨some 107,false,.mv (.t 0),none,false,[1000000,1000001,1000002]⟩,.V 108 (.mv (.t 0)),.V 109 (.nilck (.t 108)),.V 110 (.fa 4 (.t 109)),.V 111 (.ld none (.t 110)),.V 112 (.mv (.t 4)),.V 113 (.bsl 1 (.int .i64 0) 1 [(0,.t 112)]),⟨some 114,true,.app 1 8 (.t 111) (.t 113),none,true,[0,5,106,107,115,116,117,118,119]⟩,⟨some 115,false,.mv (.t 0),none,false,[1000000,1000001,1000002]⟩,⟨some 116,false,.nilck (.t 115),none,false,[1000000,1000001,1000002]⟩,⟨some 117,false,.fa 5 (.t 116),none,false,[1000000,1000001,1000002]⟩,⟨some 118,false,.ld none (.t 117),none,false,[1000000,1000001,1000002]⟩,⟨some 119,false,.ld (some 5) (.t 5),none,false,[1000000,1000001,1000002]⟩,.V 120 (.call (.c (.fn 54 [])) [.t 119]),⟨some 121,false,.bin .add (.t 118) (.t 120),none,true,[]⟩,.V 122 (.nilck (.t 106)),.V 123 (.fa 4 (.t 122)),⟨none,true,.sto 1 (.t 123) (.t 114),none,true,[0,107,118,120]⟩,.V 124 (.nilck (.t 107)),.V 125 (.fa 5 (.t 124)),⟨none,true,.sto 1 (.t 125) (.t 121),none,false,[]⟩] [0,3,4,5,56,57,58] [0,5,1000,1001,1002,1004,1006]) (.seq (.reg false [.V 126 (.mv (.t 0)),.W 127 (.call (.c (.fn 554 [])) [.t 126]),.V 6 (.asg (.t 127))] [0,3,4,5,6,56,57,58] [0,5,1000,1001,1002,1004,1006]) (.seq (.reg true [.V 128 (.mv (.t 0)),.V 129 (.mv (.t 0)),.V 130 (.mv (.t 0)),.V 131 (.nilck (.t 130)),.V 132 (.fa 4 (.t 131)),.V 133 (.ld none (.t 132)),.V 134 (.mv (.t 3)),.V 135 (.slc 1 (.t 133) none (some (.t 134))),.V 136 (.mv (.t 0)),.V 137 (.nilck (.t 136)),.V 138 (.fa 5 (.t 137)),.V 139 (.ld none (.t 138)),.V 140 (.ld (some 5) (.t 5)),.V 141 (.call (.c (.fn 54 [])) [.t 140]),⟨some 142,false,.bin .sub (.t 139) (.t 141),none,true,[]⟩,.V 143 (.nilck (.t 128)),.V 144 (.fa 4 (.t 143)),⟨none,true,.sto 1 (.t 144) (.t 135),none,true,[0,139,141]⟩,.V 145 (.nilck (.t 129)),.V 146 (.fa 5 (.t 145)),⟨none,true,.sto 1 (.t 146) (.t 142),none,false,[]⟩] [0,3,4,6,56,57,58] [0,1000,1001,1002,1004,1006]) (.seq (.reg true [.V 147 (.mv (.t 0)),.V 148 (.nilck (.t 147)),.V 149 (.fa 2 (.t 148)),.V 150 (.ld none (.t 149)),.V 151 (.mv (.t 4)),.V 152 (.ia 1 (.t 150) (.t 151)),.V 153 (.ld none (.t 152)),.V 154 (.mv (.t 0)),.V 155 (.nilck (.t 154)),.V 156 (.fa 1 (.t 155)),.V 157 (.ld none (.t 156)),.V 158 (.mv (.t 3)),.V 159 (.ia 1 (.t 157) (.t 158)),.V 160 (.ld none (.t 159)),.V 161 (.bin .add (.t 153) (.t 160)),.V 162 (.ia 1 (.t 150) (.t 151)),⟨none,true,.sto 1 (.t 162) (.t 161),none,false,[]⟩] [0,3,6,56,57,58] [0,1000,1001,1002,1004,1006]) (.seq (.reg false [.V 163 (.mv (.t 6)),.V 164 (.un .not (.t 163))] [0,3,56,57,58,164] [0,1000,1001,1002,1004,1006]) (.cond (.t 164) (.seq (.reg false [.V 2 (.asg (.c (.bool false)))] [0,2] [0,1000,1001,1002,1004,1006]) .ret) .skip)))))))))))) (.reg false [.V 165 (.bin .add (.t 58) (.c (.int .i64 1))),.V 58 (.mv (.t 165))] [0,3,56,57,58] [0,1000,1001,1002,1004,1006])))
def impl_gluing_search_k3 : C :=
 .norm [0,3,56,57,58] [0,1000,1001,1002,1004,1006] impl_gluing_search_k2
def impl_gluing_search_k4 : C :=
 .seq (.reg false [.V 2 (.asg (.c (.bool true)))] [0,2] [0,1000,1001,1002,1004,1006]) .ret
def impl_gluing_search_k5 : C :=
 .seq (.seq (.reg false [.V 53 (.mv (.t 0)),.V 54 (.nilck (.t 53)),.V 55 (.fa 0 (.t 54)),.V 56 (.ld none (.t 55)),.V 57 (.len (.t 56)),.V 58 (.mv (.c (.int .i64 0)))] [0,3,56,57,58] [0,1000,1001,1002,1004,1006]) (.block 0 (.loop impl_gluing_search_k3))) impl_gluing_search_k4
def impl_gluing_search_ir : Fn := { np := 1,io := [true],res := [.t 2],own := [false],body :=
 (.seq (.reg false [.V 2 (.asg (.c (.bool false)))] [0] [0,1000,1001,1002,1004,1006]) (.seq (.reg false [.V 7 (.mv (.t 0)),.V 8 (.nilck (.t 7)),.V 9 (.fa 4 (.t 8)),.V 10 (.ld none (.t 9)),.V 11 (.len (.t 10)),.V 3 (.asg (.t 11))] [0,3] [0,1000,1001,1002,1004,1006]) (.seq (.seq (.reg false [.V 12 (.mv (.t 3)),.V 13 (.mv (.t 0)),.V 14 (.nilck (.t 13)),.V 15 (.fa 1 (.t 14)),.V 16 (.ld none (.t 15)),.V 17 (.len (.t 16)),.V 18 (.bin .eql (.t 12) (.t 17))] [0,3,18] [0,1000,1001,1002,1004,1006]) (.cond (.t 18) (.seq (.seq (.reg true [.V 19 (.mv (.t 0)),.V 20 (.nilck (.t 19)),.V 21 (.fa 8 (.t 20)),.V 22 (.ld none (.t 21)),.V 23 (.un .not (.t 22)),.V 24 (.mv (.t 23)),.G 25 (.mv (.t 0)) 5 false,.G 26 (.nilck (.t 25)) 5 false,.G 27 (.fa 5 (.t 26)) 5 false,.G 28 (.ld none (.t 27)) 5 false,.G 29 (.mv (.t 0)) 5 false,.G 30 (.nilck (.t 29)) 5 false,.G 31 (.fa 7 (.t 30)) 5 false,.G 32 (.ld none (.t 31)) 5 false,.G 33 (.bin .gtr (.t 28) (.t 32)) 5 false,.V 34 (.pick (.t 24) (.c (.bool true)) (.t 33))] [0,34] [0,1000,1001,1002,1004,1006]) (.cond (.t 34) (.norm [0] [0,1000,1001,1002,1004,1006] impl_gluing_search_k0) .skip)) impl_gluing_search_k1) .skip)) impl_gluing_search_k5))) }
def impl_gluing_search_H : List (Nat × ET) := [(10,(.one (.int .i64))),(16,(.one (.int .i64))),(41,(.one (.int .i64))),(42,(.one (.int .i64))),(56,T_Pot),(66,(.one (.int .i64))),(73,(.one (.int .i64))),(93,(.one (.int .i64))),(100,(.one (.int .i64))),(111,(.one (.int .i64))),(113,(.one (.int .i64))),(114,(.one (.int .i64))),(133,(.one (.int .i64))),(135,(.one (.int .i64))),(150,(.one (.int .i64))),(157,(.one (.int .i64)))]
noncomputable def impl_gluing_search_F : Nat → tysU [.box T_gluingO] → Option (tys1 ([.d (.one .bool)] ++ [.box T_gluingO]))
 | 0 => fun _ => none
 | n + 1 => (mkCallee [(54,impl_Pot_strength_c),(554,⟨[true],[.box T_gluingO],[.d (.one .bool)],[.box T_gluingO],impl_gluing_search_F n⟩),(624,impl_clone_int64__c)] impl_gluing_search_H impl_gluing_search_ir [.box T_gluingO] [.d (.one .bool)] [.box T_gluingO]).f
noncomputable def impl_gluing_search_D (n : Nat) : List (Nat × Callee) := [(54,impl_Pot_strength_c),(554,⟨[true],[.box T_gluingO],[.d (.one .bool)],[.box T_gluingO],impl_gluing_search_F n⟩),(624,impl_clone_int64__c)]
noncomputable def impl_gluing_search_c : Callee := ⟨[true],[.box T_gluingO],[.d (.one .bool)],[.box T_gluingO],impl_gluing_search_F 1000⟩
noncomputable def impl_gluing_search_N (n : Nat) : Callee := ⟨[true],[.box T_gluingO],[.d (.one .bool)],[.box T_gluingO],impl_gluing_search_F n⟩
theorem impl_gluing_search_N_eq (n : Nat) : impl_gluing_search_N (n + 1) = mkCallee (impl_gluing_search_D n) impl_gluing_search_H impl_gluing_search_ir [.box T_gluingO] [.d (.one .bool)] [.box T_gluingO] := rfl
noncomputable def impl_gluing_search (n : Nat) (a0 : T_gluingO.ty) : Option (Bool × T_gluingO.ty) := impl_gluing_search_F n (a0,())
noncomputable def impl_gluing_search_p0 (n : Nat)  (r0_0 : List T_Pot.ty) (r0_1 : List Int) (r0_3 : Int) (r0_5 : Int) (r0_7 : Int) (r0_8 : Bool) (r1002 : List Int) (r1004 : List Int) (r1006 : List Int) : Option (Bool × T_gluingO.ty) :=
 goL (impl_gluing_search_D n) impl_gluing_search_H (vleave impl_gluing_search_ir [.box T_gluingO] [.d (.one .bool)] [.box T_gluingO] []) [.c impl_gluing_search_k0,.c impl_gluing_search_k1,.c impl_gluing_search_k5]
  ⟨[(0,.loc 0 0 0)],[(0,some (.var 9 (.agg [.sl T_Pot r0_0,.sl (.one (.int .i64)) r0_1,.view 1002 0 r1002.length,.int .i64 r0_3,.view 1004 0 r1004.length,.int .i64 r0_5,.view 1006 0 r1006.length,.int .i64 r0_7,.bool r0_8]))),(1000,none),(1001,none),(1002,some (.sl (.one (.int .i64)) r1002)),(1004,some (.sl (.one (.int .i64)) r1004)),(1006,some (.sl (.one (.int .i64)) r1006))]⟩
noncomputable def impl_gluing_search_p1 (n : Nat)  (v3 : Int) (v56 : List T_Pot.ty) (v57 : Int) (v58 : Int) (r0_0 : List T_Pot.ty) (r0_1 : List Int) (r0_2n : Nat) (r0_3 : Int) (r0_4n : Nat) (r0_5 : Int) (r0_7 : Int) (r0_8 : Bool) (r1002 : List Int) (r1004 : List Int) (r1006 : List Int) : Option (Bool × T_gluingO.ty) :=
 goL (impl_gluing_search_D n) impl_gluing_search_H (vleave impl_gluing_search_ir [.box T_gluingO] [.d (.one .bool)] [.box T_gluingO] []) [.c impl_gluing_search_k2,.l impl_gluing_search_k3,.e 0,.c impl_gluing_search_k4]
  ⟨[(0,.loc 0 0 0),(3,.int .i64 v3),(56,.sl T_Pot v56),(57,.int .i64 v57),(58,.int .i64 v58)],[(0,some (.var 9 (.agg [.sl T_Pot r0_0,.sl (.one (.int .i64)) r0_1,.view 1002 0 r0_2n,.int .i64 r0_3,.view 1004 0 r0_4n,.int .i64 r0_5,.view 1006 0 r1006.length,.int .i64 r0_7,.bool r0_8]))),(1000,none),(1001,none),(1002,some (.sl (.one (.int .i64)) r1002)),(1004,some (.sl (.one (.int .i64)) r1004)),(1006,some (.sl (.one (.int .i64)) r1006))]⟩
theorem impl_gluing_search_eq (n : Nat) (a0 : T_gluingO.ty) : impl_gluing_search (n + 1) a0 =
 if ((a0.2.2.2.2.1.length : Int) == (a0.2.1.length : Int)) then
  if (!a0.2.2.2.2.2.2.2.2.1) then
   impl_gluing_search_p0 n a0.1 a0.2.1 a0.2.2.2.1 a0.2.2.2.2.2.1 a0.2.2.2.2.2.2.2.1 a0.2.2.2.2.2.2.2.2.1 a0.2.2.1 a0.2.2.2.2.1 a0.2.2.2.2.2.2.1
  else
   if decide (a0.2.2.2.2.2.1 > a0.2.2.2.2.2.2.2.1) then
    impl_gluing_search_p0 n a0.1 a0.2.1 a0.2.2.2.1 a0.2.2.2.2.2.1 a0.2.2.2.2.2.2.2.1 a0.2.2.2.2.2.2.2.2.1 a0.2.2.1 a0.2.2.2.2.1 a0.2.2.2.2.2.2.1
   else
    some (true,(a0.1,a0.2.1,(a0.2.2.1.take a0.2.2.1.length),a0.2.2.2.1,(a0.2.2.2.2.1.take a0.2.2.2.2.1.length),a0.2.2.2.2.2.1,(a0.2.2.2.2.2.2.1.take a0.2.2.2.2.2.2.1.length),a0.2.2.2.2.2.2.2.1,a0.2.2.2.2.2.2.2.2.1,()))
 else
  impl_gluing_search_p1 n (a0.2.2.2.2.1.length : Int) a0.1 (a0.1.length : Int) 0 a0.1 a0.2.1 a0.2.2.1.length a0.2.2.2.1 a0.2.2.2.2.1.length a0.2.2.2.2.2.1 a0.2.2.2.2.2.2.2.1 a0.2.2.2.2.2.2.2.2.1 a0.2.2.1 a0.2.2.2.2.1 a0.2.2.2.2.2.2.1 :=
 (mk_f (impl_gluing_search_D n) impl_gluing_search_H impl_gluing_search_ir [.box T_gluingO] [.d (.one .bool)] [.box T_gluingO] (a0,()) 4000).trans (by kernel_rfl)
theorem impl_gluing_search_p0_eq (n : Nat)  (r0_0 : List T_Pot.ty) (r0_1 : List Int) (r0_3 : Int) (r0_5 : Int) (r0_7 : Int) (r0_8 : Bool) (r1002 : List Int) (r1004 : List Int) (r1006 : List Int) : impl_gluing_search_p0 n r0_0 r0_1 r0_3 r0_5 r0_7 r0_8 r1002 r1004 r1006 =
 (impl_clone_int64_ (r1004.take r1004.length)).bind fun x1 =>
  some (true,(r0_0,r0_1,(r1002.take r1002.length),r0_3,(r1004.take r1004.length),r0_5,(x1.take x1.length),r0_5,true,())) :=
 (goL_dn _ _ _ 4000 _ _).trans (by kernel_rfl)
theorem impl_gluing_search_p1_eq (n : Nat)  (v3 : Int) (v56 : List T_Pot.ty) (v57 : Int) (v58 : Int) (r0_0 : List T_Pot.ty) (r0_1 : List Int) (r0_2n : Nat) (r0_3 : Int) (r0_4n : Nat) (r0_5 : Int) (r0_7 : Int) (r0_8 : Bool) (r1002 : List Int) (r1004 : List Int) (r1006 : List Int) : impl_gluing_search_p1 n v3 v56 v57 v58 r0_0 r0_1 r0_2n r0_3 r0_4n r0_5 r0_7 r0_8 r1002 r1004 r1006 =
 if decide (v58 < v57) then
  if decide (0 ≤ v58) then
   (v56[v58.toNat]?).bind fun x1 =>
    if decide (0 ≤ v58) && decide (v58 < (r0_2n : Int)) then
     (r1002[v58.toNat]?).bind fun x2 =>
      if decide (0 ≤ v3) then
       (r0_1[v3.toNat]?).bind fun x3 =>
        if decide (x2 < x3) then
         impl_gluing_search_p1 n v3 v56 v57 (IntKind.i64.wrap (v58 + 1)) r0_0 r0_1 r0_2n r0_3 r0_4n r0_5 r0_7 r0_8 r1002 r1004 r1006
        else
         if (r0_3 == 0) then
          some (false,(r0_0,r0_1,(r1002.take r0_2n),r0_3,(r1004.take r0_4n),r0_5,(r1006.take r1006.length),r0_7,r0_8,()))
         else
          if decide (0 ≤ v58) && decide (v58 < (r0_2n : Int)) then
           (r1002[v58.toNat]?).bind fun x4 =>
            if decide (0 ≤ v3) then
             (r0_1[v3.toNat]?).bind fun x5 =>
              if decide (0 ≤ v58) && decide (v58 < (r0_2n : Int)) then
               (r1002[v58.toNat]?).bind fun x6 =>
                if decide (r0_4n + 1 < lim) then
                 (impl_Pot_strength x1).bind fun x7 =>
                  (impl_gluing_search n (r0_0,r0_1,((r1002.set v58.toNat (IntKind.i64.wrap (x4 - x5))).take r0_2n),IntKind.i64.wrap (r0_3 - 1),(((r1004.take r0_4n) ++ [v58]).take (((r1004.take r0_4n) ++ [v58]).length)),IntKind.i64.wrap (r0_5 + x7),(r1006.take r1006.length),r0_7,r0_8,())).bind fun x8 =>
                   if decide (0 ≤ v3) && decide (v3 ≤ (x8.2.2.2.2.2.1.length : Int)) then
                    (impl_Pot_strength x1).bind fun x9 =>
                     if decide (0 ≤ v58) && decide (v58 < (x8.2.2.2.1.length : Int)) then
                      (x8.2.2.2.1[v58.toNat]?).bind fun x10 =>
                       if decide (0 ≤ v3) then
                        (x8.2.2.1[v3.toNat]?).bind fun x11 =>
                         if decide (0 ≤ v58) && decide (v58 < (x8.2.2.2.1.length : Int)) then
                          (x8.2.2.2.1[v58.toNat]?).bind fun x12 =>
                           if (!x8.1) then
                            some (false,(x8.2.1,x8.2.2.1,((x8.2.2.2.1.set v58.toNat (IntKind.i64.wrap (x10 + x11))).take x8.2.2.2.1.length),x8.2.2.2.2.1,(x8.2.2.2.2.2.1.take v3.toNat),IntKind.i64.wrap (x8.2.2.2.2.2.2.1 - x9),(x8.2.2.2.2.2.2.2.1.take x8.2.2.2.2.2.2.2.1.length),x8.2.2.2.2.2.2.2.2.1,x8.2.2.2.2.2.2.2.2.2.1,()))
                           else
                            impl_gluing_search_p1 n v3 v56 v57 (IntKind.i64.wrap (v58 + 1)) x8.2.1 x8.2.2.1 x8.2.2.2.1.length x8.2.2.2.2.1 v3.toNat (IntKind.i64.wrap (x8.2.2.2.2.2.2.1 - x9)) x8.2.2.2.2.2.2.2.2.1 x8.2.2.2.2.2.2.2.2.2.1 (x8.2.2.2.1.set v58.toNat (IntKind.i64.wrap (x10 + x11))) x8.2.2.2.2.2.1 x8.2.2.2.2.2.2.2.1
                         else
                          none
                       else
                        none
                     else
                      none
                   else
                    none
                else
                 none
              else
               none
            else
             none
          else
           none
      else
       none
    else
     none
  else
   none
 else
  some (true,(r0_0,r0_1,(r1002.take r0_2n),r0_3,(r1004.take r0_4n),r0_5,(r1006.take r1006.length),r0_7,r0_8,())) :=
 (goL_dn _ _ _ 4000 _ _).trans (by kernel_rfl)
def impl_GlueJoints_k0 : C :=
 .seq (.reg false [.V 21 (.mv (.t 0)),.V 22 (.mv (.t 1)),.V 23 (.mv (.t 0)),.V 24 (.call (.c (.fn 555 [])) [.t 23]),.V 25 (.mv (.t 2)),.V 26 (.build [.nils 5,.nils 1,.nils 1,.int .i64 0,.nils 1,.int .i64 0,.nils 1,.int .i64 0,.bool false] [(0,1,.t 21),(1,1,.t 22),(2,1,.t 24),(3,1,.t 25)]),.W 27 (.box 9 (.t 26)),.V 9 (.asg (.t 27))] [9] [27,28000,28001,28002,28004,28006]) (.seq (.seq (.opn 28002 (.opn 28004 (.opn 28006 (.reg false [.V 28 (.mv (.t 9)),.W 29 (.call (.c (.fn 554 [])) [.t 28]),.V 30 (.un .not (.t 29))] [9,30] [27,28000,28001,28002,28004,28006])))) (.cond (.t 30) (.seq (.reg false [.W 6 (.asg (.c (.nils 1))),.V 7 (.asg (.c (.int .i64 0))),.V 8 (.asg (.c (.int .i64 5)))] [6,7,8] [6,28002,28004,28006]) .ret) .skip)) (.seq (.seq (.reg false [.V 31 (.mv (.t 9)),.V 32 (.nilck (.t 31)),.V 33 (.fa 8 (.t 32)),.V 34 (.ld none (.t 33)),.V 35 (.un .not (.t 34))] [9,35] [27,28000,28001,28002,28004,28006]) (.cond (.t 35) (.seq (.reg false [.W 6 (.asg (.c (.nils 1))),.V 7 (.asg (.c (.int .i64 0))),.V 8 (.asg (.c (.int .i64 3)))] [6,7,8] [6,28002,28004,28006]) .ret) .skip)) (.seq (.reg true [.V 36 (.mv (.t 9)),.V 37 (.nilck (.t 36)),.V 38 (.fa 6 (.t 37)),.V 39 (.ld none (.t 38)),⟨some 40,false,.mv (.t 9),none,false,[1000000]⟩,⟨some 41,false,.nilck (.t 40),none,false,[1000000]⟩,⟨some 42,false,.fa 7 (.t 41),none,false,[1000000]⟩,⟨some 43,false,.ld none (.t 42),none,true,[]⟩,⟨some 6,true,.asg (.t 39),none,false,[9,40,41,42]⟩,.V 7 (.asg (.t 43)),.V 8 (.asg (.c (.int .i64 0)))] [6,7,8] [6,28002,28004,28006]) .ret)))
def impl_GlueJoints_ir : Fn := { np := 3,io := [],res := [.t 6,.t 7,.t 8],own := [false,false,false],body :=
 (.seq (.reg false [.W 6 (.asg (.c (.nils 1))),.V 7 (.asg (.c (.int .i64 0))),.V 8 (.asg (.c (.int .i64 0)))] [0,1,2] []) (.seq (.seq (.reg false [.V 10 (.mv (.t 0)),.V 11 (.call (.c (.fn 57 [])) [.t 10]),.V 12 (.un .not (.t 11))] [0,1,2,12] []) (.cond (.t 12) (.seq (.reg false [.W 6 (.asg (.c (.nils 1))),.V 7 (.asg (.c (.int .i64 0))),.V 8 (.asg (.c (.int .i64 1)))] [6,7,8] [6,28002,28004,28006]) .ret) .skip)) (.seq (.seq (.reg false [.V 13 (.mv (.t 1)),.V 14 (.call (.c (.fn 556 [])) [.t 13]),.V 15 (.un .not (.t 14)),.V 16 (.mv (.t 15)),.G 17 (.mv (.t 2)) 3 false,.G 18 (.call (.c (.fn 23 [])) [.t 17,.c (.int .i64 1),.c (.int .i64 20000)]) 3 false,.G 19 (.un .not (.t 18)) 3 false,.V 20 (.pick (.t 16) (.c (.bool true)) (.t 19))] [0,1,2,20] []) (.cond (.t 20) (.seq (.reg false [.W 6 (.asg (.c (.nils 1))),.V 7 (.asg (.c (.int .i64 0))),.V 8 (.asg (.c (.int .i64 2)))] [6,7,8] [6,28002,28004,28006]) .ret) .skip)) (.norm [0,1,2] [] impl_GlueJoints_k0)))) }
noncomputable def impl_GlueJoints_D : List (Nat × Callee) := [(23,impl_within_c),(57,impl_ValidPots_c),(554,impl_gluing_search_c),(555,impl_contents_c),(556,impl_areNeeds_c)]
def impl_GlueJoints_H : List (Nat × ET) := [(6,(.one (.int .i64))),(10,T_Pot),(13,(.one (.int .i64))),(21,T_Pot),(22,(.one (.int .i64))),(23,T_Pot),(24,(.one (.int .i64))),(39,(.one (.int .i64))),(28002,(.one (.int .i64))),(28004,(.one (.int .i64))),(28006,(.one (.int .i64)))]
noncomputable def impl_GlueJoints_c : Callee := mkCallee impl_GlueJoints_D impl_GlueJoints_H impl_GlueJoints_ir [.d (.one (.sl T_Pot)),.d (.one (.sl (.one (.int .i64)))),.d (.one (.int .i64))] [.d (.one (.sl (.one (.int .i64)))),.d (.one (.int .i64)),.d (.one (.int .i64))] []
noncomputable def impl_GlueJoints (a0 : List T_Pot.ty) (a1 : List Int) (a2 : Int) : Option (List Int × Int × Int) := impl_GlueJoints_c.f (a0,a1,a2,())
noncomputable def impl_GlueJoints_p0  (v0 : List T_Pot.ty) (v1 : List Int) (v2 : Int) : Option (List Int × Int × Int) :=
 goL impl_GlueJoints_D impl_GlueJoints_H (vleave impl_GlueJoints_ir [.d (.one (.sl T_Pot)),.d (.one (.sl (.one (.int .i64)))),.d (.one (.int .i64))] [.d (.one (.sl (.one (.int .i64)))),.d (.one (.int .i64)),.d (.one (.int .i64))] [] []) [.c impl_GlueJoints_k0]
  ⟨[(0,.sl T_Pot v0),(1,.sl (.one (.int .i64)) v1),(2,.int .i64 v2)],[]⟩
theorem impl_GlueJoints_eq (a0 : List T_Pot.ty) (a1 : List Int) (a2 : Int) : impl_GlueJoints a0 a1 a2 =
 (impl_ValidPots a0).bind fun x1 =>
  if (!x1) then
   some ([],0,1)
  else
   (impl_areNeeds a1).bind fun x2 =>
    if (!x2) then
     some ([],0,2)
    else
     (impl_within a2 1 20000).bind fun x3 =>
      if (!x3) then
       some ([],0,2)
      else
       impl_GlueJoints_p0 a0 a1 a2 :=
 (mk_f _ _ _ _ _ _ _ 4000).trans (by kernel_rfl)
theorem impl_GlueJoints_p0_eq  (v0 : List T_Pot.ty) (v1 : List Int) (v2 : Int) : impl_GlueJoints_p0 v0 v1 v2 =
 (impl_contents v0).bind fun x1 =>
  (impl_gluing_search 1000 (v0,v1,(x1.take x1.length),v2,[],0,[],0,false,())).bind fun x2 =>
   if (!x2.1) then
    some ([],0,5)
   else
    if (!x2.2.2.2.2.2.2.2.2.2.1) then
     some ([],0,3)
    else
     some ((x2.2.2.2.2.2.2.2.1.take x2.2.2.2.2.2.2.2.1.length),x2.2.2.2.2.2.2.2.2.1,0) :=
 (goL_dn _ _ _ 4000 _ _).trans (by kernel_rfl)
def impl_at_ir : Fn := { np := 2,io := [],res := [.t 4],own := [false],body :=
 (.seq (.reg false [.V 4 (.asg (.c (.bool false)))] [0,1] []) (.seq (.reg false [.V 5 (.mv (.t 0)),.V 6 (.bin .geq (.t 5) (.c (.int .i64 0))),.V 7 (.mv (.t 6)),.G 8 (.mv (.t 0)) 2 true,.G 9 (.mv (.t 1)) 2 true,.G 10 (.bin .lss (.t 8) (.t 9)) 2 true,.V 11 (.pick (.t 7) (.t 10) (.c (.bool false))),.V 4 (.asg (.t 11))] [4] []) .ret)) }
noncomputable def impl_at_D : List (Nat × Callee) := []
def impl_at_H : List (Nat × ET) := []
noncomputable def impl_at_c : Callee := mkCallee impl_at_D impl_at_H impl_at_ir [.d (.one (.int .i64)),.d (.one (.int .i64))] [.d (.one .bool)] []
noncomputable def impl_at (a0 : Int) (a1 : Int) : Option (Bool) := impl_at_c.f (a0,a1,())
theorem impl_at_eq (a0 : Int) (a1 : Int) : impl_at a0 a1 =
 if decide (a0 ≥ 0) then
  some (decide (a0 < a1))
 else
  some false :=
 (mk_f _ _ _ _ _ _ _ 4000).trans (by kernel_rfl)
def impl_SpillOf_k0 : C :=
 .seq (.reg false [.V 30 (.bin .lss (.t 29) (.t 28))] [0,1,8,27,28,29,30] [8]) (.seq (.cond (.t 30) .skip (.exit 0)) (.seq (.block 1 (.seq (.reg false [.V 31 (.mv (.t 29)),.V 32 (.ia 1 (.t 27) (.t 29)),.V 33 (.ld none (.t 32)),.V 9 (.asg (.t 31)),.V 10 (.asg (.t 33))] [0,1,8,9,10,27,28,29] [8]) (.seq (.seq (.reg false [.V 34 (.mv (.t 10)),.V 35 (.mv (.t 0)),.V 36 (.len (.t 35)),.V 37 (.call (.c (.fn 4 [])) [.t 34,.t 36]),.V 38 (.un .not (.t 37))] [0,1,8,9,10,27,28,29,38] [8]) (.cond (.t 38) (.seq (.reg false [.V 6 (.asg (.c (.int .i64 0))),.V 7 (.asg (.c (.int .i64 7)))] [6,7] []) .ret) .skip)) (.reg true [.V 39 (.mv (.t 8)),.V 40 (.mv (.t 10)),.V 41 (.ia 1 (.t 39) (.t 40)),.V 42 (.ld none (.t 41)),.V 43 (.mv (.t 1)),.V 44 (.mv (.t 9)),.V 45 (.ia 1 (.t 43) (.t 44)),.V 46 (.ld none (.t 45)),.V 47 (.bin .sub (.t 42) (.t 46)),.V 48 (.ia 1 (.t 39) (.t 40)),⟨none,true,.sto 1 (.t 48) (.t 47),none,false,[]⟩] [0,1,8,27,28,29] [8])))) (.reg false [.V 49 (.bin .add (.t 29) (.c (.int .i64 1))),.V 29 (.mv (.t 49))] [0,1,8,27,28,29] [8])))
def impl_SpillOf_k1 : C :=
 .norm [0,1,8,27,28,29] [8] impl_SpillOf_k0
def impl_SpillOf_k2 : C :=
 .seq (.reg false [.V 53 (.bin .lss (.t 52) (.t 51))] [11,50,51,52,53] [8]) (.seq (.cond (.t 53) .skip (.exit 2)) (.seq (.block 3 (.seq (.reg false [.V 54 (.ia 1 (.t 50) (.t 52)),.V 55 (.ld none (.t 54)),.V 13 (.asg (.t 55))] [11,13,50,51,52] [8]) (.seq (.seq (.reg false [.V 56 (.mv (.t 13)),.V 57 (.bin .lss (.t 56) (.c (.int .i64 0)))] [11,13,50,51,52,57] [8]) (.cond (.t 57) (.seq (.reg false [.V 6 (.asg (.c (.int .i64 0))),.V 7 (.asg (.c (.int .i64 6)))] [6,7] []) .ret) .skip)) (.reg false [.V 58 (.mv (.t 11)),.V 59 (.mv (.t 13)),.V 60 (.bin .add (.t 58) (.t 59)),.V 11 (.asg (.t 60))] [11,50,51,52] [8])))) (.reg false [.V 61 (.bin .add (.t 52) (.c (.int .i64 1))),.V 52 (.mv (.t 61))] [11,50,51,52] [8])))
def impl_SpillOf_k3 : C :=
 .norm [11,50,51,52] [8] impl_SpillOf_k2
def impl_SpillOf_k4 : C :=
 .seq (.reg false [.V 62 (.mv (.t 11)),.V 6 (.asg (.t 62)),.V 7 (.asg (.c (.int .i64 0)))] [6,7] []) .ret
def impl_SpillOf_k5 : C :=
 .seq (.reg false [.V 11 (.asg (.c (.int .i64 0)))] [8,11] [8]) (.seq (.seq (.reg false [.V 50 (.mv (.t 8)),.V 51 (.len (.t 50)),.V 52 (.mv (.c (.int .i64 0)))] [11,50,51,52] [8]) (.block 2 (.loop impl_SpillOf_k3))) impl_SpillOf_k4)
def impl_SpillOf_ir : Fn := { np := 3,io := [],res := [.t 6,.t 7],own := [false,false],body :=
 (.seq (.reg false [.V 6 (.asg (.c (.int .i64 0))),.V 7 (.asg (.c (.int .i64 0)))] [0,1,2] []) (.seq (.seq (.reg false [.V 14 (.mv (.t 0)),.V 15 (.call (.c (.fn 57 [])) [.t 14]),.V 16 (.un .not (.t 15))] [0,1,2,16] []) (.cond (.t 16) (.seq (.reg false [.V 6 (.asg (.c (.int .i64 0))),.V 7 (.asg (.c (.int .i64 1)))] [6,7] []) .ret) .skip)) (.seq (.seq (.reg false [.V 17 (.mv (.t 1)),.V 18 (.call (.c (.fn 556 [])) [.t 17]),.V 19 (.un .not (.t 18))] [0,1,2,19] []) (.cond (.t 19) (.seq (.reg false [.V 6 (.asg (.c (.int .i64 0))),.V 7 (.asg (.c (.int .i64 2)))] [6,7] []) .ret) .skip)) (.seq (.seq (.reg false [.V 20 (.mv (.t 2)),.V 21 (.len (.t 20)),.V 22 (.mv (.t 1)),.V 23 (.len (.t 22)),.V 24 (.bin .neq (.t 21) (.t 23))] [0,1,2,24] []) (.cond (.t 24) (.seq (.reg false [.V 6 (.asg (.c (.int .i64 0))),.V 7 (.asg (.c (.int .i64 7)))] [6,7] []) .ret) .skip)) (.seq (.reg false [.V 25 (.mv (.t 0)),.V 26 (.call (.c (.fn 555 [])) [.t 25]),.W 8 (.asg (.t 26))] [0,1,2,8] [8]) (.seq (.seq (.reg false [.V 27 (.mv (.t 2)),.V 28 (.len (.t 27)),.V 29 (.mv (.c (.int .i64 0)))] [0,1,8,27,28,29] [8]) (.block 0 (.loop impl_SpillOf_k1))) impl_SpillOf_k5)))))) }
noncomputable def impl_SpillOf_D : List (Nat × Callee) := [(4,impl_at_c),(57,impl_ValidPots_c),(555,impl_contents_c),(556,impl_areNeeds_c)]
def impl_SpillOf_H : List (Nat × ET) := [(8,(.one (.int .i64))),(14,T_Pot),(17,(.one (.int .i64))),(20,(.one (.int .i64))),(22,(.one (.int .i64))),(25,T_Pot),(26,(.one (.int .i64))),(27,(.one (.int .i64))),(35,T_Pot),(39,(.one (.int .i64))),(43,(.one (.int .i64))),(50,(.one (.int .i64)))]
noncomputable def impl_SpillOf_c : Callee := mkCallee impl_SpillOf_D impl_SpillOf_H impl_SpillOf_ir [.d (.one (.sl T_Pot)),.d (.one (.sl (.one (.int .i64)))),.d (.one (.sl (.one (.int .i64))))] [.d (.one (.int .i64)),.d (.one (.int .i64))] []
noncomputable def impl_SpillOf (a0 : List T_Pot.ty) (a1 : List Int) (a2 : List Int) : Option (Int × Int) := impl_SpillOf_c.f (a0,a1,a2,())
noncomputable def impl_SpillOf_p0  (v0 : List T_Pot.ty) (v1 : List Int) (v8n : Nat) (v27 : List Int) (v28 : Int) (v29 : Int) (r8 : List Int) : Option (Int × Int) :=
 goL impl_SpillOf_D impl_SpillOf_H (vleave impl_SpillOf_ir [.d (.one (.sl T_Pot)),.d (.one (.sl (.one (.int .i64)))),.d (.one (.sl (.one (.int .i64))))] [.d (.one (.int .i64)),.d (.one (.int .i64))] [] []) [.c impl_SpillOf_k0,.l impl_SpillOf_k1,.e 0,.c impl_SpillOf_k5]
  ⟨[(0,.sl T_Pot v0),(1,.sl (.one (.int .i64)) v1),(8,.view 8 0 v8n),(27,.sl (.one (.int .i64)) v27),(28,.int .i64 v28),(29,.int .i64 v29)],[(8,some (.sl (.one (.int .i64)) r8))]⟩
noncomputable def impl_SpillOf_p1  (v11 : Int) (v50n : Nat) (v51 : Int) (v52 : Int) (r8 : List Int) : Option (Int × Int) :=
 goL impl_SpillOf_D impl_SpillOf_H (vleave impl_SpillOf_ir [.d (.one (.sl T_Pot)),.d (.one (.sl (.one (.int .i64)))),.d (.one (.sl (.one (.int .i64))))] [.d (.one (.int .i64)),.d (.one (.int .i64))] [] []) [.c impl_SpillOf_k2,.l impl_SpillOf_k3,.e 2,.c impl_SpillOf_k4]
  ⟨[(11,.int .i64 v11),(50,.view 8 0 v50n),(51,.int .i64 v51),(52,.int .i64 v52)],[(8,some (.sl (.one (.int .i64)) r8))]⟩
theorem impl_SpillOf_eq (a0 : List T_Pot.ty) (a1 : List Int) (a2 : List Int) : impl_SpillOf a0 a1 a2 =
 (impl_ValidPots a0).bind fun x1 =>
  if (!x1) then
   some (0,1)
  else
   (impl_areNeeds a1).bind fun x2 =>
    if (!x2) then
     some (0,2)
    else
     if ((a2.length : Int) != (a1.length : Int)) then
      some (0,7)
     else
      (impl_contents a0).bind fun x3 =>
       impl_SpillOf_p0 a0 a1 x3.length a2 (a2.length : Int) 0 x3 :=
 (mk_f _ _ _ _ _ _ _ 4000).trans (by kernel_rfl)
theorem impl_SpillOf_p0_eq  (v0 : List T_Pot.ty) (v1 : List Int) (v8n : Nat) (v27 : List Int) (v28 : Int) (v29 : Int) (r8 : List Int) : impl_SpillOf_p0 v0 v1 v8n v27 v28 v29 r8 =
 if decide (v29 < v28) then
  if decide (0 ≤ v29) then
   (v27[v29.toNat]?).bind fun x1 =>
    (impl_at x1 (v0.length : Int)).bind fun x2 =>
     if (!x2) then
      some (0,7)
     else
      if decide (0 ≤ x1) && decide (x1 < (v8n : Int)) then
       (r8[x1.toNat]?).bind fun x3 =>
        if decide (0 ≤ v29) then
         (v1[v29.toNat]?).bind fun x4 =>
          if decide (0 ≤ x1) && decide (x1 < (v8n : Int)) then
           (r8[x1.toNat]?).bind fun x5 =>
            impl_SpillOf_p0 v0 v1 v8n v27 v28 (IntKind.i64.wrap (v29 + 1)) (r8.set x1.toNat (IntKind.i64.wrap (x3 - x4)))
          else
           none
        else
         none
      else
       none
  else
   none
 else
  impl_SpillOf_p1 0 v8n (v8n : Int) 0 r8 :=
 (goL_dn _ _ _ 4000 _ _).trans (by kernel_rfl)
theorem impl_SpillOf_p1_eq  (v11 : Int) (v50n : Nat) (v51 : Int) (v52 : Int) (r8 : List Int) : impl_SpillOf_p1 v11 v50n v51 v52 r8 =
 if decide (v52 < v51) then
  if decide (0 ≤ v52) && decide (v52 < (v50n : Int)) then
   (r8[v52.toNat]?).bind fun x1 =>
    if decide (x1 < 0) then
     some (0,6)
    else
     impl_SpillOf_p1 (IntKind.i64.wrap (v11 + x1)) v50n v51 (IntKind.i64.wrap (v52 + 1)) r8
  else
   none
 else
  some (v11,0) :=
 (goL_dn _ _ _ 4000 _ _).trans (by kernel_rfl)
def laws_b10Sum_k0 : C :=
 .seq (.seq (.reg false [.V 5 (.mv (.t 4)),.V 6 (.mv (.t 0)),.V 7 (.len (.t 6)),.V 8 (.bin .lss (.t 5) (.t 7))] [0,3,4,8] []) (.cond (.t 8) .skip (.exit 0))) (.seq (.block 1 (.reg false [.V 11 (.mv (.t 3)),.V 12 (.mv (.t 0)),.V 13 (.mv (.t 4)),.V 14 (.ia 1 (.t 12) (.t 13)),.V 15 (.ld none (.t 14)),.V 16 (.bin .add (.t 11) (.t 15)),.V 3 (.asg (.t 16))] [0,3,4] [])) (.reg false [.V 9 (.mv (.t 4)),.V 10 (.bin .add (.t 9) (.c (.int .i64 1))),.V 4 (.asg (.t 10))] [0,3,4] []))
def laws_b10Sum_k1 : C :=
 .norm [0,3,4] [] laws_b10Sum_k0
def laws_b10Sum_k2 : C :=
 .seq (.reg false [.V 17 (.mv (.t 3)),.V 2 (.asg (.t 17))] [2] []) .ret
def laws_b10Sum_ir : Fn := { np := 1,io := [],res := [.t 2],own := [false],body :=
 (.seq (.reg false [.V 2 (.asg (.c (.int .i64 0)))] [0] []) (.seq (.reg false [.V 3 (.asg (.c (.int .i64 0)))] [0,3] []) (.seq (.seq (.reg false [.V 4 (.asg (.c (.int .i64 0)))] [0,3,4] []) (.block 0 (.loop laws_b10Sum_k1))) laws_b10Sum_k2))) }
noncomputable def laws_b10Sum_D : List (Nat × Callee) := []
def laws_b10Sum_H : List (Nat × ET) := [(6,(.one (.int .i64))),(12,(.one (.int .i64)))]
noncomputable def laws_b10Sum_c : Callee := mkCallee laws_b10Sum_D laws_b10Sum_H laws_b10Sum_ir [.d (.one (.sl (.one (.int .i64))))] [.d (.one (.int .i64))] []
noncomputable def laws_b10Sum (a0 : List Int) : Option (Int) := laws_b10Sum_c.f (a0,())
noncomputable def laws_b10Sum_p0  (v0 : List Int) (v3 : Int) (v4 : Int) : Option (Int) :=
 goL laws_b10Sum_D laws_b10Sum_H (vleave laws_b10Sum_ir [.d (.one (.sl (.one (.int .i64))))] [.d (.one (.int .i64))] [] []) [.c laws_b10Sum_k0,.l laws_b10Sum_k1,.e 0,.c laws_b10Sum_k2]
  ⟨[(0,.sl (.one (.int .i64)) v0),(3,.int .i64 v3),(4,.int .i64 v4)],[]⟩
theorem laws_b10Sum_eq (a0 : List Int) : laws_b10Sum a0 =
 laws_b10Sum_p0 a0 0 0 :=
 (mk_f _ _ _ _ _ _ _ 4000).trans (by kernel_rfl)
theorem laws_b10Sum_p0_eq  (v0 : List Int) (v3 : Int) (v4 : Int) : laws_b10Sum_p0 v0 v3 v4 =
 if decide (v4 < (v0.length : Int)) then
  if decide (0 ≤ v4) then
   (v0[v4.toNat]?).bind fun x1 =>
    laws_b10Sum_p0 v0 (IntKind.i64.wrap (v3 + x1)) (IntKind.i64.wrap (v4 + 1))
  else
   none
 else
  some v3 :=
 (goL_dn _ _ _ 4000 _ _).trans (by kernel_rfl)
def spec_l01Small_ir : Fn := { np := 1,io := [],res := [.t 2],own := [false],body :=
 (.seq (.reg false [.V 2 (.asg (.c (.bool false)))] [0] []) (.seq (.reg false [.V 3 (.mv (.t 0)),.V 4 (.bin .geq (.t 3) (.c (.int .u8 97))),.V 5 (.mv (.t 4)),.G 6 (.mv (.t 0)) 2 true,.G 7 (.bin .leq (.t 6) (.c (.int .u8 122))) 2 true,.V 8 (.pick (.t 5) (.t 7) (.c (.bool false))),.V 2 (.asg (.t 8))] [2] []) .ret)) }
noncomputable def spec_l01Small_D : List (Nat × Callee) := []
def spec_l01Small_H : List (Nat × ET) := []
noncomputable def spec_l01Small_c : Callee := mkCallee spec_l01Small_D spec_l01Small_H spec_l01Small_ir [.d (.one (.int .u8))] [.d (.one .bool)] []
noncomputable def spec_l01Small (a0 : Int) : Option (Bool) := spec_l01Small_c.f (a0,())
theorem spec_l01Small_eq (a0 : Int) : spec_l01Small a0 =
 if decide (a0 ≥ 97) then
  some (decide (a0 ≤ 122))
 else
  some false :=
 (mk_f _ _ _ _ _ _ _ 4000).trans (by kernel_rfl)
def spec_l01Digit_ir : Fn := { np := 1,io := [],res := [.t 2],own := [false],body :=
 (.seq (.reg false [.V 2 (.asg (.c (.bool false)))] [0] []) (.seq (.reg false [.V 3 (.mv (.t 0)),.V 4 (.bin .geq (.t 3) (.c (.int .u8 48))),.V 5 (.mv (.t 4)),.G 6 (.mv (.t 0)) 2 true,.G 7 (.bin .leq (.t 6) (.c (.int .u8 57))) 2 true,.V 8 (.pick (.t 5) (.t 7) (.c (.bool false))),.V 2 (.asg (.t 8))] [2] []) .ret)) }
noncomputable def spec_l01Digit_D : List (Nat × Callee) := []
def spec_l01Digit_H : List (Nat × ET) := []
noncomputable def spec_l01Digit_c : Callee := mkCallee spec_l01Digit_D spec_l01Digit_H spec_l01Digit_ir [.d (.one (.int .u8))] [.d (.one .bool)] []
noncomputable def spec_l01Digit (a0 : Int) : Option (Bool) := spec_l01Digit_c.f (a0,())
theorem spec_l01Digit_eq (a0 : Int) : spec_l01Digit a0 =
 if decide (a0 ≥ 48) then
  some (decide (a0 ≤ 57))
 else
  some false :=
 (mk_f _ _ _ _ _ _ _ 4000).trans (by kernel_rfl)
def spec_l01Name_k0 : C :=
 .seq (.seq (.reg false [.V 17 (.mv (.t 3)),.V 18 (.mv (.t 0)),.V 19 (.lens (.t 18)),.V 20 (.bin .lss (.t 17) (.t 19))] [0,3,20] []) (.cond (.t 20) .skip (.exit 0))) (.seq (.block 1 (.seq (.reg false [.V 23 (.mv (.t 0)),.V 24 (.mv (.t 3)),.V 25 (.ix (.t 23) (.t 24)),.V 26 (.call (.c (.fn 11 [])) [.t 25]),.V 27 (.un .not (.t 26)),.V 28 (.mv (.t 27)),.G 29 (.mv (.t 0)) 5 true,.G 30 (.mv (.t 3)) 5 true,.G 31 (.ix (.t 29) (.t 30)) 5 true,.G 32 (.call (.c (.fn 12 [])) [.t 31]) 5 true,.G 33 (.un .not (.t 32)) 5 true,.V 34 (.pick (.t 28) (.t 33) (.c (.bool false)))] [0,3,34] []) (.cond (.t 34) (.seq (.reg false [.V 2 (.asg (.c (.bool false)))] [2] []) .ret) .skip))) (.reg false [.V 21 (.mv (.t 3)),.V 22 (.bin .add (.t 21) (.c (.int .i64 1))),.V 3 (.asg (.t 22))] [0,3] []))
def spec_l01Name_k1 : C :=
 .norm [0,3] [] spec_l01Name_k0
def spec_l01Name_k2 : C :=
 .seq (.reg false [.V 2 (.asg (.c (.bool true)))] [2] []) .ret
def spec_l01Name_k3 : C :=
 .seq (.seq (.reg false [.V 3 (.asg (.c (.int .i64 0)))] [0,3] []) (.block 0 (.loop spec_l01Name_k1))) spec_l01Name_k2
def spec_l01Name_ir : Fn := { np := 1,io := [],res := [.t 2],own := [false],body :=
 (.seq (.reg false [.V 2 (.asg (.c (.bool false)))] [0] []) (.seq (.seq (.reg false [.V 4 (.mv (.t 0)),.V 5 (.bin .eql (.t 4) (.c (.str []))),.V 6 (.mv (.t 5)),.G 7 (.mv (.t 0)) 2 false,.G 8 (.lens (.t 7)) 2 false,.G 9 (.bin .gtr (.t 8) (.c (.int .i64 10))) 2 false,.V 10 (.pick (.t 6) (.c (.bool true)) (.t 9)),.V 11 (.mv (.t 10)),.G 12 (.mv (.t 0)) 7 false,.G 13 (.ix (.t 12) (.c (.int .i64 0))) 7 false,.G 14 (.call (.c (.fn 11 [])) [.t 13]) 7 false,.G 15 (.un .not (.t 14)) 7 false,.V 16 (.pick (.t 11) (.c (.bool true)) (.t 15))] [0,16] []) (.cond (.t 16) (.seq (.reg false [.V 2 (.asg (.c (.bool false)))] [2] []) .ret) .skip)) (.norm [0] [] spec_l01Name_k3))) }
noncomputable def spec_l01Name_D : List (Nat × Callee) := [(11,spec_l01Small_c),(12,spec_l01Digit_c)]
def spec_l01Name_H : List (Nat × ET) := []
noncomputable def spec_l01Name_c : Callee := mkCallee spec_l01Name_D spec_l01Name_H spec_l01Name_ir [.d (.one .str)] [.d (.one .bool)] []
noncomputable def spec_l01Name (a0 : List UInt8) : Option (Bool) := spec_l01Name_c.f (a0,())
noncomputable def spec_l01Name_p0  (v0 : List UInt8) : Option (Bool) :=
 goL spec_l01Name_D spec_l01Name_H (vleave spec_l01Name_ir [.d (.one .str)] [.d (.one .bool)] [] []) [.c spec_l01Name_k3]
  ⟨[(0,.str v0)],[]⟩
noncomputable def spec_l01Name_p1  (v0 : List UInt8) (v3 : Int) : Option (Bool) :=
 goL spec_l01Name_D spec_l01Name_H (vleave spec_l01Name_ir [.d (.one .str)] [.d (.one .bool)] [] []) [.c spec_l01Name_k0,.l spec_l01Name_k1,.e 0,.c spec_l01Name_k2]
  ⟨[(0,.str v0),(3,.int .i64 v3)],[]⟩
theorem spec_l01Name_eq (a0 : List UInt8) : spec_l01Name a0 =
 if (a0 == []) then
  some false
 else
  if decide ((a0.length : Int) > 10) then
   some false
  else
   (a0[0]?).bind fun x1 =>
    (spec_l01Small (x1.toNat : Int)).bind fun x2 =>
     if (!x2) then
      some false
     else
      spec_l01Name_p0 a0 :=
 (mk_f _ _ _ _ _ _ _ 4000).trans (by kernel_rfl)
theorem spec_l01Name_p0_eq  (v0 : List UInt8) : spec_l01Name_p0 v0 =
 spec_l01Name_p1 v0 0 :=
 (goL_dn _ _ _ 4000 _ _).trans (by kernel_rfl)
theorem spec_l01Name_p1_eq  (v0 : List UInt8) (v3 : Int) : spec_l01Name_p1 v0 v3 =
 if decide (v3 < (v0.length : Int)) then
  if decide (0 ≤ v3) then
   (v0[v3.toNat]?).bind fun x1 =>
    (spec_l01Small (x1.toNat : Int)).bind fun x2 =>
     if (!x2) then
      if decide (0 ≤ v3) then
       (v0[v3.toNat]?).bind fun x3 =>
        (spec_l01Digit (x3.toNat : Int)).bind fun x4 =>
         if (!x4) then
          some false
         else
          spec_l01Name_p1 v0 (IntKind.i64.wrap (v3 + 1))
      else
       none
     else
      spec_l01Name_p1 v0 (IntKind.i64.wrap (v3 + 1))
  else
   none
 else
  some true :=
 (goL_dn _ _ _ 4000 _ _).trans (by kernel_rfl)
def spec_l00In_ir : Fn := { np := 3,io := [],res := [.t 6],own := [false],body :=
 (.seq (.reg false [.V 6 (.asg (.c (.bool false)))] [0,1,2] []) (.seq (.reg false [.V 7 (.mv (.t 0)),.V 8 (.mv (.t 1)),.V 9 (.bin .geq (.t 7) (.t 8)),.V 10 (.mv (.t 9)),.G 11 (.mv (.t 0)) 3 true,.G 12 (.mv (.t 2)) 3 true,.G 13 (.bin .leq (.t 11) (.t 12)) 3 true,.V 14 (.pick (.t 10) (.t 13) (.c (.bool false))),.V 6 (.asg (.t 14))] [6] []) .ret)) }
noncomputable def spec_l00In_D : List (Nat × Callee) := []
def spec_l00In_H : List (Nat × ET) := []
noncomputable def spec_l00In_c : Callee := mkCallee spec_l00In_D spec_l00In_H spec_l00In_ir [.d (.one (.int .i64)),.d (.one (.int .i64)),.d (.one (.int .i64))] [.d (.one .bool)] []
noncomputable def spec_l00In (a0 : Int) (a1 : Int) (a2 : Int) : Option (Bool) := spec_l00In_c.f (a0,a1,a2,())
theorem spec_l00In_eq (a0 : Int) (a1 : Int) (a2 : Int) : spec_l00In a0 a1 a2 =
 if decide (a0 ≥ a1) then
  some (decide (a0 ≤ a2))
 else
  some false :=
 (mk_f _ _ _ _ _ _ _ 4000).trans (by kernel_rfl)
def spec_l14Grams_ir : Fn := { np := 1,io := [],res := [.t 2],own := [false],body :=
 (.seq (.reg false [.V 2 (.asg (.c (.bool false)))] [0] []) (.seq (.reg false [.V 3 (.mv (.t 0)),.V 4 (.call (.c (.fn 1 [])) [.t 3,.c (.int .i64 1),.c (.int .i64 10000)]),.V 2 (.asg (.t 4))] [2] []) .ret)) }
noncomputable def spec_l14Grams_D : List (Nat × Callee) := [(1,spec_l00In_c)]
def spec_l14Grams_H : List (Nat × ET) := []
noncomputable def spec_l14Grams_c : Callee := mkCallee spec_l14Grams_D spec_l14Grams_H spec_l14Grams_ir [.d (.one (.int .i64))] [.d (.one .bool)] []
noncomputable def spec_l14Grams (a0 : Int) : Option (Bool) := spec_l14Grams_c.f (a0,())
theorem spec_l14Grams_eq (a0 : Int) : spec_l14Grams a0 =
 (spec_l00In a0 1 10000).bind fun x1 =>
  some x1 :=
 (mk_f _ _ _ _ _ _ _ 4000).trans (by kernel_rfl)
def spec_l14Heat_ir : Fn := { np := 1,io := [],res := [.t 2],own := [false],body :=
 (.seq (.reg false [.V 2 (.asg (.c (.bool false)))] [0] []) (.seq (.reg false [.V 3 (.mv (.t 0)),.V 4 (.call (.c (.fn 1 [])) [.t 3,.c (.int .i64 20),.c (.int .i64 95)]),.V 2 (.asg (.t 4))] [2] []) .ret)) }
noncomputable def spec_l14Heat_D : List (Nat × Callee) := [(1,spec_l00In_c)]
def spec_l14Heat_H : List (Nat × ET) := []
noncomputable def spec_l14Heat_c : Callee := mkCallee spec_l14Heat_D spec_l14Heat_H spec_l14Heat_ir [.d (.one (.int .i64))] [.d (.one .bool)] []
noncomputable def spec_l14Heat (a0 : Int) : Option (Bool) := spec_l14Heat_c.f (a0,())
theorem spec_l14Heat_eq (a0 : Int) : spec_l14Heat a0 =
 (spec_l00In a0 20 95).bind fun x1 =>
  some x1 :=
 (mk_f _ _ _ _ _ _ _ 4000).trans (by kernel_rfl)
def spec_l14One_ir : Fn := { np := 1,io := [],res := [.t 2],own := [false],body :=
 (.seq (.reg false [.V 2 (.asg (.c (.bool false)))] [0] []) (.seq (.reg false [.V 3 (.mv (.t 0)),.V 4 (.nilck (.t 3)),.V 5 (.fa 0 (.t 4)),.V 6 (.ld none (.t 5)),.V 7 (.call (.c (.fn 13 [])) [.t 6]),.V 8 (.mv (.t 7)),.G 9 (.mv (.t 0)) 5 true,.G 10 (.nilck (.t 9)) 5 true,.G 11 (.fa 1 (.t 10)) 5 true,.G 12 (.ld none (.t 11)) 5 true,.G 13 (.call (.c (.fn 14 [])) [.t 12]) 5 true,.V 14 (.pick (.t 8) (.t 13) (.c (.bool false))),.V 15 (.mv (.t 14)),.G 16 (.mv (.t 0)) 12 true,.G 17 (.nilck (.t 16)) 12 true,.G 18 (.fa 2 (.t 17)) 12 true,.G 19 (.ld none (.t 18)) 12 true,.G 20 (.call (.c (.fn 14 [])) [.t 19]) 12 true,.V 21 (.pick (.t 15) (.t 20) (.c (.bool false))),.V 22 (.mv (.t 21)),.G 23 (.mv (.t 0)) 19 true,.G 24 (.nilck (.t 23)) 19 true,.G 25 (.fa 3 (.t 24)) 19 true,.G 26 (.ld none (.t 25)) 19 true,.G 27 (.call (.c (.fn 15 [])) [.t 26]) 19 true,.V 28 (.pick (.t 22) (.t 27) (.c (.bool false))),.V 29 (.mv (.t 28)),.G 30 (.mv (.t 0)) 26 true,.G 31 (.nilck (.t 30)) 26 true,.G 32 (.fa 4 (.t 31)) 26 true,.G 33 (.ld none (.t 32)) 26 true,.G 34 (.call (.c (.fn 1 [])) [.t 33,.c (.int .i64 0),.c (.int .i64 1000)]) 26 true,.V 35 (.pick (.t 29) (.t 34) (.c (.bool false))),.V 2 (.asg (.t 35))] [2] []) .ret)) }
noncomputable def spec_l14One_D : List (Nat × Callee) := [(1,spec_l00In_c),(13,spec_l01Name_c),(14,spec_l14Grams_c),(15,spec_l14Heat_c)]
def spec_l14One_H : List (Nat × ET) := []
noncomputable def spec_l14One_c : Callee := mkCallee spec_l14One_D spec_l14One_H spec_l14One_ir [.p T_Pot] [.d (.one .bool)] []
noncomputable def spec_l14One (a0 : T_Pot.ty) : Option (Bool) := spec_l14One_c.f (a0,())
theorem spec_l14One_eq (a0 : T_Pot.ty) : spec_l14One a0 =
 (spec_l01Name a0.1).bind fun x1 =>
  if x1 then
   (spec_l14Grams a0.2.1).bind fun x2 =>
    if x2 then
     (spec_l14Grams a0.2.2.1).bind fun x3 =>
      if x3 then
       (spec_l14Heat a0.2.2.2.1).bind fun x4 =>
        if x4 then
         (spec_l00In a0.2.2.2.2.1 0 1000).bind fun x5 =>
          some x5
        else
         some false
      else
       some false
    else
     some false
  else
   some false :=
 (mk_f _ _ _ _ _ _ _ 4000).trans (by kernel_rfl)
def spec_l01Div_k0 : C :=
 .seq (.seq (.reg false [.V 11 (.mv (.t 0)),.V 12 (.bin .lss (.t 11) (.c (.int .i64 0)))] [0,1,12] []) (.cond (.t 12) (.seq (.reg false [.V 13 (.mv (.t 1)),.V 14 (.mv (.t 0)),.V 15 (.bin .mul (.c (.int .i64 2)) (.t 14)),.V 16 (.bin .sub (.t 13) (.t 15)),.V 17 (.mv (.t 1)),.V 18 (.bin .mul (.c (.int .i64 2)) (.t 17)),.V 19 (.bin .quo (.t 16) (.t 18)),.V 20 (.un .neg (.t 19)),.V 4 (.asg (.t 20))] [4] []) .ret) .skip)) (.seq (.reg false [.V 21 (.mv (.t 0)),.V 22 (.bin .mul (.c (.int .i64 2)) (.t 21)),.V 23 (.mv (.t 1)),.V 24 (.bin .add (.t 22) (.t 23)),.V 25 (.mv (.t 1)),.V 26 (.bin .mul (.c (.int .i64 2)) (.t 25)),.V 27 (.bin .quo (.t 24) (.t 26)),.V 4 (.asg (.t 27))] [4] []) .ret)
def spec_l01Div_ir : Fn := { np := 2,io := [],res := [.t 4],own := [false],body :=
 (.seq (.reg false [.V 4 (.asg (.c (.int .i64 0)))] [0,1] []) (.seq (.seq (.reg false [.V 5 (.mv (.t 1)),.V 6 (.bin .lss (.t 5) (.c (.int .i64 0)))] [0,1,6] []) (.cond (.t 6) (.seq (.reg false [.V 7 (.mv (.t 0)),.V 8 (.un .neg (.t 7)),.V 0 (.asg (.t 8))] [0,1] []) (.reg false [.V 9 (.mv (.t 1)),.V 10 (.un .neg (.t 9)),.V 1 (.asg (.t 10))] [0,1] [])) .skip)) (.norm [0,1] [] spec_l01Div_k0))) }
noncomputable def spec_l01Div_D : List (Nat × Callee) := []
def spec_l01Div_H : List (Nat × ET) := []
noncomputable def spec_l01Div_c : Callee := mkCallee spec_l01Div_D spec_l01Div_H spec_l01Div_ir [.d (.one (.int .i64)),.d (.one (.int .i64))] [.d (.one (.int .i64))] []
noncomputable def spec_l01Div (a0 : Int) (a1 : Int) : Option (Int) := spec_l01Div_c.f (a0,a1,())
noncomputable def spec_l01Div_p0  (v0 : Int) (v1 : Int) : Option (Int) :=
 goL spec_l01Div_D spec_l01Div_H (vleave spec_l01Div_ir [.d (.one (.int .i64)),.d (.one (.int .i64))] [.d (.one (.int .i64))] [] []) [.c spec_l01Div_k0]
  ⟨[(0,.int .i64 v0),(1,.int .i64 v1)],[]⟩
theorem spec_l01Div_eq (a0 : Int) (a1 : Int) : spec_l01Div a0 a1 =
 if decide (a1 < 0) then
  spec_l01Div_p0 (IntKind.i64.wrap (0 - a0)) (IntKind.i64.wrap (0 - a1))
 else
  spec_l01Div_p0 a0 a1 :=
 (mk_f _ _ _ _ _ _ _ 4000).trans (by kernel_rfl)
theorem spec_l01Div_p0_eq  (v0 : Int) (v1 : Int) : spec_l01Div_p0 v0 v1 =
 if decide (v0 < 0) then
  if decide (IntKind.i64.wrap (2 * v1) = 0) then
   none
  else
   some (IntKind.i64.wrap (0 - (IntKind.i64.wrap ((IntKind.i64.wrap (v1 - (IntKind.i64.wrap (2 * v0)))).tdiv (IntKind.i64.wrap (2 * v1))))))
 else
  if decide (IntKind.i64.wrap (2 * v1) = 0) then
   none
  else
   some (IntKind.i64.wrap ((IntKind.i64.wrap ((IntKind.i64.wrap (2 * v0)) + v1)).tdiv (IntKind.i64.wrap (2 * v1)))) :=
 (goL_dn _ _ _ 4000 _ _).trans (by kernel_rfl)
def spec_l00Max_ir : Fn := { np := 2,io := [],res := [.t 4],own := [false],body :=
 (.seq (.reg false [.V 4 (.asg (.c (.int .i64 0)))] [0,1] []) (.seq (.seq (.reg false [.V 5 (.mv (.t 0)),.V 6 (.mv (.t 1)),.V 7 (.bin .gtr (.t 5) (.t 6))] [0,1,7] []) (.cond (.t 7) (.seq (.reg false [.V 8 (.mv (.t 0)),.V 4 (.asg (.t 8))] [4] []) .ret) .skip)) (.seq (.reg false [.V 9 (.mv (.t 1)),.V 4 (.asg (.t 9))] [4] []) .ret))) }
noncomputable def spec_l00Max_D : List (Nat × Callee) := []
def spec_l00Max_H : List (Nat × ET) := []
noncomputable def spec_l00Max_c : Callee := mkCallee spec_l00Max_D spec_l00Max_H spec_l00Max_ir [.d (.one (.int .i64)),.d (.one (.int .i64))] [.d (.one (.int .i64))] []
noncomputable def spec_l00Max (a0 : Int) (a1 : Int) : Option (Int) := spec_l00Max_c.f (a0,a1,())
theorem spec_l00Max_eq (a0 : Int) (a1 : Int) : spec_l00Max a0 a1 =
 if decide (a0 > a1) then
  some a0
 else
  some a1 :=
 (mk_f _ _ _ _ _ _ _ 4000).trans (by kernel_rfl)
def spec_l14Strong_ir : Fn := { np := 1,io := [],res := [.t 2],own := [false],body :=
 (.seq (.reg false [.V 2 (.asg (.c (.int .i64 0)))] [0] []) (.seq (.reg true [.V 3 (.mv (.t 0)),.V 4 (.nilck (.t 3)),.V 5 (.fa 1 (.t 4)),.V 6 (.ld none (.t 5)),.V 7 (.bin .mul (.c (.int .i64 1000)) (.t 6)),.V 8 (.mv (.t 0)),.V 9 (.nilck (.t 8)),.V 10 (.fa 1 (.t 9)),.V 11 (.ld none (.t 10)),.V 12 (.mv (.t 0)),.V 13 (.nilck (.t 12)),.V 14 (.fa 2 (.t 13)),.V 15 (.ld none (.t 14)),.V 16 (.bin .add (.t 11) (.t 15)),.V 17 (.call (.c (.fn 16 [])) [.t 7,.t 16]),.V 18 (.mv (.t 0)),.V 19 (.nilck (.t 18)),.V 20 (.fa 4 (.t 19)),.V 21 (.ld none (.t 20)),.V 22 (.bin .mul (.c (.int .i64 2)) (.t 21)),.V 23 (.bin .sub (.t 17) (.t 22)),.V 24 (.mv (.t 0)),.V 25 (.nilck (.t 24)),.V 26 (.fa 3 (.t 25)),.V 27 (.ld none (.t 26)),.V 28 (.bin .sub (.t 27) (.c (.int .i64 70))),.V 29 (.call (.c (.fn 17 [])) [.c (.int .i64 0),.t 28]),.V 30 (.bin .mul (.c (.int .i64 10)) (.t 29)),.V 31 (.bin .sub (.t 23) (.t 30)),.V 32 (.call (.c (.fn 17 [])) [.c (.int .i64 0),.t 31]),.V 2 (.asg (.t 32))] [2] []) .ret)) }
noncomputable def spec_l14Strong_D : List (Nat × Callee) := [(16,spec_l01Div_c),(17,spec_l00Max_c)]
def spec_l14Strong_H : List (Nat × ET) := []
noncomputable def spec_l14Strong_c : Callee := mkCallee spec_l14Strong_D spec_l14Strong_H spec_l14Strong_ir [.p T_Pot] [.d (.one (.int .i64))] []
noncomputable def spec_l14Strong (a0 : T_Pot.ty) : Option (Int) := spec_l14Strong_c.f (a0,())
theorem spec_l14Strong_eq (a0 : T_Pot.ty) : spec_l14Strong a0 =
 (spec_l01Div (IntKind.i64.wrap (1000 * a0.2.1)) (IntKind.i64.wrap (a0.2.1 + a0.2.2.1))).bind fun x1 =>
  (spec_l00Max 0 (IntKind.i64.wrap (a0.2.2.2.1 - 70))).bind fun x2 =>
   (spec_l00Max 0 (IntKind.i64.wrap ((IntKind.i64.wrap (x1 - (IntKind.i64.wrap (2 * a0.2.2.2.2.1)))) - (IntKind.i64.wrap (10 * x2))))).bind fun x3 =>
    some x3 :=
 (mk_f _ _ _ _ _ _ _ 4000).trans (by kernel_rfl)
def spec_StrengthOf_ir : Fn := { np := 1,io := [],res := [.t 2,.t 3],own := [false,false],body :=
 (.seq (.reg false [.W 1 (.box 5 (.t 0)),.V 2 (.asg (.c (.int .i64 0))),.V 3 (.asg (.c (.int .i64 0)))] [1] [1]) (.seq (.seq (.reg false [.V 4 (.call (.c (.fn 20 [])) [.t 1]),.V 5 (.un .not (.t 4))] [1,5] [1]) (.cond (.t 5) (.seq (.reg false [.V 2 (.asg (.c (.int .i64 0))),.V 3 (.asg (.c (.int .i64 1)))] [2,3] []) .ret) .skip)) (.seq (.reg false [.V 6 (.call (.c (.fn 50 [])) [.t 1]),.V 2 (.asg (.t 6)),.V 3 (.asg (.c (.int .i64 0)))] [2,3] []) .ret))) }
noncomputable def spec_StrengthOf_D : List (Nat × Callee) := [(20,spec_l14One_c),(50,spec_l14Strong_c)]
def spec_StrengthOf_H : List (Nat × ET) := []
noncomputable def spec_StrengthOf_c : Callee := mkCallee spec_StrengthOf_D spec_StrengthOf_H spec_StrengthOf_ir [.d T_Pot] [.d (.one (.int .i64)),.d (.one (.int .i64))] []
noncomputable def spec_StrengthOf (a0 : T_Pot.ty) : Option (Int × Int) := spec_StrengthOf_c.f (a0,())
theorem spec_StrengthOf_eq (a0 : T_Pot.ty) : spec_StrengthOf a0 =
 (spec_l14One a0).bind fun x1 =>
  if (!x1) then
   some (0,1)
  else
   (spec_l14Strong a0).bind fun x2 =>
    some (x2,0) :=
 (mk_f _ _ _ _ _ _ _ 4000).trans (by kernel_rfl)
def spec_l00Src_text_ir : Fn := { np := 2,io := [true,false],res := [.t 4],own := [false],body :=
 (.seq (.reg false [.V 4 (.asg (.c (.str [])))] [0,1] [0,1000]) (.seq (.reg false [.V 5 (.mv (.t 1)),.V 6 (.mv (.t 0)),.V 7 (.mv (.t 1)),.V 8 (.len (.t 7)),.W 9 (.call (.c (.fn 463 [])) [.t 6,.t 8]),.V 10 (.ia 1 (.t 5) (.t 9)),.V 11 (.ld none (.t 10)),.V 4 (.asg (.t 11))] [0,4] [0,1000]) .ret)) }
noncomputable def spec_l00Src_text_D : List (Nat × Callee) := [(463,spec_l00Src_pick_c)]
def spec_l00Src_text_H : List (Nat × ET) := [(5,(.one .str)),(7,(.one .str))]
noncomputable def spec_l00Src_text_c : Callee := mkCallee spec_l00Src_text_D spec_l00Src_text_H spec_l00Src_text_ir [.box T_l00Src,.d (.one (.sl (.one .str)))] [.d (.one .str)] [.box T_l00Src]
noncomputable def spec_l00Src_text (a0 : T_l00Src.ty) (a1 : List (List UInt8)) : Option (List UInt8 × T_l00Src.ty) := spec_l00Src_text_c.f (a0,a1,())
theorem spec_l00Src_text_eq (a0 : T_l00Src.ty) (a1 : List (List UInt8)) : spec_l00Src_text a0 a1 =
 (spec_l00Src_pick a0 (a1.length : Int)).bind fun x1 =>
  if decide (0 ≤ x1.1) then
   (a1[x1.1.toNat]?).bind fun x2 =>
    some (x2,(x1.2.1,x1.2.2.1,x1.2.2.2.1,()))
  else
   none :=
 (mk_f _ _ _ _ _ _ _ 4000).trans (by kernel_rfl)
def spec_DrawMixPots_ir : Fn := { np := 1,io := [],res := [.cell 2 (some 5),.cell 3 (some 5),.t 4],own := [false,false,false],body :=
 (.seq (.reg false [.W 2 (.alloc 5 (.agg [.str [],.int .i64 0,.int .i64 0,.int .i64 0,.int .i64 0])),.W 3 (.alloc 5 (.agg [.str [],.int .i64 0,.int .i64 0,.int .i64 0,.int .i64 0])),.V 4 (.asg (.c (.str [])))] [0,2,3] [2,3]) (.seq (.reg false [.V 8 (.mv (.t 0)),.W 9 (.call (.c (.fn 441 [])) [.t 8]),.V 5 (.asg (.t 9))] [2,3,5] [2,3,9,10000]) (.seq (.reg false [.V 10 (.mv (.t 5)),.V 11 (.mv (.t 5)),.W 12 (.call (.c (.fn 558 [])) [.t 11,.c (.str [104,105,100,101])]),.W 13 (.call (.c (.fn 559 [])) [.t 10,.t 12]),.W 6 (.alloc 5 (.agg [.str [],.int .i64 0,.int .i64 0,.int .i64 0,.int .i64 0])),⟨none,true,.sto 5 (.t 6) (.t 13),none,false,[]⟩] [2,3,5,6] [2,3,6,9,10000]) (.seq (.reg false [.V 14 (.mv (.t 5)),.V 15 (.mv (.t 5)),.W 16 (.call (.c (.fn 558 [])) [.t 15,.c (.str [98,111,110,101])]),.W 17 (.call (.c (.fn 559 [])) [.t 14,.t 16]),.W 7 (.alloc 5 (.agg [.str [],.int .i64 0,.int .i64 0,.int .i64 0,.int .i64 0])),⟨none,true,.sto 5 (.t 7) (.t 17),none,false,[]⟩] [2,3,5,6,7] [2,3,6,7,9,10000]) (.seq (.reg true [⟨some 18,false,.ld (some 5) (.t 6),none,true,[]⟩,⟨some 19,false,.ld (some 5) (.t 7),none,true,[]⟩,.V 20 (.mv (.t 5)),.V 21 (.bsl 1 (.str []) 3 [(0,.c (.str [98,111,116,104])),(1,.c (.str [109,105,120])),(2,.c (.str []))]),⟨some 22,true,.call (.c (.fn 557 [])) [.t 20,.t 21],none,false,[6,7]⟩,⟨none,true,.sto 5 (.t 2) (.t 18),none,false,[7]⟩,⟨none,true,.sto 5 (.t 3) (.t 19),none,false,[]⟩,.V 4 (.asg (.t 22))] [2,3,4] [2,3]) .ret))))) }
noncomputable def spec_DrawMixPots_D : List (Nat × Callee) := [(441,spec_l00From_c),(557,spec_l00Src_text_c),(558,spec_l14DrawOne_c),(559,spec_l14Bent_c)]
def spec_DrawMixPots_H : List (Nat × ET) := [(8,(.one (.int .u8))),(21,(.one .str))]
noncomputable def spec_DrawMixPots_c : Callee := mkCallee spec_DrawMixPots_D spec_DrawMixPots_H spec_DrawMixPots_ir [.d (.one (.sl (.one (.int .u8))))] [.d T_Pot,.d T_Pot,.d (.one .str)] []
noncomputable def spec_DrawMixPots (a0 : List Int) : Option (T_Pot.ty × T_Pot.ty × List UInt8) := spec_DrawMixPots_c.f (a0,())
theorem spec_DrawMixPots_eq (a0 : List Int) : spec_DrawMixPots a0 =
 (spec_l00From a0).bind fun x1 =>
  (spec_l14DrawOne x1 [104,105,100,101]).bind fun x2 =>
   (spec_l14Bent (x2.2.1,x2.2.2.1,x2.2.2.2.1,()) (x2.1.1,x2.1.2.1,x2.1.2.2.1,x2.1.2.2.2.1,x2.1.2.2.2.2.1,())).bind fun x3 =>
    (spec_l14DrawOne (x3.2.1,x3.2.2.1,x3.2.2.2.1,()) [98,111,110,101]).bind fun x4 =>
     (spec_l14Bent (x4.2.1,x4.2.2.1,x4.2.2.2.1,()) (x4.1.1,x4.1.2.1,x4.1.2.2.1,x4.1.2.2.2.1,x4.1.2.2.2.2.1,())).bind fun x5 =>
      (spec_l00Src_text (x5.2.1,x5.2.2.1,x5.2.2.2.1,()) [[98,111,116,104],[109,105,120],[]]).bind fun x6 =>
       some ((x3.1.1,x3.1.2.1,x3.1.2.2.1,x3.1.2.2.2.1,x3.1.2.2.2.2.1,()),(x5.1.1,x5.1.2.1,x5.1.2.2.1,x5.1.2.2.2.1,x5.1.2.2.2.2.1,()),x6.1) :=
 (mk_f _ _ _ _ _ _ _ 4000).trans (by kernel_rfl)
def impl_MixPots_k0 : C :=
 .seq (.seq (.reg false [.V 18 (.mv (.t 2)),.V 19 (.call (.c (.fn 24 [])) [.t 18]),.V 20 (.un .not (.t 19))] [2,3,4,6,20] [3,4,6]) (.cond (.t 20) (.seq (.reg false [.V 21 (.build [.str [],.int .i64 0,.int .i64 0,.int .i64 0,.int .i64 0] []),⟨none,true,.sto 5 (.t 6) (.t 21),none,false,[]⟩,.V 7 (.asg (.c (.int .i64 2)))] [6,7] [6]) .ret) .skip)) (.seq (.reg false [.V 22 (.mv (.t 2)),.V 23 (.fa 1 (.t 3)),.V 24 (.ld none (.t 23)),.V 25 (.fa 1 (.t 4)),.V 26 (.ld none (.t 25)),.V 27 (.bin .add (.t 24) (.t 26)),.V 28 (.fa 2 (.t 3)),.V 29 (.ld none (.t 28)),.V 30 (.fa 2 (.t 4)),.V 31 (.ld none (.t 30)),.V 32 (.bin .add (.t 29) (.t 31)),.V 33 (.fa 3 (.t 3)),.V 34 (.ld none (.t 33)),.V 35 (.fa 3 (.t 4)),.V 36 (.ld none (.t 35)),.V 37 (.min [.t 34,.t 36]),.V 38 (.fa 4 (.t 3)),.V 39 (.ld none (.t 38)),.V 40 (.fa 4 (.t 4)),.V 41 (.ld none (.t 40)),.V 42 (.max [.t 39,.t 41]),.V 43 (.build [.str [],.int .i64 0,.int .i64 0,.int .i64 0,.int .i64 0] [(0,1,.t 22),(1,1,.t 27),(2,1,.t 32),(3,1,.t 37),(4,1,.t 42)]),.W 8 (.alloc 5 (.agg [.str [],.int .i64 0,.int .i64 0,.int .i64 0,.int .i64 0])),⟨none,true,.sto 5 (.t 8) (.t 43),none,false,[]⟩] [6,8] [6,8]) (.seq (.seq (.reg false [.V 44 (.ld (some 5) (.t 8)),.V 45 (.call (.c (.fn 30 [])) [.t 44]),.V 46 (.un .not (.t 45))] [6,8,46] [6,8]) (.cond (.t 46) (.seq (.reg false [.V 47 (.build [.str [],.int .i64 0,.int .i64 0,.int .i64 0,.int .i64 0] []),⟨none,true,.sto 5 (.t 6) (.t 47),none,false,[]⟩,.V 7 (.asg (.c (.int .i64 6)))] [6,7] [6]) .ret) .skip)) (.seq (.reg false [.V 48 (.ld (some 5) (.t 8)),⟨none,true,.sto 5 (.t 6) (.t 48),none,false,[]⟩,.V 7 (.asg (.c (.int .i64 0)))] [6,7] [6]) .ret)))
def impl_MixPots_ir : Fn := { np := 3,io := [],res := [.cell 6 (some 5),.t 7],own := [false,false],body :=
 (.seq (.reg false [.W 3 (.box 5 (.t 0)),.W 4 (.box 5 (.t 1)),.W 6 (.alloc 5 (.agg [.str [],.int .i64 0,.int .i64 0,.int .i64 0,.int .i64 0])),.V 7 (.asg (.c (.int .i64 0)))] [2,3,4,6] [3,4,6]) (.seq (.seq (.reg false [.V 9 (.ld (some 5) (.t 3)),.V 10 (.call (.c (.fn 30 [])) [.t 9]),.V 11 (.un .not (.t 10)),.V 12 (.mv (.t 11)),.G 13 (.ld (some 5) (.t 4)) 3 false,.G 14 (.call (.c (.fn 30 [])) [.t 13]) 3 false,.G 15 (.un .not (.t 14)) 3 false,.V 16 (.pick (.t 12) (.c (.bool true)) (.t 15))] [2,3,4,6,16] [3,4,6]) (.cond (.t 16) (.seq (.reg false [.V 17 (.build [.str [],.int .i64 0,.int .i64 0,.int .i64 0,.int .i64 0] []),⟨none,true,.sto 5 (.t 6) (.t 17),none,false,[]⟩,.V 7 (.asg (.c (.int .i64 1)))] [6,7] [6]) .ret) .skip)) (.norm [2,3,4,6] [3,4,6] impl_MixPots_k0))) }
noncomputable def impl_MixPots_D : List (Nat × Callee) := [(24,impl_IsName_c),(30,impl_Pot_valid_c)]
def impl_MixPots_H : List (Nat × ET) := []
noncomputable def impl_MixPots_c : Callee := mkCallee impl_MixPots_D impl_MixPots_H impl_MixPots_ir [.d T_Pot,.d T_Pot,.d (.one .str)] [.d T_Pot,.d (.one (.int .i64))] []
noncomputable def impl_MixPots (a0 : T_Pot.ty) (a1 : T_Pot.ty) (a2 : List UInt8) : Option (T_Pot.ty × Int) := impl_MixPots_c.f (a0,a1,a2,())
noncomputable def impl_MixPots_p0  (v2 : List UInt8) (r3_0 : List UInt8) (r3_1 : Int) (r3_2 : Int) (r3_3 : Int) (r3_4 : Int) (r4_0 : List UInt8) (r4_1 : Int) (r4_2 : Int) (r4_3 : Int) (r4_4 : Int) (r6_0 : List UInt8) (r6_1 : Int) (r6_2 : Int) (r6_3 : Int) (r6_4 : Int) : Option (T_Pot.ty × Int) :=
 goL impl_MixPots_D impl_MixPots_H (vleave impl_MixPots_ir [.d T_Pot,.d T_Pot,.d (.one .str)] [.d T_Pot,.d (.one (.int .i64))] [] []) [.c impl_MixPots_k0]
  ⟨[(2,.str v2),(3,.loc 3 0 0),(4,.loc 4 0 0),(6,.loc 6 0 0)],[(3,some (.var 5 (.agg [.str r3_0,.int .i64 r3_1,.int .i64 r3_2,.int .i64 r3_3,.int .i64 r3_4]))),(4,some (.var 5 (.agg [.str r4_0,.int .i64 r4_1,.int .i64 r4_2,.int .i64 r4_3,.int .i64 r4_4]))),(6,some (.var 5 (.agg [.str r6_0,.int .i64 r6_1,.int .i64 r6_2,.int .i64 r6_3,.int .i64 r6_4])))]⟩
theorem impl_MixPots_eq (a0 : T_Pot.ty) (a1 : T_Pot.ty) (a2 : List UInt8) : impl_MixPots a0 a1 a2 =
 (impl_Pot_valid a0).bind fun x1 =>
  if (!x1) then
   some (([],0,0,0,0,()),1)
  else
   (impl_Pot_valid a1).bind fun x2 =>
    if (!x2) then
     some (([],0,0,0,0,()),1)
    else
     impl_MixPots_p0 a2 a0.1 a0.2.1 a0.2.2.1 a0.2.2.2.1 a0.2.2.2.2.1 a1.1 a1.2.1 a1.2.2.1 a1.2.2.2.1 a1.2.2.2.2.1 [] 0 0 0 0 :=
 (mk_f _ _ _ _ _ _ _ 4000).trans (by kernel_rfl)
theorem impl_MixPots_p0_eq  (v2 : List UInt8) (r3_0 : List UInt8) (r3_1 : Int) (r3_2 : Int) (r3_3 : Int) (r3_4 : Int) (r4_0 : List UInt8) (r4_1 : Int) (r4_2 : Int) (r4_3 : Int) (r4_4 : Int) (r6_0 : List UInt8) (r6_1 : Int) (r6_2 : Int) (r6_3 : Int) (r6_4 : Int) : impl_MixPots_p0 v2 r3_0 r3_1 r3_2 r3_3 r3_4 r4_0 r4_1 r4_2 r4_3 r4_4 r6_0 r6_1 r6_2 r6_3 r6_4 =
 (impl_IsName v2).bind fun x1 =>
  if (!x1) then
   some (([],0,0,0,0,()),2)
  else
   (impl_Pot_valid (v2,IntKind.i64.wrap (r3_1 + r4_1),IntKind.i64.wrap (r3_2 + r4_2),(if r4_3 < r3_3 then r4_3 else r3_3),(if r4_4 > r3_4 then r4_4 else r3_4),())).bind fun x2 =>
    if (!x2) then
     some (([],0,0,0,0,()),6)
    else
     some ((v2,IntKind.i64.wrap (r3_1 + r4_1),IntKind.i64.wrap (r3_2 + r4_2),(if r4_3 < r3_3 then r4_3 else r3_3),(if r4_4 > r3_4 then r4_4 else r3_4),()),0) :=
 (goL_dn _ _ _ 4000 _ _).trans (by kernel_rfl)
def spec_l14DrawPull_ir : Fn := { np := 1,io := [true],res := [.t 2],own := [false],body :=
 (.seq (.reg false [.V 2 (.asg (.c (.int .i64 0)))] [0] [0,1000]) (.seq (.seq (.reg false [.V 3 (.mv (.t 0)),.W 4 (.call (.c (.fn 642 [])) [.t 3,.c (.int .i64 9)])] [0,4] [0,1000]) (.cond (.t 4) (.seq (.reg false [.V 5 (.mv (.t 0)),.V 6 (.bsl 1 (.int .i64 0) 4 [(0,.c (.int .i64 (-1))),(1,.c (.int .i64 0)),(2,.c (.int .i64 1000000)),(3,.c (.int .i64 1000001))]),.W 7 (.call (.c (.fn 445 [])) [.t 5,.t 6]),.V 2 (.asg (.t 7))] [0,2] [0,1000]) .ret) .skip)) (.seq (.reg false [.V 8 (.mv (.t 0)),.W 9 (.call (.c (.fn 463 [])) [.t 8,.c (.int .i64 200)]),.V 10 (.bin .mul (.c (.int .i64 50)) (.t 9)),.V 2 (.asg (.t 10))] [0,2] [0,1000]) .ret))) }
noncomputable def spec_l14DrawPull_D : List (Nat × Callee) := [(445,spec_l00Src_among_c),(463,spec_l00Src_pick_c),(642,spec_l00Src_one_c)]
def spec_l14DrawPull_H : List (Nat × ET) := [(6,(.one (.int .i64)))]
noncomputable def spec_l14DrawPull_c : Callee := mkCallee spec_l14DrawPull_D spec_l14DrawPull_H spec_l14DrawPull_ir [.box T_l00Src] [.d (.one (.int .i64))] [.box T_l00Src]
noncomputable def spec_l14DrawPull (a0 : T_l00Src.ty) : Option (Int × T_l00Src.ty) := spec_l14DrawPull_c.f (a0,())
theorem spec_l14DrawPull_eq (a0 : T_l00Src.ty) : spec_l14DrawPull a0 =
 (spec_l00Src_one a0 9).bind fun x1 =>
  if x1.1 then
   (spec_l00Src_among (x1.2.1,x1.2.2.1,x1.2.2.2.1,()) [(-1),0,1000000,1000001]).bind fun x2 =>
    some (x2.1,(x2.2.1,x2.2.2.1,x2.2.2.2.1,()))
  else
   (spec_l00Src_pick (x1.2.1,x1.2.2.1,x1.2.2.2.1,()) 200).bind fun x3 =>
    some (IntKind.i64.wrap (50 * x3.1),(x3.2.1,x3.2.2.1,x3.2.2.2.1,())) :=
 (mk_f _ _ _ _ _ _ _ 4000).trans (by kernel_rfl)
def spec_l14DrawArea_ir : Fn := { np := 1,io := [true],res := [.t 2],own := [false],body :=
 (.seq (.reg false [.V 2 (.asg (.c (.int .i64 0)))] [0] [0,1000]) (.seq (.reg false [.V 3 (.mv (.t 0)),.V 4 (.bsl 1 (.int .i64 0) 8 [(0,.c (.int .i64 1)),(1,.c (.int .i64 100)),(2,.c (.int .i64 800)),(3,.c (.int .i64 2000)),(4,.c (.int .i64 100000)),(5,.c (.int .i64 100001)),(6,.c (.int .i64 0)),(7,.c (.int .i64 1200))]),.W 5 (.call (.c (.fn 445 [])) [.t 3,.t 4]),.V 2 (.asg (.t 5))] [0,2] [0,1000]) .ret)) }
noncomputable def spec_l14DrawArea_D : List (Nat × Callee) := [(445,spec_l00Src_among_c)]
def spec_l14DrawArea_H : List (Nat × ET) := [(4,(.one (.int .i64)))]
noncomputable def spec_l14DrawArea_c : Callee := mkCallee spec_l14DrawArea_D spec_l14DrawArea_H spec_l14DrawArea_ir [.box T_l00Src] [.d (.one (.int .i64))] [.box T_l00Src]
noncomputable def spec_l14DrawArea (a0 : T_l00Src.ty) : Option (Int × T_l00Src.ty) := spec_l14DrawArea_c.f (a0,())
theorem spec_l14DrawArea_eq (a0 : T_l00Src.ty) : spec_l14DrawArea a0 =
 (spec_l00Src_among a0 [1,100,800,2000,100000,100001,0,1200]).bind fun x1 =>
  some (x1.1,(x1.2.1,x1.2.2.1,x1.2.2.2.1,())) :=
 (mk_f _ _ _ _ _ _ _ 4000).trans (by kernel_rfl)
def spec_l14DrawSeconds_ir : Fn := { np := 1,io := [true],res := [.t 2],own := [false],body :=
 (.seq (.reg false [.V 2 (.asg (.c (.int .i64 0)))] [0] [0,1000]) (.seq (.seq (.reg false [.V 3 (.mv (.t 0)),.W 4 (.call (.c (.fn 642 [])) [.t 3,.c (.int .i64 9)])] [0,4] [0,1000]) (.cond (.t 4) (.seq (.reg false [.V 5 (.mv (.t 0)),.V 6 (.bsl 1 (.int .i64 0) 4 [(0,.c (.int .i64 (-1))),(1,.c (.int .i64 0)),(2,.c (.int .i64 1000)),(3,.c (.int .i64 1001))]),.W 7 (.call (.c (.fn 445 [])) [.t 5,.t 6]),.V 2 (.asg (.t 7))] [0,2] [0,1000]) .ret) .skip)) (.seq (.reg false [.V 8 (.mv (.t 0)),.W 9 (.call (.c (.fn 463 [])) [.t 8,.c (.int .i64 60)]),.V 10 (.bin .mul (.c (.int .i64 5)) (.t 9)),.V 2 (.asg (.t 10))] [0,2] [0,1000]) .ret))) }
noncomputable def spec_l14DrawSeconds_D : List (Nat × Callee) := [(445,spec_l00Src_among_c),(463,spec_l00Src_pick_c),(642,spec_l00Src_one_c)]
def spec_l14DrawSeconds_H : List (Nat × ET) := [(6,(.one (.int .i64)))]
noncomputable def spec_l14DrawSeconds_c : Callee := mkCallee spec_l14DrawSeconds_D spec_l14DrawSeconds_H spec_l14DrawSeconds_ir [.box T_l00Src] [.d (.one (.int .i64))] [.box T_l00Src]
noncomputable def spec_l14DrawSeconds (a0 : T_l00Src.ty) : Option (Int × T_l00Src.ty) := spec_l14DrawSeconds_c.f (a0,())
theorem spec_l14DrawSeconds_eq (a0 : T_l00Src.ty) : spec_l14DrawSeconds a0 =
 (spec_l00Src_one a0 9).bind fun x1 =>
  if x1.1 then
   (spec_l00Src_among (x1.2.1,x1.2.2.1,x1.2.2.2.1,()) [(-1),0,1000,1001]).bind fun x2 =>
    some (x2.1,(x2.2.1,x2.2.2.1,x2.2.2.2.1,()))
  else
   (spec_l00Src_pick (x1.2.1,x1.2.2.1,x1.2.2.2.1,()) 60).bind fun x3 =>
    some (IntKind.i64.wrap (5 * x3.1),(x3.2.1,x3.2.2.1,x3.2.2.2.1,())) :=
 (mk_f _ _ _ _ _ _ _ 4000).trans (by kernel_rfl)
def spec_l14DrawRoom_ir : Fn := { np := 1,io := [true],res := [.t 2],own := [false],body :=
 (.seq (.reg false [.V 2 (.asg (.c (.int .i64 0)))] [0] [0,1000]) (.seq (.reg false [.V 3 (.mv (.t 0)),.V 4 (.bsl 1 (.int .i64 0) 8 [(0,.c (.int .i64 0)),(1,.c (.int .i64 10)),(2,.c (.int .i64 15)),(3,.c (.int .i64 20)),(4,.c (.int .i64 25)),(5,.c (.int .i64 40)),(6,.c (.int .i64 41)),(7,.c (.int .i64 (-1)))]),.W 5 (.call (.c (.fn 445 [])) [.t 3,.t 4]),.V 2 (.asg (.t 5))] [0,2] [0,1000]) .ret)) }
noncomputable def spec_l14DrawRoom_D : List (Nat × Callee) := [(445,spec_l00Src_among_c)]
def spec_l14DrawRoom_H : List (Nat × ET) := [(4,(.one (.int .i64)))]
noncomputable def spec_l14DrawRoom_c : Callee := mkCallee spec_l14DrawRoom_D spec_l14DrawRoom_H spec_l14DrawRoom_ir [.box T_l00Src] [.d (.one (.int .i64))] [.box T_l00Src]
noncomputable def spec_l14DrawRoom (a0 : T_l00Src.ty) : Option (Int × T_l00Src.ty) := spec_l14DrawRoom_c.f (a0,())
theorem spec_l14DrawRoom_eq (a0 : T_l00Src.ty) : spec_l14DrawRoom a0 =
 (spec_l00Src_among a0 [0,10,15,20,25,40,41,(-1)]).bind fun x1 =>
  some (x1.1,(x1.2.1,x1.2.2.1,x1.2.2.2.1,())) :=
 (mk_f _ _ _ _ _ _ _ 4000).trans (by kernel_rfl)
def spec_DrawPotFor_ir : Fn := { np := 1,io := [],res := [.t 2,.t 3,.t 4,.t 5,.t 6],own := [true,false,false,false,false],body :=
 (.seq (.reg false [.W 2 (.asg (.c (.nils 5))),.V 3 (.asg (.c (.int .i64 0))),.V 4 (.asg (.c (.int .i64 0))),.V 5 (.asg (.c (.int .i64 0))),.V 6 (.asg (.c (.int .i64 0)))] [0] []) (.seq (.reg false [.V 12 (.mv (.t 0)),.W 13 (.call (.c (.fn 441 [])) [.t 12]),.V 7 (.asg (.t 13))] [7] [13,14000]) (.seq (.reg false [.V 14 (.mv (.t 7)),.W 15 (.call (.c (.fn 553 [])) [.t 14]),.W 8 (.asg (.t 15))] [7,8] [8,13,14000]) (.seq (.reg false [.V 16 (.mv (.t 7)),.W 17 (.call (.c (.fn 563 [])) [.t 16]),.V 9 (.asg (.t 17))] [7,8,9] [8,13,14000]) (.seq (.reg false [.V 18 (.mv (.t 7)),.W 19 (.call (.c (.fn 562 [])) [.t 18]),.V 10 (.asg (.t 19))] [7,8,9,10] [8,13,14000]) (.seq (.reg false [.V 20 (.mv (.t 7)),.W 21 (.call (.c (.fn 561 [])) [.t 20]),.V 11 (.asg (.t 21))] [7,8,9,10,11] [8,13,14000]) (.seq (.reg false [.V 22 (.mv (.t 8)),.V 23 (.mv (.t 9)),.V 24 (.mv (.t 10)),.V 25 (.mv (.t 11)),.V 26 (.mv (.t 7)),.W 27 (.call (.c (.fn 560 [])) [.t 26]),.W 2 (.asg (.t 22)),.V 3 (.asg (.t 23)),.V 4 (.asg (.t 24)),.V 5 (.asg (.t 25)),.V 6 (.asg (.t 27))] [2,3,4,5,6] [2,8]) .ret))))))) }
noncomputable def spec_DrawPotFor_D : List (Nat × Callee) := [(441,spec_l00From_c),(553,spec_l14Draw_c),(560,spec_l14DrawRoom_c),(561,spec_l14DrawSeconds_c),(562,spec_l14DrawArea_c),(563,spec_l14DrawPull_c)]
def spec_DrawPotFor_H : List (Nat × ET) := [(2,T_Pot),(8,T_Pot),(12,(.one (.int .u8))),(15,T_Pot),(22,T_Pot)]
noncomputable def spec_DrawPotFor_c : Callee := mkCallee spec_DrawPotFor_D spec_DrawPotFor_H spec_DrawPotFor_ir [.d (.one (.sl (.one (.int .u8))))] [.tok T_Pot,.d (.one (.int .i64)),.d (.one (.int .i64)),.d (.one (.int .i64)),.d (.one (.int .i64))] []
noncomputable def spec_DrawPotFor (a0 : List Int) : Option (List T_Pot.ty × Int × Int × Int × Int) := spec_DrawPotFor_c.f (a0,())
theorem spec_DrawPotFor_eq (a0 : List Int) : spec_DrawPotFor a0 =
 (spec_l00From a0).bind fun x1 =>
  (spec_l14Draw x1).bind fun x2 =>
   (spec_l14DrawPull (x2.2.1,x2.2.2.1,x2.2.2.2.1,())).bind fun x3 =>
    (spec_l14DrawArea (x3.2.1,x3.2.2.1,x3.2.2.2.1,())).bind fun x4 =>
     (spec_l14DrawSeconds (x4.2.1,x4.2.2.1,x4.2.2.2.1,())).bind fun x5 =>
      (spec_l14DrawRoom (x5.2.1,x5.2.2.1,x5.2.2.2.1,())).bind fun x6 =>
       some ((x2.1.take x2.1.length),x3.1,x4.1,x5.1,x6.1) :=
 (mk_f _ _ _ _ _ _ _ 4000).trans (by kernel_rfl)
def impl_isJoint_ir : Fn := { np := 2,io := [],res := [.t 4],own := [false],body :=
 (.seq (.reg false [.V 4 (.asg (.c (.bool false)))] [0,1] []) (.seq (.reg false [.V 5 (.mv (.t 0)),.V 6 (.call (.c (.fn 23 [])) [.t 5,.c (.int .i64 0),.c (.int .i64 1000000)]),.V 7 (.mv (.t 6)),.G 8 (.mv (.t 1)) 2 true,.G 9 (.call (.c (.fn 23 [])) [.t 8,.c (.int .i64 1),.c (.int .i64 100000)]) 2 true,.V 10 (.pick (.t 7) (.t 9) (.c (.bool false))),.V 4 (.asg (.t 10))] [4] []) .ret)) }
noncomputable def impl_isJoint_D : List (Nat × Callee) := [(23,impl_within_c)]
def impl_isJoint_H : List (Nat × ET) := []
noncomputable def impl_isJoint_c : Callee := mkCallee impl_isJoint_D impl_isJoint_H impl_isJoint_ir [.d (.one (.int .i64)),.d (.one (.int .i64))] [.d (.one .bool)] []
noncomputable def impl_isJoint (a0 : Int) (a1 : Int) : Option (Bool) := impl_isJoint_c.f (a0,a1,())
theorem impl_isJoint_eq (a0 : Int) (a1 : Int) : impl_isJoint a0 a1 =
 (impl_within a0 0 1000000).bind fun x1 =>
  if x1 then
   (impl_within a1 1 100000).bind fun x2 =>
    some x2
  else
   some false :=
 (mk_f _ _ _ _ _ _ _ 4000).trans (by kernel_rfl)
def impl_isSeconds_ir : Fn := { np := 1,io := [],res := [.t 2],own := [false],body :=
 (.seq (.reg false [.V 2 (.asg (.c (.bool false)))] [0] []) (.seq (.reg false [.V 3 (.mv (.t 0)),.V 4 (.call (.c (.fn 23 [])) [.t 3,.c (.int .i64 0),.c (.int .i64 1000)]),.V 2 (.asg (.t 4))] [2] []) .ret)) }
noncomputable def impl_isSeconds_D : List (Nat × Callee) := [(23,impl_within_c)]
def impl_isSeconds_H : List (Nat × ET) := []
noncomputable def impl_isSeconds_c : Callee := mkCallee impl_isSeconds_D impl_isSeconds_H impl_isSeconds_ir [.d (.one (.int .i64))] [.d (.one .bool)] []
noncomputable def impl_isSeconds (a0 : Int) : Option (Bool) := impl_isSeconds_c.f (a0,())
theorem impl_isSeconds_eq (a0 : Int) : impl_isSeconds a0 =
 (impl_within a0 0 1000).bind fun x1 =>
  some x1 :=
 (mk_f _ _ _ _ _ _ _ 4000).trans (by kernel_rfl)
def impl_isRoom_ir : Fn := { np := 1,io := [],res := [.t 2],own := [false],body :=
 (.seq (.reg false [.V 2 (.asg (.c (.bool false)))] [0] []) (.seq (.reg false [.V 3 (.mv (.t 0)),.V 4 (.call (.c (.fn 23 [])) [.t 3,.c (.int .i64 0),.c (.int .i64 40)]),.V 2 (.asg (.t 4))] [2] []) .ret)) }
noncomputable def impl_isRoom_D : List (Nat × Callee) := [(23,impl_within_c)]
def impl_isRoom_H : List (Nat × ET) := []
noncomputable def impl_isRoom_c : Callee := mkCallee impl_isRoom_D impl_isRoom_H impl_isRoom_ir [.d (.one (.int .i64))] [.d (.one .bool)] []
noncomputable def impl_isRoom (a0 : Int) : Option (Bool) := impl_isRoom_c.f (a0,())
theorem impl_isRoom_eq (a0 : Int) : impl_isRoom a0 =
 (impl_within a0 0 40).bind fun x1 =>
  some x1 :=
 (mk_f _ _ _ _ _ _ _ 4000).trans (by kernel_rfl)
def impl_Pot_holdsJoint_ir : Fn := { np := 3,io := [],res := [.t 6],own := [false],body :=
 (.seq (.reg false [.W 3 (.box 5 (.t 0)),.V 6 (.asg (.c (.bool false)))] [1,2,3] [3]) (.seq (.reg false [.V 7 (.mv (.t 1)),.V 8 (.ld (some 5) (.t 3)),.V 9 (.call (.c (.fn 54 [])) [.t 8]),.V 10 (.mv (.t 2)),.V 11 (.bin .mul (.t 9) (.t 10)),.V 12 (.bin .quo (.t 11) (.c (.int .i64 100))),.V 13 (.bin .leq (.t 7) (.t 12)),.V 6 (.asg (.t 13))] [6] []) .ret)) }
noncomputable def impl_Pot_holdsJoint_D : List (Nat × Callee) := [(54,impl_Pot_strength_c)]
def impl_Pot_holdsJoint_H : List (Nat × ET) := []
noncomputable def impl_Pot_holdsJoint_c : Callee := mkCallee impl_Pot_holdsJoint_D impl_Pot_holdsJoint_H impl_Pot_holdsJoint_ir [.d T_Pot,.d (.one (.int .i64)),.d (.one (.int .i64))] [.d (.one .bool)] []
noncomputable def impl_Pot_holdsJoint (a0 : T_Pot.ty) (a1 : Int) (a2 : Int) : Option (Bool) := impl_Pot_holdsJoint_c.f (a0,a1,a2,())
theorem impl_Pot_holdsJoint_eq (a0 : T_Pot.ty) (a1 : Int) (a2 : Int) : impl_Pot_holdsJoint a0 a1 a2 =
 (impl_Pot_strength a0).bind fun x1 =>
  some (decide (a1 ≤ IntKind.i64.wrap ((IntKind.i64.wrap (x1 * a2)).tdiv 100))) :=
 (mk_f _ _ _ _ _ _ _ 4000).trans (by kernel_rfl)
def impl_Pot_open_ir : Fn := { np := 2,io := [],res := [.t 4],own := [false],body :=
 (.seq (.reg false [.W 2 (.box 5 (.t 0)),.V 4 (.asg (.c (.int .i64 0)))] [1,2] [2]) (.seq (.reg true [.V 5 (.fa 2 (.t 2)),.V 6 (.ld none (.t 5)),.V 7 (.bin .mul (.c (.int .i64 60)) (.t 6)),.V 8 (.fa 1 (.t 2)),.V 9 (.ld none (.t 8)),.V 10 (.call (.c (.fn 27 [])) [.t 7,.t 9]),.V 11 (.mv (.t 1)),.V 12 (.bin .sub (.t 11) (.c (.int .i64 15))),.V 13 (.bin .mul (.c (.int .i64 2)) (.t 12)),.V 14 (.bin .add (.t 10) (.t 13)),.V 15 (.fa 3 (.t 2)),.V 16 (.ld none (.t 15)),.V 17 (.bin .add (.t 14) (.t 16)),.V 18 (.bin .sub (.t 17) (.c (.int .i64 60))),.V 19 (.max [.c (.int .i64 0),.t 18]),.V 4 (.asg (.t 19))] [4] []) .ret)) }
noncomputable def impl_Pot_open_D : List (Nat × Callee) := [(27,impl_divRound_c)]
def impl_Pot_open_H : List (Nat × ET) := []
noncomputable def impl_Pot_open_c : Callee := mkCallee impl_Pot_open_D impl_Pot_open_H impl_Pot_open_ir [.d T_Pot,.d (.one (.int .i64))] [.d (.one (.int .i64))] []
noncomputable def impl_Pot_open (a0 : T_Pot.ty) (a1 : Int) : Option (Int) := impl_Pot_open_c.f (a0,a1,())
theorem impl_Pot_open_eq (a0 : T_Pot.ty) (a1 : Int) : impl_Pot_open a0 a1 =
 (impl_divRound (IntKind.i64.wrap (60 * a0.2.2.1)) a0.2.1).bind fun x1 =>
  some (if IntKind.i64.wrap ((IntKind.i64.wrap ((IntKind.i64.wrap (x1 + (IntKind.i64.wrap (2 * (IntKind.i64.wrap (a1 - 15)))))) + a0.2.2.2.1)) - 60) > 0 then IntKind.i64.wrap ((IntKind.i64.wrap ((IntKind.i64.wrap (x1 + (IntKind.i64.wrap (2 * (IntKind.i64.wrap (a1 - 15)))))) + a0.2.2.2.1)) - 60) else 0) :=
 (mk_f _ _ _ _ _ _ _ 4000).trans (by kernel_rfl)
def impl_PotFor_k0 : C :=
 .seq (.reg false [.V 34 (.bin .lss (.t 33) (.t 32))] [1,2,3,4,31,32,33,34] []) (.seq (.cond (.t 34) .skip (.exit 0)) (.seq (.block 1 (.seq (.reg false [.V 35 (.mv (.t 33)),.V 36 (.ia 5 (.t 31) (.t 33)),.V 37 (.ld (some 5) (.t 36)),.W 13 (.alloc 5 (.agg [.str [],.int .i64 0,.int .i64 0,.int .i64 0,.int .i64 0])),.V 12 (.asg (.t 35)),⟨none,true,.sto 5 (.t 13) (.t 37),none,false,[]⟩] [1,2,3,4,12,13,31,32,33] [13]) (.seq (.reg false [.V 38 (.ld (some 5) (.t 13)),.V 39 (.mv (.t 1)),.V 40 (.mv (.t 2)),.V 41 (.call (.c (.fn 55 [])) [.t 38,.t 39,.t 40]),.V 42 (.mv (.t 41)),.G 43 (.ld (some 5) (.t 13)) 4 true,.G 44 (.mv (.t 4)) 4 true,.G 45 (.call (.c (.fn 28 [])) [.t 43,.t 44]) 4 true,.G 46 (.mv (.t 3)) 4 true,.G 47 (.bin .geq (.t 45) (.t 46)) 4 true,.V 48 (.pick (.t 42) (.t 47) (.c (.bool false)))] [1,2,3,4,12,31,32,33,48] []) (.cond (.t 48) (.seq (.reg false [.V 49 (.mv (.t 12)),.V 10 (.asg (.t 49)),.V 11 (.asg (.c (.int .i64 0)))] [10,11] []) .ret) .skip)))) (.reg false [.V 50 (.bin .add (.t 33) (.c (.int .i64 1))),.V 33 (.mv (.t 50))] [1,2,3,4,31,32,33] [])))
def impl_PotFor_k1 : C :=
 .norm [1,2,3,4,31,32,33] [] impl_PotFor_k0
def impl_PotFor_k2 : C :=
 .seq (.reg false [.V 10 (.asg (.c (.int .i64 0))),.V 11 (.asg (.c (.int .i64 3)))] [10,11] []) .ret
def impl_PotFor_k3 : C :=
 .seq (.seq (.reg false [.V 31 (.mv (.t 0)),.V 32 (.len (.t 31)),.V 33 (.mv (.c (.int .i64 0)))] [1,2,3,4,31,32,33] []) (.block 0 (.loop impl_PotFor_k1))) impl_PotFor_k2
def impl_PotFor_ir : Fn := { np := 5,io := [],res := [.t 10,.t 11],own := [false,false],body :=
 (.seq (.reg false [.V 10 (.asg (.c (.int .i64 0))),.V 11 (.asg (.c (.int .i64 0)))] [0,1,2,3,4] []) (.seq (.seq (.reg false [.V 14 (.mv (.t 0)),.V 15 (.call (.c (.fn 57 [])) [.t 14]),.V 16 (.un .not (.t 15))] [0,1,2,3,4,16] []) (.cond (.t 16) (.seq (.reg false [.V 10 (.asg (.c (.int .i64 0))),.V 11 (.asg (.c (.int .i64 1)))] [10,11] []) .ret) .skip)) (.seq (.seq (.reg false [.V 17 (.mv (.t 1)),.V 18 (.mv (.t 2)),.V 19 (.call (.c (.fn 56 [])) [.t 17,.t 18]),.V 20 (.un .not (.t 19)),.V 21 (.mv (.t 20)),.G 22 (.mv (.t 3)) 4 false,.G 23 (.call (.c (.fn 36 [])) [.t 22]) 4 false,.G 24 (.un .not (.t 23)) 4 false,.V 25 (.pick (.t 21) (.c (.bool true)) (.t 24)),.V 26 (.mv (.t 25)),.G 27 (.mv (.t 4)) 9 false,.G 28 (.call (.c (.fn 29 [])) [.t 27]) 9 false,.G 29 (.un .not (.t 28)) 9 false,.V 30 (.pick (.t 26) (.c (.bool true)) (.t 29))] [0,1,2,3,4,30] []) (.cond (.t 30) (.seq (.reg false [.V 10 (.asg (.c (.int .i64 0))),.V 11 (.asg (.c (.int .i64 2)))] [10,11] []) .ret) .skip)) (.norm [0,1,2,3,4] [] impl_PotFor_k3)))) }
noncomputable def impl_PotFor_D : List (Nat × Callee) := [(28,impl_Pot_open_c),(29,impl_isRoom_c),(36,impl_isSeconds_c),(55,impl_Pot_holdsJoint_c),(56,impl_isJoint_c),(57,impl_ValidPots_c)]
def impl_PotFor_H : List (Nat × ET) := [(14,T_Pot),(31,T_Pot)]
noncomputable def impl_PotFor_c : Callee := mkCallee impl_PotFor_D impl_PotFor_H impl_PotFor_ir [.d (.one (.sl T_Pot)),.d (.one (.int .i64)),.d (.one (.int .i64)),.d (.one (.int .i64)),.d (.one (.int .i64))] [.d (.one (.int .i64)),.d (.one (.int .i64))] []
noncomputable def impl_PotFor (a0 : List T_Pot.ty) (a1 : Int) (a2 : Int) (a3 : Int) (a4 : Int) : Option (Int × Int) := impl_PotFor_c.f (a0,a1,a2,a3,a4,())
noncomputable def impl_PotFor_p0  (v0 : List T_Pot.ty) (v1 : Int) (v2 : Int) (v3 : Int) (v4 : Int) : Option (Int × Int) :=
 goL impl_PotFor_D impl_PotFor_H (vleave impl_PotFor_ir [.d (.one (.sl T_Pot)),.d (.one (.int .i64)),.d (.one (.int .i64)),.d (.one (.int .i64)),.d (.one (.int .i64))] [.d (.one (.int .i64)),.d (.one (.int .i64))] [] []) [.c impl_PotFor_k3]
  ⟨[(0,.sl T_Pot v0),(1,.int .i64 v1),(2,.int .i64 v2),(3,.int .i64 v3),(4,.int .i64 v4)],[]⟩
noncomputable def impl_PotFor_p1  (v1 : Int) (v2 : Int) (v3 : Int) (v4 : Int) (v31 : List T_Pot.ty) (v32 : Int) (v33 : Int) : Option (Int × Int) :=
 goL impl_PotFor_D impl_PotFor_H (vleave impl_PotFor_ir [.d (.one (.sl T_Pot)),.d (.one (.int .i64)),.d (.one (.int .i64)),.d (.one (.int .i64)),.d (.one (.int .i64))] [.d (.one (.int .i64)),.d (.one (.int .i64))] [] []) [.c impl_PotFor_k0,.l impl_PotFor_k1,.e 0,.c impl_PotFor_k2]
  ⟨[(1,.int .i64 v1),(2,.int .i64 v2),(3,.int .i64 v3),(4,.int .i64 v4),(31,.sl T_Pot v31),(32,.int .i64 v32),(33,.int .i64 v33)],[]⟩
theorem impl_PotFor_eq (a0 : List T_Pot.ty) (a1 : Int) (a2 : Int) (a3 : Int) (a4 : Int) : impl_PotFor a0 a1 a2 a3 a4 =
 (impl_ValidPots a0).bind fun x1 =>
  if (!x1) then
   some (0,1)
  else
   (impl_isJoint a1 a2).bind fun x2 =>
    if (!x2) then
     some (0,2)
    else
     (impl_isSeconds a3).bind fun x3 =>
      if (!x3) then
       some (0,2)
      else
       (impl_isRoom a4).bind fun x4 =>
        if (!x4) then
         some (0,2)
        else
         impl_PotFor_p0 a0 a1 a2 a3 a4 :=
 (mk_f _ _ _ _ _ _ _ 4000).trans (by kernel_rfl)
theorem impl_PotFor_p0_eq  (v0 : List T_Pot.ty) (v1 : Int) (v2 : Int) (v3 : Int) (v4 : Int) : impl_PotFor_p0 v0 v1 v2 v3 v4 =
 impl_PotFor_p1 v1 v2 v3 v4 v0 (v0.length : Int) 0 :=
 (goL_dn _ _ _ 4000 _ _).trans (by kernel_rfl)
theorem impl_PotFor_p1_eq  (v1 : Int) (v2 : Int) (v3 : Int) (v4 : Int) (v31 : List T_Pot.ty) (v32 : Int) (v33 : Int) : impl_PotFor_p1 v1 v2 v3 v4 v31 v32 v33 =
 if decide (v33 < v32) then
  if decide (0 ≤ v33) then
   (v31[v33.toNat]?).bind fun x1 =>
    (impl_Pot_holdsJoint x1 v1 v2).bind fun x2 =>
     if x2 then
      (impl_Pot_open x1 v4).bind fun x3 =>
       if decide (x3 ≥ v3) then
        some (v33,0)
       else
        impl_PotFor_p1 v1 v2 v3 v4 v31 v32 (IntKind.i64.wrap (v33 + 1))
     else
      impl_PotFor_p1 v1 v2 v3 v4 v31 v32 (IntKind.i64.wrap (v33 + 1))
  else
   none
 else
  some (0,3) :=
 (goL_dn _ _ _ 4000 _ _).trans (by kernel_rfl)
def impl_HoldsJoint_ir : Fn := { np := 3,io := [],res := [.t 6,.t 7],own := [false,false],body :=
 (.seq (.reg false [.W 3 (.box 5 (.t 0)),.V 6 (.asg (.c (.bool false))),.V 7 (.asg (.c (.int .i64 0)))] [1,2,3] [3]) (.seq (.seq (.reg false [.V 8 (.ld (some 5) (.t 3)),.V 9 (.call (.c (.fn 30 [])) [.t 8]),.V 10 (.un .not (.t 9))] [1,2,3,10] [3]) (.cond (.t 10) (.seq (.reg false [.V 6 (.asg (.c (.bool false))),.V 7 (.asg (.c (.int .i64 1)))] [6,7] []) .ret) .skip)) (.seq (.seq (.reg false [.V 11 (.mv (.t 1)),.V 12 (.mv (.t 2)),.V 13 (.call (.c (.fn 56 [])) [.t 11,.t 12]),.V 14 (.un .not (.t 13))] [1,2,3,14] [3]) (.cond (.t 14) (.seq (.reg false [.V 6 (.asg (.c (.bool false))),.V 7 (.asg (.c (.int .i64 2)))] [6,7] []) .ret) .skip)) (.seq (.reg false [.V 15 (.ld (some 5) (.t 3)),.V 16 (.mv (.t 1)),.V 17 (.mv (.t 2)),.V 18 (.call (.c (.fn 55 [])) [.t 15,.t 16,.t 17]),.V 6 (.asg (.t 18)),.V 7 (.asg (.c (.int .i64 0)))] [6,7] []) .ret)))) }
noncomputable def impl_HoldsJoint_D : List (Nat × Callee) := [(30,impl_Pot_valid_c),(55,impl_Pot_holdsJoint_c),(56,impl_isJoint_c)]
def impl_HoldsJoint_H : List (Nat × ET) := []
noncomputable def impl_HoldsJoint_c : Callee := mkCallee impl_HoldsJoint_D impl_HoldsJoint_H impl_HoldsJoint_ir [.d T_Pot,.d (.one (.int .i64)),.d (.one (.int .i64))] [.d (.one .bool),.d (.one (.int .i64))] []
noncomputable def impl_HoldsJoint (a0 : T_Pot.ty) (a1 : Int) (a2 : Int) : Option (Bool × Int) := impl_HoldsJoint_c.f (a0,a1,a2,())
theorem impl_HoldsJoint_eq (a0 : T_Pot.ty) (a1 : Int) (a2 : Int) : impl_HoldsJoint a0 a1 a2 =
 (impl_Pot_valid a0).bind fun x1 =>
  if (!x1) then
   some (false,1)
  else
   (impl_isJoint a1 a2).bind fun x2 =>
    if (!x2) then
     some (false,2)
    else
     (impl_Pot_holdsJoint a0 a1 a2).bind fun x3 =>
      some (x3,0) :=
 (mk_f _ _ _ _ _ _ _ 4000).trans (by kernel_rfl)
def spec_l14Room_ir : Fn := { np := 1,io := [],res := [.t 2],own := [false],body :=
 (.seq (.reg false [.V 2 (.asg (.c (.bool false)))] [0] []) (.seq (.reg false [.V 3 (.mv (.t 0)),.V 4 (.call (.c (.fn 1 [])) [.t 3,.c (.int .i64 0),.c (.int .i64 40)]),.V 2 (.asg (.t 4))] [2] []) .ret)) }
noncomputable def spec_l14Room_D : List (Nat × Callee) := [(1,spec_l00In_c)]
def spec_l14Room_H : List (Nat × ET) := []
noncomputable def spec_l14Room_c : Callee := mkCallee spec_l14Room_D spec_l14Room_H spec_l14Room_ir [.d (.one (.int .i64))] [.d (.one .bool)] []
noncomputable def spec_l14Room (a0 : Int) : Option (Bool) := spec_l14Room_c.f (a0,())
theorem spec_l14Room_eq (a0 : Int) : spec_l14Room a0 =
 (spec_l00In a0 0 40).bind fun x1 =>
  some x1 :=
 (mk_f _ _ _ _ _ _ _ 4000).trans (by kernel_rfl)
def spec_l14Open_ir : Fn := { np := 2,io := [],res := [.t 4],own := [false],body :=
 (.seq (.reg false [.V 4 (.asg (.c (.int .i64 0)))] [0,1] []) (.seq (.reg true [.V 5 (.mv (.t 0)),.V 6 (.nilck (.t 5)),.V 7 (.fa 2 (.t 6)),.V 8 (.ld none (.t 7)),.V 9 (.bin .mul (.c (.int .i64 60)) (.t 8)),.V 10 (.mv (.t 0)),.V 11 (.nilck (.t 10)),.V 12 (.fa 1 (.t 11)),.V 13 (.ld none (.t 12)),.V 14 (.call (.c (.fn 16 [])) [.t 9,.t 13]),.V 15 (.mv (.t 1)),.V 16 (.bin .sub (.t 15) (.c (.int .i64 15))),.V 17 (.bin .mul (.c (.int .i64 2)) (.t 16)),.V 18 (.bin .add (.t 14) (.t 17)),.V 19 (.mv (.t 0)),.V 20 (.nilck (.t 19)),.V 21 (.fa 3 (.t 20)),.V 22 (.ld none (.t 21)),.V 23 (.bin .add (.t 18) (.t 22)),.V 24 (.bin .sub (.t 23) (.c (.int .i64 60))),.V 25 (.call (.c (.fn 17 [])) [.c (.int .i64 0),.t 24]),.V 4 (.asg (.t 25))] [4] []) .ret)) }
noncomputable def spec_l14Open_D : List (Nat × Callee) := [(16,spec_l01Div_c),(17,spec_l00Max_c)]
def spec_l14Open_H : List (Nat × ET) := []
noncomputable def spec_l14Open_c : Callee := mkCallee spec_l14Open_D spec_l14Open_H spec_l14Open_ir [.p T_Pot,.d (.one (.int .i64))] [.d (.one (.int .i64))] []
noncomputable def spec_l14Open (a0 : T_Pot.ty) (a1 : Int) : Option (Int) := spec_l14Open_c.f (a0,a1,())
theorem spec_l14Open_eq (a0 : T_Pot.ty) (a1 : Int) : spec_l14Open a0 a1 =
 (spec_l01Div (IntKind.i64.wrap (60 * a0.2.2.1)) a0.2.1).bind fun x1 =>
  (spec_l00Max 0 (IntKind.i64.wrap ((IntKind.i64.wrap ((IntKind.i64.wrap (x1 + (IntKind.i64.wrap (2 * (IntKind.i64.wrap (a1 - 15)))))) + a0.2.2.2.1)) - 60))).bind fun x2 =>
   some x2 :=
 (mk_f _ _ _ _ _ _ _ 4000).trans (by kernel_rfl)
def spec_OpenSeconds_ir : Fn := { np := 2,io := [],res := [.t 4,.t 5],own := [false,false],body :=
 (.seq (.reg false [.W 2 (.box 5 (.t 0)),.V 4 (.asg (.c (.int .i64 0))),.V 5 (.asg (.c (.int .i64 0)))] [1,2] [2]) (.seq (.seq (.reg false [.V 6 (.call (.c (.fn 20 [])) [.t 2]),.V 7 (.un .not (.t 6))] [1,2,7] [2]) (.cond (.t 7) (.seq (.reg false [.V 4 (.asg (.c (.int .i64 0))),.V 5 (.asg (.c (.int .i64 1)))] [4,5] []) .ret) .skip)) (.seq (.seq (.reg false [.V 8 (.mv (.t 1)),.V 9 (.call (.c (.fn 19 [])) [.t 8]),.V 10 (.un .not (.t 9))] [1,2,10] [2]) (.cond (.t 10) (.seq (.reg false [.V 4 (.asg (.c (.int .i64 0))),.V 5 (.asg (.c (.int .i64 2)))] [4,5] []) .ret) .skip)) (.seq (.reg false [.V 11 (.mv (.t 1)),.V 12 (.call (.c (.fn 18 [])) [.t 2,.t 11]),.V 4 (.asg (.t 12)),.V 5 (.asg (.c (.int .i64 0)))] [4,5] []) .ret)))) }
noncomputable def spec_OpenSeconds_D : List (Nat × Callee) := [(18,spec_l14Open_c),(19,spec_l14Room_c),(20,spec_l14One_c)]
def spec_OpenSeconds_H : List (Nat × ET) := []
noncomputable def spec_OpenSeconds_c : Callee := mkCallee spec_OpenSeconds_D spec_OpenSeconds_H spec_OpenSeconds_ir [.d T_Pot,.d (.one (.int .i64))] [.d (.one (.int .i64)),.d (.one (.int .i64))] []
noncomputable def spec_OpenSeconds (a0 : T_Pot.ty) (a1 : Int) : Option (Int × Int) := spec_OpenSeconds_c.f (a0,a1,())
theorem spec_OpenSeconds_eq (a0 : T_Pot.ty) (a1 : Int) : spec_OpenSeconds a0 a1 =
 (spec_l14One a0).bind fun x1 =>
  if (!x1) then
   some (0,1)
  else
   (spec_l14Room a1).bind fun x2 =>
    if (!x2) then
     some (0,2)
    else
     (spec_l14Open a0 a1).bind fun x3 =>
      some (x3,0) :=
 (mk_f _ _ _ _ _ _ _ 4000).trans (by kernel_rfl)
def laws_FnPots_k0 : C :=
 .seq (.seq (.reg false [.V 69 (.mv (.t 14)),.V 70 (.mv (.t 5)),.V 71 (.len (.t 70)),.V 72 (.bin .lss (.t 69) (.t 71))] [0,1,5,6,8,9,11,12,13,14,72] [5,6,8]) (.cond (.t 72) .skip (.exit 0))) (.seq (.block 1 (.reg true [.V 75 (.mv (.t 13)),.V 76 (.mv (.t 5)),.V 77 (.mv (.t 14)),.V 78 (.ia 5 (.t 76) (.t 77)),.V 79 (.fa 1 (.t 78)),.V 80 (.ld none (.t 79)),.V 81 (.mv (.t 5)),.V 82 (.mv (.t 14)),.V 83 (.ia 5 (.t 81) (.t 82)),.V 84 (.fa 2 (.t 83)),.V 85 (.ld none (.t 84)),.V 86 (.bin .add (.t 80) (.t 85)),.V 87 (.bin .add (.t 75) (.t 86)),.V 13 (.asg (.t 87))] [0,1,5,6,8,9,11,12,13,14] [5,6,8])) (.reg false [.V 73 (.mv (.t 14)),.V 74 (.bin .add (.t 73) (.c (.int .i64 1))),.V 14 (.asg (.t 74))] [0,1,5,6,8,9,11,12,13,14] [5,6,8]))
def laws_FnPots_k1 : C :=
 .norm [0,1,5,6,8,9,11,12,13,14] [5,6,8] laws_FnPots_k0
def laws_FnPots_k2 : C :=
 .seq (.reg false [.V 126 (.mv (.t 5)),.V 127 (.mv (.t 8)),.V 128 (.mv (.t 16)),.V 129 (.ia 1 (.t 127) (.t 128)),.V 130 (.ld none (.t 129)),.V 131 (.ia 5 (.t 126) (.t 130)),.V 132 (.ld (some 5) (.t 131)),.V 133 (.call (.c (.fn 177 [])) [.t 132]),.V 125 (.mv (.t 133)),.V 134 (.ext (.t 125) 0),.V 135 (.ext (.t 125) 1),.V 17 (.asg (.t 134)),.V 18 (.asg (.t 135))] [0,1,5,6,8,9,15,16,17,18] [5,6,8]) (.seq (.seq (.reg false [.V 136 (.mv (.t 18)),.V 137 (.bin .neq (.t 136) (.c (.int .i64 0)))] [0,1,5,6,8,9,15,16,17,137] [5,6,8]) (.cond (.t 137) (.seq (.reg false [.V 4 (.asg (.c (.bool false)))] [4] []) .ret) .skip)) (.reg false [.V 138 (.mv (.t 15)),.V 139 (.mv (.t 17)),.V 140 (.bin .add (.t 138) (.t 139)),.V 15 (.asg (.t 140))] [0,1,5,6,8,9,15,16] [5,6,8]))
def laws_FnPots_k3 : C :=
 .reg false [.V 109 (.mv (.t 16)),.V 110 (.bin .add (.t 109) (.c (.int .i64 1))),.V 16 (.asg (.t 110))] [0,1,5,6,8,9,15,16] [5,6,8]
def laws_FnPots_k4 : C :=
 .seq (.seq (.reg false [.V 105 (.mv (.t 16)),.V 106 (.mv (.t 8)),.V 107 (.len (.t 106)),.V 108 (.bin .lss (.t 105) (.t 107))] [0,1,5,6,8,9,15,16,108] [5,6,8]) (.cond (.t 108) .skip (.exit 2))) (.seq (.block 3 (.seq (.seq (.reg false [.V 111 (.mv (.t 8)),.V 112 (.mv (.t 16)),.V 113 (.ia 1 (.t 111) (.t 112)),.V 114 (.ld none (.t 113)),.V 115 (.bin .lss (.t 114) (.c (.int .i64 0))),.V 116 (.mv (.t 115)),.G 117 (.mv (.t 8)) 5 false,.G 118 (.mv (.t 16)) 5 false,.G 119 (.ia 1 (.t 117) (.t 118)) 5 false,.G 120 (.ld none (.t 119)) 5 false,.G 121 (.mv (.t 5)) 5 false,.G 122 (.len (.t 121)) 5 false,.G 123 (.bin .geq (.t 120) (.t 122)) 5 false,.V 124 (.pick (.t 116) (.c (.bool true)) (.t 123))] [0,1,5,6,8,9,15,16,124] [5,6,8]) (.cond (.t 124) (.seq (.reg false [.V 4 (.asg (.c (.bool false)))] [4] []) .ret) .skip)) (.norm [0,1,5,6,8,9,15,16] [5,6,8] laws_FnPots_k2))) laws_FnPots_k3)
def laws_FnPots_k5 : C :=
 .norm [0,1,5,6,8,9,15,16] [5,6,8] laws_FnPots_k4
def laws_FnPots_k6 : C :=
 .seq (.seq (.reg false [.V 144 (.mv (.t 19)),.V 145 (.mv (.t 5)),.V 146 (.len (.t 145)),.V 147 (.bin .lss (.t 144) (.t 146))] [0,1,5,6,9,19,147] [5,6]) (.cond (.t 147) .skip (.exit 4))) (.seq (.block 5 (.seq (.reg false [.V 151 (.mv (.t 5)),.V 152 (.mv (.t 19)),.V 153 (.ia 5 (.t 151) (.t 152)),.V 154 (.ld (some 5) (.t 153)),.V 155 (.call (.c (.fn 177 [])) [.t 154]),.V 150 (.mv (.t 155)),.V 156 (.ext (.t 150) 0),.V 157 (.ext (.t 150) 1),.V 20 (.asg (.t 156)),.V 21 (.asg (.t 157))] [0,1,5,6,9,19,20,21] [5,6]) (.seq (.reg true [.V 158 (.mv (.t 21)),.V 159 (.bin .eql (.t 158) (.c (.int .i64 0))),.V 160 (.mv (.t 159)),.G 161 (.mv (.t 5)) 2 true,.G 162 (.mv (.t 19)) 2 true,.G 163 (.ia 5 (.t 161) (.t 162)) 2 true,.G 164 (.fa 1 (.t 163)) 2 true,.G 165 (.ld none (.t 164)) 2 true,.G 166 (.mv (.t 5)) 2 true,.G 167 (.mv (.t 19)) 2 true,.G 168 (.ia 5 (.t 166) (.t 167)) 2 true,.G 169 (.fa 2 (.t 168)) 2 true,.G 170 (.ld none (.t 169)) 2 true,.G 171 (.bin .add (.t 165) (.t 170)) 2 true,.G 172 (.mv (.t 6)) 2 true,.G 173 (.call (.c (.fn 176 [])) [.t 172]) 2 true,.G 174 (.bin .geq (.t 171) (.t 173)) 2 true,.V 175 (.pick (.t 160) (.t 174) (.c (.bool false))),.V 176 (.mv (.t 175)),.G 177 (.mv (.t 20)) 18 true,.G 178 (.mv (.t 6)) 18 true,.G 179 (.len (.t 178)) 18 true,.G 180 (.bin .mul (.t 177) (.t 179)) 18 true,.G 181 (.mv (.t 9)) 18 true,.G 182 (.bin .gtr (.t 180) (.t 181)) 18 true,.V 183 (.pick (.t 176) (.t 182) (.c (.bool false)))] [0,1,5,6,9,19,183] [5,6]) (.cond (.t 183) (.seq (.reg false [.V 4 (.asg (.c (.bool false)))] [4] []) .ret) .skip)))) (.reg false [.V 148 (.mv (.t 19)),.V 149 (.bin .add (.t 148) (.c (.int .i64 1))),.V 19 (.asg (.t 149))] [0,1,5,6,9,19] [5,6]))
def laws_FnPots_k7 : C :=
 .norm [0,1,5,6,9,19] [5,6] laws_FnPots_k6
def laws_FnPots_k8 : C :=
 .seq (.seq (.reg false [.V 141 (.mv (.t 15)),.V 142 (.mv (.t 9)),.V 143 (.bin .neq (.t 141) (.t 142))] [0,1,5,6,9,143] [5,6]) (.cond (.t 143) (.seq (.reg false [.V 4 (.asg (.c (.bool false)))] [4] []) .ret) .skip)) (.seq (.reg false [.V 19 (.asg (.c (.int .i64 0)))] [0,1,5,6,9,19] [5,6]) (.block 4 (.loop laws_FnPots_k7)))
def laws_FnPots_k9 : C :=
 .seq (.reg false [.V 15 (.asg (.c (.int .i64 0)))] [0,1,5,6,8,9,15] [5,6,8]) (.seq (.seq (.reg false [.V 16 (.asg (.c (.int .i64 0)))] [0,1,5,6,8,9,15,16] [5,6,8]) (.block 2 (.loop laws_FnPots_k5))) laws_FnPots_k8)
def laws_FnPots_k10 : C :=
 .seq (.seq (.reg false [.V 88 (.mv (.t 8)),.V 89 (.len (.t 88)),.V 90 (.mv (.t 6)),.V 91 (.len (.t 90)),.V 92 (.bin .neq (.t 89) (.t 91)),.V 93 (.mv (.t 92)),.G 94 (.mv (.t 12)) 5 false,.G 95 (.bin .neq (.t 94) (.c (.int .i64 0))) 5 false,.V 96 (.pick (.t 93) (.c (.bool true)) (.t 95)),.V 97 (.mv (.t 96)),.G 98 (.mv (.t 11)) 9 false,.G 99 (.mv (.t 13)) 9 false,.G 100 (.mv (.t 6)) 9 false,.G 101 (.call (.c (.fn 176 [])) [.t 100]) 9 false,.G 102 (.bin .sub (.t 99) (.t 101)) 9 false,.G 103 (.bin .neq (.t 98) (.t 102)) 9 false,.V 104 (.pick (.t 97) (.c (.bool true)) (.t 103))] [0,1,5,6,8,9,104] [5,6,8]) (.cond (.t 104) (.seq (.reg false [.V 4 (.asg (.c (.bool false)))] [4] []) .ret) .skip)) (.norm [0,1,5,6,8,9] [5,6,8] laws_FnPots_k9)
def laws_FnPots_k11 : C :=
 .seq (.reg false [.V 328 (.mv (.t 36)),.V 329 (.bin .neq (.t 328) (.c (.int .i64 0))),.V 330 (.mv (.t 329)),.G 331 (.mv (.t 38)) 2 false,.G 332 (.bin .neq (.t 331) (.c (.int .i64 0))) 2 false,.V 333 (.pick (.t 330) (.c (.bool true)) (.t 332)),.V 334 (.mv (.t 333)),.G 335 (.mv (.t 33)) 6 false,.G 336 (.bin .eql (.t 335) (.c (.int .i64 0))) 6 false,.G 337 (.mv (.t 336)) 6 false,.G 338 (.mv (.t 34)) 9 true,.G 339 (.mv (.t 32)) 9 true,.G 340 (.bin .eql (.t 338) (.t 339)) 9 true,.G 341 (.mv (.t 340)) 9 true,.G 342 (.mv (.t 39)) 13 true,.G 343 (.un .not (.t 342)) 13 true,.G 344 (.pick (.t 341) (.t 343) (.c (.bool false))) 9 true,.G 345 (.mv (.t 344)) 9 true,.G 346 (.mv (.t 34)) 17 false,.G 347 (.mv (.t 32)) 17 false,.G 348 (.bin .lss (.t 346) (.t 347)) 17 false,.G 349 (.mv (.t 348)) 17 false,.G 350 (.mv (.t 39)) 21 true,.G 351 (.pick (.t 349) (.t 350) (.c (.bool false))) 17 false,.G 352 (.pick (.t 345) (.c (.bool true)) (.t 351)) 9 true,.G 353 (.pick (.t 337) (.t 352) (.c (.bool false))) 6 false,.V 354 (.pick (.t 334) (.c (.bool true)) (.t 353)),.V 355 (.mv (.t 354)),.G 356 (.mv (.t 33)) 27 false,.G 357 (.bin .eql (.t 356) (.c (.int .i64 3))) 27 false,.G 358 (.mv (.t 357)) 27 false,.G 359 (.mv (.t 39)) 30 true,.G 360 (.pick (.t 358) (.t 359) (.c (.bool false))) 27 false,.V 361 (.pick (.t 355) (.c (.bool true)) (.t 360))] [27,28,29,30,31,32,33,34,361] [27]) (.cond (.t 361) (.seq (.reg false [.V 4 (.asg (.c (.bool false)))] [4] []) .ret) .skip)
def laws_FnPots_k12 : C :=
 .reg false [.V 301 (.mv (.t 34)),.V 302 (.bin .add (.t 301) (.c (.int .i64 1))),.V 34 (.asg (.t 302))] [27,28,29,30,31,32,33,34] [27]
def laws_FnPots_k13 : C :=
 .seq (.seq (.reg false [.V 297 (.mv (.t 34)),.V 298 (.mv (.t 27)),.V 299 (.len (.t 298)),.V 300 (.bin .lss (.t 297) (.t 299))] [27,28,29,30,31,32,33,34,300] [27]) (.cond (.t 300) .skip (.exit 6))) (.seq (.block 7 (.seq (.reg false [.V 304 (.mv (.t 27)),.V 305 (.mv (.t 34)),.V 306 (.ia 5 (.t 304) (.t 305)),.V 307 (.ld (some 5) (.t 306)),.V 308 (.mv (.t 28)),.V 309 (.mv (.t 29)),.V 310 (.call (.c (.fn 172 [])) [.t 307,.t 308,.t 309]),.V 303 (.mv (.t 310)),.V 311 (.ext (.t 303) 0),.V 312 (.ext (.t 303) 1),.V 35 (.asg (.t 311)),.V 36 (.asg (.t 312))] [27,28,29,30,31,32,33,34,35,36] [27]) (.seq (.reg false [.V 314 (.mv (.t 27)),.V 315 (.mv (.t 34)),.V 316 (.ia 5 (.t 314) (.t 315)),.V 317 (.ld (some 5) (.t 316)),.V 318 (.mv (.t 31)),.V 319 (.call (.c (.fn 33 [])) [.t 317,.t 318]),.V 313 (.mv (.t 319)),.V 320 (.ext (.t 313) 0),.V 321 (.ext (.t 313) 1),.V 37 (.asg (.t 320)),.V 38 (.asg (.t 321))] [27,28,29,30,31,32,33,34,35,36,37,38] [27]) (.seq (.reg false [.V 322 (.mv (.t 35)),.V 323 (.mv (.t 322)),.G 324 (.mv (.t 37)) 1 true,.G 325 (.mv (.t 30)) 1 true,.G 326 (.bin .geq (.t 324) (.t 325)) 1 true,.V 327 (.pick (.t 323) (.t 326) (.c (.bool false))),.V 39 (.asg (.t 327))] [27,28,29,30,31,32,33,34,36,38,39] [27]) (.norm [27,28,29,30,31,32,33,34,36,38,39] [27] laws_FnPots_k11))))) laws_FnPots_k12)
def laws_FnPots_k14 : C :=
 .norm [27,28,29,30,31,32,33,34] [27] laws_FnPots_k13
def laws_FnPots_k15 : C :=
 .seq (.reg false [.V 4 (.asg (.c (.bool true)))] [4] []) .ret
def laws_FnPots_k16 : C :=
 .seq (.seq (.reg false [.V 34 (.asg (.c (.int .i64 0)))] [27,28,29,30,31,32,33,34] [27]) (.block 6 (.loop laws_FnPots_k14))) laws_FnPots_k15
def laws_FnPots_k17 : C :=
 .seq (.seq (.reg false [.V 285 (.mv (.t 33)),.V 286 (.bin .eql (.t 285) (.c (.int .i64 0))),.V 287 (.mv (.t 286)),.G 288 (.mv (.t 32)) 2 true,.G 289 (.bin .lss (.t 288) (.c (.int .i64 0))) 2 true,.G 290 (.mv (.t 289)) 2 true,.G 291 (.mv (.t 32)) 5 false,.G 292 (.mv (.t 27)) 5 false,.G 293 (.len (.t 292)) 5 false,.G 294 (.bin .geq (.t 291) (.t 293)) 5 false,.G 295 (.pick (.t 290) (.c (.bool true)) (.t 294)) 2 true,.V 296 (.pick (.t 287) (.t 295) (.c (.bool false)))] [27,28,29,30,31,32,33,296] [27]) (.cond (.t 296) (.seq (.reg false [.V 4 (.asg (.c (.bool false)))] [4] []) .ret) .skip)) (.norm [27,28,29,30,31,32,33] [27] laws_FnPots_k16)
def laws_FnPots_k18 : C :=
 .seq (.reg false [.V 261 (.mv (.t 0)),.V 262 (.call (.c (.fn 173 [])) [.t 261]),.V 260 (.mv (.t 262)),.V 263 (.ext (.t 260) 0),.V 264 (.ext (.t 260) 1),.V 265 (.ext (.t 260) 2),.V 266 (.ext (.t 260) 3),.V 267 (.ext (.t 260) 4),.W 27 (.asg (.t 263)),.V 28 (.asg (.t 264)),.V 29 (.asg (.t 265)),.V 30 (.asg (.t 266)),.V 31 (.asg (.t 267))] [27,28,29,30,31] [27]) (.seq (.reg false [.V 269 (.mv (.t 27)),.V 270 (.mv (.t 28)),.V 271 (.mv (.t 29)),.V 272 (.mv (.t 30)),.V 273 (.mv (.t 31)),.V 274 (.call (.c (.fn 61 [])) [.t 269,.t 270,.t 271,.t 272,.t 273]),.V 268 (.mv (.t 274)),.V 275 (.ext (.t 268) 0),.V 276 (.ext (.t 268) 1),.V 32 (.asg (.t 275)),.V 33 (.asg (.t 276))] [27,28,29,30,31,32,33] [27]) (.seq (.seq (.reg false [.V 277 (.mv (.t 33)),.V 278 (.bin .neq (.t 277) (.c (.int .i64 0))),.V 279 (.mv (.t 278)),.G 280 (.mv (.t 33)) 2 true,.G 281 (.bin .neq (.t 280) (.c (.int .i64 3))) 2 true,.V 282 (.pick (.t 279) (.t 281) (.c (.bool false)))] [27,28,29,30,31,32,33,282] [27]) (.cond (.t 282) (.seq (.reg false [.V 283 (.mv (.t 32)),.V 284 (.bin .eql (.t 283) (.c (.int .i64 0))),.V 4 (.asg (.t 284))] [4] []) .ret) .skip)) (.norm [27,28,29,30,31,32,33] [27] laws_FnPots_k17)))
def laws_FnPots_k19 : C :=
 .seq (.reg false [.V 192 (.mv (.t 1)),.V 193 (.call (.c (.fn 175 [])) [.t 192]),.V 191 (.mv (.t 193)),.V 194 (.ext (.t 191) 0),.V 195 (.ext (.t 191) 1),.V 196 (.ext (.t 191) 2),.W 22 (.alloc 5 (.agg [.str [],.int .i64 0,.int .i64 0,.int .i64 0,.int .i64 0])),.W 23 (.alloc 5 (.agg [.str [],.int .i64 0,.int .i64 0,.int .i64 0,.int .i64 0])),⟨none,true,.sto 5 (.t 22) (.t 194),none,false,[]⟩,⟨none,true,.sto 5 (.t 23) (.t 195),none,false,[]⟩,.V 24 (.asg (.t 196))] [0,22,23,24] [22,23]) (.seq (.reg false [.V 198 (.ld (some 5) (.t 22)),.V 199 (.ld (some 5) (.t 23)),.V 200 (.mv (.t 24)),.V 201 (.call (.c (.fn 174 [])) [.t 198,.t 199,.t 200]),.V 197 (.mv (.t 201)),.V 202 (.ext (.t 197) 0),.V 203 (.ext (.t 197) 1),.W 25 (.alloc 5 (.agg [.str [],.int .i64 0,.int .i64 0,.int .i64 0,.int .i64 0])),⟨none,true,.sto 5 (.t 25) (.t 202),none,false,[]⟩,.V 26 (.asg (.t 203))] [0,22,23,24,25,26] [22,23,25]) (.seq (.seq (.reg false [.V 204 (.mv (.t 26)),.V 205 (.bin .eql (.t 204) (.c (.int .i64 0))),.V 206 (.mv (.t 205)),.G 207 (.fa 0 (.t 25)) 2 true,.G 208 (.ld none (.t 207)) 2 true,.G 209 (.mv (.t 24)) 2 true,.G 210 (.bin .neq (.t 208) (.t 209)) 2 true,.G 211 (.mv (.t 210)) 2 true,.G 212 (.fa 1 (.t 25)) 7 false,.G 213 (.ld none (.t 212)) 7 false,.G 214 (.fa 1 (.t 22)) 7 false,.G 215 (.ld none (.t 214)) 7 false,.G 216 (.fa 1 (.t 23)) 7 false,.G 217 (.ld none (.t 216)) 7 false,.G 218 (.bin .add (.t 215) (.t 217)) 7 false,.G 219 (.bin .neq (.t 213) (.t 218)) 7 false,.G 220 (.pick (.t 211) (.c (.bool true)) (.t 219)) 2 true,.G 221 (.mv (.t 220)) 2 true,.G 222 (.fa 2 (.t 25)) 17 false,.G 223 (.ld none (.t 222)) 17 false,.G 224 (.fa 2 (.t 22)) 17 false,.G 225 (.ld none (.t 224)) 17 false,.G 226 (.fa 2 (.t 23)) 17 false,.G 227 (.ld none (.t 226)) 17 false,.G 228 (.bin .add (.t 225) (.t 227)) 17 false,.G 229 (.bin .neq (.t 223) (.t 228)) 17 false,.G 230 (.pick (.t 221) (.c (.bool true)) (.t 229)) 2 true,.G 231 (.mv (.t 230)) 2 true,.G 232 (.fa 3 (.t 25)) 27 false,.G 233 (.ld none (.t 232)) 27 false,.G 234 (.fa 3 (.t 22)) 27 false,.G 235 (.ld none (.t 234)) 27 false,.G 236 (.bin .gtr (.t 233) (.t 235)) 27 false,.G 237 (.pick (.t 231) (.c (.bool true)) (.t 236)) 2 true,.G 238 (.mv (.t 237)) 2 true,.G 239 (.fa 3 (.t 25)) 34 false,.G 240 (.ld none (.t 239)) 34 false,.G 241 (.fa 3 (.t 23)) 34 false,.G 242 (.ld none (.t 241)) 34 false,.G 243 (.bin .gtr (.t 240) (.t 242)) 34 false,.G 244 (.pick (.t 238) (.c (.bool true)) (.t 243)) 2 true,.G 245 (.mv (.t 244)) 2 true,.G 246 (.fa 4 (.t 25)) 41 false,.G 247 (.ld none (.t 246)) 41 false,.G 248 (.fa 4 (.t 22)) 41 false,.G 249 (.ld none (.t 248)) 41 false,.G 250 (.bin .lss (.t 247) (.t 249)) 41 false,.G 251 (.pick (.t 245) (.c (.bool true)) (.t 250)) 2 true,.G 252 (.mv (.t 251)) 2 true,.G 253 (.fa 4 (.t 25)) 48 false,.G 254 (.ld none (.t 253)) 48 false,.G 255 (.fa 4 (.t 23)) 48 false,.G 256 (.ld none (.t 255)) 48 false,.G 257 (.bin .lss (.t 254) (.t 256)) 48 false,.G 258 (.pick (.t 252) (.c (.bool true)) (.t 257)) 2 true,.V 259 (.pick (.t 206) (.t 258) (.c (.bool false)))] [0,259] []) (.cond (.t 259) (.seq (.reg false [.V 4 (.asg (.c (.bool false)))] [4] []) .ret) .skip)) (.norm [0] [] laws_FnPots_k18)))
def laws_FnPots_k20 : C :=
 .norm [0,1] [] laws_FnPots_k19
def laws_FnPots_k21 : C :=
 .seq (.reg false [.V 47 (.mv (.t 0)),.V 48 (.call (.c (.fn 180 [])) [.t 47]),.V 46 (.mv (.t 48)),.V 49 (.ext (.t 46) 0),.V 50 (.ext (.t 46) 1),.V 51 (.ext (.t 46) 2),.W 5 (.asg (.t 49)),.W 6 (.asg (.t 50)),.V 7 (.asg (.t 51))] [0,1,5,6,7] [5,6]) (.seq (.reg false [.V 53 (.mv (.t 5)),.V 54 (.mv (.t 6)),.V 55 (.mv (.t 7)),.W 56 (.call (.c (.fn 179 [])) [.t 53,.t 54,.t 55]),.V 52 (.mv (.t 56)),.V 57 (.ext (.t 52) 0),.V 58 (.ext (.t 52) 1),.V 59 (.ext (.t 52) 2),.W 8 (.asg (.t 57)),.V 9 (.asg (.t 58)),.V 10 (.asg (.t 59))] [0,1,5,6,8,9,10] [5,6,8]) (.seq (.seq (.reg false [.V 60 (.mv (.t 10)),.V 61 (.bin .eql (.t 60) (.c (.int .i64 0)))] [0,1,5,6,8,9,61] [5,6,8]) (.cond (.t 61) (.seq (.reg false [.V 63 (.mv (.t 5)),.V 64 (.mv (.t 6)),.V 65 (.mv (.t 8)),.V 66 (.call (.c (.fn 178 [])) [.t 63,.t 64,.t 65]),.V 62 (.mv (.t 66)),.V 67 (.ext (.t 62) 0),.V 68 (.ext (.t 62) 1),.V 11 (.asg (.t 67)),.V 12 (.asg (.t 68))] [0,1,5,6,8,9,11,12] [5,6,8]) (.seq (.reg false [.V 13 (.asg (.c (.int .i64 0)))] [0,1,5,6,8,9,11,12,13] [5,6,8]) (.seq (.seq (.reg false [.V 14 (.asg (.c (.int .i64 0)))] [0,1,5,6,8,9,11,12,13,14] [5,6,8]) (.block 0 (.loop laws_FnPots_k1))) laws_FnPots_k10))) (.seq (.reg false [.V 184 (.mv (.t 8)),.V 185 (.len (.t 184)),.V 186 (.bin .neq (.t 185) (.c (.int .i64 0))),.V 187 (.mv (.t 186)),.G 188 (.mv (.t 9)) 3 false,.G 189 (.bin .neq (.t 188) (.c (.int .i64 0))) 3 false,.V 190 (.pick (.t 187) (.c (.bool true)) (.t 189))] [0,1,190] []) (.cond (.t 190) (.seq (.reg false [.V 4 (.asg (.c (.bool false)))] [4] []) .ret) .skip)))) laws_FnPots_k20))
def laws_FnPots_ir : Fn := { np := 2,io := [],res := [.t 4],own := [false],body :=
 (.seq (.reg false [.V 4 (.asg (.c (.bool false)))] [0,1] []) (.seq (.seq (.reg false [.V 40 (.mv (.t 0)),.V 41 (.call (.c (.fn 76 [])) [.t 40]),.V 42 (.mv (.t 41)),.G 43 (.mv (.t 1)) 2 false,.G 44 (.call (.c (.fn 76 [])) [.t 43]) 2 false,.V 45 (.pick (.t 42) (.c (.bool true)) (.t 44))] [0,1,45] []) (.cond (.t 45) (.seq (.reg false [.V 4 (.asg (.c (.bool true)))] [4] []) .ret) .skip)) (.norm [0,1] [] laws_FnPots_k21))) }
noncomputable def laws_FnPots_D : List (Nat × Callee) := [(33,spec_OpenSeconds_c),(61,impl_PotFor_c),(76,laws_b10Long_c),(172,impl_HoldsJoint_c),(173,spec_DrawPotFor_c),(174,impl_MixPots_c),(175,spec_DrawMixPots_c),(176,laws_b10Sum_c),(177,spec_StrengthOf_c),(178,impl_SpillOf_c),(179,impl_GlueJoints_c),(180,spec_DrawGlueJoints_c)]
def laws_FnPots_H : List (Nat × ET) := [(5,T_Pot),(6,(.one (.int .i64))),(8,(.one (.int .i64))),(27,T_Pot),(40,(.one (.int .u8))),(43,(.one (.int .u8))),(47,(.one (.int .u8))),(49,T_Pot),(50,(.one (.int .i64))),(53,T_Pot),(54,(.one (.int .i64))),(57,(.one (.int .i64))),(63,T_Pot),(64,(.one (.int .i64))),(65,(.one (.int .i64))),(70,T_Pot),(76,T_Pot),(81,T_Pot),(88,(.one (.int .i64))),(90,(.one (.int .i64))),(100,(.one (.int .i64))),(106,(.one (.int .i64))),(111,(.one (.int .i64))),(117,(.one (.int .i64))),(121,T_Pot),(126,T_Pot),(127,(.one (.int .i64))),(145,T_Pot),(151,T_Pot),(161,T_Pot),(166,T_Pot),(172,(.one (.int .i64))),(178,(.one (.int .i64))),(184,(.one (.int .i64))),(192,(.one (.int .u8))),(261,(.one (.int .u8))),(263,T_Pot),(269,T_Pot),(292,T_Pot),(298,T_Pot),(304,T_Pot),(314,T_Pot)]
noncomputable def laws_FnPots_c : Callee := mkCallee laws_FnPots_D laws_FnPots_H laws_FnPots_ir [.d (.one (.sl (.one (.int .u8)))),.d (.one (.sl (.one (.int .u8))))] [.d (.one .bool)] []
noncomputable def laws_FnPots (a0 : List Int) (a1 : List Int) : Option (Bool) := laws_FnPots_c.f (a0,a1,())
noncomputable def laws_FnPots_p0  (v0 : List Int) (v1 : List Int) : Option (Bool) :=
 goL laws_FnPots_D laws_FnPots_H (vleave laws_FnPots_ir [.d (.one (.sl (.one (.int .u8)))),.d (.one (.sl (.one (.int .u8))))] [.d (.one .bool)] [] []) [.c laws_FnPots_k21]
  ⟨[(0,.sl (.one (.int .u8)) v0),(1,.sl (.one (.int .u8)) v1)],[]⟩
noncomputable def laws_FnPots_p1  (v0 : List Int) (v1 : List Int) (v5 : List T_Pot.ty) (v6 : List Int) (v8 : List Int) (v9 : Int) (v11 : Int) (v12 : Int) (v13 : Int) (v14 : Int) : Option (Bool) :=
 goL laws_FnPots_D laws_FnPots_H (vleave laws_FnPots_ir [.d (.one (.sl (.one (.int .u8)))),.d (.one (.sl (.one (.int .u8))))] [.d (.one .bool)] [] []) [.c laws_FnPots_k0,.l laws_FnPots_k1,.e 0,.c laws_FnPots_k10,.c laws_FnPots_k20]
  ⟨[(0,.sl (.one (.int .u8)) v0),(1,.sl (.one (.int .u8)) v1),(5,.sl T_Pot v5),(6,.sl (.one (.int .i64)) v6),(8,.sl (.one (.int .i64)) v8),(9,.int .i64 v9),(11,.int .i64 v11),(12,.int .i64 v12),(13,.int .i64 v13),(14,.int .i64 v14)],[(5,none),(6,none),(8,none)]⟩
noncomputable def laws_FnPots_p2  (v0 : List Int) (v1 : List Int) : Option (Bool) :=
 goL laws_FnPots_D laws_FnPots_H (vleave laws_FnPots_ir [.d (.one (.sl (.one (.int .u8)))),.d (.one (.sl (.one (.int .u8))))] [.d (.one .bool)] [] []) [.c laws_FnPots_k19]
  ⟨[(0,.sl (.one (.int .u8)) v0),(1,.sl (.one (.int .u8)) v1)],[]⟩
noncomputable def laws_FnPots_p3  (v0 : List Int) (v1 : List Int) (v5 : List T_Pot.ty) (v6 : List Int) (v8 : List Int) (v9 : Int) : Option (Bool) :=
 goL laws_FnPots_D laws_FnPots_H (vleave laws_FnPots_ir [.d (.one (.sl (.one (.int .u8)))),.d (.one (.sl (.one (.int .u8))))] [.d (.one .bool)] [] []) [.c laws_FnPots_k9,.c laws_FnPots_k20]
  ⟨[(0,.sl (.one (.int .u8)) v0),(1,.sl (.one (.int .u8)) v1),(5,.sl T_Pot v5),(6,.sl (.one (.int .i64)) v6),(8,.sl (.one (.int .i64)) v8),(9,.int .i64 v9)],[(5,none),(6,none),(8,none)]⟩
noncomputable def laws_FnPots_p4  (v0 : List Int) : Option (Bool) :=
 goL laws_FnPots_D laws_FnPots_H (vleave laws_FnPots_ir [.d (.one (.sl (.one (.int .u8)))),.d (.one (.sl (.one (.int .u8))))] [.d (.one .bool)] [] []) [.c laws_FnPots_k18]
  ⟨[(0,.sl (.one (.int .u8)) v0)],[]⟩
noncomputable def laws_FnPots_p5  (v0 : List Int) (v1 : List Int) (v5 : List T_Pot.ty) (v6 : List Int) (v8 : List Int) (v9 : Int) (v15 : Int) (v16 : Int) : Option (Bool) :=
 goL laws_FnPots_D laws_FnPots_H (vleave laws_FnPots_ir [.d (.one (.sl (.one (.int .u8)))),.d (.one (.sl (.one (.int .u8))))] [.d (.one .bool)] [] []) [.c laws_FnPots_k4,.l laws_FnPots_k5,.e 2,.c laws_FnPots_k8,.c laws_FnPots_k20]
  ⟨[(0,.sl (.one (.int .u8)) v0),(1,.sl (.one (.int .u8)) v1),(5,.sl T_Pot v5),(6,.sl (.one (.int .i64)) v6),(8,.sl (.one (.int .i64)) v8),(9,.int .i64 v9),(15,.int .i64 v15),(16,.int .i64 v16)],[(5,none),(6,none),(8,none)]⟩
noncomputable def laws_FnPots_p6  (v28 : Int) (v29 : Int) (v30 : Int) (v31 : Int) (v32 : Int) (v33 : Int) (r27 : List T_Pot.ty) : Option (Bool) :=
 goL laws_FnPots_D laws_FnPots_H (vleave laws_FnPots_ir [.d (.one (.sl (.one (.int .u8)))),.d (.one (.sl (.one (.int .u8))))] [.d (.one .bool)] [] []) [.c laws_FnPots_k17]
  ⟨[(27,.view 27 0 r27.length),(28,.int .i64 v28),(29,.int .i64 v29),(30,.int .i64 v30),(31,.int .i64 v31),(32,.int .i64 v32),(33,.int .i64 v33)],[(27,some (.sl T_Pot r27))]⟩
noncomputable def laws_FnPots_p7  (v0 : List Int) (v1 : List Int) (v5 : List T_Pot.ty) (v6 : List Int) (v8 : List Int) (v9 : Int) (v15 : Int) (v16 : Int) : Option (Bool) :=
 goL laws_FnPots_D laws_FnPots_H (vleave laws_FnPots_ir [.d (.one (.sl (.one (.int .u8)))),.d (.one (.sl (.one (.int .u8))))] [.d (.one .bool)] [] []) [.c laws_FnPots_k2,.e 3,.c laws_FnPots_k3,.l laws_FnPots_k5,.e 2,.c laws_FnPots_k8,.c laws_FnPots_k20]
  ⟨[(0,.sl (.one (.int .u8)) v0),(1,.sl (.one (.int .u8)) v1),(5,.sl T_Pot v5),(6,.sl (.one (.int .i64)) v6),(8,.sl (.one (.int .i64)) v8),(9,.int .i64 v9),(15,.int .i64 v15),(16,.int .i64 v16)],[(5,none),(6,none),(8,none)]⟩
noncomputable def laws_FnPots_p8  (v0 : List Int) (v1 : List Int) (v5 : List T_Pot.ty) (v6 : List Int) (v9 : Int) (v19 : Int) : Option (Bool) :=
 goL laws_FnPots_D laws_FnPots_H (vleave laws_FnPots_ir [.d (.one (.sl (.one (.int .u8)))),.d (.one (.sl (.one (.int .u8))))] [.d (.one .bool)] [] []) [.c laws_FnPots_k6,.l laws_FnPots_k7,.e 4,.c laws_FnPots_k20]
  ⟨[(0,.sl (.one (.int .u8)) v0),(1,.sl (.one (.int .u8)) v1),(5,.sl T_Pot v5),(6,.sl (.one (.int .i64)) v6),(9,.int .i64 v9),(19,.int .i64 v19)],[(5,none),(6,none)]⟩
noncomputable def laws_FnPots_p9  (v28 : Int) (v29 : Int) (v30 : Int) (v31 : Int) (v32 : Int) (v33 : Int) (r27 : List T_Pot.ty) : Option (Bool) :=
 goL laws_FnPots_D laws_FnPots_H (vleave laws_FnPots_ir [.d (.one (.sl (.one (.int .u8)))),.d (.one (.sl (.one (.int .u8))))] [.d (.one .bool)] [] []) [.c laws_FnPots_k16]
  ⟨[(27,.view 27 0 r27.length),(28,.int .i64 v28),(29,.int .i64 v29),(30,.int .i64 v30),(31,.int .i64 v31),(32,.int .i64 v32),(33,.int .i64 v33)],[(27,some (.sl T_Pot r27))]⟩
noncomputable def laws_FnPots_p10  (v28 : Int) (v29 : Int) (v30 : Int) (v31 : Int) (v32 : Int) (v33 : Int) (v34 : Int) (r27 : List T_Pot.ty) : Option (Bool) :=
 goL laws_FnPots_D laws_FnPots_H (vleave laws_FnPots_ir [.d (.one (.sl (.one (.int .u8)))),.d (.one (.sl (.one (.int .u8))))] [.d (.one .bool)] [] []) [.c laws_FnPots_k13,.l laws_FnPots_k14,.e 6,.c laws_FnPots_k15]
  ⟨[(27,.view 27 0 r27.length),(28,.int .i64 v28),(29,.int .i64 v29),(30,.int .i64 v30),(31,.int .i64 v31),(32,.int .i64 v32),(33,.int .i64 v33),(34,.int .i64 v34)],[(27,some (.sl T_Pot r27))]⟩
noncomputable def laws_FnPots_p11  (v28 : Int) (v29 : Int) (v30 : Int) (v31 : Int) (v32 : Int) (v33 : Int) (v34 : Int) (v36 : Int) (v38 : Int) (v39 : Bool) (r27 : List T_Pot.ty) : Option (Bool) :=
 goL laws_FnPots_D laws_FnPots_H (vleave laws_FnPots_ir [.d (.one (.sl (.one (.int .u8)))),.d (.one (.sl (.one (.int .u8))))] [.d (.one .bool)] [] []) [.c laws_FnPots_k11,.e 7,.c laws_FnPots_k12,.l laws_FnPots_k14,.e 6,.c laws_FnPots_k15]
  ⟨[(27,.view 27 0 r27.length),(28,.int .i64 v28),(29,.int .i64 v29),(30,.int .i64 v30),(31,.int .i64 v31),(32,.int .i64 v32),(33,.int .i64 v33),(34,.int .i64 v34),(36,.int .i64 v36),(38,.int .i64 v38),(39,.bool v39)],[(27,some (.sl T_Pot r27))]⟩
theorem laws_FnPots_eq (a0 : List Int) (a1 : List Int) : laws_FnPots a0 a1 =
 (laws_b10Long a0).bind fun x1 =>
  if x1 then
   some true
  else
   (laws_b10Long a1).bind fun x2 =>
    if x2 then
     some true
    else
     laws_FnPots_p0 a0 a1 :=
 (mk_f _ _ _ _ _ _ _ 4000).trans (by kernel_rfl)
theorem laws_FnPots_p0_eq  (v0 : List Int) (v1 : List Int) : laws_FnPots_p0 v0 v1 =
 (spec_DrawGlueJoints v0).bind fun x1 =>
  (impl_GlueJoints (x1.1.take x1.1.length) (x1.2.1.take x1.2.1.length) x1.2.2).bind fun x2 =>
   if (x2.2.2 == 0) then
    (impl_SpillOf (x1.1.take x1.1.length) (x1.2.1.take x1.2.1.length) x2.1).bind fun x3 =>
     laws_FnPots_p1 v0 v1 (x1.1.take x1.1.length) (x1.2.1.take x1.2.1.length) x2.1 x2.2.1 x3.1 x3.2 0 0
   else
    if ((x2.1.length : Int) != 0) then
     some false
    else
     if (x2.2.1 != 0) then
      some false
     else
      laws_FnPots_p2 v0 v1 :=
 (goL_dn _ _ _ 4000 _ _).trans (by kernel_rfl)
theorem laws_FnPots_p1_eq  (v0 : List Int) (v1 : List Int) (v5 : List T_Pot.ty) (v6 : List Int) (v8 : List Int) (v9 : Int) (v11 : Int) (v12 : Int) (v13 : Int) (v14 : Int) : laws_FnPots_p1 v0 v1 v5 v6 v8 v9 v11 v12 v13 v14 =
 if decide (v14 < (v5.length : Int)) then
  if decide (0 ≤ v14) then
   (v5[v14.toNat]?).bind fun x1 =>
    if decide (0 ≤ v14) then
     (v5[v14.toNat]?).bind fun x2 =>
      laws_FnPots_p1 v0 v1 v5 v6 v8 v9 v11 v12 (IntKind.i64.wrap (v13 + (IntKind.i64.wrap (x1.2.1 + x2.2.2.1)))) (IntKind.i64.wrap (v14 + 1))
    else
     none
  else
   none
 else
  if ((v8.length : Int) != (v6.length : Int)) then
   some false
  else
   if (v12 != 0) then
    some false
   else
    (laws_b10Sum v6).bind fun x3 =>
     if (v11 != IntKind.i64.wrap (v13 - x3)) then
      some false
     else
      laws_FnPots_p3 v0 v1 v5 v6 v8 v9 :=
 (goL_dn _ _ _ 4000 _ _).trans (by kernel_rfl)
theorem laws_FnPots_p2_eq  (v0 : List Int) (v1 : List Int) : laws_FnPots_p2 v0 v1 =
 (spec_DrawMixPots v1).bind fun x1 =>
  (impl_MixPots (x1.1.1,x1.1.2.1,x1.1.2.2.1,x1.1.2.2.2.1,x1.1.2.2.2.2.1,()) (x1.2.1.1,x1.2.1.2.1,x1.2.1.2.2.1,x1.2.1.2.2.2.1,x1.2.1.2.2.2.2.1,()) x1.2.2).bind fun x2 =>
   if (x2.2 == 0) then
    if (!(x2.1.1 == x1.2.2)) then
     some false
    else
     if (x2.1.2.1 != IntKind.i64.wrap (x1.1.2.1 + x1.2.1.2.1)) then
      some false
     else
      if (x2.1.2.2.1 != IntKind.i64.wrap (x1.1.2.2.1 + x1.2.1.2.2.1)) then
       some false
      else
       if decide (x2.1.2.2.2.1 > x1.1.2.2.2.1) then
        some false
       else
        if decide (x2.1.2.2.2.1 > x1.2.1.2.2.2.1) then
         some false
        else
         if decide (x2.1.2.2.2.2.1 < x1.1.2.2.2.2.1) then
          some false
         else
          if decide (x2.1.2.2.2.2.1 < x1.2.1.2.2.2.2.1) then
           some false
          else
           laws_FnPots_p4 v0
   else
    laws_FnPots_p4 v0 :=
 (goL_dn _ _ _ 4000 _ _).trans (by kernel_rfl)
theorem laws_FnPots_p3_eq  (v0 : List Int) (v1 : List Int) (v5 : List T_Pot.ty) (v6 : List Int) (v8 : List Int) (v9 : Int) : laws_FnPots_p3 v0 v1 v5 v6 v8 v9 =
 laws_FnPots_p5 v0 v1 v5 v6 v8 v9 0 0 :=
 (goL_dn _ _ _ 4000 _ _).trans (by kernel_rfl)
theorem laws_FnPots_p4_eq  (v0 : List Int) : laws_FnPots_p4 v0 =
 (spec_DrawPotFor v0).bind fun x1 =>
  (impl_PotFor (x1.1.take x1.1.length) x1.2.1 x1.2.2.1 x1.2.2.2.1 x1.2.2.2.2).bind fun x2 =>
   if (x2.2 != 0) then
    if (x2.2 != 3) then
     some (x2.1 == 0)
    else
     laws_FnPots_p6 x1.2.1 x1.2.2.1 x1.2.2.2.1 x1.2.2.2.2 x2.1 x2.2 x1.1
   else
    laws_FnPots_p6 x1.2.1 x1.2.2.1 x1.2.2.2.1 x1.2.2.2.2 x2.1 x2.2 x1.1 :=
 (goL_dn _ _ _ 4000 _ _).trans (by kernel_rfl)
theorem laws_FnPots_p5_eq  (v0 : List Int) (v1 : List Int) (v5 : List T_Pot.ty) (v6 : List Int) (v8 : List Int) (v9 : Int) (v15 : Int) (v16 : Int) : laws_FnPots_p5 v0 v1 v5 v6 v8 v9 v15 v16 =
 if decide (v16 < (v8.length : Int)) then
  if decide (0 ≤ v16) then
   (v8[v16.toNat]?).bind fun x1 =>
    if decide (x1 < 0) then
     some false
    else
     if decide (0 ≤ v16) then
      (v8[v16.toNat]?).bind fun x2 =>
       if decide (x2 ≥ (v5.length : Int)) then
        some false
       else
        laws_FnPots_p7 v0 v1 v5 v6 v8 v9 v15 v16
     else
      none
  else
   none
 else
  if (v15 != v9) then
   some false
  else
   laws_FnPots_p8 v0 v1 v5 v6 v9 0 :=
 (goL_dn _ _ _ 4000 _ _).trans (by kernel_rfl)
theorem laws_FnPots_p6_eq  (v28 : Int) (v29 : Int) (v30 : Int) (v31 : Int) (v32 : Int) (v33 : Int) (r27 : List T_Pot.ty) : laws_FnPots_p6 v28 v29 v30 v31 v32 v33 r27 =
 if (v33 == 0) then
  if decide (v32 < 0) then
   some false
  else
   if decide (v32 ≥ (r27.length : Int)) then
    some false
   else
    laws_FnPots_p9 v28 v29 v30 v31 v32 v33 r27
 else
  laws_FnPots_p9 v28 v29 v30 v31 v32 v33 r27 :=
 (goL_dn _ _ _ 4000 _ _).trans (by kernel_rfl)
theorem laws_FnPots_p7_eq  (v0 : List Int) (v1 : List Int) (v5 : List T_Pot.ty) (v6 : List Int) (v8 : List Int) (v9 : Int) (v15 : Int) (v16 : Int) : laws_FnPots_p7 v0 v1 v5 v6 v8 v9 v15 v16 =
 if decide (0 ≤ v16) then
  (v8[v16.toNat]?).bind fun x1 =>
   if decide (0 ≤ x1) then
    (v5[x1.toNat]?).bind fun x2 =>
     (spec_StrengthOf x2).bind fun x3 =>
      if (x3.2 != 0) then
       some false
      else
       laws_FnPots_p5 v0 v1 v5 v6 v8 v9 (IntKind.i64.wrap (v15 + x3.1)) (IntKind.i64.wrap (v16 + 1))
   else
    none
 else
  none :=
 (goL_dn _ _ _ 4000 _ _).trans (by kernel_rfl)
theorem laws_FnPots_p8_eq  (v0 : List Int) (v1 : List Int) (v5 : List T_Pot.ty) (v6 : List Int) (v9 : Int) (v19 : Int) : laws_FnPots_p8 v0 v1 v5 v6 v9 v19 =
 if decide (v19 < (v5.length : Int)) then
  if decide (0 ≤ v19) then
   (v5[v19.toNat]?).bind fun x1 =>
    (spec_StrengthOf x1).bind fun x2 =>
     if (x2.2 == 0) then
      if decide (0 ≤ v19) then
       (v5[v19.toNat]?).bind fun x3 =>
        if decide (0 ≤ v19) then
         (v5[v19.toNat]?).bind fun x4 =>
          (laws_b10Sum v6).bind fun x5 =>
           if decide (IntKind.i64.wrap (x3.2.1 + x4.2.2.1) ≥ x5) then
            if decide (IntKind.i64.wrap (x2.1 * (v6.length : Int)) > v9) then
             some false
            else
             laws_FnPots_p8 v0 v1 v5 v6 v9 (IntKind.i64.wrap (v19 + 1))
           else
            laws_FnPots_p8 v0 v1 v5 v6 v9 (IntKind.i64.wrap (v19 + 1))
        else
         none
      else
       none
     else
      laws_FnPots_p8 v0 v1 v5 v6 v9 (IntKind.i64.wrap (v19 + 1))
  else
   none
 else
  laws_FnPots_p2 v0 v1 :=
 (goL_dn _ _ _ 4000 _ _).trans (by kernel_rfl)
theorem laws_FnPots_p9_eq  (v28 : Int) (v29 : Int) (v30 : Int) (v31 : Int) (v32 : Int) (v33 : Int) (r27 : List T_Pot.ty) : laws_FnPots_p9 v28 v29 v30 v31 v32 v33 r27 =
 laws_FnPots_p10 v28 v29 v30 v31 v32 v33 0 r27 :=
 (goL_dn _ _ _ 4000 _ _).trans (by kernel_rfl)
theorem laws_FnPots_p10_eq  (v28 : Int) (v29 : Int) (v30 : Int) (v31 : Int) (v32 : Int) (v33 : Int) (v34 : Int) (r27 : List T_Pot.ty) : laws_FnPots_p10 v28 v29 v30 v31 v32 v33 v34 r27 =
 if decide (v34 < (r27.length : Int)) then
  if decide (0 ≤ v34) && decide (v34 < (r27.length : Int)) then
   (r27[v34.toNat]?).bind fun x1 =>
    (impl_HoldsJoint x1 v28 v29).bind fun x2 =>
     if decide (0 ≤ v34) && decide (v34 < (r27.length : Int)) then
      (r27[v34.toNat]?).bind fun x3 =>
       (spec_OpenSeconds x3 v31).bind fun x4 =>
        if x2.1 then
         laws_FnPots_p11 v28 v29 v30 v31 v32 v33 v34 x2.2 x4.2 (decide (x4.1 ≥ v30)) r27
        else
         laws_FnPots_p11 v28 v29 v30 v31 v32 v33 v34 x2.2 x4.2 false r27
     else
      none
  else
   none
 else
  some true :=
 (goL_dn _ _ _ 4000 _ _).trans (by kernel_rfl)
theorem laws_FnPots_p11_eq  (v28 : Int) (v29 : Int) (v30 : Int) (v31 : Int) (v32 : Int) (v33 : Int) (v34 : Int) (v36 : Int) (v38 : Int) (v39 : Bool) (r27 : List T_Pot.ty) : laws_FnPots_p11 v28 v29 v30 v31 v32 v33 v34 v36 v38 v39 r27 =
 if (v36 != 0) then
  some false
 else
  if (v38 != 0) then
   some false
  else
   if (v33 == 0) then
    if (v34 == v32) then
     if (!v39) then
      some false
     else
      if decide (v34 < v32) then
       if v39 then
        some false
       else
        if (v33 == 3) then
         if v39 then
          some false
         else
          laws_FnPots_p10 v28 v29 v30 v31 v32 v33 (IntKind.i64.wrap (v34 + 1)) r27
        else
         laws_FnPots_p10 v28 v29 v30 v31 v32 v33 (IntKind.i64.wrap (v34 + 1)) r27
      else
       if (v33 == 3) then
        if v39 then
         some false
        else
         laws_FnPots_p10 v28 v29 v30 v31 v32 v33 (IntKind.i64.wrap (v34 + 1)) r27
       else
        laws_FnPots_p10 v28 v29 v30 v31 v32 v33 (IntKind.i64.wrap (v34 + 1)) r27
    else
     if decide (v34 < v32) then
      if v39 then
       some false
      else
       if (v33 == 3) then
        if v39 then
         some false
        else
         laws_FnPots_p10 v28 v29 v30 v31 v32 v33 (IntKind.i64.wrap (v34 + 1)) r27
       else
        laws_FnPots_p10 v28 v29 v30 v31 v32 v33 (IntKind.i64.wrap (v34 + 1)) r27
     else
      if (v33 == 3) then
       if v39 then
        some false
       else
        laws_FnPots_p10 v28 v29 v30 v31 v32 v33 (IntKind.i64.wrap (v34 + 1)) r27
      else
       laws_FnPots_p10 v28 v29 v30 v31 v32 v33 (IntKind.i64.wrap (v34 + 1)) r27
   else
    if (v33 == 3) then
     if v39 then
      some false
     else
      laws_FnPots_p10 v28 v29 v30 v31 v32 v33 (IntKind.i64.wrap (v34 + 1)) r27
    else
     laws_FnPots_p10 v28 v29 v30 v31 v32 v33 (IntKind.i64.wrap (v34 + 1)) r27 :=
 (goL_dn _ _ _ 4000 _ _).trans (by kernel_rfl)
end Go.Ab.P
