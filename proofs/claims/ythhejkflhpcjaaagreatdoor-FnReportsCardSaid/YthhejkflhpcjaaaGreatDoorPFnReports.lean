/- Functions of the program: abstract forms, and what their runs give. Conditions: none. -/
import Derived.Test.YthhejkflhpcjaaaGreatDoorL8
set_option maxRecDepth 100000
set_option linter.unusedVariables false
namespace Go.Ab.P
open Go.Ab
@[reducible] def T_Pot : ET := .agg (.cons .str (.cons (.int .i64) (.cons (.int .i64) (.cons (.int .i64) (.cons (.int .i64) .nil)))))
@[reducible] def T_Paper : ET := .agg (.cons .str (.cons .str (.cons (.int .i64) (.cons (.int .i64) (.cons (.int .i64) .nil)))))
@[reducible] def T_l00Src : ET := .agg (.cons (.sl (.one (.int .u8))) (.cons (.int .i64) (.cons (.int .u64) .nil)))
def laws_b10Long_ir : Fn := { np := 1,io := [],res := [.t 2],own := [false],body :=
 (.seq (.reg false [.V 2 (.asg (.c (.bool false)))] [0] []) (.seq (.reg false [.V 3 (.mv (.t 0)),.V 4 (.len (.t 3)),.V 5 (.bin .gtr (.t 4) (.c (.int .i64 1048576))),.V 2 (.asg (.t 5))] [2] []) .ret)) }
noncomputable def laws_b10Long_D : List (Nat × Callee) := []
def laws_b10Long_H : List (Nat × ET) := [(3,(.one (.int .u8)))]
noncomputable def laws_b10Long_c : Callee := mkCallee laws_b10Long_D laws_b10Long_H laws_b10Long_ir [.d (.one (.sl (.one (.int .u8))))] [.d (.one .bool)] []
noncomputable def laws_b10Long (a0 : List Int) : Option (Bool) := laws_b10Long_c.f (a0,())
theorem laws_b10Long_eq (a0 : List Int) : laws_b10Long a0 =
 some (decide ((a0.length : Int) > 1048576)) :=
 (mk_f _ _ _ _ _ _ _ 4000).trans (by kernel_rfl)
def spec_l00From_ir : Fn := { np := 1,io := [],res := [.t 2],own := [true],body :=
 (.seq (.reg false [.V 2 (.asg (.c (.cst (.pointer none))))] [0] []) (.seq (.reg false [.V 3 (.mv (.t 0)),.V 4 (.build [.nils 1,.int .i64 0,.int .u64 0] [(0,1,.t 3)]),.W 5 (.box 3 (.t 4)),.V 2 (.asg (.t 5))] [2] [5,6000]) .ret)) }
noncomputable def spec_l00From_D : List (Nat × Callee) := []
def spec_l00From_H : List (Nat × ET) := [(3,(.one (.int .u8)))]
noncomputable def spec_l00From_c : Callee := mkCallee spec_l00From_D spec_l00From_H spec_l00From_ir [.d (.one (.sl (.one (.int .u8))))] [.box T_l00Src] []
noncomputable def spec_l00From (a0 : List Int) : Option (T_l00Src.ty) := spec_l00From_c.f (a0,())
theorem spec_l00From_eq (a0 : List Int) : spec_l00From a0 =
 some (a0,0,0,()) :=
 (mk_f _ _ _ _ _ _ _ 4000).trans (by kernel_rfl)
def spec_l00Src_next_k0 : C :=
 .seq (.reg false [.V 25 (.mv (.t 0)),.V 26 (.nilck (.t 25)),.V 27 (.fa 1 (.t 26)),.V 28 (.ld none (.t 27)),.V 29 (.bin .add (.t 28) (.c (.int .i64 1))),.V 30 (.nilck (.t 25)),.V 31 (.fa 1 (.t 30)),⟨none,true,.sto 1 (.t 31) (.t 29),none,false,[]⟩] [0,3] [0,1000]) (.seq (.reg false [.V 32 (.mv (.t 0)),.V 33 (.mv (.t 0)),.V 34 (.nilck (.t 33)),.V 35 (.fa 2 (.t 34)),.V 36 (.ld none (.t 35)),.V 37 (.bin .mul (.t 36) (.c (.int .u64 6364136223846793005))),.V 38 (.mv (.t 3)),.V 39 (.conv (.int .u64) (.t 38)),.V 40 (.bin .add (.t 37) (.t 39)),.V 41 (.bin .add (.t 40) (.c (.int .u64 1442695040888963407))),.V 42 (.nilck (.t 32)),.V 43 (.fa 2 (.t 42)),⟨none,true,.sto 1 (.t 43) (.t 41),none,false,[]⟩] [0,3] [0,1000]) (.seq (.seq (.reg true [.V 44 (.mv (.t 0)),.V 45 (.nilck (.t 44)),.V 46 (.fa 1 (.t 45)),.V 47 (.ld none (.t 46)),.V 48 (.mv (.t 0)),.V 49 (.nilck (.t 48)),.V 50 (.fa 0 (.t 49)),.V 51 (.ld none (.t 50)),.V 52 (.len (.t 51)),.V 53 (.bin .leq (.t 47) (.t 52))] [0,3,53] [0,1000]) (.cond (.t 53) (.seq (.reg false [.V 54 (.mv (.t 3)),.V 2 (.asg (.t 54))] [0,2] [0,1000]) .ret) .skip)) (.seq (.reg false [.V 55 (.mv (.t 0)),.V 56 (.nilck (.t 55)),.V 57 (.fa 2 (.t 56)),.V 58 (.ld none (.t 57)),.V 59 (.bin .shr (.t 58) (.c (.int .u64 40))),.V 60 (.bin .and (.t 59) (.c (.int .u64 255))),.V 61 (.conv (.int .i64) (.t 60)),.V 2 (.asg (.t 61))] [0,2] [0,1000]) .ret)))
def spec_l00Src_next_ir : Fn := { np := 1,io := [true],res := [.t 2],own := [false],body :=
 (.seq (.reg false [.V 2 (.asg (.c (.int .i64 0)))] [0] [0,1000]) (.seq (.reg false [.V 3 (.asg (.c (.int .i64 0)))] [0,3] [0,1000]) (.seq (.seq (.reg true [.V 4 (.mv (.t 0)),.V 5 (.nilck (.t 4)),.V 6 (.fa 1 (.t 5)),.V 7 (.ld none (.t 6)),.V 8 (.mv (.t 0)),.V 9 (.nilck (.t 8)),.V 10 (.fa 0 (.t 9)),.V 11 (.ld none (.t 10)),.V 12 (.len (.t 11)),.V 13 (.bin .lss (.t 7) (.t 12))] [0,3,13] [0,1000]) (.cond (.t 13) (.reg true [.V 14 (.mv (.t 0)),.V 15 (.nilck (.t 14)),.V 16 (.fa 0 (.t 15)),.V 17 (.ld none (.t 16)),.V 18 (.mv (.t 0)),.V 19 (.nilck (.t 18)),.V 20 (.fa 1 (.t 19)),.V 21 (.ld none (.t 20)),.V 22 (.ia 1 (.t 17) (.t 21)),.V 23 (.ld none (.t 22)),.V 24 (.conv (.int .i64) (.t 23)),.V 3 (.asg (.t 24))] [0,3] [0,1000]) .skip)) (.norm [0,3] [0,1000] spec_l00Src_next_k0)))) }
noncomputable def spec_l00Src_next_D : List (Nat × Callee) := []
def spec_l00Src_next_H : List (Nat × ET) := [(11,(.one (.int .u8))),(17,(.one (.int .u8))),(51,(.one (.int .u8)))]
noncomputable def spec_l00Src_next_c : Callee := mkCallee spec_l00Src_next_D spec_l00Src_next_H spec_l00Src_next_ir [.box T_l00Src] [.d (.one (.int .i64))] [.box T_l00Src]
noncomputable def spec_l00Src_next (a0 : T_l00Src.ty) : Option (Int × T_l00Src.ty) := spec_l00Src_next_c.f (a0,())
noncomputable def spec_l00Src_next_p0  (v3 : Int) (r0_0 : List Int) (r0_1 : Int) (r0_2 : Int) : Option (Int × T_l00Src.ty) :=
 goL spec_l00Src_next_D spec_l00Src_next_H (vleave spec_l00Src_next_ir [.box T_l00Src] [.d (.one (.int .i64))] [.box T_l00Src] []) [.c spec_l00Src_next_k0]
  ⟨[(0,.loc 0 0 0),(3,.int .i64 v3)],[(0,some (.var 3 (.agg [.sl (.one (.int .u8)) r0_0,.int .i64 r0_1,.int .u64 r0_2]))),(1000,none)]⟩
theorem spec_l00Src_next_eq (a0 : T_l00Src.ty) : spec_l00Src_next a0 =
 if decide (a0.2.1 < (a0.1.length : Int)) then
  if decide (0 ≤ a0.2.1) then
   (a0.1[a0.2.1.toNat]?).bind fun x1 =>
    spec_l00Src_next_p0 (IntKind.i64.wrap x1) a0.1 a0.2.1 a0.2.2.1
  else
   none
 else
  spec_l00Src_next_p0 0 a0.1 a0.2.1 a0.2.2.1 :=
 (mk_f _ _ _ _ _ _ _ 4000).trans (by kernel_rfl)
theorem spec_l00Src_next_p0_eq  (v3 : Int) (r0_0 : List Int) (r0_1 : Int) (r0_2 : Int) : spec_l00Src_next_p0 v3 r0_0 r0_1 r0_2 =
 if decide (IntKind.i64.wrap (r0_1 + 1) ≤ (r0_0.length : Int)) then
  some (v3,(r0_0,IntKind.i64.wrap (r0_1 + 1),IntKind.u64.wrap ((IntKind.u64.wrap ((IntKind.u64.wrap (r0_2 * 6364136223846793005)) + (IntKind.u64.wrap v3))) + 1442695040888963407),()))
 else
  some (IntKind.i64.wrap (IntKind.u64.wrap ((BitVec.ofInt IntKind.u64.bits (Int.fdiv (IntKind.u64.wrap ((IntKind.u64.wrap ((IntKind.u64.wrap (r0_2 * 6364136223846793005)) + (IntKind.u64.wrap v3))) + 1442695040888963407)) (2 ^ (min (40 : Int).toNat IntKind.u64.bits))) &&& BitVec.ofInt IntKind.u64.bits 255).toNat : Int)),(r0_0,IntKind.i64.wrap (r0_1 + 1),IntKind.u64.wrap ((IntKind.u64.wrap ((IntKind.u64.wrap (r0_2 * 6364136223846793005)) + (IntKind.u64.wrap v3))) + 1442695040888963407),())) :=
 (goL_dn _ _ _ 4000 _ _).trans (by kernel_rfl)
def spec_l00Src_pick_ir : Fn := { np := 2,io := [true,false],res := [.t 4],own := [false],body :=
 (.seq (.reg false [.V 4 (.asg (.c (.int .i64 0)))] [0,1] [0,1000]) (.seq (.seq (.reg false [.V 6 (.mv (.t 1)),.V 7 (.bin .leq (.t 6) (.c (.int .i64 1)))] [0,1,7] [0,1000]) (.cond (.t 7) (.seq (.reg false [.V 4 (.asg (.c (.int .i64 0)))] [0,4] [0,1000]) .ret) .skip)) (.seq (.reg false [.V 8 (.mv (.t 0)),.W 9 (.call (.c (.fn 847 [])) [.t 8]),.V 5 (.asg (.t 9))] [0,1,5] [0,1000]) (.seq (.seq (.reg false [.V 10 (.mv (.t 1)),.V 11 (.bin .gtr (.t 10) (.c (.int .i64 200)))] [0,1,5,11] [0,1000]) (.cond (.t 11) (.reg false [.V 12 (.mv (.t 5)),.V 13 (.bin .mul (.t 12) (.c (.int .i64 256))),.V 14 (.mv (.t 0)),.W 15 (.call (.c (.fn 847 [])) [.t 14]),.V 16 (.bin .add (.t 13) (.t 15)),.V 5 (.asg (.t 16))] [0,1,5] [0,1000]) .skip)) (.seq (.reg false [.V 17 (.mv (.t 5)),.V 18 (.mv (.t 1)),.V 19 (.bin .rem (.t 17) (.t 18)),.V 4 (.asg (.t 19))] [0,4] [0,1000]) .ret))))) }
noncomputable def spec_l00Src_pick_D : List (Nat × Callee) := [(847,spec_l00Src_next_c)]
def spec_l00Src_pick_H : List (Nat × ET) := []
noncomputable def spec_l00Src_pick_c : Callee := mkCallee spec_l00Src_pick_D spec_l00Src_pick_H spec_l00Src_pick_ir [.box T_l00Src,.d (.one (.int .i64))] [.d (.one (.int .i64))] [.box T_l00Src]
noncomputable def spec_l00Src_pick (a0 : T_l00Src.ty) (a1 : Int) : Option (Int × T_l00Src.ty) := spec_l00Src_pick_c.f (a0,a1,())
theorem spec_l00Src_pick_eq (a0 : T_l00Src.ty) (a1 : Int) : spec_l00Src_pick a0 a1 =
 if decide (a1 ≤ 1) then
  some (0,a0)
 else
  (spec_l00Src_next a0).bind fun x1 =>
   if decide (a1 > 200) then
    (spec_l00Src_next (x1.2.1,x1.2.2.1,x1.2.2.2.1,())).bind fun x2 =>
     if decide (a1 = 0) then
      none
     else
      some ((IntKind.i64.wrap ((IntKind.i64.wrap (x1.1 * 256)) + x2.1)).tmod a1,(x2.2.1,x2.2.2.1,x2.2.2.2.1,()))
   else
    if decide (a1 = 0) then
     none
    else
     some (x1.1.tmod a1,(x1.2.1,x1.2.2.1,x1.2.2.2.1,())) :=
 (mk_f _ _ _ _ _ _ _ 4000).trans (by kernel_rfl)
def spec_l00Src_one_ir : Fn := { np := 2,io := [true,false],res := [.t 4],own := [false],body :=
 (.seq (.reg false [.V 4 (.asg (.c (.bool false)))] [0,1] [0,1000]) (.seq (.reg false [.V 5 (.mv (.t 0)),.V 6 (.mv (.t 1)),.W 7 (.call (.c (.fn 463 [])) [.t 5,.t 6]),.V 8 (.bin .eql (.t 7) (.c (.int .i64 0))),.V 4 (.asg (.t 8))] [0,4] [0,1000]) .ret)) }
noncomputable def spec_l00Src_one_D : List (Nat × Callee) := [(463,spec_l00Src_pick_c)]
def spec_l00Src_one_H : List (Nat × ET) := []
noncomputable def spec_l00Src_one_c : Callee := mkCallee spec_l00Src_one_D spec_l00Src_one_H spec_l00Src_one_ir [.box T_l00Src,.d (.one (.int .i64))] [.d (.one .bool)] [.box T_l00Src]
noncomputable def spec_l00Src_one (a0 : T_l00Src.ty) (a1 : Int) : Option (Bool × T_l00Src.ty) := spec_l00Src_one_c.f (a0,a1,())
theorem spec_l00Src_one_eq (a0 : T_l00Src.ty) (a1 : Int) : spec_l00Src_one a0 a1 =
 (spec_l00Src_pick a0 a1).bind fun x1 =>
  some ((x1.1 == 0),(x1.2.1,x1.2.2.1,x1.2.2.2.1,())) :=
 (mk_f _ _ _ _ _ _ _ 4000).trans (by kernel_rfl)
def spec_l14DrawOne_ir : Fn := { np := 2,io := [true,false],res := [.cell 4 (some 5)],own := [false],body :=
 (.seq (.reg false [.W 4 (.alloc 5 (.agg [.str [],.int .i64 0,.int .i64 0,.int .i64 0,.int .i64 0]))] [0,1,4] [0,4,1000]) (.seq (.reg false [.V 6 (.mv (.t 1)),.V 7 (.mv (.t 0)),.W 8 (.call (.c (.fn 463 [])) [.t 7,.c (.int .i64 30)]),.V 9 (.bin .mul (.c (.int .i64 10)) (.t 8)),.V 10 (.bin .add (.c (.int .i64 20)) (.t 9)),.V 11 (.build [.str [],.int .i64 0,.int .i64 0,.int .i64 0,.int .i64 0] [(0,1,.t 6),(1,1,.t 10)]),.W 5 (.alloc 5 (.agg [.str [],.int .i64 0,.int .i64 0,.int .i64 0,.int .i64 0])),⟨none,true,.sto 5 (.t 5) (.t 11),none,false,[]⟩] [0,4,5] [0,4,5,1000]) (.seq (.reg true [⟨some 12,false,.fa 1 (.t 5),none,false,[1000000]⟩,⟨some 13,false,.ld none (.t 12),none,true,[]⟩,.V 14 (.mv (.t 0)),⟨some 15,true,.call (.c (.fn 463 [])) [.t 14,.c (.int .i64 60)],none,false,[5,12]⟩,.V 16 (.bin .mul (.c (.int .i64 10)) (.t 15)),.V 17 (.bin .add (.t 13) (.t 16)),.V 18 (.fa 2 (.t 5)),⟨none,true,.sto 1 (.t 18) (.t 17),none,false,[]⟩] [0,4,5] [0,4,5,1000]) (.seq (.reg false [.V 19 (.mv (.t 0)),.W 20 (.call (.c (.fn 463 [])) [.t 19,.c (.int .i64 45)]),.V 21 (.bin .add (.c (.int .i64 40)) (.t 20)),.V 22 (.fa 3 (.t 5)),⟨none,true,.sto 1 (.t 22) (.t 21),none,false,[]⟩] [0,4,5] [0,4,5,1000]) (.seq (.reg false [.V 23 (.mv (.t 0)),.W 24 (.call (.c (.fn 463 [])) [.t 23,.c (.int .i64 3)]),.V 25 (.mv (.t 0)),.W 26 (.call (.c (.fn 463 [])) [.t 25,.c (.int .i64 30)]),.V 27 (.bin .mul (.t 24) (.t 26)),.V 28 (.fa 4 (.t 5)),⟨none,true,.sto 1 (.t 28) (.t 27),none,false,[]⟩] [0,4,5] [0,4,5,1000]) (.seq (.reg false [.V 29 (.ld (some 5) (.t 5)),⟨none,true,.sto 5 (.t 4) (.t 29),none,false,[]⟩] [0,4] [0,4,1000]) .ret)))))) }
noncomputable def spec_l14DrawOne_D : List (Nat × Callee) := [(463,spec_l00Src_pick_c)]
def spec_l14DrawOne_H : List (Nat × ET) := []
noncomputable def spec_l14DrawOne_c : Callee := mkCallee spec_l14DrawOne_D spec_l14DrawOne_H spec_l14DrawOne_ir [.box T_l00Src,.d (.one .str)] [.d T_Pot] [.box T_l00Src]
noncomputable def spec_l14DrawOne (a0 : T_l00Src.ty) (a1 : List UInt8) : Option (T_Pot.ty × T_l00Src.ty) := spec_l14DrawOne_c.f (a0,a1,())
theorem spec_l14DrawOne_eq (a0 : T_l00Src.ty) (a1 : List UInt8) : spec_l14DrawOne a0 a1 =
 (spec_l00Src_pick a0 30).bind fun x1 =>
  (spec_l00Src_pick (x1.2.1,x1.2.2.1,x1.2.2.2.1,()) 60).bind fun x2 =>
   (spec_l00Src_pick (x2.2.1,x2.2.2.1,x2.2.2.2.1,()) 45).bind fun x3 =>
    (spec_l00Src_pick (x3.2.1,x3.2.2.1,x3.2.2.2.1,()) 3).bind fun x4 =>
     (spec_l00Src_pick (x4.2.1,x4.2.2.1,x4.2.2.2.1,()) 30).bind fun x5 =>
      some ((a1,IntKind.i64.wrap (20 + (IntKind.i64.wrap (10 * x1.1))),IntKind.i64.wrap ((IntKind.i64.wrap (20 + (IntKind.i64.wrap (10 * x1.1)))) + (IntKind.i64.wrap (10 * x2.1))),IntKind.i64.wrap (40 + x3.1),IntKind.i64.wrap (x4.1 * x5.1),()),(x5.2.1,x5.2.2.1,x5.2.2.2.1,())) :=
 (mk_f _ _ _ _ _ _ _ 4000).trans (by kernel_rfl)
def spec_l00Src_among_ir : Fn := { np := 2,io := [true,false],res := [.t 4],own := [false],body :=
 (.seq (.reg false [.V 4 (.asg (.c (.int .i64 0)))] [0,1] [0,1000]) (.seq (.reg false [.V 5 (.mv (.t 1)),.V 6 (.mv (.t 0)),.V 7 (.mv (.t 1)),.V 8 (.len (.t 7)),.W 9 (.call (.c (.fn 463 [])) [.t 6,.t 8]),.V 10 (.ia 1 (.t 5) (.t 9)),.V 11 (.ld none (.t 10)),.V 4 (.asg (.t 11))] [0,4] [0,1000]) .ret)) }
noncomputable def spec_l00Src_among_D : List (Nat × Callee) := [(463,spec_l00Src_pick_c)]
def spec_l00Src_among_H : List (Nat × ET) := [(5,(.one (.int .i64))),(7,(.one (.int .i64)))]
noncomputable def spec_l00Src_among_c : Callee := mkCallee spec_l00Src_among_D spec_l00Src_among_H spec_l00Src_among_ir [.box T_l00Src,.d (.one (.sl (.one (.int .i64))))] [.d (.one (.int .i64))] [.box T_l00Src]
noncomputable def spec_l00Src_among (a0 : T_l00Src.ty) (a1 : List Int) : Option (Int × T_l00Src.ty) := spec_l00Src_among_c.f (a0,a1,())
theorem spec_l00Src_among_eq (a0 : T_l00Src.ty) (a1 : List Int) : spec_l00Src_among a0 a1 =
 (spec_l00Src_pick a0 (a1.length : Int)).bind fun x1 =>
  if decide (0 ≤ x1.1) then
   (a1[x1.1.toNat]?).bind fun x2 =>
    some (x2,(x1.2.1,x1.2.2.1,x1.2.2.2.1,()))
  else
   none :=
 (mk_f _ _ _ _ _ _ _ 4000).trans (by kernel_rfl)
def spec_l14Bent_ir : Fn := { np := 2,io := [true,false],res := [.cell 4 (some 5)],own := [false],body :=
 (.seq (.reg false [.W 3 (.box 5 (.t 1)),.W 4 (.alloc 5 (.agg [.str [],.int .i64 0,.int .i64 0,.int .i64 0,.int .i64 0]))] [0,3,4] [0,3,4,1000]) (.seq (.seq (.reg false [.V 5 (.mv (.t 0)),.W 6 (.call (.c (.fn 463 [])) [.t 5,.c (.int .i64 20)])] [0,3,4,6] [0,3,4,1000]) (.block 0 (.seq (.reg false [.V 8 (.bin .eql (.t 6) (.c (.int .i64 0))),.V 7 (.asg (.t 8))] [0,3,4,6,7] [0,3,4,1000]) (.cond (.t 7) (.reg false [.V 9 (.mv (.t 0)),.V 10 (.bsl 1 (.int .i64 0) 4 [(0,.c (.int .i64 0)),(1,.c (.int .i64 1)),(2,.c (.int .i64 10000)),(3,.c (.int .i64 10001))]),.W 11 (.call (.c (.fn 445 [])) [.t 9,.t 10]),.V 12 (.fa 1 (.t 3)),⟨none,true,.sto 1 (.t 12) (.t 11),none,false,[]⟩] [0,3,4] [0,3,4,1000]) (.seq (.reg false [.V 14 (.bin .eql (.t 6) (.c (.int .i64 1))),.V 13 (.asg (.t 14))] [0,3,4,6,13] [0,3,4,1000]) (.cond (.t 13) (.reg false [.V 15 (.mv (.t 0)),.V 16 (.bsl 1 (.int .i64 0) 4 [(0,.c (.int .i64 0)),(1,.c (.int .i64 1)),(2,.c (.int .i64 10000)),(3,.c (.int .i64 10001))]),.W 17 (.call (.c (.fn 445 [])) [.t 15,.t 16]),.V 18 (.fa 2 (.t 3)),⟨none,true,.sto 1 (.t 18) (.t 17),none,false,[]⟩] [0,3,4] [0,3,4,1000]) (.seq (.reg false [.V 20 (.bin .eql (.t 6) (.c (.int .i64 2))),.V 19 (.asg (.t 20))] [0,3,4,6,19] [0,3,4,1000]) (.cond (.t 19) (.reg false [.V 21 (.mv (.t 0)),.V 22 (.bsl 1 (.int .i64 0) 4 [(0,.c (.int .i64 19)),(1,.c (.int .i64 20)),(2,.c (.int .i64 95)),(3,.c (.int .i64 96))]),.W 23 (.call (.c (.fn 445 [])) [.t 21,.t 22]),.V 24 (.fa 3 (.t 3)),⟨none,true,.sto 1 (.t 24) (.t 23),none,false,[]⟩] [0,3,4] [0,3,4,1000]) (.seq (.reg false [.V 26 (.bin .eql (.t 6) (.c (.int .i64 3))),.V 25 (.asg (.t 26))] [0,3,4,25] [0,3,4,1000]) (.cond (.t 25) (.reg false [.V 27 (.mv (.t 0)),.V 28 (.bsl 1 (.int .i64 0) 4 [(0,.c (.int .i64 (-1))),(1,.c (.int .i64 0)),(2,.c (.int .i64 1000)),(3,.c (.int .i64 1001))]),.W 29 (.call (.c (.fn 445 [])) [.t 27,.t 28]),.V 30 (.fa 4 (.t 3)),⟨none,true,.sto 1 (.t 30) (.t 29),none,false,[]⟩] [0,3,4] [0,3,4,1000]) .skip)))))))))) (.seq (.reg false [.V 31 (.ld (some 5) (.t 3)),⟨none,true,.sto 5 (.t 4) (.t 31),none,false,[]⟩] [0,4] [0,4,1000]) .ret))) }
noncomputable def spec_l14Bent_D : List (Nat × Callee) := [(445,spec_l00Src_among_c),(463,spec_l00Src_pick_c)]
def spec_l14Bent_H : List (Nat × ET) := [(10,(.one (.int .i64))),(16,(.one (.int .i64))),(22,(.one (.int .i64))),(28,(.one (.int .i64)))]
noncomputable def spec_l14Bent_c : Callee := mkCallee spec_l14Bent_D spec_l14Bent_H spec_l14Bent_ir [.box T_l00Src,.d T_Pot] [.d T_Pot] [.box T_l00Src]
noncomputable def spec_l14Bent (a0 : T_l00Src.ty) (a1 : T_Pot.ty) : Option (T_Pot.ty × T_l00Src.ty) := spec_l14Bent_c.f (a0,a1,())
theorem spec_l14Bent_eq (a0 : T_l00Src.ty) (a1 : T_Pot.ty) : spec_l14Bent a0 a1 =
 (spec_l00Src_pick a0 20).bind fun x1 =>
  if (x1.1 == 0) then
   (spec_l00Src_among (x1.2.1,x1.2.2.1,x1.2.2.2.1,()) [0,1,10000,10001]).bind fun x2 =>
    some ((a1.1,x2.1,a1.2.2.1,a1.2.2.2.1,a1.2.2.2.2.1,()),(x2.2.1,x2.2.2.1,x2.2.2.2.1,()))
  else
   if (x1.1 == 1) then
    (spec_l00Src_among (x1.2.1,x1.2.2.1,x1.2.2.2.1,()) [0,1,10000,10001]).bind fun x3 =>
     some ((a1.1,a1.2.1,x3.1,a1.2.2.2.1,a1.2.2.2.2.1,()),(x3.2.1,x3.2.2.1,x3.2.2.2.1,()))
   else
    if (x1.1 == 2) then
     (spec_l00Src_among (x1.2.1,x1.2.2.1,x1.2.2.2.1,()) [19,20,95,96]).bind fun x4 =>
      some ((a1.1,a1.2.1,a1.2.2.1,x4.1,a1.2.2.2.2.1,()),(x4.2.1,x4.2.2.1,x4.2.2.2.1,()))
    else
     if (x1.1 == 3) then
      (spec_l00Src_among (x1.2.1,x1.2.2.1,x1.2.2.2.1,()) [(-1),0,1000,1001]).bind fun x5 =>
       some ((a1.1,a1.2.1,a1.2.2.1,a1.2.2.2.1,x5.1,()),(x5.2.1,x5.2.2.1,x5.2.2.2.1,()))
     else
      some (a1,(x1.2.1,x1.2.2.1,x1.2.2.2.1,())) :=
 (mk_f _ _ _ _ _ _ _ 4000).trans (by kernel_rfl)
def spec_l01Dec_k0 : C :=
 .reg false [.V 22 (.mv (.t 3)),.V 23 (.mv (.t 5)),.V 24 (.bin .add (.c (.int .i64 48)) (.t 23)),.V 25 (.conv (.int .u8) (.t 24)),.V 26 (.bsl 1 (.int .u8 0) 1 [(0,.t 25)]),.W 27 (.app 1 1 (.t 22) (.t 26)),.W 3 (.asg (.t 27))] [0,3,4] [3]
def spec_l01Dec_k1 : C :=
 .reg false [.V 14 (.mv (.t 4)),.V 15 (.bin .quo (.t 14) (.c (.int .i64 10))),.V 4 (.asg (.t 15))] [0,3,4] [3]
def spec_l01Dec_k2 : C :=
 .seq (.seq (.reg false [.V 12 (.mv (.t 4)),.V 13 (.bin .neq (.t 12) (.c (.int .i64 0)))] [0,3,4,13] [3]) (.cond (.t 13) .skip (.exit 0))) (.seq (.block 1 (.seq (.reg false [.V 16 (.mv (.t 4)),.V 17 (.bin .rem (.t 16) (.c (.int .i64 10))),.V 5 (.asg (.t 17))] [0,3,4,5] [3]) (.seq (.seq (.reg false [.V 18 (.mv (.t 5)),.V 19 (.bin .lss (.t 18) (.c (.int .i64 0)))] [0,3,4,5,19] [3]) (.cond (.t 19) (.reg false [.V 20 (.mv (.t 5)),.V 21 (.un .neg (.t 20)),.V 5 (.asg (.t 21))] [0,3,4,5] [3]) .skip)) (.norm [0,3,4,5] [3] spec_l01Dec_k0)))) spec_l01Dec_k1)
def spec_l01Dec_k3 : C :=
 .norm [0,3,4] [3] spec_l01Dec_k2
def spec_l01Dec_k4 : C :=
 .seq (.seq (.reg false [.V 37 (.mv (.t 7)),.V 38 (.bin .geq (.t 37) (.c (.int .i64 0)))] [3,6,7,38] [3,6]) (.cond (.t 38) .skip (.exit 2))) (.seq (.block 3 (.reg false [.V 41 (.mv (.t 6)),.V 42 (.mv (.t 3)),.V 43 (.mv (.t 7)),.V 44 (.ia 1 (.t 42) (.t 43)),.V 45 (.ld none (.t 44)),.V 46 (.bsl 1 (.int .u8 0) 1 [(0,.t 45)]),.W 47 (.app 1 1 (.t 41) (.t 46)),.W 6 (.asg (.t 47))] [3,6,7] [3,6])) (.reg false [.V 39 (.mv (.t 7)),.V 40 (.bin .sub (.t 39) (.c (.int .i64 1))),.V 7 (.asg (.t 40))] [3,6,7] [3,6]))
def spec_l01Dec_k5 : C :=
 .norm [3,6,7] [3,6] spec_l01Dec_k4
def spec_l01Dec_k6 : C :=
 .seq (.reg false [.V 48 (.mv (.t 6)),.V 49 (.conv .bytesStr (.t 48)),.V 2 (.asg (.t 49))] [2] []) .ret
def spec_l01Dec_k7 : C :=
 .seq (.reg false [.V 33 (.bsl 1 (.int .u8 0) 0 []),.W 6 (.asg (.t 33))] [3,6] [3,6]) (.seq (.seq (.reg false [.V 34 (.mv (.t 3)),.V 35 (.len (.t 34)),.V 36 (.bin .sub (.t 35) (.c (.int .i64 1))),.V 7 (.asg (.t 36))] [3,6,7] [3,6]) (.block 2 (.loop spec_l01Dec_k5))) spec_l01Dec_k6)
def spec_l01Dec_k8 : C :=
 .seq (.seq (.reg false [.V 28 (.mv (.t 0)),.V 29 (.bin .lss (.t 28) (.c (.int .i64 0)))] [3,29] [3]) (.cond (.t 29) (.reg false [.V 30 (.mv (.t 3)),.V 31 (.bsl 1 (.int .u8 0) 1 [(0,.c (.int .u8 45))]),.W 32 (.app 1 1 (.t 30) (.t 31)),.W 3 (.asg (.t 32))] [3] [3]) .skip)) (.norm [3] [3] spec_l01Dec_k7)
def spec_l01Dec_ir : Fn := { np := 1,io := [],res := [.t 2],own := [false],body :=
 (.seq (.reg false [.V 2 (.asg (.c (.str [])))] [0] []) (.seq (.seq (.reg false [.V 8 (.mv (.t 0)),.V 9 (.bin .eql (.t 8) (.c (.int .i64 0)))] [0,9] []) (.cond (.t 9) (.seq (.reg false [.V 2 (.asg (.c (.str [48])))] [2] []) .ret) .skip)) (.seq (.reg false [.V 10 (.bsl 1 (.int .u8 0) 0 []),.W 3 (.asg (.t 10))] [0,3] [3]) (.seq (.seq (.reg false [.V 11 (.mv (.t 0)),.V 4 (.asg (.t 11))] [0,3,4] [3]) (.block 0 (.loop spec_l01Dec_k3))) spec_l01Dec_k8)))) }
noncomputable def spec_l01Dec_D : List (Nat × Callee) := []
def spec_l01Dec_H : List (Nat × ET) := [(3,(.one (.int .u8))),(6,(.one (.int .u8))),(10,(.one (.int .u8))),(22,(.one (.int .u8))),(26,(.one (.int .u8))),(27,(.one (.int .u8))),(30,(.one (.int .u8))),(31,(.one (.int .u8))),(32,(.one (.int .u8))),(33,(.one (.int .u8))),(34,(.one (.int .u8))),(41,(.one (.int .u8))),(42,(.one (.int .u8))),(46,(.one (.int .u8))),(47,(.one (.int .u8))),(48,(.one (.int .u8)))]
noncomputable def spec_l01Dec_c : Callee := mkCallee spec_l01Dec_D spec_l01Dec_H spec_l01Dec_ir [.d (.one (.int .i64))] [.d (.one .str)] []
noncomputable def spec_l01Dec (a0 : Int) : Option (List UInt8) := spec_l01Dec_c.f (a0,())
noncomputable def spec_l01Dec_p0  (v0 : Int) (v4 : Int) (r3 : List Int) : Option (List UInt8) :=
 goL spec_l01Dec_D spec_l01Dec_H (vleave spec_l01Dec_ir [.d (.one (.int .i64))] [.d (.one .str)] [] []) [.c spec_l01Dec_k2,.l spec_l01Dec_k3,.e 0,.c spec_l01Dec_k8]
  ⟨[(0,.int .i64 v0),(3,.view 3 0 r3.length),(4,.int .i64 v4)],[(3,some (.sl (.one (.int .u8)) r3))]⟩
noncomputable def spec_l01Dec_p1  (v0 : Int) (v4 : Int) (v5 : Int) (r3 : List Int) : Option (List UInt8) :=
 goL spec_l01Dec_D spec_l01Dec_H (vleave spec_l01Dec_ir [.d (.one (.int .i64))] [.d (.one .str)] [] []) [.c spec_l01Dec_k0,.e 1,.c spec_l01Dec_k1,.l spec_l01Dec_k3,.e 0,.c spec_l01Dec_k8]
  ⟨[(0,.int .i64 v0),(3,.view 3 0 r3.length),(4,.int .i64 v4),(5,.int .i64 v5)],[(3,some (.sl (.one (.int .u8)) r3))]⟩
noncomputable def spec_l01Dec_p2  (r3 : List Int) : Option (List UInt8) :=
 goL spec_l01Dec_D spec_l01Dec_H (vleave spec_l01Dec_ir [.d (.one (.int .i64))] [.d (.one .str)] [] []) [.c spec_l01Dec_k7]
  ⟨[(3,.view 3 0 r3.length)],[(3,some (.sl (.one (.int .u8)) r3))]⟩
noncomputable def spec_l01Dec_p3  (v7 : Int) (r3 : List Int) (r6 : List Int) : Option (List UInt8) :=
 goL spec_l01Dec_D spec_l01Dec_H (vleave spec_l01Dec_ir [.d (.one (.int .i64))] [.d (.one .str)] [] []) [.c spec_l01Dec_k4,.l spec_l01Dec_k5,.e 2,.c spec_l01Dec_k6]
  ⟨[(3,.view 3 0 r3.length),(6,.view 6 0 r6.length),(7,.int .i64 v7)],[(3,some (.sl (.one (.int .u8)) r3)),(6,some (.sl (.one (.int .u8)) r6))]⟩
theorem spec_l01Dec_eq (a0 : Int) : spec_l01Dec a0 =
 if (a0 == 0) then
  some [48]
 else
  spec_l01Dec_p0 a0 a0 [] :=
 (mk_f _ _ _ _ _ _ _ 4000).trans (by kernel_rfl)
theorem spec_l01Dec_p0_eq  (v0 : Int) (v4 : Int) (r3 : List Int) : spec_l01Dec_p0 v0 v4 r3 =
 if (v4 != 0) then
  if decide (v4.tmod 10 < 0) then
   spec_l01Dec_p1 v0 v4 (IntKind.i64.wrap (0 - (v4.tmod 10))) r3
  else
   spec_l01Dec_p1 v0 v4 (v4.tmod 10) r3
 else
  if decide (v0 < 0) then
   if decide (r3.length + 1 < lim) then
    spec_l01Dec_p2 ((r3.take r3.length) ++ [45])
   else
    none
  else
   spec_l01Dec_p2 r3 :=
 (goL_dn _ _ _ 4000 _ _).trans (by kernel_rfl)
theorem spec_l01Dec_p1_eq  (v0 : Int) (v4 : Int) (v5 : Int) (r3 : List Int) : spec_l01Dec_p1 v0 v4 v5 r3 =
 if decide (r3.length + 1 < lim) then
  spec_l01Dec_p0 v0 (IntKind.i64.wrap (v4.tdiv 10)) ((r3.take r3.length) ++ [IntKind.u8.wrap (IntKind.i64.wrap (48 + v5))])
 else
  none :=
 (goL_dn _ _ _ 4000 _ _).trans (by kernel_rfl)
theorem spec_l01Dec_p2_eq  (r3 : List Int) : spec_l01Dec_p2 r3 =
 spec_l01Dec_p3 (IntKind.i64.wrap ((r3.length : Int) - 1)) r3 [] :=
 (goL_dn _ _ _ 4000 _ _).trans (by kernel_rfl)
theorem spec_l01Dec_p3_eq  (v7 : Int) (r3 : List Int) (r6 : List Int) : spec_l01Dec_p3 v7 r3 r6 =
 if decide (v7 ≥ 0) then
  if decide (0 ≤ v7) && decide (v7 < (r3.length : Int)) then
   (r3[v7.toNat]?).bind fun x1 =>
    if decide (r6.length + 1 < lim) then
     spec_l01Dec_p3 (IntKind.i64.wrap (v7 - 1)) r3 ((r6.take r6.length) ++ [x1])
    else
     none
  else
   none
 else
  some ((r6.take r6.length).map vu8) :=
 (goL_dn _ _ _ 4000 _ _).trans (by kernel_rfl)
def spec_l14Draw_k0 : C :=
 .seq (.seq (.reg false [.V 10 (.mv (.t 5)),.V 11 (.mv (.t 3)),.V 12 (.len (.t 11)),.V 13 (.bin .lss (.t 10) (.t 12))] [0,3,4,5,13] [0,3,4,1000]) (.cond (.t 13) .skip (.exit 0))) (.seq (.block 1 (.seq (.reg false [.V 16 (.mv (.t 0)),.W 17 (.call (.c (.fn 642 [])) [.t 16,.c (.int .i64 3)]),.V 18 (.un .not (.t 17))] [0,3,4,5,18] [0,3,4,1000]) (.cond (.t 18) (.reg false [.V 19 (.mv (.t 4)),.V 20 (.mv (.t 0)),.V 21 (.mv (.t 3)),.V 22 (.mv (.t 5)),.V 23 (.ia 1 (.t 21) (.t 22)),.V 24 (.ld none (.t 23)),.W 25 (.call (.c (.fn 558 [])) [.t 20,.t 24]),.V 26 (.bsl 5 (.agg [.str [],.int .i64 0,.int .i64 0,.int .i64 0,.int .i64 0]) 1 [(0,.t 25)]),.W 27 (.app 5 48 (.t 19) (.t 26)),.W 4 (.asg (.t 27))] [0,3,4,5] [0,3,4,1000]) .skip))) (.reg false [.V 14 (.mv (.t 5)),.V 15 (.bin .add (.t 14) (.c (.int .i64 1))),.V 5 (.asg (.t 15))] [0,3,4,5] [0,3,4,1000]))
def spec_l14Draw_k1 : C :=
 .norm [0,3,4,5] [0,3,4,1000] spec_l14Draw_k0
def spec_l14Draw_k2 : C :=
 .seq (.seq (.reg false [.V 45 (.mv (.t 7)),.V 46 (.mv (.t 6)),.V 47 (.bin .lss (.t 45) (.t 46))] [0,4,6,7,47] [0,4,1000]) (.cond (.t 47) .skip (.exit 3))) (.seq (.block 4 (.reg false [.V 50 (.mv (.t 4)),.V 51 (.mv (.t 0)),.V 52 (.mv (.t 7)),.V 53 (.call (.c (.fn 726 [])) [.t 52]),.V 54 (.bin .add (.c (.str [110])) (.t 53)),.W 55 (.call (.c (.fn 558 [])) [.t 51,.t 54]),.V 56 (.bsl 5 (.agg [.str [],.int .i64 0,.int .i64 0,.int .i64 0,.int .i64 0]) 1 [(0,.t 55)]),.W 57 (.app 5 48 (.t 50) (.t 56)),.W 4 (.asg (.t 57))] [0,4,6,7] [0,4,1000])) (.reg false [.V 48 (.mv (.t 7)),.V 49 (.bin .add (.t 48) (.c (.int .i64 1))),.V 7 (.asg (.t 49))] [0,4,6,7] [0,4,1000]))
def spec_l14Draw_k3 : C :=
 .norm [0,4,6,7] [0,4,1000] spec_l14Draw_k2
def spec_l14Draw_k4 : C :=
 .seq (.reg false [.V 58 (.mv (.t 4)),.W 2 (.asg (.t 58))] [0,2] [0,2,4,1000]) .ret
def spec_l14Draw_k5 : C :=
 .seq (.seq (.reg false [.V 28 (.mv (.t 0)),.W 29 (.call (.c (.fn 463 [])) [.t 28,.c (.int .i64 20)])] [0,4,29] [0,4,1000]) (.block 2 (.seq (.reg false [.V 31 (.bin .eql (.t 29) (.c (.int .i64 0))),.V 30 (.asg (.t 31))] [0,4,29,30] [0,4,1000]) (.cond (.t 30) (.reg false [.V 32 (.mv (.t 4)),.V 33 (.mv (.t 0)),.V 34 (.mv (.t 0)),.W 35 (.call (.c (.fn 558 [])) [.t 34,.c (.str [122,122])]),.W 36 (.call (.c (.fn 559 [])) [.t 33,.t 35]),.V 37 (.bsl 5 (.agg [.str [],.int .i64 0,.int .i64 0,.int .i64 0,.int .i64 0]) 1 [(0,.t 36)]),.W 38 (.app 5 48 (.t 32) (.t 37)),.W 4 (.asg (.t 38))] [0,4] [0,4,1000]) (.seq (.reg false [.V 40 (.bin .eql (.t 29) (.c (.int .i64 1))),.V 39 (.asg (.t 40))] [0,4,39] [0,4,1000]) (.cond (.t 39) (.seq (.reg false [.V 41 (.mv (.t 0)),.V 42 (.bsl 1 (.int .i64 0) 2 [(0,.c (.int .i64 8)),(1,.c (.int .i64 9))]),.W 43 (.call (.c (.fn 445 [])) [.t 41,.t 42]),.V 6 (.asg (.t 43))] [0,6] [0,1000]) (.seq (.reg false [.V 44 (.bsl 5 (.agg [.str [],.int .i64 0,.int .i64 0,.int .i64 0,.int .i64 0]) 0 []),.W 4 (.asg (.t 44))] [0,4,6] [0,4,1000]) (.seq (.reg false [.V 7 (.asg (.c (.int .i64 0)))] [0,4,6,7] [0,4,1000]) (.block 3 (.loop spec_l14Draw_k3))))) .skip)))))) spec_l14Draw_k4
def spec_l14Draw_ir : Fn := { np := 1,io := [true],res := [.t 2],own := [true],body :=
 (.seq (.reg false [.W 2 (.asg (.c (.nils 5)))] [0] [0,1000]) (.seq (.reg false [.V 8 (.bsl 1 (.str []) 4 [(0,.c (.str [98,111,110,101])),(1,.c (.str [102,105,115,104])),(2,.c (.str [104,105,100,101])),(3,.c (.str [114,97,98,98,105,116]))]),.W 3 (.asg (.t 8))] [0,3] [0,3,1000]) (.seq (.reg false [.V 9 (.bsl 5 (.agg [.str [],.int .i64 0,.int .i64 0,.int .i64 0,.int .i64 0]) 0 []),.W 4 (.asg (.t 9))] [0,3,4] [0,3,4,1000]) (.seq (.seq (.reg false [.V 5 (.asg (.c (.int .i64 0)))] [0,3,4,5] [0,3,4,1000]) (.block 0 (.loop spec_l14Draw_k1))) spec_l14Draw_k5)))) }
noncomputable def spec_l14Draw_D : List (Nat × Callee) := [(445,spec_l00Src_among_c),(463,spec_l00Src_pick_c),(558,spec_l14DrawOne_c),(559,spec_l14Bent_c),(642,spec_l00Src_one_c),(726,spec_l01Dec_c)]
def spec_l14Draw_H : List (Nat × ET) := [(2,T_Pot),(3,(.one .str)),(4,T_Pot),(8,(.one .str)),(9,T_Pot),(11,(.one .str)),(19,T_Pot),(21,(.one .str)),(26,T_Pot),(27,T_Pot),(32,T_Pot),(37,T_Pot),(38,T_Pot),(42,(.one (.int .i64))),(44,T_Pot),(50,T_Pot),(56,T_Pot),(57,T_Pot),(58,T_Pot)]
noncomputable def spec_l14Draw_c : Callee := mkCallee spec_l14Draw_D spec_l14Draw_H spec_l14Draw_ir [.box T_l00Src] [.tok T_Pot] [.box T_l00Src]
noncomputable def spec_l14Draw (a0 : T_l00Src.ty) : Option (List T_Pot.ty × T_l00Src.ty) := spec_l14Draw_c.f (a0,())
noncomputable def spec_l14Draw_p0  (v5 : Int) (r0_0 : List Int) (r0_1 : Int) (r0_2 : Int) (r3 : List (List UInt8)) (r4 : List T_Pot.ty) : Option (List T_Pot.ty × T_l00Src.ty) :=
 goL spec_l14Draw_D spec_l14Draw_H (vleave spec_l14Draw_ir [.box T_l00Src] [.tok T_Pot] [.box T_l00Src] []) [.c spec_l14Draw_k0,.l spec_l14Draw_k1,.e 0,.c spec_l14Draw_k5]
  ⟨[(0,.loc 0 0 0),(3,.view 3 0 r3.length),(4,.view 4 0 r4.length),(5,.int .i64 v5)],[(0,some (.var 3 (.agg [.sl (.one (.int .u8)) r0_0,.int .i64 r0_1,.int .u64 r0_2]))),(3,some (.sl (.one .str) r3)),(4,some (.sl T_Pot r4)),(1000,none)]⟩
noncomputable def spec_l14Draw_p1  (v6 : Int) (v7 : Int) (r0_0 : List Int) (r0_1 : Int) (r0_2 : Int) (r4 : List T_Pot.ty) : Option (List T_Pot.ty × T_l00Src.ty) :=
 goL spec_l14Draw_D spec_l14Draw_H (vleave spec_l14Draw_ir [.box T_l00Src] [.tok T_Pot] [.box T_l00Src] []) [.c spec_l14Draw_k2,.l spec_l14Draw_k3,.e 3,.e 2,.c spec_l14Draw_k4]
  ⟨[(0,.loc 0 0 0),(4,.view 4 0 r4.length),(6,.int .i64 v6),(7,.int .i64 v7)],[(0,some (.var 3 (.agg [.sl (.one (.int .u8)) r0_0,.int .i64 r0_1,.int .u64 r0_2]))),(4,some (.sl T_Pot r4)),(1000,none)]⟩
theorem spec_l14Draw_eq (a0 : T_l00Src.ty) : spec_l14Draw a0 =
 spec_l14Draw_p0 0 a0.1 a0.2.1 a0.2.2.1 [[98,111,110,101],[102,105,115,104],[104,105,100,101],[114,97,98,98,105,116]] [] :=
 (mk_f _ _ _ _ _ _ _ 4000).trans (by kernel_rfl)
theorem spec_l14Draw_p0_eq  (v5 : Int) (r0_0 : List Int) (r0_1 : Int) (r0_2 : Int) (r3 : List (List UInt8)) (r4 : List T_Pot.ty) : spec_l14Draw_p0 v5 r0_0 r0_1 r0_2 r3 r4 =
 if decide (v5 < (r3.length : Int)) then
  (spec_l00Src_one (r0_0,r0_1,r0_2,()) 3).bind fun x1 =>
   if (!x1.1) then
    if decide (0 ≤ v5) && decide (v5 < (r3.length : Int)) then
     (r3[v5.toNat]?).bind fun x2 =>
      (spec_l14DrawOne (x1.2.1,x1.2.2.1,x1.2.2.2.1,()) x2).bind fun x3 =>
       if decide (r4.length + 1 < lim) then
        spec_l14Draw_p0 (IntKind.i64.wrap (v5 + 1)) x3.2.1 x3.2.2.1 x3.2.2.2.1 r3 ((r4.take r4.length) ++ [(x3.1.1,x3.1.2.1,x3.1.2.2.1,x3.1.2.2.2.1,x3.1.2.2.2.2.1,())])
       else
        none
    else
     none
   else
    spec_l14Draw_p0 (IntKind.i64.wrap (v5 + 1)) x1.2.1 x1.2.2.1 x1.2.2.2.1 r3 r4
 else
  (spec_l00Src_pick (r0_0,r0_1,r0_2,()) 20).bind fun x4 =>
   if (x4.1 == 0) then
    (spec_l14DrawOne (x4.2.1,x4.2.2.1,x4.2.2.2.1,()) [122,122]).bind fun x5 =>
     (spec_l14Bent (x5.2.1,x5.2.2.1,x5.2.2.2.1,()) (x5.1.1,x5.1.2.1,x5.1.2.2.1,x5.1.2.2.2.1,x5.1.2.2.2.2.1,())).bind fun x6 =>
      if decide (r4.length + 1 < lim) then
       some ((((r4.take r4.length) ++ [(x6.1.1,x6.1.2.1,x6.1.2.2.1,x6.1.2.2.2.1,x6.1.2.2.2.2.1,())]).take (((r4.take r4.length) ++ [(x6.1.1,x6.1.2.1,x6.1.2.2.1,x6.1.2.2.2.1,x6.1.2.2.2.2.1,())]).length)),(x6.2.1,x6.2.2.1,x6.2.2.2.1,()))
      else
       none
   else
    if (x4.1 == 1) then
     (spec_l00Src_among (x4.2.1,x4.2.2.1,x4.2.2.2.1,()) [8,9]).bind fun x7 =>
      spec_l14Draw_p1 x7.1 0 x7.2.1 x7.2.2.1 x7.2.2.2.1 []
    else
     some ((r4.take r4.length),(x4.2.1,x4.2.2.1,x4.2.2.2.1,())) :=
 (goL_dn _ _ _ 4000 _ _).trans (by kernel_rfl)
theorem spec_l14Draw_p1_eq  (v6 : Int) (v7 : Int) (r0_0 : List Int) (r0_1 : Int) (r0_2 : Int) (r4 : List T_Pot.ty) : spec_l14Draw_p1 v6 v7 r0_0 r0_1 r0_2 r4 =
 if decide (v7 < v6) then
  (spec_l01Dec v7).bind fun x1 =>
   if decide ([110].length + x1.length ≤ strMax) then
    (spec_l14DrawOne (r0_0,r0_1,r0_2,()) ([110] ++ x1)).bind fun x2 =>
     if decide (r4.length + 1 < lim) then
      spec_l14Draw_p1 v6 (IntKind.i64.wrap (v7 + 1)) x2.2.1 x2.2.2.1 x2.2.2.2.1 ((r4.take r4.length) ++ [(x2.1.1,x2.1.2.1,x2.1.2.2.1,x2.1.2.2.2.1,x2.1.2.2.2.2.1,())])
     else
      none
   else
    none
 else
  some ((r4.take r4.length),(r0_0,r0_1,r0_2,())) :=
 (goL_dn _ _ _ 4000 _ _).trans (by kernel_rfl)
def spec_DrawPotReport_ir : Fn := { np := 1,io := [],res := [.t 2],own := [true],body :=
 (.seq (.reg false [.W 2 (.asg (.c (.nils 5)))] [0] []) (.seq (.reg false [.V 4 (.mv (.t 0)),.W 5 (.call (.c (.fn 441 [])) [.t 4]),.V 3 (.asg (.t 5))] [3] [5,6000]) (.seq (.reg false [.V 6 (.mv (.t 3)),.W 7 (.call (.c (.fn 553 [])) [.t 6]),.W 2 (.asg (.t 7))] [2] [2]) .ret))) }
noncomputable def spec_DrawPotReport_D : List (Nat × Callee) := [(441,spec_l00From_c),(553,spec_l14Draw_c)]
def spec_DrawPotReport_H : List (Nat × ET) := [(2,T_Pot),(4,(.one (.int .u8))),(7,T_Pot)]
noncomputable def spec_DrawPotReport_c : Callee := mkCallee spec_DrawPotReport_D spec_DrawPotReport_H spec_DrawPotReport_ir [.d (.one (.sl (.one (.int .u8))))] [.tok T_Pot] []
noncomputable def spec_DrawPotReport (a0 : List Int) : Option (List T_Pot.ty) := spec_DrawPotReport_c.f (a0,())
theorem spec_DrawPotReport_eq (a0 : List Int) : spec_DrawPotReport a0 =
 (spec_l00From a0).bind fun x1 =>
  (spec_l14Draw x1).bind fun x2 =>
   some (x2.1.take x2.1.length) :=
 (mk_f _ _ _ _ _ _ _ 4000).trans (by kernel_rfl)
def impl_isDigit_ir : Fn := { np := 1,io := [],res := [.t 2],own := [false],body :=
 (.seq (.reg false [.V 2 (.asg (.c (.bool false)))] [0] []) (.seq (.reg false [.V 3 (.mv (.t 0)),.V 4 (.bin .geq (.t 3) (.c (.int .u8 48))),.V 5 (.mv (.t 4)),.G 6 (.mv (.t 0)) 2 true,.G 7 (.bin .leq (.t 6) (.c (.int .u8 57))) 2 true,.V 8 (.pick (.t 5) (.t 7) (.c (.bool false))),.V 2 (.asg (.t 8))] [2] []) .ret)) }
noncomputable def impl_isDigit_D : List (Nat × Callee) := []
def impl_isDigit_H : List (Nat × ET) := []
noncomputable def impl_isDigit_c : Callee := mkCallee impl_isDigit_D impl_isDigit_H impl_isDigit_ir [.d (.one (.int .u8))] [.d (.one .bool)] []
noncomputable def impl_isDigit (a0 : Int) : Option (Bool) := impl_isDigit_c.f (a0,())
theorem impl_isDigit_eq (a0 : Int) : impl_isDigit a0 =
 if decide (a0 ≥ 48) then
  some (decide (a0 ≤ 57))
 else
  some false :=
 (mk_f _ _ _ _ _ _ _ 4000).trans (by kernel_rfl)
def impl_few_ir : Fn := { np := 2,io := [],res := [.t 4],own := [false],body :=
 (.seq (.reg false [.V 4 (.asg (.c (.bool false)))] [0,1] []) (.seq (.reg false [.V 5 (.mv (.t 0)),.V 6 (.mv (.t 1)),.V 7 (.bin .leq (.t 5) (.t 6)),.V 4 (.asg (.t 7))] [4] []) .ret)) }
noncomputable def impl_few_D : List (Nat × Callee) := []
def impl_few_H : List (Nat × ET) := []
noncomputable def impl_few_c : Callee := mkCallee impl_few_D impl_few_H impl_few_ir [.d (.one (.int .i64)),.d (.one (.int .i64))] [.d (.one .bool)] []
noncomputable def impl_few (a0 : Int) (a1 : Int) : Option (Bool) := impl_few_c.f (a0,a1,())
theorem impl_few_eq (a0 : Int) (a1 : Int) : impl_few a0 a1 =
 some (decide (a0 ≤ a1)) :=
 (mk_f _ _ _ _ _ _ _ 4000).trans (by kernel_rfl)
def impl_IsName_k0 : C :=
 .seq (.reg false [.V 21 (.mv (.t 4)),.V 22 (.un .not (.t 21)),.V 23 (.mv (.t 22)),.G 24 (.mv (.t 3)) 2 true,.G 25 (.bin .eql (.t 24) (.c (.int .i64 0))) 2 true,.G 26 (.mv (.t 25)) 2 true,.G 27 (.mv (.t 0)) 5 false,.G 28 (.mv (.t 3)) 5 false,.G 29 (.ix (.t 27) (.t 28)) 5 false,.G 30 (.call (.c (.fn 22 [])) [.t 29]) 5 false,.G 31 (.un .not (.t 30)) 5 false,.G 32 (.pick (.t 26) (.c (.bool true)) (.t 31)) 2 true,.V 33 (.pick (.t 23) (.t 32) (.c (.bool false)))] [0,3,33] []) (.cond (.t 33) (.seq (.reg false [.V 2 (.asg (.c (.bool false)))] [2] []) .ret) .skip)
def impl_IsName_k1 : C :=
 .reg false [.V 9 (.mv (.t 3)),.V 10 (.bin .add (.t 9) (.c (.int .i64 1))),.V 3 (.asg (.t 10))] [0,3] []
def impl_IsName_k2 : C :=
 .seq (.seq (.reg false [.V 5 (.mv (.t 3)),.V 6 (.mv (.t 0)),.V 7 (.lens (.t 6)),.V 8 (.bin .lss (.t 5) (.t 7))] [0,3,8] []) (.cond (.t 8) .skip (.exit 0))) (.seq (.block 1 (.seq (.reg false [.V 11 (.mv (.t 0)),.V 12 (.mv (.t 3)),.V 13 (.ix (.t 11) (.t 12)),.V 14 (.bin .geq (.t 13) (.c (.int .u8 97))),.V 15 (.mv (.t 14)),.G 16 (.mv (.t 0)) 4 true,.G 17 (.mv (.t 3)) 4 true,.G 18 (.ix (.t 16) (.t 17)) 4 true,.G 19 (.bin .leq (.t 18) (.c (.int .u8 122))) 4 true,.V 20 (.pick (.t 15) (.t 19) (.c (.bool false))),.V 4 (.asg (.t 20))] [0,3,4] []) (.norm [0,3,4] [] impl_IsName_k0))) impl_IsName_k1)
def impl_IsName_k3 : C :=
 .norm [0,3] [] impl_IsName_k2
def impl_IsName_k4 : C :=
 .seq (.reg false [.V 34 (.mv (.t 0)),.V 35 (.bin .neq (.t 34) (.c (.str []))),.V 36 (.mv (.t 35)),.G 37 (.mv (.t 0)) 2 true,.G 38 (.lens (.t 37)) 2 true,.G 39 (.call (.c (.fn 21 [])) [.t 38,.c (.int .i64 10)]) 2 true,.V 40 (.pick (.t 36) (.t 39) (.c (.bool false))),.V 2 (.asg (.t 40))] [2] []) .ret
def impl_IsName_ir : Fn := { np := 1,io := [],res := [.t 2],own := [false],body :=
 (.seq (.reg false [.V 2 (.asg (.c (.bool false)))] [0] []) (.seq (.seq (.reg false [.V 3 (.asg (.c (.int .i64 0)))] [0,3] []) (.block 0 (.loop impl_IsName_k3))) impl_IsName_k4)) }
noncomputable def impl_IsName_D : List (Nat × Callee) := [(21,impl_few_c),(22,impl_isDigit_c)]
def impl_IsName_H : List (Nat × ET) := []
noncomputable def impl_IsName_c : Callee := mkCallee impl_IsName_D impl_IsName_H impl_IsName_ir [.d (.one .str)] [.d (.one .bool)] []
noncomputable def impl_IsName (a0 : List UInt8) : Option (Bool) := impl_IsName_c.f (a0,())
noncomputable def impl_IsName_p0  (v0 : List UInt8) (v3 : Int) : Option (Bool) :=
 goL impl_IsName_D impl_IsName_H (vleave impl_IsName_ir [.d (.one .str)] [.d (.one .bool)] [] []) [.c impl_IsName_k2,.l impl_IsName_k3,.e 0,.c impl_IsName_k4]
  ⟨[(0,.str v0),(3,.int .i64 v3)],[]⟩
noncomputable def impl_IsName_p1  (v0 : List UInt8) (v3 : Int) (v4 : Bool) : Option (Bool) :=
 goL impl_IsName_D impl_IsName_H (vleave impl_IsName_ir [.d (.one .str)] [.d (.one .bool)] [] []) [.c impl_IsName_k0,.e 1,.c impl_IsName_k1,.l impl_IsName_k3,.e 0,.c impl_IsName_k4]
  ⟨[(0,.str v0),(3,.int .i64 v3),(4,.bool v4)],[]⟩
theorem impl_IsName_eq (a0 : List UInt8) : impl_IsName a0 =
 impl_IsName_p0 a0 0 :=
 (mk_f _ _ _ _ _ _ _ 4000).trans (by kernel_rfl)
theorem impl_IsName_p0_eq  (v0 : List UInt8) (v3 : Int) : impl_IsName_p0 v0 v3 =
 if decide (v3 < (v0.length : Int)) then
  if decide (0 ≤ v3) then
   (v0[v3.toNat]?).bind fun x1 =>
    if decide ((x1.toNat : Int) ≥ 97) then
     if decide (0 ≤ v3) then
      (v0[v3.toNat]?).bind fun x2 =>
       impl_IsName_p1 v0 v3 (decide ((x2.toNat : Int) ≤ 122))
     else
      none
    else
     impl_IsName_p1 v0 v3 false
  else
   none
 else
  if (!(v0 == [])) then
   (impl_few (v0.length : Int) 10).bind fun x3 =>
    some x3
  else
   some false :=
 (goL_dn _ _ _ 4000 _ _).trans (by kernel_rfl)
theorem impl_IsName_p1_eq  (v0 : List UInt8) (v3 : Int) (v4 : Bool) : impl_IsName_p1 v0 v3 v4 =
 if (!v4) then
  if (v3 == 0) then
   some false
  else
   if decide (0 ≤ v3) then
    (v0[v3.toNat]?).bind fun x1 =>
     (impl_isDigit (x1.toNat : Int)).bind fun x2 =>
      if (!x2) then
       some false
      else
       impl_IsName_p0 v0 (IntKind.i64.wrap (v3 + 1))
   else
    none
 else
  impl_IsName_p0 v0 (IntKind.i64.wrap (v3 + 1)) :=
 (goL_dn _ _ _ 4000 _ _).trans (by kernel_rfl)
def impl_within_ir : Fn := { np := 3,io := [],res := [.t 6],own := [false],body :=
 (.seq (.reg false [.V 6 (.asg (.c (.bool false)))] [0,1,2] []) (.seq (.reg false [.V 7 (.mv (.t 1)),.V 8 (.mv (.t 0)),.V 9 (.bin .leq (.t 7) (.t 8)),.V 10 (.mv (.t 9)),.G 11 (.mv (.t 0)) 3 true,.G 12 (.mv (.t 2)) 3 true,.G 13 (.bin .leq (.t 11) (.t 12)) 3 true,.V 14 (.pick (.t 10) (.t 13) (.c (.bool false))),.V 6 (.asg (.t 14))] [6] []) .ret)) }
noncomputable def impl_within_D : List (Nat × Callee) := []
def impl_within_H : List (Nat × ET) := []
noncomputable def impl_within_c : Callee := mkCallee impl_within_D impl_within_H impl_within_ir [.d (.one (.int .i64)),.d (.one (.int .i64)),.d (.one (.int .i64))] [.d (.one .bool)] []
noncomputable def impl_within (a0 : Int) (a1 : Int) (a2 : Int) : Option (Bool) := impl_within_c.f (a0,a1,a2,())
theorem impl_within_eq (a0 : Int) (a1 : Int) (a2 : Int) : impl_within a0 a1 a2 =
 if decide (a1 ≤ a0) then
  some (decide (a0 ≤ a2))
 else
  some false :=
 (mk_f _ _ _ _ _ _ _ 4000).trans (by kernel_rfl)
def impl_isGrams_ir : Fn := { np := 1,io := [],res := [.t 2],own := [false],body :=
 (.seq (.reg false [.V 2 (.asg (.c (.bool false)))] [0] []) (.seq (.reg false [.V 3 (.mv (.t 0)),.V 4 (.call (.c (.fn 23 [])) [.t 3,.c (.int .i64 1),.c (.int .i64 10000)]),.V 2 (.asg (.t 4))] [2] []) .ret)) }
noncomputable def impl_isGrams_D : List (Nat × Callee) := [(23,impl_within_c)]
def impl_isGrams_H : List (Nat × ET) := []
noncomputable def impl_isGrams_c : Callee := mkCallee impl_isGrams_D impl_isGrams_H impl_isGrams_ir [.d (.one (.int .i64))] [.d (.one .bool)] []
noncomputable def impl_isGrams (a0 : Int) : Option (Bool) := impl_isGrams_c.f (a0,())
theorem impl_isGrams_eq (a0 : Int) : impl_isGrams a0 =
 (impl_within a0 1 10000).bind fun x1 =>
  some x1 :=
 (mk_f _ _ _ _ _ _ _ 4000).trans (by kernel_rfl)
def impl_isHeat_ir : Fn := { np := 1,io := [],res := [.t 2],own := [false],body :=
 (.seq (.reg false [.V 2 (.asg (.c (.bool false)))] [0] []) (.seq (.reg false [.V 3 (.mv (.t 0)),.V 4 (.call (.c (.fn 23 [])) [.t 3,.c (.int .i64 20),.c (.int .i64 95)]),.V 2 (.asg (.t 4))] [2] []) .ret)) }
noncomputable def impl_isHeat_D : List (Nat × Callee) := [(23,impl_within_c)]
def impl_isHeat_H : List (Nat × ET) := []
noncomputable def impl_isHeat_c : Callee := mkCallee impl_isHeat_D impl_isHeat_H impl_isHeat_ir [.d (.one (.int .i64))] [.d (.one .bool)] []
noncomputable def impl_isHeat (a0 : Int) : Option (Bool) := impl_isHeat_c.f (a0,())
theorem impl_isHeat_eq (a0 : Int) : impl_isHeat a0 =
 (impl_within a0 20 95).bind fun x1 =>
  some x1 :=
 (mk_f _ _ _ _ _ _ _ 4000).trans (by kernel_rfl)
def impl_Pot_valid_ir : Fn := { np := 1,io := [],res := [.t 2],own := [false],body :=
 (.seq (.reg false [.W 1 (.box 5 (.t 0)),.V 2 (.asg (.c (.bool false)))] [1] [1]) (.seq (.reg false [.V 3 (.fa 0 (.t 1)),.V 4 (.ld none (.t 3)),.V 5 (.call (.c (.fn 24 [])) [.t 4]),.V 6 (.mv (.t 5)),.G 7 (.fa 1 (.t 1)) 3 true,.G 8 (.ld none (.t 7)) 3 true,.G 9 (.call (.c (.fn 25 [])) [.t 8]) 3 true,.V 10 (.pick (.t 6) (.t 9) (.c (.bool false))),.V 11 (.mv (.t 10)),.G 12 (.fa 2 (.t 1)) 8 true,.G 13 (.ld none (.t 12)) 8 true,.G 14 (.call (.c (.fn 25 [])) [.t 13]) 8 true,.V 15 (.pick (.t 11) (.t 14) (.c (.bool false))),.V 16 (.mv (.t 15)),.G 17 (.fa 3 (.t 1)) 13 true,.G 18 (.ld none (.t 17)) 13 true,.G 19 (.call (.c (.fn 26 [])) [.t 18]) 13 true,.V 20 (.pick (.t 16) (.t 19) (.c (.bool false))),.V 21 (.mv (.t 20)),.G 22 (.fa 4 (.t 1)) 18 true,.G 23 (.ld none (.t 22)) 18 true,.G 24 (.call (.c (.fn 23 [])) [.t 23,.c (.int .i64 0),.c (.int .i64 1000)]) 18 true,.V 25 (.pick (.t 21) (.t 24) (.c (.bool false))),.V 2 (.asg (.t 25))] [2] []) .ret)) }
noncomputable def impl_Pot_valid_D : List (Nat × Callee) := [(23,impl_within_c),(24,impl_IsName_c),(25,impl_isGrams_c),(26,impl_isHeat_c)]
def impl_Pot_valid_H : List (Nat × ET) := []
noncomputable def impl_Pot_valid_c : Callee := mkCallee impl_Pot_valid_D impl_Pot_valid_H impl_Pot_valid_ir [.d T_Pot] [.d (.one .bool)] []
noncomputable def impl_Pot_valid (a0 : T_Pot.ty) : Option (Bool) := impl_Pot_valid_c.f (a0,())
theorem impl_Pot_valid_eq (a0 : T_Pot.ty) : impl_Pot_valid a0 =
 (impl_IsName a0.1).bind fun x1 =>
  if x1 then
   (impl_isGrams a0.2.1).bind fun x2 =>
    if x2 then
     (impl_isGrams a0.2.2.1).bind fun x3 =>
      if x3 then
       (impl_isHeat a0.2.2.2.1).bind fun x4 =>
        if x4 then
         (impl_within a0.2.2.2.2.1 0 1000).bind fun x5 =>
          some x5
        else
         some false
      else
       some false
    else
     some false
  else
   some false :=
 (mk_f _ _ _ _ _ _ _ 4000).trans (by kernel_rfl)
def impl_ValidPots_k0 : C :=
 .seq (.reg false [.V 8 (.bin .lss (.t 7) (.t 6))] [0,5,6,7,8] []) (.seq (.cond (.t 8) .skip (.exit 0)) (.seq (.block 1 (.seq (.reg false [.V 9 (.mv (.t 7)),.V 10 (.ia 5 (.t 5) (.t 7)),.V 11 (.ld (some 5) (.t 10)),.W 4 (.alloc 5 (.agg [.str [],.int .i64 0,.int .i64 0,.int .i64 0,.int .i64 0])),.V 3 (.asg (.t 9)),⟨none,true,.sto 5 (.t 4) (.t 11),none,false,[]⟩] [0,3,4,5,6,7] [4]) (.seq (.reg true [.V 12 (.ld (some 5) (.t 4)),.V 13 (.call (.c (.fn 30 [])) [.t 12]),.V 14 (.un .not (.t 13)),.V 15 (.mv (.t 14)),.G 16 (.mv (.t 3)) 3 false,.G 17 (.bin .gtr (.t 16) (.c (.int .i64 0))) 3 false,.G 18 (.mv (.t 17)) 3 false,.G 19 (.mv (.t 0)) 6 true,.G 20 (.mv (.t 3)) 6 true,.G 21 (.bin .sub (.t 20) (.c (.int .i64 1))) 6 true,.G 22 (.ia 5 (.t 19) (.t 21)) 6 true,.G 23 (.fa 0 (.t 22)) 6 true,.G 24 (.ld none (.t 23)) 6 true,.G 25 (.fa 0 (.t 4)) 6 true,.G 26 (.ld none (.t 25)) 6 true,.G 27 (.bin .geq (.t 24) (.t 26)) 6 true,.G 28 (.pick (.t 18) (.t 27) (.c (.bool false))) 3 false,.V 29 (.pick (.t 15) (.c (.bool true)) (.t 28))] [0,5,6,7,29] []) (.cond (.t 29) (.seq (.reg false [.V 2 (.asg (.c (.bool false)))] [2] []) .ret) .skip)))) (.reg false [.V 30 (.bin .add (.t 7) (.c (.int .i64 1))),.V 7 (.mv (.t 30))] [0,5,6,7] [])))
def impl_ValidPots_k1 : C :=
 .norm [0,5,6,7] [] impl_ValidPots_k0
def impl_ValidPots_k2 : C :=
 .seq (.reg false [.V 31 (.mv (.t 0)),.V 32 (.len (.t 31)),.V 33 (.call (.c (.fn 21 [])) [.t 32,.c (.int .i64 8)]),.V 2 (.asg (.t 33))] [2] []) .ret
def impl_ValidPots_ir : Fn := { np := 1,io := [],res := [.t 2],own := [false],body :=
 (.seq (.reg false [.V 2 (.asg (.c (.bool false)))] [0] []) (.seq (.seq (.reg false [.V 5 (.mv (.t 0)),.V 6 (.len (.t 5)),.V 7 (.mv (.c (.int .i64 0)))] [0,5,6,7] []) (.block 0 (.loop impl_ValidPots_k1))) impl_ValidPots_k2)) }
noncomputable def impl_ValidPots_D : List (Nat × Callee) := [(21,impl_few_c),(30,impl_Pot_valid_c)]
def impl_ValidPots_H : List (Nat × ET) := [(5,T_Pot),(19,T_Pot),(31,T_Pot)]
noncomputable def impl_ValidPots_c : Callee := mkCallee impl_ValidPots_D impl_ValidPots_H impl_ValidPots_ir [.d (.one (.sl T_Pot))] [.d (.one .bool)] []
noncomputable def impl_ValidPots (a0 : List T_Pot.ty) : Option (Bool) := impl_ValidPots_c.f (a0,())
noncomputable def impl_ValidPots_p0  (v0 : List T_Pot.ty) (v5 : List T_Pot.ty) (v6 : Int) (v7 : Int) : Option (Bool) :=
 goL impl_ValidPots_D impl_ValidPots_H (vleave impl_ValidPots_ir [.d (.one (.sl T_Pot))] [.d (.one .bool)] [] []) [.c impl_ValidPots_k0,.l impl_ValidPots_k1,.e 0,.c impl_ValidPots_k2]
  ⟨[(0,.sl T_Pot v0),(5,.sl T_Pot v5),(6,.int .i64 v6),(7,.int .i64 v7)],[]⟩
theorem impl_ValidPots_eq (a0 : List T_Pot.ty) : impl_ValidPots a0 =
 impl_ValidPots_p0 a0 a0 (a0.length : Int) 0 :=
 (mk_f _ _ _ _ _ _ _ 4000).trans (by kernel_rfl)
theorem impl_ValidPots_p0_eq  (v0 : List T_Pot.ty) (v5 : List T_Pot.ty) (v6 : Int) (v7 : Int) : impl_ValidPots_p0 v0 v5 v6 v7 =
 if decide (v7 < v6) then
  if decide (0 ≤ v7) then
   (v5[v7.toNat]?).bind fun x1 =>
    (impl_Pot_valid x1).bind fun x2 =>
     if (!x2) then
      some false
     else
      if decide (v7 > 0) then
       if decide (0 ≤ IntKind.i64.wrap (v7 - 1)) then
        (v0[(IntKind.i64.wrap (v7 - 1)).toNat]?).bind fun x3 =>
         if (!Op.bytesLess x3.1 x1.1) then
          some false
         else
          impl_ValidPots_p0 v0 v5 v6 (IntKind.i64.wrap (v7 + 1))
       else
        none
      else
       impl_ValidPots_p0 v0 v5 v6 (IntKind.i64.wrap (v7 + 1))
  else
   none
 else
  (impl_few (v0.length : Int) 8).bind fun x4 =>
   some x4 :=
 (goL_dn _ _ _ 4000 _ _).trans (by kernel_rfl)
noncomputable def strconv_FormatInt_c : Callee := formatIntC
noncomputable def strconv_FormatInt (a0 : Int) (a1 : Int) : Option (List UInt8) := strconv_FormatInt_c.f (a0,a1,())
theorem strconv_FormatInt_eq (a0 : Int) (a1 : Int) : strconv_FormatInt a0 a1 = if decide (a1 = 10) && (decide (-9223372036854775808 ≤ a0) && decide (a0 ≤ 9223372036854775807)) then some (Lib.itoa a0) else none := rfl
def impl_Decimal_ir : Fn := { np := 1,io := [],res := [.t 2],own := [false],body :=
 (.seq (.reg false [.V 2 (.asg (.c (.str [])))] [0] []) (.seq (.reg false [.V 3 (.mv (.t 0)),.V 4 (.call (.c (.fn 864 [])) [.t 3,.c (.int .i64 10)]),.V 2 (.asg (.t 4))] [2] []) .ret)) }
noncomputable def impl_Decimal_D : List (Nat × Callee) := [(864,strconv_FormatInt_c)]
def impl_Decimal_H : List (Nat × ET) := []
noncomputable def impl_Decimal_c : Callee := mkCallee impl_Decimal_D impl_Decimal_H impl_Decimal_ir [.d (.one (.int .i64))] [.d (.one .str)] []
noncomputable def impl_Decimal (a0 : Int) : Option (List UInt8) := impl_Decimal_c.f (a0,())
theorem impl_Decimal_eq (a0 : Int) : impl_Decimal a0 =
 (strconv_FormatInt a0 10).bind fun x1 =>
  some x1 :=
 (mk_f _ _ _ _ _ _ _ 4000).trans (by kernel_rfl)
def impl_divRound_ir : Fn := { np := 2,io := [],res := [.t 4],own := [false],body :=
 (.seq (.reg false [.V 4 (.asg (.c (.int .i64 0)))] [0,1] []) (.seq (.reg false [.V 8 (.mv (.t 0)),.V 9 (.bin .lss (.t 8) (.c (.int .i64 0))),.V 10 (.mv (.t 1)),.V 11 (.bin .lss (.t 10) (.c (.int .i64 0))),.V 12 (.eqb true (.t 9) (.t 11)),.V 5 (.asg (.t 12))] [0,1,5] []) (.seq (.reg false [.V 13 (.mv (.t 0)),.V 14 (.mv (.t 0)),.V 15 (.un .neg (.t 14)),.V 16 (.max [.t 13,.t 15]),.V 17 (.mv (.t 1)),.V 18 (.mv (.t 1)),.V 19 (.un .neg (.t 18)),.V 20 (.max [.t 17,.t 19]),.V 0 (.asg (.t 16)),.V 1 (.asg (.t 20))] [0,1,5] []) (.seq (.reg false [.V 21 (.mv (.t 0)),.V 22 (.mv (.t 1)),.V 23 (.bin .quo (.t 21) (.t 22)),.V 6 (.asg (.t 23))] [0,1,5,6] []) (.seq (.seq (.reg false [.V 24 (.mv (.t 0)),.V 25 (.mv (.t 1)),.V 26 (.bin .rem (.t 24) (.t 25)),.V 7 (.asg (.t 26))] [1,5,6,7] []) (.seq (.reg false [.V 27 (.mv (.t 7)),.V 28 (.mv (.t 1)),.V 29 (.mv (.t 7)),.V 30 (.bin .sub (.t 28) (.t 29)),.V 31 (.bin .geq (.t 27) (.t 30))] [5,6,31] []) (.cond (.t 31) (.reg false [.V 32 (.mv (.t 6)),.V 33 (.bin .add (.t 32) (.c (.int .i64 1))),.V 6 (.asg (.t 33))] [5,6] []) .skip))) (.seq (.seq (.reg false [.V 34 (.mv (.t 5))] [6,34] []) (.cond (.t 34) (.seq (.reg false [.V 35 (.mv (.t 6)),.V 36 (.un .neg (.t 35)),.V 4 (.asg (.t 36))] [4] []) .ret) .skip)) (.seq (.reg false [.V 37 (.mv (.t 6)),.V 4 (.asg (.t 37))] [4] []) .ret))))))) }
noncomputable def impl_divRound_D : List (Nat × Callee) := []
def impl_divRound_H : List (Nat × ET) := []
noncomputable def impl_divRound_c : Callee := mkCallee impl_divRound_D impl_divRound_H impl_divRound_ir [.d (.one (.int .i64)),.d (.one (.int .i64))] [.d (.one (.int .i64))] []
noncomputable def impl_divRound (a0 : Int) (a1 : Int) : Option (Int) := impl_divRound_c.f (a0,a1,())
theorem impl_divRound_eq (a0 : Int) (a1 : Int) : impl_divRound a0 a1 =
 if decide ((if IntKind.i64.wrap (0 - a1) > a1 then IntKind.i64.wrap (0 - a1) else a1) = 0) then
  none
 else
  if decide ((if IntKind.i64.wrap (0 - a1) > a1 then IntKind.i64.wrap (0 - a1) else a1) = 0) then
   none
  else
   if decide ((if IntKind.i64.wrap (0 - a0) > a0 then IntKind.i64.wrap (0 - a0) else a0).tmod (if IntKind.i64.wrap (0 - a1) > a1 then IntKind.i64.wrap (0 - a1) else a1) ≥ IntKind.i64.wrap ((if IntKind.i64.wrap (0 - a1) > a1 then IntKind.i64.wrap (0 - a1) else a1) - ((if IntKind.i64.wrap (0 - a0) > a0 then IntKind.i64.wrap (0 - a0) else a0).tmod (if IntKind.i64.wrap (0 - a1) > a1 then IntKind.i64.wrap (0 - a1) else a1)))) then
    if (!(decide (a0 < 0) == decide (a1 < 0))) then
     some (IntKind.i64.wrap (0 - (IntKind.i64.wrap ((IntKind.i64.wrap ((if IntKind.i64.wrap (0 - a0) > a0 then IntKind.i64.wrap (0 - a0) else a0).tdiv (if IntKind.i64.wrap (0 - a1) > a1 then IntKind.i64.wrap (0 - a1) else a1))) + 1))))
    else
     some (IntKind.i64.wrap ((IntKind.i64.wrap ((if IntKind.i64.wrap (0 - a0) > a0 then IntKind.i64.wrap (0 - a0) else a0).tdiv (if IntKind.i64.wrap (0 - a1) > a1 then IntKind.i64.wrap (0 - a1) else a1))) + 1))
   else
    if (!(decide (a0 < 0) == decide (a1 < 0))) then
     some (IntKind.i64.wrap (0 - (IntKind.i64.wrap ((if IntKind.i64.wrap (0 - a0) > a0 then IntKind.i64.wrap (0 - a0) else a0).tdiv (if IntKind.i64.wrap (0 - a1) > a1 then IntKind.i64.wrap (0 - a1) else a1)))))
    else
     some (IntKind.i64.wrap ((if IntKind.i64.wrap (0 - a0) > a0 then IntKind.i64.wrap (0 - a0) else a0).tdiv (if IntKind.i64.wrap (0 - a1) > a1 then IntKind.i64.wrap (0 - a1) else a1))) :=
 (mk_f _ _ _ _ _ _ _ 4000).trans (by kernel_rfl)
def impl_Pot_strength_ir : Fn := { np := 1,io := [],res := [.t 2],own := [false],body :=
 (.seq (.reg false [.W 1 (.box 5 (.t 0)),.V 2 (.asg (.c (.int .i64 0)))] [1] [1]) (.seq (.reg true [.V 3 (.fa 1 (.t 1)),.V 4 (.ld none (.t 3)),.V 5 (.bin .mul (.c (.int .i64 1000)) (.t 4)),.V 6 (.fa 1 (.t 1)),.V 7 (.ld none (.t 6)),.V 8 (.fa 2 (.t 1)),.V 9 (.ld none (.t 8)),.V 10 (.bin .add (.t 7) (.t 9)),.V 11 (.call (.c (.fn 27 [])) [.t 5,.t 10]),.V 12 (.fa 4 (.t 1)),.V 13 (.ld none (.t 12)),.V 14 (.bin .mul (.c (.int .i64 2)) (.t 13)),.V 15 (.bin .sub (.t 11) (.t 14)),.V 16 (.fa 3 (.t 1)),.V 17 (.ld none (.t 16)),.V 18 (.bin .sub (.t 17) (.c (.int .i64 70))),.V 19 (.max [.c (.int .i64 0),.t 18]),.V 20 (.bin .mul (.c (.int .i64 10)) (.t 19)),.V 21 (.bin .sub (.t 15) (.t 20)),.V 22 (.max [.c (.int .i64 0),.t 21]),.V 2 (.asg (.t 22))] [2] []) .ret)) }
noncomputable def impl_Pot_strength_D : List (Nat × Callee) := [(27,impl_divRound_c)]
def impl_Pot_strength_H : List (Nat × ET) := []
noncomputable def impl_Pot_strength_c : Callee := mkCallee impl_Pot_strength_D impl_Pot_strength_H impl_Pot_strength_ir [.d T_Pot] [.d (.one (.int .i64))] []
noncomputable def impl_Pot_strength (a0 : T_Pot.ty) : Option (Int) := impl_Pot_strength_c.f (a0,())
theorem impl_Pot_strength_eq (a0 : T_Pot.ty) : impl_Pot_strength a0 =
 (impl_divRound (IntKind.i64.wrap (1000 * a0.2.1)) (IntKind.i64.wrap (a0.2.1 + a0.2.2.1))).bind fun x1 =>
  some (if IntKind.i64.wrap ((IntKind.i64.wrap (x1 - (IntKind.i64.wrap (2 * a0.2.2.2.2.1)))) - (IntKind.i64.wrap (10 * (if IntKind.i64.wrap (a0.2.2.2.1 - 70) > 0 then IntKind.i64.wrap (a0.2.2.2.1 - 70) else 0)))) > 0 then IntKind.i64.wrap ((IntKind.i64.wrap (x1 - (IntKind.i64.wrap (2 * a0.2.2.2.2.1)))) - (IntKind.i64.wrap (10 * (if IntKind.i64.wrap (a0.2.2.2.1 - 70) > 0 then IntKind.i64.wrap (a0.2.2.2.1 - 70) else 0)))) else 0) :=
 (mk_f _ _ _ _ _ _ _ 4000).trans (by kernel_rfl)
noncomputable def strings_Repeat_c : Callee := repeatC
noncomputable def strings_Repeat (a0 : List UInt8) (a1 : Int) : Option (List UInt8) := strings_Repeat_c.f (a0,a1,())
theorem strings_Repeat_eq (a0 : List UInt8) (a1 : Int) : strings_Repeat a0 a1 = if decide (0 ≤ a1) && (decide (a1 ≤ 9223372036854775807) && decide (a0.length * a1.toNat ≤ 140737488355328)) then some (Lib.repeatL a0 a1.toNat) else none := rfl
def impl_padded_ir : Fn := { np := 2,io := [],res := [.t 4],own := [false],body :=
 (.seq (.reg false [.V 4 (.asg (.c (.str [])))] [0,1] []) (.seq (.reg false [.V 6 (.mv (.t 0)),.V 7 (.call (.c (.fn 524 [])) [.t 6]),.V 5 (.asg (.t 7))] [1,5] []) (.seq (.reg false [.V 8 (.mv (.t 1)),.V 9 (.mv (.t 5)),.V 10 (.lens (.t 9)),.V 11 (.bin .sub (.t 8) (.t 10)),.V 12 (.max [.c (.int .i64 0),.t 11]),.V 13 (.call (.c (.fn 518 [])) [.c (.str [48]),.t 12]),.V 14 (.mv (.t 5)),.V 15 (.bin .add (.t 13) (.t 14)),.V 4 (.asg (.t 15))] [4] []) .ret))) }
noncomputable def impl_padded_D : List (Nat × Callee) := [(518,strings_Repeat_c),(524,impl_Decimal_c)]
def impl_padded_H : List (Nat × ET) := []
noncomputable def impl_padded_c : Callee := mkCallee impl_padded_D impl_padded_H impl_padded_ir [.d (.one (.int .i64)),.d (.one (.int .i64))] [.d (.one .str)] []
noncomputable def impl_padded (a0 : Int) (a1 : Int) : Option (List UInt8) := impl_padded_c.f (a0,a1,())
theorem impl_padded_eq (a0 : Int) (a1 : Int) : impl_padded a0 a1 =
 (impl_Decimal a0).bind fun x1 =>
  (strings_Repeat [48] (if IntKind.i64.wrap (a1 - (x1.length : Int)) > 0 then IntKind.i64.wrap (a1 - (x1.length : Int)) else 0)).bind fun x2 =>
   if decide (x2.length + x1.length ≤ strMax) then
    some (x2 ++ x1)
   else
    none :=
 (mk_f _ _ _ _ _ _ _ 4000).trans (by kernel_rfl)
def impl_FixedText_k0 : C :=
 .seq (.reg false [.V 16 (.mv (.t 0)),.V 17 (.mv (.t 0)),.V 18 (.un .neg (.t 17)),.V 19 (.max [.t 16,.t 18]),.V 20 (.mv (.t 1)),.V 21 (.bin .add (.t 20) (.c (.int .i64 1))),.V 22 (.call (.c (.fn 668 [])) [.t 19,.t 21]),.V 5 (.asg (.t 22))] [0,1,5] []) (.seq (.reg false [.V 23 (.mv (.t 5)),.V 24 (.lens (.t 23)),.V 25 (.mv (.t 1)),.V 26 (.bin .sub (.t 24) (.t 25)),.V 6 (.asg (.t 26))] [0,5,6] []) (.seq (.reg true [.V 27 (.mv (.t 5)),.V 28 (.mv (.t 6)),.V 29 (.slcs (.t 27) none (some (.t 28))),.V 30 (.bin .add (.t 29) (.c (.str [46]))),.V 31 (.mv (.t 5)),.V 32 (.mv (.t 6)),.V 33 (.slcs (.t 31) (some (.t 32)) none),.V 34 (.bin .add (.t 30) (.t 33)),.V 7 (.asg (.t 34))] [0,7] []) (.seq (.seq (.reg false [.V 35 (.mv (.t 0)),.V 36 (.bin .lss (.t 35) (.c (.int .i64 0)))] [7,36] []) (.cond (.t 36) (.reg false [.V 37 (.mv (.t 7)),.V 38 (.bin .add (.c (.str [45])) (.t 37)),.V 7 (.asg (.t 38))] [7] []) .skip)) (.seq (.reg false [.V 39 (.mv (.t 7)),.V 4 (.asg (.t 39))] [4] []) .ret))))
def impl_FixedText_ir : Fn := { np := 2,io := [],res := [.t 4],own := [false],body :=
 (.seq (.reg false [.V 4 (.asg (.c (.str [])))] [0,1] []) (.seq (.seq (.reg false [.V 8 (.mv (.t 0)),.V 9 (.call (.c (.fn 23 [])) [.t 8,.c (.int .i64 (-1000000000)),.c (.int .i64 1000000000)]),.V 10 (.un .not (.t 9)),.V 11 (.mv (.t 10)),.G 12 (.mv (.t 1)) 3 false,.G 13 (.call (.c (.fn 23 [])) [.t 12,.c (.int .i64 1),.c (.int .i64 6)]) 3 false,.G 14 (.un .not (.t 13)) 3 false,.V 15 (.pick (.t 11) (.c (.bool true)) (.t 14))] [0,1,15] []) (.cond (.t 15) (.seq (.reg false [.V 4 (.asg (.c (.str [])))] [4] []) .ret) .skip)) (.norm [0,1] [] impl_FixedText_k0))) }
noncomputable def impl_FixedText_D : List (Nat × Callee) := [(23,impl_within_c),(668,impl_padded_c)]
def impl_FixedText_H : List (Nat × ET) := []
noncomputable def impl_FixedText_c : Callee := mkCallee impl_FixedText_D impl_FixedText_H impl_FixedText_ir [.d (.one (.int .i64)),.d (.one (.int .i64))] [.d (.one .str)] []
noncomputable def impl_FixedText (a0 : Int) (a1 : Int) : Option (List UInt8) := impl_FixedText_c.f (a0,a1,())
noncomputable def impl_FixedText_p0  (v0 : Int) (v1 : Int) : Option (List UInt8) :=
 goL impl_FixedText_D impl_FixedText_H (vleave impl_FixedText_ir [.d (.one (.int .i64)),.d (.one (.int .i64))] [.d (.one .str)] [] []) [.c impl_FixedText_k0]
  ⟨[(0,.int .i64 v0),(1,.int .i64 v1)],[]⟩
theorem impl_FixedText_eq (a0 : Int) (a1 : Int) : impl_FixedText a0 a1 =
 (impl_within a0 (-1000000000) 1000000000).bind fun x1 =>
  if (!x1) then
   some []
  else
   (impl_within a1 1 6).bind fun x2 =>
    if (!x2) then
     some []
    else
     impl_FixedText_p0 a0 a1 :=
 (mk_f _ _ _ _ _ _ _ 4000).trans (by kernel_rfl)
theorem impl_FixedText_p0_eq  (v0 : Int) (v1 : Int) : impl_FixedText_p0 v0 v1 =
 (impl_padded (if IntKind.i64.wrap (0 - v0) > v0 then IntKind.i64.wrap (0 - v0) else v0) (IntKind.i64.wrap (v1 + 1))).bind fun x1 =>
  if decide (0 ≤ IntKind.i64.wrap ((x1.length : Int) - v1)) && decide (IntKind.i64.wrap ((x1.length : Int) - v1) ≤ (x1.length : Int)) then
   if decide ((x1.take ((IntKind.i64.wrap ((x1.length : Int) - v1)).toNat)).length + [46].length ≤ strMax) then
    if decide (0 ≤ IntKind.i64.wrap ((x1.length : Int) - v1)) && decide (IntKind.i64.wrap ((x1.length : Int) - v1) ≤ (x1.length : Int)) then
     if decide (((x1.take ((IntKind.i64.wrap ((x1.length : Int) - v1)).toNat)) ++ [46]).length + (x1.drop ((IntKind.i64.wrap ((x1.length : Int) - v1)).toNat)).length ≤ strMax) then
      if decide (v0 < 0) then
       if decide ([45].length + (((x1.take ((IntKind.i64.wrap ((x1.length : Int) - v1)).toNat)) ++ [46]) ++ (x1.drop ((IntKind.i64.wrap ((x1.length : Int) - v1)).toNat))).length ≤ strMax) then
        some ([45] ++ (((x1.take ((IntKind.i64.wrap ((x1.length : Int) - v1)).toNat)) ++ [46]) ++ (x1.drop ((IntKind.i64.wrap ((x1.length : Int) - v1)).toNat))))
       else
        none
      else
       some (((x1.take ((IntKind.i64.wrap ((x1.length : Int) - v1)).toNat)) ++ [46]) ++ (x1.drop ((IntKind.i64.wrap ((x1.length : Int) - v1)).toNat)))
     else
      none
    else
     none
   else
    none
  else
   none :=
 (goL_dn _ _ _ 4000 _ _).trans (by kernel_rfl)
def impl_areCells_k0 : C :=
 .seq (.seq (.reg false [.V 12 (.mv (.t 5)),.V 13 (.mv (.t 4)),.V 14 (.lens (.t 13)),.V 15 (.bin .lss (.t 12) (.t 14))] [0,4,5,6,7,8,15] []) (.cond (.t 15) .skip (.exit 2))) (.seq (.block 3 (.seq (.reg false [.V 18 (.mv (.t 4)),.V 19 (.mv (.t 5)),.V 20 (.ix (.t 18) (.t 19)),.V 21 (.conv (.int .i64) (.t 20)),.V 22 (.call (.c (.fn 23 [])) [.t 21,.c (.int .i64 33),.c (.int .i64 126)]),.V 23 (.un .not (.t 22))] [0,4,5,6,7,8,23] []) (.cond (.t 23) (.seq (.reg false [.V 2 (.asg (.c (.bool false)))] [2] []) .ret) .skip))) (.reg false [.V 16 (.mv (.t 5)),.V 17 (.bin .add (.t 16) (.c (.int .i64 1))),.V 5 (.asg (.t 17))] [0,4,5,6,7,8] []))
def impl_areCells_k1 : C :=
 .norm [0,4,5,6,7,8] [] impl_areCells_k0
def impl_areCells_k2 : C :=
 .reg false [.V 24 (.bin .add (.t 8) (.c (.int .i64 1))),.V 8 (.mv (.t 24))] [0,6,7,8] []
def impl_areCells_k3 : C :=
 .seq (.reg false [.V 9 (.bin .lss (.t 8) (.t 7))] [0,6,7,8,9] []) (.seq (.cond (.t 9) .skip (.exit 0)) (.seq (.block 1 (.seq (.reg false [.V 10 (.ia 1 (.t 6) (.t 8)),.V 11 (.ld none (.t 10)),.V 4 (.asg (.t 11))] [0,4,6,7,8] []) (.seq (.reg false [.V 5 (.asg (.c (.int .i64 0)))] [0,4,5,6,7,8] []) (.block 2 (.loop impl_areCells_k1))))) impl_areCells_k2))
def impl_areCells_k4 : C :=
 .norm [0,6,7,8] [] impl_areCells_k3
def impl_areCells_k5 : C :=
 .seq (.reg false [.V 25 (.mv (.t 0)),.V 26 (.len (.t 25)),.V 27 (.call (.c (.fn 21 [])) [.t 26,.c (.int .i64 12)]),.V 2 (.asg (.t 27))] [2] []) .ret
def impl_areCells_ir : Fn := { np := 1,io := [],res := [.t 2],own := [false],body :=
 (.seq (.reg false [.V 2 (.asg (.c (.bool false)))] [0] []) (.seq (.seq (.reg false [.V 6 (.mv (.t 0)),.V 7 (.len (.t 6)),.V 8 (.mv (.c (.int .i64 0)))] [0,6,7,8] []) (.block 0 (.loop impl_areCells_k4))) impl_areCells_k5)) }
noncomputable def impl_areCells_D : List (Nat × Callee) := [(21,impl_few_c),(23,impl_within_c)]
def impl_areCells_H : List (Nat × ET) := [(6,(.one .str)),(25,(.one .str))]
noncomputable def impl_areCells_c : Callee := mkCallee impl_areCells_D impl_areCells_H impl_areCells_ir [.d (.one (.sl (.one .str)))] [.d (.one .bool)] []
noncomputable def impl_areCells (a0 : List (List UInt8)) : Option (Bool) := impl_areCells_c.f (a0,())
noncomputable def impl_areCells_p0  (v0 : List (List UInt8)) (v6 : List (List UInt8)) (v7 : Int) (v8 : Int) : Option (Bool) :=
 goL impl_areCells_D impl_areCells_H (vleave impl_areCells_ir [.d (.one (.sl (.one .str)))] [.d (.one .bool)] [] []) [.c impl_areCells_k3,.l impl_areCells_k4,.e 0,.c impl_areCells_k5]
  ⟨[(0,.sl (.one .str) v0),(6,.sl (.one .str) v6),(7,.int .i64 v7),(8,.int .i64 v8)],[]⟩
noncomputable def impl_areCells_p1  (v0 : List (List UInt8)) (v4 : List UInt8) (v5 : Int) (v6 : List (List UInt8)) (v7 : Int) (v8 : Int) : Option (Bool) :=
 goL impl_areCells_D impl_areCells_H (vleave impl_areCells_ir [.d (.one (.sl (.one .str)))] [.d (.one .bool)] [] []) [.c impl_areCells_k0,.l impl_areCells_k1,.e 2,.e 1,.c impl_areCells_k2,.l impl_areCells_k4,.e 0,.c impl_areCells_k5]
  ⟨[(0,.sl (.one .str) v0),(4,.str v4),(5,.int .i64 v5),(6,.sl (.one .str) v6),(7,.int .i64 v7),(8,.int .i64 v8)],[]⟩
theorem impl_areCells_eq (a0 : List (List UInt8)) : impl_areCells a0 =
 impl_areCells_p0 a0 a0 (a0.length : Int) 0 :=
 (mk_f _ _ _ _ _ _ _ 4000).trans (by kernel_rfl)
theorem impl_areCells_p0_eq  (v0 : List (List UInt8)) (v6 : List (List UInt8)) (v7 : Int) (v8 : Int) : impl_areCells_p0 v0 v6 v7 v8 =
 if decide (v8 < v7) then
  if decide (0 ≤ v8) then
   (v6[v8.toNat]?).bind fun x1 =>
    impl_areCells_p1 v0 x1 0 v6 v7 v8
  else
   none
 else
  (impl_few (v0.length : Int) 12).bind fun x2 =>
   some x2 :=
 (goL_dn _ _ _ 4000 _ _).trans (by kernel_rfl)
theorem impl_areCells_p1_eq  (v0 : List (List UInt8)) (v4 : List UInt8) (v5 : Int) (v6 : List (List UInt8)) (v7 : Int) (v8 : Int) : impl_areCells_p1 v0 v4 v5 v6 v7 v8 =
 if decide (v5 < (v4.length : Int)) then
  if decide (0 ≤ v5) then
   (v4[v5.toNat]?).bind fun x1 =>
    (impl_within (IntKind.i64.wrap (x1.toNat : Int)) 33 126).bind fun x2 =>
     if (!x2) then
      some false
     else
      impl_areCells_p1 v0 v4 (IntKind.i64.wrap (v5 + 1)) v6 v7 v8
  else
   none
 else
  impl_areCells_p0 v0 v6 v7 (IntKind.i64.wrap (v8 + 1)) :=
 (goL_dn _ _ _ 4000 _ _).trans (by kernel_rfl)
noncomputable def strings_Join_c : Callee := joinC
noncomputable def strings_Join (a0 : List (List UInt8)) (a1 : List UInt8) : Option (List UInt8) := strings_Join_c.f (a0,a1,())
theorem strings_Join_eq (a0 : List (List UInt8)) (a1 : List UInt8) : strings_Join a0 a1 = if decide (a0.length ≤ 140737488355328) && decide ((Lib.join a0 a1).length ≤ 140737488355328) then some (Lib.join a0 a1) else none := rfl
def strings_trimRightByte_k0 : C :=
 .seq (.seq (.reg false [.V 5 (.mv (.t 0)),.V 6 (.lens (.t 5)),.V 7 (.bin .gtr (.t 6) (.c (.int .i64 0))),.V 8 (.mv (.t 7)),.G 9 (.mv (.t 0)) 3 true,.G 10 (.mv (.t 0)) 3 true,.G 11 (.lens (.t 10)) 3 true,.G 12 (.bin .sub (.t 11) (.c (.int .i64 1))) 3 true,.G 13 (.ix (.t 9) (.t 12)) 3 true,.G 14 (.mv (.t 1)) 3 true,.G 15 (.bin .eql (.t 13) (.t 14)) 3 true,.V 16 (.pick (.t 8) (.t 15) (.c (.bool false)))] [0,1,16] []) (.cond (.t 16) .skip (.exit 0))) (.block 1 (.reg false [.V 17 (.mv (.t 0)),.V 18 (.mv (.t 0)),.V 19 (.lens (.t 18)),.V 20 (.bin .sub (.t 19) (.c (.int .i64 1))),.V 21 (.slcs (.t 17) none (some (.t 20))),.V 0 (.asg (.t 21))] [0,1] []))
def strings_trimRightByte_k1 : C :=
 .norm [0,1] [] strings_trimRightByte_k0
def strings_trimRightByte_k2 : C :=
 .seq (.reg false [.V 22 (.mv (.t 0)),.V 4 (.asg (.t 22))] [4] []) .ret
def strings_trimRightByte_ir : Fn := { np := 2,io := [],res := [.t 4],own := [false],body :=
 (.seq (.reg false [.V 4 (.asg (.c (.str [])))] [0,1] []) (.seq (.block 0 (.loop strings_trimRightByte_k1)) strings_trimRightByte_k2)) }
noncomputable def strings_trimRightByte_D : List (Nat × Callee) := []
def strings_trimRightByte_H : List (Nat × ET) := []
noncomputable def strings_trimRightByte_c : Callee := mkCallee strings_trimRightByte_D strings_trimRightByte_H strings_trimRightByte_ir [.d (.one .str),.d (.one (.int .u8))] [.d (.one .str)] []
noncomputable def strings_trimRightByte (a0 : List UInt8) (a1 : Int) : Option (List UInt8) := strings_trimRightByte_c.f (a0,a1,())
noncomputable def strings_trimRightByte_p0  (v0 : List UInt8) (v1 : Int) : Option (List UInt8) :=
 goL strings_trimRightByte_D strings_trimRightByte_H (vleave strings_trimRightByte_ir [.d (.one .str),.d (.one (.int .u8))] [.d (.one .str)] [] []) [.c strings_trimRightByte_k0,.l strings_trimRightByte_k1,.e 0,.c strings_trimRightByte_k2]
  ⟨[(0,.str v0),(1,.int .u8 v1)],[]⟩
theorem strings_trimRightByte_eq (a0 : List UInt8) (a1 : Int) : strings_trimRightByte a0 a1 =
 strings_trimRightByte_p0 a0 a1 :=
 (mk_f _ _ _ _ _ _ _ 4000).trans (by kernel_rfl)
theorem strings_trimRightByte_p0_eq  (v0 : List UInt8) (v1 : Int) : strings_trimRightByte_p0 v0 v1 =
 if decide ((v0.length : Int) > 0) then
  if decide (0 ≤ IntKind.i64.wrap ((v0.length : Int) - 1)) then
   (v0[(IntKind.i64.wrap ((v0.length : Int) - 1)).toNat]?).bind fun x1 =>
    if ((x1.toNat : Int) == v1) then
     if decide (0 ≤ IntKind.i64.wrap ((v0.length : Int) - 1)) && decide (IntKind.i64.wrap ((v0.length : Int) - 1) ≤ (v0.length : Int)) then
      strings_trimRightByte_p0 (v0.take ((IntKind.i64.wrap ((v0.length : Int) - 1)).toNat)) v1
     else
      none
    else
     some v0
  else
   none
 else
  some v0 :=
 (goL_dn _ _ _ 4000 _ _).trans (by kernel_rfl)
def strings_TrimRight_k0 : C :=
 .seq (.reg false [.V 22 (.mv (.t 0)),.V 23 (.mv (.t 1)),.V 24 (.ix (.t 23) (.c (.int .i64 0))),.V 25 (.call (.c (.fn 911 [])) [.t 22,.t 24]),.V 4 (.asg (.t 25))] [4] []) .ret
def strings_TrimRight_k1 : C :=
 .seq (.seq (.reg false [.V 14 (.mv (.t 1)),.V 15 (.lens (.t 14)),.V 16 (.bin .eql (.t 15) (.c (.int .i64 1))),.V 17 (.mv (.t 16)),.G 18 (.mv (.t 1)) 3 true,.G 19 (.ix (.t 18) (.c (.int .i64 0))) 3 true,.G 20 (.bin .lss (.t 19) (.c (.int .u8 128))) 3 true,.V 21 (.pick (.t 17) (.t 20) (.c (.bool false)))] [0,1,21] []) (.cond (.t 21) (.norm [0,1] [] strings_TrimRight_k0) .skip)) .stop
def strings_TrimRight_ir : Fn := { np := 2,io := [],res := [.t 4],own := [false],body :=
 (.seq (.reg false [.V 4 (.asg (.c (.str [])))] [0,1] []) (.seq (.seq (.reg false [.V 7 (.mv (.t 0)),.V 8 (.bin .eql (.t 7) (.c (.str []))),.V 9 (.mv (.t 8)),.G 10 (.mv (.t 1)) 2 false,.G 11 (.bin .eql (.t 10) (.c (.str []))) 2 false,.V 12 (.pick (.t 9) (.c (.bool true)) (.t 11))] [0,1,12] []) (.cond (.t 12) (.seq (.reg false [.V 13 (.mv (.t 0)),.V 4 (.asg (.t 13))] [4] []) .ret) .skip)) (.norm [0,1] [] strings_TrimRight_k1))) }
noncomputable def strings_TrimRight_D : List (Nat × Callee) := [(911,strings_trimRightByte_c)]
def strings_TrimRight_H : List (Nat × ET) := []
noncomputable def strings_TrimRight_c : Callee := mkCallee strings_TrimRight_D strings_TrimRight_H strings_TrimRight_ir [.d (.one .str),.d (.one .str)] [.d (.one .str)] []
noncomputable def strings_TrimRight (a0 : List UInt8) (a1 : List UInt8) : Option (List UInt8) := strings_TrimRight_c.f (a0,a1,())
noncomputable def strings_TrimRight_p0  (v0 : List UInt8) (v1 : List UInt8) : Option (List UInt8) :=
 goL strings_TrimRight_D strings_TrimRight_H (vleave strings_TrimRight_ir [.d (.one .str),.d (.one .str)] [.d (.one .str)] [] []) [.c strings_TrimRight_k1]
  ⟨[(0,.str v0),(1,.str v1)],[]⟩
noncomputable def strings_TrimRight_p1  (v0 : List UInt8) (v1 : List UInt8) : Option (List UInt8) :=
 goL strings_TrimRight_D strings_TrimRight_H (vleave strings_TrimRight_ir [.d (.one .str),.d (.one .str)] [.d (.one .str)] [] []) [.c strings_TrimRight_k0,.c .stop]
  ⟨[(0,.str v0),(1,.str v1)],[]⟩
theorem strings_TrimRight_eq (a0 : List UInt8) (a1 : List UInt8) : strings_TrimRight a0 a1 =
 if (a0 == []) then
  some a0
 else
  if (a1 == []) then
   some a0
  else
   strings_TrimRight_p0 a0 a1 :=
 (mk_f _ _ _ _ _ _ _ 4000).trans (by kernel_rfl)
theorem strings_TrimRight_p0_eq  (v0 : List UInt8) (v1 : List UInt8) : strings_TrimRight_p0 v0 v1 =
 if ((v1.length : Int) == 1) then
  (v1[0]?).bind fun x1 =>
   if decide ((x1.toNat : Int) < 128) then
    strings_TrimRight_p1 v0 v1
   else
    none
 else
  none :=
 (goL_dn _ _ _ 4000 _ _).trans (by kernel_rfl)
theorem strings_TrimRight_p1_eq  (v0 : List UInt8) (v1 : List UInt8) : strings_TrimRight_p1 v0 v1 =
 (v1[0]?).bind fun x1 =>
  (strings_trimRightByte v0 (x1.toNat : Int)).bind fun x2 =>
   some x2 :=
 (goL_dn _ _ _ 4000 _ _).trans (by kernel_rfl)
def impl_isLine_k0 : C :=
 .seq (.seq (.reg false [.V 4 (.mv (.t 3)),.V 5 (.mv (.t 0)),.V 6 (.lens (.t 5)),.V 7 (.bin .lss (.t 4) (.t 6))] [0,3,7] []) (.cond (.t 7) .skip (.exit 0))) (.seq (.block 1 (.seq (.reg false [.V 10 (.mv (.t 0)),.V 11 (.mv (.t 3)),.V 12 (.ix (.t 10) (.t 11)),.V 13 (.conv (.int .i64) (.t 12)),.V 14 (.call (.c (.fn 23 [])) [.t 13,.c (.int .i64 32),.c (.int .i64 126)]),.V 15 (.un .not (.t 14))] [0,3,15] []) (.cond (.t 15) (.seq (.reg false [.V 2 (.asg (.c (.bool false)))] [2] []) .ret) .skip))) (.reg false [.V 8 (.mv (.t 3)),.V 9 (.bin .add (.t 8) (.c (.int .i64 1))),.V 3 (.asg (.t 9))] [0,3] []))
def impl_isLine_k1 : C :=
 .norm [0,3] [] impl_isLine_k0
def impl_isLine_k2 : C :=
 .seq (.reg false [.V 16 (.mv (.t 0)),.V 17 (.lens (.t 16)),.V 18 (.call (.c (.fn 21 [])) [.t 17,.c (.int .i64 100)]),.V 2 (.asg (.t 18))] [2] []) .ret
def impl_isLine_ir : Fn := { np := 1,io := [],res := [.t 2],own := [false],body :=
 (.seq (.reg false [.V 2 (.asg (.c (.bool false)))] [0] []) (.seq (.seq (.reg false [.V 3 (.asg (.c (.int .i64 0)))] [0,3] []) (.block 0 (.loop impl_isLine_k1))) impl_isLine_k2)) }
noncomputable def impl_isLine_D : List (Nat × Callee) := [(21,impl_few_c),(23,impl_within_c)]
def impl_isLine_H : List (Nat × ET) := []
noncomputable def impl_isLine_c : Callee := mkCallee impl_isLine_D impl_isLine_H impl_isLine_ir [.d (.one .str)] [.d (.one .bool)] []
noncomputable def impl_isLine (a0 : List UInt8) : Option (Bool) := impl_isLine_c.f (a0,())
noncomputable def impl_isLine_p0  (v0 : List UInt8) (v3 : Int) : Option (Bool) :=
 goL impl_isLine_D impl_isLine_H (vleave impl_isLine_ir [.d (.one .str)] [.d (.one .bool)] [] []) [.c impl_isLine_k0,.l impl_isLine_k1,.e 0,.c impl_isLine_k2]
  ⟨[(0,.str v0),(3,.int .i64 v3)],[]⟩
theorem impl_isLine_eq (a0 : List UInt8) : impl_isLine a0 =
 impl_isLine_p0 a0 0 :=
 (mk_f _ _ _ _ _ _ _ 4000).trans (by kernel_rfl)
theorem impl_isLine_p0_eq  (v0 : List UInt8) (v3 : Int) : impl_isLine_p0 v0 v3 =
 if decide (v3 < (v0.length : Int)) then
  if decide (0 ≤ v3) then
   (v0[v3.toNat]?).bind fun x1 =>
    (impl_within (IntKind.i64.wrap (x1.toNat : Int)) 32 126).bind fun x2 =>
     if (!x2) then
      some false
     else
      impl_isLine_p0 v0 (IntKind.i64.wrap (v3 + 1))
  else
   none
 else
  (impl_few (v0.length : Int) 100).bind fun x3 =>
   some x3 :=
 (goL_dn _ _ _ 4000 _ _).trans (by kernel_rfl)
def impl_ValidReport_1_ir : Fn := { np := 1,io := [],res := [.t 2],own := [false],body :=
 (.seq (.reg false [.V 2 (.asg (.c (.bool false)))] [0] []) (.seq (.reg false [.V 3 (.mv (.t 0)),.V 4 (.call (.c (.fn 1024 [])) [.t 3]),.V 5 (.un .not (.t 4)),.V 2 (.asg (.t 5))] [2] []) .ret)) }
noncomputable def impl_ValidReport_1_D : List (Nat × Callee) := [(1024,impl_isLine_c)]
def impl_ValidReport_1_H : List (Nat × ET) := []
noncomputable def impl_ValidReport_1_c : Callee := mkCallee impl_ValidReport_1_D impl_ValidReport_1_H impl_ValidReport_1_ir [.d (.one .str)] [.d (.one .bool)] []
noncomputable def impl_ValidReport_1 (a0 : List UInt8) : Option (Bool) := impl_ValidReport_1_c.f (a0,())
theorem impl_ValidReport_1_eq (a0 : List UInt8) : impl_ValidReport_1 a0 =
 (impl_isLine a0).bind fun x1 =>
  some (!x1) :=
 (mk_f _ _ _ _ _ _ _ 4000).trans (by kernel_rfl)
def slices_IndexFunc___string_string__impl_ValidReport_1_k0 : C :=
 .seq (.reg false [.V 9 (.bin .lss (.t 8) (.t 7))] [0,1,7,8,9] []) (.seq (.cond (.t 9) .skip (.exit 0)) (.seq (.block 1 (.seq (.reg false [.V 10 (.mv (.t 8)),.V 5 (.asg (.t 10))] [0,1,5,7,8] []) (.seq (.reg false [.V 11 (.mv (.t 1)),.V 12 (.mv (.t 0)),.V 13 (.mv (.t 5)),.V 14 (.ia 1 (.t 12) (.t 13)),.V 15 (.ld none (.t 14)),.V 16 (.call (.t 11) [.t 15])] [0,1,5,7,8,16] []) (.cond (.t 16) (.seq (.reg false [.V 17 (.mv (.t 5)),.V 4 (.asg (.t 17))] [4] []) .ret) .skip)))) (.reg false [.V 18 (.bin .add (.t 8) (.c (.int .i64 1))),.V 8 (.mv (.t 18))] [0,1,7,8] [])))
def slices_IndexFunc___string_string__impl_ValidReport_1_k1 : C :=
 .norm [0,1,7,8] [] slices_IndexFunc___string_string__impl_ValidReport_1_k0
def slices_IndexFunc___string_string__impl_ValidReport_1_k2 : C :=
 .seq (.reg false [.V 4 (.asg (.c (.int .i64 (-1))))] [4] []) .ret
def slices_IndexFunc___string_string__impl_ValidReport_1_ir : Fn := { np := 2,io := [],res := [.t 4],own := [false],body :=
 (.seq (.reg false [.V 4 (.asg (.c (.int .i64 0)))] [0,1] []) (.seq (.seq (.reg false [.V 6 (.mv (.t 0)),.V 7 (.len (.t 6)),.V 8 (.mv (.c (.int .i64 0)))] [0,1,7,8] []) (.block 0 (.loop slices_IndexFunc___string_string__impl_ValidReport_1_k1))) slices_IndexFunc___string_string__impl_ValidReport_1_k2)) }
noncomputable def slices_IndexFunc___string_string__impl_ValidReport_1_D : List (Nat × Callee) := [(872,impl_ValidReport_1_c)]
def slices_IndexFunc___string_string__impl_ValidReport_1_H : List (Nat × ET) := [(6,(.one .str)),(12,(.one .str))]
noncomputable def slices_IndexFunc___string_string__impl_ValidReport_1_c : Callee := mkCallee slices_IndexFunc___string_string__impl_ValidReport_1_D slices_IndexFunc___string_string__impl_ValidReport_1_H slices_IndexFunc___string_string__impl_ValidReport_1_ir [.d (.one (.sl (.one .str))),.fn 872 []] [.d (.one (.int .i64))] []
noncomputable def slices_IndexFunc___string_string__impl_ValidReport_1 (a0 : List (List UInt8)) (a1 : Unit) : Option (Int) := slices_IndexFunc___string_string__impl_ValidReport_1_c.f (a0,a1,())
noncomputable def slices_IndexFunc___string_string__impl_ValidReport_1_p0  (v0 : List (List UInt8)) (v7 : Int) (v8 : Int) : Option (Int) :=
 goL slices_IndexFunc___string_string__impl_ValidReport_1_D slices_IndexFunc___string_string__impl_ValidReport_1_H (vleave slices_IndexFunc___string_string__impl_ValidReport_1_ir [.d (.one (.sl (.one .str))),.fn 872 []] [.d (.one (.int .i64))] [] []) [.c slices_IndexFunc___string_string__impl_ValidReport_1_k0,.l slices_IndexFunc___string_string__impl_ValidReport_1_k1,.e 0,.c slices_IndexFunc___string_string__impl_ValidReport_1_k2]
  ⟨[(0,.sl (.one .str) v0),(1,.fn 872 []),(7,.int .i64 v7),(8,.int .i64 v8)],[]⟩
theorem slices_IndexFunc___string_string__impl_ValidReport_1_eq (a0 : List (List UInt8)) (a1 : Unit) : slices_IndexFunc___string_string__impl_ValidReport_1 a0 a1 =
 slices_IndexFunc___string_string__impl_ValidReport_1_p0 a0 (a0.length : Int) 0 :=
 (mk_f _ _ _ _ _ _ _ 4000).trans (by kernel_rfl)
theorem slices_IndexFunc___string_string__impl_ValidReport_1_p0_eq  (v0 : List (List UInt8)) (v7 : Int) (v8 : Int) : slices_IndexFunc___string_string__impl_ValidReport_1_p0 v0 v7 v8 =
 if decide (v8 < v7) then
  if decide (0 ≤ v8) then
   (v0[v8.toNat]?).bind fun x1 =>
    (impl_ValidReport_1 x1).bind fun x2 =>
     if x2 then
      some v8
     else
      slices_IndexFunc___string_string__impl_ValidReport_1_p0 v0 v7 (IntKind.i64.wrap (v8 + 1))
  else
   none
 else
  some (-1) :=
 (goL_dn _ _ _ 4000 _ _).trans (by kernel_rfl)
def slices_ContainsFunc___string_string__impl_ValidReport_1_ir : Fn := { np := 2,io := [],res := [.t 4],own := [false],body :=
 (.seq (.reg false [.V 4 (.asg (.c (.bool false)))] [0,1] []) (.seq (.reg false [.V 5 (.mv (.t 0)),.V 6 (.mv (.t 1)),.V 7 (.call (.c (.fn 1237 [])) [.t 5,.t 6]),.V 8 (.bin .geq (.t 7) (.c (.int .i64 0))),.V 4 (.asg (.t 8))] [4] []) .ret)) }
noncomputable def slices_ContainsFunc___string_string__impl_ValidReport_1_D : List (Nat × Callee) := [(872,impl_ValidReport_1_c),(1237,slices_IndexFunc___string_string__impl_ValidReport_1_c)]
def slices_ContainsFunc___string_string__impl_ValidReport_1_H : List (Nat × ET) := [(5,(.one .str))]
noncomputable def slices_ContainsFunc___string_string__impl_ValidReport_1_c : Callee := mkCallee slices_ContainsFunc___string_string__impl_ValidReport_1_D slices_ContainsFunc___string_string__impl_ValidReport_1_H slices_ContainsFunc___string_string__impl_ValidReport_1_ir [.d (.one (.sl (.one .str))),.fn 872 []] [.d (.one .bool)] []
noncomputable def slices_ContainsFunc___string_string__impl_ValidReport_1 (a0 : List (List UInt8)) (a1 : Unit) : Option (Bool) := slices_ContainsFunc___string_string__impl_ValidReport_1_c.f (a0,a1,())
theorem slices_ContainsFunc___string_string__impl_ValidReport_1_eq (a0 : List (List UInt8)) (a1 : Unit) : slices_ContainsFunc___string_string__impl_ValidReport_1 a0 a1 =
 (slices_IndexFunc___string_string__impl_ValidReport_1 a0 ()).bind fun x1 =>
  some (decide (x1 ≥ 0)) :=
 (mk_f _ _ _ _ _ _ _ 4000).trans (by kernel_rfl)
def impl_ValidReport_ir : Fn := { np := 1,io := [],res := [.t 2],own := [false],body :=
 (.seq (.reg false [.V 2 (.asg (.c (.bool false)))] [0] []) (.seq (.reg false [.V 3 (.mv (.t 0)),.V 4 (.len (.t 3)),.V 5 (.call (.c (.fn 21 [])) [.t 4,.c (.int .i64 200)]),.V 6 (.mv (.t 5)),.G 7 (.mv (.t 0)) 3 true,.G 8 (.call (.c (.fn 1238 [])) [.t 7,.c (.fn 872 [])]) 3 true,.G 9 (.un .not (.t 8)) 3 true,.V 10 (.pick (.t 6) (.t 9) (.c (.bool false))),.V 2 (.asg (.t 10))] [2] []) .ret)) }
noncomputable def impl_ValidReport_D : List (Nat × Callee) := [(21,impl_few_c),(872,impl_ValidReport_1_c),(1238,slices_ContainsFunc___string_string__impl_ValidReport_1_c)]
def impl_ValidReport_H : List (Nat × ET) := [(3,(.one .str)),(7,(.one .str))]
noncomputable def impl_ValidReport_c : Callee := mkCallee impl_ValidReport_D impl_ValidReport_H impl_ValidReport_ir [.d (.one (.sl (.one .str)))] [.d (.one .bool)] []
noncomputable def impl_ValidReport (a0 : List (List UInt8)) : Option (Bool) := impl_ValidReport_c.f (a0,())
theorem impl_ValidReport_eq (a0 : List (List UInt8)) : impl_ValidReport a0 =
 (impl_few (a0.length : Int) 200).bind fun x1 =>
  if x1 then
   (slices_ContainsFunc___string_string__impl_ValidReport_1 a0 ()).bind fun x2 =>
    some (!x2)
  else
   some false :=
 (mk_f _ _ _ _ _ _ _ 4000).trans (by kernel_rfl)
def impl_report_ir : Fn := { np := 1,io := [true],res := [.t 2,.t 3],own := [true,false],body :=
 (.seq (.reg false [.W 2 (.asg (.c (.nils 1))),.V 3 (.asg (.c (.int .i64 0)))] [0] [0]) (.seq (.seq (.reg false [.V 4 (.mv (.t 0)),.V 5 (.call (.c (.fn 566 [])) [.t 4]),.V 6 (.un .not (.t 5))] [0,6] [0]) (.cond (.t 6) (.seq (.reg false [.W 2 (.asg (.c (.nils 1))),.V 3 (.asg (.c (.int .i64 5)))] [0,2,3] [0,2]) .ret) .skip)) (.seq (.reg false [.V 7 (.mv (.t 0)),.W 2 (.asg (.t 7)),.V 3 (.asg (.c (.int .i64 0)))] [0,2,3] [0,2]) .ret))),gone := [0] }
noncomputable def impl_report_D : List (Nat × Callee) := [(566,impl_ValidReport_c)]
def impl_report_H : List (Nat × ET) := [(2,(.one .str)),(4,(.one .str)),(7,(.one .str))]
noncomputable def impl_report_c : Callee := mkCallee impl_report_D impl_report_H impl_report_ir [.ios (.one .str)] [.tok (.one .str),.d (.one (.int .i64))] [.gone]
noncomputable def impl_report (a0 : List (List UInt8)) : Option (List (List UInt8) × Int × Unit) := impl_report_c.f (a0,())
theorem impl_report_eq (a0 : List (List UInt8)) : impl_report a0 =
 (impl_ValidReport (a0.take a0.length)).bind fun x1 =>
  if (!x1) then
   some ([],5,())
  else
   some ((a0.take a0.length),0,()) :=
 (mk_f _ _ _ _ _ _ _ 4000).trans (by kernel_rfl)
def impl_TableLines_k0 : C :=
 .seq (.reg false [.V 27 (.bin .lss (.t 26) (.t 25))] [0,4,15,16,17,24,25,26,27] [4,6]) (.seq (.cond (.t 27) .skip (.exit 2)) (.seq (.block 3 (.seq (.reg false [.V 28 (.mv (.t 26)),.V 29 (.ia 1 (.t 24) (.t 26)),.V 30 (.ld none (.t 29)),.V 7 (.asg (.t 28)),.V 8 (.asg (.t 30))] [0,4,7,8,15,16,17,24,25,26] [4,6]) (.reg false [.V 31 (.mv (.t 7)),.V 32 (.mv (.t 7)),.V 33 (.iaa 12 1 (.t 4) (.t 32)),.V 34 (.ld none (.t 33)),.V 35 (.mv (.t 8)),.V 36 (.lens (.t 35)),.V 37 (.max [.t 34,.t 36]),.V 38 (.iaa 12 1 (.t 4) (.t 31)),⟨none,true,.sto 1 (.t 38) (.t 37),none,false,[]⟩] [0,4,15,16,17,24,25,26] [4,6]))) (.reg false [.V 39 (.bin .add (.t 26) (.c (.int .i64 1))),.V 26 (.mv (.t 39))] [0,4,15,16,17,24,25,26] [4,6])))
def impl_TableLines_k1 : C :=
 .norm [0,4,15,16,17,24,25,26] [4,6] impl_TableLines_k0
def impl_TableLines_k2 : C :=
 .reg false [.V 40 (.bin .add (.t 17) (.c (.int .i64 1))),.V 17 (.mv (.t 40))] [0,4,15,16,17] [4]
def impl_TableLines_k3 : C :=
 .seq (.reg false [.V 18 (.bin .lss (.t 17) (.t 16))] [0,4,15,16,17,18] [4]) (.seq (.cond (.t 18) .skip (.exit 0)) (.seq (.block 1 (.seq (.reg false [.V 19 (.ia 1 (.t 15) (.t 17)),.V 20 (.ld none (.t 19)),.W 6 (.asg (.t 20))] [0,4,6,15,16,17] [4,6]) (.seq (.seq (.reg false [.V 21 (.mv (.t 6)),.V 22 (.call (.c (.fn 632 [])) [.t 21]),.V 23 (.un .not (.t 22))] [0,4,6,15,16,17,23] [4,6]) (.cond (.t 23) (.seq (.reg false [.W 2 (.asg (.c (.nils 1))),.V 3 (.asg (.c (.int .i64 2)))] [2,3] [2]) .ret) .skip)) (.seq (.reg false [.V 24 (.mv (.t 6)),.V 25 (.len (.t 24)),.V 26 (.mv (.c (.int .i64 0)))] [0,4,15,16,17,24,25,26] [4,6]) (.block 2 (.loop impl_TableLines_k1)))))) impl_TableLines_k2))
def impl_TableLines_k4 : C :=
 .norm [0,4,15,16,17] [4] impl_TableLines_k3
def impl_TableLines_k5 : C :=
 .seq (.reg false [.V 52 (.bin .lss (.t 51) (.t 50))] [4,9,12,42,43,44,49,50,51,52] [4,9,11,12]) (.seq (.cond (.t 52) .skip (.exit 6)) (.seq (.block 7 (.seq (.reg false [.V 53 (.mv (.t 51)),.V 54 (.ia 1 (.t 49) (.t 51)),.V 55 (.ld none (.t 54)),.V 13 (.asg (.t 53)),.V 14 (.asg (.t 55))] [4,9,12,13,14,42,43,44,49,50,51] [4,9,11,12]) (.reg false [.V 56 (.mv (.t 12)),.V 57 (.mv (.t 14)),.V 58 (.mv (.t 13)),.V 59 (.iaa 12 1 (.t 4) (.t 58)),.V 60 (.ld none (.t 59)),.V 61 (.mv (.t 14)),.V 62 (.lens (.t 61)),.V 63 (.bin .sub (.t 60) (.t 62)),.V 64 (.call (.c (.fn 518 [])) [.c (.str [32]),.t 63]),.V 65 (.bin .add (.t 57) (.t 64)),.V 66 (.bsl 1 (.str []) 1 [(0,.t 65)]),.W 67 (.app 1 16 (.t 56) (.t 66)),.W 12 (.asg (.t 67))] [4,9,12,42,43,44,49,50,51] [4,9,11,12]))) (.reg false [.V 68 (.bin .add (.t 51) (.c (.int .i64 1))),.V 51 (.mv (.t 68))] [4,9,12,42,43,44,49,50,51] [4,9,11,12])))
def impl_TableLines_k6 : C :=
 .norm [4,9,12,42,43,44,49,50,51] [4,9,11,12] impl_TableLines_k5
def impl_TableLines_k7 : C :=
 .reg false [.V 69 (.mv (.t 9)),.V 70 (.mv (.t 12)),.V 71 (.call (.c (.fn 630 [])) [.t 70,.c (.str [32,32])]),.V 72 (.call (.c (.fn 631 [])) [.t 71,.c (.str [32])]),.V 73 (.bsl 1 (.str []) 1 [(0,.t 72)]),.W 74 (.app 1 16 (.t 69) (.t 73)),.W 9 (.asg (.t 74))] [4,9,42,43,44] [4,9]
def impl_TableLines_k8 : C :=
 .reg false [.V 75 (.bin .add (.t 44) (.c (.int .i64 1))),.V 44 (.mv (.t 75))] [4,9,42,43,44] [4,9]
def impl_TableLines_k9 : C :=
 .seq (.reg false [.V 45 (.bin .lss (.t 44) (.t 43))] [4,9,42,43,44,45] [4,9]) (.seq (.cond (.t 45) .skip (.exit 4)) (.seq (.block 5 (.seq (.reg false [.V 46 (.ia 1 (.t 42) (.t 44)),.V 47 (.ld none (.t 46)),.W 11 (.asg (.t 47))] [4,9,11,42,43,44] [4,9,11]) (.seq (.reg false [.V 48 (.bsl 1 (.str []) 0 []),.W 12 (.asg (.t 48))] [4,9,11,12,42,43,44] [4,9,11,12]) (.seq (.seq (.reg false [.V 49 (.mv (.t 11)),.V 50 (.len (.t 49)),.V 51 (.mv (.c (.int .i64 0)))] [4,9,12,42,43,44,49,50,51] [4,9,11,12]) (.block 6 (.loop impl_TableLines_k6))) impl_TableLines_k7)))) impl_TableLines_k8))
def impl_TableLines_k10 : C :=
 .norm [4,9,42,43,44] [4,9] impl_TableLines_k9
def impl_TableLines_k11 : C :=
 .seq (.reg false [.V 76 (.mv (.t 9)),.W 77 (.call (.c (.fn 517 [])) [.t 76]),.V 78 (.ext (.t 77) 0),.V 79 (.ext (.t 77) 1),.W 2 (.asg (.t 78)),.V 3 (.asg (.t 79))] [2,3] [2]) .ret
def impl_TableLines_k12 : C :=
 .seq (.reg false [.V 41 (.bsl 1 (.str []) 0 []),.W 9 (.asg (.t 41))] [0,4,9] [4,9]) (.seq (.seq (.reg false [.V 42 (.mv (.t 0)),.V 43 (.len (.t 42)),.V 44 (.mv (.c (.int .i64 0)))] [4,9,42,43,44] [4,9]) (.block 4 (.loop impl_TableLines_k10))) impl_TableLines_k11)
def impl_TableLines_ir : Fn := { np := 1,io := [],res := [.t 2,.t 3],own := [true,false],body :=
 (.seq (.reg false [.W 2 (.asg (.c (.nils 1))),.V 3 (.asg (.c (.int .i64 0)))] [0] []) (.seq (.reg false [.W 4 (.alloc 12 (.agg [.int .i64 0,.int .i64 0,.int .i64 0,.int .i64 0,.int .i64 0,.int .i64 0,.int .i64 0,.int .i64 0,.int .i64 0,.int .i64 0,.int .i64 0,.int .i64 0]))] [0,4] [4]) (.seq (.seq (.reg false [.V 15 (.mv (.t 0)),.V 16 (.len (.t 15)),.V 17 (.mv (.c (.int .i64 0)))] [0,4,15,16,17] [4]) (.block 0 (.loop impl_TableLines_k4))) impl_TableLines_k12))) }
noncomputable def impl_TableLines_D : List (Nat × Callee) := [(517,impl_report_c),(518,strings_Repeat_c),(630,strings_Join_c),(631,strings_TrimRight_c),(632,impl_areCells_c)]
def impl_TableLines_H : List (Nat × ET) := [(2,(.one .str)),(6,(.one .str)),(9,(.one .str)),(11,(.one .str)),(12,(.one .str)),(15,(.one (.sl (.one .str)))),(20,(.one .str)),(21,(.one .str)),(24,(.one .str)),(41,(.one .str)),(42,(.one (.sl (.one .str)))),(47,(.one .str)),(48,(.one .str)),(49,(.one .str)),(56,(.one .str)),(66,(.one .str)),(67,(.one .str)),(69,(.one .str)),(70,(.one .str)),(73,(.one .str)),(74,(.one .str)),(76,(.one .str)),(78,(.one .str))]
noncomputable def impl_TableLines_c : Callee := mkCallee impl_TableLines_D impl_TableLines_H impl_TableLines_ir [.d (.one (.sl (.one (.sl (.one .str)))))] [.tok (.one .str),.d (.one (.int .i64))] []
noncomputable def impl_TableLines (a0 : List (List (List UInt8))) : Option (List (List UInt8) × Int) := impl_TableLines_c.f (a0,())
noncomputable def impl_TableLines_p0  (v0 : List (List (List UInt8))) (v15 : List (List (List UInt8))) (v16 : Int) (v17 : Int) (r4_0 : Int) (r4_1 : Int) (r4_2 : Int) (r4_3 : Int) (r4_4 : Int) (r4_5 : Int) (r4_6 : Int) (r4_7 : Int) (r4_8 : Int) (r4_9 : Int) (r4_10 : Int) (r4_11 : Int) : Option (List (List UInt8) × Int) :=
 goL impl_TableLines_D impl_TableLines_H (vleave impl_TableLines_ir [.d (.one (.sl (.one (.sl (.one .str)))))] [.tok (.one .str),.d (.one (.int .i64))] [] []) [.c impl_TableLines_k3,.l impl_TableLines_k4,.e 0,.c impl_TableLines_k12]
  ⟨[(0,.sl (.one (.sl (.one .str))) v0),(4,.loc 4 0 0),(15,.sl (.one (.sl (.one .str))) v15),(16,.int .i64 v16),(17,.int .i64 v17)],[(4,some (.var 12 (.agg [.int .i64 r4_0,.int .i64 r4_1,.int .i64 r4_2,.int .i64 r4_3,.int .i64 r4_4,.int .i64 r4_5,.int .i64 r4_6,.int .i64 r4_7,.int .i64 r4_8,.int .i64 r4_9,.int .i64 r4_10,.int .i64 r4_11])))]⟩
noncomputable def impl_TableLines_p1  (v0 : List (List (List UInt8))) (v15 : List (List (List UInt8))) (v16 : Int) (v17 : Int) (v24 : List (List UInt8)) (v25 : Int) (v26 : Int) (r4_0 : Int) (r4_1 : Int) (r4_2 : Int) (r4_3 : Int) (r4_4 : Int) (r4_5 : Int) (r4_6 : Int) (r4_7 : Int) (r4_8 : Int) (r4_9 : Int) (r4_10 : Int) (r4_11 : Int) : Option (List (List UInt8) × Int) :=
 goL impl_TableLines_D impl_TableLines_H (vleave impl_TableLines_ir [.d (.one (.sl (.one (.sl (.one .str)))))] [.tok (.one .str),.d (.one (.int .i64))] [] []) [.c impl_TableLines_k0,.l impl_TableLines_k1,.e 2,.e 1,.c impl_TableLines_k2,.l impl_TableLines_k4,.e 0,.c impl_TableLines_k12]
  ⟨[(0,.sl (.one (.sl (.one .str))) v0),(4,.loc 4 0 0),(15,.sl (.one (.sl (.one .str))) v15),(16,.int .i64 v16),(17,.int .i64 v17),(24,.sl (.one .str) v24),(25,.int .i64 v25),(26,.int .i64 v26)],[(4,some (.var 12 (.agg [.int .i64 r4_0,.int .i64 r4_1,.int .i64 r4_2,.int .i64 r4_3,.int .i64 r4_4,.int .i64 r4_5,.int .i64 r4_6,.int .i64 r4_7,.int .i64 r4_8,.int .i64 r4_9,.int .i64 r4_10,.int .i64 r4_11]))),(6,none)]⟩
noncomputable def impl_TableLines_p2  (v42 : List (List (List UInt8))) (v43 : Int) (v44 : Int) (r4_0 : Int) (r4_1 : Int) (r4_2 : Int) (r4_3 : Int) (r4_4 : Int) (r4_5 : Int) (r4_6 : Int) (r4_7 : Int) (r4_8 : Int) (r4_9 : Int) (r4_10 : Int) (r4_11 : Int) (r9 : List (List UInt8)) : Option (List (List UInt8) × Int) :=
 goL impl_TableLines_D impl_TableLines_H (vleave impl_TableLines_ir [.d (.one (.sl (.one (.sl (.one .str)))))] [.tok (.one .str),.d (.one (.int .i64))] [] []) [.c impl_TableLines_k9,.l impl_TableLines_k10,.e 4,.c impl_TableLines_k11]
  ⟨[(4,.loc 4 0 0),(9,.view 9 0 r9.length),(42,.sl (.one (.sl (.one .str))) v42),(43,.int .i64 v43),(44,.int .i64 v44)],[(4,some (.var 12 (.agg [.int .i64 r4_0,.int .i64 r4_1,.int .i64 r4_2,.int .i64 r4_3,.int .i64 r4_4,.int .i64 r4_5,.int .i64 r4_6,.int .i64 r4_7,.int .i64 r4_8,.int .i64 r4_9,.int .i64 r4_10,.int .i64 r4_11]))),(9,some (.sl (.one .str) r9))]⟩
noncomputable def impl_TableLines_p3  (v42 : List (List (List UInt8))) (v43 : Int) (v44 : Int) (v49 : List (List UInt8)) (v50 : Int) (v51 : Int) (r4_0 : Int) (r4_1 : Int) (r4_2 : Int) (r4_3 : Int) (r4_4 : Int) (r4_5 : Int) (r4_6 : Int) (r4_7 : Int) (r4_8 : Int) (r4_9 : Int) (r4_10 : Int) (r4_11 : Int) (r9 : List (List UInt8)) (r12 : List (List UInt8)) : Option (List (List UInt8) × Int) :=
 goL impl_TableLines_D impl_TableLines_H (vleave impl_TableLines_ir [.d (.one (.sl (.one (.sl (.one .str)))))] [.tok (.one .str),.d (.one (.int .i64))] [] []) [.c impl_TableLines_k5,.l impl_TableLines_k6,.e 6,.c impl_TableLines_k7,.e 5,.c impl_TableLines_k8,.l impl_TableLines_k10,.e 4,.c impl_TableLines_k11]
  ⟨[(4,.loc 4 0 0),(9,.view 9 0 r9.length),(12,.view 12 0 r12.length),(42,.sl (.one (.sl (.one .str))) v42),(43,.int .i64 v43),(44,.int .i64 v44),(49,.sl (.one .str) v49),(50,.int .i64 v50),(51,.int .i64 v51)],[(4,some (.var 12 (.agg [.int .i64 r4_0,.int .i64 r4_1,.int .i64 r4_2,.int .i64 r4_3,.int .i64 r4_4,.int .i64 r4_5,.int .i64 r4_6,.int .i64 r4_7,.int .i64 r4_8,.int .i64 r4_9,.int .i64 r4_10,.int .i64 r4_11]))),(9,some (.sl (.one .str) r9)),(11,none),(12,some (.sl (.one .str) r12))]⟩
theorem impl_TableLines_eq (a0 : List (List (List UInt8))) : impl_TableLines a0 =
 impl_TableLines_p0 a0 a0 (a0.length : Int) 0 0 0 0 0 0 0 0 0 0 0 0 0 :=
 (mk_f _ _ _ _ _ _ _ 4000).trans (by kernel_rfl)
theorem impl_TableLines_p0_eq  (v0 : List (List (List UInt8))) (v15 : List (List (List UInt8))) (v16 : Int) (v17 : Int) (r4_0 : Int) (r4_1 : Int) (r4_2 : Int) (r4_3 : Int) (r4_4 : Int) (r4_5 : Int) (r4_6 : Int) (r4_7 : Int) (r4_8 : Int) (r4_9 : Int) (r4_10 : Int) (r4_11 : Int) : impl_TableLines_p0 v0 v15 v16 v17 r4_0 r4_1 r4_2 r4_3 r4_4 r4_5 r4_6 r4_7 r4_8 r4_9 r4_10 r4_11 =
 if decide (v17 < v16) then
  if decide (0 ≤ v17) then
   (v15[v17.toNat]?).bind fun x1 =>
    (impl_areCells x1).bind fun x2 =>
     if (!x2) then
      some ([],2)
     else
      impl_TableLines_p1 v0 v15 v16 v17 x1 (x1.length : Int) 0 r4_0 r4_1 r4_2 r4_3 r4_4 r4_5 r4_6 r4_7 r4_8 r4_9 r4_10 r4_11
  else
   none
 else
  impl_TableLines_p2 v0 (v0.length : Int) 0 r4_0 r4_1 r4_2 r4_3 r4_4 r4_5 r4_6 r4_7 r4_8 r4_9 r4_10 r4_11 [] :=
 (goL_dn _ _ _ 4000 _ _).trans (by kernel_rfl)
theorem impl_TableLines_p1_eq  (v0 : List (List (List UInt8))) (v15 : List (List (List UInt8))) (v16 : Int) (v17 : Int) (v24 : List (List UInt8)) (v25 : Int) (v26 : Int) (r4_0 : Int) (r4_1 : Int) (r4_2 : Int) (r4_3 : Int) (r4_4 : Int) (r4_5 : Int) (r4_6 : Int) (r4_7 : Int) (r4_8 : Int) (r4_9 : Int) (r4_10 : Int) (r4_11 : Int) : impl_TableLines_p1 v0 v15 v16 v17 v24 v25 v26 r4_0 r4_1 r4_2 r4_3 r4_4 r4_5 r4_6 r4_7 r4_8 r4_9 r4_10 r4_11 =
 if decide (v26 < v25) then
  if decide (0 ≤ v26) then
   (v24[v26.toNat]?).bind fun x1 =>
    if decide (v26 = 0) then
     if decide (v26 = 0) then
      impl_TableLines_p1 v0 v15 v16 v17 v24 v25 (IntKind.i64.wrap (v26 + 1)) (if (x1.length : Int) > r4_0 then (x1.length : Int) else r4_0) r4_1 r4_2 r4_3 r4_4 r4_5 r4_6 r4_7 r4_8 r4_9 r4_10 r4_11
     else
      if decide (v26 = 1) then
       impl_TableLines_p1 v0 v15 v16 v17 v24 v25 (IntKind.i64.wrap (v26 + 1)) r4_0 (if (x1.length : Int) > r4_0 then (x1.length : Int) else r4_0) r4_2 r4_3 r4_4 r4_5 r4_6 r4_7 r4_8 r4_9 r4_10 r4_11
      else
       if decide (v26 = 2) then
        impl_TableLines_p1 v0 v15 v16 v17 v24 v25 (IntKind.i64.wrap (v26 + 1)) r4_0 r4_1 (if (x1.length : Int) > r4_0 then (x1.length : Int) else r4_0) r4_3 r4_4 r4_5 r4_6 r4_7 r4_8 r4_9 r4_10 r4_11
       else
        if decide (v26 = 3) then
         impl_TableLines_p1 v0 v15 v16 v17 v24 v25 (IntKind.i64.wrap (v26 + 1)) r4_0 r4_1 r4_2 (if (x1.length : Int) > r4_0 then (x1.length : Int) else r4_0) r4_4 r4_5 r4_6 r4_7 r4_8 r4_9 r4_10 r4_11
        else
         if decide (v26 = 4) then
          impl_TableLines_p1 v0 v15 v16 v17 v24 v25 (IntKind.i64.wrap (v26 + 1)) r4_0 r4_1 r4_2 r4_3 (if (x1.length : Int) > r4_0 then (x1.length : Int) else r4_0) r4_5 r4_6 r4_7 r4_8 r4_9 r4_10 r4_11
         else
          if decide (v26 = 5) then
           impl_TableLines_p1 v0 v15 v16 v17 v24 v25 (IntKind.i64.wrap (v26 + 1)) r4_0 r4_1 r4_2 r4_3 r4_4 (if (x1.length : Int) > r4_0 then (x1.length : Int) else r4_0) r4_6 r4_7 r4_8 r4_9 r4_10 r4_11
          else
           if decide (v26 = 6) then
            impl_TableLines_p1 v0 v15 v16 v17 v24 v25 (IntKind.i64.wrap (v26 + 1)) r4_0 r4_1 r4_2 r4_3 r4_4 r4_5 (if (x1.length : Int) > r4_0 then (x1.length : Int) else r4_0) r4_7 r4_8 r4_9 r4_10 r4_11
           else
            if decide (v26 = 7) then
             impl_TableLines_p1 v0 v15 v16 v17 v24 v25 (IntKind.i64.wrap (v26 + 1)) r4_0 r4_1 r4_2 r4_3 r4_4 r4_5 r4_6 (if (x1.length : Int) > r4_0 then (x1.length : Int) else r4_0) r4_8 r4_9 r4_10 r4_11
            else
             if decide (v26 = 8) then
              impl_TableLines_p1 v0 v15 v16 v17 v24 v25 (IntKind.i64.wrap (v26 + 1)) r4_0 r4_1 r4_2 r4_3 r4_4 r4_5 r4_6 r4_7 (if (x1.length : Int) > r4_0 then (x1.length : Int) else r4_0) r4_9 r4_10 r4_11
             else
              if decide (v26 = 9) then
               impl_TableLines_p1 v0 v15 v16 v17 v24 v25 (IntKind.i64.wrap (v26 + 1)) r4_0 r4_1 r4_2 r4_3 r4_4 r4_5 r4_6 r4_7 r4_8 (if (x1.length : Int) > r4_0 then (x1.length : Int) else r4_0) r4_10 r4_11
              else
               if decide (v26 = 10) then
                impl_TableLines_p1 v0 v15 v16 v17 v24 v25 (IntKind.i64.wrap (v26 + 1)) r4_0 r4_1 r4_2 r4_3 r4_4 r4_5 r4_6 r4_7 r4_8 r4_9 (if (x1.length : Int) > r4_0 then (x1.length : Int) else r4_0) r4_11
               else
                if decide (v26 = 11) then
                 impl_TableLines_p1 v0 v15 v16 v17 v24 v25 (IntKind.i64.wrap (v26 + 1)) r4_0 r4_1 r4_2 r4_3 r4_4 r4_5 r4_6 r4_7 r4_8 r4_9 r4_10 (if (x1.length : Int) > r4_0 then (x1.length : Int) else r4_0)
                else
                 none
    else
     if decide (v26 = 1) then
      if decide (v26 = 0) then
       impl_TableLines_p1 v0 v15 v16 v17 v24 v25 (IntKind.i64.wrap (v26 + 1)) (if (x1.length : Int) > r4_1 then (x1.length : Int) else r4_1) r4_1 r4_2 r4_3 r4_4 r4_5 r4_6 r4_7 r4_8 r4_9 r4_10 r4_11
      else
       if decide (v26 = 1) then
        impl_TableLines_p1 v0 v15 v16 v17 v24 v25 (IntKind.i64.wrap (v26 + 1)) r4_0 (if (x1.length : Int) > r4_1 then (x1.length : Int) else r4_1) r4_2 r4_3 r4_4 r4_5 r4_6 r4_7 r4_8 r4_9 r4_10 r4_11
       else
        if decide (v26 = 2) then
         impl_TableLines_p1 v0 v15 v16 v17 v24 v25 (IntKind.i64.wrap (v26 + 1)) r4_0 r4_1 (if (x1.length : Int) > r4_1 then (x1.length : Int) else r4_1) r4_3 r4_4 r4_5 r4_6 r4_7 r4_8 r4_9 r4_10 r4_11
        else
         if decide (v26 = 3) then
          impl_TableLines_p1 v0 v15 v16 v17 v24 v25 (IntKind.i64.wrap (v26 + 1)) r4_0 r4_1 r4_2 (if (x1.length : Int) > r4_1 then (x1.length : Int) else r4_1) r4_4 r4_5 r4_6 r4_7 r4_8 r4_9 r4_10 r4_11
         else
          if decide (v26 = 4) then
           impl_TableLines_p1 v0 v15 v16 v17 v24 v25 (IntKind.i64.wrap (v26 + 1)) r4_0 r4_1 r4_2 r4_3 (if (x1.length : Int) > r4_1 then (x1.length : Int) else r4_1) r4_5 r4_6 r4_7 r4_8 r4_9 r4_10 r4_11
          else
           if decide (v26 = 5) then
            impl_TableLines_p1 v0 v15 v16 v17 v24 v25 (IntKind.i64.wrap (v26 + 1)) r4_0 r4_1 r4_2 r4_3 r4_4 (if (x1.length : Int) > r4_1 then (x1.length : Int) else r4_1) r4_6 r4_7 r4_8 r4_9 r4_10 r4_11
           else
            if decide (v26 = 6) then
             impl_TableLines_p1 v0 v15 v16 v17 v24 v25 (IntKind.i64.wrap (v26 + 1)) r4_0 r4_1 r4_2 r4_3 r4_4 r4_5 (if (x1.length : Int) > r4_1 then (x1.length : Int) else r4_1) r4_7 r4_8 r4_9 r4_10 r4_11
            else
             if decide (v26 = 7) then
              impl_TableLines_p1 v0 v15 v16 v17 v24 v25 (IntKind.i64.wrap (v26 + 1)) r4_0 r4_1 r4_2 r4_3 r4_4 r4_5 r4_6 (if (x1.length : Int) > r4_1 then (x1.length : Int) else r4_1) r4_8 r4_9 r4_10 r4_11
             else
              if decide (v26 = 8) then
               impl_TableLines_p1 v0 v15 v16 v17 v24 v25 (IntKind.i64.wrap (v26 + 1)) r4_0 r4_1 r4_2 r4_3 r4_4 r4_5 r4_6 r4_7 (if (x1.length : Int) > r4_1 then (x1.length : Int) else r4_1) r4_9 r4_10 r4_11
              else
               if decide (v26 = 9) then
                impl_TableLines_p1 v0 v15 v16 v17 v24 v25 (IntKind.i64.wrap (v26 + 1)) r4_0 r4_1 r4_2 r4_3 r4_4 r4_5 r4_6 r4_7 r4_8 (if (x1.length : Int) > r4_1 then (x1.length : Int) else r4_1) r4_10 r4_11
               else
                if decide (v26 = 10) then
                 impl_TableLines_p1 v0 v15 v16 v17 v24 v25 (IntKind.i64.wrap (v26 + 1)) r4_0 r4_1 r4_2 r4_3 r4_4 r4_5 r4_6 r4_7 r4_8 r4_9 (if (x1.length : Int) > r4_1 then (x1.length : Int) else r4_1) r4_11
                else
                 if decide (v26 = 11) then
                  impl_TableLines_p1 v0 v15 v16 v17 v24 v25 (IntKind.i64.wrap (v26 + 1)) r4_0 r4_1 r4_2 r4_3 r4_4 r4_5 r4_6 r4_7 r4_8 r4_9 r4_10 (if (x1.length : Int) > r4_1 then (x1.length : Int) else r4_1)
                 else
                  none
     else
      if decide (v26 = 2) then
       if decide (v26 = 0) then
        impl_TableLines_p1 v0 v15 v16 v17 v24 v25 (IntKind.i64.wrap (v26 + 1)) (if (x1.length : Int) > r4_2 then (x1.length : Int) else r4_2) r4_1 r4_2 r4_3 r4_4 r4_5 r4_6 r4_7 r4_8 r4_9 r4_10 r4_11
       else
        if decide (v26 = 1) then
         impl_TableLines_p1 v0 v15 v16 v17 v24 v25 (IntKind.i64.wrap (v26 + 1)) r4_0 (if (x1.length : Int) > r4_2 then (x1.length : Int) else r4_2) r4_2 r4_3 r4_4 r4_5 r4_6 r4_7 r4_8 r4_9 r4_10 r4_11
        else
         if decide (v26 = 2) then
          impl_TableLines_p1 v0 v15 v16 v17 v24 v25 (IntKind.i64.wrap (v26 + 1)) r4_0 r4_1 (if (x1.length : Int) > r4_2 then (x1.length : Int) else r4_2) r4_3 r4_4 r4_5 r4_6 r4_7 r4_8 r4_9 r4_10 r4_11
         else
          if decide (v26 = 3) then
           impl_TableLines_p1 v0 v15 v16 v17 v24 v25 (IntKind.i64.wrap (v26 + 1)) r4_0 r4_1 r4_2 (if (x1.length : Int) > r4_2 then (x1.length : Int) else r4_2) r4_4 r4_5 r4_6 r4_7 r4_8 r4_9 r4_10 r4_11
          else
           if decide (v26 = 4) then
            impl_TableLines_p1 v0 v15 v16 v17 v24 v25 (IntKind.i64.wrap (v26 + 1)) r4_0 r4_1 r4_2 r4_3 (if (x1.length : Int) > r4_2 then (x1.length : Int) else r4_2) r4_5 r4_6 r4_7 r4_8 r4_9 r4_10 r4_11
           else
            if decide (v26 = 5) then
             impl_TableLines_p1 v0 v15 v16 v17 v24 v25 (IntKind.i64.wrap (v26 + 1)) r4_0 r4_1 r4_2 r4_3 r4_4 (if (x1.length : Int) > r4_2 then (x1.length : Int) else r4_2) r4_6 r4_7 r4_8 r4_9 r4_10 r4_11
            else
             if decide (v26 = 6) then
              impl_TableLines_p1 v0 v15 v16 v17 v24 v25 (IntKind.i64.wrap (v26 + 1)) r4_0 r4_1 r4_2 r4_3 r4_4 r4_5 (if (x1.length : Int) > r4_2 then (x1.length : Int) else r4_2) r4_7 r4_8 r4_9 r4_10 r4_11
             else
              if decide (v26 = 7) then
               impl_TableLines_p1 v0 v15 v16 v17 v24 v25 (IntKind.i64.wrap (v26 + 1)) r4_0 r4_1 r4_2 r4_3 r4_4 r4_5 r4_6 (if (x1.length : Int) > r4_2 then (x1.length : Int) else r4_2) r4_8 r4_9 r4_10 r4_11
              else
               if decide (v26 = 8) then
                impl_TableLines_p1 v0 v15 v16 v17 v24 v25 (IntKind.i64.wrap (v26 + 1)) r4_0 r4_1 r4_2 r4_3 r4_4 r4_5 r4_6 r4_7 (if (x1.length : Int) > r4_2 then (x1.length : Int) else r4_2) r4_9 r4_10 r4_11
               else
                if decide (v26 = 9) then
                 impl_TableLines_p1 v0 v15 v16 v17 v24 v25 (IntKind.i64.wrap (v26 + 1)) r4_0 r4_1 r4_2 r4_3 r4_4 r4_5 r4_6 r4_7 r4_8 (if (x1.length : Int) > r4_2 then (x1.length : Int) else r4_2) r4_10 r4_11
                else
                 if decide (v26 = 10) then
                  impl_TableLines_p1 v0 v15 v16 v17 v24 v25 (IntKind.i64.wrap (v26 + 1)) r4_0 r4_1 r4_2 r4_3 r4_4 r4_5 r4_6 r4_7 r4_8 r4_9 (if (x1.length : Int) > r4_2 then (x1.length : Int) else r4_2) r4_11
                 else
                  if decide (v26 = 11) then
                   impl_TableLines_p1 v0 v15 v16 v17 v24 v25 (IntKind.i64.wrap (v26 + 1)) r4_0 r4_1 r4_2 r4_3 r4_4 r4_5 r4_6 r4_7 r4_8 r4_9 r4_10 (if (x1.length : Int) > r4_2 then (x1.length : Int) else r4_2)
                  else
                   none
      else
       if decide (v26 = 3) then
        if decide (v26 = 0) then
         impl_TableLines_p1 v0 v15 v16 v17 v24 v25 (IntKind.i64.wrap (v26 + 1)) (if (x1.length : Int) > r4_3 then (x1.length : Int) else r4_3) r4_1 r4_2 r4_3 r4_4 r4_5 r4_6 r4_7 r4_8 r4_9 r4_10 r4_11
        else
         if decide (v26 = 1) then
          impl_TableLines_p1 v0 v15 v16 v17 v24 v25 (IntKind.i64.wrap (v26 + 1)) r4_0 (if (x1.length : Int) > r4_3 then (x1.length : Int) else r4_3) r4_2 r4_3 r4_4 r4_5 r4_6 r4_7 r4_8 r4_9 r4_10 r4_11
         else
          if decide (v26 = 2) then
           impl_TableLines_p1 v0 v15 v16 v17 v24 v25 (IntKind.i64.wrap (v26 + 1)) r4_0 r4_1 (if (x1.length : Int) > r4_3 then (x1.length : Int) else r4_3) r4_3 r4_4 r4_5 r4_6 r4_7 r4_8 r4_9 r4_10 r4_11
          else
           if decide (v26 = 3) then
            impl_TableLines_p1 v0 v15 v16 v17 v24 v25 (IntKind.i64.wrap (v26 + 1)) r4_0 r4_1 r4_2 (if (x1.length : Int) > r4_3 then (x1.length : Int) else r4_3) r4_4 r4_5 r4_6 r4_7 r4_8 r4_9 r4_10 r4_11
           else
            if decide (v26 = 4) then
             impl_TableLines_p1 v0 v15 v16 v17 v24 v25 (IntKind.i64.wrap (v26 + 1)) r4_0 r4_1 r4_2 r4_3 (if (x1.length : Int) > r4_3 then (x1.length : Int) else r4_3) r4_5 r4_6 r4_7 r4_8 r4_9 r4_10 r4_11
            else
             if decide (v26 = 5) then
              impl_TableLines_p1 v0 v15 v16 v17 v24 v25 (IntKind.i64.wrap (v26 + 1)) r4_0 r4_1 r4_2 r4_3 r4_4 (if (x1.length : Int) > r4_3 then (x1.length : Int) else r4_3) r4_6 r4_7 r4_8 r4_9 r4_10 r4_11
             else
              if decide (v26 = 6) then
               impl_TableLines_p1 v0 v15 v16 v17 v24 v25 (IntKind.i64.wrap (v26 + 1)) r4_0 r4_1 r4_2 r4_3 r4_4 r4_5 (if (x1.length : Int) > r4_3 then (x1.length : Int) else r4_3) r4_7 r4_8 r4_9 r4_10 r4_11
              else
               if decide (v26 = 7) then
                impl_TableLines_p1 v0 v15 v16 v17 v24 v25 (IntKind.i64.wrap (v26 + 1)) r4_0 r4_1 r4_2 r4_3 r4_4 r4_5 r4_6 (if (x1.length : Int) > r4_3 then (x1.length : Int) else r4_3) r4_8 r4_9 r4_10 r4_11
               else
                if decide (v26 = 8) then
                 impl_TableLines_p1 v0 v15 v16 v17 v24 v25 (IntKind.i64.wrap (v26 + 1)) r4_0 r4_1 r4_2 r4_3 r4_4 r4_5 r4_6 r4_7 (if (x1.length : Int) > r4_3 then (x1.length : Int) else r4_3) r4_9 r4_10 r4_11
                else
                 if decide (v26 = 9) then
                  impl_TableLines_p1 v0 v15 v16 v17 v24 v25 (IntKind.i64.wrap (v26 + 1)) r4_0 r4_1 r4_2 r4_3 r4_4 r4_5 r4_6 r4_7 r4_8 (if (x1.length : Int) > r4_3 then (x1.length : Int) else r4_3) r4_10 r4_11
                 else
                  if decide (v26 = 10) then
                   impl_TableLines_p1 v0 v15 v16 v17 v24 v25 (IntKind.i64.wrap (v26 + 1)) r4_0 r4_1 r4_2 r4_3 r4_4 r4_5 r4_6 r4_7 r4_8 r4_9 (if (x1.length : Int) > r4_3 then (x1.length : Int) else r4_3) r4_11
                  else
                   if decide (v26 = 11) then
                    impl_TableLines_p1 v0 v15 v16 v17 v24 v25 (IntKind.i64.wrap (v26 + 1)) r4_0 r4_1 r4_2 r4_3 r4_4 r4_5 r4_6 r4_7 r4_8 r4_9 r4_10 (if (x1.length : Int) > r4_3 then (x1.length : Int) else r4_3)
                   else
                    none
       else
        if decide (v26 = 4) then
         if decide (v26 = 0) then
          impl_TableLines_p1 v0 v15 v16 v17 v24 v25 (IntKind.i64.wrap (v26 + 1)) (if (x1.length : Int) > r4_4 then (x1.length : Int) else r4_4) r4_1 r4_2 r4_3 r4_4 r4_5 r4_6 r4_7 r4_8 r4_9 r4_10 r4_11
         else
          if decide (v26 = 1) then
           impl_TableLines_p1 v0 v15 v16 v17 v24 v25 (IntKind.i64.wrap (v26 + 1)) r4_0 (if (x1.length : Int) > r4_4 then (x1.length : Int) else r4_4) r4_2 r4_3 r4_4 r4_5 r4_6 r4_7 r4_8 r4_9 r4_10 r4_11
          else
           if decide (v26 = 2) then
            impl_TableLines_p1 v0 v15 v16 v17 v24 v25 (IntKind.i64.wrap (v26 + 1)) r4_0 r4_1 (if (x1.length : Int) > r4_4 then (x1.length : Int) else r4_4) r4_3 r4_4 r4_5 r4_6 r4_7 r4_8 r4_9 r4_10 r4_11
           else
            if decide (v26 = 3) then
             impl_TableLines_p1 v0 v15 v16 v17 v24 v25 (IntKind.i64.wrap (v26 + 1)) r4_0 r4_1 r4_2 (if (x1.length : Int) > r4_4 then (x1.length : Int) else r4_4) r4_4 r4_5 r4_6 r4_7 r4_8 r4_9 r4_10 r4_11
            else
             if decide (v26 = 4) then
              impl_TableLines_p1 v0 v15 v16 v17 v24 v25 (IntKind.i64.wrap (v26 + 1)) r4_0 r4_1 r4_2 r4_3 (if (x1.length : Int) > r4_4 then (x1.length : Int) else r4_4) r4_5 r4_6 r4_7 r4_8 r4_9 r4_10 r4_11
             else
              if decide (v26 = 5) then
               impl_TableLines_p1 v0 v15 v16 v17 v24 v25 (IntKind.i64.wrap (v26 + 1)) r4_0 r4_1 r4_2 r4_3 r4_4 (if (x1.length : Int) > r4_4 then (x1.length : Int) else r4_4) r4_6 r4_7 r4_8 r4_9 r4_10 r4_11
              else
               if decide (v26 = 6) then
                impl_TableLines_p1 v0 v15 v16 v17 v24 v25 (IntKind.i64.wrap (v26 + 1)) r4_0 r4_1 r4_2 r4_3 r4_4 r4_5 (if (x1.length : Int) > r4_4 then (x1.length : Int) else r4_4) r4_7 r4_8 r4_9 r4_10 r4_11
               else
                if decide (v26 = 7) then
                 impl_TableLines_p1 v0 v15 v16 v17 v24 v25 (IntKind.i64.wrap (v26 + 1)) r4_0 r4_1 r4_2 r4_3 r4_4 r4_5 r4_6 (if (x1.length : Int) > r4_4 then (x1.length : Int) else r4_4) r4_8 r4_9 r4_10 r4_11
                else
                 if decide (v26 = 8) then
                  impl_TableLines_p1 v0 v15 v16 v17 v24 v25 (IntKind.i64.wrap (v26 + 1)) r4_0 r4_1 r4_2 r4_3 r4_4 r4_5 r4_6 r4_7 (if (x1.length : Int) > r4_4 then (x1.length : Int) else r4_4) r4_9 r4_10 r4_11
                 else
                  if decide (v26 = 9) then
                   impl_TableLines_p1 v0 v15 v16 v17 v24 v25 (IntKind.i64.wrap (v26 + 1)) r4_0 r4_1 r4_2 r4_3 r4_4 r4_5 r4_6 r4_7 r4_8 (if (x1.length : Int) > r4_4 then (x1.length : Int) else r4_4) r4_10 r4_11
                  else
                   if decide (v26 = 10) then
                    impl_TableLines_p1 v0 v15 v16 v17 v24 v25 (IntKind.i64.wrap (v26 + 1)) r4_0 r4_1 r4_2 r4_3 r4_4 r4_5 r4_6 r4_7 r4_8 r4_9 (if (x1.length : Int) > r4_4 then (x1.length : Int) else r4_4) r4_11
                   else
                    if decide (v26 = 11) then
                     impl_TableLines_p1 v0 v15 v16 v17 v24 v25 (IntKind.i64.wrap (v26 + 1)) r4_0 r4_1 r4_2 r4_3 r4_4 r4_5 r4_6 r4_7 r4_8 r4_9 r4_10 (if (x1.length : Int) > r4_4 then (x1.length : Int) else r4_4)
                    else
                     none
        else
         if decide (v26 = 5) then
          if decide (v26 = 0) then
           impl_TableLines_p1 v0 v15 v16 v17 v24 v25 (IntKind.i64.wrap (v26 + 1)) (if (x1.length : Int) > r4_5 then (x1.length : Int) else r4_5) r4_1 r4_2 r4_3 r4_4 r4_5 r4_6 r4_7 r4_8 r4_9 r4_10 r4_11
          else
           if decide (v26 = 1) then
            impl_TableLines_p1 v0 v15 v16 v17 v24 v25 (IntKind.i64.wrap (v26 + 1)) r4_0 (if (x1.length : Int) > r4_5 then (x1.length : Int) else r4_5) r4_2 r4_3 r4_4 r4_5 r4_6 r4_7 r4_8 r4_9 r4_10 r4_11
           else
            if decide (v26 = 2) then
             impl_TableLines_p1 v0 v15 v16 v17 v24 v25 (IntKind.i64.wrap (v26 + 1)) r4_0 r4_1 (if (x1.length : Int) > r4_5 then (x1.length : Int) else r4_5) r4_3 r4_4 r4_5 r4_6 r4_7 r4_8 r4_9 r4_10 r4_11
            else
             if decide (v26 = 3) then
              impl_TableLines_p1 v0 v15 v16 v17 v24 v25 (IntKind.i64.wrap (v26 + 1)) r4_0 r4_1 r4_2 (if (x1.length : Int) > r4_5 then (x1.length : Int) else r4_5) r4_4 r4_5 r4_6 r4_7 r4_8 r4_9 r4_10 r4_11
             else
              if decide (v26 = 4) then
               impl_TableLines_p1 v0 v15 v16 v17 v24 v25 (IntKind.i64.wrap (v26 + 1)) r4_0 r4_1 r4_2 r4_3 (if (x1.length : Int) > r4_5 then (x1.length : Int) else r4_5) r4_5 r4_6 r4_7 r4_8 r4_9 r4_10 r4_11
              else
               if decide (v26 = 5) then
                impl_TableLines_p1 v0 v15 v16 v17 v24 v25 (IntKind.i64.wrap (v26 + 1)) r4_0 r4_1 r4_2 r4_3 r4_4 (if (x1.length : Int) > r4_5 then (x1.length : Int) else r4_5) r4_6 r4_7 r4_8 r4_9 r4_10 r4_11
               else
                if decide (v26 = 6) then
                 impl_TableLines_p1 v0 v15 v16 v17 v24 v25 (IntKind.i64.wrap (v26 + 1)) r4_0 r4_1 r4_2 r4_3 r4_4 r4_5 (if (x1.length : Int) > r4_5 then (x1.length : Int) else r4_5) r4_7 r4_8 r4_9 r4_10 r4_11
                else
                 if decide (v26 = 7) then
                  impl_TableLines_p1 v0 v15 v16 v17 v24 v25 (IntKind.i64.wrap (v26 + 1)) r4_0 r4_1 r4_2 r4_3 r4_4 r4_5 r4_6 (if (x1.length : Int) > r4_5 then (x1.length : Int) else r4_5) r4_8 r4_9 r4_10 r4_11
                 else
                  if decide (v26 = 8) then
                   impl_TableLines_p1 v0 v15 v16 v17 v24 v25 (IntKind.i64.wrap (v26 + 1)) r4_0 r4_1 r4_2 r4_3 r4_4 r4_5 r4_6 r4_7 (if (x1.length : Int) > r4_5 then (x1.length : Int) else r4_5) r4_9 r4_10 r4_11
                  else
                   if decide (v26 = 9) then
                    impl_TableLines_p1 v0 v15 v16 v17 v24 v25 (IntKind.i64.wrap (v26 + 1)) r4_0 r4_1 r4_2 r4_3 r4_4 r4_5 r4_6 r4_7 r4_8 (if (x1.length : Int) > r4_5 then (x1.length : Int) else r4_5) r4_10 r4_11
                   else
                    if decide (v26 = 10) then
                     impl_TableLines_p1 v0 v15 v16 v17 v24 v25 (IntKind.i64.wrap (v26 + 1)) r4_0 r4_1 r4_2 r4_3 r4_4 r4_5 r4_6 r4_7 r4_8 r4_9 (if (x1.length : Int) > r4_5 then (x1.length : Int) else r4_5) r4_11
                    else
                     if decide (v26 = 11) then
                      impl_TableLines_p1 v0 v15 v16 v17 v24 v25 (IntKind.i64.wrap (v26 + 1)) r4_0 r4_1 r4_2 r4_3 r4_4 r4_5 r4_6 r4_7 r4_8 r4_9 r4_10 (if (x1.length : Int) > r4_5 then (x1.length : Int) else r4_5)
                     else
                      none
         else
          if decide (v26 = 6) then
           if decide (v26 = 0) then
            impl_TableLines_p1 v0 v15 v16 v17 v24 v25 (IntKind.i64.wrap (v26 + 1)) (if (x1.length : Int) > r4_6 then (x1.length : Int) else r4_6) r4_1 r4_2 r4_3 r4_4 r4_5 r4_6 r4_7 r4_8 r4_9 r4_10 r4_11
           else
            if decide (v26 = 1) then
             impl_TableLines_p1 v0 v15 v16 v17 v24 v25 (IntKind.i64.wrap (v26 + 1)) r4_0 (if (x1.length : Int) > r4_6 then (x1.length : Int) else r4_6) r4_2 r4_3 r4_4 r4_5 r4_6 r4_7 r4_8 r4_9 r4_10 r4_11
            else
             if decide (v26 = 2) then
              impl_TableLines_p1 v0 v15 v16 v17 v24 v25 (IntKind.i64.wrap (v26 + 1)) r4_0 r4_1 (if (x1.length : Int) > r4_6 then (x1.length : Int) else r4_6) r4_3 r4_4 r4_5 r4_6 r4_7 r4_8 r4_9 r4_10 r4_11
             else
              if decide (v26 = 3) then
               impl_TableLines_p1 v0 v15 v16 v17 v24 v25 (IntKind.i64.wrap (v26 + 1)) r4_0 r4_1 r4_2 (if (x1.length : Int) > r4_6 then (x1.length : Int) else r4_6) r4_4 r4_5 r4_6 r4_7 r4_8 r4_9 r4_10 r4_11
              else
               if decide (v26 = 4) then
                impl_TableLines_p1 v0 v15 v16 v17 v24 v25 (IntKind.i64.wrap (v26 + 1)) r4_0 r4_1 r4_2 r4_3 (if (x1.length : Int) > r4_6 then (x1.length : Int) else r4_6) r4_5 r4_6 r4_7 r4_8 r4_9 r4_10 r4_11
               else
                if decide (v26 = 5) then
                 impl_TableLines_p1 v0 v15 v16 v17 v24 v25 (IntKind.i64.wrap (v26 + 1)) r4_0 r4_1 r4_2 r4_3 r4_4 (if (x1.length : Int) > r4_6 then (x1.length : Int) else r4_6) r4_6 r4_7 r4_8 r4_9 r4_10 r4_11
                else
                 if decide (v26 = 6) then
                  impl_TableLines_p1 v0 v15 v16 v17 v24 v25 (IntKind.i64.wrap (v26 + 1)) r4_0 r4_1 r4_2 r4_3 r4_4 r4_5 (if (x1.length : Int) > r4_6 then (x1.length : Int) else r4_6) r4_7 r4_8 r4_9 r4_10 r4_11
                 else
                  if decide (v26 = 7) then
                   impl_TableLines_p1 v0 v15 v16 v17 v24 v25 (IntKind.i64.wrap (v26 + 1)) r4_0 r4_1 r4_2 r4_3 r4_4 r4_5 r4_6 (if (x1.length : Int) > r4_6 then (x1.length : Int) else r4_6) r4_8 r4_9 r4_10 r4_11
                  else
                   if decide (v26 = 8) then
                    impl_TableLines_p1 v0 v15 v16 v17 v24 v25 (IntKind.i64.wrap (v26 + 1)) r4_0 r4_1 r4_2 r4_3 r4_4 r4_5 r4_6 r4_7 (if (x1.length : Int) > r4_6 then (x1.length : Int) else r4_6) r4_9 r4_10 r4_11
                   else
                    if decide (v26 = 9) then
                     impl_TableLines_p1 v0 v15 v16 v17 v24 v25 (IntKind.i64.wrap (v26 + 1)) r4_0 r4_1 r4_2 r4_3 r4_4 r4_5 r4_6 r4_7 r4_8 (if (x1.length : Int) > r4_6 then (x1.length : Int) else r4_6) r4_10 r4_11
                    else
                     if decide (v26 = 10) then
                      impl_TableLines_p1 v0 v15 v16 v17 v24 v25 (IntKind.i64.wrap (v26 + 1)) r4_0 r4_1 r4_2 r4_3 r4_4 r4_5 r4_6 r4_7 r4_8 r4_9 (if (x1.length : Int) > r4_6 then (x1.length : Int) else r4_6) r4_11
                     else
                      if decide (v26 = 11) then
                       impl_TableLines_p1 v0 v15 v16 v17 v24 v25 (IntKind.i64.wrap (v26 + 1)) r4_0 r4_1 r4_2 r4_3 r4_4 r4_5 r4_6 r4_7 r4_8 r4_9 r4_10 (if (x1.length : Int) > r4_6 then (x1.length : Int) else r4_6)
                      else
                       none
          else
           if decide (v26 = 7) then
            if decide (v26 = 0) then
             impl_TableLines_p1 v0 v15 v16 v17 v24 v25 (IntKind.i64.wrap (v26 + 1)) (if (x1.length : Int) > r4_7 then (x1.length : Int) else r4_7) r4_1 r4_2 r4_3 r4_4 r4_5 r4_6 r4_7 r4_8 r4_9 r4_10 r4_11
            else
             if decide (v26 = 1) then
              impl_TableLines_p1 v0 v15 v16 v17 v24 v25 (IntKind.i64.wrap (v26 + 1)) r4_0 (if (x1.length : Int) > r4_7 then (x1.length : Int) else r4_7) r4_2 r4_3 r4_4 r4_5 r4_6 r4_7 r4_8 r4_9 r4_10 r4_11
             else
              if decide (v26 = 2) then
               impl_TableLines_p1 v0 v15 v16 v17 v24 v25 (IntKind.i64.wrap (v26 + 1)) r4_0 r4_1 (if (x1.length : Int) > r4_7 then (x1.length : Int) else r4_7) r4_3 r4_4 r4_5 r4_6 r4_7 r4_8 r4_9 r4_10 r4_11
              else
               if decide (v26 = 3) then
                impl_TableLines_p1 v0 v15 v16 v17 v24 v25 (IntKind.i64.wrap (v26 + 1)) r4_0 r4_1 r4_2 (if (x1.length : Int) > r4_7 then (x1.length : Int) else r4_7) r4_4 r4_5 r4_6 r4_7 r4_8 r4_9 r4_10 r4_11
               else
                if decide (v26 = 4) then
                 impl_TableLines_p1 v0 v15 v16 v17 v24 v25 (IntKind.i64.wrap (v26 + 1)) r4_0 r4_1 r4_2 r4_3 (if (x1.length : Int) > r4_7 then (x1.length : Int) else r4_7) r4_5 r4_6 r4_7 r4_8 r4_9 r4_10 r4_11
                else
                 if decide (v26 = 5) then
                  impl_TableLines_p1 v0 v15 v16 v17 v24 v25 (IntKind.i64.wrap (v26 + 1)) r4_0 r4_1 r4_2 r4_3 r4_4 (if (x1.length : Int) > r4_7 then (x1.length : Int) else r4_7) r4_6 r4_7 r4_8 r4_9 r4_10 r4_11
                 else
                  if decide (v26 = 6) then
                   impl_TableLines_p1 v0 v15 v16 v17 v24 v25 (IntKind.i64.wrap (v26 + 1)) r4_0 r4_1 r4_2 r4_3 r4_4 r4_5 (if (x1.length : Int) > r4_7 then (x1.length : Int) else r4_7) r4_7 r4_8 r4_9 r4_10 r4_11
                  else
                   if decide (v26 = 7) then
                    impl_TableLines_p1 v0 v15 v16 v17 v24 v25 (IntKind.i64.wrap (v26 + 1)) r4_0 r4_1 r4_2 r4_3 r4_4 r4_5 r4_6 (if (x1.length : Int) > r4_7 then (x1.length : Int) else r4_7) r4_8 r4_9 r4_10 r4_11
                   else
                    if decide (v26 = 8) then
                     impl_TableLines_p1 v0 v15 v16 v17 v24 v25 (IntKind.i64.wrap (v26 + 1)) r4_0 r4_1 r4_2 r4_3 r4_4 r4_5 r4_6 r4_7 (if (x1.length : Int) > r4_7 then (x1.length : Int) else r4_7) r4_9 r4_10 r4_11
                    else
                     if decide (v26 = 9) then
                      impl_TableLines_p1 v0 v15 v16 v17 v24 v25 (IntKind.i64.wrap (v26 + 1)) r4_0 r4_1 r4_2 r4_3 r4_4 r4_5 r4_6 r4_7 r4_8 (if (x1.length : Int) > r4_7 then (x1.length : Int) else r4_7) r4_10 r4_11
                     else
                      if decide (v26 = 10) then
                       impl_TableLines_p1 v0 v15 v16 v17 v24 v25 (IntKind.i64.wrap (v26 + 1)) r4_0 r4_1 r4_2 r4_3 r4_4 r4_5 r4_6 r4_7 r4_8 r4_9 (if (x1.length : Int) > r4_7 then (x1.length : Int) else r4_7) r4_11
                      else
                       if decide (v26 = 11) then
                        impl_TableLines_p1 v0 v15 v16 v17 v24 v25 (IntKind.i64.wrap (v26 + 1)) r4_0 r4_1 r4_2 r4_3 r4_4 r4_5 r4_6 r4_7 r4_8 r4_9 r4_10 (if (x1.length : Int) > r4_7 then (x1.length : Int) else r4_7)
                       else
                        none
           else
            if decide (v26 = 8) then
             if decide (v26 = 0) then
              impl_TableLines_p1 v0 v15 v16 v17 v24 v25 (IntKind.i64.wrap (v26 + 1)) (if (x1.length : Int) > r4_8 then (x1.length : Int) else r4_8) r4_1 r4_2 r4_3 r4_4 r4_5 r4_6 r4_7 r4_8 r4_9 r4_10 r4_11
             else
              if decide (v26 = 1) then
               impl_TableLines_p1 v0 v15 v16 v17 v24 v25 (IntKind.i64.wrap (v26 + 1)) r4_0 (if (x1.length : Int) > r4_8 then (x1.length : Int) else r4_8) r4_2 r4_3 r4_4 r4_5 r4_6 r4_7 r4_8 r4_9 r4_10 r4_11
              else
               if decide (v26 = 2) then
                impl_TableLines_p1 v0 v15 v16 v17 v24 v25 (IntKind.i64.wrap (v26 + 1)) r4_0 r4_1 (if (x1.length : Int) > r4_8 then (x1.length : Int) else r4_8) r4_3 r4_4 r4_5 r4_6 r4_7 r4_8 r4_9 r4_10 r4_11
               else
                if decide (v26 = 3) then
                 impl_TableLines_p1 v0 v15 v16 v17 v24 v25 (IntKind.i64.wrap (v26 + 1)) r4_0 r4_1 r4_2 (if (x1.length : Int) > r4_8 then (x1.length : Int) else r4_8) r4_4 r4_5 r4_6 r4_7 r4_8 r4_9 r4_10 r4_11
                else
                 if decide (v26 = 4) then
                  impl_TableLines_p1 v0 v15 v16 v17 v24 v25 (IntKind.i64.wrap (v26 + 1)) r4_0 r4_1 r4_2 r4_3 (if (x1.length : Int) > r4_8 then (x1.length : Int) else r4_8) r4_5 r4_6 r4_7 r4_8 r4_9 r4_10 r4_11
                 else
                  if decide (v26 = 5) then
                   impl_TableLines_p1 v0 v15 v16 v17 v24 v25 (IntKind.i64.wrap (v26 + 1)) r4_0 r4_1 r4_2 r4_3 r4_4 (if (x1.length : Int) > r4_8 then (x1.length : Int) else r4_8) r4_6 r4_7 r4_8 r4_9 r4_10 r4_11
                  else
                   if decide (v26 = 6) then
                    impl_TableLines_p1 v0 v15 v16 v17 v24 v25 (IntKind.i64.wrap (v26 + 1)) r4_0 r4_1 r4_2 r4_3 r4_4 r4_5 (if (x1.length : Int) > r4_8 then (x1.length : Int) else r4_8) r4_7 r4_8 r4_9 r4_10 r4_11
                   else
                    if decide (v26 = 7) then
                     impl_TableLines_p1 v0 v15 v16 v17 v24 v25 (IntKind.i64.wrap (v26 + 1)) r4_0 r4_1 r4_2 r4_3 r4_4 r4_5 r4_6 (if (x1.length : Int) > r4_8 then (x1.length : Int) else r4_8) r4_8 r4_9 r4_10 r4_11
                    else
                     if decide (v26 = 8) then
                      impl_TableLines_p1 v0 v15 v16 v17 v24 v25 (IntKind.i64.wrap (v26 + 1)) r4_0 r4_1 r4_2 r4_3 r4_4 r4_5 r4_6 r4_7 (if (x1.length : Int) > r4_8 then (x1.length : Int) else r4_8) r4_9 r4_10 r4_11
                     else
                      if decide (v26 = 9) then
                       impl_TableLines_p1 v0 v15 v16 v17 v24 v25 (IntKind.i64.wrap (v26 + 1)) r4_0 r4_1 r4_2 r4_3 r4_4 r4_5 r4_6 r4_7 r4_8 (if (x1.length : Int) > r4_8 then (x1.length : Int) else r4_8) r4_10 r4_11
                      else
                       if decide (v26 = 10) then
                        impl_TableLines_p1 v0 v15 v16 v17 v24 v25 (IntKind.i64.wrap (v26 + 1)) r4_0 r4_1 r4_2 r4_3 r4_4 r4_5 r4_6 r4_7 r4_8 r4_9 (if (x1.length : Int) > r4_8 then (x1.length : Int) else r4_8) r4_11
                       else
                        if decide (v26 = 11) then
                         impl_TableLines_p1 v0 v15 v16 v17 v24 v25 (IntKind.i64.wrap (v26 + 1)) r4_0 r4_1 r4_2 r4_3 r4_4 r4_5 r4_6 r4_7 r4_8 r4_9 r4_10 (if (x1.length : Int) > r4_8 then (x1.length : Int) else r4_8)
                        else
                         none
            else
             if decide (v26 = 9) then
              if decide (v26 = 0) then
               impl_TableLines_p1 v0 v15 v16 v17 v24 v25 (IntKind.i64.wrap (v26 + 1)) (if (x1.length : Int) > r4_9 then (x1.length : Int) else r4_9) r4_1 r4_2 r4_3 r4_4 r4_5 r4_6 r4_7 r4_8 r4_9 r4_10 r4_11
              else
               if decide (v26 = 1) then
                impl_TableLines_p1 v0 v15 v16 v17 v24 v25 (IntKind.i64.wrap (v26 + 1)) r4_0 (if (x1.length : Int) > r4_9 then (x1.length : Int) else r4_9) r4_2 r4_3 r4_4 r4_5 r4_6 r4_7 r4_8 r4_9 r4_10 r4_11
               else
                if decide (v26 = 2) then
                 impl_TableLines_p1 v0 v15 v16 v17 v24 v25 (IntKind.i64.wrap (v26 + 1)) r4_0 r4_1 (if (x1.length : Int) > r4_9 then (x1.length : Int) else r4_9) r4_3 r4_4 r4_5 r4_6 r4_7 r4_8 r4_9 r4_10 r4_11
                else
                 if decide (v26 = 3) then
                  impl_TableLines_p1 v0 v15 v16 v17 v24 v25 (IntKind.i64.wrap (v26 + 1)) r4_0 r4_1 r4_2 (if (x1.length : Int) > r4_9 then (x1.length : Int) else r4_9) r4_4 r4_5 r4_6 r4_7 r4_8 r4_9 r4_10 r4_11
                 else
                  if decide (v26 = 4) then
                   impl_TableLines_p1 v0 v15 v16 v17 v24 v25 (IntKind.i64.wrap (v26 + 1)) r4_0 r4_1 r4_2 r4_3 (if (x1.length : Int) > r4_9 then (x1.length : Int) else r4_9) r4_5 r4_6 r4_7 r4_8 r4_9 r4_10 r4_11
                  else
                   if decide (v26 = 5) then
                    impl_TableLines_p1 v0 v15 v16 v17 v24 v25 (IntKind.i64.wrap (v26 + 1)) r4_0 r4_1 r4_2 r4_3 r4_4 (if (x1.length : Int) > r4_9 then (x1.length : Int) else r4_9) r4_6 r4_7 r4_8 r4_9 r4_10 r4_11
                   else
                    if decide (v26 = 6) then
                     impl_TableLines_p1 v0 v15 v16 v17 v24 v25 (IntKind.i64.wrap (v26 + 1)) r4_0 r4_1 r4_2 r4_3 r4_4 r4_5 (if (x1.length : Int) > r4_9 then (x1.length : Int) else r4_9) r4_7 r4_8 r4_9 r4_10 r4_11
                    else
                     if decide (v26 = 7) then
                      impl_TableLines_p1 v0 v15 v16 v17 v24 v25 (IntKind.i64.wrap (v26 + 1)) r4_0 r4_1 r4_2 r4_3 r4_4 r4_5 r4_6 (if (x1.length : Int) > r4_9 then (x1.length : Int) else r4_9) r4_8 r4_9 r4_10 r4_11
                     else
                      if decide (v26 = 8) then
                       impl_TableLines_p1 v0 v15 v16 v17 v24 v25 (IntKind.i64.wrap (v26 + 1)) r4_0 r4_1 r4_2 r4_3 r4_4 r4_5 r4_6 r4_7 (if (x1.length : Int) > r4_9 then (x1.length : Int) else r4_9) r4_9 r4_10 r4_11
                      else
                       if decide (v26 = 9) then
                        impl_TableLines_p1 v0 v15 v16 v17 v24 v25 (IntKind.i64.wrap (v26 + 1)) r4_0 r4_1 r4_2 r4_3 r4_4 r4_5 r4_6 r4_7 r4_8 (if (x1.length : Int) > r4_9 then (x1.length : Int) else r4_9) r4_10 r4_11
                       else
                        if decide (v26 = 10) then
                         impl_TableLines_p1 v0 v15 v16 v17 v24 v25 (IntKind.i64.wrap (v26 + 1)) r4_0 r4_1 r4_2 r4_3 r4_4 r4_5 r4_6 r4_7 r4_8 r4_9 (if (x1.length : Int) > r4_9 then (x1.length : Int) else r4_9) r4_11
                        else
                         if decide (v26 = 11) then
                          impl_TableLines_p1 v0 v15 v16 v17 v24 v25 (IntKind.i64.wrap (v26 + 1)) r4_0 r4_1 r4_2 r4_3 r4_4 r4_5 r4_6 r4_7 r4_8 r4_9 r4_10 (if (x1.length : Int) > r4_9 then (x1.length : Int) else r4_9)
                         else
                          none
             else
              if decide (v26 = 10) then
               if decide (v26 = 0) then
                impl_TableLines_p1 v0 v15 v16 v17 v24 v25 (IntKind.i64.wrap (v26 + 1)) (if (x1.length : Int) > r4_10 then (x1.length : Int) else r4_10) r4_1 r4_2 r4_3 r4_4 r4_5 r4_6 r4_7 r4_8 r4_9 r4_10 r4_11
               else
                if decide (v26 = 1) then
                 impl_TableLines_p1 v0 v15 v16 v17 v24 v25 (IntKind.i64.wrap (v26 + 1)) r4_0 (if (x1.length : Int) > r4_10 then (x1.length : Int) else r4_10) r4_2 r4_3 r4_4 r4_5 r4_6 r4_7 r4_8 r4_9 r4_10 r4_11
                else
                 if decide (v26 = 2) then
                  impl_TableLines_p1 v0 v15 v16 v17 v24 v25 (IntKind.i64.wrap (v26 + 1)) r4_0 r4_1 (if (x1.length : Int) > r4_10 then (x1.length : Int) else r4_10) r4_3 r4_4 r4_5 r4_6 r4_7 r4_8 r4_9 r4_10 r4_11
                 else
                  if decide (v26 = 3) then
                   impl_TableLines_p1 v0 v15 v16 v17 v24 v25 (IntKind.i64.wrap (v26 + 1)) r4_0 r4_1 r4_2 (if (x1.length : Int) > r4_10 then (x1.length : Int) else r4_10) r4_4 r4_5 r4_6 r4_7 r4_8 r4_9 r4_10 r4_11
                  else
                   if decide (v26 = 4) then
                    impl_TableLines_p1 v0 v15 v16 v17 v24 v25 (IntKind.i64.wrap (v26 + 1)) r4_0 r4_1 r4_2 r4_3 (if (x1.length : Int) > r4_10 then (x1.length : Int) else r4_10) r4_5 r4_6 r4_7 r4_8 r4_9 r4_10 r4_11
                   else
                    if decide (v26 = 5) then
                     impl_TableLines_p1 v0 v15 v16 v17 v24 v25 (IntKind.i64.wrap (v26 + 1)) r4_0 r4_1 r4_2 r4_3 r4_4 (if (x1.length : Int) > r4_10 then (x1.length : Int) else r4_10) r4_6 r4_7 r4_8 r4_9 r4_10 r4_11
                    else
                     if decide (v26 = 6) then
                      impl_TableLines_p1 v0 v15 v16 v17 v24 v25 (IntKind.i64.wrap (v26 + 1)) r4_0 r4_1 r4_2 r4_3 r4_4 r4_5 (if (x1.length : Int) > r4_10 then (x1.length : Int) else r4_10) r4_7 r4_8 r4_9 r4_10 r4_11
                     else
                      if decide (v26 = 7) then
                       impl_TableLines_p1 v0 v15 v16 v17 v24 v25 (IntKind.i64.wrap (v26 + 1)) r4_0 r4_1 r4_2 r4_3 r4_4 r4_5 r4_6 (if (x1.length : Int) > r4_10 then (x1.length : Int) else r4_10) r4_8 r4_9 r4_10 r4_11
                      else
                       if decide (v26 = 8) then
                        impl_TableLines_p1 v0 v15 v16 v17 v24 v25 (IntKind.i64.wrap (v26 + 1)) r4_0 r4_1 r4_2 r4_3 r4_4 r4_5 r4_6 r4_7 (if (x1.length : Int) > r4_10 then (x1.length : Int) else r4_10) r4_9 r4_10 r4_11
                       else
                        if decide (v26 = 9) then
                         impl_TableLines_p1 v0 v15 v16 v17 v24 v25 (IntKind.i64.wrap (v26 + 1)) r4_0 r4_1 r4_2 r4_3 r4_4 r4_5 r4_6 r4_7 r4_8 (if (x1.length : Int) > r4_10 then (x1.length : Int) else r4_10) r4_10 r4_11
                        else
                         if decide (v26 = 10) then
                          impl_TableLines_p1 v0 v15 v16 v17 v24 v25 (IntKind.i64.wrap (v26 + 1)) r4_0 r4_1 r4_2 r4_3 r4_4 r4_5 r4_6 r4_7 r4_8 r4_9 (if (x1.length : Int) > r4_10 then (x1.length : Int) else r4_10) r4_11
                         else
                          if decide (v26 = 11) then
                           impl_TableLines_p1 v0 v15 v16 v17 v24 v25 (IntKind.i64.wrap (v26 + 1)) r4_0 r4_1 r4_2 r4_3 r4_4 r4_5 r4_6 r4_7 r4_8 r4_9 r4_10 (if (x1.length : Int) > r4_10 then (x1.length : Int) else r4_10)
                          else
                           none
              else
               if decide (v26 = 11) then
                if decide (v26 = 0) then
                 impl_TableLines_p1 v0 v15 v16 v17 v24 v25 (IntKind.i64.wrap (v26 + 1)) (if (x1.length : Int) > r4_11 then (x1.length : Int) else r4_11) r4_1 r4_2 r4_3 r4_4 r4_5 r4_6 r4_7 r4_8 r4_9 r4_10 r4_11
                else
                 if decide (v26 = 1) then
                  impl_TableLines_p1 v0 v15 v16 v17 v24 v25 (IntKind.i64.wrap (v26 + 1)) r4_0 (if (x1.length : Int) > r4_11 then (x1.length : Int) else r4_11) r4_2 r4_3 r4_4 r4_5 r4_6 r4_7 r4_8 r4_9 r4_10 r4_11
                 else
                  if decide (v26 = 2) then
                   impl_TableLines_p1 v0 v15 v16 v17 v24 v25 (IntKind.i64.wrap (v26 + 1)) r4_0 r4_1 (if (x1.length : Int) > r4_11 then (x1.length : Int) else r4_11) r4_3 r4_4 r4_5 r4_6 r4_7 r4_8 r4_9 r4_10 r4_11
                  else
                   if decide (v26 = 3) then
                    impl_TableLines_p1 v0 v15 v16 v17 v24 v25 (IntKind.i64.wrap (v26 + 1)) r4_0 r4_1 r4_2 (if (x1.length : Int) > r4_11 then (x1.length : Int) else r4_11) r4_4 r4_5 r4_6 r4_7 r4_8 r4_9 r4_10 r4_11
                   else
                    if decide (v26 = 4) then
                     impl_TableLines_p1 v0 v15 v16 v17 v24 v25 (IntKind.i64.wrap (v26 + 1)) r4_0 r4_1 r4_2 r4_3 (if (x1.length : Int) > r4_11 then (x1.length : Int) else r4_11) r4_5 r4_6 r4_7 r4_8 r4_9 r4_10 r4_11
                    else
                     if decide (v26 = 5) then
                      impl_TableLines_p1 v0 v15 v16 v17 v24 v25 (IntKind.i64.wrap (v26 + 1)) r4_0 r4_1 r4_2 r4_3 r4_4 (if (x1.length : Int) > r4_11 then (x1.length : Int) else r4_11) r4_6 r4_7 r4_8 r4_9 r4_10 r4_11
                     else
                      if decide (v26 = 6) then
                       impl_TableLines_p1 v0 v15 v16 v17 v24 v25 (IntKind.i64.wrap (v26 + 1)) r4_0 r4_1 r4_2 r4_3 r4_4 r4_5 (if (x1.length : Int) > r4_11 then (x1.length : Int) else r4_11) r4_7 r4_8 r4_9 r4_10 r4_11
                      else
                       if decide (v26 = 7) then
                        impl_TableLines_p1 v0 v15 v16 v17 v24 v25 (IntKind.i64.wrap (v26 + 1)) r4_0 r4_1 r4_2 r4_3 r4_4 r4_5 r4_6 (if (x1.length : Int) > r4_11 then (x1.length : Int) else r4_11) r4_8 r4_9 r4_10 r4_11
                       else
                        if decide (v26 = 8) then
                         impl_TableLines_p1 v0 v15 v16 v17 v24 v25 (IntKind.i64.wrap (v26 + 1)) r4_0 r4_1 r4_2 r4_3 r4_4 r4_5 r4_6 r4_7 (if (x1.length : Int) > r4_11 then (x1.length : Int) else r4_11) r4_9 r4_10 r4_11
                        else
                         if decide (v26 = 9) then
                          impl_TableLines_p1 v0 v15 v16 v17 v24 v25 (IntKind.i64.wrap (v26 + 1)) r4_0 r4_1 r4_2 r4_3 r4_4 r4_5 r4_6 r4_7 r4_8 (if (x1.length : Int) > r4_11 then (x1.length : Int) else r4_11) r4_10 r4_11
                         else
                          if decide (v26 = 10) then
                           impl_TableLines_p1 v0 v15 v16 v17 v24 v25 (IntKind.i64.wrap (v26 + 1)) r4_0 r4_1 r4_2 r4_3 r4_4 r4_5 r4_6 r4_7 r4_8 r4_9 (if (x1.length : Int) > r4_11 then (x1.length : Int) else r4_11) r4_11
                          else
                           if decide (v26 = 11) then
                            impl_TableLines_p1 v0 v15 v16 v17 v24 v25 (IntKind.i64.wrap (v26 + 1)) r4_0 r4_1 r4_2 r4_3 r4_4 r4_5 r4_6 r4_7 r4_8 r4_9 r4_10 (if (x1.length : Int) > r4_11 then (x1.length : Int) else r4_11)
                           else
                            none
               else
                none
  else
   none
 else
  impl_TableLines_p0 v0 v15 v16 (IntKind.i64.wrap (v17 + 1)) r4_0 r4_1 r4_2 r4_3 r4_4 r4_5 r4_6 r4_7 r4_8 r4_9 r4_10 r4_11 :=
 (goL_dn _ _ _ 4000 _ _).trans (by kernel_rfl)
theorem impl_TableLines_p2_eq  (v42 : List (List (List UInt8))) (v43 : Int) (v44 : Int) (r4_0 : Int) (r4_1 : Int) (r4_2 : Int) (r4_3 : Int) (r4_4 : Int) (r4_5 : Int) (r4_6 : Int) (r4_7 : Int) (r4_8 : Int) (r4_9 : Int) (r4_10 : Int) (r4_11 : Int) (r9 : List (List UInt8)) : impl_TableLines_p2 v42 v43 v44 r4_0 r4_1 r4_2 r4_3 r4_4 r4_5 r4_6 r4_7 r4_8 r4_9 r4_10 r4_11 r9 =
 if decide (v44 < v43) then
  if decide (0 ≤ v44) then
   (v42[v44.toNat]?).bind fun x1 =>
    impl_TableLines_p3 v42 v43 v44 x1 (x1.length : Int) 0 r4_0 r4_1 r4_2 r4_3 r4_4 r4_5 r4_6 r4_7 r4_8 r4_9 r4_10 r4_11 r9 []
  else
   none
 else
  if decide (r9.length = r9.length) then
   (impl_report r9).bind fun x2 =>
    some ((x2.1.take x2.1.length),x2.2.1)
  else
   none :=
 (goL_dn _ _ _ 4000 _ _).trans (by kernel_rfl)
theorem impl_TableLines_p3_eq  (v42 : List (List (List UInt8))) (v43 : Int) (v44 : Int) (v49 : List (List UInt8)) (v50 : Int) (v51 : Int) (r4_0 : Int) (r4_1 : Int) (r4_2 : Int) (r4_3 : Int) (r4_4 : Int) (r4_5 : Int) (r4_6 : Int) (r4_7 : Int) (r4_8 : Int) (r4_9 : Int) (r4_10 : Int) (r4_11 : Int) (r9 : List (List UInt8)) (r12 : List (List UInt8)) : impl_TableLines_p3 v42 v43 v44 v49 v50 v51 r4_0 r4_1 r4_2 r4_3 r4_4 r4_5 r4_6 r4_7 r4_8 r4_9 r4_10 r4_11 r9 r12 =
 if decide (v51 < v50) then
  if decide (0 ≤ v51) then
   (v49[v51.toNat]?).bind fun x1 =>
    if decide (v51 = 0) then
     (strings_Repeat [32] (IntKind.i64.wrap (r4_0 - (x1.length : Int)))).bind fun x2 =>
      if decide (x1.length + x2.length ≤ strMax) then
       if decide (r12.length + 1 < lim) then
        impl_TableLines_p3 v42 v43 v44 v49 v50 (IntKind.i64.wrap (v51 + 1)) r4_0 r4_1 r4_2 r4_3 r4_4 r4_5 r4_6 r4_7 r4_8 r4_9 r4_10 r4_11 r9 ((r12.take r12.length) ++ [x1 ++ x2])
       else
        none
      else
       none
    else
     if decide (v51 = 1) then
      (strings_Repeat [32] (IntKind.i64.wrap (r4_1 - (x1.length : Int)))).bind fun x3 =>
       if decide (x1.length + x3.length ≤ strMax) then
        if decide (r12.length + 1 < lim) then
         impl_TableLines_p3 v42 v43 v44 v49 v50 (IntKind.i64.wrap (v51 + 1)) r4_0 r4_1 r4_2 r4_3 r4_4 r4_5 r4_6 r4_7 r4_8 r4_9 r4_10 r4_11 r9 ((r12.take r12.length) ++ [x1 ++ x3])
        else
         none
       else
        none
     else
      if decide (v51 = 2) then
       (strings_Repeat [32] (IntKind.i64.wrap (r4_2 - (x1.length : Int)))).bind fun x4 =>
        if decide (x1.length + x4.length ≤ strMax) then
         if decide (r12.length + 1 < lim) then
          impl_TableLines_p3 v42 v43 v44 v49 v50 (IntKind.i64.wrap (v51 + 1)) r4_0 r4_1 r4_2 r4_3 r4_4 r4_5 r4_6 r4_7 r4_8 r4_9 r4_10 r4_11 r9 ((r12.take r12.length) ++ [x1 ++ x4])
         else
          none
        else
         none
      else
       if decide (v51 = 3) then
        (strings_Repeat [32] (IntKind.i64.wrap (r4_3 - (x1.length : Int)))).bind fun x5 =>
         if decide (x1.length + x5.length ≤ strMax) then
          if decide (r12.length + 1 < lim) then
           impl_TableLines_p3 v42 v43 v44 v49 v50 (IntKind.i64.wrap (v51 + 1)) r4_0 r4_1 r4_2 r4_3 r4_4 r4_5 r4_6 r4_7 r4_8 r4_9 r4_10 r4_11 r9 ((r12.take r12.length) ++ [x1 ++ x5])
          else
           none
         else
          none
       else
        if decide (v51 = 4) then
         (strings_Repeat [32] (IntKind.i64.wrap (r4_4 - (x1.length : Int)))).bind fun x6 =>
          if decide (x1.length + x6.length ≤ strMax) then
           if decide (r12.length + 1 < lim) then
            impl_TableLines_p3 v42 v43 v44 v49 v50 (IntKind.i64.wrap (v51 + 1)) r4_0 r4_1 r4_2 r4_3 r4_4 r4_5 r4_6 r4_7 r4_8 r4_9 r4_10 r4_11 r9 ((r12.take r12.length) ++ [x1 ++ x6])
           else
            none
          else
           none
        else
         if decide (v51 = 5) then
          (strings_Repeat [32] (IntKind.i64.wrap (r4_5 - (x1.length : Int)))).bind fun x7 =>
           if decide (x1.length + x7.length ≤ strMax) then
            if decide (r12.length + 1 < lim) then
             impl_TableLines_p3 v42 v43 v44 v49 v50 (IntKind.i64.wrap (v51 + 1)) r4_0 r4_1 r4_2 r4_3 r4_4 r4_5 r4_6 r4_7 r4_8 r4_9 r4_10 r4_11 r9 ((r12.take r12.length) ++ [x1 ++ x7])
            else
             none
           else
            none
         else
          if decide (v51 = 6) then
           (strings_Repeat [32] (IntKind.i64.wrap (r4_6 - (x1.length : Int)))).bind fun x8 =>
            if decide (x1.length + x8.length ≤ strMax) then
             if decide (r12.length + 1 < lim) then
              impl_TableLines_p3 v42 v43 v44 v49 v50 (IntKind.i64.wrap (v51 + 1)) r4_0 r4_1 r4_2 r4_3 r4_4 r4_5 r4_6 r4_7 r4_8 r4_9 r4_10 r4_11 r9 ((r12.take r12.length) ++ [x1 ++ x8])
             else
              none
            else
             none
          else
           if decide (v51 = 7) then
            (strings_Repeat [32] (IntKind.i64.wrap (r4_7 - (x1.length : Int)))).bind fun x9 =>
             if decide (x1.length + x9.length ≤ strMax) then
              if decide (r12.length + 1 < lim) then
               impl_TableLines_p3 v42 v43 v44 v49 v50 (IntKind.i64.wrap (v51 + 1)) r4_0 r4_1 r4_2 r4_3 r4_4 r4_5 r4_6 r4_7 r4_8 r4_9 r4_10 r4_11 r9 ((r12.take r12.length) ++ [x1 ++ x9])
              else
               none
             else
              none
           else
            if decide (v51 = 8) then
             (strings_Repeat [32] (IntKind.i64.wrap (r4_8 - (x1.length : Int)))).bind fun x10 =>
              if decide (x1.length + x10.length ≤ strMax) then
               if decide (r12.length + 1 < lim) then
                impl_TableLines_p3 v42 v43 v44 v49 v50 (IntKind.i64.wrap (v51 + 1)) r4_0 r4_1 r4_2 r4_3 r4_4 r4_5 r4_6 r4_7 r4_8 r4_9 r4_10 r4_11 r9 ((r12.take r12.length) ++ [x1 ++ x10])
               else
                none
              else
               none
            else
             if decide (v51 = 9) then
              (strings_Repeat [32] (IntKind.i64.wrap (r4_9 - (x1.length : Int)))).bind fun x11 =>
               if decide (x1.length + x11.length ≤ strMax) then
                if decide (r12.length + 1 < lim) then
                 impl_TableLines_p3 v42 v43 v44 v49 v50 (IntKind.i64.wrap (v51 + 1)) r4_0 r4_1 r4_2 r4_3 r4_4 r4_5 r4_6 r4_7 r4_8 r4_9 r4_10 r4_11 r9 ((r12.take r12.length) ++ [x1 ++ x11])
                else
                 none
               else
                none
             else
              if decide (v51 = 10) then
               (strings_Repeat [32] (IntKind.i64.wrap (r4_10 - (x1.length : Int)))).bind fun x12 =>
                if decide (x1.length + x12.length ≤ strMax) then
                 if decide (r12.length + 1 < lim) then
                  impl_TableLines_p3 v42 v43 v44 v49 v50 (IntKind.i64.wrap (v51 + 1)) r4_0 r4_1 r4_2 r4_3 r4_4 r4_5 r4_6 r4_7 r4_8 r4_9 r4_10 r4_11 r9 ((r12.take r12.length) ++ [x1 ++ x12])
                 else
                  none
                else
                 none
              else
               if decide (v51 = 11) then
                (strings_Repeat [32] (IntKind.i64.wrap (r4_11 - (x1.length : Int)))).bind fun x13 =>
                 if decide (x1.length + x13.length ≤ strMax) then
                  if decide (r12.length + 1 < lim) then
                   impl_TableLines_p3 v42 v43 v44 v49 v50 (IntKind.i64.wrap (v51 + 1)) r4_0 r4_1 r4_2 r4_3 r4_4 r4_5 r4_6 r4_7 r4_8 r4_9 r4_10 r4_11 r9 ((r12.take r12.length) ++ [x1 ++ x13])
                  else
                   none
                 else
                  none
               else
                none
  else
   none
 else
  (strings_Join (r12.take r12.length) [32,32]).bind fun x14 =>
   (strings_TrimRight x14 [32]).bind fun x15 =>
    if decide (r9.length + 1 < lim) then
     impl_TableLines_p2 v42 v43 (IntKind.i64.wrap (v44 + 1)) r4_0 r4_1 r4_2 r4_3 r4_4 r4_5 r4_6 r4_7 r4_8 r4_9 r4_10 r4_11 ((r9.take r9.length) ++ [x15])
    else
     none :=
 (goL_dn _ _ _ 4000 _ _).trans (by kernel_rfl)
def impl_PotReport_k0 : C :=
 .seq (.reg false [.V 15 (.bin .lss (.t 14) (.t 13))] [4,12,13,14,15] [4]) (.seq (.cond (.t 15) .skip (.exit 0)) (.seq (.block 1 (.seq (.reg false [.V 16 (.ia 5 (.t 12) (.t 14)),.V 17 (.ld (some 5) (.t 16)),.W 6 (.alloc 5 (.agg [.str [],.int .i64 0,.int .i64 0,.int .i64 0,.int .i64 0])),⟨none,true,.sto 5 (.t 6) (.t 17),none,false,[]⟩] [4,6,12,13,14] [4,6]) (.reg true [.V 18 (.mv (.t 4)),.V 19 (.fa 0 (.t 6)),.V 20 (.ld none (.t 19)),.V 21 (.fa 1 (.t 6)),.V 22 (.ld none (.t 21)),.V 23 (.call (.c (.fn 524 [])) [.t 22]),.V 24 (.fa 2 (.t 6)),.V 25 (.ld none (.t 24)),.V 26 (.call (.c (.fn 524 [])) [.t 25]),.V 27 (.ld (some 5) (.t 6)),.V 28 (.call (.c (.fn 54 [])) [.t 27]),.V 29 (.call (.c (.fn 251 [])) [.t 28,.c (.int .i64 1)]),.V 30 (.bsl 1 (.str []) 4 [(0,.t 20),(1,.t 23),(2,.t 26),(3,.t 29)]),⟨some 31,true,.bsl 1 (.sl 1 []) 1 [(0,.t 30)],none,false,[4]⟩,.W 32 (.app 1 24 (.t 18) (.t 31)),.W 4 (.asg (.t 32))] [4,12,13,14] [4]))) (.reg false [.V 33 (.bin .add (.t 14) (.c (.int .i64 1))),.V 14 (.mv (.t 33))] [4,12,13,14] [4])))
def impl_PotReport_k1 : C :=
 .norm [4,12,13,14] [4] impl_PotReport_k0
def impl_PotReport_k2 : C :=
 .seq (.reg false [.V 34 (.mv (.t 4)),.V 35 (.call (.c (.fn 219 [])) [.t 34]),.V 36 (.ext (.t 35) 0),.V 37 (.ext (.t 35) 1),.W 2 (.asg (.t 36)),.V 3 (.asg (.t 37))] [2,3] [2]) .ret
def impl_PotReport_ir : Fn := { np := 1,io := [],res := [.t 2,.t 3],own := [true,false],body :=
 (.seq (.reg false [.W 2 (.asg (.c (.nils 1))),.V 3 (.asg (.c (.int .i64 0)))] [0] []) (.seq (.seq (.reg false [.V 7 (.mv (.t 0)),.V 8 (.call (.c (.fn 57 [])) [.t 7]),.V 9 (.un .not (.t 8))] [0,9] []) (.cond (.t 9) (.seq (.reg false [.W 2 (.asg (.c (.nils 1))),.V 3 (.asg (.c (.int .i64 1)))] [2,3] [2]) .ret) .skip)) (.seq (.reg false [.V 10 (.bsl 1 (.str []) 4 [(0,.c (.str [112,111,116])),(1,.c (.str [100,114,121])),(2,.c (.str [119,97,116,101,114])),(3,.c (.str [115,116,114,101,110,103,116,104]))]),.W 11 (.bsl 1 (.sl 1 []) 1 [(0,.t 10)]),.W 4 (.asg (.t 11))] [0,4] [4]) (.seq (.seq (.reg false [.V 12 (.mv (.t 0)),.V 13 (.len (.t 12)),.V 14 (.mv (.c (.int .i64 0)))] [4,12,13,14] [4]) (.block 0 (.loop impl_PotReport_k1))) impl_PotReport_k2)))) }
noncomputable def impl_PotReport_D : List (Nat × Callee) := [(54,impl_Pot_strength_c),(57,impl_ValidPots_c),(219,impl_TableLines_c),(251,impl_FixedText_c),(524,impl_Decimal_c)]
def impl_PotReport_H : List (Nat × ET) := [(2,(.one .str)),(4,(.one (.sl (.one .str)))),(7,T_Pot),(10,(.one .str)),(11,(.one (.sl (.one .str)))),(12,T_Pot),(18,(.one (.sl (.one .str)))),(30,(.one .str)),(31,(.one (.sl (.one .str)))),(32,(.one (.sl (.one .str)))),(34,(.one (.sl (.one .str)))),(36,(.one .str))]
noncomputable def impl_PotReport_c : Callee := mkCallee impl_PotReport_D impl_PotReport_H impl_PotReport_ir [.d (.one (.sl T_Pot))] [.tok (.one .str),.d (.one (.int .i64))] []
noncomputable def impl_PotReport (a0 : List T_Pot.ty) : Option (List (List UInt8) × Int) := impl_PotReport_c.f (a0,())
noncomputable def impl_PotReport_p0  (v12 : List T_Pot.ty) (v13 : Int) (v14 : Int) (r4 : List (List (List UInt8))) : Option (List (List UInt8) × Int) :=
 goL impl_PotReport_D impl_PotReport_H (vleave impl_PotReport_ir [.d (.one (.sl T_Pot))] [.tok (.one .str),.d (.one (.int .i64))] [] []) [.c impl_PotReport_k0,.l impl_PotReport_k1,.e 0,.c impl_PotReport_k2]
  ⟨[(4,.view 4 0 r4.length),(12,.sl T_Pot v12),(13,.int .i64 v13),(14,.int .i64 v14)],[(4,some (.sl (.one (.sl (.one .str))) r4))]⟩
theorem impl_PotReport_eq (a0 : List T_Pot.ty) : impl_PotReport a0 =
 (impl_ValidPots a0).bind fun x1 =>
  if (!x1) then
   some ([],1)
  else
   impl_PotReport_p0 a0 (a0.length : Int) 0 [[[112,111,116],[100,114,121],[119,97,116,101,114],[115,116,114,101,110,103,116,104]]] :=
 (mk_f _ _ _ _ _ _ _ 4000).trans (by kernel_rfl)
theorem impl_PotReport_p0_eq  (v12 : List T_Pot.ty) (v13 : Int) (v14 : Int) (r4 : List (List (List UInt8))) : impl_PotReport_p0 v12 v13 v14 r4 =
 if decide (v14 < v13) then
  if decide (0 ≤ v14) then
   (v12[v14.toNat]?).bind fun x1 =>
    (impl_Decimal x1.2.1).bind fun x2 =>
     (impl_Decimal x1.2.2.1).bind fun x3 =>
      (impl_Pot_strength x1).bind fun x4 =>
       (impl_FixedText x4 1).bind fun x5 =>
        if decide (r4.length + 1 < lim) then
         impl_PotReport_p0 v12 v13 (IntKind.i64.wrap (v14 + 1)) ((r4.take r4.length) ++ [[x1.1,x2,x3,x5]])
        else
         none
  else
   none
 else
  (impl_TableLines (r4.take r4.length)).bind fun x6 =>
   some ((x6.1.take x6.1.length),x6.2) :=
 (goL_dn _ _ _ 4000 _ _).trans (by kernel_rfl)
def spec_l30Line_k0 : C :=
 .seq (.seq (.reg false [.V 4 (.mv (.t 3)),.V 5 (.mv (.t 0)),.V 6 (.lens (.t 5)),.V 7 (.bin .lss (.t 4) (.t 6))] [0,3,7] []) (.cond (.t 7) .skip (.exit 0))) (.seq (.block 1 (.seq (.reg false [.V 10 (.mv (.t 0)),.V 11 (.mv (.t 3)),.V 12 (.ix (.t 10) (.t 11)),.V 13 (.bin .lss (.t 12) (.c (.int .u8 32))),.V 14 (.mv (.t 13)),.G 15 (.mv (.t 0)) 4 false,.G 16 (.mv (.t 3)) 4 false,.G 17 (.ix (.t 15) (.t 16)) 4 false,.G 18 (.bin .gtr (.t 17) (.c (.int .u8 126))) 4 false,.V 19 (.pick (.t 14) (.c (.bool true)) (.t 18))] [0,3,19] []) (.cond (.t 19) (.seq (.reg false [.V 2 (.asg (.c (.bool false)))] [2] []) .ret) .skip))) (.reg false [.V 8 (.mv (.t 3)),.V 9 (.bin .add (.t 8) (.c (.int .i64 1))),.V 3 (.asg (.t 9))] [0,3] []))
def spec_l30Line_k1 : C :=
 .norm [0,3] [] spec_l30Line_k0
def spec_l30Line_k2 : C :=
 .seq (.reg false [.V 20 (.mv (.t 0)),.V 21 (.lens (.t 20)),.V 22 (.bin .leq (.t 21) (.c (.int .i64 100))),.V 2 (.asg (.t 22))] [2] []) .ret
def spec_l30Line_ir : Fn := { np := 1,io := [],res := [.t 2],own := [false],body :=
 (.seq (.reg false [.V 2 (.asg (.c (.bool false)))] [0] []) (.seq (.seq (.reg false [.V 3 (.asg (.c (.int .i64 0)))] [0,3] []) (.block 0 (.loop spec_l30Line_k1))) spec_l30Line_k2)) }
noncomputable def spec_l30Line_D : List (Nat × Callee) := []
def spec_l30Line_H : List (Nat × ET) := []
noncomputable def spec_l30Line_c : Callee := mkCallee spec_l30Line_D spec_l30Line_H spec_l30Line_ir [.d (.one .str)] [.d (.one .bool)] []
noncomputable def spec_l30Line (a0 : List UInt8) : Option (Bool) := spec_l30Line_c.f (a0,())
noncomputable def spec_l30Line_p0  (v0 : List UInt8) (v3 : Int) : Option (Bool) :=
 goL spec_l30Line_D spec_l30Line_H (vleave spec_l30Line_ir [.d (.one .str)] [.d (.one .bool)] [] []) [.c spec_l30Line_k0,.l spec_l30Line_k1,.e 0,.c spec_l30Line_k2]
  ⟨[(0,.str v0),(3,.int .i64 v3)],[]⟩
theorem spec_l30Line_eq (a0 : List UInt8) : spec_l30Line a0 =
 spec_l30Line_p0 a0 0 :=
 (mk_f _ _ _ _ _ _ _ 4000).trans (by kernel_rfl)
theorem spec_l30Line_p0_eq  (v0 : List UInt8) (v3 : Int) : spec_l30Line_p0 v0 v3 =
 if decide (v3 < (v0.length : Int)) then
  if decide (0 ≤ v3) then
   (v0[v3.toNat]?).bind fun x1 =>
    if decide ((x1.toNat : Int) < 32) then
     some false
    else
     if decide (0 ≤ v3) then
      (v0[v3.toNat]?).bind fun x2 =>
       if decide ((x2.toNat : Int) > 126) then
        some false
       else
        spec_l30Line_p0 v0 (IntKind.i64.wrap (v3 + 1))
     else
      none
  else
   none
 else
  some (decide ((v0.length : Int) ≤ 100)) :=
 (goL_dn _ _ _ 4000 _ _).trans (by kernel_rfl)
def spec_l30Ok_k0 : C :=
 .seq (.seq (.reg false [.V 4 (.mv (.t 3)),.V 5 (.mv (.t 0)),.V 6 (.len (.t 5)),.V 7 (.bin .lss (.t 4) (.t 6))] [0,3,7] []) (.cond (.t 7) .skip (.exit 0))) (.seq (.block 1 (.seq (.reg false [.V 10 (.mv (.t 0)),.V 11 (.mv (.t 3)),.V 12 (.ia 1 (.t 10) (.t 11)),.V 13 (.ld none (.t 12)),.V 14 (.call (.c (.fn 988 [])) [.t 13]),.V 15 (.un .not (.t 14))] [0,3,15] []) (.cond (.t 15) (.seq (.reg false [.V 2 (.asg (.c (.bool false)))] [2] []) .ret) .skip))) (.reg false [.V 8 (.mv (.t 3)),.V 9 (.bin .add (.t 8) (.c (.int .i64 1))),.V 3 (.asg (.t 9))] [0,3] []))
def spec_l30Ok_k1 : C :=
 .norm [0,3] [] spec_l30Ok_k0
def spec_l30Ok_k2 : C :=
 .seq (.reg false [.V 16 (.mv (.t 0)),.V 17 (.len (.t 16)),.V 18 (.bin .leq (.t 17) (.c (.int .i64 200))),.V 2 (.asg (.t 18))] [2] []) .ret
def spec_l30Ok_ir : Fn := { np := 1,io := [],res := [.t 2],own := [false],body :=
 (.seq (.reg false [.V 2 (.asg (.c (.bool false)))] [0] []) (.seq (.seq (.reg false [.V 3 (.asg (.c (.int .i64 0)))] [0,3] []) (.block 0 (.loop spec_l30Ok_k1))) spec_l30Ok_k2)) }
noncomputable def spec_l30Ok_D : List (Nat × Callee) := [(988,spec_l30Line_c)]
def spec_l30Ok_H : List (Nat × ET) := [(5,(.one .str)),(10,(.one .str)),(16,(.one .str))]
noncomputable def spec_l30Ok_c : Callee := mkCallee spec_l30Ok_D spec_l30Ok_H spec_l30Ok_ir [.d (.one (.sl (.one .str)))] [.d (.one .bool)] []
noncomputable def spec_l30Ok (a0 : List (List UInt8)) : Option (Bool) := spec_l30Ok_c.f (a0,())
noncomputable def spec_l30Ok_p0  (v0 : List (List UInt8)) (v3 : Int) : Option (Bool) :=
 goL spec_l30Ok_D spec_l30Ok_H (vleave spec_l30Ok_ir [.d (.one (.sl (.one .str)))] [.d (.one .bool)] [] []) [.c spec_l30Ok_k0,.l spec_l30Ok_k1,.e 0,.c spec_l30Ok_k2]
  ⟨[(0,.sl (.one .str) v0),(3,.int .i64 v3)],[]⟩
theorem spec_l30Ok_eq (a0 : List (List UInt8)) : spec_l30Ok a0 =
 spec_l30Ok_p0 a0 0 :=
 (mk_f _ _ _ _ _ _ _ 4000).trans (by kernel_rfl)
theorem spec_l30Ok_p0_eq  (v0 : List (List UInt8)) (v3 : Int) : spec_l30Ok_p0 v0 v3 =
 if decide (v3 < (v0.length : Int)) then
  if decide (0 ≤ v3) then
   (v0[v3.toNat]?).bind fun x1 =>
    (spec_l30Line x1).bind fun x2 =>
     if (!x2) then
      some false
     else
      spec_l30Ok_p0 v0 (IntKind.i64.wrap (v3 + 1))
  else
   none
 else
  some (decide ((v0.length : Int) ≤ 200)) :=
 (goL_dn _ _ _ 4000 _ _).trans (by kernel_rfl)
def spec_ValidReport_ir : Fn := { np := 1,io := [],res := [.t 2],own := [false],body :=
 (.seq (.reg false [.V 2 (.asg (.c (.bool false)))] [0] []) (.seq (.reg false [.V 3 (.mv (.t 0)),.V 4 (.call (.c (.fn 822 [])) [.t 3]),.V 2 (.asg (.t 4))] [2] []) .ret)) }
noncomputable def spec_ValidReport_D : List (Nat × Callee) := [(822,spec_l30Ok_c)]
def spec_ValidReport_H : List (Nat × ET) := [(3,(.one .str))]
noncomputable def spec_ValidReport_c : Callee := mkCallee spec_ValidReport_D spec_ValidReport_H spec_ValidReport_ir [.d (.one (.sl (.one .str)))] [.d (.one .bool)] []
noncomputable def spec_ValidReport (a0 : List (List UInt8)) : Option (Bool) := spec_ValidReport_c.f (a0,())
theorem spec_ValidReport_eq (a0 : List (List UInt8)) : spec_ValidReport a0 =
 (spec_l30Ok a0).bind fun x1 =>
  some x1 :=
 (mk_f _ _ _ _ _ _ _ 4000).trans (by kernel_rfl)
def spec_l00Src_text_ir : Fn := { np := 2,io := [true,false],res := [.t 4],own := [false],body :=
 (.seq (.reg false [.V 4 (.asg (.c (.str [])))] [0,1] [0,1000]) (.seq (.reg false [.V 5 (.mv (.t 1)),.V 6 (.mv (.t 0)),.V 7 (.mv (.t 1)),.V 8 (.len (.t 7)),.W 9 (.call (.c (.fn 463 [])) [.t 6,.t 8]),.V 10 (.ia 1 (.t 5) (.t 9)),.V 11 (.ld none (.t 10)),.V 4 (.asg (.t 11))] [0,4] [0,1000]) .ret)) }
noncomputable def spec_l00Src_text_D : List (Nat × Callee) := [(463,spec_l00Src_pick_c)]
def spec_l00Src_text_H : List (Nat × ET) := [(5,(.one .str)),(7,(.one .str))]
noncomputable def spec_l00Src_text_c : Callee := mkCallee spec_l00Src_text_D spec_l00Src_text_H spec_l00Src_text_ir [.box T_l00Src,.d (.one (.sl (.one .str)))] [.d (.one .str)] [.box T_l00Src]
noncomputable def spec_l00Src_text (a0 : T_l00Src.ty) (a1 : List (List UInt8)) : Option (List UInt8 × T_l00Src.ty) := spec_l00Src_text_c.f (a0,a1,())
theorem spec_l00Src_text_eq (a0 : T_l00Src.ty) (a1 : List (List UInt8)) : spec_l00Src_text a0 a1 =
 (spec_l00Src_pick a0 (a1.length : Int)).bind fun x1 =>
  if decide (0 ≤ x1.1) then
   (a1[x1.1.toNat]?).bind fun x2 =>
    some (x2,(x1.2.1,x1.2.2.1,x1.2.2.2.1,()))
  else
   none :=
 (mk_f _ _ _ _ _ _ _ 4000).trans (by kernel_rfl)
def spec_l20DrawOne_ir : Fn := { np := 2,io := [true,false],res := [.cell 4 (some 5)],own := [false],body :=
 (.seq (.reg false [.W 4 (.alloc 5 (.agg [.str [],.str [],.int .i64 0,.int .i64 0,.int .i64 0]))] [0,1,4] [0,4,1000]) (.seq (.reg false [.V 6 (.mv (.t 1)),.V 7 (.mv (.t 0)),.V 8 (.bsl 1 (.str []) 4 [(0,.c (.str [97,109,97,116,105])),(1,.c (.str [103,117,97,100,97,103,110,105,110,105])),(2,.c (.str [114,111,99,99,97])),(3,.c (.str [97,109,97,116,105]))]),.W 9 (.call (.c (.fn 557 [])) [.t 7,.t 8]),.V 10 (.build [.str [],.str [],.int .i64 0,.int .i64 0,.int .i64 0] [(0,1,.t 6),(1,1,.t 9)]),.W 5 (.alloc 5 (.agg [.str [],.str [],.int .i64 0,.int .i64 0,.int .i64 0])),⟨none,true,.sto 5 (.t 5) (.t 10),none,false,[]⟩] [0,4,5] [0,4,5,1000]) (.seq (.reg false [.V 11 (.mv (.t 0)),.W 12 (.call (.c (.fn 463 [])) [.t 11,.c (.int .i64 60)]),.V 13 (.bin .add (.c (.int .i64 1680)) (.t 12)),.V 14 (.fa 2 (.t 5)),⟨none,true,.sto 1 (.t 14) (.t 13),none,false,[]⟩] [0,4,5] [0,4,5,1000]) (.seq (.reg true [⟨some 15,false,.fa 2 (.t 5),none,false,[1000000]⟩,⟨some 16,false,.ld none (.t 15),none,true,[]⟩,.V 17 (.mv (.t 0)),⟨some 18,true,.call (.c (.fn 463 [])) [.t 17,.c (.int .i64 30)],none,false,[5,15]⟩,.V 19 (.bin .add (.t 16) (.t 18)),.V 20 (.fa 3 (.t 5)),⟨none,true,.sto 1 (.t 20) (.t 19),none,false,[]⟩] [0,4,5] [0,4,5,1000]) (.seq (.reg false [.V 21 (.mv (.t 0)),.W 22 (.call (.c (.fn 463 [])) [.t 21,.c (.int .i64 20)]),.V 23 (.bin .add (.c (.int .i64 1)) (.t 22)),.V 24 (.bin .mul (.c (.int .i64 50)) (.t 23)),.V 25 (.fa 4 (.t 5)),⟨none,true,.sto 1 (.t 25) (.t 24),none,false,[]⟩] [0,4,5] [0,4,5,1000]) (.seq (.reg false [.V 26 (.ld (some 5) (.t 5)),⟨none,true,.sto 5 (.t 4) (.t 26),none,false,[]⟩] [0,4] [0,4,1000]) .ret)))))) }
noncomputable def spec_l20DrawOne_D : List (Nat × Callee) := [(463,spec_l00Src_pick_c),(557,spec_l00Src_text_c)]
def spec_l20DrawOne_H : List (Nat × ET) := [(8,(.one .str))]
noncomputable def spec_l20DrawOne_c : Callee := mkCallee spec_l20DrawOne_D spec_l20DrawOne_H spec_l20DrawOne_ir [.box T_l00Src,.d (.one .str)] [.d T_Paper] [.box T_l00Src]
noncomputable def spec_l20DrawOne (a0 : T_l00Src.ty) (a1 : List UInt8) : Option (T_Paper.ty × T_l00Src.ty) := spec_l20DrawOne_c.f (a0,a1,())
theorem spec_l20DrawOne_eq (a0 : T_l00Src.ty) (a1 : List UInt8) : spec_l20DrawOne a0 a1 =
 (spec_l00Src_text a0 [[97,109,97,116,105],[103,117,97,100,97,103,110,105,110,105],[114,111,99,99,97],[97,109,97,116,105]]).bind fun x1 =>
  (spec_l00Src_pick (x1.2.1,x1.2.2.1,x1.2.2.2.1,()) 60).bind fun x2 =>
   (spec_l00Src_pick (x2.2.1,x2.2.2.1,x2.2.2.2.1,()) 30).bind fun x3 =>
    (spec_l00Src_pick (x3.2.1,x3.2.2.1,x3.2.2.2.1,()) 20).bind fun x4 =>
     some ((a1,x1.1,IntKind.i64.wrap (1680 + x2.1),IntKind.i64.wrap ((IntKind.i64.wrap (1680 + x2.1)) + x3.1),IntKind.i64.wrap (50 * (IntKind.i64.wrap (1 + x4.1))),()),(x4.2.1,x4.2.2.1,x4.2.2.2.1,())) :=
 (mk_f _ _ _ _ _ _ _ 4000).trans (by kernel_rfl)
def spec_l20Bent_ir : Fn := { np := 2,io := [true,false],res := [.cell 4 (some 5)],own := [false],body :=
 (.seq (.reg false [.W 3 (.box 5 (.t 1)),.W 4 (.alloc 5 (.agg [.str [],.str [],.int .i64 0,.int .i64 0,.int .i64 0]))] [0,3,4] [0,3,4,1000]) (.seq (.seq (.reg false [.V 5 (.mv (.t 0)),.W 6 (.call (.c (.fn 463 [])) [.t 5,.c (.int .i64 18)])] [0,3,4,6] [0,3,4,1000]) (.block 0 (.seq (.reg false [.V 8 (.bin .eql (.t 6) (.c (.int .i64 0))),.V 7 (.asg (.t 8))] [0,3,4,6,7] [0,3,4,1000]) (.cond (.t 7) (.reg false [.V 9 (.mv (.t 0)),.V 10 (.fa 3 (.t 3)),.V 11 (.ld none (.t 10)),.V 12 (.fa 3 (.t 3)),.V 13 (.ld none (.t 12)),.V 14 (.bin .add (.t 13) (.c (.int .i64 1))),.V 15 (.bsl 1 (.int .i64 0) 4 [(0,.c (.int .i64 1499)),(1,.c (.int .i64 1500)),(2,.t 11),(3,.t 14)]),.W 16 (.call (.c (.fn 445 [])) [.t 9,.t 15]),.V 17 (.fa 2 (.t 3)),⟨none,true,.sto 1 (.t 17) (.t 16),none,false,[]⟩] [0,3,4] [0,3,4,1000]) (.seq (.reg false [.V 19 (.bin .eql (.t 6) (.c (.int .i64 1))),.V 18 (.asg (.t 19))] [0,3,4,6,18] [0,3,4,1000]) (.cond (.t 18) (.reg false [.V 20 (.mv (.t 0)),.V 21 (.bsl 1 (.int .i64 0) 2 [(0,.c (.int .i64 2100)),(1,.c (.int .i64 2101))]),.W 22 (.call (.c (.fn 445 [])) [.t 20,.t 21]),.V 23 (.fa 3 (.t 3)),⟨none,true,.sto 1 (.t 23) (.t 22),none,false,[]⟩] [0,3,4] [0,3,4,1000]) (.seq (.reg false [.V 25 (.bin .eql (.t 6) (.c (.int .i64 2))),.V 24 (.asg (.t 25))] [0,3,4,24] [0,3,4,1000]) (.cond (.t 24) (.reg false [.V 26 (.mv (.t 0)),.V 27 (.bsl 1 (.int .i64 0) 4 [(0,.c (.int .i64 0)),(1,.c (.int .i64 1)),(2,.c (.int .i64 1000)),(3,.c (.int .i64 1001))]),.W 28 (.call (.c (.fn 445 [])) [.t 26,.t 27]),.V 29 (.fa 4 (.t 3)),⟨none,true,.sto 1 (.t 29) (.t 28),none,false,[]⟩] [0,3,4] [0,3,4,1000]) .skip)))))))) (.seq (.reg false [.V 30 (.ld (some 5) (.t 3)),⟨none,true,.sto 5 (.t 4) (.t 30),none,false,[]⟩] [0,4] [0,4,1000]) .ret))) }
noncomputable def spec_l20Bent_D : List (Nat × Callee) := [(445,spec_l00Src_among_c),(463,spec_l00Src_pick_c)]
def spec_l20Bent_H : List (Nat × ET) := [(15,(.one (.int .i64))),(21,(.one (.int .i64))),(27,(.one (.int .i64)))]
noncomputable def spec_l20Bent_c : Callee := mkCallee spec_l20Bent_D spec_l20Bent_H spec_l20Bent_ir [.box T_l00Src,.d T_Paper] [.d T_Paper] [.box T_l00Src]
noncomputable def spec_l20Bent (a0 : T_l00Src.ty) (a1 : T_Paper.ty) : Option (T_Paper.ty × T_l00Src.ty) := spec_l20Bent_c.f (a0,a1,())
theorem spec_l20Bent_eq (a0 : T_l00Src.ty) (a1 : T_Paper.ty) : spec_l20Bent a0 a1 =
 (spec_l00Src_pick a0 18).bind fun x1 =>
  if (x1.1 == 0) then
   (spec_l00Src_among (x1.2.1,x1.2.2.1,x1.2.2.2.1,()) [1499,1500,a1.2.2.2.1,IntKind.i64.wrap (a1.2.2.2.1 + 1)]).bind fun x2 =>
    some ((a1.1,a1.2.1,x2.1,a1.2.2.2.1,a1.2.2.2.2.1,()),(x2.2.1,x2.2.2.1,x2.2.2.2.1,()))
  else
   if (x1.1 == 1) then
    (spec_l00Src_among (x1.2.1,x1.2.2.1,x1.2.2.2.1,()) [2100,2101]).bind fun x3 =>
     some ((a1.1,a1.2.1,a1.2.2.1,x3.1,a1.2.2.2.2.1,()),(x3.2.1,x3.2.2.1,x3.2.2.2.1,()))
   else
    if (x1.1 == 2) then
     (spec_l00Src_among (x1.2.1,x1.2.2.1,x1.2.2.2.1,()) [0,1,1000,1001]).bind fun x4 =>
      some ((a1.1,a1.2.1,a1.2.2.1,a1.2.2.2.1,x4.1,()),(x4.2.1,x4.2.2.1,x4.2.2.2.1,()))
    else
     some (a1,(x1.2.1,x1.2.2.1,x1.2.2.2.1,())) :=
 (mk_f _ _ _ _ _ _ _ 4000).trans (by kernel_rfl)
def spec_l20Draw_k0 : C :=
 .seq (.seq (.reg false [.V 10 (.mv (.t 5)),.V 11 (.mv (.t 3)),.V 12 (.len (.t 11)),.V 13 (.bin .lss (.t 10) (.t 12))] [0,3,4,5,13] [0,3,4,1000]) (.cond (.t 13) .skip (.exit 0))) (.seq (.block 1 (.seq (.reg false [.V 16 (.mv (.t 0)),.W 17 (.call (.c (.fn 642 [])) [.t 16,.c (.int .i64 3)]),.V 18 (.un .not (.t 17))] [0,3,4,5,18] [0,3,4,1000]) (.cond (.t 18) (.reg false [.V 19 (.mv (.t 4)),.V 20 (.mv (.t 0)),.V 21 (.mv (.t 3)),.V 22 (.mv (.t 5)),.V 23 (.ia 1 (.t 21) (.t 22)),.V 24 (.ld none (.t 23)),.W 25 (.call (.c (.fn 806 [])) [.t 20,.t 24]),.V 26 (.bsl 5 (.agg [.str [],.str [],.int .i64 0,.int .i64 0,.int .i64 0]) 1 [(0,.t 25)]),.W 27 (.app 5 56 (.t 19) (.t 26)),.W 4 (.asg (.t 27))] [0,3,4,5] [0,3,4,1000]) .skip))) (.reg false [.V 14 (.mv (.t 5)),.V 15 (.bin .add (.t 14) (.c (.int .i64 1))),.V 5 (.asg (.t 15))] [0,3,4,5] [0,3,4,1000]))
def spec_l20Draw_k1 : C :=
 .norm [0,3,4,5] [0,3,4,1000] spec_l20Draw_k0
def spec_l20Draw_k2 : C :=
 .seq (.seq (.reg false [.V 45 (.mv (.t 7)),.V 46 (.mv (.t 6)),.V 47 (.bin .lss (.t 45) (.t 46))] [0,4,6,7,47] [0,4,1000]) (.cond (.t 47) .skip (.exit 3))) (.seq (.block 4 (.reg false [.V 50 (.mv (.t 4)),.V 51 (.mv (.t 0)),.V 52 (.mv (.t 7)),.V 53 (.bin .add (.c (.int .i64 97)) (.t 52)),.V 54 (.conv (.int .u8) (.t 53)),.V 55 (.bsl 1 (.int .u8 0) 1 [(0,.t 54)]),.V 56 (.conv .bytesStr (.t 55)),.V 57 (.bin .add (.c (.str [110])) (.t 56)),.W 58 (.call (.c (.fn 806 [])) [.t 51,.t 57]),.V 59 (.bsl 5 (.agg [.str [],.str [],.int .i64 0,.int .i64 0,.int .i64 0]) 1 [(0,.t 58)]),.W 60 (.app 5 56 (.t 50) (.t 59)),.W 4 (.asg (.t 60))] [0,4,6,7] [0,4,1000])) (.reg false [.V 48 (.mv (.t 7)),.V 49 (.bin .add (.t 48) (.c (.int .i64 1))),.V 7 (.asg (.t 49))] [0,4,6,7] [0,4,1000]))
def spec_l20Draw_k3 : C :=
 .norm [0,4,6,7] [0,4,1000] spec_l20Draw_k2
def spec_l20Draw_k4 : C :=
 .seq (.reg false [.V 61 (.mv (.t 4)),.W 2 (.asg (.t 61))] [0,2] [0,2,4,1000]) .ret
def spec_l20Draw_k5 : C :=
 .seq (.seq (.reg false [.V 28 (.mv (.t 0)),.W 29 (.call (.c (.fn 463 [])) [.t 28,.c (.int .i64 20)])] [0,4,29] [0,4,1000]) (.block 2 (.seq (.reg false [.V 31 (.bin .eql (.t 29) (.c (.int .i64 0))),.V 30 (.asg (.t 31))] [0,4,29,30] [0,4,1000]) (.cond (.t 30) (.reg false [.V 32 (.mv (.t 4)),.V 33 (.mv (.t 0)),.V 34 (.mv (.t 0)),.W 35 (.call (.c (.fn 806 [])) [.t 34,.c (.str [122,122])]),.W 36 (.call (.c (.fn 807 [])) [.t 33,.t 35]),.V 37 (.bsl 5 (.agg [.str [],.str [],.int .i64 0,.int .i64 0,.int .i64 0]) 1 [(0,.t 36)]),.W 38 (.app 5 56 (.t 32) (.t 37)),.W 4 (.asg (.t 38))] [0,4] [0,4,1000]) (.seq (.reg false [.V 40 (.bin .eql (.t 29) (.c (.int .i64 1))),.V 39 (.asg (.t 40))] [0,4,39] [0,4,1000]) (.cond (.t 39) (.seq (.reg false [.V 41 (.mv (.t 0)),.V 42 (.bsl 1 (.int .i64 0) 2 [(0,.c (.int .i64 12)),(1,.c (.int .i64 13))]),.W 43 (.call (.c (.fn 445 [])) [.t 41,.t 42]),.V 6 (.asg (.t 43))] [0,6] [0,1000]) (.seq (.reg false [.V 44 (.bsl 5 (.agg [.str [],.str [],.int .i64 0,.int .i64 0,.int .i64 0]) 0 []),.W 4 (.asg (.t 44))] [0,4,6] [0,4,1000]) (.seq (.reg false [.V 7 (.asg (.c (.int .i64 0)))] [0,4,6,7] [0,4,1000]) (.block 3 (.loop spec_l20Draw_k3))))) .skip)))))) spec_l20Draw_k4
def spec_l20Draw_ir : Fn := { np := 1,io := [true],res := [.t 2],own := [true],body :=
 (.seq (.reg false [.W 2 (.asg (.c (.nils 5)))] [0] [0,1000]) (.seq (.reg false [.V 8 (.bsl 1 (.str []) 6 [(0,.c (.str [112,97])),(1,.c (.str [112,98])),(2,.c (.str [112,99])),(3,.c (.str [112,100])),(4,.c (.str [112,101])),(5,.c (.str [112,102]))]),.W 3 (.asg (.t 8))] [0,3] [0,3,1000]) (.seq (.reg false [.V 9 (.bsl 5 (.agg [.str [],.str [],.int .i64 0,.int .i64 0,.int .i64 0]) 0 []),.W 4 (.asg (.t 9))] [0,3,4] [0,3,4,1000]) (.seq (.seq (.reg false [.V 5 (.asg (.c (.int .i64 0)))] [0,3,4,5] [0,3,4,1000]) (.block 0 (.loop spec_l20Draw_k1))) spec_l20Draw_k5)))) }
noncomputable def spec_l20Draw_D : List (Nat × Callee) := [(445,spec_l00Src_among_c),(463,spec_l00Src_pick_c),(642,spec_l00Src_one_c),(806,spec_l20DrawOne_c),(807,spec_l20Bent_c)]
def spec_l20Draw_H : List (Nat × ET) := [(2,T_Paper),(3,(.one .str)),(4,T_Paper),(8,(.one .str)),(9,T_Paper),(11,(.one .str)),(19,T_Paper),(21,(.one .str)),(26,T_Paper),(27,T_Paper),(32,T_Paper),(37,T_Paper),(38,T_Paper),(42,(.one (.int .i64))),(44,T_Paper),(50,T_Paper),(55,(.one (.int .u8))),(59,T_Paper),(60,T_Paper),(61,T_Paper)]
noncomputable def spec_l20Draw_c : Callee := mkCallee spec_l20Draw_D spec_l20Draw_H spec_l20Draw_ir [.box T_l00Src] [.tok T_Paper] [.box T_l00Src]
noncomputable def spec_l20Draw (a0 : T_l00Src.ty) : Option (List T_Paper.ty × T_l00Src.ty) := spec_l20Draw_c.f (a0,())
noncomputable def spec_l20Draw_p0  (v5 : Int) (r0_0 : List Int) (r0_1 : Int) (r0_2 : Int) (r3 : List (List UInt8)) (r4 : List T_Paper.ty) : Option (List T_Paper.ty × T_l00Src.ty) :=
 goL spec_l20Draw_D spec_l20Draw_H (vleave spec_l20Draw_ir [.box T_l00Src] [.tok T_Paper] [.box T_l00Src] []) [.c spec_l20Draw_k0,.l spec_l20Draw_k1,.e 0,.c spec_l20Draw_k5]
  ⟨[(0,.loc 0 0 0),(3,.view 3 0 r3.length),(4,.view 4 0 r4.length),(5,.int .i64 v5)],[(0,some (.var 3 (.agg [.sl (.one (.int .u8)) r0_0,.int .i64 r0_1,.int .u64 r0_2]))),(3,some (.sl (.one .str) r3)),(4,some (.sl T_Paper r4)),(1000,none)]⟩
noncomputable def spec_l20Draw_p1  (v6 : Int) (v7 : Int) (r0_0 : List Int) (r0_1 : Int) (r0_2 : Int) (r4 : List T_Paper.ty) : Option (List T_Paper.ty × T_l00Src.ty) :=
 goL spec_l20Draw_D spec_l20Draw_H (vleave spec_l20Draw_ir [.box T_l00Src] [.tok T_Paper] [.box T_l00Src] []) [.c spec_l20Draw_k2,.l spec_l20Draw_k3,.e 3,.e 2,.c spec_l20Draw_k4]
  ⟨[(0,.loc 0 0 0),(4,.view 4 0 r4.length),(6,.int .i64 v6),(7,.int .i64 v7)],[(0,some (.var 3 (.agg [.sl (.one (.int .u8)) r0_0,.int .i64 r0_1,.int .u64 r0_2]))),(4,some (.sl T_Paper r4)),(1000,none)]⟩
theorem spec_l20Draw_eq (a0 : T_l00Src.ty) : spec_l20Draw a0 =
 spec_l20Draw_p0 0 a0.1 a0.2.1 a0.2.2.1 [[112,97],[112,98],[112,99],[112,100],[112,101],[112,102]] [] :=
 (mk_f _ _ _ _ _ _ _ 4000).trans (by kernel_rfl)
theorem spec_l20Draw_p0_eq  (v5 : Int) (r0_0 : List Int) (r0_1 : Int) (r0_2 : Int) (r3 : List (List UInt8)) (r4 : List T_Paper.ty) : spec_l20Draw_p0 v5 r0_0 r0_1 r0_2 r3 r4 =
 if decide (v5 < (r3.length : Int)) then
  (spec_l00Src_one (r0_0,r0_1,r0_2,()) 3).bind fun x1 =>
   if (!x1.1) then
    if decide (0 ≤ v5) && decide (v5 < (r3.length : Int)) then
     (r3[v5.toNat]?).bind fun x2 =>
      (spec_l20DrawOne (x1.2.1,x1.2.2.1,x1.2.2.2.1,()) x2).bind fun x3 =>
       if decide (r4.length + 1 < lim) then
        spec_l20Draw_p0 (IntKind.i64.wrap (v5 + 1)) x3.2.1 x3.2.2.1 x3.2.2.2.1 r3 ((r4.take r4.length) ++ [(x3.1.1,x3.1.2.1,x3.1.2.2.1,x3.1.2.2.2.1,x3.1.2.2.2.2.1,())])
       else
        none
    else
     none
   else
    spec_l20Draw_p0 (IntKind.i64.wrap (v5 + 1)) x1.2.1 x1.2.2.1 x1.2.2.2.1 r3 r4
 else
  (spec_l00Src_pick (r0_0,r0_1,r0_2,()) 20).bind fun x4 =>
   if (x4.1 == 0) then
    (spec_l20DrawOne (x4.2.1,x4.2.2.1,x4.2.2.2.1,()) [122,122]).bind fun x5 =>
     (spec_l20Bent (x5.2.1,x5.2.2.1,x5.2.2.2.1,()) (x5.1.1,x5.1.2.1,x5.1.2.2.1,x5.1.2.2.2.1,x5.1.2.2.2.2.1,())).bind fun x6 =>
      if decide (r4.length + 1 < lim) then
       some ((((r4.take r4.length) ++ [(x6.1.1,x6.1.2.1,x6.1.2.2.1,x6.1.2.2.2.1,x6.1.2.2.2.2.1,())]).take (((r4.take r4.length) ++ [(x6.1.1,x6.1.2.1,x6.1.2.2.1,x6.1.2.2.2.1,x6.1.2.2.2.2.1,())]).length)),(x6.2.1,x6.2.2.1,x6.2.2.2.1,()))
      else
       none
   else
    if (x4.1 == 1) then
     (spec_l00Src_among (x4.2.1,x4.2.2.1,x4.2.2.2.1,()) [12,13]).bind fun x7 =>
      spec_l20Draw_p1 x7.1 0 x7.2.1 x7.2.2.1 x7.2.2.2.1 []
    else
     some ((r4.take r4.length),(x4.2.1,x4.2.2.1,x4.2.2.2.1,())) :=
 (goL_dn _ _ _ 4000 _ _).trans (by kernel_rfl)
theorem spec_l20Draw_p1_eq  (v6 : Int) (v7 : Int) (r0_0 : List Int) (r0_1 : Int) (r0_2 : Int) (r4 : List T_Paper.ty) : spec_l20Draw_p1 v6 v7 r0_0 r0_1 r0_2 r4 =
 if decide (v7 < v6) then
  if decide ([110].length + ([IntKind.u8.wrap (IntKind.i64.wrap (97 + v7))].map vu8).length ≤ strMax) then
   (spec_l20DrawOne (r0_0,r0_1,r0_2,()) ([110] ++ ([IntKind.u8.wrap (IntKind.i64.wrap (97 + v7))].map vu8))).bind fun x1 =>
    if decide (r4.length + 1 < lim) then
     spec_l20Draw_p1 v6 (IntKind.i64.wrap (v7 + 1)) x1.2.1 x1.2.2.1 x1.2.2.2.1 ((r4.take r4.length) ++ [(x1.1.1,x1.1.2.1,x1.1.2.2.1,x1.1.2.2.2.1,x1.1.2.2.2.2.1,())])
    else
     none
  else
   none
 else
  some ((r4.take r4.length),(r0_0,r0_1,r0_2,())) :=
 (goL_dn _ _ _ 4000 _ _).trans (by kernel_rfl)
def spec_DrawPaperReport_ir : Fn := { np := 1,io := [],res := [.t 2],own := [true],body :=
 (.seq (.reg false [.W 2 (.asg (.c (.nils 5)))] [0] []) (.seq (.reg false [.V 4 (.mv (.t 0)),.W 5 (.call (.c (.fn 441 [])) [.t 4]),.V 3 (.asg (.t 5))] [3] [5,6000]) (.seq (.reg false [.V 6 (.mv (.t 3)),.W 7 (.call (.c (.fn 633 [])) [.t 6]),.W 2 (.asg (.t 7))] [2] [2]) .ret))) }
noncomputable def spec_DrawPaperReport_D : List (Nat × Callee) := [(441,spec_l00From_c),(633,spec_l20Draw_c)]
def spec_DrawPaperReport_H : List (Nat × ET) := [(2,T_Paper),(4,(.one (.int .u8))),(7,T_Paper)]
noncomputable def spec_DrawPaperReport_c : Callee := mkCallee spec_DrawPaperReport_D spec_DrawPaperReport_H spec_DrawPaperReport_ir [.d (.one (.sl (.one (.int .u8))))] [.tok T_Paper] []
noncomputable def spec_DrawPaperReport (a0 : List Int) : Option (List T_Paper.ty) := spec_DrawPaperReport_c.f (a0,())
theorem spec_DrawPaperReport_eq (a0 : List Int) : spec_DrawPaperReport a0 =
 (spec_l00From a0).bind fun x1 =>
  (spec_l20Draw x1).bind fun x2 =>
   some (x2.1.take x2.1.length) :=
 (mk_f _ _ _ _ _ _ _ 4000).trans (by kernel_rfl)
def impl_Paper_valid_ir : Fn := { np := 1,io := [],res := [.t 2],own := [false],body :=
 (.seq (.reg false [.W 1 (.box 5 (.t 0)),.V 2 (.asg (.c (.bool false)))] [1] [1]) (.seq (.reg false [.V 3 (.fa 0 (.t 1)),.V 4 (.ld none (.t 3)),.V 5 (.call (.c (.fn 24 [])) [.t 4]),.V 6 (.mv (.t 5)),.G 7 (.fa 1 (.t 1)) 3 true,.G 8 (.ld none (.t 7)) 3 true,.G 9 (.call (.c (.fn 24 [])) [.t 8]) 3 true,.V 10 (.pick (.t 6) (.t 9) (.c (.bool false))),.V 11 (.mv (.t 10)),.G 12 (.fa 2 (.t 1)) 8 true,.G 13 (.ld none (.t 12)) 8 true,.G 14 (.bin .leq (.c (.int .i64 1500)) (.t 13)) 8 true,.V 15 (.pick (.t 11) (.t 14) (.c (.bool false))),.V 16 (.mv (.t 15)),.G 17 (.fa 2 (.t 1)) 13 true,.G 18 (.ld none (.t 17)) 13 true,.G 19 (.fa 3 (.t 1)) 13 true,.G 20 (.ld none (.t 19)) 13 true,.G 21 (.bin .leq (.t 18) (.t 20)) 13 true,.V 22 (.pick (.t 16) (.t 21) (.c (.bool false))),.V 23 (.mv (.t 22)),.G 24 (.fa 3 (.t 1)) 20 true,.G 25 (.ld none (.t 24)) 20 true,.G 26 (.bin .leq (.t 25) (.c (.int .i64 2100))) 20 true,.V 27 (.pick (.t 23) (.t 26) (.c (.bool false))),.V 28 (.mv (.t 27)),.G 29 (.fa 4 (.t 1)) 25 true,.G 30 (.ld none (.t 29)) 25 true,.G 31 (.call (.c (.fn 23 [])) [.t 30,.c (.int .i64 1),.c (.int .i64 1000)]) 25 true,.V 32 (.pick (.t 28) (.t 31) (.c (.bool false))),.V 2 (.asg (.t 32))] [2] []) .ret)) }
noncomputable def impl_Paper_valid_D : List (Nat × Callee) := [(23,impl_within_c),(24,impl_IsName_c)]
def impl_Paper_valid_H : List (Nat × ET) := []
noncomputable def impl_Paper_valid_c : Callee := mkCallee impl_Paper_valid_D impl_Paper_valid_H impl_Paper_valid_ir [.d T_Paper] [.d (.one .bool)] []
noncomputable def impl_Paper_valid (a0 : T_Paper.ty) : Option (Bool) := impl_Paper_valid_c.f (a0,())
theorem impl_Paper_valid_eq (a0 : T_Paper.ty) : impl_Paper_valid a0 =
 (impl_IsName a0.1).bind fun x1 =>
  if x1 then
   (impl_IsName a0.2.1).bind fun x2 =>
    if x2 then
     if decide (1500 ≤ a0.2.2.1) then
      if decide (a0.2.2.1 ≤ a0.2.2.2.1) then
       if decide (a0.2.2.2.1 ≤ 2100) then
        (impl_within a0.2.2.2.2.1 1 1000).bind fun x3 =>
         some x3
       else
        some false
      else
       some false
     else
      some false
    else
     some false
  else
   some false :=
 (mk_f _ _ _ _ _ _ _ 4000).trans (by kernel_rfl)
def impl_ValidPapers_k0 : C :=
 .seq (.reg false [.V 8 (.bin .lss (.t 7) (.t 6))] [0,5,6,7,8] []) (.seq (.cond (.t 8) .skip (.exit 0)) (.seq (.block 1 (.seq (.reg false [.V 9 (.mv (.t 7)),.V 10 (.ia 5 (.t 5) (.t 7)),.V 11 (.ld (some 5) (.t 10)),.W 4 (.alloc 5 (.agg [.str [],.str [],.int .i64 0,.int .i64 0,.int .i64 0])),.V 3 (.asg (.t 9)),⟨none,true,.sto 5 (.t 4) (.t 11),none,false,[]⟩] [0,3,4,5,6,7] [4]) (.seq (.reg true [.V 12 (.ld (some 5) (.t 4)),.V 13 (.call (.c (.fn 809 [])) [.t 12]),.V 14 (.un .not (.t 13)),.V 15 (.mv (.t 14)),.G 16 (.mv (.t 3)) 3 false,.G 17 (.bin .gtr (.t 16) (.c (.int .i64 0))) 3 false,.G 18 (.mv (.t 17)) 3 false,.G 19 (.mv (.t 0)) 6 true,.G 20 (.mv (.t 3)) 6 true,.G 21 (.bin .sub (.t 20) (.c (.int .i64 1))) 6 true,.G 22 (.ia 5 (.t 19) (.t 21)) 6 true,.G 23 (.fa 0 (.t 22)) 6 true,.G 24 (.ld none (.t 23)) 6 true,.G 25 (.fa 0 (.t 4)) 6 true,.G 26 (.ld none (.t 25)) 6 true,.G 27 (.bin .geq (.t 24) (.t 26)) 6 true,.G 28 (.pick (.t 18) (.t 27) (.c (.bool false))) 3 false,.V 29 (.pick (.t 15) (.c (.bool true)) (.t 28))] [0,5,6,7,29] []) (.cond (.t 29) (.seq (.reg false [.V 2 (.asg (.c (.bool false)))] [2] []) .ret) .skip)))) (.reg false [.V 30 (.bin .add (.t 7) (.c (.int .i64 1))),.V 7 (.mv (.t 30))] [0,5,6,7] [])))
def impl_ValidPapers_k1 : C :=
 .norm [0,5,6,7] [] impl_ValidPapers_k0
def impl_ValidPapers_k2 : C :=
 .seq (.reg false [.V 31 (.mv (.t 0)),.V 32 (.len (.t 31)),.V 33 (.call (.c (.fn 21 [])) [.t 32,.c (.int .i64 12)]),.V 2 (.asg (.t 33))] [2] []) .ret
def impl_ValidPapers_ir : Fn := { np := 1,io := [],res := [.t 2],own := [false],body :=
 (.seq (.reg false [.V 2 (.asg (.c (.bool false)))] [0] []) (.seq (.seq (.reg false [.V 5 (.mv (.t 0)),.V 6 (.len (.t 5)),.V 7 (.mv (.c (.int .i64 0)))] [0,5,6,7] []) (.block 0 (.loop impl_ValidPapers_k1))) impl_ValidPapers_k2)) }
noncomputable def impl_ValidPapers_D : List (Nat × Callee) := [(21,impl_few_c),(809,impl_Paper_valid_c)]
def impl_ValidPapers_H : List (Nat × ET) := [(5,T_Paper),(19,T_Paper),(31,T_Paper)]
noncomputable def impl_ValidPapers_c : Callee := mkCallee impl_ValidPapers_D impl_ValidPapers_H impl_ValidPapers_ir [.d (.one (.sl T_Paper))] [.d (.one .bool)] []
noncomputable def impl_ValidPapers (a0 : List T_Paper.ty) : Option (Bool) := impl_ValidPapers_c.f (a0,())
noncomputable def impl_ValidPapers_p0  (v0 : List T_Paper.ty) (v5 : List T_Paper.ty) (v6 : Int) (v7 : Int) : Option (Bool) :=
 goL impl_ValidPapers_D impl_ValidPapers_H (vleave impl_ValidPapers_ir [.d (.one (.sl T_Paper))] [.d (.one .bool)] [] []) [.c impl_ValidPapers_k0,.l impl_ValidPapers_k1,.e 0,.c impl_ValidPapers_k2]
  ⟨[(0,.sl T_Paper v0),(5,.sl T_Paper v5),(6,.int .i64 v6),(7,.int .i64 v7)],[]⟩
theorem impl_ValidPapers_eq (a0 : List T_Paper.ty) : impl_ValidPapers a0 =
 impl_ValidPapers_p0 a0 a0 (a0.length : Int) 0 :=
 (mk_f _ _ _ _ _ _ _ 4000).trans (by kernel_rfl)
theorem impl_ValidPapers_p0_eq  (v0 : List T_Paper.ty) (v5 : List T_Paper.ty) (v6 : Int) (v7 : Int) : impl_ValidPapers_p0 v0 v5 v6 v7 =
 if decide (v7 < v6) then
  if decide (0 ≤ v7) then
   (v5[v7.toNat]?).bind fun x1 =>
    (impl_Paper_valid x1).bind fun x2 =>
     if (!x2) then
      some false
     else
      if decide (v7 > 0) then
       if decide (0 ≤ IntKind.i64.wrap (v7 - 1)) then
        (v0[(IntKind.i64.wrap (v7 - 1)).toNat]?).bind fun x3 =>
         if (!Op.bytesLess x3.1 x1.1) then
          some false
         else
          impl_ValidPapers_p0 v0 v5 v6 (IntKind.i64.wrap (v7 + 1))
       else
        none
      else
       impl_ValidPapers_p0 v0 v5 v6 (IntKind.i64.wrap (v7 + 1))
  else
   none
 else
  (impl_few (v0.length : Int) 12).bind fun x4 =>
   some x4 :=
 (goL_dn _ _ _ 4000 _ _).trans (by kernel_rfl)
def impl_PaperReport_k0 : C :=
 .seq (.reg false [.V 15 (.bin .lss (.t 14) (.t 13))] [4,12,13,14,15] [4]) (.seq (.cond (.t 15) .skip (.exit 0)) (.seq (.block 1 (.seq (.reg false [.V 16 (.ia 5 (.t 12) (.t 14)),.V 17 (.ld (some 5) (.t 16)),.W 6 (.alloc 5 (.agg [.str [],.str [],.int .i64 0,.int .i64 0,.int .i64 0])),⟨none,true,.sto 5 (.t 6) (.t 17),none,false,[]⟩] [4,6,12,13,14] [4,6]) (.reg true [.V 18 (.mv (.t 4)),.V 19 (.fa 0 (.t 6)),.V 20 (.ld none (.t 19)),.V 21 (.fa 1 (.t 6)),.V 22 (.ld none (.t 21)),.V 23 (.fa 2 (.t 6)),.V 24 (.ld none (.t 23)),.V 25 (.call (.c (.fn 524 [])) [.t 24]),.V 26 (.bin .add (.t 25) (.c (.str [45]))),.V 27 (.fa 3 (.t 6)),.V 28 (.ld none (.t 27)),.V 29 (.call (.c (.fn 524 [])) [.t 28]),.V 30 (.bin .add (.t 26) (.t 29)),.V 31 (.fa 4 (.t 6)),.V 32 (.ld none (.t 31)),.V 33 (.call (.c (.fn 524 [])) [.t 32]),.V 34 (.bsl 1 (.str []) 4 [(0,.t 20),(1,.t 22),(2,.t 30),(3,.t 33)]),⟨some 35,true,.bsl 1 (.sl 1 []) 1 [(0,.t 34)],none,false,[4]⟩,.W 36 (.app 1 24 (.t 18) (.t 35)),.W 4 (.asg (.t 36))] [4,12,13,14] [4]))) (.reg false [.V 37 (.bin .add (.t 14) (.c (.int .i64 1))),.V 14 (.mv (.t 37))] [4,12,13,14] [4])))
def impl_PaperReport_k1 : C :=
 .norm [4,12,13,14] [4] impl_PaperReport_k0
def impl_PaperReport_k2 : C :=
 .seq (.reg false [.V 38 (.mv (.t 4)),.V 39 (.call (.c (.fn 219 [])) [.t 38]),.V 40 (.ext (.t 39) 0),.V 41 (.ext (.t 39) 1),.W 2 (.asg (.t 40)),.V 3 (.asg (.t 41))] [2,3] [2]) .ret
def impl_PaperReport_ir : Fn := { np := 1,io := [],res := [.t 2,.t 3],own := [true,false],body :=
 (.seq (.reg false [.W 2 (.asg (.c (.nils 1))),.V 3 (.asg (.c (.int .i64 0)))] [0] []) (.seq (.seq (.reg false [.V 7 (.mv (.t 0)),.V 8 (.call (.c (.fn 635 [])) [.t 7]),.V 9 (.un .not (.t 8))] [0,9] []) (.cond (.t 9) (.seq (.reg false [.W 2 (.asg (.c (.nils 1))),.V 3 (.asg (.c (.int .i64 1)))] [2,3] [2]) .ret) .skip)) (.seq (.reg false [.V 10 (.bsl 1 (.str []) 4 [(0,.c (.str [112,97,112,101,114])),(1,.c (.str [109,97,107,101,114])),(2,.c (.str [121,101,97,114,115])),(3,.c (.str [116,114,117,115,116]))]),.W 11 (.bsl 1 (.sl 1 []) 1 [(0,.t 10)]),.W 4 (.asg (.t 11))] [0,4] [4]) (.seq (.seq (.reg false [.V 12 (.mv (.t 0)),.V 13 (.len (.t 12)),.V 14 (.mv (.c (.int .i64 0)))] [4,12,13,14] [4]) (.block 0 (.loop impl_PaperReport_k1))) impl_PaperReport_k2)))) }
noncomputable def impl_PaperReport_D : List (Nat × Callee) := [(219,impl_TableLines_c),(524,impl_Decimal_c),(635,impl_ValidPapers_c)]
def impl_PaperReport_H : List (Nat × ET) := [(2,(.one .str)),(4,(.one (.sl (.one .str)))),(7,T_Paper),(10,(.one .str)),(11,(.one (.sl (.one .str)))),(12,T_Paper),(18,(.one (.sl (.one .str)))),(34,(.one .str)),(35,(.one (.sl (.one .str)))),(36,(.one (.sl (.one .str)))),(38,(.one (.sl (.one .str)))),(40,(.one .str))]
noncomputable def impl_PaperReport_c : Callee := mkCallee impl_PaperReport_D impl_PaperReport_H impl_PaperReport_ir [.d (.one (.sl T_Paper))] [.tok (.one .str),.d (.one (.int .i64))] []
noncomputable def impl_PaperReport (a0 : List T_Paper.ty) : Option (List (List UInt8) × Int) := impl_PaperReport_c.f (a0,())
noncomputable def impl_PaperReport_p0  (v12 : List T_Paper.ty) (v13 : Int) (v14 : Int) (r4 : List (List (List UInt8))) : Option (List (List UInt8) × Int) :=
 goL impl_PaperReport_D impl_PaperReport_H (vleave impl_PaperReport_ir [.d (.one (.sl T_Paper))] [.tok (.one .str),.d (.one (.int .i64))] [] []) [.c impl_PaperReport_k0,.l impl_PaperReport_k1,.e 0,.c impl_PaperReport_k2]
  ⟨[(4,.view 4 0 r4.length),(12,.sl T_Paper v12),(13,.int .i64 v13),(14,.int .i64 v14)],[(4,some (.sl (.one (.sl (.one .str))) r4))]⟩
theorem impl_PaperReport_eq (a0 : List T_Paper.ty) : impl_PaperReport a0 =
 (impl_ValidPapers a0).bind fun x1 =>
  if (!x1) then
   some ([],1)
  else
   impl_PaperReport_p0 a0 (a0.length : Int) 0 [[[112,97,112,101,114],[109,97,107,101,114],[121,101,97,114,115],[116,114,117,115,116]]] :=
 (mk_f _ _ _ _ _ _ _ 4000).trans (by kernel_rfl)
theorem impl_PaperReport_p0_eq  (v12 : List T_Paper.ty) (v13 : Int) (v14 : Int) (r4 : List (List (List UInt8))) : impl_PaperReport_p0 v12 v13 v14 r4 =
 if decide (v14 < v13) then
  if decide (0 ≤ v14) then
   (v12[v14.toNat]?).bind fun x1 =>
    (impl_Decimal x1.2.2.1).bind fun x2 =>
     if decide (x2.length + [45].length ≤ strMax) then
      (impl_Decimal x1.2.2.2.1).bind fun x3 =>
       if decide ((x2 ++ [45]).length + x3.length ≤ strMax) then
        (impl_Decimal x1.2.2.2.2.1).bind fun x4 =>
         if decide (r4.length + 1 < lim) then
          impl_PaperReport_p0 v12 v13 (IntKind.i64.wrap (v14 + 1)) ((r4.take r4.length) ++ [[x1.1,x1.2.1,(x2 ++ [45]) ++ x3,x4]])
         else
          none
       else
        none
     else
      none
  else
   none
 else
  (impl_TableLines (r4.take r4.length)).bind fun x5 =>
   some ((x5.1.take x5.1.length),x5.2) :=
 (goL_dn _ _ _ 4000 _ _).trans (by kernel_rfl)
def spec_l30DrawWord_ir : Fn := { np := 1,io := [true],res := [.t 2],own := [false],body :=
 (.seq (.reg false [.V 2 (.asg (.c (.str [])))] [0] [0,1000]) (.seq (.reg false [.V 3 (.mv (.t 0)),.V 4 (.bsl 1 (.str []) 8 [(0,.c (.str [97])),(1,.c (.str [99,99,99])),(2,.c (.str [49,50])),(3,.c (.str [45,53])),(4,.c (.str [119,111,111,100])),(5,.c (.str [])),(6,.c (.str [120,44,121])),(7,.c (.str [126]))]),.W 5 (.call (.c (.fn 557 [])) [.t 3,.t 4]),.V 2 (.asg (.t 5))] [0,2] [0,1000]) .ret)) }
noncomputable def spec_l30DrawWord_D : List (Nat × Callee) := [(557,spec_l00Src_text_c)]
def spec_l30DrawWord_H : List (Nat × ET) := [(4,(.one .str))]
noncomputable def spec_l30DrawWord_c : Callee := mkCallee spec_l30DrawWord_D spec_l30DrawWord_H spec_l30DrawWord_ir [.box T_l00Src] [.d (.one .str)] [.box T_l00Src]
noncomputable def spec_l30DrawWord (a0 : T_l00Src.ty) : Option (List UInt8 × T_l00Src.ty) := spec_l30DrawWord_c.f (a0,())
theorem spec_l30DrawWord_eq (a0 : T_l00Src.ty) : spec_l30DrawWord a0 =
 (spec_l00Src_text a0 [[97],[99,99,99],[49,50],[45,53],[119,111,111,100],[],[120,44,121],[126]]).bind fun x1 =>
  some (x1.1,(x1.2.1,x1.2.2.1,x1.2.2.2.1,())) :=
 (mk_f _ _ _ _ _ _ _ 4000).trans (by kernel_rfl)
def spec_l30Draw_k0 : C :=
 .seq (.seq (.reg false [.V 11 (.mv (.t 4)),.V 12 (.bin .gtr (.t 11) (.c (.int .i64 0)))] [0,3,4,12] [0,3,1000]) (.cond (.t 12) .skip (.exit 0))) (.seq (.block 1 (.seq (.reg false [.V 15 (.mv (.t 0)),.W 16 (.call (.c (.fn 870 [])) [.t 15]),.V 5 (.asg (.t 16))] [0,3,4,5] [0,3,1000]) (.seq (.reg false [.V 17 (.mv (.t 5)),.V 18 (.mv (.t 0)),.V 19 (.bsl 1 (.str []) 3 [(0,.c (.str [])),(1,.c (.str [32])),(2,.c (.str [32,32]))]),.W 20 (.call (.c (.fn 557 [])) [.t 18,.t 19]),.V 21 (.bin .add (.t 17) (.t 20)),.V 5 (.asg (.t 21))] [0,3,4,5] [0,3,1000]) (.reg false [.V 22 (.mv (.t 3)),.V 23 (.mv (.t 5)),.V 24 (.mv (.t 0)),.W 25 (.call (.c (.fn 870 [])) [.t 24]),.V 26 (.bin .add (.t 23) (.t 25)),.V 27 (.bsl 1 (.str []) 1 [(0,.t 26)]),.W 28 (.app 1 16 (.t 22) (.t 27)),.W 3 (.asg (.t 28))] [0,3,4] [0,3,1000])))) (.reg false [.V 13 (.mv (.t 4)),.V 14 (.bin .sub (.t 13) (.c (.int .i64 1))),.V 4 (.asg (.t 14))] [0,3,4] [0,3,1000]))
def spec_l30Draw_k1 : C :=
 .norm [0,3,4] [0,3,1000] spec_l30Draw_k0
def spec_l30Draw_k2 : C :=
 .seq (.seq (.reg false [.V 50 (.mv (.t 7)),.V 51 (.lens (.t 50)),.V 52 (.mv (.t 6)),.V 53 (.bin .lss (.t 51) (.t 52))] [0,3,6,7,53] [0,3,1000]) (.cond (.t 53) .skip (.exit 3))) (.block 4 (.reg false [.V 54 (.mv (.t 7)),.V 55 (.bin .add (.t 54) (.c (.str [121]))),.V 7 (.asg (.t 55))] [0,3,6,7] [0,3,1000]))
def spec_l30Draw_k3 : C :=
 .norm [0,3,6,7] [0,3,1000] spec_l30Draw_k2
def spec_l30Draw_k4 : C :=
 .reg false [.V 56 (.mv (.t 3)),.V 57 (.mv (.t 7)),.V 58 (.bsl 1 (.str []) 1 [(0,.t 57)]),.W 59 (.app 1 16 (.t 56) (.t 58)),.W 3 (.asg (.t 59))] [0,3] [0,3,1000]
def spec_l30Draw_k5 : C :=
 .seq (.reg false [.V 60 (.mv (.t 3)),.W 2 (.asg (.t 60))] [0,2] [0,2,3,1000]) .ret
def spec_l30Draw_k6 : C :=
 .seq (.seq (.reg false [.V 29 (.mv (.t 0)),.W 30 (.call (.c (.fn 463 [])) [.t 29,.c (.int .i64 20)])] [0,3,30] [0,3,1000]) (.block 2 (.seq (.reg false [.V 32 (.bin .eql (.t 30) (.c (.int .i64 0))),.V 31 (.asg (.t 32))] [0,3,30,31] [0,3,1000]) (.cond (.t 31) (.reg false [.V 33 (.mv (.t 3)),.V 34 (.mv (.t 0)),.V 35 (.bsl 1 (.str []) 3 [(0,.c (.str [10])),(1,.c (.str [97,127])),(2,.c (.str [9]))]),.W 36 (.call (.c (.fn 557 [])) [.t 34,.t 35]),.V 37 (.bsl 1 (.str []) 1 [(0,.t 36)]),.W 38 (.app 1 16 (.t 33) (.t 37)),.W 3 (.asg (.t 38))] [0,3] [0,3,1000]) (.seq (.reg false [.V 40 (.bin .eql (.t 30) (.c (.int .i64 1))),.V 39 (.asg (.t 40))] [0,3,30,39] [0,3,1000]) (.cond (.t 39) (.reg false [.V 41 (.mv (.t 0)),.V 42 (.bsl 1 (.int .i64 0) 2 [(0,.c (.int .i64 200)),(1,.c (.int .i64 201))]),.W 43 (.call (.c (.fn 445 [])) [.t 41,.t 42]),.V 44 (.mks 1 16 (.str []) (.t 43) (.t 43)),.W 3 (.asg (.t 44))] [0,3] [0,3,1000]) (.seq (.reg false [.V 46 (.bin .eql (.t 30) (.c (.int .i64 2))),.V 45 (.asg (.t 46))] [0,3,45] [0,3,1000]) (.cond (.t 45) (.seq (.reg false [.V 47 (.mv (.t 0)),.V 48 (.bsl 1 (.int .i64 0) 2 [(0,.c (.int .i64 100)),(1,.c (.int .i64 101))]),.W 49 (.call (.c (.fn 445 [])) [.t 47,.t 48]),.V 6 (.asg (.t 49))] [0,3,6] [0,3,1000]) (.seq (.reg false [.V 7 (.asg (.c (.str [])))] [0,3,6,7] [0,3,1000]) (.seq (.block 3 (.loop spec_l30Draw_k3)) spec_l30Draw_k4))) .skip)))))))) spec_l30Draw_k5
def spec_l30Draw_ir : Fn := { np := 1,io := [true],res := [.t 2],own := [true],body :=
 (.seq (.reg false [.W 2 (.asg (.c (.nils 1)))] [0] [0,1000]) (.seq (.reg false [.V 8 (.bsl 1 (.str []) 0 []),.W 3 (.asg (.t 8))] [0,3] [0,3,1000]) (.seq (.seq (.reg false [.V 9 (.mv (.t 0)),.W 10 (.call (.c (.fn 463 [])) [.t 9,.c (.int .i64 8)]),.V 4 (.asg (.t 10))] [0,3,4] [0,3,1000]) (.block 0 (.loop spec_l30Draw_k1))) spec_l30Draw_k6))) }
noncomputable def spec_l30Draw_D : List (Nat × Callee) := [(445,spec_l00Src_among_c),(463,spec_l00Src_pick_c),(557,spec_l00Src_text_c),(870,spec_l30DrawWord_c)]
def spec_l30Draw_H : List (Nat × ET) := [(2,(.one .str)),(3,(.one .str)),(8,(.one .str)),(19,(.one .str)),(22,(.one .str)),(27,(.one .str)),(28,(.one .str)),(33,(.one .str)),(35,(.one .str)),(37,(.one .str)),(38,(.one .str)),(42,(.one (.int .i64))),(44,(.one .str)),(48,(.one (.int .i64))),(56,(.one .str)),(58,(.one .str)),(59,(.one .str)),(60,(.one .str))]
noncomputable def spec_l30Draw_c : Callee := mkCallee spec_l30Draw_D spec_l30Draw_H spec_l30Draw_ir [.box T_l00Src] [.tok (.one .str)] [.box T_l00Src]
noncomputable def spec_l30Draw (a0 : T_l00Src.ty) : Option (List (List UInt8) × T_l00Src.ty) := spec_l30Draw_c.f (a0,())
noncomputable def spec_l30Draw_p0  (v4 : Int) (r0_0 : List Int) (r0_1 : Int) (r0_2 : Int) (r3 : List (List UInt8)) : Option (List (List UInt8) × T_l00Src.ty) :=
 goL spec_l30Draw_D spec_l30Draw_H (vleave spec_l30Draw_ir [.box T_l00Src] [.tok (.one .str)] [.box T_l00Src] []) [.c spec_l30Draw_k0,.l spec_l30Draw_k1,.e 0,.c spec_l30Draw_k6]
  ⟨[(0,.loc 0 0 0),(3,.view 3 0 r3.length),(4,.int .i64 v4)],[(0,some (.var 3 (.agg [.sl (.one (.int .u8)) r0_0,.int .i64 r0_1,.int .u64 r0_2]))),(3,some (.sl (.one .str) r3)),(1000,none)]⟩
noncomputable def spec_l30Draw_p1  (v6 : Int) (v7 : List UInt8) (r0_0 : List Int) (r0_1 : Int) (r0_2 : Int) (r3 : List (List UInt8)) : Option (List (List UInt8) × T_l00Src.ty) :=
 goL spec_l30Draw_D spec_l30Draw_H (vleave spec_l30Draw_ir [.box T_l00Src] [.tok (.one .str)] [.box T_l00Src] []) [.c spec_l30Draw_k2,.l spec_l30Draw_k3,.e 3,.c spec_l30Draw_k4,.e 2,.c spec_l30Draw_k5]
  ⟨[(0,.loc 0 0 0),(3,.view 3 0 r3.length),(6,.int .i64 v6),(7,.str v7)],[(0,some (.var 3 (.agg [.sl (.one (.int .u8)) r0_0,.int .i64 r0_1,.int .u64 r0_2]))),(3,some (.sl (.one .str) r3)),(1000,none)]⟩
theorem spec_l30Draw_eq (a0 : T_l00Src.ty) : spec_l30Draw a0 =
 (spec_l00Src_pick a0 8).bind fun x1 =>
  spec_l30Draw_p0 x1.1 x1.2.1 x1.2.2.1 x1.2.2.2.1 [] :=
 (mk_f _ _ _ _ _ _ _ 4000).trans (by kernel_rfl)
theorem spec_l30Draw_p0_eq  (v4 : Int) (r0_0 : List Int) (r0_1 : Int) (r0_2 : Int) (r3 : List (List UInt8)) : spec_l30Draw_p0 v4 r0_0 r0_1 r0_2 r3 =
 if decide (v4 > 0) then
  (spec_l30DrawWord (r0_0,r0_1,r0_2,())).bind fun x1 =>
   (spec_l00Src_text (x1.2.1,x1.2.2.1,x1.2.2.2.1,()) [[],[32],[32,32]]).bind fun x2 =>
    if decide (x1.1.length + x2.1.length ≤ strMax) then
     (spec_l30DrawWord (x2.2.1,x2.2.2.1,x2.2.2.2.1,())).bind fun x3 =>
      if decide ((x1.1 ++ x2.1).length + x3.1.length ≤ strMax) then
       if decide (r3.length + 1 < lim) then
        spec_l30Draw_p0 (IntKind.i64.wrap (v4 - 1)) x3.2.1 x3.2.2.1 x3.2.2.2.1 ((r3.take r3.length) ++ [(x1.1 ++ x2.1) ++ x3.1])
       else
        none
      else
       none
    else
     none
 else
  (spec_l00Src_pick (r0_0,r0_1,r0_2,()) 20).bind fun x4 =>
   if (x4.1 == 0) then
    (spec_l00Src_text (x4.2.1,x4.2.2.1,x4.2.2.2.1,()) [[10],[97,127],[9]]).bind fun x5 =>
     if decide (r3.length + 1 < lim) then
      some ((((r3.take r3.length) ++ [x5.1]).take (((r3.take r3.length) ++ [x5.1]).length)),(x5.2.1,x5.2.2.1,x5.2.2.2.1,()))
     else
      none
   else
    if (x4.1 == 1) then
     (spec_l00Src_among (x4.2.1,x4.2.2.1,x4.2.2.2.1,()) [200,201]).bind fun x6 =>
      if decide (0 ≤ x6.1) && decide (x6.1 ≤ x6.1) && decide (x6.1.toNat < lim) then
       some (((List.replicate x6.1.toNat ([] : List UInt8)).take ((List.replicate x6.1.toNat ([] : List UInt8)).length)),(x6.2.1,x6.2.2.1,x6.2.2.2.1,()))
      else
       none
    else
     if (x4.1 == 2) then
      (spec_l00Src_among (x4.2.1,x4.2.2.1,x4.2.2.2.1,()) [100,101]).bind fun x7 =>
       spec_l30Draw_p1 x7.1 [] x7.2.1 x7.2.2.1 x7.2.2.2.1 r3
     else
      some ((r3.take r3.length),(x4.2.1,x4.2.2.1,x4.2.2.2.1,())) :=
 (goL_dn _ _ _ 4000 _ _).trans (by kernel_rfl)
theorem spec_l30Draw_p1_eq  (v6 : Int) (v7 : List UInt8) (r0_0 : List Int) (r0_1 : Int) (r0_2 : Int) (r3 : List (List UInt8)) : spec_l30Draw_p1 v6 v7 r0_0 r0_1 r0_2 r3 =
 if decide ((v7.length : Int) < v6) then
  if decide (v7.length + [121].length ≤ strMax) then
   spec_l30Draw_p1 v6 (v7 ++ [121]) r0_0 r0_1 r0_2 r3
  else
   none
 else
  if decide (r3.length + 1 < lim) then
   some ((((r3.take r3.length) ++ [v7]).take (((r3.take r3.length) ++ [v7]).length)),(r0_0,r0_1,r0_2,()))
  else
   none :=
 (goL_dn _ _ _ 4000 _ _).trans (by kernel_rfl)
def spec_DrawSortLines_ir : Fn := { np := 1,io := [],res := [.t 2],own := [true],body :=
 (.seq (.reg false [.W 2 (.asg (.c (.nils 1)))] [0] []) (.seq (.reg false [.V 4 (.mv (.t 0)),.W 5 (.call (.c (.fn 441 [])) [.t 4]),.V 3 (.asg (.t 5))] [3] [5,6000]) (.seq (.reg false [.V 6 (.mv (.t 3)),.W 7 (.call (.c (.fn 564 [])) [.t 6]),.W 2 (.asg (.t 7))] [2] [2]) .ret))) }
noncomputable def spec_DrawSortLines_D : List (Nat × Callee) := [(441,spec_l00From_c),(564,spec_l30Draw_c)]
def spec_DrawSortLines_H : List (Nat × ET) := [(2,(.one .str)),(4,(.one (.int .u8))),(7,(.one .str))]
noncomputable def spec_DrawSortLines_c : Callee := mkCallee spec_DrawSortLines_D spec_DrawSortLines_H spec_DrawSortLines_ir [.d (.one (.sl (.one (.int .u8))))] [.tok (.one .str)] []
noncomputable def spec_DrawSortLines (a0 : List Int) : Option (List (List UInt8)) := spec_DrawSortLines_c.f (a0,())
theorem spec_DrawSortLines_eq (a0 : List Int) : spec_DrawSortLines a0 =
 (spec_l00From a0).bind fun x1 =>
  (spec_l30Draw x1).bind fun x2 =>
   some (x2.1.take x2.1.length) :=
 (mk_f _ _ _ _ _ _ _ 4000).trans (by kernel_rfl)
def impl_clone_string__ir : Fn := { np := 1,io := [],res := [.t 2],own := [true],body :=
 (.seq (.reg false [.W 2 (.asg (.c (.nils 1)))] [0] []) (.seq (.reg false [.V 3 (.mv (.t 0)),.V 4 (.len (.t 3)),.V 5 (.mks 1 16 (.str []) (.c (.int .i64 0)) (.t 4)),.V 6 (.mv (.t 0)),.W 7 (.app 1 16 (.t 5) (.t 6)),.W 2 (.asg (.t 7))] [2] [2]) .ret)) }
noncomputable def impl_clone_string__D : List (Nat × Callee) := []
def impl_clone_string__H : List (Nat × ET) := [(2,(.one .str)),(3,(.one .str)),(5,(.one .str)),(6,(.one .str)),(7,(.one .str))]
noncomputable def impl_clone_string__c : Callee := mkCallee impl_clone_string__D impl_clone_string__H impl_clone_string__ir [.d (.one (.sl (.one .str)))] [.tok (.one .str)] []
noncomputable def impl_clone_string_ (a0 : List (List UInt8)) : Option (List (List UInt8)) := impl_clone_string__c.f (a0,())
theorem impl_clone_string__eq (a0 : List (List UInt8)) : impl_clone_string_ a0 =
 if decide (0 ≤ (a0.length : Int)) && decide ((a0.length : Int).toNat < lim) then
  if decide (0 + a0.length < lim) then
   some (([] ++ a0).take (([] ++ a0).length))
  else
   none
 else
  none :=
 (mk_f _ _ _ _ _ _ _ 4000).trans (by kernel_rfl)
noncomputable def slices_Sort___string_string__c : Callee := sortSC
noncomputable def slices_Sort___string_string_ (a0 : List (List UInt8)) : Option (List (List UInt8)) := slices_Sort___string_string__c.f (a0,())
theorem slices_Sort___string_string__eq (a0 : List (List UInt8)) : slices_Sort___string_string_ a0 = if decide (a0.length < 4611686018427387904) then some (a0.mergeSort fun a b => decide (a ≤ b)) else none := rfl
def impl_SortLines_ir : Fn := { np := 1,io := [],res := [.t 2,.t 3],own := [true,false],body :=
 (.seq (.reg false [.W 2 (.asg (.c (.nils 1))),.V 3 (.asg (.c (.int .i64 0)))] [0] []) (.seq (.seq (.reg false [.V 5 (.mv (.t 0)),.V 6 (.call (.c (.fn 566 [])) [.t 5]),.V 7 (.un .not (.t 6))] [0,7] []) (.cond (.t 7) (.seq (.reg false [.W 2 (.asg (.c (.nils 1))),.V 3 (.asg (.c (.int .i64 1)))] [2,3] [2,4]) .ret) .skip)) (.seq (.reg false [.V 8 (.mv (.t 0)),.V 9 (.call (.c (.fn 824 [])) [.t 8]),.W 4 (.asg (.t 9))] [4] [4]) (.seq (.reg false [.V 10 (.mv (.t 4)),.W 11 (.call (.c (.fn 823 [])) [.t 10])] [4] [4]) (.seq (.reg false [.V 12 (.mv (.t 4)),.W 2 (.asg (.t 12)),.V 3 (.asg (.c (.int .i64 0)))] [2,3] [2,4]) .ret))))) }
noncomputable def impl_SortLines_D : List (Nat × Callee) := [(566,impl_ValidReport_c),(823,slices_Sort___string_string__c),(824,impl_clone_string__c)]
def impl_SortLines_H : List (Nat × ET) := [(2,(.one .str)),(4,(.one .str)),(5,(.one .str)),(8,(.one .str)),(9,(.one .str)),(10,(.one .str)),(12,(.one .str))]
noncomputable def impl_SortLines_c : Callee := mkCallee impl_SortLines_D impl_SortLines_H impl_SortLines_ir [.d (.one (.sl (.one .str)))] [.tok (.one .str),.d (.one (.int .i64))] []
noncomputable def impl_SortLines (a0 : List (List UInt8)) : Option (List (List UInt8) × Int) := impl_SortLines_c.f (a0,())
theorem impl_SortLines_eq (a0 : List (List UInt8)) : impl_SortLines a0 =
 (impl_ValidReport a0).bind fun x1 =>
  if (!x1) then
   some ([],1)
  else
   (impl_clone_string_ a0).bind fun x2 =>
    if decide (x2.length = x2.length) then
     (slices_Sort___string_string_ x2).bind fun x3 =>
      some ((x3.take x2.length),0)
    else
     none :=
 (mk_f _ _ _ _ _ _ _ 4000).trans (by kernel_rfl)
noncomputable def slices_Compact___string_string__c : Callee := compactSC
noncomputable def slices_Compact___string_string_ (a0 : List (List UInt8)) : Option (List (List UInt8) × Unit) := slices_Compact___string_string__c.f (a0,())
theorem slices_Compact___string_string__eq (a0 : List (List UInt8)) : slices_Compact___string_string_ a0 = if decide (a0.length ≤ 9223372036854775807) then some (Lib.compact a0,()) else none := rfl
def impl_sortedSet_ir : Fn := { np := 1,io := [true],res := [.t 2],own := [false],body :=
 (.seq (.reg false [.W 2 (.asg (.c (.nils 1)))] [0] [0]) (.seq (.reg false [.V 3 (.mv (.t 0)),.W 4 (.call (.c (.fn 823 [])) [.t 3])] [0] [0]) (.seq (.reg false [.V 5 (.mv (.t 0)),.W 6 (.call (.c (.fn 861 [])) [.t 5]),.W 2 (.asg (.t 6))] [0,2] [0,2]) .ret))),gone := [0] }
noncomputable def impl_sortedSet_D : List (Nat × Callee) := [(823,slices_Sort___string_string__c),(861,slices_Compact___string_string__c)]
def impl_sortedSet_H : List (Nat × ET) := [(2,(.one .str)),(3,(.one .str)),(5,(.one .str)),(6,(.one .str))]
noncomputable def impl_sortedSet_c : Callee := mkCallee impl_sortedSet_D impl_sortedSet_H impl_sortedSet_ir [.ios (.one .str)] [.d (.one (.sl (.one .str)))] [.gone]
noncomputable def impl_sortedSet (a0 : List (List UInt8)) : Option (List (List UInt8) × Unit) := impl_sortedSet_c.f (a0,())
theorem impl_sortedSet_eq (a0 : List (List UInt8)) : impl_sortedSet a0 =
 if decide (a0.length = a0.length) then
  (slices_Sort___string_string_ a0).bind fun x1 =>
   if decide (a0.length = x1.length) then
    (slices_Compact___string_string_ x1).bind fun x2 =>
     some ((x2.1.take x2.1.length),())
   else
    none
 else
  none :=
 (mk_f _ _ _ _ _ _ _ 4000).trans (by kernel_rfl)
def slices_Index___string_string__k0 : C :=
 .seq (.reg false [.V 9 (.bin .lss (.t 8) (.t 7))] [0,1,7,8,9] []) (.seq (.cond (.t 9) .skip (.exit 0)) (.seq (.block 1 (.seq (.reg false [.V 10 (.mv (.t 8)),.V 5 (.asg (.t 10))] [0,1,5,7,8] []) (.seq (.reg false [.V 11 (.mv (.t 1)),.V 12 (.mv (.t 0)),.V 13 (.mv (.t 5)),.V 14 (.ia 1 (.t 12) (.t 13)),.V 15 (.ld none (.t 14)),.V 16 (.bin .eql (.t 11) (.t 15))] [0,1,5,7,8,16] []) (.cond (.t 16) (.seq (.reg false [.V 17 (.mv (.t 5)),.V 4 (.asg (.t 17))] [4] []) .ret) .skip)))) (.reg false [.V 18 (.bin .add (.t 8) (.c (.int .i64 1))),.V 8 (.mv (.t 18))] [0,1,7,8] [])))
def slices_Index___string_string__k1 : C :=
 .norm [0,1,7,8] [] slices_Index___string_string__k0
def slices_Index___string_string__k2 : C :=
 .seq (.reg false [.V 4 (.asg (.c (.int .i64 (-1))))] [4] []) .ret
def slices_Index___string_string__ir : Fn := { np := 2,io := [],res := [.t 4],own := [false],body :=
 (.seq (.reg false [.V 4 (.asg (.c (.int .i64 0)))] [0,1] []) (.seq (.seq (.reg false [.V 6 (.mv (.t 0)),.V 7 (.len (.t 6)),.V 8 (.mv (.c (.int .i64 0)))] [0,1,7,8] []) (.block 0 (.loop slices_Index___string_string__k1))) slices_Index___string_string__k2)) }
noncomputable def slices_Index___string_string__D : List (Nat × Callee) := []
def slices_Index___string_string__H : List (Nat × ET) := [(6,(.one .str)),(12,(.one .str))]
noncomputable def slices_Index___string_string__c : Callee := mkCallee slices_Index___string_string__D slices_Index___string_string__H slices_Index___string_string__ir [.d (.one (.sl (.one .str))),.d (.one .str)] [.d (.one (.int .i64))] []
noncomputable def slices_Index___string_string_ (a0 : List (List UInt8)) (a1 : List UInt8) : Option (Int) := slices_Index___string_string__c.f (a0,a1,())
noncomputable def slices_Index___string_string__p0  (v0 : List (List UInt8)) (v1 : List UInt8) (v7 : Int) (v8 : Int) : Option (Int) :=
 goL slices_Index___string_string__D slices_Index___string_string__H (vleave slices_Index___string_string__ir [.d (.one (.sl (.one .str))),.d (.one .str)] [.d (.one (.int .i64))] [] []) [.c slices_Index___string_string__k0,.l slices_Index___string_string__k1,.e 0,.c slices_Index___string_string__k2]
  ⟨[(0,.sl (.one .str) v0),(1,.str v1),(7,.int .i64 v7),(8,.int .i64 v8)],[]⟩
theorem slices_Index___string_string__eq (a0 : List (List UInt8)) (a1 : List UInt8) : slices_Index___string_string_ a0 a1 =
 slices_Index___string_string__p0 a0 a1 (a0.length : Int) 0 :=
 (mk_f _ _ _ _ _ _ _ 4000).trans (by kernel_rfl)
theorem slices_Index___string_string__p0_eq  (v0 : List (List UInt8)) (v1 : List UInt8) (v7 : Int) (v8 : Int) : slices_Index___string_string__p0 v0 v1 v7 v8 =
 if decide (v8 < v7) then
  if decide (0 ≤ v8) then
   (v0[v8.toNat]?).bind fun x1 =>
    if (v1 == x1) then
     some v8
    else
     slices_Index___string_string__p0 v0 v1 v7 (IntKind.i64.wrap (v8 + 1))
  else
   none
 else
  some (-1) :=
 (goL_dn _ _ _ 4000 _ _).trans (by kernel_rfl)
def impl_CountLines_k0 : C :=
 .seq (.reg false [.V 21 (.bin .lss (.t 20) (.t 19))] [5,6,18,19,20,21] [5,6]) (.seq (.cond (.t 21) .skip (.exit 0)) (.seq (.block 1 (.seq (.reg false [.V 22 (.ia 1 (.t 18) (.t 20)),.V 23 (.ld none (.t 22)),.V 8 (.asg (.t 23))] [5,6,8,18,19,20] [5,6]) (.reg false [.V 24 (.mv (.t 6)),.V 25 (.mv (.t 5)),.V 26 (.mv (.t 8)),.V 27 (.call (.c (.fn 634 [])) [.t 25,.t 26]),.V 28 (.ia 1 (.t 24) (.t 27)),.V 29 (.ld none (.t 28)),.V 30 (.bin .add (.t 29) (.c (.int .i64 1))),.V 31 (.ia 1 (.t 24) (.t 27)),⟨none,true,.sto 1 (.t 31) (.t 30),none,false,[]⟩] [5,6,18,19,20] [5,6]))) (.reg false [.V 32 (.bin .add (.t 20) (.c (.int .i64 1))),.V 20 (.mv (.t 32))] [5,6,18,19,20] [5,6])))
def impl_CountLines_k1 : C :=
 .norm [5,6,18,19,20] [5,6] impl_CountLines_k0
def impl_CountLines_k2 : C :=
 .seq (.reg false [.V 33 (.mv (.t 5)),.V 34 (.mv (.t 6)),.W 2 (.asg (.t 33)),.W 3 (.asg (.t 34)),.V 4 (.asg (.c (.int .i64 0)))] [2,3,4] [2,3,5,6]) .ret
def impl_CountLines_ir : Fn := { np := 1,io := [],res := [.t 2,.t 3,.t 4],own := [false,true,false],body :=
 (.seq (.reg false [.W 2 (.asg (.c (.nils 1))),.W 3 (.asg (.c (.nils 1))),.V 4 (.asg (.c (.int .i64 0)))] [0] []) (.seq (.seq (.reg false [.V 9 (.mv (.t 0)),.V 10 (.call (.c (.fn 566 [])) [.t 9]),.V 11 (.un .not (.t 10))] [0,11] []) (.cond (.t 11) (.seq (.reg false [.W 2 (.asg (.c (.nils 1))),.W 3 (.asg (.c (.nils 1))),.V 4 (.asg (.c (.int .i64 1)))] [2,3,4] [2,3,5,6]) .ret) .skip)) (.seq (.reg false [.V 12 (.mv (.t 0)),.V 13 (.call (.c (.fn 824 [])) [.t 12]),.W 14 (.call (.c (.fn 520 [])) [.t 13]),.W 5 (.asg (.t 14))] [0,5] [5]) (.seq (.reg false [.V 15 (.mv (.t 5)),.V 16 (.len (.t 15)),.V 17 (.mks 1 8 (.int .i64 0) (.t 16) (.t 16)),.W 6 (.asg (.t 17))] [0,5,6] [5,6]) (.seq (.seq (.reg false [.V 18 (.mv (.t 0)),.V 19 (.len (.t 18)),.V 20 (.mv (.c (.int .i64 0)))] [5,6,18,19,20] [5,6]) (.block 0 (.loop impl_CountLines_k1))) impl_CountLines_k2))))) }
noncomputable def impl_CountLines_D : List (Nat × Callee) := [(520,impl_sortedSet_c),(566,impl_ValidReport_c),(634,slices_Index___string_string__c),(824,impl_clone_string__c)]
def impl_CountLines_H : List (Nat × ET) := [(2,(.one .str)),(3,(.one (.int .i64))),(5,(.one .str)),(6,(.one (.int .i64))),(9,(.one .str)),(12,(.one .str)),(13,(.one .str)),(14,(.one .str)),(15,(.one .str)),(17,(.one (.int .i64))),(18,(.one .str)),(24,(.one (.int .i64))),(25,(.one .str)),(33,(.one .str)),(34,(.one (.int .i64)))]
noncomputable def impl_CountLines_c : Callee := mkCallee impl_CountLines_D impl_CountLines_H impl_CountLines_ir [.d (.one (.sl (.one .str)))] [.d (.one (.sl (.one .str))),.tok (.one (.int .i64)),.d (.one (.int .i64))] []
noncomputable def impl_CountLines (a0 : List (List UInt8)) : Option (List (List UInt8) × List Int × Int) := impl_CountLines_c.f (a0,())
noncomputable def impl_CountLines_p0  (v5 : List (List UInt8)) (v6n : Nat) (v18 : List (List UInt8)) (v19 : Int) (v20 : Int) (r6 : List Int) : Option (List (List UInt8) × List Int × Int) :=
 goL impl_CountLines_D impl_CountLines_H (vleave impl_CountLines_ir [.d (.one (.sl (.one .str)))] [.d (.one (.sl (.one .str))),.tok (.one (.int .i64)),.d (.one (.int .i64))] [] []) [.c impl_CountLines_k0,.l impl_CountLines_k1,.e 0,.c impl_CountLines_k2]
  ⟨[(5,.sl (.one .str) v5),(6,.view 6 0 v6n),(18,.sl (.one .str) v18),(19,.int .i64 v19),(20,.int .i64 v20)],[(5,none),(6,some (.sl (.one (.int .i64)) r6))]⟩
theorem impl_CountLines_eq (a0 : List (List UInt8)) : impl_CountLines a0 =
 (impl_ValidReport a0).bind fun x1 =>
  if (!x1) then
   some ([],[],1)
  else
   (impl_clone_string_ a0).bind fun x2 =>
    if decide (x2.length = x2.length) then
     (impl_sortedSet x2).bind fun x3 =>
      if decide (0 ≤ (x3.1.length : Int)) && decide ((x3.1.length : Int) ≤ (x3.1.length : Int)) && decide ((x3.1.length : Int).toNat < lim) then
       impl_CountLines_p0 x3.1 ((List.replicate ((x3.1.length : Int).toNat) (0 : Int)).length) a0 (a0.length : Int) 0 (List.replicate ((x3.1.length : Int).toNat) (0 : Int))
      else
       none
    else
     none :=
 (mk_f _ _ _ _ _ _ _ 4000).trans (by kernel_rfl)
theorem impl_CountLines_p0_eq  (v5 : List (List UInt8)) (v6n : Nat) (v18 : List (List UInt8)) (v19 : Int) (v20 : Int) (r6 : List Int) : impl_CountLines_p0 v5 v6n v18 v19 v20 r6 =
 if decide (v20 < v19) then
  if decide (0 ≤ v20) then
   (v18[v20.toNat]?).bind fun x1 =>
    (slices_Index___string_string_ v5 x1).bind fun x2 =>
     if decide (0 ≤ x2) && decide (x2 < (v6n : Int)) then
      (r6[x2.toNat]?).bind fun x3 =>
       if decide (0 ≤ x2) && decide (x2 < (v6n : Int)) then
        (r6[x2.toNat]?).bind fun x4 =>
         impl_CountLines_p0 v5 v6n v18 v19 (IntKind.i64.wrap (v20 + 1)) (r6.set x2.toNat (IntKind.i64.wrap (x3 + 1)))
       else
        none
     else
      none
  else
   none
 else
  some (v5,(r6.take v6n),0) :=
 (goL_dn _ _ _ 4000 _ _).trans (by kernel_rfl)
def laws_b10Sum_k0 : C :=
 .seq (.seq (.reg false [.V 5 (.mv (.t 4)),.V 6 (.mv (.t 0)),.V 7 (.len (.t 6)),.V 8 (.bin .lss (.t 5) (.t 7))] [0,3,4,8] []) (.cond (.t 8) .skip (.exit 0))) (.seq (.block 1 (.reg false [.V 11 (.mv (.t 3)),.V 12 (.mv (.t 0)),.V 13 (.mv (.t 4)),.V 14 (.ia 1 (.t 12) (.t 13)),.V 15 (.ld none (.t 14)),.V 16 (.bin .add (.t 11) (.t 15)),.V 3 (.asg (.t 16))] [0,3,4] [])) (.reg false [.V 9 (.mv (.t 4)),.V 10 (.bin .add (.t 9) (.c (.int .i64 1))),.V 4 (.asg (.t 10))] [0,3,4] []))
def laws_b10Sum_k1 : C :=
 .norm [0,3,4] [] laws_b10Sum_k0
def laws_b10Sum_k2 : C :=
 .seq (.reg false [.V 17 (.mv (.t 3)),.V 2 (.asg (.t 17))] [2] []) .ret
def laws_b10Sum_ir : Fn := { np := 1,io := [],res := [.t 2],own := [false],body :=
 (.seq (.reg false [.V 2 (.asg (.c (.int .i64 0)))] [0] []) (.seq (.reg false [.V 3 (.asg (.c (.int .i64 0)))] [0,3] []) (.seq (.seq (.reg false [.V 4 (.asg (.c (.int .i64 0)))] [0,3,4] []) (.block 0 (.loop laws_b10Sum_k1))) laws_b10Sum_k2))) }
noncomputable def laws_b10Sum_D : List (Nat × Callee) := []
def laws_b10Sum_H : List (Nat × ET) := [(6,(.one (.int .i64))),(12,(.one (.int .i64)))]
noncomputable def laws_b10Sum_c : Callee := mkCallee laws_b10Sum_D laws_b10Sum_H laws_b10Sum_ir [.d (.one (.sl (.one (.int .i64))))] [.d (.one (.int .i64))] []
noncomputable def laws_b10Sum (a0 : List Int) : Option (Int) := laws_b10Sum_c.f (a0,())
noncomputable def laws_b10Sum_p0  (v0 : List Int) (v3 : Int) (v4 : Int) : Option (Int) :=
 goL laws_b10Sum_D laws_b10Sum_H (vleave laws_b10Sum_ir [.d (.one (.sl (.one (.int .i64))))] [.d (.one (.int .i64))] [] []) [.c laws_b10Sum_k0,.l laws_b10Sum_k1,.e 0,.c laws_b10Sum_k2]
  ⟨[(0,.sl (.one (.int .i64)) v0),(3,.int .i64 v3),(4,.int .i64 v4)],[]⟩
theorem laws_b10Sum_eq (a0 : List Int) : laws_b10Sum a0 =
 laws_b10Sum_p0 a0 0 0 :=
 (mk_f _ _ _ _ _ _ _ 4000).trans (by kernel_rfl)
theorem laws_b10Sum_p0_eq  (v0 : List Int) (v3 : Int) (v4 : Int) : laws_b10Sum_p0 v0 v3 v4 =
 if decide (v4 < (v0.length : Int)) then
  if decide (0 ≤ v4) then
   (v0[v4.toNat]?).bind fun x1 =>
    laws_b10Sum_p0 v0 (IntKind.i64.wrap (v3 + x1)) (IntKind.i64.wrap (v4 + 1))
  else
   none
 else
  some v3 :=
 (goL_dn _ _ _ 4000 _ _).trans (by kernel_rfl)
def impl_endedLines_k0 : C :=
 .seq (.reg false [.V 9 (.bin .lss (.t 8) (.t 7))] [3,6,7,8,9] []) (.seq (.cond (.t 9) .skip (.exit 0)) (.seq (.block 1 (.seq (.reg false [.V 10 (.ia 1 (.t 6) (.t 8)),.V 11 (.ld none (.t 10)),.V 5 (.asg (.t 11))] [3,5,6,7,8] []) (.reg false [.V 12 (.mv (.t 3)),.V 13 (.mv (.t 5)),.V 14 (.bin .add (.t 13) (.c (.str [10]))),.V 15 (.bin .add (.t 12) (.t 14)),.V 3 (.asg (.t 15))] [3,6,7,8] []))) (.reg false [.V 16 (.bin .add (.t 8) (.c (.int .i64 1))),.V 8 (.mv (.t 16))] [3,6,7,8] [])))
def impl_endedLines_k1 : C :=
 .norm [3,6,7,8] [] impl_endedLines_k0
def impl_endedLines_k2 : C :=
 .seq (.reg false [.V 17 (.mv (.t 3)),.V 2 (.asg (.t 17))] [2] []) .ret
def impl_endedLines_ir : Fn := { np := 1,io := [],res := [.t 2],own := [false],body :=
 (.seq (.reg false [.V 2 (.asg (.c (.str [])))] [0] []) (.seq (.reg false [.V 3 (.asg (.c (.str [])))] [0,3] []) (.seq (.seq (.reg false [.V 6 (.mv (.t 0)),.V 7 (.len (.t 6)),.V 8 (.mv (.c (.int .i64 0)))] [3,6,7,8] []) (.block 0 (.loop impl_endedLines_k1))) impl_endedLines_k2))) }
noncomputable def impl_endedLines_D : List (Nat × Callee) := []
def impl_endedLines_H : List (Nat × ET) := [(6,(.one .str))]
noncomputable def impl_endedLines_c : Callee := mkCallee impl_endedLines_D impl_endedLines_H impl_endedLines_ir [.d (.one (.sl (.one .str)))] [.d (.one .str)] []
noncomputable def impl_endedLines (a0 : List (List UInt8)) : Option (List UInt8) := impl_endedLines_c.f (a0,())
noncomputable def impl_endedLines_p0  (v3 : List UInt8) (v6 : List (List UInt8)) (v7 : Int) (v8 : Int) : Option (List UInt8) :=
 goL impl_endedLines_D impl_endedLines_H (vleave impl_endedLines_ir [.d (.one (.sl (.one .str)))] [.d (.one .str)] [] []) [.c impl_endedLines_k0,.l impl_endedLines_k1,.e 0,.c impl_endedLines_k2]
  ⟨[(3,.str v3),(6,.sl (.one .str) v6),(7,.int .i64 v7),(8,.int .i64 v8)],[]⟩
theorem impl_endedLines_eq (a0 : List (List UInt8)) : impl_endedLines a0 =
 impl_endedLines_p0 [] a0 (a0.length : Int) 0 :=
 (mk_f _ _ _ _ _ _ _ 4000).trans (by kernel_rfl)
theorem impl_endedLines_p0_eq  (v3 : List UInt8) (v6 : List (List UInt8)) (v7 : Int) (v8 : Int) : impl_endedLines_p0 v3 v6 v7 v8 =
 if decide (v8 < v7) then
  if decide (0 ≤ v8) then
   (v6[v8.toNat]?).bind fun x1 =>
    if decide (x1.length + [10].length ≤ strMax) then
     if decide (v3.length + (x1 ++ [10]).length ≤ strMax) then
      impl_endedLines_p0 (v3 ++ (x1 ++ [10])) v6 v7 (IntKind.i64.wrap (v8 + 1))
     else
      none
    else
     none
  else
   none
 else
  some v3 :=
 (goL_dn _ _ _ 4000 _ _).trans (by kernel_rfl)
def impl_ReportText_ir : Fn := { np := 1,io := [],res := [.t 2],own := [false],body :=
 (.seq (.reg false [.V 2 (.asg (.c (.str [])))] [0] []) (.seq (.seq (.reg false [.V 3 (.mv (.t 0)),.V 4 (.call (.c (.fn 566 [])) [.t 3]),.V 5 (.un .not (.t 4))] [0,5] []) (.cond (.t 5) (.seq (.reg false [.V 2 (.asg (.c (.str [])))] [2] []) .ret) .skip)) (.seq (.reg false [.V 6 (.mv (.t 0)),.V 7 (.call (.c (.fn 825 [])) [.t 6]),.V 2 (.asg (.t 7))] [2] []) .ret))) }
noncomputable def impl_ReportText_D : List (Nat × Callee) := [(566,impl_ValidReport_c),(825,impl_endedLines_c)]
def impl_ReportText_H : List (Nat × ET) := [(3,(.one .str)),(6,(.one .str))]
noncomputable def impl_ReportText_c : Callee := mkCallee impl_ReportText_D impl_ReportText_H impl_ReportText_ir [.d (.one (.sl (.one .str)))] [.d (.one .str)] []
noncomputable def impl_ReportText (a0 : List (List UInt8)) : Option (List UInt8) := impl_ReportText_c.f (a0,())
theorem impl_ReportText_eq (a0 : List (List UInt8)) : impl_ReportText a0 =
 (impl_ValidReport a0).bind fun x1 =>
  if (!x1) then
   some []
  else
   (impl_endedLines a0).bind fun x2 =>
    some x2 :=
 (mk_f _ _ _ _ _ _ _ 4000).trans (by kernel_rfl)
noncomputable def strings_CutSuffix_c : Callee := cutSuffixC
noncomputable def strings_CutSuffix (a0 : List UInt8) (a1 : List UInt8) : Option (List UInt8 × Bool) := strings_CutSuffix_c.f (a0,a1,())
theorem strings_CutSuffix_eq (a0 : List UInt8) (a1 : List UInt8) : strings_CutSuffix a0 a1 = if decide (a0.length ≤ 9223372036854775807) then some (Lib.trimSuffix a0 a1,Lib.hasSuffix a0 a1) else none := rfl
noncomputable def strings_Split_c : Callee := splitC
noncomputable def strings_Split (a0 : List UInt8) (a1 : List UInt8) : Option (List (List UInt8)) := strings_Split_c.f (a0,a1,())
theorem strings_Split_eq (a0 : List UInt8) (a1 : List UInt8) : strings_Split a0 a1 = if decide (a0.length < 4294967281) && decide (1 ≤ a1.length) then some (Lib.splitK a1 0 (Lib.count a0 a1) a0) else none := rfl
def impl_ReadReport_ir : Fn := { np := 1,io := [],res := [.t 2,.t 3],own := [true,false],body :=
 (.seq (.reg false [.W 2 (.asg (.c (.nils 1))),.V 3 (.asg (.c (.bool false)))] [0] []) (.seq (.seq (.reg false [.V 7 (.mv (.t 0)),.V 8 (.bin .eql (.t 7) (.c (.str [])))] [0,8] []) (.cond (.t 8) (.seq (.reg false [.W 2 (.asg (.c (.nils 1))),.V 3 (.asg (.c (.bool true)))] [2,3] [2,6]) .ret) .skip)) (.seq (.reg false [.V 10 (.mv (.t 0)),.V 11 (.call (.c (.fn 678 [])) [.t 10,.c (.str [10])]),.V 9 (.mv (.t 11)),.V 12 (.ext (.t 9) 0),.V 13 (.ext (.t 9) 1),.V 4 (.asg (.t 12)),.V 5 (.asg (.t 13))] [4,5] []) (.seq (.reg false [.V 14 (.mv (.t 4)),.V 15 (.call (.c (.fn 683 [])) [.t 14,.c (.str [10])]),.W 6 (.asg (.t 15))] [5,6] [6]) (.seq (.seq (.reg false [.V 16 (.mv (.t 5)),.V 17 (.un .not (.t 16)),.V 18 (.mv (.t 17)),.G 19 (.mv (.t 6)) 2 false,.G 20 (.call (.c (.fn 566 [])) [.t 19]) 2 false,.G 21 (.un .not (.t 20)) 2 false,.V 22 (.pick (.t 18) (.c (.bool true)) (.t 21))] [6,22] [6]) (.cond (.t 22) (.seq (.reg false [.W 2 (.asg (.c (.nils 1))),.V 3 (.asg (.c (.bool false)))] [2,3] [2,6]) .ret) .skip)) (.seq (.reg false [.V 23 (.mv (.t 6)),.W 2 (.asg (.t 23)),.V 3 (.asg (.c (.bool true)))] [2,3] [2,6]) .ret)))))) }
noncomputable def impl_ReadReport_D : List (Nat × Callee) := [(566,impl_ValidReport_c),(678,strings_CutSuffix_c),(683,strings_Split_c)]
def impl_ReadReport_H : List (Nat × ET) := [(2,(.one .str)),(6,(.one .str)),(15,(.one .str)),(19,(.one .str)),(23,(.one .str))]
noncomputable def impl_ReadReport_c : Callee := mkCallee impl_ReadReport_D impl_ReadReport_H impl_ReadReport_ir [.d (.one .str)] [.tok (.one .str),.d (.one .bool)] []
noncomputable def impl_ReadReport (a0 : List UInt8) : Option (List (List UInt8) × Bool) := impl_ReadReport_c.f (a0,())
theorem impl_ReadReport_eq (a0 : List UInt8) : impl_ReadReport a0 =
 if (a0 == []) then
  some ([],true)
 else
  (strings_CutSuffix a0 [10]).bind fun x1 =>
   (strings_Split x1.1 [10]).bind fun x2 =>
    if (!x1.2) then
     some ([],false)
    else
     (impl_ValidReport (x2.take x2.length)).bind fun x3 =>
      if (!x3) then
       some ([],false)
      else
       some ((x2.take x2.length),true) :=
 (mk_f _ _ _ _ _ _ _ 4000).trans (by kernel_rfl)
def laws_FnReports_k0 : C :=
 .seq (.seq (.reg false [.V 53 (.mv (.t 8)),.V 54 (.mv (.t 5)),.V 55 (.len (.t 54)),.V 56 (.bin .lss (.t 53) (.t 55))] [1,5,6,8,56] [5,6]) (.cond (.t 56) .skip (.exit 0))) (.seq (.block 1 (.seq (.reg false [.V 59 (.mv (.t 5)),.V 60 (.mv (.t 8)),.V 61 (.ia 5 (.t 59) (.t 60)),.V 62 (.fa 0 (.t 61)),.V 63 (.ld none (.t 62)),.V 9 (.asg (.t 63))] [1,5,6,8,9] [5,6]) (.seq (.reg false [.V 64 (.mv (.t 6)),.V 65 (.mv (.t 8)),.V 66 (.bin .add (.t 65) (.c (.int .i64 1))),.V 67 (.ia 1 (.t 64) (.t 66)),.V 68 (.ld none (.t 67)),.V 69 (.lens (.t 68)),.V 70 (.mv (.t 9)),.V 71 (.lens (.t 70)),.V 72 (.bin .leq (.t 69) (.t 71)),.V 73 (.mv (.t 72)),.G 74 (.mv (.t 6)) 9 false,.G 75 (.mv (.t 8)) 9 false,.G 76 (.bin .add (.t 75) (.c (.int .i64 1))) 9 false,.G 77 (.ia 1 (.t 74) (.t 76)) 9 false,.G 78 (.ld none (.t 77)) 9 false,.G 79 (.mv (.t 9)) 9 false,.G 80 (.lens (.t 79)) 9 false,.G 81 (.slcs (.t 78) none (some (.t 80))) 9 false,.G 82 (.mv (.t 9)) 9 false,.G 83 (.bin .neq (.t 81) (.t 82)) 9 false,.V 84 (.pick (.t 73) (.c (.bool true)) (.t 83))] [1,5,6,8,84] [5,6]) (.cond (.t 84) (.seq (.reg false [.V 4 (.asg (.c (.bool false)))] [4] []) .ret) .skip)))) (.reg false [.V 57 (.mv (.t 8)),.V 58 (.bin .add (.t 57) (.c (.int .i64 1))),.V 8 (.asg (.t 58))] [1,5,6,8] [5,6]))
def laws_FnReports_k1 : C :=
 .norm [1,5,6,8] [5,6] laws_FnReports_k0
def laws_FnReports_k2 : C :=
 .seq (.reg false [.V 8 (.asg (.c (.int .i64 0)))] [1,5,6,8] [5,6]) (.block 0 (.loop laws_FnReports_k1))
def laws_FnReports_k3 : C :=
 .seq (.seq (.reg false [.V 191 (.mv (.t 22)),.V 192 (.mv (.t 13)),.V 193 (.len (.t 192)),.V 194 (.bin .lss (.t 191) (.t 193))] [13,14,16,17,19,20,21,22,194] [13,14,16,17]) (.cond (.t 194) .skip (.exit 4))) (.seq (.block 5 (.seq (.reg true [.V 197 (.mv (.t 13)),.V 198 (.mv (.t 22)),.V 199 (.ia 1 (.t 197) (.t 198)),.V 200 (.ld none (.t 199)),.V 201 (.mv (.t 16)),.V 202 (.mv (.t 20)),.V 203 (.ia 1 (.t 201) (.t 202)),.V 204 (.ld none (.t 203)),.V 205 (.bin .eql (.t 200) (.t 204))] [13,14,16,17,19,20,21,22,205] [13,14,16,17]) (.cond (.t 205) (.reg false [.V 206 (.mv (.t 21)),.V 207 (.bin .add (.t 206) (.c (.int .i64 1))),.V 21 (.asg (.t 207))] [13,14,16,17,19,20,21,22] [13,14,16,17]) .skip))) (.reg false [.V 195 (.mv (.t 22)),.V 196 (.bin .add (.t 195) (.c (.int .i64 1))),.V 22 (.asg (.t 196))] [13,14,16,17,19,20,21,22] [13,14,16,17]))
def laws_FnReports_k4 : C :=
 .norm [13,14,16,17,19,20,21,22] [13,14,16,17] laws_FnReports_k3
def laws_FnReports_k5 : C :=
 .seq (.seq (.reg false [.V 214 (.mv (.t 23)),.V 215 (.mv (.t 17)),.V 216 (.mv (.t 20)),.V 217 (.ia 1 (.t 215) (.t 216)),.V 218 (.ld none (.t 217)),.V 219 (.bin .lss (.t 214) (.t 218))] [13,14,16,17,19,20,23,219] [13,14,16,17]) (.cond (.t 219) .skip (.exit 6))) (.seq (.block 7 (.seq (.reg true [.V 222 (.mv (.t 14)),.V 223 (.mv (.t 19)),.V 224 (.mv (.t 23)),.V 225 (.bin .add (.t 223) (.t 224)),.V 226 (.ia 1 (.t 222) (.t 225)),.V 227 (.ld none (.t 226)),.V 228 (.mv (.t 16)),.V 229 (.mv (.t 20)),.V 230 (.ia 1 (.t 228) (.t 229)),.V 231 (.ld none (.t 230)),.V 232 (.bin .neq (.t 227) (.t 231))] [13,14,16,17,19,20,23,232] [13,14,16,17]) (.cond (.t 232) (.seq (.reg false [.V 4 (.asg (.c (.bool false)))] [4] []) .ret) .skip))) (.reg false [.V 220 (.mv (.t 23)),.V 221 (.bin .add (.t 220) (.c (.int .i64 1))),.V 23 (.asg (.t 221))] [13,14,16,17,19,20,23] [13,14,16,17]))
def laws_FnReports_k6 : C :=
 .norm [13,14,16,17,19,20,23] [13,14,16,17] laws_FnReports_k5
def laws_FnReports_k7 : C :=
 .reg false [.V 233 (.mv (.t 19)),.V 234 (.mv (.t 17)),.V 235 (.mv (.t 20)),.V 236 (.ia 1 (.t 234) (.t 235)),.V 237 (.ld none (.t 236)),.V 238 (.bin .add (.t 233) (.t 237)),.V 19 (.asg (.t 238))] [13,14,16,17,19,20] [13,14,16,17]
def laws_FnReports_k8 : C :=
 .seq (.seq (.reg false [.V 208 (.mv (.t 21)),.V 209 (.mv (.t 17)),.V 210 (.mv (.t 20)),.V 211 (.ia 1 (.t 209) (.t 210)),.V 212 (.ld none (.t 211)),.V 213 (.bin .neq (.t 208) (.t 212))] [13,14,16,17,19,20,213] [13,14,16,17]) (.cond (.t 213) (.seq (.reg false [.V 4 (.asg (.c (.bool false)))] [4] []) .ret) .skip)) (.seq (.seq (.reg false [.V 23 (.asg (.c (.int .i64 0)))] [13,14,16,17,19,20,23] [13,14,16,17]) (.block 6 (.loop laws_FnReports_k6))) laws_FnReports_k7)
def laws_FnReports_k9 : C :=
 .seq (.reg false [.V 21 (.asg (.c (.int .i64 0)))] [13,14,16,17,19,20,21] [13,14,16,17]) (.seq (.seq (.reg false [.V 22 (.asg (.c (.int .i64 0)))] [13,14,16,17,19,20,21,22] [13,14,16,17]) (.block 4 (.loop laws_FnReports_k4))) laws_FnReports_k8)
def laws_FnReports_k10 : C :=
 .reg false [.V 157 (.mv (.t 20)),.V 158 (.bin .add (.t 157) (.c (.int .i64 1))),.V 20 (.asg (.t 158))] [13,14,16,17,19,20] [13,14,16,17]
def laws_FnReports_k11 : C :=
 .seq (.seq (.reg false [.V 153 (.mv (.t 20)),.V 154 (.mv (.t 16)),.V 155 (.len (.t 154)),.V 156 (.bin .lss (.t 153) (.t 155))] [13,14,16,17,19,20,156] [13,14,16,17]) (.cond (.t 156) .skip (.exit 2))) (.seq (.block 3 (.seq (.seq (.reg true [.V 159 (.mv (.t 17)),.V 160 (.mv (.t 20)),.V 161 (.ia 1 (.t 159) (.t 160)),.V 162 (.ld none (.t 161)),.V 163 (.bin .lss (.t 162) (.c (.int .i64 1))),.V 164 (.mv (.t 163)),.G 165 (.mv (.t 19)) 5 false,.G 166 (.mv (.t 17)) 5 false,.G 167 (.mv (.t 20)) 5 false,.G 168 (.ia 1 (.t 166) (.t 167)) 5 false,.G 169 (.ld none (.t 168)) 5 false,.G 170 (.bin .add (.t 165) (.t 169)) 5 false,.G 171 (.mv (.t 14)) 5 false,.G 172 (.len (.t 171)) 5 false,.G 173 (.bin .gtr (.t 170) (.t 172)) 5 false,.V 174 (.pick (.t 164) (.c (.bool true)) (.t 173)),.V 175 (.mv (.t 174)),.G 176 (.mv (.t 20)) 16 false,.G 177 (.bin .gtr (.t 176) (.c (.int .i64 0))) 16 false,.G 178 (.mv (.t 177)) 16 false,.G 179 (.mv (.t 16)) 19 true,.G 180 (.mv (.t 20)) 19 true,.G 181 (.bin .sub (.t 180) (.c (.int .i64 1))) 19 true,.G 182 (.ia 1 (.t 179) (.t 181)) 19 true,.G 183 (.ld none (.t 182)) 19 true,.G 184 (.mv (.t 16)) 19 true,.G 185 (.mv (.t 20)) 19 true,.G 186 (.ia 1 (.t 184) (.t 185)) 19 true,.G 187 (.ld none (.t 186)) 19 true,.G 188 (.bin .geq (.t 183) (.t 187)) 19 true,.G 189 (.pick (.t 178) (.t 188) (.c (.bool false))) 16 false,.V 190 (.pick (.t 175) (.c (.bool true)) (.t 189))] [13,14,16,17,19,20,190] [13,14,16,17]) (.cond (.t 190) (.seq (.reg false [.V 4 (.asg (.c (.bool false)))] [4] []) .ret) .skip)) (.norm [13,14,16,17,19,20] [13,14,16,17] laws_FnReports_k9))) laws_FnReports_k10)
def laws_FnReports_k12 : C :=
 .norm [13,14,16,17,19,20] [13,14,16,17] laws_FnReports_k11
def laws_FnReports_k13 : C :=
 .seq (.seq (.reg false [.V 254 (.mv (.t 26)),.V 255 (.mv (.t 13)),.V 256 (.len (.t 255)),.V 257 (.bin .lss (.t 254) (.t 256))] [13,24,26,257] [13,24]) (.cond (.t 257) .skip (.exit 8))) (.seq (.block 9 (.seq (.reg true [.V 260 (.mv (.t 24)),.V 261 (.mv (.t 26)),.V 262 (.ia 1 (.t 260) (.t 261)),.V 263 (.ld none (.t 262)),.V 264 (.mv (.t 13)),.V 265 (.mv (.t 26)),.V 266 (.ia 1 (.t 264) (.t 265)),.V 267 (.ld none (.t 266)),.V 268 (.bin .neq (.t 263) (.t 267))] [13,24,26,268] [13,24]) (.cond (.t 268) (.seq (.reg false [.V 4 (.asg (.c (.bool false)))] [4] []) .ret) .skip))) (.reg false [.V 258 (.mv (.t 26)),.V 259 (.bin .add (.t 258) (.c (.int .i64 1))),.V 26 (.asg (.t 259))] [13,24,26] [13,24]))
def laws_FnReports_k14 : C :=
 .norm [13,24,26] [13,24] laws_FnReports_k13
def laws_FnReports_k15 : C :=
 .seq (.reg false [.V 4 (.asg (.c (.bool true)))] [4] []) .ret
def laws_FnReports_k16 : C :=
 .seq (.seq (.reg false [.V 26 (.asg (.c (.int .i64 0)))] [13,24,26] [13,24]) (.block 8 (.loop laws_FnReports_k14))) laws_FnReports_k15
def laws_FnReports_k17 : C :=
 .seq (.reg false [.V 240 (.mv (.t 13)),.V 241 (.call (.c (.fn 418 [])) [.t 240]),.V 242 (.call (.c (.fn 419 [])) [.t 241]),.V 239 (.mv (.t 242)),.V 243 (.ext (.t 239) 0),.V 244 (.ext (.t 239) 1),.W 24 (.asg (.t 243)),.V 25 (.asg (.t 244))] [13,24,25] [13,24]) (.seq (.seq (.reg false [.V 245 (.mv (.t 25)),.V 246 (.un .not (.t 245)),.V 247 (.mv (.t 246)),.G 248 (.mv (.t 24)) 2 false,.G 249 (.len (.t 248)) 2 false,.G 250 (.mv (.t 13)) 2 false,.G 251 (.len (.t 250)) 2 false,.G 252 (.bin .neq (.t 249) (.t 251)) 2 false,.V 253 (.pick (.t 247) (.c (.bool true)) (.t 252))] [13,24,253] [13,24]) (.cond (.t 253) (.seq (.reg false [.V 4 (.asg (.c (.bool false)))] [4] []) .ret) .skip)) (.norm [13,24] [13,24] laws_FnReports_k16))
def laws_FnReports_k18 : C :=
 .seq (.reg false [.V 19 (.asg (.c (.int .i64 0)))] [13,14,16,17,19] [13,14,16,17]) (.seq (.seq (.reg false [.V 20 (.asg (.c (.int .i64 0)))] [13,14,16,17,19,20] [13,14,16,17]) (.block 2 (.loop laws_FnReports_k12))) laws_FnReports_k17)
def laws_FnReports_k19 : C :=
 .seq (.reg false [.V 107 (.mv (.t 1)),.V 108 (.call (.c (.fn 422 [])) [.t 107]),.W 13 (.asg (.t 108))] [13] [13]) (.seq (.reg false [.V 110 (.mv (.t 13)),.V 111 (.call (.c (.fn 421 [])) [.t 110]),.V 109 (.mv (.t 111)),.V 112 (.ext (.t 109) 0),.V 113 (.ext (.t 109) 1),.W 14 (.asg (.t 112)),.V 15 (.asg (.t 113))] [13,14,15] [13,14]) (.seq (.reg false [.V 115 (.mv (.t 13)),.W 116 (.call (.c (.fn 420 [])) [.t 115]),.V 114 (.mv (.t 116)),.V 117 (.ext (.t 114) 0),.V 118 (.ext (.t 114) 1),.V 119 (.ext (.t 114) 2),.W 16 (.asg (.t 117)),.W 17 (.asg (.t 118)),.V 18 (.asg (.t 119))] [13,14,15,16,17,18] [13,14,16,17]) (.seq (.seq (.reg false [.V 120 (.mv (.t 15)),.V 121 (.bin .neq (.t 120) (.c (.int .i64 0)))] [13,14,15,16,17,18,121] [13,14,16,17]) (.cond (.t 121) (.seq (.reg false [.V 122 (.mv (.t 18)),.V 123 (.mv (.t 15)),.V 124 (.bin .eql (.t 122) (.t 123)),.V 125 (.mv (.t 124)),.G 126 (.mv (.t 14)) 3 true,.G 127 (.len (.t 126)) 3 true,.G 128 (.bin .eql (.t 127) (.c (.int .i64 0))) 3 true,.V 129 (.pick (.t 125) (.t 128) (.c (.bool false))),.V 4 (.asg (.t 129))] [4] []) .ret) .skip)) (.seq (.seq (.reg false [.V 130 (.mv (.t 18)),.V 131 (.bin .neq (.t 130) (.c (.int .i64 0))),.V 132 (.mv (.t 131)),.G 133 (.mv (.t 14)) 2 false,.G 134 (.len (.t 133)) 2 false,.G 135 (.mv (.t 13)) 2 false,.G 136 (.len (.t 135)) 2 false,.G 137 (.bin .neq (.t 134) (.t 136)) 2 false,.V 138 (.pick (.t 132) (.c (.bool true)) (.t 137)),.V 139 (.mv (.t 138)),.G 140 (.mv (.t 17)) 9 false,.G 141 (.len (.t 140)) 9 false,.G 142 (.mv (.t 16)) 9 false,.G 143 (.len (.t 142)) 9 false,.G 144 (.bin .neq (.t 141) (.t 143)) 9 false,.V 145 (.pick (.t 139) (.c (.bool true)) (.t 144)),.V 146 (.mv (.t 145)),.G 147 (.mv (.t 17)) 16 false,.G 148 (.call (.c (.fn 176 [])) [.t 147]) 16 false,.G 149 (.mv (.t 13)) 16 false,.G 150 (.len (.t 149)) 16 false,.G 151 (.bin .neq (.t 148) (.t 150)) 16 false,.V 152 (.pick (.t 146) (.c (.bool true)) (.t 151))] [13,14,16,17,152] [13,14,16,17]) (.cond (.t 152) (.seq (.reg false [.V 4 (.asg (.c (.bool false)))] [4] []) .ret) .skip)) (.norm [13,14,16,17] [13,14,16,17] laws_FnReports_k18)))))
def laws_FnReports_k20 : C :=
 .seq (.reg false [.V 85 (.mv (.t 1)),.V 86 (.call (.c (.fn 424 [])) [.t 85]),.W 10 (.asg (.t 86))] [1,10] [10]) (.seq (.reg false [.V 88 (.mv (.t 10)),.V 89 (.call (.c (.fn 296 [])) [.t 88]),.V 87 (.mv (.t 89)),.V 90 (.ext (.t 87) 0),.V 91 (.ext (.t 87) 1),.W 11 (.asg (.t 90)),.V 12 (.asg (.t 91))] [1,10,11,12] [10,11]) (.seq (.seq (.reg false [.V 92 (.mv (.t 12)),.V 93 (.bin .eql (.t 92) (.c (.int .i64 0))),.V 94 (.mv (.t 93)),.G 95 (.mv (.t 11)) 2 true,.G 96 (.len (.t 95)) 2 true,.G 97 (.mv (.t 10)) 2 true,.G 98 (.len (.t 97)) 2 true,.G 99 (.bin .add (.t 98) (.c (.int .i64 1))) 2 true,.G 100 (.bin .neq (.t 96) (.t 99)) 2 true,.G 101 (.mv (.t 100)) 2 true,.G 102 (.mv (.t 11)) 9 false,.G 103 (.call (.c (.fn 423 [])) [.t 102]) 9 false,.G 104 (.un .not (.t 103)) 9 false,.G 105 (.pick (.t 101) (.c (.bool true)) (.t 104)) 2 true,.V 106 (.pick (.t 94) (.t 105) (.c (.bool false)))] [1,106] []) (.cond (.t 106) (.seq (.reg false [.V 4 (.asg (.c (.bool false)))] [4] []) .ret) .skip)) (.norm [1] [] laws_FnReports_k19)))
def laws_FnReports_k21 : C :=
 .norm [1] [] laws_FnReports_k20
def laws_FnReports_k22 : C :=
 .seq (.reg false [.V 33 (.mv (.t 0)),.V 34 (.call (.c (.fn 425 [])) [.t 33]),.W 5 (.asg (.t 34))] [1,5] [5]) (.seq (.reg false [.V 36 (.mv (.t 5)),.V 37 (.call (.c (.fn 322 [])) [.t 36]),.V 35 (.mv (.t 37)),.V 38 (.ext (.t 35) 0),.V 39 (.ext (.t 35) 1),.W 6 (.asg (.t 38)),.V 7 (.asg (.t 39))] [1,5,6,7] [5,6]) (.seq (.seq (.reg false [.V 40 (.mv (.t 7)),.V 41 (.bin .eql (.t 40) (.c (.int .i64 0)))] [1,5,6,41] [5,6]) (.cond (.t 41) (.seq (.seq (.reg false [.V 42 (.mv (.t 6)),.V 43 (.len (.t 42)),.V 44 (.mv (.t 5)),.V 45 (.len (.t 44)),.V 46 (.bin .add (.t 45) (.c (.int .i64 1))),.V 47 (.bin .neq (.t 43) (.t 46)),.V 48 (.mv (.t 47)),.G 49 (.mv (.t 6)) 6 false,.G 50 (.call (.c (.fn 423 [])) [.t 49]) 6 false,.G 51 (.un .not (.t 50)) 6 false,.V 52 (.pick (.t 48) (.c (.bool true)) (.t 51))] [1,5,6,52] [5,6]) (.cond (.t 52) (.seq (.reg false [.V 4 (.asg (.c (.bool false)))] [4] []) .ret) .skip)) (.norm [1,5,6] [5,6] laws_FnReports_k2)) .skip)) laws_FnReports_k21))
def laws_FnReports_ir : Fn := { np := 2,io := [],res := [.t 4],own := [false],body :=
 (.seq (.reg false [.V 4 (.asg (.c (.bool false)))] [0,1] []) (.seq (.seq (.reg false [.V 27 (.mv (.t 0)),.V 28 (.call (.c (.fn 76 [])) [.t 27]),.V 29 (.mv (.t 28)),.G 30 (.mv (.t 1)) 2 false,.G 31 (.call (.c (.fn 76 [])) [.t 30]) 2 false,.V 32 (.pick (.t 29) (.c (.bool true)) (.t 31))] [0,1,32] []) (.cond (.t 32) (.seq (.reg false [.V 4 (.asg (.c (.bool true)))] [4] []) .ret) .skip)) (.norm [0,1] [] laws_FnReports_k22))) }
noncomputable def laws_FnReports_D : List (Nat × Callee) := [(76,laws_b10Long_c),(176,laws_b10Sum_c),(296,impl_PaperReport_c),(322,impl_PotReport_c),(418,impl_ReportText_c),(419,impl_ReadReport_c),(420,impl_CountLines_c),(421,impl_SortLines_c),(422,spec_DrawSortLines_c),(423,spec_ValidReport_c),(424,spec_DrawPaperReport_c),(425,spec_DrawPotReport_c)]
def laws_FnReports_H : List (Nat × ET) := [(5,T_Pot),(6,(.one .str)),(10,T_Paper),(11,(.one .str)),(13,(.one .str)),(14,(.one .str)),(16,(.one .str)),(17,(.one (.int .i64))),(24,(.one .str)),(27,(.one (.int .u8))),(30,(.one (.int .u8))),(33,(.one (.int .u8))),(34,T_Pot),(36,T_Pot),(38,(.one .str)),(42,(.one .str)),(44,T_Pot),(49,(.one .str)),(54,T_Pot),(59,T_Pot),(64,(.one .str)),(74,(.one .str)),(85,(.one (.int .u8))),(86,T_Paper),(88,T_Paper),(90,(.one .str)),(95,(.one .str)),(97,T_Paper),(102,(.one .str)),(107,(.one (.int .u8))),(108,(.one .str)),(110,(.one .str)),(112,(.one .str)),(115,(.one .str)),(117,(.one .str)),(118,(.one (.int .i64))),(126,(.one .str)),(133,(.one .str)),(135,(.one .str)),(140,(.one (.int .i64))),(142,(.one .str)),(147,(.one (.int .i64))),(149,(.one .str)),(154,(.one .str)),(159,(.one (.int .i64))),(166,(.one (.int .i64))),(171,(.one .str)),(179,(.one .str)),(184,(.one .str)),(192,(.one .str)),(197,(.one .str)),(201,(.one .str)),(209,(.one (.int .i64))),(215,(.one (.int .i64))),(222,(.one .str)),(228,(.one .str)),(234,(.one (.int .i64))),(240,(.one .str)),(243,(.one .str)),(248,(.one .str)),(250,(.one .str)),(255,(.one .str)),(260,(.one .str)),(264,(.one .str))]
noncomputable def laws_FnReports_c : Callee := mkCallee laws_FnReports_D laws_FnReports_H laws_FnReports_ir [.d (.one (.sl (.one (.int .u8)))),.d (.one (.sl (.one (.int .u8))))] [.d (.one .bool)] []
noncomputable def laws_FnReports (a0 : List Int) (a1 : List Int) : Option (Bool) := laws_FnReports_c.f (a0,a1,())
noncomputable def laws_FnReports_p0  (v0 : List Int) (v1 : List Int) : Option (Bool) :=
 goL laws_FnReports_D laws_FnReports_H (vleave laws_FnReports_ir [.d (.one (.sl (.one (.int .u8)))),.d (.one (.sl (.one (.int .u8))))] [.d (.one .bool)] [] []) [.c laws_FnReports_k22]
  ⟨[(0,.sl (.one (.int .u8)) v0),(1,.sl (.one (.int .u8)) v1)],[]⟩
noncomputable def laws_FnReports_p1  (v1 : List Int) (r5 : List T_Pot.ty) (r6 : List (List UInt8)) : Option (Bool) :=
 goL laws_FnReports_D laws_FnReports_H (vleave laws_FnReports_ir [.d (.one (.sl (.one (.int .u8)))),.d (.one (.sl (.one (.int .u8))))] [.d (.one .bool)] [] []) [.c laws_FnReports_k2,.c laws_FnReports_k21]
  ⟨[(1,.sl (.one (.int .u8)) v1),(5,.view 5 0 r5.length),(6,.view 6 0 r6.length)],[(5,some (.sl T_Pot r5)),(6,some (.sl (.one .str) r6))]⟩
noncomputable def laws_FnReports_p2  (v1 : List Int) : Option (Bool) :=
 goL laws_FnReports_D laws_FnReports_H (vleave laws_FnReports_ir [.d (.one (.sl (.one (.int .u8)))),.d (.one (.sl (.one (.int .u8))))] [.d (.one .bool)] [] []) [.c laws_FnReports_k20]
  ⟨[(1,.sl (.one (.int .u8)) v1)],[]⟩
noncomputable def laws_FnReports_p3  (v1 : List Int) (v8 : Int) (r5 : List T_Pot.ty) (r6 : List (List UInt8)) : Option (Bool) :=
 goL laws_FnReports_D laws_FnReports_H (vleave laws_FnReports_ir [.d (.one (.sl (.one (.int .u8)))),.d (.one (.sl (.one (.int .u8))))] [.d (.one .bool)] [] []) [.c laws_FnReports_k0,.l laws_FnReports_k1,.e 0,.c laws_FnReports_k21]
  ⟨[(1,.sl (.one (.int .u8)) v1),(5,.view 5 0 r5.length),(6,.view 6 0 r6.length),(8,.int .i64 v8)],[(5,some (.sl T_Pot r5)),(6,some (.sl (.one .str) r6))]⟩
noncomputable def laws_FnReports_p4  (v1 : List Int) : Option (Bool) :=
 goL laws_FnReports_D laws_FnReports_H (vleave laws_FnReports_ir [.d (.one (.sl (.one (.int .u8)))),.d (.one (.sl (.one (.int .u8))))] [.d (.one .bool)] [] []) [.c laws_FnReports_k19]
  ⟨[(1,.sl (.one (.int .u8)) v1)],[]⟩
noncomputable def laws_FnReports_p5  (v13 : List (List UInt8)) (v16 : List (List UInt8)) (r14 : List (List UInt8)) (r17 : List Int) : Option (Bool) :=
 goL laws_FnReports_D laws_FnReports_H (vleave laws_FnReports_ir [.d (.one (.sl (.one (.int .u8)))),.d (.one (.sl (.one (.int .u8))))] [.d (.one .bool)] [] []) [.c laws_FnReports_k18]
  ⟨[(13,.sl (.one .str) v13),(14,.view 14 0 r14.length),(16,.sl (.one .str) v16),(17,.view 17 0 r17.length)],[(13,none),(14,some (.sl (.one .str) r14)),(16,none),(17,some (.sl (.one (.int .i64)) r17))]⟩
noncomputable def laws_FnReports_p6  (v13 : List (List UInt8)) (v16 : List (List UInt8)) (v19 : Int) (v20 : Int) (r14 : List (List UInt8)) (r17 : List Int) : Option (Bool) :=
 goL laws_FnReports_D laws_FnReports_H (vleave laws_FnReports_ir [.d (.one (.sl (.one (.int .u8)))),.d (.one (.sl (.one (.int .u8))))] [.d (.one .bool)] [] []) [.c laws_FnReports_k11,.l laws_FnReports_k12,.e 2,.c laws_FnReports_k17]
  ⟨[(13,.sl (.one .str) v13),(14,.view 14 0 r14.length),(16,.sl (.one .str) v16),(17,.view 17 0 r17.length),(19,.int .i64 v19),(20,.int .i64 v20)],[(13,none),(14,some (.sl (.one .str) r14)),(16,none),(17,some (.sl (.one (.int .i64)) r17))]⟩
noncomputable def laws_FnReports_p7  (v13 : List (List UInt8)) (v16 : List (List UInt8)) (v19 : Int) (v20 : Int) (r14 : List (List UInt8)) (r17 : List Int) : Option (Bool) :=
 goL laws_FnReports_D laws_FnReports_H (vleave laws_FnReports_ir [.d (.one (.sl (.one (.int .u8)))),.d (.one (.sl (.one (.int .u8))))] [.d (.one .bool)] [] []) [.c laws_FnReports_k9,.e 3,.c laws_FnReports_k10,.l laws_FnReports_k12,.e 2,.c laws_FnReports_k17]
  ⟨[(13,.sl (.one .str) v13),(14,.view 14 0 r14.length),(16,.sl (.one .str) v16),(17,.view 17 0 r17.length),(19,.int .i64 v19),(20,.int .i64 v20)],[(13,none),(14,some (.sl (.one .str) r14)),(16,none),(17,some (.sl (.one (.int .i64)) r17))]⟩
noncomputable def laws_FnReports_p8  (v13 : List (List UInt8)) (r24 : List (List UInt8)) : Option (Bool) :=
 goL laws_FnReports_D laws_FnReports_H (vleave laws_FnReports_ir [.d (.one (.sl (.one (.int .u8)))),.d (.one (.sl (.one (.int .u8))))] [.d (.one .bool)] [] []) [.c laws_FnReports_k16]
  ⟨[(13,.sl (.one .str) v13),(24,.view 24 0 r24.length)],[(13,none),(24,some (.sl (.one .str) r24))]⟩
noncomputable def laws_FnReports_p9  (v13 : List (List UInt8)) (v16 : List (List UInt8)) (v19 : Int) (v20 : Int) (v21 : Int) (v22 : Int) (r14 : List (List UInt8)) (r17 : List Int) : Option (Bool) :=
 goL laws_FnReports_D laws_FnReports_H (vleave laws_FnReports_ir [.d (.one (.sl (.one (.int .u8)))),.d (.one (.sl (.one (.int .u8))))] [.d (.one .bool)] [] []) [.c laws_FnReports_k3,.l laws_FnReports_k4,.e 4,.c laws_FnReports_k8,.e 3,.c laws_FnReports_k10,.l laws_FnReports_k12,.e 2,.c laws_FnReports_k17]
  ⟨[(13,.sl (.one .str) v13),(14,.view 14 0 r14.length),(16,.sl (.one .str) v16),(17,.view 17 0 r17.length),(19,.int .i64 v19),(20,.int .i64 v20),(21,.int .i64 v21),(22,.int .i64 v22)],[(13,none),(14,some (.sl (.one .str) r14)),(16,none),(17,some (.sl (.one (.int .i64)) r17))]⟩
noncomputable def laws_FnReports_p10  (v13 : List (List UInt8)) (v26 : Int) (r24 : List (List UInt8)) : Option (Bool) :=
 goL laws_FnReports_D laws_FnReports_H (vleave laws_FnReports_ir [.d (.one (.sl (.one (.int .u8)))),.d (.one (.sl (.one (.int .u8))))] [.d (.one .bool)] [] []) [.c laws_FnReports_k13,.l laws_FnReports_k14,.e 8,.c laws_FnReports_k15]
  ⟨[(13,.sl (.one .str) v13),(24,.view 24 0 r24.length),(26,.int .i64 v26)],[(13,none),(24,some (.sl (.one .str) r24))]⟩
noncomputable def laws_FnReports_p11  (v13 : List (List UInt8)) (v16 : List (List UInt8)) (v19 : Int) (v20 : Int) (v23 : Int) (r14 : List (List UInt8)) (r17 : List Int) : Option (Bool) :=
 goL laws_FnReports_D laws_FnReports_H (vleave laws_FnReports_ir [.d (.one (.sl (.one (.int .u8)))),.d (.one (.sl (.one (.int .u8))))] [.d (.one .bool)] [] []) [.c laws_FnReports_k5,.l laws_FnReports_k6,.e 6,.c laws_FnReports_k7,.e 3,.c laws_FnReports_k10,.l laws_FnReports_k12,.e 2,.c laws_FnReports_k17]
  ⟨[(13,.sl (.one .str) v13),(14,.view 14 0 r14.length),(16,.sl (.one .str) v16),(17,.view 17 0 r17.length),(19,.int .i64 v19),(20,.int .i64 v20),(23,.int .i64 v23)],[(13,none),(14,some (.sl (.one .str) r14)),(16,none),(17,some (.sl (.one (.int .i64)) r17))]⟩
theorem laws_FnReports_eq (a0 : List Int) (a1 : List Int) : laws_FnReports a0 a1 =
 (laws_b10Long a0).bind fun x1 =>
  if x1 then
   some true
  else
   (laws_b10Long a1).bind fun x2 =>
    if x2 then
     some true
    else
     laws_FnReports_p0 a0 a1 :=
 (mk_f _ _ _ _ _ _ _ 4000).trans (by kernel_rfl)
theorem laws_FnReports_p0_eq  (v0 : List Int) (v1 : List Int) : laws_FnReports_p0 v0 v1 =
 (spec_DrawPotReport v0).bind fun x1 =>
  (impl_PotReport (x1.take x1.length)).bind fun x2 =>
   if (x2.2 == 0) then
    if ((x2.1.length : Int) != IntKind.i64.wrap ((x1.length : Int) + 1)) then
     some false
    else
     (spec_ValidReport (x2.1.take x2.1.length)).bind fun x3 =>
      if (!x3) then
       some false
      else
       laws_FnReports_p1 v1 x1 x2.1
   else
    laws_FnReports_p2 v1 :=
 (goL_dn _ _ _ 4000 _ _).trans (by kernel_rfl)
theorem laws_FnReports_p1_eq  (v1 : List Int) (r5 : List T_Pot.ty) (r6 : List (List UInt8)) : laws_FnReports_p1 v1 r5 r6 =
 laws_FnReports_p3 v1 0 r5 r6 :=
 (goL_dn _ _ _ 4000 _ _).trans (by kernel_rfl)
theorem laws_FnReports_p2_eq  (v1 : List Int) : laws_FnReports_p2 v1 =
 (spec_DrawPaperReport v1).bind fun x1 =>
  (impl_PaperReport (x1.take x1.length)).bind fun x2 =>
   if (x2.2 == 0) then
    if ((x2.1.length : Int) != IntKind.i64.wrap ((x1.length : Int) + 1)) then
     some false
    else
     (spec_ValidReport (x2.1.take x2.1.length)).bind fun x3 =>
      if (!x3) then
       some false
      else
       laws_FnReports_p4 v1
   else
    laws_FnReports_p4 v1 :=
 (goL_dn _ _ _ 4000 _ _).trans (by kernel_rfl)
theorem laws_FnReports_p3_eq  (v1 : List Int) (v8 : Int) (r5 : List T_Pot.ty) (r6 : List (List UInt8)) : laws_FnReports_p3 v1 v8 r5 r6 =
 if decide (v8 < (r5.length : Int)) then
  if decide (0 ≤ v8) && decide (v8 < (r5.length : Int)) then
   (r5[v8.toNat]?).bind fun x1 =>
    if decide (0 ≤ IntKind.i64.wrap (v8 + 1)) && decide (IntKind.i64.wrap (v8 + 1) < (r6.length : Int)) then
     (r6[(IntKind.i64.wrap (v8 + 1)).toNat]?).bind fun x2 =>
      if decide ((x2.length : Int) ≤ (x1.1.length : Int)) then
       some false
      else
       if decide (0 ≤ IntKind.i64.wrap (v8 + 1)) && decide (IntKind.i64.wrap (v8 + 1) < (r6.length : Int)) then
        (r6[(IntKind.i64.wrap (v8 + 1)).toNat]?).bind fun x3 =>
         if decide (0 ≤ (x1.1.length : Int)) && decide ((x1.1.length : Int) ≤ (x3.length : Int)) then
          if (!((x3.take ((x1.1.length : Int).toNat)) == x1.1)) then
           some false
          else
           laws_FnReports_p3 v1 (IntKind.i64.wrap (v8 + 1)) r5 r6
         else
          none
       else
        none
    else
     none
  else
   none
 else
  laws_FnReports_p2 v1 :=
 (goL_dn _ _ _ 4000 _ _).trans (by kernel_rfl)
theorem laws_FnReports_p4_eq  (v1 : List Int) : laws_FnReports_p4 v1 =
 (spec_DrawSortLines v1).bind fun x1 =>
  (impl_SortLines (x1.take x1.length)).bind fun x2 =>
   (impl_CountLines (x1.take x1.length)).bind fun x3 =>
    if (x2.2 != 0) then
     if (x3.2.2 == x2.2) then
      some ((x2.1.length : Int) == 0)
     else
      some false
    else
     if (x3.2.2 != 0) then
      some false
     else
      if ((x2.1.length : Int) != ((x1.take x1.length).length : Int)) then
       some false
      else
       if ((x3.2.1.length : Int) != (x3.1.length : Int)) then
        some false
       else
        (laws_b10Sum (x3.2.1.take x3.2.1.length)).bind fun x4 =>
         if (x4 != ((x1.take x1.length).length : Int)) then
          some false
         else
          laws_FnReports_p5 (x1.take x1.length) x3.1 x2.1 x3.2.1 :=
 (goL_dn _ _ _ 4000 _ _).trans (by kernel_rfl)
theorem laws_FnReports_p5_eq  (v13 : List (List UInt8)) (v16 : List (List UInt8)) (r14 : List (List UInt8)) (r17 : List Int) : laws_FnReports_p5 v13 v16 r14 r17 =
 laws_FnReports_p6 v13 v16 0 0 r14 r17 :=
 (goL_dn _ _ _ 4000 _ _).trans (by kernel_rfl)
theorem laws_FnReports_p6_eq  (v13 : List (List UInt8)) (v16 : List (List UInt8)) (v19 : Int) (v20 : Int) (r14 : List (List UInt8)) (r17 : List Int) : laws_FnReports_p6 v13 v16 v19 v20 r14 r17 =
 if decide (v20 < (v16.length : Int)) then
  if decide (0 ≤ v20) && decide (v20 < (r17.length : Int)) then
   (r17[v20.toNat]?).bind fun x1 =>
    if decide (x1 < 1) then
     some false
    else
     if decide (0 ≤ v20) && decide (v20 < (r17.length : Int)) then
      (r17[v20.toNat]?).bind fun x2 =>
       if decide (IntKind.i64.wrap (v19 + x2) > (r14.length : Int)) then
        some false
       else
        if decide (v20 > 0) then
         if decide (0 ≤ IntKind.i64.wrap (v20 - 1)) then
          (v16[(IntKind.i64.wrap (v20 - 1)).toNat]?).bind fun x3 =>
           if decide (0 ≤ v20) then
            (v16[v20.toNat]?).bind fun x4 =>
             if (!Op.bytesLess x3 x4) then
              some false
             else
              laws_FnReports_p7 v13 v16 v19 v20 r14 r17
           else
            none
         else
          none
        else
         laws_FnReports_p7 v13 v16 v19 v20 r14 r17
     else
      none
  else
   none
 else
  (impl_ReportText v13).bind fun x5 =>
   (impl_ReadReport x5).bind fun x6 =>
    if (!x6.2) then
     some false
    else
     if ((x6.1.length : Int) != (v13.length : Int)) then
      some false
     else
      laws_FnReports_p8 v13 x6.1 :=
 (goL_dn _ _ _ 4000 _ _).trans (by kernel_rfl)
theorem laws_FnReports_p7_eq  (v13 : List (List UInt8)) (v16 : List (List UInt8)) (v19 : Int) (v20 : Int) (r14 : List (List UInt8)) (r17 : List Int) : laws_FnReports_p7 v13 v16 v19 v20 r14 r17 =
 laws_FnReports_p9 v13 v16 v19 v20 0 0 r14 r17 :=
 (goL_dn _ _ _ 4000 _ _).trans (by kernel_rfl)
theorem laws_FnReports_p8_eq  (v13 : List (List UInt8)) (r24 : List (List UInt8)) : laws_FnReports_p8 v13 r24 =
 laws_FnReports_p10 v13 0 r24 :=
 (goL_dn _ _ _ 4000 _ _).trans (by kernel_rfl)
theorem laws_FnReports_p9_eq  (v13 : List (List UInt8)) (v16 : List (List UInt8)) (v19 : Int) (v20 : Int) (v21 : Int) (v22 : Int) (r14 : List (List UInt8)) (r17 : List Int) : laws_FnReports_p9 v13 v16 v19 v20 v21 v22 r14 r17 =
 if decide (v22 < (v13.length : Int)) then
  if decide (0 ≤ v22) then
   (v13[v22.toNat]?).bind fun x1 =>
    if decide (0 ≤ v20) then
     (v16[v20.toNat]?).bind fun x2 =>
      if (x1 == x2) then
       laws_FnReports_p9 v13 v16 v19 v20 (IntKind.i64.wrap (v21 + 1)) (IntKind.i64.wrap (v22 + 1)) r14 r17
      else
       laws_FnReports_p9 v13 v16 v19 v20 v21 (IntKind.i64.wrap (v22 + 1)) r14 r17
    else
     none
  else
   none
 else
  if decide (0 ≤ v20) && decide (v20 < (r17.length : Int)) then
   (r17[v20.toNat]?).bind fun x3 =>
    if (v21 != x3) then
     some false
    else
     laws_FnReports_p11 v13 v16 v19 v20 0 r14 r17
  else
   none :=
 (goL_dn _ _ _ 4000 _ _).trans (by kernel_rfl)
theorem laws_FnReports_p10_eq  (v13 : List (List UInt8)) (v26 : Int) (r24 : List (List UInt8)) : laws_FnReports_p10 v13 v26 r24 =
 if decide (v26 < (v13.length : Int)) then
  if decide (0 ≤ v26) && decide (v26 < (r24.length : Int)) then
   (r24[v26.toNat]?).bind fun x1 =>
    if decide (0 ≤ v26) then
     (v13[v26.toNat]?).bind fun x2 =>
      if (!(x1 == x2)) then
       some false
      else
       laws_FnReports_p10 v13 (IntKind.i64.wrap (v26 + 1)) r24
    else
     none
  else
   none
 else
  some true :=
 (goL_dn _ _ _ 4000 _ _).trans (by kernel_rfl)
theorem laws_FnReports_p11_eq  (v13 : List (List UInt8)) (v16 : List (List UInt8)) (v19 : Int) (v20 : Int) (v23 : Int) (r14 : List (List UInt8)) (r17 : List Int) : laws_FnReports_p11 v13 v16 v19 v20 v23 r14 r17 =
 if decide (0 ≤ v20) && decide (v20 < (r17.length : Int)) then
  (r17[v20.toNat]?).bind fun x1 =>
   if decide (v23 < x1) then
    if decide (0 ≤ IntKind.i64.wrap (v19 + v23)) && decide (IntKind.i64.wrap (v19 + v23) < (r14.length : Int)) then
     (r14[(IntKind.i64.wrap (v19 + v23)).toNat]?).bind fun x2 =>
      if decide (0 ≤ v20) then
       (v16[v20.toNat]?).bind fun x3 =>
        if (!(x2 == x3)) then
         some false
        else
         laws_FnReports_p11 v13 v16 v19 v20 (IntKind.i64.wrap (v23 + 1)) r14 r17
      else
       none
    else
     none
   else
    if decide (0 ≤ v20) && decide (v20 < (r17.length : Int)) then
     (r17[v20.toNat]?).bind fun x4 =>
      laws_FnReports_p6 v13 v16 (IntKind.i64.wrap (v19 + x4)) (IntKind.i64.wrap (v20 + 1)) r14 r17
    else
     none
 else
  none :=
 (goL_dn _ _ _ 4000 _ _).trans (by kernel_rfl)
end Go.Ab.P
