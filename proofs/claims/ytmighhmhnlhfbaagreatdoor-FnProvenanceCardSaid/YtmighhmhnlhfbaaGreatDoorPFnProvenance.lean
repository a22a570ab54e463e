/- Functions of the program: abstract forms, and what their runs give. Conditions: none. -/
import Derived.Test.YtmighhmhnlhfbaaGreatDoorL8
set_option maxRecDepth 100000
set_option linter.unusedVariables false
namespace Go.Ab.P
open Go.Ab
@[reducible] def T_Deed : ET := .agg (.cons .str (.cons .str (.cons (.int .i64) (.cons (.int .i64) .nil))))
@[reducible] def T_link : ET := .agg (.cons .bool (.cons (.int .i64) (.cons (.int .i64) .nil)))
@[reducible] def T_l00Src : ET := .agg (.cons (.sl (.one (.int .u8))) (.cons (.int .i64) (.cons (.int .u64) .nil)))
def laws_r8Long_ir : Fn := { np := 2,io := [],res := [.t 4],own := [false],body :=
 (.seq (.reg false [.V 4 (.asg (.c (.bool false)))] [0,1] []) (.seq (.reg false [.V 5 (.mv (.t 0)),.V 6 (.len (.t 5)),.V 7 (.bin .gtr (.t 6) (.c (.int .i64 1048576))),.V 8 (.mv (.t 7)),.G 9 (.mv (.t 1)) 3 false,.G 10 (.len (.t 9)) 3 false,.G 11 (.bin .gtr (.t 10) (.c (.int .i64 1048576))) 3 false,.V 12 (.pick (.t 8) (.c (.bool true)) (.t 11)),.V 4 (.asg (.t 12))] [4] []) .ret)) }
noncomputable def laws_r8Long_D : List (Nat × Callee) := []
def laws_r8Long_H : List (Nat × ET) := [(5,(.one (.int .u8))),(9,(.one (.int .u8)))]
noncomputable def laws_r8Long_c : Callee := mkCallee laws_r8Long_D laws_r8Long_H laws_r8Long_ir [.d (.one (.sl (.one (.int .u8)))),.d (.one (.sl (.one (.int .u8))))] [.d (.one .bool)] []
noncomputable def laws_r8Long (a0 : List Int) (a1 : List Int) : Option (Bool) := laws_r8Long_c.f (a0,a1,())
theorem laws_r8Long_eq (a0 : List Int) (a1 : List Int) : laws_r8Long a0 a1 =
 if decide ((a0.length : Int) > 1048576) then
  some true
 else
  some (decide ((a1.length : Int) > 1048576)) :=
 (mk_f _ _ _ _ _ _ _ 4000).trans (by kernel_rfl)
def spec_l00From_ir : Fn := { np := 1,io := [],res := [.t 2],own := [true],body :=
 (.seq (.reg false [.V 2 (.asg (.c (.cst (.pointer none))))] [0] []) (.seq (.reg false [.V 3 (.mv (.t 0)),.V 4 (.build [.nils 1,.int .i64 0,.int .u64 0] [(0,1,.t 3)]),.W 5 (.box 3 (.t 4)),.V 2 (.asg (.t 5))] [2] [5,6000]) .ret)) }
noncomputable def spec_l00From_D : List (Nat × Callee) := []
def spec_l00From_H : List (Nat × ET) := [(3,(.one (.int .u8)))]
noncomputable def spec_l00From_c : Callee := mkCallee spec_l00From_D spec_l00From_H spec_l00From_ir [.d (.one (.sl (.one (.int .u8))))] [.box T_l00Src] []
noncomputable def spec_l00From (a0 : List Int) : Option (T_l00Src.ty) := spec_l00From_c.f (a0,())
theorem spec_l00From_eq (a0 : List Int) : spec_l00From a0 =
 some (a0,0,0,()) :=
 (mk_f _ _ _ _ _ _ _ 4000).trans (by kernel_rfl)
def spec_l00Src_next_k0 : C :=
 .seq (.reg false [.V 25 (.mv (.t 0)),.V 26 (.nilck (.t 25)),.V 27 (.fa 1 (.t 26)),.V 28 (.ld none (.t 27)),.V 29 (.bin .add (.t 28) (.c (.int .i64 1))),.V 30 (.nilck (.t 25)),.V 31 (.fa 1 (.t 30)),⟨none,true,.sto 1 (.t 31) (.t 29),none,false,[]⟩] [0,3] [0,1000]) (.seq (.reg false [.V 32 (.mv (.t 0)),.V 33 (.mv (.t 0)),.V 34 (.nilck (.t 33)),.V 35 (.fa 2 (.t 34)),.V 36 (.ld none (.t 35)),.V 37 (.bin .mul (.t 36) (.c (.int .u64 6364136223846793005))),.V 38 (.mv (.t 3)),.V 39 (.conv (.int .u64) (.t 38)),.V 40 (.bin .add (.t 37) (.t 39)),.V 41 (.bin .add (.t 40) (.c (.int .u64 1442695040888963407))),.V 42 (.nilck (.t 32)),.V 43 (.fa 2 (.t 42)),⟨none,true,.sto 1 (.t 43) (.t 41),none,false,[]⟩] [0,3] [0,1000]) (.seq (.seq (.reg true [.V 44 (.mv (.t 0)),.V 45 (.nilck (.t 44)),.V 46 (.fa 1 (.t 45)),.V 47 (.ld none (.t 46)),.V 48 (.mv (.t 0)),.V 49 (.nilck (.t 48)),.V 50 (.fa 0 (.t 49)),.V 51 (.ld none (.t 50)),.V 52 (.len (.t 51)),.V 53 (.bin .leq (.t 47) (.t 52))] [0,3,53] [0,1000]) (.cond (.t 53) (.seq (.reg false [.V 54 (.mv (.t 3)),.V 2 (.asg (.t 54))] [0,2] [0,1000]) .ret) .skip)) (.seq (.reg false [.V 55 (.mv (.t 0)),.V 56 (.nilck (.t 55)),.V 57 (.fa 2 (.t 56)),.V 58 (.ld none (.t 57)),.V 59 (.bin .shr (.t 58) (.c (.int .u64 40))),.V 60 (.bin .and (.t 59) (.c (.int .u64 255))),.V 61 (.conv (.int .i64) (.t 60)),.V 2 (.asg (.t 61))] [0,2] [0,1000]) .ret)))
def spec_l00Src_next_ir : Fn := { np := 1,io := [true],res := [.t 2],own := [false],body :=
 (.seq (.reg false [.V 2 (.asg (.c (.int .i64 0)))] [0] [0,1000]) (.seq (.reg false [.V 3 (.asg (.c (.int .i64 0)))] [0,3] [0,1000]) (.seq (.seq (.reg true [.V 4 (.mv (.t 0)),.V 5 (.nilck (.t 4)),.V 6 (.fa 1 (.t 5)),.V 7 (.ld none (.t 6)),.V 8 (.mv (.t 0)),.V 9 (.nilck (.t 8)),.V 10 (.fa 0 (.t 9)),.V 11 (.ld none (.t 10)),.V 12 (.len (.t 11)),.V 13 (.bin .lss (.t 7) (.t 12))] [0,3,13] [0,1000]) (.cond (.t 13) (.reg true [.V 14 (.mv (.t 0)),.V 15 (.nilck (.t 14)),.V 16 (.fa 0 (.t 15)),.V 17 (.ld none (.t 16)),.V 18 (.mv (.t 0)),.V 19 (.nilck (.t 18)),.V 20 (.fa 1 (.t 19)),.V 21 (.ld none (.t 20)),.V 22 (.ia 1 (.t 17) (.t 21)),.V 23 (.ld none (.t 22)),.V 24 (.conv (.int .i64) (.t 23)),.V 3 (.asg (.t 24))] [0,3] [0,1000]) .skip)) (.norm [0,3] [0,1000] spec_l00Src_next_k0)))) }
noncomputable def spec_l00Src_next_D : List (Nat × Callee) := []
def spec_l00Src_next_H : List (Nat × ET) := [(11,(.one (.int .u8))),(17,(.one (.int .u8))),(51,(.one (.int .u8)))]
noncomputable def spec_l00Src_next_c : Callee := mkCallee spec_l00Src_next_D spec_l00Src_next_H spec_l00Src_next_ir [.box T_l00Src] [.d (.one (.int .i64))] [.box T_l00Src]
noncomputable def spec_l00Src_next (a0 : T_l00Src.ty) : Option (Int × T_l00Src.ty) := spec_l00Src_next_c.f (a0,())
noncomputable def spec_l00Src_next_p0  (v3 : Int) (r0_0 : List Int) (r0_1 : Int) (r0_2 : Int) : Option (Int × T_l00Src.ty) :=
 goL spec_l00Src_next_D spec_l00Src_next_H (vleave spec_l00Src_next_ir [.box T_l00Src] [.d (.one (.int .i64))] [.box T_l00Src] []) [.c spec_l00Src_next_k0]
  ⟨[(0,.loc 0 0 0),(3,.int .i64 v3)],[(0,some (.var 3 (.agg [.sl (.one (.int .u8)) r0_0,.int .i64 r0_1,.int .u64 r0_2]))),(1000,none)]⟩
theorem spec_l00Src_next_eq (a0 : T_l00Src.ty) : spec_l00Src_next a0 =
 if decide (a0.2.1 < (a0.1.length : Int)) then
  if decide (0 ≤ a0.2.1) then
   (a0.1[a0.2.1.toNat]?).bind fun x1 =>
    spec_l00Src_next_p0 (IntKind.i64.wrap x1) a0.1 a0.2.1 a0.2.2.1
  else
   none
 else
  spec_l00Src_next_p0 0 a0.1 a0.2.1 a0.2.2.1 :=
 (mk_f _ _ _ _ _ _ _ 4000).trans (by kernel_rfl)
theorem spec_l00Src_next_p0_eq  (v3 : Int) (r0_0 : List Int) (r0_1 : Int) (r0_2 : Int) : spec_l00Src_next_p0 v3 r0_0 r0_1 r0_2 =
 if decide (IntKind.i64.wrap (r0_1 + 1) ≤ (r0_0.length : Int)) then
  some (v3,(r0_0,IntKind.i64.wrap (r0_1 + 1),IntKind.u64.wrap ((IntKind.u64.wrap ((IntKind.u64.wrap (r0_2 * 6364136223846793005)) + (IntKind.u64.wrap v3))) + 1442695040888963407),()))
 else
  some (IntKind.i64.wrap (IntKind.u64.wrap ((BitVec.ofInt IntKind.u64.bits (Int.fdiv (IntKind.u64.wrap ((IntKind.u64.wrap ((IntKind.u64.wrap (r0_2 * 6364136223846793005)) + (IntKind.u64.wrap v3))) + 1442695040888963407)) (2 ^ (min (40 : Int).toNat IntKind.u64.bits))) &&& BitVec.ofInt IntKind.u64.bits 255).toNat : Int)),(r0_0,IntKind.i64.wrap (r0_1 + 1),IntKind.u64.wrap ((IntKind.u64.wrap ((IntKind.u64.wrap (r0_2 * 6364136223846793005)) + (IntKind.u64.wrap v3))) + 1442695040888963407),())) :=
 (goL_dn _ _ _ 4000 _ _).trans (by kernel_rfl)
def spec_l00Src_pick_ir : Fn := { np := 2,io := [true,false],res := [.t 4],own := [false],body :=
 (.seq (.reg false [.V 4 (.asg (.c (.int .i64 0)))] [0,1] [0,1000]) (.seq (.seq (.reg false [.V 6 (.mv (.t 1)),.V 7 (.bin .leq (.t 6) (.c (.int .i64 1)))] [0,1,7] [0,1000]) (.cond (.t 7) (.seq (.reg false [.V 4 (.asg (.c (.int .i64 0)))] [0,4] [0,1000]) .ret) .skip)) (.seq (.reg false [.V 8 (.mv (.t 0)),.W 9 (.call (.c (.fn 847 [])) [.t 8]),.V 5 (.asg (.t 9))] [0,1,5] [0,1000]) (.seq (.seq (.reg false [.V 10 (.mv (.t 1)),.V 11 (.bin .gtr (.t 10) (.c (.int .i64 200)))] [0,1,5,11] [0,1000]) (.cond (.t 11) (.reg false [.V 12 (.mv (.t 5)),.V 13 (.bin .mul (.t 12) (.c (.int .i64 256))),.V 14 (.mv (.t 0)),.W 15 (.call (.c (.fn 847 [])) [.t 14]),.V 16 (.bin .add (.t 13) (.t 15)),.V 5 (.asg (.t 16))] [0,1,5] [0,1000]) .skip)) (.seq (.reg false [.V 17 (.mv (.t 5)),.V 18 (.mv (.t 1)),.V 19 (.bin .rem (.t 17) (.t 18)),.V 4 (.asg (.t 19))] [0,4] [0,1000]) .ret))))) }
noncomputable def spec_l00Src_pick_D : List (Nat × Callee) := [(847,spec_l00Src_next_c)]
def spec_l00Src_pick_H : List (Nat × ET) := []
noncomputable def spec_l00Src_pick_c : Callee := mkCallee spec_l00Src_pick_D spec_l00Src_pick_H spec_l00Src_pick_ir [.box T_l00Src,.d (.one (.int .i64))] [.d (.one (.int .i64))] [.box T_l00Src]
noncomputable def spec_l00Src_pick (a0 : T_l00Src.ty) (a1 : Int) : Option (Int × T_l00Src.ty) := spec_l00Src_pick_c.f (a0,a1,())
theorem spec_l00Src_pick_eq (a0 : T_l00Src.ty) (a1 : Int) : spec_l00Src_pick a0 a1 =
 if decide (a1 ≤ 1) then
  some (0,a0)
 else
  (spec_l00Src_next a0).bind fun x1 =>
   if decide (a1 > 200) then
    (spec_l00Src_next (x1.2.1,x1.2.2.1,x1.2.2.2.1,())).bind fun x2 =>
     if decide (a1 = 0) then
      none
     else
      some ((IntKind.i64.wrap ((IntKind.i64.wrap (x1.1 * 256)) + x2.1)).tmod a1,(x2.2.1,x2.2.2.1,x2.2.2.2.1,()))
   else
    if decide (a1 = 0) then
     none
    else
     some (x1.1.tmod a1,(x1.2.1,x1.2.2.1,x1.2.2.2.1,())) :=
 (mk_f _ _ _ _ _ _ _ 4000).trans (by kernel_rfl)
def spec_l00Src_text_ir : Fn := { np := 2,io := [true,false],res := [.t 4],own := [false],body :=
 (.seq (.reg false [.V 4 (.asg (.c (.str [])))] [0,1] [0,1000]) (.seq (.reg false [.V 5 (.mv (.t 1)),.V 6 (.mv (.t 0)),.V 7 (.mv (.t 1)),.V 8 (.len (.t 7)),.W 9 (.call (.c (.fn 463 [])) [.t 6,.t 8]),.V 10 (.ia 1 (.t 5) (.t 9)),.V 11 (.ld none (.t 10)),.V 4 (.asg (.t 11))] [0,4] [0,1000]) .ret)) }
noncomputable def spec_l00Src_text_D : List (Nat × Callee) := [(463,spec_l00Src_pick_c)]
def spec_l00Src_text_H : List (Nat × ET) := [(5,(.one .str)),(7,(.one .str))]
noncomputable def spec_l00Src_text_c : Callee := mkCallee spec_l00Src_text_D spec_l00Src_text_H spec_l00Src_text_ir [.box T_l00Src,.d (.one (.sl (.one .str)))] [.d (.one .str)] [.box T_l00Src]
noncomputable def spec_l00Src_text (a0 : T_l00Src.ty) (a1 : List (List UInt8)) : Option (List UInt8 × T_l00Src.ty) := spec_l00Src_text_c.f (a0,a1,())
theorem spec_l00Src_text_eq (a0 : T_l00Src.ty) (a1 : List (List UInt8)) : spec_l00Src_text a0 a1 =
 (spec_l00Src_pick a0 (a1.length : Int)).bind fun x1 =>
  if decide (0 ≤ x1.1) then
   (a1[x1.1.toNat]?).bind fun x2 =>
    some (x2,(x1.2.1,x1.2.2.1,x1.2.2.2.1,()))
  else
   none :=
 (mk_f _ _ _ _ _ _ _ 4000).trans (by kernel_rfl)
def spec_l19DrawName_ir : Fn := { np := 1,io := [true],res := [.t 2],own := [false],body :=
 (.seq (.reg false [.V 2 (.asg (.c (.str [])))] [0] [0,1000]) (.seq (.reg false [.V 3 (.mv (.t 0)),.V 4 (.bsl 1 (.str []) 6 [(0,.c (.str [109,97,107,101,114])),(1,.c (.str [97,100,97])),(2,.c (.str [98,101,110])),(3,.c (.str [99,108,101,111])),(4,.c (.str [100,111,118])),(5,.c (.str [101,118,97]))]),.W 5 (.call (.c (.fn 557 [])) [.t 3,.t 4]),.V 2 (.asg (.t 5))] [0,2] [0,1000]) .ret)) }
noncomputable def spec_l19DrawName_D : List (Nat × Callee) := [(557,spec_l00Src_text_c)]
def spec_l19DrawName_H : List (Nat × ET) := [(4,(.one .str))]
noncomputable def spec_l19DrawName_c : Callee := mkCallee spec_l19DrawName_D spec_l19DrawName_H spec_l19DrawName_ir [.box T_l00Src] [.d (.one .str)] [.box T_l00Src]
noncomputable def spec_l19DrawName (a0 : T_l00Src.ty) : Option (List UInt8 × T_l00Src.ty) := spec_l19DrawName_c.f (a0,())
theorem spec_l19DrawName_eq (a0 : T_l00Src.ty) : spec_l19DrawName a0 =
 (spec_l00Src_text a0 [[109,97,107,101,114],[97,100,97],[98,101,110],[99,108,101,111],[100,111,118],[101,118,97]]).bind fun x1 =>
  some (x1.1,(x1.2.1,x1.2.2.1,x1.2.2.2.1,())) :=
 (mk_f _ _ _ _ _ _ _ 4000).trans (by kernel_rfl)
def spec_l19DrawOne_ir : Fn := { np := 2,io := [true,false],res := [.cell 4 (some 4)],own := [false],body :=
 (.seq (.reg false [.W 4 (.alloc 4 (.agg [.str [],.str [],.int .i64 0,.int .i64 0]))] [0,1,4] [0,4,1000]) (.seq (.reg false [.V 6 (.mv (.t 0)),.W 7 (.call (.c (.fn 1016 [])) [.t 6]),.V 8 (.mv (.t 0)),.W 9 (.call (.c (.fn 1016 [])) [.t 8]),.V 10 (.mv (.t 1)),.V 11 (.build [.str [],.str [],.int .i64 0,.int .i64 0] [(0,1,.t 7),(1,1,.t 9),(2,1,.t 10)]),.W 5 (.alloc 4 (.agg [.str [],.str [],.int .i64 0,.int .i64 0])),⟨none,true,.sto 4 (.t 5) (.t 11),none,false,[]⟩] [0,4,5] [0,4,5,1000]) (.seq (.reg false [.V 12 (.mv (.t 0)),.W 13 (.call (.c (.fn 463 [])) [.t 12,.c (.int .i64 60)]),.V 14 (.bin .mul (.c (.int .i64 10)) (.t 13)),.V 15 (.fa 3 (.t 5)),⟨none,true,.sto 1 (.t 15) (.t 14),none,false,[]⟩] [0,4,5] [0,4,5,1000]) (.seq (.seq (.reg false [.V 16 (.fa 0 (.t 5)),.V 17 (.ld none (.t 16)),.V 18 (.fa 1 (.t 5)),.V 19 (.ld none (.t 18)),.V 20 (.bin .eql (.t 17) (.t 19))] [0,4,5,20] [0,4,5,1000]) (.cond (.t 20) (.reg false [.V 21 (.fa 1 (.t 5)),⟨none,true,.sto 1 (.t 21) (.c (.str [109,117,115,101,117,109])),none,false,[]⟩] [0,4,5] [0,4,5,1000]) .skip)) (.seq (.reg false [.V 22 (.ld (some 4) (.t 5)),⟨none,true,.sto 4 (.t 4) (.t 22),none,false,[]⟩] [0,4] [0,4,1000]) .ret))))) }
noncomputable def spec_l19DrawOne_D : List (Nat × Callee) := [(463,spec_l00Src_pick_c),(1016,spec_l19DrawName_c)]
def spec_l19DrawOne_H : List (Nat × ET) := []
noncomputable def spec_l19DrawOne_c : Callee := mkCallee spec_l19DrawOne_D spec_l19DrawOne_H spec_l19DrawOne_ir [.box T_l00Src,.d (.one (.int .i64))] [.d T_Deed] [.box T_l00Src]
noncomputable def spec_l19DrawOne (a0 : T_l00Src.ty) (a1 : Int) : Option (T_Deed.ty × T_l00Src.ty) := spec_l19DrawOne_c.f (a0,a1,())
theorem spec_l19DrawOne_eq (a0 : T_l00Src.ty) (a1 : Int) : spec_l19DrawOne a0 a1 =
 (spec_l19DrawName a0).bind fun x1 =>
  (spec_l19DrawName (x1.2.1,x1.2.2.1,x1.2.2.2.1,())).bind fun x2 =>
   (spec_l00Src_pick (x2.2.1,x2.2.2.1,x2.2.2.2.1,()) 60).bind fun x3 =>
    if (x1.1 == x2.1) then
     some ((x1.1,[109,117,115,101,117,109],a1,IntKind.i64.wrap (10 * x3.1),()),(x3.2.1,x3.2.2.1,x3.2.2.2.1,()))
    else
     some ((x1.1,x2.1,a1,IntKind.i64.wrap (10 * x3.1),()),(x3.2.1,x3.2.2.1,x3.2.2.2.1,())) :=
 (mk_f _ _ _ _ _ _ _ 4000).trans (by kernel_rfl)
def spec_l00Src_one_ir : Fn := { np := 2,io := [true,false],res := [.t 4],own := [false],body :=
 (.seq (.reg false [.V 4 (.asg (.c (.bool false)))] [0,1] [0,1000]) (.seq (.reg false [.V 5 (.mv (.t 0)),.V 6 (.mv (.t 1)),.W 7 (.call (.c (.fn 463 [])) [.t 5,.t 6]),.V 8 (.bin .eql (.t 7) (.c (.int .i64 0))),.V 4 (.asg (.t 8))] [0,4] [0,1000]) .ret)) }
noncomputable def spec_l00Src_one_D : List (Nat × Callee) := [(463,spec_l00Src_pick_c)]
def spec_l00Src_one_H : List (Nat × ET) := []
noncomputable def spec_l00Src_one_c : Callee := mkCallee spec_l00Src_one_D spec_l00Src_one_H spec_l00Src_one_ir [.box T_l00Src,.d (.one (.int .i64))] [.d (.one .bool)] [.box T_l00Src]
noncomputable def spec_l00Src_one (a0 : T_l00Src.ty) (a1 : Int) : Option (Bool × T_l00Src.ty) := spec_l00Src_one_c.f (a0,a1,())
theorem spec_l00Src_one_eq (a0 : T_l00Src.ty) (a1 : Int) : spec_l00Src_one a0 a1 =
 (spec_l00Src_pick a0 a1).bind fun x1 =>
  some ((x1.1 == 0),(x1.2.1,x1.2.2.1,x1.2.2.2.1,())) :=
 (mk_f _ _ _ _ _ _ _ 4000).trans (by kernel_rfl)
def spec_l19Draw_k0 : C :=
 .reg false [.V 39 (.mv (.t 3)),.V 40 (.mv (.t 3)),.V 41 (.len (.t 40)),.V 42 (.bin .sub (.t 41) (.c (.int .i64 1))),.V 43 (.ia 4 (.t 39) (.t 42)),.V 44 (.fa 1 (.t 43)),.V 45 (.ld none (.t 44)),.V 46 (.fa 0 (.t 6)),⟨none,true,.sto 1 (.t 46) (.t 45),none,false,[]⟩] [0,3,4,5,6] [0,3,6,1000]
def spec_l19Draw_k1 : C :=
 .seq (.reg false [.V 47 (.mv (.t 3)),.V 48 (.ld (some 4) (.t 6)),.V 49 (.bsl 4 (.agg [.str [],.str [],.int .i64 0,.int .i64 0]) 1 [(0,.t 48)]),.W 50 (.app 4 48 (.t 47) (.t 49)),.W 3 (.asg (.t 50))] [0,3,4,5] [0,3,1000]) (.reg false [.V 51 (.mv (.t 4)),.V 52 (.mv (.t 0)),.W 53 (.call (.c (.fn 463 [])) [.t 52,.c (.int .i64 30)]),.V 54 (.bin .add (.t 51) (.t 53)),.V 4 (.asg (.t 54))] [0,3,4,5] [0,3,1000])
def spec_l19Draw_k2 : C :=
 .norm [0,3,4,5,6] [0,3,6,1000] spec_l19Draw_k1
def spec_l19Draw_k3 : C :=
 .reg false [.V 15 (.mv (.t 5)),.V 16 (.bin .sub (.t 15) (.c (.int .i64 1))),.V 5 (.asg (.t 16))] [0,3,4,5] [0,3,1000]
def spec_l19Draw_k4 : C :=
 .seq (.seq (.reg false [.V 13 (.mv (.t 5)),.V 14 (.bin .gtr (.t 13) (.c (.int .i64 0)))] [0,3,4,5,14] [0,3,1000]) (.cond (.t 14) .skip (.exit 0))) (.seq (.block 1 (.seq (.reg false [.V 17 (.mv (.t 0)),.V 18 (.mv (.t 4)),.W 19 (.call (.c (.fn 860 [])) [.t 17,.t 18]),.W 6 (.alloc 4 (.agg [.str [],.str [],.int .i64 0,.int .i64 0])),⟨none,true,.sto 4 (.t 6) (.t 19),none,false,[]⟩] [0,3,4,5,6] [0,3,6,1000]) (.seq (.seq (.reg true [.V 20 (.mv (.t 3)),.V 21 (.len (.t 20)),.V 22 (.bin .gtr (.t 21) (.c (.int .i64 0))),.V 23 (.mv (.t 22)),.G 24 (.mv (.t 0)) 3 true,⟨some 25,true,.call (.c (.fn 642 [])) [.t 24,.c (.int .i64 2)],some (3,true),false,[]⟩,.V 26 (.pick (.t 23) (.t 25) (.c (.bool false))),.V 27 (.mv (.t 26)),.G 28 (.fa 1 (.t 6)) 7 true,.G 29 (.ld none (.t 28)) 7 true,.G 30 (.mv (.t 3)) 7 true,.G 31 (.mv (.t 3)) 7 true,.G 32 (.len (.t 31)) 7 true,.G 33 (.bin .sub (.t 32) (.c (.int .i64 1))) 7 true,.G 34 (.ia 4 (.t 30) (.t 33)) 7 true,.G 35 (.fa 1 (.t 34)) 7 true,.G 36 (.ld none (.t 35)) 7 true,.G 37 (.bin .neq (.t 29) (.t 36)) 7 true,.V 38 (.pick (.t 27) (.t 37) (.c (.bool false)))] [0,3,4,5,6,38] [0,3,6,1000]) (.cond (.t 38) (.norm [0,3,4,5,6] [0,3,6,1000] spec_l19Draw_k0) .skip)) spec_l19Draw_k2))) spec_l19Draw_k3)
def spec_l19Draw_k5 : C :=
 .norm [0,3,4,5] [0,3,1000] spec_l19Draw_k4
def spec_l19Draw_k6 : C :=
 .seq (.reg false [.V 55 (.mv (.t 3)),.W 2 (.asg (.t 55))] [0,2] [0,2,3,1000]) .ret
def spec_l19Draw_ir : Fn := { np := 1,io := [true],res := [.t 2],own := [true],body :=
 (.seq (.reg false [.W 2 (.asg (.c (.nils 4)))] [0] [0,1000]) (.seq (.reg false [.V 7 (.bsl 4 (.agg [.str [],.str [],.int .i64 0,.int .i64 0]) 0 []),.W 3 (.asg (.t 7))] [0,3] [0,3,1000]) (.seq (.reg false [.V 8 (.mv (.t 0)),.W 9 (.call (.c (.fn 463 [])) [.t 8,.c (.int .i64 60)]),.V 10 (.bin .add (.c (.int .i64 1700)) (.t 9)),.V 4 (.asg (.t 10))] [0,3,4] [0,3,1000]) (.seq (.seq (.reg false [.V 11 (.mv (.t 0)),.W 12 (.call (.c (.fn 463 [])) [.t 11,.c (.int .i64 9)]),.V 5 (.asg (.t 12))] [0,3,4,5] [0,3,1000]) (.block 0 (.loop spec_l19Draw_k5))) spec_l19Draw_k6)))) }
noncomputable def spec_l19Draw_D : List (Nat × Callee) := [(463,spec_l00Src_pick_c),(642,spec_l00Src_one_c),(860,spec_l19DrawOne_c)]
def spec_l19Draw_H : List (Nat × ET) := [(2,T_Deed),(3,T_Deed),(7,T_Deed),(20,T_Deed),(30,T_Deed),(31,T_Deed),(39,T_Deed),(40,T_Deed),(47,T_Deed),(49,T_Deed),(50,T_Deed),(55,T_Deed)]
noncomputable def spec_l19Draw_c : Callee := mkCallee spec_l19Draw_D spec_l19Draw_H spec_l19Draw_ir [.box T_l00Src] [.tok T_Deed] [.box T_l00Src]
noncomputable def spec_l19Draw (a0 : T_l00Src.ty) : Option (List T_Deed.ty × T_l00Src.ty) := spec_l19Draw_c.f (a0,())
noncomputable def spec_l19Draw_p0  (v4 : Int) (v5 : Int) (r0_0 : List Int) (r0_1 : Int) (r0_2 : Int) (r3 : List T_Deed.ty) : Option (List T_Deed.ty × T_l00Src.ty) :=
 goL spec_l19Draw_D spec_l19Draw_H (vleave spec_l19Draw_ir [.box T_l00Src] [.tok T_Deed] [.box T_l00Src] []) [.c spec_l19Draw_k4,.l spec_l19Draw_k5,.e 0,.c spec_l19Draw_k6]
  ⟨[(0,.loc 0 0 0),(3,.view 3 0 r3.length),(4,.int .i64 v4),(5,.int .i64 v5)],[(0,some (.var 3 (.agg [.sl (.one (.int .u8)) r0_0,.int .i64 r0_1,.int .u64 r0_2]))),(3,some (.sl T_Deed r3)),(1000,none)]⟩
noncomputable def spec_l19Draw_p1  (v4 : Int) (v5 : Int) (r0_0 : List Int) (r0_1 : Int) (r0_2 : Int) (r3 : List T_Deed.ty) (r6_0 : List UInt8) (r6_1 : List UInt8) (r6_2 : Int) (r6_3 : Int) : Option (List T_Deed.ty × T_l00Src.ty) :=
 goL spec_l19Draw_D spec_l19Draw_H (vleave spec_l19Draw_ir [.box T_l00Src] [.tok T_Deed] [.box T_l00Src] []) [.c spec_l19Draw_k0,.c spec_l19Draw_k2,.e 1,.c spec_l19Draw_k3,.l spec_l19Draw_k5,.e 0,.c spec_l19Draw_k6]
  ⟨[(0,.loc 0 0 0),(3,.view 3 0 r3.length),(4,.int .i64 v4),(5,.int .i64 v5),(6,.loc 6 0 0)],[(0,some (.var 3 (.agg [.sl (.one (.int .u8)) r0_0,.int .i64 r0_1,.int .u64 r0_2]))),(3,some (.sl T_Deed r3)),(6,some (.var 4 (.agg [.str r6_0,.str r6_1,.int .i64 r6_2,.int .i64 r6_3]))),(1000,none)]⟩
noncomputable def spec_l19Draw_p2  (v4 : Int) (v5 : Int) (r0_0 : List Int) (r0_1 : Int) (r0_2 : Int) (r3 : List T_Deed.ty) (r6_0 : List UInt8) (r6_1 : List UInt8) (r6_2 : Int) (r6_3 : Int) : Option (List T_Deed.ty × T_l00Src.ty) :=
 goL spec_l19Draw_D spec_l19Draw_H (vleave spec_l19Draw_ir [.box T_l00Src] [.tok T_Deed] [.box T_l00Src] []) [.c spec_l19Draw_k1,.e 1,.c spec_l19Draw_k3,.l spec_l19Draw_k5,.e 0,.c spec_l19Draw_k6]
  ⟨[(0,.loc 0 0 0),(3,.view 3 0 r3.length),(4,.int .i64 v4),(5,.int .i64 v5),(6,.loc 6 0 0)],[(0,some (.var 3 (.agg [.sl (.one (.int .u8)) r0_0,.int .i64 r0_1,.int .u64 r0_2]))),(3,some (.sl T_Deed r3)),(6,some (.var 4 (.agg [.str r6_0,.str r6_1,.int .i64 r6_2,.int .i64 r6_3]))),(1000,none)]⟩
theorem spec_l19Draw_eq (a0 : T_l00Src.ty) : spec_l19Draw a0 =
 (spec_l00Src_pick a0 60).bind fun x1 =>
  (spec_l00Src_pick (x1.2.1,x1.2.2.1,x1.2.2.2.1,()) 9).bind fun x2 =>
   spec_l19Draw_p0 (IntKind.i64.wrap (1700 + x1.1)) x2.1 x2.2.1 x2.2.2.1 x2.2.2.2.1 [] :=
 (mk_f _ _ _ _ _ _ _ 4000).trans (by kernel_rfl)
theorem spec_l19Draw_p0_eq  (v4 : Int) (v5 : Int) (r0_0 : List Int) (r0_1 : Int) (r0_2 : Int) (r3 : List T_Deed.ty) : spec_l19Draw_p0 v4 v5 r0_0 r0_1 r0_2 r3 =
 if decide (v5 > 0) then
  (spec_l19DrawOne (r0_0,r0_1,r0_2,()) v4).bind fun x1 =>
   if decide ((r3.length : Int) > 0) then
    (spec_l00Src_one (x1.2.1,x1.2.2.1,x1.2.2.2.1,()) 2).bind fun x2 =>
     if x2.1 then
      if decide (0 ≤ IntKind.i64.wrap ((r3.length : Int) - 1)) && decide (IntKind.i64.wrap ((r3.length : Int) - 1) < (r3.length : Int)) then
       (r3[(IntKind.i64.wrap ((r3.length : Int) - 1)).toNat]?).bind fun x3 =>
        if (!(x1.1.2.1 == x3.2.1)) then
         spec_l19Draw_p1 v4 v5 x2.2.1 x2.2.2.1 x2.2.2.2.1 r3 x1.1.1 x1.1.2.1 x1.1.2.2.1 x1.1.2.2.2.1
        else
         spec_l19Draw_p2 v4 v5 x2.2.1 x2.2.2.1 x2.2.2.2.1 r3 x1.1.1 x1.1.2.1 x1.1.2.2.1 x1.1.2.2.2.1
      else
       none
     else
      spec_l19Draw_p2 v4 v5 x2.2.1 x2.2.2.1 x2.2.2.2.1 r3 x1.1.1 x1.1.2.1 x1.1.2.2.1 x1.1.2.2.2.1
   else
    spec_l19Draw_p2 v4 v5 x1.2.1 x1.2.2.1 x1.2.2.2.1 r3 x1.1.1 x1.1.2.1 x1.1.2.2.1 x1.1.2.2.2.1
 else
  some ((r3.take r3.length),(r0_0,r0_1,r0_2,())) :=
 (goL_dn _ _ _ 4000 _ _).trans (by kernel_rfl)
theorem spec_l19Draw_p1_eq  (v4 : Int) (v5 : Int) (r0_0 : List Int) (r0_1 : Int) (r0_2 : Int) (r3 : List T_Deed.ty) (r6_0 : List UInt8) (r6_1 : List UInt8) (r6_2 : Int) (r6_3 : Int) : spec_l19Draw_p1 v4 v5 r0_0 r0_1 r0_2 r3 r6_0 r6_1 r6_2 r6_3 =
 if decide (0 ≤ IntKind.i64.wrap ((r3.length : Int) - 1)) && decide (IntKind.i64.wrap ((r3.length : Int) - 1) < (r3.length : Int)) then
  (r3[(IntKind.i64.wrap ((r3.length : Int) - 1)).toNat]?).bind fun x1 =>
   spec_l19Draw_p2 v4 v5 r0_0 r0_1 r0_2 r3 x1.2.1 r6_1 r6_2 r6_3
 else
  none :=
 (goL_dn _ _ _ 4000 _ _).trans (by kernel_rfl)
theorem spec_l19Draw_p2_eq  (v4 : Int) (v5 : Int) (r0_0 : List Int) (r0_1 : Int) (r0_2 : Int) (r3 : List T_Deed.ty) (r6_0 : List UInt8) (r6_1 : List UInt8) (r6_2 : Int) (r6_3 : Int) : spec_l19Draw_p2 v4 v5 r0_0 r0_1 r0_2 r3 r6_0 r6_1 r6_2 r6_3 =
 if decide (r3.length + 1 < lim) then
  (spec_l00Src_pick (r0_0,r0_1,r0_2,()) 30).bind fun x1 =>
   spec_l19Draw_p0 (IntKind.i64.wrap (v4 + x1.1)) (IntKind.i64.wrap (v5 - 1)) x1.2.1 x1.2.2.1 x1.2.2.2.1 ((r3.take r3.length) ++ [(r6_0,r6_1,r6_2,r6_3,())])
 else
  none :=
 (goL_dn _ _ _ 4000 _ _).trans (by kernel_rfl)
def spec_R8Deeds_ir : Fn := { np := 1,io := [],res := [.t 2],own := [true],body :=
 (.seq (.reg false [.W 2 (.asg (.c (.nils 4)))] [0] []) (.seq (.reg false [.V 4 (.mv (.t 0)),.W 5 (.call (.c (.fn 441 [])) [.t 4]),.V 3 (.asg (.t 5))] [3] [5,6000]) (.seq (.reg false [.V 6 (.mv (.t 3)),.W 7 (.call (.c (.fn 519 [])) [.t 6]),.W 2 (.asg (.t 7))] [2] [2]) .ret))) }
noncomputable def spec_R8Deeds_D : List (Nat × Callee) := [(441,spec_l00From_c),(519,spec_l19Draw_c)]
def spec_R8Deeds_H : List (Nat × ET) := [(2,T_Deed),(4,(.one (.int .u8))),(7,T_Deed)]
noncomputable def spec_R8Deeds_c : Callee := mkCallee spec_R8Deeds_D spec_R8Deeds_H spec_R8Deeds_ir [.d (.one (.sl (.one (.int .u8))))] [.tok T_Deed] []
noncomputable def spec_R8Deeds (a0 : List Int) : Option (List T_Deed.ty) := spec_R8Deeds_c.f (a0,())
theorem spec_R8Deeds_eq (a0 : List Int) : spec_R8Deeds a0 =
 (spec_l00From a0).bind fun x1 =>
  (spec_l19Draw x1).bind fun x2 =>
   some (x2.1.take x2.1.length) :=
 (mk_f _ _ _ _ _ _ _ 4000).trans (by kernel_rfl)
def impl_isDigit_ir : Fn := { np := 1,io := [],res := [.t 2],own := [false],body :=
 (.seq (.reg false [.V 2 (.asg (.c (.bool false)))] [0] []) (.seq (.reg false [.V 3 (.mv (.t 0)),.V 4 (.bin .geq (.t 3) (.c (.int .u8 48))),.V 5 (.mv (.t 4)),.G 6 (.mv (.t 0)) 2 true,.G 7 (.bin .leq (.t 6) (.c (.int .u8 57))) 2 true,.V 8 (.pick (.t 5) (.t 7) (.c (.bool false))),.V 2 (.asg (.t 8))] [2] []) .ret)) }
noncomputable def impl_isDigit_D : List (Nat × Callee) := []
def impl_isDigit_H : List (Nat × ET) := []
noncomputable def impl_isDigit_c : Callee := mkCallee impl_isDigit_D impl_isDigit_H impl_isDigit_ir [.d (.one (.int .u8))] [.d (.one .bool)] []
noncomputable def impl_isDigit (a0 : Int) : Option (Bool) := impl_isDigit_c.f (a0,())
theorem impl_isDigit_eq (a0 : Int) : impl_isDigit a0 =
 if decide (a0 ≥ 48) then
  some (decide (a0 ≤ 57))
 else
  some false :=
 (mk_f _ _ _ _ _ _ _ 4000).trans (by kernel_rfl)
def impl_few_ir : Fn := { np := 2,io := [],res := [.t 4],own := [false],body :=
 (.seq (.reg false [.V 4 (.asg (.c (.bool false)))] [0,1] []) (.seq (.reg false [.V 5 (.mv (.t 0)),.V 6 (.mv (.t 1)),.V 7 (.bin .leq (.t 5) (.t 6)),.V 4 (.asg (.t 7))] [4] []) .ret)) }
noncomputable def impl_few_D : List (Nat × Callee) := []
def impl_few_H : List (Nat × ET) := []
noncomputable def impl_few_c : Callee := mkCallee impl_few_D impl_few_H impl_few_ir [.d (.one (.int .i64)),.d (.one (.int .i64))] [.d (.one .bool)] []
noncomputable def impl_few (a0 : Int) (a1 : Int) : Option (Bool) := impl_few_c.f (a0,a1,())
theorem impl_few_eq (a0 : Int) (a1 : Int) : impl_few a0 a1 =
 some (decide (a0 ≤ a1)) :=
 (mk_f _ _ _ _ _ _ _ 4000).trans (by kernel_rfl)
def impl_IsName_k0 : C :=
 .seq (.reg false [.V 21 (.mv (.t 4)),.V 22 (.un .not (.t 21)),.V 23 (.mv (.t 22)),.G 24 (.mv (.t 3)) 2 true,.G 25 (.bin .eql (.t 24) (.c (.int .i64 0))) 2 true,.G 26 (.mv (.t 25)) 2 true,.G 27 (.mv (.t 0)) 5 false,.G 28 (.mv (.t 3)) 5 false,.G 29 (.ix (.t 27) (.t 28)) 5 false,.G 30 (.call (.c (.fn 22 [])) [.t 29]) 5 false,.G 31 (.un .not (.t 30)) 5 false,.G 32 (.pick (.t 26) (.c (.bool true)) (.t 31)) 2 true,.V 33 (.pick (.t 23) (.t 32) (.c (.bool false)))] [0,3,33] []) (.cond (.t 33) (.seq (.reg false [.V 2 (.asg (.c (.bool false)))] [2] []) .ret) .skip)
def impl_IsName_k1 : C :=
 .reg false [.V 9 (.mv (.t 3)),.V 10 (.bin .add (.t 9) (.c (.int .i64 1))),.V 3 (.asg (.t 10))] [0,3] []
def impl_IsName_k2 : C :=
 .seq (.seq (.reg false [.V 5 (.mv (.t 3)),.V 6 (.mv (.t 0)),.V 7 (.lens (.t 6)),.V 8 (.bin .lss (.t 5) (.t 7))] [0,3,8] []) (.cond (.t 8) .skip (.exit 0))) (.seq (.block 1 (.seq (.reg false [.V 11 (.mv (.t 0)),.V 12 (.mv (.t 3)),.V 13 (.ix (.t 11) (.t 12)),.V 14 (.bin .geq (.t 13) (.c (.int .u8 97))),.V 15 (.mv (.t 14)),.G 16 (.mv (.t 0)) 4 true,.G 17 (.mv (.t 3)) 4 true,.G 18 (.ix (.t 16) (.t 17)) 4 true,.G 19 (.bin .leq (.t 18) (.c (.int .u8 122))) 4 true,.V 20 (.pick (.t 15) (.t 19) (.c (.bool false))),.V 4 (.asg (.t 20))] [0,3,4] []) (.norm [0,3,4] [] impl_IsName_k0))) impl_IsName_k1)
def impl_IsName_k3 : C :=
 .norm [0,3] [] impl_IsName_k2
def impl_IsName_k4 : C :=
 .seq (.reg false [.V 34 (.mv (.t 0)),.V 35 (.bin .neq (.t 34) (.c (.str []))),.V 36 (.mv (.t 35)),.G 37 (.mv (.t 0)) 2 true,.G 38 (.lens (.t 37)) 2 true,.G 39 (.call (.c (.fn 21 [])) [.t 38,.c (.int .i64 10)]) 2 true,.V 40 (.pick (.t 36) (.t 39) (.c (.bool false))),.V 2 (.asg (.t 40))] [2] []) .ret
def impl_IsName_ir : Fn := { np := 1,io := [],res := [.t 2],own := [false],body :=
 (.seq (.reg false [.V 2 (.asg (.c (.bool false)))] [0] []) (.seq (.seq (.reg false [.V 3 (.asg (.c (.int .i64 0)))] [0,3] []) (.block 0 (.loop impl_IsName_k3))) impl_IsName_k4)) }
noncomputable def impl_IsName_D : List (Nat × Callee) := [(21,impl_few_c),(22,impl_isDigit_c)]
def impl_IsName_H : List (Nat × ET) := []
noncomputable def impl_IsName_c : Callee := mkCallee impl_IsName_D impl_IsName_H impl_IsName_ir [.d (.one .str)] [.d (.one .bool)] []
noncomputable def impl_IsName (a0 : List UInt8) : Option (Bool) := impl_IsName_c.f (a0,())
noncomputable def impl_IsName_p0  (v0 : List UInt8) (v3 : Int) : Option (Bool) :=
 goL impl_IsName_D impl_IsName_H (vleave impl_IsName_ir [.d (.one .str)] [.d (.one .bool)] [] []) [.c impl_IsName_k2,.l impl_IsName_k3,.e 0,.c impl_IsName_k4]
  ⟨[(0,.str v0),(3,.int .i64 v3)],[]⟩
noncomputable def impl_IsName_p1  (v0 : List UInt8) (v3 : Int) (v4 : Bool) : Option (Bool) :=
 goL impl_IsName_D impl_IsName_H (vleave impl_IsName_ir [.d (.one .str)] [.d (.one .bool)] [] []) [.c impl_IsName_k0,.e 1,.c impl_IsName_k1,.l impl_IsName_k3,.e 0,.c impl_IsName_k4]
  ⟨[(0,.str v0),(3,.int .i64 v3),(4,.bool v4)],[]⟩
theorem impl_IsName_eq (a0 : List UInt8) : impl_IsName a0 =
 impl_IsName_p0 a0 0 :=
 (mk_f _ _ _ _ _ _ _ 4000).trans (by kernel_rfl)
theorem impl_IsName_p0_eq  (v0 : List UInt8) (v3 : Int) : impl_IsName_p0 v0 v3 =
 if decide (v3 < (v0.length : Int)) then
  if decide (0 ≤ v3) then
   (v0[v3.toNat]?).bind fun x1 =>
    if decide ((x1.toNat : Int) ≥ 97) then
     if decide (0 ≤ v3) then
      (v0[v3.toNat]?).bind fun x2 =>
       impl_IsName_p1 v0 v3 (decide ((x2.toNat : Int) ≤ 122))
     else
      none
    else
     impl_IsName_p1 v0 v3 false
  else
   none
 else
  if (!(v0 == [])) then
   (impl_few (v0.length : Int) 10).bind fun x3 =>
    some x3
  else
   some false :=
 (goL_dn _ _ _ 4000 _ _).trans (by kernel_rfl)
theorem impl_IsName_p1_eq  (v0 : List UInt8) (v3 : Int) (v4 : Bool) : impl_IsName_p1 v0 v3 v4 =
 if (!v4) then
  if (v3 == 0) then
   some false
  else
   if decide (0 ≤ v3) then
    (v0[v3.toNat]?).bind fun x1 =>
     (impl_isDigit (x1.toNat : Int)).bind fun x2 =>
      if (!x2) then
       some false
      else
       impl_IsName_p0 v0 (IntKind.i64.wrap (v3 + 1))
   else
    none
 else
  impl_IsName_p0 v0 (IntKind.i64.wrap (v3 + 1)) :=
 (goL_dn _ _ _ 4000 _ _).trans (by kernel_rfl)
def impl_within_ir : Fn := { np := 3,io := [],res := [.t 6],own := [false],body :=
 (.seq (.reg false [.V 6 (.asg (.c (.bool false)))] [0,1,2] []) (.seq (.reg false [.V 7 (.mv (.t 1)),.V 8 (.mv (.t 0)),.V 9 (.bin .leq (.t 7) (.t 8)),.V 10 (.mv (.t 9)),.G 11 (.mv (.t 0)) 3 true,.G 12 (.mv (.t 2)) 3 true,.G 13 (.bin .leq (.t 11) (.t 12)) 3 true,.V 14 (.pick (.t 10) (.t 13) (.c (.bool false))),.V 6 (.asg (.t 14))] [6] []) .ret)) }
noncomputable def impl_within_D : List (Nat × Callee) := []
def impl_within_H : List (Nat × ET) := []
noncomputable def impl_within_c : Callee := mkCallee impl_within_D impl_within_H impl_within_ir [.d (.one (.int .i64)),.d (.one (.int .i64)),.d (.one (.int .i64))] [.d (.one .bool)] []
noncomputable def impl_within (a0 : Int) (a1 : Int) (a2 : Int) : Option (Bool) := impl_within_c.f (a0,a1,a2,())
theorem impl_within_eq (a0 : Int) (a1 : Int) (a2 : Int) : impl_within a0 a1 a2 =
 if decide (a1 ≤ a0) then
  some (decide (a0 ≤ a2))
 else
  some false :=
 (mk_f _ _ _ _ _ _ _ 4000).trans (by kernel_rfl)
def impl_isYear_ir : Fn := { np := 1,io := [],res := [.t 2],own := [false],body :=
 (.seq (.reg false [.V 2 (.asg (.c (.bool false)))] [0] []) (.seq (.reg false [.V 3 (.mv (.t 0)),.V 4 (.call (.c (.fn 23 [])) [.t 3,.c (.int .i64 0),.c (.int .i64 2100)]),.V 2 (.asg (.t 4))] [2] []) .ret)) }
noncomputable def impl_isYear_D : List (Nat × Callee) := [(23,impl_within_c)]
def impl_isYear_H : List (Nat × ET) := []
noncomputable def impl_isYear_c : Callee := mkCallee impl_isYear_D impl_isYear_H impl_isYear_ir [.d (.one (.int .i64))] [.d (.one .bool)] []
noncomputable def impl_isYear (a0 : Int) : Option (Bool) := impl_isYear_c.f (a0,())
theorem impl_isYear_eq (a0 : Int) : impl_isYear a0 =
 (impl_within a0 0 2100).bind fun x1 =>
  some x1 :=
 (mk_f _ _ _ _ _ _ _ 4000).trans (by kernel_rfl)
def impl_Deed_valid_ir : Fn := { np := 1,io := [],res := [.t 2],own := [false],body :=
 (.seq (.reg false [.W 1 (.box 4 (.t 0)),.V 2 (.asg (.c (.bool false)))] [1] [1]) (.seq (.reg false [.V 3 (.fa 0 (.t 1)),.V 4 (.ld none (.t 3)),.V 5 (.call (.c (.fn 24 [])) [.t 4]),.V 6 (.mv (.t 5)),.G 7 (.fa 1 (.t 1)) 3 true,.G 8 (.ld none (.t 7)) 3 true,.G 9 (.call (.c (.fn 24 [])) [.t 8]) 3 true,.V 10 (.pick (.t 6) (.t 9) (.c (.bool false))),.V 11 (.mv (.t 10)),.G 12 (.fa 0 (.t 1)) 8 true,.G 13 (.ld none (.t 12)) 8 true,.G 14 (.fa 1 (.t 1)) 8 true,.G 15 (.ld none (.t 14)) 8 true,.G 16 (.bin .neq (.t 13) (.t 15)) 8 true,.V 17 (.pick (.t 11) (.t 16) (.c (.bool false))),.V 18 (.mv (.t 17)),.G 19 (.fa 2 (.t 1)) 15 true,.G 20 (.ld none (.t 19)) 15 true,.G 21 (.call (.c (.fn 531 [])) [.t 20]) 15 true,.V 22 (.pick (.t 18) (.t 21) (.c (.bool false))),.V 23 (.mv (.t 22)),.G 24 (.fa 3 (.t 1)) 20 true,.G 25 (.ld none (.t 24)) 20 true,.G 26 (.call (.c (.fn 23 [])) [.t 25,.c (.int .i64 0),.c (.int .i64 1000)]) 20 true,.V 27 (.pick (.t 23) (.t 26) (.c (.bool false))),.V 2 (.asg (.t 27))] [2] []) .ret)) }
noncomputable def impl_Deed_valid_D : List (Nat × Callee) := [(23,impl_within_c),(24,impl_IsName_c),(531,impl_isYear_c)]
def impl_Deed_valid_H : List (Nat × ET) := []
noncomputable def impl_Deed_valid_c : Callee := mkCallee impl_Deed_valid_D impl_Deed_valid_H impl_Deed_valid_ir [.d T_Deed] [.d (.one .bool)] []
noncomputable def impl_Deed_valid (a0 : T_Deed.ty) : Option (Bool) := impl_Deed_valid_c.f (a0,())
theorem impl_Deed_valid_eq (a0 : T_Deed.ty) : impl_Deed_valid a0 =
 (impl_IsName a0.1).bind fun x1 =>
  if x1 then
   (impl_IsName a0.2.1).bind fun x2 =>
    if x2 then
     if (!(a0.1 == a0.2.1)) then
      (impl_isYear a0.2.2.1).bind fun x3 =>
       if x3 then
        (impl_within a0.2.2.2.1 0 1000).bind fun x4 =>
         some x4
       else
        some false
     else
      some false
    else
     some false
  else
   some false :=
 (mk_f _ _ _ _ _ _ _ 4000).trans (by kernel_rfl)
def impl_ValidDeeds_k0 : C :=
 .seq (.reg false [.V 8 (.bin .lss (.t 7) (.t 6))] [0,5,6,7,8] []) (.seq (.cond (.t 8) .skip (.exit 0)) (.seq (.block 1 (.seq (.reg false [.V 9 (.mv (.t 7)),.V 10 (.ia 4 (.t 5) (.t 7)),.V 11 (.ld (some 4) (.t 10)),.W 4 (.alloc 4 (.agg [.str [],.str [],.int .i64 0,.int .i64 0])),.V 3 (.asg (.t 9)),⟨none,true,.sto 4 (.t 4) (.t 11),none,false,[]⟩] [0,3,4,5,6,7] [4]) (.seq (.reg true [.V 12 (.ld (some 4) (.t 4)),.V 13 (.call (.c (.fn 521 [])) [.t 12]),.V 14 (.un .not (.t 13)),.V 15 (.mv (.t 14)),.G 16 (.mv (.t 3)) 3 false,.G 17 (.bin .gtr (.t 16) (.c (.int .i64 0))) 3 false,.G 18 (.mv (.t 17)) 3 false,.G 19 (.mv (.t 0)) 6 true,.G 20 (.mv (.t 3)) 6 true,.G 21 (.bin .sub (.t 20) (.c (.int .i64 1))) 6 true,.G 22 (.ia 4 (.t 19) (.t 21)) 6 true,.G 23 (.fa 2 (.t 22)) 6 true,.G 24 (.ld none (.t 23)) 6 true,.G 25 (.fa 2 (.t 4)) 6 true,.G 26 (.ld none (.t 25)) 6 true,.G 27 (.bin .gtr (.t 24) (.t 26)) 6 true,.G 28 (.pick (.t 18) (.t 27) (.c (.bool false))) 3 false,.V 29 (.pick (.t 15) (.c (.bool true)) (.t 28))] [0,5,6,7,29] []) (.cond (.t 29) (.seq (.reg false [.V 2 (.asg (.c (.bool false)))] [2] []) .ret) .skip)))) (.reg false [.V 30 (.bin .add (.t 7) (.c (.int .i64 1))),.V 7 (.mv (.t 30))] [0,5,6,7] [])))
def impl_ValidDeeds_k1 : C :=
 .norm [0,5,6,7] [] impl_ValidDeeds_k0
def impl_ValidDeeds_k2 : C :=
 .seq (.reg false [.V 31 (.mv (.t 0)),.V 32 (.len (.t 31)),.V 33 (.call (.c (.fn 21 [])) [.t 32,.c (.int .i64 16)]),.V 2 (.asg (.t 33))] [2] []) .ret
def impl_ValidDeeds_ir : Fn := { np := 1,io := [],res := [.t 2],own := [false],body :=
 (.seq (.reg false [.V 2 (.asg (.c (.bool false)))] [0] []) (.seq (.seq (.reg false [.V 5 (.mv (.t 0)),.V 6 (.len (.t 5)),.V 7 (.mv (.c (.int .i64 0)))] [0,5,6,7] []) (.block 0 (.loop impl_ValidDeeds_k1))) impl_ValidDeeds_k2)) }
noncomputable def impl_ValidDeeds_D : List (Nat × Callee) := [(21,impl_few_c),(521,impl_Deed_valid_c)]
def impl_ValidDeeds_H : List (Nat × ET) := [(5,T_Deed),(19,T_Deed),(31,T_Deed)]
noncomputable def impl_ValidDeeds_c : Callee := mkCallee impl_ValidDeeds_D impl_ValidDeeds_H impl_ValidDeeds_ir [.d (.one (.sl T_Deed))] [.d (.one .bool)] []
noncomputable def impl_ValidDeeds (a0 : List T_Deed.ty) : Option (Bool) := impl_ValidDeeds_c.f (a0,())
noncomputable def impl_ValidDeeds_p0  (v0 : List T_Deed.ty) (v5 : List T_Deed.ty) (v6 : Int) (v7 : Int) : Option (Bool) :=
 goL impl_ValidDeeds_D impl_ValidDeeds_H (vleave impl_ValidDeeds_ir [.d (.one (.sl T_Deed))] [.d (.one .bool)] [] []) [.c impl_ValidDeeds_k0,.l impl_ValidDeeds_k1,.e 0,.c impl_ValidDeeds_k2]
  ⟨[(0,.sl T_Deed v0),(5,.sl T_Deed v5),(6,.int .i64 v6),(7,.int .i64 v7)],[]⟩
theorem impl_ValidDeeds_eq (a0 : List T_Deed.ty) : impl_ValidDeeds a0 =
 impl_ValidDeeds_p0 a0 a0 (a0.length : Int) 0 :=
 (mk_f _ _ _ _ _ _ _ 4000).trans (by kernel_rfl)
theorem impl_ValidDeeds_p0_eq  (v0 : List T_Deed.ty) (v5 : List T_Deed.ty) (v6 : Int) (v7 : Int) : impl_ValidDeeds_p0 v0 v5 v6 v7 =
 if decide (v7 < v6) then
  if decide (0 ≤ v7) then
   (v5[v7.toNat]?).bind fun x1 =>
    (impl_Deed_valid x1).bind fun x2 =>
     if (!x2) then
      some false
     else
      if decide (v7 > 0) then
       if decide (0 ≤ IntKind.i64.wrap (v7 - 1)) then
        (v0[(IntKind.i64.wrap (v7 - 1)).toNat]?).bind fun x3 =>
         if decide (x3.2.2.1 > x1.2.2.1) then
          some false
         else
          impl_ValidDeeds_p0 v0 v5 v6 (IntKind.i64.wrap (v7 + 1))
       else
        none
      else
       impl_ValidDeeds_p0 v0 v5 v6 (IntKind.i64.wrap (v7 + 1))
  else
   none
 else
  (impl_few (v0.length : Int) 16).bind fun x4 =>
   some x4 :=
 (goL_dn _ _ _ 4000 _ _).trans (by kernel_rfl)
noncomputable def slices_Sort___string_string__c : Callee := sortSC
noncomputable def slices_Sort___string_string_ (a0 : List (List UInt8)) : Option (List (List UInt8)) := slices_Sort___string_string__c.f (a0,())
theorem slices_Sort___string_string__eq (a0 : List (List UInt8)) : slices_Sort___string_string_ a0 = if decide (a0.length < 4611686018427387904) then some (a0.mergeSort fun a b => decide (a ≤ b)) else none := rfl
noncomputable def slices_Compact___string_string__c : Callee := compactSC
noncomputable def slices_Compact___string_string_ (a0 : List (List UInt8)) : Option (List (List UInt8) × Unit) := slices_Compact___string_string__c.f (a0,())
theorem slices_Compact___string_string__eq (a0 : List (List UInt8)) : slices_Compact___string_string_ a0 = if decide (a0.length ≤ 9223372036854775807) then some (Lib.compact a0,()) else none := rfl
def impl_sortedSet_ir : Fn := { np := 1,io := [true],res := [.t 2],own := [false],body :=
 (.seq (.reg false [.W 2 (.asg (.c (.nils 1)))] [0] [0]) (.seq (.reg false [.V 3 (.mv (.t 0)),.W 4 (.call (.c (.fn 823 [])) [.t 3])] [0] [0]) (.seq (.reg false [.V 5 (.mv (.t 0)),.W 6 (.call (.c (.fn 861 [])) [.t 5]),.W 2 (.asg (.t 6))] [0,2] [0,2]) .ret))),gone := [0] }
noncomputable def impl_sortedSet_D : List (Nat × Callee) := [(823,slices_Sort___string_string__c),(861,slices_Compact___string_string__c)]
def impl_sortedSet_H : List (Nat × ET) := [(2,(.one .str)),(3,(.one .str)),(5,(.one .str)),(6,(.one .str))]
noncomputable def impl_sortedSet_c : Callee := mkCallee impl_sortedSet_D impl_sortedSet_H impl_sortedSet_ir [.ios (.one .str)] [.d (.one (.sl (.one .str)))] [.gone]
noncomputable def impl_sortedSet (a0 : List (List UInt8)) : Option (List (List UInt8) × Unit) := impl_sortedSet_c.f (a0,())
theorem impl_sortedSet_eq (a0 : List (List UInt8)) : impl_sortedSet a0 =
 if decide (a0.length = a0.length) then
  (slices_Sort___string_string_ a0).bind fun x1 =>
   if decide (a0.length = x1.length) then
    (slices_Compact___string_string_ x1).bind fun x2 =>
     some ((x2.1.take x2.1.length),())
   else
    none
 else
  none :=
 (mk_f _ _ _ _ _ _ _ 4000).trans (by kernel_rfl)
def impl_OwnersOf_k0 : C :=
 .seq (.reg false [.V 14 (.bin .lss (.t 13) (.t 12))] [4,11,12,13,14] [4]) (.seq (.cond (.t 14) .skip (.exit 0)) (.seq (.block 1 (.seq (.reg false [.V 15 (.ia 4 (.t 11) (.t 13)),.V 16 (.ld (some 4) (.t 15)),.W 6 (.alloc 4 (.agg [.str [],.str [],.int .i64 0,.int .i64 0])),⟨none,true,.sto 4 (.t 6) (.t 16),none,false,[]⟩] [4,6,11,12,13] [4,6]) (.reg false [.V 17 (.mv (.t 4)),.V 18 (.fa 0 (.t 6)),.V 19 (.ld none (.t 18)),.V 20 (.fa 1 (.t 6)),.V 21 (.ld none (.t 20)),.V 22 (.bsl 1 (.str []) 2 [(0,.t 19),(1,.t 21)]),.W 23 (.app 1 16 (.t 17) (.t 22)),.W 4 (.asg (.t 23))] [4,11,12,13] [4]))) (.reg false [.V 24 (.bin .add (.t 13) (.c (.int .i64 1))),.V 13 (.mv (.t 24))] [4,11,12,13] [4])))
def impl_OwnersOf_k1 : C :=
 .norm [4,11,12,13] [4] impl_OwnersOf_k0
def impl_OwnersOf_k2 : C :=
 .seq (.reg false [.V 25 (.mv (.t 4)),.W 26 (.call (.c (.fn 520 [])) [.t 25]),.W 2 (.asg (.t 26)),.V 3 (.asg (.c (.int .i64 0)))] [2,3] [2]) .ret
def impl_OwnersOf_ir : Fn := { np := 1,io := [],res := [.t 2,.t 3],own := [false,false],body :=
 (.seq (.reg false [.W 2 (.asg (.c (.nils 1))),.V 3 (.asg (.c (.int .i64 0)))] [0] []) (.seq (.seq (.reg false [.V 7 (.mv (.t 0)),.V 8 (.call (.c (.fn 154 [])) [.t 7]),.V 9 (.un .not (.t 8))] [0,9] []) (.cond (.t 9) (.seq (.reg false [.W 2 (.asg (.c (.nils 1))),.V 3 (.asg (.c (.int .i64 1)))] [2,3] [2]) .ret) .skip)) (.seq (.reg false [.V 10 (.bsl 1 (.str []) 0 []),.W 4 (.asg (.t 10))] [0,4] [4]) (.seq (.seq (.reg false [.V 11 (.mv (.t 0)),.V 12 (.len (.t 11)),.V 13 (.mv (.c (.int .i64 0)))] [4,11,12,13] [4]) (.block 0 (.loop impl_OwnersOf_k1))) impl_OwnersOf_k2)))) }
noncomputable def impl_OwnersOf_D : List (Nat × Callee) := [(154,impl_ValidDeeds_c),(520,impl_sortedSet_c)]
def impl_OwnersOf_H : List (Nat × ET) := [(2,(.one .str)),(4,(.one .str)),(7,T_Deed),(10,(.one .str)),(11,T_Deed),(17,(.one .str)),(22,(.one .str)),(23,(.one .str)),(25,(.one .str)),(26,(.one .str))]
noncomputable def impl_OwnersOf_c : Callee := mkCallee impl_OwnersOf_D impl_OwnersOf_H impl_OwnersOf_ir [.d (.one (.sl T_Deed))] [.d (.one (.sl (.one .str))),.d (.one (.int .i64))] []
noncomputable def impl_OwnersOf (a0 : List T_Deed.ty) : Option (List (List UInt8) × Int) := impl_OwnersOf_c.f (a0,())
noncomputable def impl_OwnersOf_p0  (v11 : List T_Deed.ty) (v12 : Int) (v13 : Int) (r4 : List (List UInt8)) : Option (List (List UInt8) × Int) :=
 goL impl_OwnersOf_D impl_OwnersOf_H (vleave impl_OwnersOf_ir [.d (.one (.sl T_Deed))] [.d (.one (.sl (.one .str))),.d (.one (.int .i64))] [] []) [.c impl_OwnersOf_k0,.l impl_OwnersOf_k1,.e 0,.c impl_OwnersOf_k2]
  ⟨[(4,.view 4 0 r4.length),(11,.sl T_Deed v11),(12,.int .i64 v12),(13,.int .i64 v13)],[(4,some (.sl (.one .str) r4))]⟩
theorem impl_OwnersOf_eq (a0 : List T_Deed.ty) : impl_OwnersOf a0 =
 (impl_ValidDeeds a0).bind fun x1 =>
  if (!x1) then
   some ([],1)
  else
   impl_OwnersOf_p0 a0 (a0.length : Int) 0 [] :=
 (mk_f _ _ _ _ _ _ _ 4000).trans (by kernel_rfl)
theorem impl_OwnersOf_p0_eq  (v11 : List T_Deed.ty) (v12 : Int) (v13 : Int) (r4 : List (List UInt8)) : impl_OwnersOf_p0 v11 v12 v13 r4 =
 if decide (v13 < v12) then
  if decide (0 ≤ v13) then
   (v11[v13.toNat]?).bind fun x1 =>
    if decide (r4.length + 2 < lim) then
     impl_OwnersOf_p0 v11 v12 (IntKind.i64.wrap (v13 + 1)) ((r4.take r4.length) ++ [x1.1,x1.2.1])
    else
     none
  else
   none
 else
  if decide (r4.length = r4.length) then
   (impl_sortedSet r4).bind fun x2 =>
    some (x2.1,0)
  else
   none :=
 (goL_dn _ _ _ 4000 _ _).trans (by kernel_rfl)
noncomputable def strconv_FormatInt_c : Callee := formatIntC
noncomputable def strconv_FormatInt (a0 : Int) (a1 : Int) : Option (List UInt8) := strconv_FormatInt_c.f (a0,a1,())
theorem strconv_FormatInt_eq (a0 : Int) (a1 : Int) : strconv_FormatInt a0 a1 = if decide (a1 = 10) && (decide (-9223372036854775808 ≤ a0) && decide (a0 ≤ 9223372036854775807)) then some (Lib.itoa a0) else none := rfl
def impl_Decimal_ir : Fn := { np := 1,io := [],res := [.t 2],own := [false],body :=
 (.seq (.reg false [.V 2 (.asg (.c (.str [])))] [0] []) (.seq (.reg false [.V 3 (.mv (.t 0)),.V 4 (.call (.c (.fn 864 [])) [.t 3,.c (.int .i64 10)]),.V 2 (.asg (.t 4))] [2] []) .ret)) }
noncomputable def impl_Decimal_D : List (Nat × Callee) := [(864,strconv_FormatInt_c)]
def impl_Decimal_H : List (Nat × ET) := []
noncomputable def impl_Decimal_c : Callee := mkCallee impl_Decimal_D impl_Decimal_H impl_Decimal_ir [.d (.one (.int .i64))] [.d (.one .str)] []
noncomputable def impl_Decimal (a0 : Int) : Option (List UInt8) := impl_Decimal_c.f (a0,())
theorem impl_Decimal_eq (a0 : Int) : impl_Decimal a0 =
 (strconv_FormatInt a0 10).bind fun x1 =>
  some x1 :=
 (mk_f _ _ _ _ _ _ _ 4000).trans (by kernel_rfl)
def impl_DeedText_ir : Fn := { np := 1,io := [],res := [.t 2],own := [false],body :=
 (.seq (.reg false [.W 1 (.box 4 (.t 0)),.V 2 (.asg (.c (.str [])))] [1] [1]) (.seq (.seq (.reg false [.V 3 (.ld (some 4) (.t 1)),.V 4 (.call (.c (.fn 521 [])) [.t 3]),.V 5 (.un .not (.t 4))] [1,5] [1]) (.cond (.t 5) (.seq (.reg false [.V 2 (.asg (.c (.str [])))] [2] []) .ret) .skip)) (.seq (.reg true [.V 6 (.fa 2 (.t 1)),.V 7 (.ld none (.t 6)),.V 8 (.call (.c (.fn 524 [])) [.t 7]),.V 9 (.bin .add (.t 8) (.c (.str [32]))),.V 10 (.fa 0 (.t 1)),.V 11 (.ld none (.t 10)),.V 12 (.bin .add (.t 9) (.t 11)),.V 13 (.bin .add (.t 12) (.c (.str [45]))),.V 14 (.fa 1 (.t 1)),.V 15 (.ld none (.t 14)),.V 16 (.bin .add (.t 13) (.t 15)),.V 17 (.bin .add (.t 16) (.c (.str [32]))),.V 18 (.fa 3 (.t 1)),.V 19 (.ld none (.t 18)),.V 20 (.call (.c (.fn 524 [])) [.t 19]),.V 21 (.bin .add (.t 17) (.t 20)),.V 2 (.asg (.t 21))] [2] []) .ret))) }
noncomputable def impl_DeedText_D : List (Nat × Callee) := [(521,impl_Deed_valid_c),(524,impl_Decimal_c)]
def impl_DeedText_H : List (Nat × ET) := []
noncomputable def impl_DeedText_c : Callee := mkCallee impl_DeedText_D impl_DeedText_H impl_DeedText_ir [.d T_Deed] [.d (.one .str)] []
noncomputable def impl_DeedText (a0 : T_Deed.ty) : Option (List UInt8) := impl_DeedText_c.f (a0,())
theorem impl_DeedText_eq (a0 : T_Deed.ty) : impl_DeedText a0 =
 (impl_Deed_valid a0).bind fun x1 =>
  if (!x1) then
   some []
  else
   (impl_Decimal a0.2.2.1).bind fun x2 =>
    if decide (x2.length + [32].length ≤ strMax) then
     if decide ((x2 ++ [32]).length + a0.1.length ≤ strMax) then
      if decide (((x2 ++ [32]) ++ a0.1).length + [45].length ≤ strMax) then
       if decide ((((x2 ++ [32]) ++ a0.1) ++ [45]).length + a0.2.1.length ≤ strMax) then
        if decide (((((x2 ++ [32]) ++ a0.1) ++ [45]) ++ a0.2.1).length + [32].length ≤ strMax) then
         (impl_Decimal a0.2.2.2.1).bind fun x3 =>
          if decide ((((((x2 ++ [32]) ++ a0.1) ++ [45]) ++ a0.2.1) ++ [32]).length + x3.length ≤ strMax) then
           some ((((((x2 ++ [32]) ++ a0.1) ++ [45]) ++ a0.2.1) ++ [32]) ++ x3)
          else
           none
        else
         none
       else
        none
      else
       none
     else
      none
    else
     none :=
 (mk_f _ _ _ _ _ _ _ 4000).trans (by kernel_rfl)
noncomputable def strings_Split_c : Callee := splitC
noncomputable def strings_Split (a0 : List UInt8) (a1 : List UInt8) : Option (List (List UInt8)) := strings_Split_c.f (a0,a1,())
theorem strings_Split_eq (a0 : List UInt8) (a1 : List UInt8) : strings_Split a0 a1 = if decide (a0.length < 4294967281) && decide (1 ≤ a1.length) then some (Lib.splitK a1 0 (Lib.count a0 a1) a0) else none := rfl
def impl_SplitWords_k0 : C :=
 .seq (.reg false [.V 11 (.bin .lss (.t 10) (.t 9))] [3,8,9,10,11] [3]) (.seq (.cond (.t 11) .skip (.exit 0)) (.seq (.block 1 (.seq (.reg false [.V 12 (.ia 1 (.t 8) (.t 10)),.V 13 (.ld none (.t 12)),.V 5 (.asg (.t 13))] [3,5,8,9,10] [3]) (.seq (.reg false [.V 14 (.mv (.t 5)),.V 15 (.bin .neq (.t 14) (.c (.str [])))] [3,5,8,9,10,15] [3]) (.cond (.t 15) (.reg false [.V 16 (.mv (.t 3)),.V 17 (.mv (.t 5)),.V 18 (.bsl 1 (.str []) 1 [(0,.t 17)]),.W 19 (.app 1 16 (.t 16) (.t 18)),.W 3 (.asg (.t 19))] [3,8,9,10] [3]) .skip)))) (.reg false [.V 20 (.bin .add (.t 10) (.c (.int .i64 1))),.V 10 (.mv (.t 20))] [3,8,9,10] [3])))
def impl_SplitWords_k1 : C :=
 .norm [3,8,9,10] [3] impl_SplitWords_k0
def impl_SplitWords_k2 : C :=
 .seq (.reg false [.V 21 (.mv (.t 3)),.W 2 (.asg (.t 21))] [2] [2,3]) .ret
def impl_SplitWords_ir : Fn := { np := 1,io := [],res := [.t 2],own := [true],body :=
 (.seq (.reg false [.W 2 (.asg (.c (.nils 1)))] [0] []) (.seq (.reg false [.V 6 (.bsl 1 (.str []) 0 []),.W 3 (.asg (.t 6))] [0,3] [3]) (.seq (.seq (.reg false [.V 7 (.mv (.t 0)),.V 8 (.call (.c (.fn 683 [])) [.t 7,.c (.str [32])]),.V 9 (.len (.t 8)),.V 10 (.mv (.c (.int .i64 0)))] [3,8,9,10] [3]) (.block 0 (.loop impl_SplitWords_k1))) impl_SplitWords_k2))) }
noncomputable def impl_SplitWords_D : List (Nat × Callee) := [(683,strings_Split_c)]
def impl_SplitWords_H : List (Nat × ET) := [(2,(.one .str)),(3,(.one .str)),(6,(.one .str)),(8,(.one .str)),(16,(.one .str)),(18,(.one .str)),(19,(.one .str)),(21,(.one .str))]
noncomputable def impl_SplitWords_c : Callee := mkCallee impl_SplitWords_D impl_SplitWords_H impl_SplitWords_ir [.d (.one .str)] [.tok (.one .str)] []
noncomputable def impl_SplitWords (a0 : List UInt8) : Option (List (List UInt8)) := impl_SplitWords_c.f (a0,())
noncomputable def impl_SplitWords_p0  (v8 : List (List UInt8)) (v9 : Int) (v10 : Int) (r3 : List (List UInt8)) : Option (List (List UInt8)) :=
 goL impl_SplitWords_D impl_SplitWords_H (vleave impl_SplitWords_ir [.d (.one .str)] [.tok (.one .str)] [] []) [.c impl_SplitWords_k0,.l impl_SplitWords_k1,.e 0,.c impl_SplitWords_k2]
  ⟨[(3,.view 3 0 r3.length),(8,.sl (.one .str) v8),(9,.int .i64 v9),(10,.int .i64 v10)],[(3,some (.sl (.one .str) r3))]⟩
theorem impl_SplitWords_eq (a0 : List UInt8) : impl_SplitWords a0 =
 (strings_Split a0 [32]).bind fun x1 =>
  impl_SplitWords_p0 x1 (x1.length : Int) 0 [] :=
 (mk_f _ _ _ _ _ _ _ 4000).trans (by kernel_rfl)
theorem impl_SplitWords_p0_eq  (v8 : List (List UInt8)) (v9 : Int) (v10 : Int) (r3 : List (List UInt8)) : impl_SplitWords_p0 v8 v9 v10 r3 =
 if decide (v10 < v9) then
  if decide (0 ≤ v10) then
   (v8[v10.toNat]?).bind fun x1 =>
    if (!(x1 == [])) then
     if decide (r3.length + 1 < lim) then
      impl_SplitWords_p0 v8 v9 (IntKind.i64.wrap (v10 + 1)) ((r3.take r3.length) ++ [x1])
     else
      none
    else
     impl_SplitWords_p0 v8 v9 (IntKind.i64.wrap (v10 + 1)) r3
  else
   none
 else
  some (r3.take r3.length) :=
 (goL_dn _ _ _ 4000 _ _).trans (by kernel_rfl)
noncomputable def impl_ReadDecimal_c : Callee := readDecC
noncomputable def impl_ReadDecimal (a0 : List UInt8) : Option (Int × Bool) := impl_ReadDecimal_c.f (a0,())
theorem impl_ReadDecimal_eq (a0 : List UInt8) : impl_ReadDecimal a0 = some (readDecP a0) := rfl
noncomputable def strings_Cut_c : Callee := cutC
noncomputable def strings_Cut (a0 : List UInt8) (a1 : List UInt8) : Option (List UInt8 × List UInt8 × Bool) := strings_Cut_c.f (a0,a1,())
theorem strings_Cut_eq (a0 : List UInt8) (a1 : List UInt8) : strings_Cut a0 a1 = if decide (a0.length < 4294967281) then some (Lib.cut a0 a1) else none := rfl
def impl_ReadDeed_ir : Fn := { np := 1,io := [],res := [.cell 2 (some 4),.t 3],own := [false,false],body :=
 (.seq (.reg false [.W 2 (.alloc 4 (.agg [.str [],.str [],.int .i64 0,.int .i64 0])),.V 3 (.asg (.c (.bool false)))] [0,2] [2]) (.seq (.reg false [.V 13 (.mv (.t 0)),.V 14 (.call (.c (.fn 458 [])) [.t 13]),.W 4 (.asg (.t 14))] [0,2,4] [2,4]) (.seq (.seq (.reg false [.V 15 (.mv (.t 4)),.V 16 (.len (.t 15)),.V 17 (.bin .neq (.t 16) (.c (.int .i64 3)))] [0,2,4,17] [2,4]) (.cond (.t 17) (.seq (.reg false [.V 18 (.build [.str [],.str [],.int .i64 0,.int .i64 0] []),⟨none,true,.sto 4 (.t 2) (.t 18),none,false,[]⟩,.V 3 (.asg (.c (.bool false)))] [2,3] [2]) .ret) .skip)) (.seq (.reg false [.V 20 (.mv (.t 4)),.V 21 (.ia 1 (.t 20) (.c (.int .i64 0))),.V 22 (.ld none (.t 21)),.V 23 (.call (.c (.fn 522 [])) [.t 22]),.V 19 (.mv (.t 23)),.V 24 (.ext (.t 19) 0),.V 25 (.ext (.t 19) 1),.V 5 (.asg (.t 24)),.V 6 (.asg (.t 25))] [0,2,4,5,6] [2,4]) (.seq (.reg false [.V 27 (.mv (.t 4)),.V 28 (.ia 1 (.t 27) (.c (.int .i64 1))),.V 29 (.ld none (.t 28)),.V 30 (.call (.c (.fn 523 [])) [.t 29,.c (.str [45])]),.V 26 (.mv (.t 30)),.V 31 (.ext (.t 26) 0),.V 32 (.ext (.t 26) 1),.V 33 (.ext (.t 26) 2),.V 7 (.asg (.t 31)),.V 8 (.asg (.t 32)),.V 9 (.asg (.t 33))] [0,2,4,5,6,7,8] [2,4]) (.seq (.reg false [.V 35 (.mv (.t 4)),.V 36 (.ia 1 (.t 35) (.c (.int .i64 2))),.V 37 (.ld none (.t 36)),.V 38 (.call (.c (.fn 522 [])) [.t 37]),.V 34 (.mv (.t 38)),.V 39 (.ext (.t 34) 0),.V 40 (.ext (.t 34) 1),.V 10 (.asg (.t 39)),.V 11 (.asg (.t 40))] [0,2,5,6,7,8,10,11] [2]) (.seq (.reg false [.V 41 (.mv (.t 7)),.V 42 (.mv (.t 8)),.V 43 (.mv (.t 5)),.V 44 (.mv (.t 10)),.V 45 (.build [.str [],.str [],.int .i64 0,.int .i64 0] [(0,1,.t 41),(1,1,.t 42),(2,1,.t 43),(3,1,.t 44)]),.W 12 (.alloc 4 (.agg [.str [],.str [],.int .i64 0,.int .i64 0])),⟨none,true,.sto 4 (.t 12) (.t 45),none,false,[]⟩] [0,2,6,11,12] [2,12]) (.seq (.seq (.reg false [.V 46 (.mv (.t 6)),.V 47 (.un .not (.t 46)),.V 48 (.mv (.t 47)),.G 49 (.mv (.t 11)) 2 false,.G 50 (.un .not (.t 49)) 2 false,.V 51 (.pick (.t 48) (.c (.bool true)) (.t 50)),.V 52 (.mv (.t 51)),.G 53 (.ld (some 4) (.t 12)) 6 false,.G 54 (.call (.c (.fn 152 [])) [.t 53]) 6 false,.G 55 (.mv (.t 0)) 6 false,.G 56 (.bin .neq (.t 54) (.t 55)) 6 false,.V 57 (.pick (.t 52) (.c (.bool true)) (.t 56))] [2,12,57] [2,12]) (.cond (.t 57) (.seq (.reg false [.V 58 (.build [.str [],.str [],.int .i64 0,.int .i64 0] []),⟨none,true,.sto 4 (.t 2) (.t 58),none,false,[]⟩,.V 3 (.asg (.c (.bool false)))] [2,3] [2]) .ret) .skip)) (.seq (.reg false [.V 59 (.ld (some 4) (.t 12)),⟨none,true,.sto 4 (.t 2) (.t 59),none,false,[]⟩,.V 3 (.asg (.c (.bool true)))] [2,3] [2]) .ret))))))))) }
noncomputable def impl_ReadDeed_D : List (Nat × Callee) := [(152,impl_DeedText_c),(458,impl_SplitWords_c),(522,impl_ReadDecimal_c),(523,strings_Cut_c)]
def impl_ReadDeed_H : List (Nat × ET) := [(4,(.one .str)),(14,(.one .str)),(15,(.one .str)),(20,(.one .str)),(27,(.one .str)),(35,(.one .str))]
noncomputable def impl_ReadDeed_c : Callee := mkCallee impl_ReadDeed_D impl_ReadDeed_H impl_ReadDeed_ir [.d (.one .str)] [.d T_Deed,.d (.one .bool)] []
noncomputable def impl_ReadDeed (a0 : List UInt8) : Option (T_Deed.ty × Bool) := impl_ReadDeed_c.f (a0,())
theorem impl_ReadDeed_eq (a0 : List UInt8) : impl_ReadDeed a0 =
 (impl_SplitWords a0).bind fun x1 =>
  if ((x1.length : Int) != 3) then
   some (([],[],0,0,()),false)
  else
   if decide (0 < (x1.length : Int)) then
    (x1[0]?).bind fun x2 =>
     (impl_ReadDecimal x2).bind fun x3 =>
      if decide (1 < (x1.length : Int)) then
       (x1[1]?).bind fun x4 =>
        (strings_Cut x4 [45]).bind fun x5 =>
         if decide (2 < (x1.length : Int)) then
          (x1[2]?).bind fun x6 =>
           (impl_ReadDecimal x6).bind fun x7 =>
            if (!x3.2) then
             some (([],[],0,0,()),false)
            else
             if (!x7.2) then
              some (([],[],0,0,()),false)
             else
              (impl_DeedText (x5.1,x5.2.1,x3.1,x7.1,())).bind fun x8 =>
               if (!(x8 == a0)) then
                some (([],[],0,0,()),false)
               else
                some ((x5.1,x5.2.1,x3.1,x7.1,()),true)
         else
          none
      else
       none
   else
    none :=
 (mk_f _ _ _ _ _ _ _ 4000).trans (by kernel_rfl)
def laws_r8At_k0 : C :=
 .seq (.reg false [.V 15 (.mv (.t 0)),.V 16 (.mv (.t 1)),.V 17 (.ia 1 (.t 15) (.t 16)),.V 18 (.ld none (.t 17)),.V 19 (.conv (.int .i64) (.t 18)),.V 20 (.mv (.t 2)),.V 21 (.bin .rem (.t 19) (.t 20)),.V 6 (.asg (.t 21))] [6] []) .ret
def laws_r8At_ir : Fn := { np := 3,io := [],res := [.t 6],own := [false],body :=
 (.seq (.reg false [.V 6 (.asg (.c (.int .i64 0)))] [0,1,2] []) (.seq (.seq (.reg false [.V 7 (.mv (.t 2)),.V 8 (.bin .leq (.t 7) (.c (.int .i64 1))),.V 9 (.mv (.t 8)),.G 10 (.mv (.t 1)) 2 false,.G 11 (.mv (.t 0)) 2 false,.G 12 (.len (.t 11)) 2 false,.G 13 (.bin .geq (.t 10) (.t 12)) 2 false,.V 14 (.pick (.t 9) (.c (.bool true)) (.t 13))] [0,1,2,14] []) (.cond (.t 14) (.seq (.reg false [.V 6 (.asg (.c (.int .i64 0)))] [6] []) .ret) .skip)) (.norm [0,1,2] [] laws_r8At_k0))) }
noncomputable def laws_r8At_D : List (Nat × Callee) := []
def laws_r8At_H : List (Nat × ET) := [(11,(.one (.int .u8))),(15,(.one (.int .u8)))]
noncomputable def laws_r8At_c : Callee := mkCallee laws_r8At_D laws_r8At_H laws_r8At_ir [.d (.one (.sl (.one (.int .u8)))),.d (.one (.int .i64)),.d (.one (.int .i64))] [.d (.one (.int .i64))] []
noncomputable def laws_r8At (a0 : List Int) (a1 : Int) (a2 : Int) : Option (Int) := laws_r8At_c.f (a0,a1,a2,())
noncomputable def laws_r8At_p0  (v0 : List Int) (v1 : Int) (v2 : Int) : Option (Int) :=
 goL laws_r8At_D laws_r8At_H (vleave laws_r8At_ir [.d (.one (.sl (.one (.int .u8)))),.d (.one (.int .i64)),.d (.one (.int .i64))] [.d (.one (.int .i64))] [] []) [.c laws_r8At_k0]
  ⟨[(0,.sl (.one (.int .u8)) v0),(1,.int .i64 v1),(2,.int .i64 v2)],[]⟩
theorem laws_r8At_eq (a0 : List Int) (a1 : Int) (a2 : Int) : laws_r8At a0 a1 a2 =
 if decide (a2 ≤ 1) then
  some 0
 else
  if decide (a1 ≥ (a0.length : Int)) then
   some 0
  else
   laws_r8At_p0 a0 a1 a2 :=
 (mk_f _ _ _ _ _ _ _ 4000).trans (by kernel_rfl)
theorem laws_r8At_p0_eq  (v0 : List Int) (v1 : Int) (v2 : Int) : laws_r8At_p0 v0 v1 v2 =
 if decide (0 ≤ v1) then
  (v0[v1.toNat]?).bind fun x1 =>
   if decide (v2 = 0) then
    none
   else
    some ((IntKind.i64.wrap x1).tmod v2)
 else
  none :=
 (goL_dn _ _ _ 4000 _ _).trans (by kernel_rfl)
def impl_links_k0 : C :=
 .reg false [.V 59 (.fa 1 (.t 10)),.V 60 (.ld none (.t 59)),.V 61 (.fa 3 (.t 7)),.V 62 (.ld none (.t 61)),.V 63 (.bin .add (.t 60) (.t 62)),.V 64 (.mv (.t 9)),.V 65 (.build [.bool false,.int .i64 0,.int .i64 0] [(0,1,.c (.bool true)),(1,1,.t 63),(2,1,.t 64)]),⟨none,true,.sto 3 (.t 8) (.t 65),none,false,[]⟩] [0,1,5,7,8,12,13,14,25,26,27] [5,7,8]
def impl_links_k1 : C :=
 .reg false [.V 66 (.bin .add (.t 27) (.c (.int .i64 1))),.V 27 (.mv (.t 66))] [0,1,5,7,8,12,13,14,25,26,27] [5,7,8]
def impl_links_k2 : C :=
 .seq (.reg false [.V 28 (.bin .lss (.t 27) (.t 26))] [0,1,5,7,8,12,13,14,25,26,27,28] [5,7,8]) (.seq (.cond (.t 28) .skip (.exit 2)) (.seq (.block 3 (.seq (.reg false [.V 29 (.mv (.t 27)),.V 30 (.ia 3 (.t 25) (.t 27)),.V 31 (.ld (some 3) (.t 30)),.W 10 (.alloc 3 (.agg [.bool false,.int .i64 0,.int .i64 0])),.V 9 (.asg (.t 29)),⟨none,true,.sto 3 (.t 10) (.t 31),none,false,[]⟩] [0,1,5,7,8,9,10,12,13,14,25,26,27] [5,7,8,10]) (.seq (.reg true [.V 32 (.fa 0 (.t 10)),.V 33 (.ld none (.t 32)),.V 34 (.mv (.t 33)),.G 35 (.mv (.t 0)) 2 true,.G 36 (.mv (.t 9)) 2 true,.G 37 (.ia 4 (.t 35) (.t 36)) 2 true,.G 38 (.fa 1 (.t 37)) 2 true,.G 39 (.ld none (.t 38)) 2 true,.G 40 (.fa 0 (.t 7)) 2 true,.G 41 (.ld none (.t 40)) 2 true,.G 42 (.bin .eql (.t 39) (.t 41)) 2 true,.V 43 (.pick (.t 34) (.t 42) (.c (.bool false))),.V 44 (.mv (.t 43)),.G 45 (.fa 0 (.t 8)) 12 true,.G 46 (.ld none (.t 45)) 12 true,.G 47 (.un .not (.t 46)) 12 true,.G 48 (.mv (.t 47)) 12 true,.G 49 (.fa 1 (.t 10)) 16 false,.G 50 (.ld none (.t 49)) 16 false,.G 51 (.fa 3 (.t 7)) 16 false,.G 52 (.ld none (.t 51)) 16 false,.G 53 (.bin .add (.t 50) (.t 52)) 16 false,.G 54 (.fa 1 (.t 8)) 16 false,.G 55 (.ld none (.t 54)) 16 false,.G 56 (.bin .lss (.t 53) (.t 55)) 16 false,.G 57 (.pick (.t 48) (.c (.bool true)) (.t 56)) 12 true,.V 58 (.pick (.t 44) (.t 57) (.c (.bool false)))] [0,1,5,7,8,9,10,12,13,14,25,26,27,58] [5,7,8,10]) (.cond (.t 58) (.norm [0,1,5,7,8,9,10,12,13,14,25,26,27] [5,7,8,10] impl_links_k0) .skip)))) impl_links_k1))
def impl_links_k3 : C :=
 .norm [0,1,5,7,8,12,13,14,25,26,27] [5,7,8] impl_links_k2
def impl_links_k4 : C :=
 .reg false [.V 67 (.mv (.t 5)),.V 68 (.ld (some 3) (.t 8)),.V 69 (.bsl 3 (.agg [.bool false,.int .i64 0,.int .i64 0]) 1 [(0,.t 68)]),.W 70 (.app 3 24 (.t 67) (.t 69)),.W 5 (.asg (.t 70))] [0,1,5,12,13,14] [5]
def impl_links_k5 : C :=
 .reg false [.V 71 (.bin .add (.t 14) (.c (.int .i64 1))),.V 14 (.mv (.t 71))] [0,1,5,12,13,14] [5]
def impl_links_k6 : C :=
 .seq (.reg false [.V 15 (.bin .lss (.t 14) (.t 13))] [0,1,5,12,13,14,15] [5]) (.seq (.cond (.t 15) .skip (.exit 0)) (.seq (.block 1 (.seq (.reg false [.V 16 (.ia 4 (.t 12) (.t 14)),.V 17 (.ld (some 4) (.t 16)),.W 7 (.alloc 4 (.agg [.str [],.str [],.int .i64 0,.int .i64 0])),⟨none,true,.sto 4 (.t 7) (.t 17),none,false,[]⟩] [0,1,5,7,12,13,14] [5,7]) (.seq (.reg false [.V 18 (.fa 0 (.t 7)),.V 19 (.ld none (.t 18)),.V 20 (.mv (.t 1)),.V 21 (.bin .eql (.t 19) (.t 20)),.V 22 (.fa 3 (.t 7)),.V 23 (.ld none (.t 22)),.V 24 (.build [.bool false,.int .i64 0,.int .i64 0] [(0,1,.t 21),(1,1,.t 23),(2,1,.c (.int .i64 (-1)))]),.W 8 (.alloc 3 (.agg [.bool false,.int .i64 0,.int .i64 0])),⟨none,true,.sto 3 (.t 8) (.t 24),none,false,[]⟩] [0,1,5,7,8,12,13,14] [5,7,8]) (.seq (.seq (.reg false [.V 25 (.mv (.t 5)),.V 26 (.len (.t 25)),.V 27 (.mv (.c (.int .i64 0)))] [0,1,5,7,8,12,13,14,25,26,27] [5,7,8]) (.block 2 (.loop impl_links_k3))) impl_links_k4)))) impl_links_k5))
def impl_links_k7 : C :=
 .norm [0,1,5,12,13,14] [5] impl_links_k6
def impl_links_k8 : C :=
 .seq (.reg false [.V 72 (.mv (.t 5)),.W 4 (.asg (.t 72))] [4] [4,5]) .ret
def impl_links_ir : Fn := { np := 2,io := [],res := [.t 4],own := [true],body :=
 (.seq (.reg false [.W 4 (.asg (.c (.nils 3)))] [0,1] []) (.seq (.reg false [.V 11 (.bsl 3 (.agg [.bool false,.int .i64 0,.int .i64 0]) 0 []),.W 5 (.asg (.t 11))] [0,1,5] [5]) (.seq (.seq (.reg false [.V 12 (.mv (.t 0)),.V 13 (.len (.t 12)),.V 14 (.mv (.c (.int .i64 0)))] [0,1,5,12,13,14] [5]) (.block 0 (.loop impl_links_k7))) impl_links_k8))) }
noncomputable def impl_links_D : List (Nat × Callee) := []
def impl_links_H : List (Nat × ET) := [(4,T_link),(5,T_link),(11,T_link),(12,T_Deed),(25,T_link),(35,T_Deed),(67,T_link),(69,T_link),(70,T_link),(72,T_link)]
noncomputable def impl_links_c : Callee := mkCallee impl_links_D impl_links_H impl_links_ir [.d (.one (.sl T_Deed)),.d (.one .str)] [.tok T_link] []
noncomputable def impl_links (a0 : List T_Deed.ty) (a1 : List UInt8) : Option (List T_link.ty) := impl_links_c.f (a0,a1,())
noncomputable def impl_links_p0  (v0 : List T_Deed.ty) (v1 : List UInt8) (v12 : List T_Deed.ty) (v13 : Int) (v14 : Int) (r5 : List T_link.ty) : Option (List T_link.ty) :=
 goL impl_links_D impl_links_H (vleave impl_links_ir [.d (.one (.sl T_Deed)),.d (.one .str)] [.tok T_link] [] []) [.c impl_links_k6,.l impl_links_k7,.e 0,.c impl_links_k8]
  ⟨[(0,.sl T_Deed v0),(1,.str v1),(5,.view 5 0 r5.length),(12,.sl T_Deed v12),(13,.int .i64 v13),(14,.int .i64 v14)],[(5,some (.sl T_link r5))]⟩
noncomputable def impl_links_p1  (v0 : List T_Deed.ty) (v1 : List UInt8) (v12 : List T_Deed.ty) (v13 : Int) (v14 : Int) (v26 : Int) (v27 : Int) (r5 : List T_link.ty) (r7_0 : List UInt8) (r7_1 : List UInt8) (r7_2 : Int) (r7_3 : Int) (r8_0 : Bool) (r8_1 : Int) (r8_2 : Int) : Option (List T_link.ty) :=
 goL impl_links_D impl_links_H (vleave impl_links_ir [.d (.one (.sl T_Deed)),.d (.one .str)] [.tok T_link] [] []) [.c impl_links_k2,.l impl_links_k3,.e 2,.c impl_links_k4,.e 1,.c impl_links_k5,.l impl_links_k7,.e 0,.c impl_links_k8]
  ⟨[(0,.sl T_Deed v0),(1,.str v1),(5,.view 5 0 r5.length),(7,.loc 7 0 0),(8,.loc 8 0 0),(12,.sl T_Deed v12),(13,.int .i64 v13),(14,.int .i64 v14),(25,.view 5 0 r5.length),(26,.int .i64 v26),(27,.int .i64 v27)],[(5,some (.sl T_link r5)),(7,some (.var 4 (.agg [.str r7_0,.str r7_1,.int .i64 r7_2,.int .i64 r7_3]))),(8,some (.var 3 (.agg [.bool r8_0,.int .i64 r8_1,.int .i64 r8_2])))]⟩
noncomputable def impl_links_p2  (v0 : List T_Deed.ty) (v1 : List UInt8) (v9 : Int) (v12 : List T_Deed.ty) (v13 : Int) (v14 : Int) (v26 : Int) (v27 : Int) (r5 : List T_link.ty) (r7_0 : List UInt8) (r7_1 : List UInt8) (r7_2 : Int) (r7_3 : Int) (r8_0 : Bool) (r8_1 : Int) (r8_2 : Int) (r10_0 : Bool) (r10_1 : Int) (r10_2 : Int) : Option (List T_link.ty) :=
 goL impl_links_D impl_links_H (vleave impl_links_ir [.d (.one (.sl T_Deed)),.d (.one .str)] [.tok T_link] [] []) [.c impl_links_k0,.e 3,.c impl_links_k1,.l impl_links_k3,.e 2,.c impl_links_k4,.e 1,.c impl_links_k5,.l impl_links_k7,.e 0,.c impl_links_k8]
  ⟨[(0,.sl T_Deed v0),(1,.str v1),(5,.view 5 0 r5.length),(7,.loc 7 0 0),(8,.loc 8 0 0),(9,.int .i64 v9),(10,.loc 10 0 0),(12,.sl T_Deed v12),(13,.int .i64 v13),(14,.int .i64 v14),(25,.view 5 0 r5.length),(26,.int .i64 v26),(27,.int .i64 v27)],[(5,some (.sl T_link r5)),(7,some (.var 4 (.agg [.str r7_0,.str r7_1,.int .i64 r7_2,.int .i64 r7_3]))),(8,some (.var 3 (.agg [.bool r8_0,.int .i64 r8_1,.int .i64 r8_2]))),(10,some (.var 3 (.agg [.bool r10_0,.int .i64 r10_1,.int .i64 r10_2])))]⟩
theorem impl_links_eq (a0 : List T_Deed.ty) (a1 : List UInt8) : impl_links a0 a1 =
 impl_links_p0 a0 a1 a0 (a0.length : Int) 0 [] :=
 (mk_f _ _ _ _ _ _ _ 4000).trans (by kernel_rfl)
theorem impl_links_p0_eq  (v0 : List T_Deed.ty) (v1 : List UInt8) (v12 : List T_Deed.ty) (v13 : Int) (v14 : Int) (r5 : List T_link.ty) : impl_links_p0 v0 v1 v12 v13 v14 r5 =
 if decide (v14 < v13) then
  if decide (0 ≤ v14) then
   (v12[v14.toNat]?).bind fun x1 =>
    impl_links_p1 v0 v1 v12 v13 v14 (r5.length : Int) 0 r5 x1.1 x1.2.1 x1.2.2.1 x1.2.2.2.1 (x1.1 == v1) x1.2.2.2.1 (-1)
  else
   none
 else
  some (r5.take r5.length) :=
 (goL_dn _ _ _ 4000 _ _).trans (by kernel_rfl)
theorem impl_links_p1_eq  (v0 : List T_Deed.ty) (v1 : List UInt8) (v12 : List T_Deed.ty) (v13 : Int) (v14 : Int) (v26 : Int) (v27 : Int) (r5 : List T_link.ty) (r7_0 : List UInt8) (r7_1 : List UInt8) (r7_2 : Int) (r7_3 : Int) (r8_0 : Bool) (r8_1 : Int) (r8_2 : Int) : impl_links_p1 v0 v1 v12 v13 v14 v26 v27 r5 r7_0 r7_1 r7_2 r7_3 r8_0 r8_1 r8_2 =
 if decide (v27 < v26) then
  if decide (0 ≤ v27) && decide (v27 < (r5.length : Int)) then
   (r5[v27.toNat]?).bind fun x1 =>
    if x1.1 then
     if decide (0 ≤ v27) then
      (v0[v27.toNat]?).bind fun x2 =>
       if (x2.2.1 == r7_0) then
        if (!r8_0) then
         impl_links_p2 v0 v1 v27 v12 v13 v14 v26 v27 r5 r7_0 r7_1 r7_2 r7_3 r8_0 r8_1 r8_2 x1.1 x1.2.1 x1.2.2.1
        else
         if decide (IntKind.i64.wrap (x1.2.1 + r7_3) < r8_1) then
          impl_links_p2 v0 v1 v27 v12 v13 v14 v26 v27 r5 r7_0 r7_1 r7_2 r7_3 r8_0 r8_1 r8_2 x1.1 x1.2.1 x1.2.2.1
         else
          impl_links_p1 v0 v1 v12 v13 v14 v26 (IntKind.i64.wrap (v27 + 1)) r5 r7_0 r7_1 r7_2 r7_3 r8_0 r8_1 r8_2
       else
        impl_links_p1 v0 v1 v12 v13 v14 v26 (IntKind.i64.wrap (v27 + 1)) r5 r7_0 r7_1 r7_2 r7_3 r8_0 r8_1 r8_2
     else
      none
    else
     impl_links_p1 v0 v1 v12 v13 v14 v26 (IntKind.i64.wrap (v27 + 1)) r5 r7_0 r7_1 r7_2 r7_3 r8_0 r8_1 r8_2
  else
   none
 else
  if decide (r5.length + 1 < lim) then
   impl_links_p0 v0 v1 v12 v13 (IntKind.i64.wrap (v14 + 1)) ((r5.take r5.length) ++ [(r8_0,r8_1,r8_2,())])
  else
   none :=
 (goL_dn _ _ _ 4000 _ _).trans (by kernel_rfl)
theorem impl_links_p2_eq  (v0 : List T_Deed.ty) (v1 : List UInt8) (v9 : Int) (v12 : List T_Deed.ty) (v13 : Int) (v14 : Int) (v26 : Int) (v27 : Int) (r5 : List T_link.ty) (r7_0 : List UInt8) (r7_1 : List UInt8) (r7_2 : Int) (r7_3 : Int) (r8_0 : Bool) (r8_1 : Int) (r8_2 : Int) (r10_0 : Bool) (r10_1 : Int) (r10_2 : Int) : impl_links_p2 v0 v1 v9 v12 v13 v14 v26 v27 r5 r7_0 r7_1 r7_2 r7_3 r8_0 r8_1 r8_2 r10_0 r10_1 r10_2 =
 impl_links_p1 v0 v1 v12 v13 v14 v26 (IntKind.i64.wrap (v27 + 1)) r5 r7_0 r7_1 r7_2 r7_3 true (IntKind.i64.wrap (r10_1 + r7_3)) v9 :=
 (goL_dn _ _ _ 4000 _ _).trans (by kernel_rfl)
def slices_Reverse___int64_int64__k0 : C :=
 .seq (.seq (.reg false [.V 7 (.mv (.t 2)),.V 8 (.mv (.t 3)),.V 9 (.bin .lss (.t 7) (.t 8))] [0,2,3,9] [0]) (.cond (.t 9) .skip (.exit 0))) (.seq (.block 1 (.reg true [.V 14 (.mv (.t 0)),.V 15 (.mv (.t 2)),.V 16 (.mv (.t 0)),.V 17 (.mv (.t 3)),.V 18 (.mv (.t 0)),.V 19 (.mv (.t 3)),.V 20 (.ia 1 (.t 18) (.t 19)),.V 21 (.ld none (.t 20)),.V 22 (.mv (.t 0)),.V 23 (.mv (.t 2)),.V 24 (.ia 1 (.t 22) (.t 23)),.V 25 (.ld none (.t 24)),.V 26 (.ia 1 (.t 14) (.t 15)),⟨none,true,.sto 1 (.t 26) (.t 21),none,true,[]⟩,.V 27 (.ia 1 (.t 16) (.t 17)),⟨none,true,.sto 1 (.t 27) (.t 25),none,false,[]⟩] [0,2,3] [0])) (.reg false [.V 10 (.mv (.t 2)),.V 11 (.bin .add (.t 10) (.c (.int .i64 1))),.V 12 (.mv (.t 3)),.V 13 (.bin .sub (.t 12) (.c (.int .i64 1))),.V 2 (.asg (.t 11)),.V 3 (.asg (.t 13))] [0,2,3] [0]))
def slices_Reverse___int64_int64__k1 : C :=
 .norm [0,2,3] [0] slices_Reverse___int64_int64__k0
def slices_Reverse___int64_int64__ir : Fn := { np := 1,io := [true],res := [],own := [],body :=
 (.seq (.reg false [.V 4 (.mv (.t 0)),.V 5 (.len (.t 4)),.V 6 (.bin .sub (.t 5) (.c (.int .i64 1))),.V 2 (.asg (.c (.int .i64 0))),.V 3 (.asg (.t 6))] [0,2,3] [0]) (.block 0 (.loop slices_Reverse___int64_int64__k1))) }
noncomputable def slices_Reverse___int64_int64__D : List (Nat × Callee) := []
def slices_Reverse___int64_int64__H : List (Nat × ET) := [(4,(.one (.int .i64))),(14,(.one (.int .i64))),(16,(.one (.int .i64))),(18,(.one (.int .i64))),(22,(.one (.int .i64)))]
noncomputable def slices_Reverse___int64_int64__c : Callee := mkCallee slices_Reverse___int64_int64__D slices_Reverse___int64_int64__H slices_Reverse___int64_int64__ir [.ios (.one (.int .i64))] [] [.ios (.one (.int .i64))]
noncomputable def slices_Reverse___int64_int64_ (a0 : List Int) : Option (List Int) := slices_Reverse___int64_int64__c.f (a0,())
noncomputable def slices_Reverse___int64_int64__p0 (l0 : Nat) (v0n : Nat) (v2 : Int) (v3 : Int) (r0 : List Int) : Option (List Int) :=
 goL slices_Reverse___int64_int64__D slices_Reverse___int64_int64__H (vleave slices_Reverse___int64_int64__ir [.ios (.one (.int .i64))] [] [.ios (.one (.int .i64))] [l0]) [.c slices_Reverse___int64_int64__k0,.l slices_Reverse___int64_int64__k1,.e 0]
  ⟨[(0,.view 0 0 v0n),(2,.int .i64 v2),(3,.int .i64 v3)],[(0,some (.sl (.one (.int .i64)) r0))]⟩
theorem slices_Reverse___int64_int64__eq (a0 : List Int) : slices_Reverse___int64_int64_ a0 =
 slices_Reverse___int64_int64__p0 a0.length a0.length 0 (IntKind.i64.wrap ((a0.length : Int) - 1)) a0 :=
 (mk_f _ _ _ _ _ _ _ 4000).trans (by kernel_rfl)
theorem slices_Reverse___int64_int64__p0_eq (l0 : Nat) (v0n : Nat) (v2 : Int) (v3 : Int) (r0 : List Int) : slices_Reverse___int64_int64__p0 l0 v0n v2 v3 r0 =
 if decide (v2 < v3) then
  if decide (0 ≤ v3) && decide (v3 < (v0n : Int)) then
   (r0[v3.toNat]?).bind fun x1 =>
    if decide (0 ≤ v2) && decide (v2 < (v0n : Int)) then
     (r0[v2.toNat]?).bind fun x2 =>
      if decide (0 ≤ v2) && decide (v2 < (v0n : Int)) then
       (r0[v2.toNat]?).bind fun x3 =>
        if decide (0 ≤ v3) && decide (v3 < (v0n : Int)) then
         ((r0.set v2.toNat x1)[v3.toNat]?).bind fun x4 =>
          slices_Reverse___int64_int64__p0 l0 v0n (IntKind.i64.wrap (v2 + 1)) (IntKind.i64.wrap (v3 - 1)) ((r0.set v2.toNat x1).set v3.toNat x2)
        else
         none
      else
       none
    else
     none
  else
   none
 else
  if decide (r0.length = l0) then
   some r0
  else
   none :=
 (goL_dn _ _ _ 4000 _ _).trans (by kernel_rfl)
def impl_BestChain_k0 : C :=
 .seq (.reg false [.V 34 (.bin .lss (.t 33) (.t 32))] [0,2,9,10,31,32,33,34] [9]) (.seq (.cond (.t 34) .skip (.exit 0)) (.seq (.block 1 (.seq (.reg false [.V 35 (.mv (.t 33)),.V 36 (.ia 3 (.t 31) (.t 33)),.V 37 (.ld (some 3) (.t 36)),.W 12 (.alloc 3 (.agg [.bool false,.int .i64 0,.int .i64 0])),.V 11 (.asg (.t 35)),⟨none,true,.sto 3 (.t 12) (.t 37),none,false,[]⟩] [0,2,9,10,11,12,31,32,33] [9,12]) (.seq (.reg true [.V 38 (.fa 0 (.t 12)),.V 39 (.ld none (.t 38)),.V 40 (.mv (.t 39)),.G 41 (.mv (.t 0)) 2 true,.G 42 (.mv (.t 11)) 2 true,.G 43 (.ia 4 (.t 41) (.t 42)) 2 true,.G 44 (.fa 1 (.t 43)) 2 true,.G 45 (.ld none (.t 44)) 2 true,.G 46 (.mv (.t 2)) 2 true,.G 47 (.bin .eql (.t 45) (.t 46)) 2 true,.V 48 (.pick (.t 40) (.t 47) (.c (.bool false))),.V 49 (.mv (.t 48)),.G 50 (.mv (.t 10)) 11 true,.G 51 (.bin .lss (.t 50) (.c (.int .i64 0))) 11 true,.G 52 (.mv (.t 51)) 11 true,.G 53 (.fa 1 (.t 12)) 14 false,.G 54 (.ld none (.t 53)) 14 false,.G 55 (.mv (.t 9)) 14 false,.G 56 (.mv (.t 10)) 14 false,.G 57 (.ia 3 (.t 55) (.t 56)) 14 false,.G 58 (.fa 1 (.t 57)) 14 false,.G 59 (.ld none (.t 58)) 14 false,.G 60 (.bin .lss (.t 54) (.t 59)) 14 false,.G 61 (.pick (.t 52) (.c (.bool true)) (.t 60)) 11 true,.V 62 (.pick (.t 49) (.t 61) (.c (.bool false)))] [0,2,9,10,11,31,32,33,62] [9]) (.cond (.t 62) (.reg false [.V 63 (.mv (.t 11)),.V 10 (.asg (.t 63))] [0,2,9,10,31,32,33] [9]) .skip)))) (.reg false [.V 64 (.bin .add (.t 33) (.c (.int .i64 1))),.V 33 (.mv (.t 64))] [0,2,9,10,31,32,33] [9])))
def impl_BestChain_k1 : C :=
 .norm [0,2,9,10,31,32,33] [9] impl_BestChain_k0
def impl_BestChain_k2 : C :=
 .seq (.seq (.reg false [.V 69 (.mv (.t 14)),.V 70 (.bin .geq (.t 69) (.c (.int .i64 0)))] [9,10,13,14,70] [9,13]) (.cond (.t 70) .skip (.exit 2))) (.seq (.block 3 (.reg false [.V 76 (.mv (.t 13)),.V 77 (.mv (.t 14)),.V 78 (.bsl 1 (.int .i64 0) 1 [(0,.t 77)]),.W 79 (.app 1 8 (.t 76) (.t 78)),.W 13 (.asg (.t 79))] [9,10,13,14] [9,13])) (.reg false [.V 71 (.mv (.t 9)),.V 72 (.mv (.t 14)),.V 73 (.ia 3 (.t 71) (.t 72)),.V 74 (.fa 2 (.t 73)),.V 75 (.ld none (.t 74)),.V 14 (.asg (.t 75))] [9,10,13,14] [9,13]))
def impl_BestChain_k3 : C :=
 .norm [9,10,13,14] [9,13] impl_BestChain_k2
def impl_BestChain_k4 : C :=
 .seq (.reg false [.V 80 (.mv (.t 13)),.W 81 (.call (.c (.fn 525 [])) [.t 80])] [9,10,13] [9,13]) (.seq (.reg true [.V 82 (.mv (.t 13)),.V 83 (.mv (.t 9)),.V 84 (.mv (.t 10)),.V 85 (.ia 3 (.t 83) (.t 84)),.V 86 (.fa 1 (.t 85)),.V 87 (.ld none (.t 86)),⟨some 6,true,.asg (.t 82),none,true,[]⟩,.V 7 (.asg (.t 87)),.V 8 (.asg (.c (.int .i64 0)))] [6,7,8] [6,13]) .ret)
def impl_BestChain_k5 : C :=
 .seq (.seq (.reg false [.V 65 (.mv (.t 10)),.V 66 (.bin .lss (.t 65) (.c (.int .i64 0)))] [9,10,66] [9]) (.cond (.t 66) (.seq (.reg false [.W 6 (.asg (.c (.nils 1))),.V 7 (.asg (.c (.int .i64 0))),.V 8 (.asg (.c (.int .i64 3)))] [6,7,8] [6,13]) .ret) .skip)) (.seq (.reg false [.V 67 (.bsl 1 (.int .i64 0) 0 []),.W 13 (.asg (.t 67))] [9,10,13] [9,13]) (.seq (.seq (.reg false [.V 68 (.mv (.t 10)),.V 14 (.asg (.t 68))] [9,10,13,14] [9,13]) (.block 2 (.loop impl_BestChain_k3))) impl_BestChain_k4))
def impl_BestChain_k6 : C :=
 .seq (.reg false [.V 28 (.mv (.t 0)),.V 29 (.mv (.t 1)),.V 30 (.call (.c (.fn 526 [])) [.t 28,.t 29]),.W 9 (.asg (.t 30))] [0,2,9] [9]) (.seq (.reg false [.V 10 (.asg (.c (.int .i64 (-1))))] [0,2,9,10] [9]) (.seq (.seq (.reg false [.V 31 (.mv (.t 9)),.V 32 (.len (.t 31)),.V 33 (.mv (.c (.int .i64 0)))] [0,2,9,10,31,32,33] [9]) (.block 0 (.loop impl_BestChain_k1))) impl_BestChain_k5))
def impl_BestChain_ir : Fn := { np := 3,io := [],res := [.t 6,.t 7,.t 8],own := [true,false,false],body :=
 (.seq (.reg false [.W 6 (.asg (.c (.nils 1))),.V 7 (.asg (.c (.int .i64 0))),.V 8 (.asg (.c (.int .i64 0)))] [0,1,2] []) (.seq (.seq (.reg false [.V 15 (.mv (.t 0)),.V 16 (.call (.c (.fn 154 [])) [.t 15]),.V 17 (.un .not (.t 16)),.V 18 (.mv (.t 17)),.G 19 (.mv (.t 1)) 3 false,.G 20 (.call (.c (.fn 24 [])) [.t 19]) 3 false,.G 21 (.un .not (.t 20)) 3 false,.V 22 (.pick (.t 18) (.c (.bool true)) (.t 21)),.V 23 (.mv (.t 22)),.G 24 (.mv (.t 2)) 8 false,.G 25 (.call (.c (.fn 24 [])) [.t 24]) 8 false,.G 26 (.un .not (.t 25)) 8 false,.V 27 (.pick (.t 23) (.c (.bool true)) (.t 26))] [0,1,2,27] []) (.cond (.t 27) (.seq (.reg false [.W 6 (.asg (.c (.nils 1))),.V 7 (.asg (.c (.int .i64 0))),.V 8 (.asg (.c (.int .i64 1)))] [6,7,8] [6,13]) .ret) .skip)) (.norm [0,1,2] [] impl_BestChain_k6))) }
noncomputable def impl_BestChain_D : List (Nat × Callee) := [(24,impl_IsName_c),(154,impl_ValidDeeds_c),(525,slices_Reverse___int64_int64__c),(526,impl_links_c)]
def impl_BestChain_H : List (Nat × ET) := [(6,(.one (.int .i64))),(9,T_link),(13,(.one (.int .i64))),(15,T_Deed),(28,T_Deed),(30,T_link),(31,T_link),(41,T_Deed),(55,T_link),(67,(.one (.int .i64))),(71,T_link),(76,(.one (.int .i64))),(78,(.one (.int .i64))),(79,(.one (.int .i64))),(80,(.one (.int .i64))),(82,(.one (.int .i64))),(83,T_link)]
noncomputable def impl_BestChain_c : Callee := mkCallee impl_BestChain_D impl_BestChain_H impl_BestChain_ir [.d (.one (.sl T_Deed)),.d (.one .str),.d (.one .str)] [.tok (.one (.int .i64)),.d (.one (.int .i64)),.d (.one (.int .i64))] []
noncomputable def impl_BestChain (a0 : List T_Deed.ty) (a1 : List UInt8) (a2 : List UInt8) : Option (List Int × Int × Int) := impl_BestChain_c.f (a0,a1,a2,())
noncomputable def impl_BestChain_p0  (v0 : List T_Deed.ty) (v1 : List UInt8) (v2 : List UInt8) : Option (List Int × Int × Int) :=
 goL impl_BestChain_D impl_BestChain_H (vleave impl_BestChain_ir [.d (.one (.sl T_Deed)),.d (.one .str),.d (.one .str)] [.tok (.one (.int .i64)),.d (.one (.int .i64)),.d (.one (.int .i64))] [] []) [.c impl_BestChain_k6]
  ⟨[(0,.sl T_Deed v0),(1,.str v1),(2,.str v2)],[]⟩
noncomputable def impl_BestChain_p1  (v0 : List T_Deed.ty) (v2 : List UInt8) (v10 : Int) (v32 : Int) (v33 : Int) (r9 : List T_link.ty) : Option (List Int × Int × Int) :=
 goL impl_BestChain_D impl_BestChain_H (vleave impl_BestChain_ir [.d (.one (.sl T_Deed)),.d (.one .str),.d (.one .str)] [.tok (.one (.int .i64)),.d (.one (.int .i64)),.d (.one (.int .i64))] [] []) [.c impl_BestChain_k0,.l impl_BestChain_k1,.e 0,.c impl_BestChain_k5]
  ⟨[(0,.sl T_Deed v0),(2,.str v2),(9,.view 9 0 r9.length),(10,.int .i64 v10),(31,.view 9 0 r9.length),(32,.int .i64 v32),(33,.int .i64 v33)],[(9,some (.sl T_link r9))]⟩
noncomputable def impl_BestChain_p2  (v10 : Int) (v14 : Int) (r9 : List T_link.ty) (r13 : List Int) : Option (List Int × Int × Int) :=
 goL impl_BestChain_D impl_BestChain_H (vleave impl_BestChain_ir [.d (.one (.sl T_Deed)),.d (.one .str),.d (.one .str)] [.tok (.one (.int .i64)),.d (.one (.int .i64)),.d (.one (.int .i64))] [] []) [.c impl_BestChain_k2,.l impl_BestChain_k3,.e 2,.c impl_BestChain_k4]
  ⟨[(9,.view 9 0 r9.length),(10,.int .i64 v10),(13,.view 13 0 r13.length),(14,.int .i64 v14)],[(9,some (.sl T_link r9)),(13,some (.sl (.one (.int .i64)) r13))]⟩
theorem impl_BestChain_eq (a0 : List T_Deed.ty) (a1 : List UInt8) (a2 : List UInt8) : impl_BestChain a0 a1 a2 =
 (impl_ValidDeeds a0).bind fun x1 =>
  if (!x1) then
   some ([],0,1)
  else
   (impl_IsName a1).bind fun x2 =>
    if (!x2) then
     some ([],0,1)
    else
     (impl_IsName a2).bind fun x3 =>
      if (!x3) then
       some ([],0,1)
      else
       impl_BestChain_p0 a0 a1 a2 :=
 (mk_f _ _ _ _ _ _ _ 4000).trans (by kernel_rfl)
theorem impl_BestChain_p0_eq  (v0 : List T_Deed.ty) (v1 : List UInt8) (v2 : List UInt8) : impl_BestChain_p0 v0 v1 v2 =
 (impl_links v0 v1).bind fun x1 =>
  impl_BestChain_p1 v0 v2 (-1) (x1.length : Int) 0 x1 :=
 (goL_dn _ _ _ 4000 _ _).trans (by kernel_rfl)
theorem impl_BestChain_p1_eq  (v0 : List T_Deed.ty) (v2 : List UInt8) (v10 : Int) (v32 : Int) (v33 : Int) (r9 : List T_link.ty) : impl_BestChain_p1 v0 v2 v10 v32 v33 r9 =
 if decide (v33 < v32) then
  if decide (0 ≤ v33) && decide (v33 < (r9.length : Int)) then
   (r9[v33.toNat]?).bind fun x1 =>
    if x1.1 then
     if decide (0 ≤ v33) then
      (v0[v33.toNat]?).bind fun x2 =>
       if (x2.2.1 == v2) then
        if decide (v10 < 0) then
         impl_BestChain_p1 v0 v2 v33 v32 (IntKind.i64.wrap (v33 + 1)) r9
        else
         if decide (0 ≤ v10) && decide (v10 < (r9.length : Int)) then
          (r9[v10.toNat]?).bind fun x3 =>
           if decide (x1.2.1 < x3.2.1) then
            impl_BestChain_p1 v0 v2 v33 v32 (IntKind.i64.wrap (v33 + 1)) r9
           else
            impl_BestChain_p1 v0 v2 v10 v32 (IntKind.i64.wrap (v33 + 1)) r9
         else
          none
       else
        impl_BestChain_p1 v0 v2 v10 v32 (IntKind.i64.wrap (v33 + 1)) r9
     else
      none
    else
     impl_BestChain_p1 v0 v2 v10 v32 (IntKind.i64.wrap (v33 + 1)) r9
  else
   none
 else
  if decide (v10 < 0) then
   some ([],0,3)
  else
   impl_BestChain_p2 v10 v10 r9 [] :=
 (goL_dn _ _ _ 4000 _ _).trans (by kernel_rfl)
theorem impl_BestChain_p2_eq  (v10 : Int) (v14 : Int) (r9 : List T_link.ty) (r13 : List Int) : impl_BestChain_p2 v10 v14 r9 r13 =
 if decide (v14 ≥ 0) then
  if decide (r13.length + 1 < lim) then
   if decide (0 ≤ v14) && decide (v14 < (r9.length : Int)) then
    (r9[v14.toNat]?).bind fun x1 =>
     impl_BestChain_p2 v10 x1.2.2.1 r9 ((r13.take r13.length) ++ [v14])
   else
    none
  else
   none
 else
  if decide (r13.length = r13.length) then
   (slices_Reverse___int64_int64_ r13).bind fun x2 =>
    if decide (0 ≤ v10) && decide (v10 < (r9.length : Int)) then
     (r9[v10.toNat]?).bind fun x3 =>
      some ((x2.take r13.length),x3.2.1,0)
    else
     none
  else
   none :=
 (goL_dn _ _ _ 4000 _ _).trans (by kernel_rfl)
def impl_ReachedOwners_k0 : C :=
 .seq (.reg false [.V 23 (.bin .lss (.t 22) (.t 21))] [0,6,20,21,22,23] [6]) (.seq (.cond (.t 23) .skip (.exit 0)) (.seq (.block 1 (.seq (.reg false [.V 24 (.mv (.t 22)),.V 25 (.ia 3 (.t 20) (.t 22)),.V 26 (.ld (some 3) (.t 25)),.W 8 (.alloc 3 (.agg [.bool false,.int .i64 0,.int .i64 0])),.V 7 (.asg (.t 24)),⟨none,true,.sto 3 (.t 8) (.t 26),none,false,[]⟩] [0,6,7,8,20,21,22] [6,8]) (.seq (.reg false [.V 27 (.fa 0 (.t 8)),.V 28 (.ld none (.t 27))] [0,6,7,20,21,22,28] [6]) (.cond (.t 28) (.reg false [.V 29 (.mv (.t 6)),.V 30 (.mv (.t 0)),.V 31 (.mv (.t 7)),.V 32 (.ia 4 (.t 30) (.t 31)),.V 33 (.fa 1 (.t 32)),.V 34 (.ld none (.t 33)),.V 35 (.bsl 1 (.str []) 1 [(0,.t 34)]),.W 36 (.app 1 16 (.t 29) (.t 35)),.W 6 (.asg (.t 36))] [0,6,20,21,22] [6]) .skip)))) (.reg false [.V 37 (.bin .add (.t 22) (.c (.int .i64 1))),.V 22 (.mv (.t 37))] [0,6,20,21,22] [6])))
def impl_ReachedOwners_k1 : C :=
 .norm [0,6,20,21,22] [6] impl_ReachedOwners_k0
def impl_ReachedOwners_k2 : C :=
 .seq (.reg false [.V 38 (.mv (.t 6)),.W 39 (.call (.c (.fn 520 [])) [.t 38]),.W 4 (.asg (.t 39)),.V 5 (.asg (.c (.int .i64 0)))] [4,5] [4]) .ret
def impl_ReachedOwners_k3 : C :=
 .seq (.reg false [.V 17 (.bsl 1 (.str []) 0 []),.W 6 (.asg (.t 17))] [0,1,6] [6]) (.seq (.seq (.reg false [.V 18 (.mv (.t 0)),.V 19 (.mv (.t 1)),.V 20 (.call (.c (.fn 526 [])) [.t 18,.t 19]),.V 21 (.len (.t 20)),.V 22 (.mv (.c (.int .i64 0)))] [0,6,20,21,22] [6]) (.block 0 (.loop impl_ReachedOwners_k1))) impl_ReachedOwners_k2)
def impl_ReachedOwners_ir : Fn := { np := 2,io := [],res := [.t 4,.t 5],own := [false,false],body :=
 (.seq (.reg false [.W 4 (.asg (.c (.nils 1))),.V 5 (.asg (.c (.int .i64 0)))] [0,1] []) (.seq (.seq (.reg false [.V 9 (.mv (.t 0)),.V 10 (.call (.c (.fn 154 [])) [.t 9]),.V 11 (.un .not (.t 10)),.V 12 (.mv (.t 11)),.G 13 (.mv (.t 1)) 3 false,.G 14 (.call (.c (.fn 24 [])) [.t 13]) 3 false,.G 15 (.un .not (.t 14)) 3 false,.V 16 (.pick (.t 12) (.c (.bool true)) (.t 15))] [0,1,16] []) (.cond (.t 16) (.seq (.reg false [.W 4 (.asg (.c (.nils 1))),.V 5 (.asg (.c (.int .i64 1)))] [4,5] [4]) .ret) .skip)) (.norm [0,1] [] impl_ReachedOwners_k3))) }
noncomputable def impl_ReachedOwners_D : List (Nat × Callee) := [(24,impl_IsName_c),(154,impl_ValidDeeds_c),(520,impl_sortedSet_c),(526,impl_links_c)]
def impl_ReachedOwners_H : List (Nat × ET) := [(4,(.one .str)),(6,(.one .str)),(9,T_Deed),(17,(.one .str)),(18,T_Deed),(20,T_link),(29,(.one .str)),(30,T_Deed),(35,(.one .str)),(36,(.one .str)),(38,(.one .str)),(39,(.one .str))]
noncomputable def impl_ReachedOwners_c : Callee := mkCallee impl_ReachedOwners_D impl_ReachedOwners_H impl_ReachedOwners_ir [.d (.one (.sl T_Deed)),.d (.one .str)] [.d (.one (.sl (.one .str))),.d (.one (.int .i64))] []
noncomputable def impl_ReachedOwners (a0 : List T_Deed.ty) (a1 : List UInt8) : Option (List (List UInt8) × Int) := impl_ReachedOwners_c.f (a0,a1,())
noncomputable def impl_ReachedOwners_p0  (v0 : List T_Deed.ty) (v1 : List UInt8) : Option (List (List UInt8) × Int) :=
 goL impl_ReachedOwners_D impl_ReachedOwners_H (vleave impl_ReachedOwners_ir [.d (.one (.sl T_Deed)),.d (.one .str)] [.d (.one (.sl (.one .str))),.d (.one (.int .i64))] [] []) [.c impl_ReachedOwners_k3]
  ⟨[(0,.sl T_Deed v0),(1,.str v1)],[]⟩
noncomputable def impl_ReachedOwners_p1  (v0 : List T_Deed.ty) (v20 : List T_link.ty) (v21 : Int) (v22 : Int) (r6 : List (List UInt8)) : Option (List (List UInt8) × Int) :=
 goL impl_ReachedOwners_D impl_ReachedOwners_H (vleave impl_ReachedOwners_ir [.d (.one (.sl T_Deed)),.d (.one .str)] [.d (.one (.sl (.one .str))),.d (.one (.int .i64))] [] []) [.c impl_ReachedOwners_k0,.l impl_ReachedOwners_k1,.e 0,.c impl_ReachedOwners_k2]
  ⟨[(0,.sl T_Deed v0),(6,.view 6 0 r6.length),(20,.sl T_link v20),(21,.int .i64 v21),(22,.int .i64 v22)],[(6,some (.sl (.one .str) r6))]⟩
theorem impl_ReachedOwners_eq (a0 : List T_Deed.ty) (a1 : List UInt8) : impl_ReachedOwners a0 a1 =
 (impl_ValidDeeds a0).bind fun x1 =>
  if (!x1) then
   some ([],1)
  else
   (impl_IsName a1).bind fun x2 =>
    if (!x2) then
     some ([],1)
    else
     impl_ReachedOwners_p0 a0 a1 :=
 (mk_f _ _ _ _ _ _ _ 4000).trans (by kernel_rfl)
theorem impl_ReachedOwners_p0_eq  (v0 : List T_Deed.ty) (v1 : List UInt8) : impl_ReachedOwners_p0 v0 v1 =
 (impl_links v0 v1).bind fun x1 =>
  impl_ReachedOwners_p1 v0 x1 (x1.length : Int) 0 [] :=
 (goL_dn _ _ _ 4000 _ _).trans (by kernel_rfl)
theorem impl_ReachedOwners_p1_eq  (v0 : List T_Deed.ty) (v20 : List T_link.ty) (v21 : Int) (v22 : Int) (r6 : List (List UInt8)) : impl_ReachedOwners_p1 v0 v20 v21 v22 r6 =
 if decide (v22 < v21) then
  if decide (0 ≤ v22) then
   (v20[v22.toNat]?).bind fun x1 =>
    if x1.1 then
     if decide (0 ≤ v22) then
      (v0[v22.toNat]?).bind fun x2 =>
       if decide (r6.length + 1 < lim) then
        impl_ReachedOwners_p1 v0 v20 v21 (IntKind.i64.wrap (v22 + 1)) ((r6.take r6.length) ++ [x2.2.1])
       else
        none
     else
      none
    else
     impl_ReachedOwners_p1 v0 v20 v21 (IntKind.i64.wrap (v22 + 1)) r6
  else
   none
 else
  if decide (r6.length = r6.length) then
   (impl_sortedSet r6).bind fun x3 =>
    some (x3.1,0)
  else
   none :=
 (goL_dn _ _ _ 4000 _ _).trans (by kernel_rfl)
def impl_at_ir : Fn := { np := 2,io := [],res := [.t 4],own := [false],body :=
 (.seq (.reg false [.V 4 (.asg (.c (.bool false)))] [0,1] []) (.seq (.reg false [.V 5 (.mv (.t 0)),.V 6 (.bin .geq (.t 5) (.c (.int .i64 0))),.V 7 (.mv (.t 6)),.G 8 (.mv (.t 0)) 2 true,.G 9 (.mv (.t 1)) 2 true,.G 10 (.bin .lss (.t 8) (.t 9)) 2 true,.V 11 (.pick (.t 7) (.t 10) (.c (.bool false))),.V 4 (.asg (.t 11))] [4] []) .ret)) }
noncomputable def impl_at_D : List (Nat × Callee) := []
def impl_at_H : List (Nat × ET) := []
noncomputable def impl_at_c : Callee := mkCallee impl_at_D impl_at_H impl_at_ir [.d (.one (.int .i64)),.d (.one (.int .i64))] [.d (.one .bool)] []
noncomputable def impl_at (a0 : Int) (a1 : Int) : Option (Bool) := impl_at_c.f (a0,a1,())
theorem impl_at_eq (a0 : Int) (a1 : Int) : impl_at a0 a1 =
 if decide (a0 ≥ 0) then
  some (decide (a0 < a1))
 else
  some false :=
 (mk_f _ _ _ _ _ _ _ 4000).trans (by kernel_rfl)
def impl_isChain_k0 : C :=
 .seq (.reg false [.V 10 (.bin .lss (.t 9) (.t 8))] [0,1,7,8,9,10] []) (.seq (.cond (.t 10) .skip (.exit 0)) (.seq (.block 1 (.seq (.reg false [.V 11 (.mv (.t 9)),.V 12 (.ia 1 (.t 7) (.t 9)),.V 13 (.ld none (.t 12)),.V 5 (.asg (.t 11)),.V 6 (.asg (.t 13))] [0,1,5,6,7,8,9] []) (.seq (.reg true [.V 14 (.mv (.t 6)),.V 15 (.mv (.t 0)),.V 16 (.len (.t 15)),.V 17 (.call (.c (.fn 4 [])) [.t 14,.t 16]),.V 18 (.un .not (.t 17)),.V 19 (.mv (.t 18)),.G 20 (.mv (.t 5)) 5 false,.G 21 (.bin .gtr (.t 20) (.c (.int .i64 0))) 5 false,.G 22 (.mv (.t 21)) 5 false,.G 23 (.mv (.t 1)) 8 true,.G 24 (.mv (.t 5)) 8 true,.G 25 (.bin .sub (.t 24) (.c (.int .i64 1))) 8 true,.G 26 (.ia 1 (.t 23) (.t 25)) 8 true,.G 27 (.ld none (.t 26)) 8 true,.G 28 (.mv (.t 6)) 8 true,.G 29 (.bin .geq (.t 27) (.t 28)) 8 true,.G 30 (.mv (.t 29)) 8 true,.G 31 (.mv (.t 0)) 16 false,.G 32 (.mv (.t 1)) 16 false,.G 33 (.mv (.t 5)) 16 false,.G 34 (.bin .sub (.t 33) (.c (.int .i64 1))) 16 false,.G 35 (.ia 1 (.t 32) (.t 34)) 16 false,.G 36 (.ld none (.t 35)) 16 false,.G 37 (.ia 4 (.t 31) (.t 36)) 16 false,.G 38 (.fa 1 (.t 37)) 16 false,.G 39 (.ld none (.t 38)) 16 false,.G 40 (.mv (.t 0)) 16 false,.G 41 (.mv (.t 6)) 16 false,.G 42 (.ia 4 (.t 40) (.t 41)) 16 false,.G 43 (.fa 0 (.t 42)) 16 false,.G 44 (.ld none (.t 43)) 16 false,.G 45 (.bin .neq (.t 39) (.t 44)) 16 false,.G 46 (.pick (.t 30) (.c (.bool true)) (.t 45)) 8 true,.G 47 (.pick (.t 22) (.t 46) (.c (.bool false))) 5 false,.V 48 (.pick (.t 19) (.c (.bool true)) (.t 47))] [0,1,7,8,9,48] []) (.cond (.t 48) (.seq (.reg false [.V 4 (.asg (.c (.bool false)))] [4] []) .ret) .skip)))) (.reg false [.V 49 (.bin .add (.t 9) (.c (.int .i64 1))),.V 9 (.mv (.t 49))] [0,1,7,8,9] [])))
def impl_isChain_k1 : C :=
 .norm [0,1,7,8,9] [] impl_isChain_k0
def impl_isChain_k2 : C :=
 .seq (.reg false [.V 50 (.mv (.t 1)),.V 51 (.len (.t 50)),.V 52 (.bin .gtr (.t 51) (.c (.int .i64 0))),.V 4 (.asg (.t 52))] [4] []) .ret
def impl_isChain_ir : Fn := { np := 2,io := [],res := [.t 4],own := [false],body :=
 (.seq (.reg false [.V 4 (.asg (.c (.bool false)))] [0,1] []) (.seq (.seq (.reg false [.V 7 (.mv (.t 1)),.V 8 (.len (.t 7)),.V 9 (.mv (.c (.int .i64 0)))] [0,1,7,8,9] []) (.block 0 (.loop impl_isChain_k1))) impl_isChain_k2)) }
noncomputable def impl_isChain_D : List (Nat × Callee) := [(4,impl_at_c)]
def impl_isChain_H : List (Nat × ET) := [(7,(.one (.int .i64))),(15,T_Deed),(23,(.one (.int .i64))),(31,T_Deed),(32,(.one (.int .i64))),(40,T_Deed),(50,(.one (.int .i64)))]
noncomputable def impl_isChain_c : Callee := mkCallee impl_isChain_D impl_isChain_H impl_isChain_ir [.d (.one (.sl T_Deed)),.d (.one (.sl (.one (.int .i64))))] [.d (.one .bool)] []
noncomputable def impl_isChain (a0 : List T_Deed.ty) (a1 : List Int) : Option (Bool) := impl_isChain_c.f (a0,a1,())
noncomputable def impl_isChain_p0  (v0 : List T_Deed.ty) (v1 : List Int) (v7 : List Int) (v8 : Int) (v9 : Int) : Option (Bool) :=
 goL impl_isChain_D impl_isChain_H (vleave impl_isChain_ir [.d (.one (.sl T_Deed)),.d (.one (.sl (.one (.int .i64))))] [.d (.one .bool)] [] []) [.c impl_isChain_k0,.l impl_isChain_k1,.e 0,.c impl_isChain_k2]
  ⟨[(0,.sl T_Deed v0),(1,.sl (.one (.int .i64)) v1),(7,.sl (.one (.int .i64)) v7),(8,.int .i64 v8),(9,.int .i64 v9)],[]⟩
theorem impl_isChain_eq (a0 : List T_Deed.ty) (a1 : List Int) : impl_isChain a0 a1 =
 impl_isChain_p0 a0 a1 a1 (a1.length : Int) 0 :=
 (mk_f _ _ _ _ _ _ _ 4000).trans (by kernel_rfl)
theorem impl_isChain_p0_eq  (v0 : List T_Deed.ty) (v1 : List Int) (v7 : List Int) (v8 : Int) (v9 : Int) : impl_isChain_p0 v0 v1 v7 v8 v9 =
 if decide (v9 < v8) then
  if decide (0 ≤ v9) then
   (v7[v9.toNat]?).bind fun x1 =>
    (impl_at x1 (v0.length : Int)).bind fun x2 =>
     if (!x2) then
      some false
     else
      if decide (v9 > 0) then
       if decide (0 ≤ IntKind.i64.wrap (v9 - 1)) then
        (v1[(IntKind.i64.wrap (v9 - 1)).toNat]?).bind fun x3 =>
         if decide (x3 ≥ x1) then
          some false
         else
          if decide (0 ≤ IntKind.i64.wrap (v9 - 1)) then
           (v1[(IntKind.i64.wrap (v9 - 1)).toNat]?).bind fun x4 =>
            if decide (0 ≤ x4) then
             (v0[x4.toNat]?).bind fun x5 =>
              if decide (0 ≤ x1) then
               (v0[x1.toNat]?).bind fun x6 =>
                if (!(x5.2.1 == x6.1)) then
                 some false
                else
                 impl_isChain_p0 v0 v1 v7 v8 (IntKind.i64.wrap (v9 + 1))
              else
               none
            else
             none
          else
           none
       else
        none
      else
       impl_isChain_p0 v0 v1 v7 v8 (IntKind.i64.wrap (v9 + 1))
  else
   none
 else
  some (decide ((v1.length : Int) > 0)) :=
 (goL_dn _ _ _ 4000 _ _).trans (by kernel_rfl)
def impl_IsChain_ir : Fn := { np := 2,io := [],res := [.t 4],own := [false],body :=
 (.seq (.reg false [.V 4 (.asg (.c (.bool false)))] [0,1] []) (.seq (.reg false [.V 5 (.mv (.t 0)),.V 6 (.call (.c (.fn 154 [])) [.t 5]),.V 7 (.mv (.t 6)),.G 8 (.mv (.t 0)) 2 true,.G 9 (.mv (.t 1)) 2 true,.G 10 (.call (.c (.fn 527 [])) [.t 8,.t 9]) 2 true,.V 11 (.pick (.t 7) (.t 10) (.c (.bool false))),.V 4 (.asg (.t 11))] [4] []) .ret)) }
noncomputable def impl_IsChain_D : List (Nat × Callee) := [(154,impl_ValidDeeds_c),(527,impl_isChain_c)]
def impl_IsChain_H : List (Nat × ET) := [(5,T_Deed),(8,T_Deed),(9,(.one (.int .i64)))]
noncomputable def impl_IsChain_c : Callee := mkCallee impl_IsChain_D impl_IsChain_H impl_IsChain_ir [.d (.one (.sl T_Deed)),.d (.one (.sl (.one (.int .i64))))] [.d (.one .bool)] []
noncomputable def impl_IsChain (a0 : List T_Deed.ty) (a1 : List Int) : Option (Bool) := impl_IsChain_c.f (a0,a1,())
theorem impl_IsChain_eq (a0 : List T_Deed.ty) (a1 : List Int) : impl_IsChain a0 a1 =
 (impl_ValidDeeds a0).bind fun x1 =>
  if x1 then
   (impl_isChain a0 a1).bind fun x2 =>
    some x2
  else
   some false :=
 (mk_f _ _ _ _ _ _ _ 4000).trans (by kernel_rfl)
def spec_l01Small_ir : Fn := { np := 1,io := [],res := [.t 2],own := [false],body :=
 (.seq (.reg false [.V 2 (.asg (.c (.bool false)))] [0] []) (.seq (.reg false [.V 3 (.mv (.t 0)),.V 4 (.bin .geq (.t 3) (.c (.int .u8 97))),.V 5 (.mv (.t 4)),.G 6 (.mv (.t 0)) 2 true,.G 7 (.bin .leq (.t 6) (.c (.int .u8 122))) 2 true,.V 8 (.pick (.t 5) (.t 7) (.c (.bool false))),.V 2 (.asg (.t 8))] [2] []) .ret)) }
noncomputable def spec_l01Small_D : List (Nat × Callee) := []
def spec_l01Small_H : List (Nat × ET) := []
noncomputable def spec_l01Small_c : Callee := mkCallee spec_l01Small_D spec_l01Small_H spec_l01Small_ir [.d (.one (.int .u8))] [.d (.one .bool)] []
noncomputable def spec_l01Small (a0 : Int) : Option (Bool) := spec_l01Small_c.f (a0,())
theorem spec_l01Small_eq (a0 : Int) : spec_l01Small a0 =
 if decide (a0 ≥ 97) then
  some (decide (a0 ≤ 122))
 else
  some false :=
 (mk_f _ _ _ _ _ _ _ 4000).trans (by kernel_rfl)
def spec_l01Digit_ir : Fn := { np := 1,io := [],res := [.t 2],own := [false],body :=
 (.seq (.reg false [.V 2 (.asg (.c (.bool false)))] [0] []) (.seq (.reg false [.V 3 (.mv (.t 0)),.V 4 (.bin .geq (.t 3) (.c (.int .u8 48))),.V 5 (.mv (.t 4)),.G 6 (.mv (.t 0)) 2 true,.G 7 (.bin .leq (.t 6) (.c (.int .u8 57))) 2 true,.V 8 (.pick (.t 5) (.t 7) (.c (.bool false))),.V 2 (.asg (.t 8))] [2] []) .ret)) }
noncomputable def spec_l01Digit_D : List (Nat × Callee) := []
def spec_l01Digit_H : List (Nat × ET) := []
noncomputable def spec_l01Digit_c : Callee := mkCallee spec_l01Digit_D spec_l01Digit_H spec_l01Digit_ir [.d (.one (.int .u8))] [.d (.one .bool)] []
noncomputable def spec_l01Digit (a0 : Int) : Option (Bool) := spec_l01Digit_c.f (a0,())
theorem spec_l01Digit_eq (a0 : Int) : spec_l01Digit a0 =
 if decide (a0 ≥ 48) then
  some (decide (a0 ≤ 57))
 else
  some false :=
 (mk_f _ _ _ _ _ _ _ 4000).trans (by kernel_rfl)
def spec_l01Name_k0 : C :=
 .seq (.seq (.reg false [.V 17 (.mv (.t 3)),.V 18 (.mv (.t 0)),.V 19 (.lens (.t 18)),.V 20 (.bin .lss (.t 17) (.t 19))] [0,3,20] []) (.cond (.t 20) .skip (.exit 0))) (.seq (.block 1 (.seq (.reg false [.V 23 (.mv (.t 0)),.V 24 (.mv (.t 3)),.V 25 (.ix (.t 23) (.t 24)),.V 26 (.call (.c (.fn 11 [])) [.t 25]),.V 27 (.un .not (.t 26)),.V 28 (.mv (.t 27)),.G 29 (.mv (.t 0)) 5 true,.G 30 (.mv (.t 3)) 5 true,.G 31 (.ix (.t 29) (.t 30)) 5 true,.G 32 (.call (.c (.fn 12 [])) [.t 31]) 5 true,.G 33 (.un .not (.t 32)) 5 true,.V 34 (.pick (.t 28) (.t 33) (.c (.bool false)))] [0,3,34] []) (.cond (.t 34) (.seq (.reg false [.V 2 (.asg (.c (.bool false)))] [2] []) .ret) .skip))) (.reg false [.V 21 (.mv (.t 3)),.V 22 (.bin .add (.t 21) (.c (.int .i64 1))),.V 3 (.asg (.t 22))] [0,3] []))
def spec_l01Name_k1 : C :=
 .norm [0,3] [] spec_l01Name_k0
def spec_l01Name_k2 : C :=
 .seq (.reg false [.V 2 (.asg (.c (.bool true)))] [2] []) .ret
def spec_l01Name_k3 : C :=
 .seq (.seq (.reg false [.V 3 (.asg (.c (.int .i64 0)))] [0,3] []) (.block 0 (.loop spec_l01Name_k1))) spec_l01Name_k2
def spec_l01Name_ir : Fn := { np := 1,io := [],res := [.t 2],own := [false],body :=
 (.seq (.reg false [.V 2 (.asg (.c (.bool false)))] [0] []) (.seq (.seq (.reg false [.V 4 (.mv (.t 0)),.V 5 (.bin .eql (.t 4) (.c (.str []))),.V 6 (.mv (.t 5)),.G 7 (.mv (.t 0)) 2 false,.G 8 (.lens (.t 7)) 2 false,.G 9 (.bin .gtr (.t 8) (.c (.int .i64 10))) 2 false,.V 10 (.pick (.t 6) (.c (.bool true)) (.t 9)),.V 11 (.mv (.t 10)),.G 12 (.mv (.t 0)) 7 false,.G 13 (.ix (.t 12) (.c (.int .i64 0))) 7 false,.G 14 (.call (.c (.fn 11 [])) [.t 13]) 7 false,.G 15 (.un .not (.t 14)) 7 false,.V 16 (.pick (.t 11) (.c (.bool true)) (.t 15))] [0,16] []) (.cond (.t 16) (.seq (.reg false [.V 2 (.asg (.c (.bool false)))] [2] []) .ret) .skip)) (.norm [0] [] spec_l01Name_k3))) }
noncomputable def spec_l01Name_D : List (Nat × Callee) := [(11,spec_l01Small_c),(12,spec_l01Digit_c)]
def spec_l01Name_H : List (Nat × ET) := []
noncomputable def spec_l01Name_c : Callee := mkCallee spec_l01Name_D spec_l01Name_H spec_l01Name_ir [.d (.one .str)] [.d (.one .bool)] []
noncomputable def spec_l01Name (a0 : List UInt8) : Option (Bool) := spec_l01Name_c.f (a0,())
noncomputable def spec_l01Name_p0  (v0 : List UInt8) : Option (Bool) :=
 goL spec_l01Name_D spec_l01Name_H (vleave spec_l01Name_ir [.d (.one .str)] [.d (.one .bool)] [] []) [.c spec_l01Name_k3]
  ⟨[(0,.str v0)],[]⟩
noncomputable def spec_l01Name_p1  (v0 : List UInt8) (v3 : Int) : Option (Bool) :=
 goL spec_l01Name_D spec_l01Name_H (vleave spec_l01Name_ir [.d (.one .str)] [.d (.one .bool)] [] []) [.c spec_l01Name_k0,.l spec_l01Name_k1,.e 0,.c spec_l01Name_k2]
  ⟨[(0,.str v0),(3,.int .i64 v3)],[]⟩
theorem spec_l01Name_eq (a0 : List UInt8) : spec_l01Name a0 =
 if (a0 == []) then
  some false
 else
  if decide ((a0.length : Int) > 10) then
   some false
  else
   (a0[0]?).bind fun x1 =>
    (spec_l01Small (x1.toNat : Int)).bind fun x2 =>
     if (!x2) then
      some false
     else
      spec_l01Name_p0 a0 :=
 (mk_f _ _ _ _ _ _ _ 4000).trans (by kernel_rfl)
theorem spec_l01Name_p0_eq  (v0 : List UInt8) : spec_l01Name_p0 v0 =
 spec_l01Name_p1 v0 0 :=
 (goL_dn _ _ _ 4000 _ _).trans (by kernel_rfl)
theorem spec_l01Name_p1_eq  (v0 : List UInt8) (v3 : Int) : spec_l01Name_p1 v0 v3 =
 if decide (v3 < (v0.length : Int)) then
  if decide (0 ≤ v3) then
   (v0[v3.toNat]?).bind fun x1 =>
    (spec_l01Small (x1.toNat : Int)).bind fun x2 =>
     if (!x2) then
      if decide (0 ≤ v3) then
       (v0[v3.toNat]?).bind fun x3 =>
        (spec_l01Digit (x3.toNat : Int)).bind fun x4 =>
         if (!x4) then
          some false
         else
          spec_l01Name_p1 v0 (IntKind.i64.wrap (v3 + 1))
      else
       none
     else
      spec_l01Name_p1 v0 (IntKind.i64.wrap (v3 + 1))
  else
   none
 else
  some true :=
 (goL_dn _ _ _ 4000 _ _).trans (by kernel_rfl)
def spec_l00In_ir : Fn := { np := 3,io := [],res := [.t 6],own := [false],body :=
 (.seq (.reg false [.V 6 (.asg (.c (.bool false)))] [0,1,2] []) (.seq (.reg false [.V 7 (.mv (.t 0)),.V 8 (.mv (.t 1)),.V 9 (.bin .geq (.t 7) (.t 8)),.V 10 (.mv (.t 9)),.G 11 (.mv (.t 0)) 3 true,.G 12 (.mv (.t 2)) 3 true,.G 13 (.bin .leq (.t 11) (.t 12)) 3 true,.V 14 (.pick (.t 10) (.t 13) (.c (.bool false))),.V 6 (.asg (.t 14))] [6] []) .ret)) }
noncomputable def spec_l00In_D : List (Nat × Callee) := []
def spec_l00In_H : List (Nat × ET) := []
noncomputable def spec_l00In_c : Callee := mkCallee spec_l00In_D spec_l00In_H spec_l00In_ir [.d (.one (.int .i64)),.d (.one (.int .i64)),.d (.one (.int .i64))] [.d (.one .bool)] []
noncomputable def spec_l00In (a0 : Int) (a1 : Int) (a2 : Int) : Option (Bool) := spec_l00In_c.f (a0,a1,a2,())
theorem spec_l00In_eq (a0 : Int) (a1 : Int) (a2 : Int) : spec_l00In a0 a1 a2 =
 if decide (a0 ≥ a1) then
  some (decide (a0 ≤ a2))
 else
  some false :=
 (mk_f _ _ _ _ _ _ _ 4000).trans (by kernel_rfl)
def spec_l19Year_ir : Fn := { np := 1,io := [],res := [.t 2],own := [false],body :=
 (.seq (.reg false [.V 2 (.asg (.c (.bool false)))] [0] []) (.seq (.reg false [.V 3 (.mv (.t 0)),.V 4 (.call (.c (.fn 1 [])) [.t 3,.c (.int .i64 0),.c (.int .i64 2100)]),.V 2 (.asg (.t 4))] [2] []) .ret)) }
noncomputable def spec_l19Year_D : List (Nat × Callee) := [(1,spec_l00In_c)]
def spec_l19Year_H : List (Nat × ET) := []
noncomputable def spec_l19Year_c : Callee := mkCallee spec_l19Year_D spec_l19Year_H spec_l19Year_ir [.d (.one (.int .i64))] [.d (.one .bool)] []
noncomputable def spec_l19Year (a0 : Int) : Option (Bool) := spec_l19Year_c.f (a0,())
theorem spec_l19Year_eq (a0 : Int) : spec_l19Year a0 =
 (spec_l00In a0 0 2100).bind fun x1 =>
  some x1 :=
 (mk_f _ _ _ _ _ _ _ 4000).trans (by kernel_rfl)
def spec_l19One_ir : Fn := { np := 1,io := [],res := [.t 2],own := [false],body :=
 (.seq (.reg false [.V 2 (.asg (.c (.bool false)))] [0] []) (.seq (.reg true [.V 3 (.mv (.t 0)),.V 4 (.nilck (.t 3)),.V 5 (.fa 0 (.t 4)),.V 6 (.ld none (.t 5)),.V 7 (.call (.c (.fn 13 [])) [.t 6]),.V 8 (.mv (.t 7)),.G 9 (.mv (.t 0)) 5 true,.G 10 (.nilck (.t 9)) 5 true,.G 11 (.fa 1 (.t 10)) 5 true,.G 12 (.ld none (.t 11)) 5 true,.G 13 (.call (.c (.fn 13 [])) [.t 12]) 5 true,.V 14 (.pick (.t 8) (.t 13) (.c (.bool false))),.V 15 (.mv (.t 14)),.G 16 (.mv (.t 0)) 12 true,.G 17 (.nilck (.t 16)) 12 true,.G 18 (.fa 0 (.t 17)) 12 true,.G 19 (.ld none (.t 18)) 12 true,.G 20 (.mv (.t 0)) 12 true,.G 21 (.nilck (.t 20)) 12 true,.G 22 (.fa 1 (.t 21)) 12 true,.G 23 (.ld none (.t 22)) 12 true,.G 24 (.bin .neq (.t 19) (.t 23)) 12 true,.V 25 (.pick (.t 15) (.t 24) (.c (.bool false))),.V 26 (.mv (.t 25)),.G 27 (.mv (.t 0)) 23 true,.G 28 (.nilck (.t 27)) 23 true,.G 29 (.fa 2 (.t 28)) 23 true,.G 30 (.ld none (.t 29)) 23 true,.G 31 (.call (.c (.fn 1021 [])) [.t 30]) 23 true,.V 32 (.pick (.t 26) (.t 31) (.c (.bool false))),.V 33 (.mv (.t 32)),.G 34 (.mv (.t 0)) 30 true,.G 35 (.nilck (.t 34)) 30 true,.G 36 (.fa 3 (.t 35)) 30 true,.G 37 (.ld none (.t 36)) 30 true,.G 38 (.call (.c (.fn 1 [])) [.t 37,.c (.int .i64 0),.c (.int .i64 1000)]) 30 true,.V 39 (.pick (.t 33) (.t 38) (.c (.bool false))),.V 2 (.asg (.t 39))] [2] []) .ret)) }
noncomputable def spec_l19One_D : List (Nat × Callee) := [(1,spec_l00In_c),(13,spec_l01Name_c),(1021,spec_l19Year_c)]
def spec_l19One_H : List (Nat × ET) := []
noncomputable def spec_l19One_c : Callee := mkCallee spec_l19One_D spec_l19One_H spec_l19One_ir [.p T_Deed] [.d (.one .bool)] []
noncomputable def spec_l19One (a0 : T_Deed.ty) : Option (Bool) := spec_l19One_c.f (a0,())
theorem spec_l19One_eq (a0 : T_Deed.ty) : spec_l19One a0 =
 (spec_l01Name a0.1).bind fun x1 =>
  if x1 then
   (spec_l01Name a0.2.1).bind fun x2 =>
    if x2 then
     if (!(a0.1 == a0.2.1)) then
      (spec_l19Year a0.2.2.1).bind fun x3 =>
       if x3 then
        (spec_l00In a0.2.2.2.1 0 1000).bind fun x4 =>
         some x4
       else
        some false
     else
      some false
    else
     some false
  else
   some false :=
 (mk_f _ _ _ _ _ _ _ 4000).trans (by kernel_rfl)
def spec_l19Ok_k0 : C :=
 .seq (.seq (.reg false [.V 4 (.mv (.t 3)),.V 5 (.mv (.t 0)),.V 6 (.len (.t 5)),.V 7 (.bin .lss (.t 4) (.t 6))] [0,3,7] []) (.cond (.t 7) .skip (.exit 0))) (.seq (.block 1 (.seq (.reg true [.V 10 (.mv (.t 0)),.V 11 (.mv (.t 3)),.V 12 (.ia 4 (.t 10) (.t 11)),.V 13 (.call (.c (.fn 865 [])) [.t 12]),.V 14 (.un .not (.t 13)),.V 15 (.mv (.t 14)),.G 16 (.mv (.t 3)) 5 false,.G 17 (.bin .gtr (.t 16) (.c (.int .i64 0))) 5 false,.G 18 (.mv (.t 17)) 5 false,.G 19 (.mv (.t 0)) 8 true,.G 20 (.mv (.t 3)) 8 true,.G 21 (.bin .sub (.t 20) (.c (.int .i64 1))) 8 true,.G 22 (.ia 4 (.t 19) (.t 21)) 8 true,.G 23 (.fa 2 (.t 22)) 8 true,.G 24 (.ld none (.t 23)) 8 true,.G 25 (.mv (.t 0)) 8 true,.G 26 (.mv (.t 3)) 8 true,.G 27 (.ia 4 (.t 25) (.t 26)) 8 true,.G 28 (.fa 2 (.t 27)) 8 true,.G 29 (.ld none (.t 28)) 8 true,.G 30 (.bin .gtr (.t 24) (.t 29)) 8 true,.G 31 (.pick (.t 18) (.t 30) (.c (.bool false))) 5 false,.V 32 (.pick (.t 15) (.c (.bool true)) (.t 31))] [0,3,32] []) (.cond (.t 32) (.seq (.reg false [.V 2 (.asg (.c (.bool false)))] [2] []) .ret) .skip))) (.reg false [.V 8 (.mv (.t 3)),.V 9 (.bin .add (.t 8) (.c (.int .i64 1))),.V 3 (.asg (.t 9))] [0,3] []))
def spec_l19Ok_k1 : C :=
 .norm [0,3] [] spec_l19Ok_k0
def spec_l19Ok_k2 : C :=
 .seq (.reg false [.V 33 (.mv (.t 0)),.V 34 (.len (.t 33)),.V 35 (.bin .leq (.t 34) (.c (.int .i64 16))),.V 2 (.asg (.t 35))] [2] []) .ret
def spec_l19Ok_ir : Fn := { np := 1,io := [],res := [.t 2],own := [false],body :=
 (.seq (.reg false [.V 2 (.asg (.c (.bool false)))] [0] []) (.seq (.seq (.reg false [.V 3 (.asg (.c (.int .i64 0)))] [0,3] []) (.block 0 (.loop spec_l19Ok_k1))) spec_l19Ok_k2)) }
noncomputable def spec_l19Ok_D : List (Nat × Callee) := [(865,spec_l19One_c)]
def spec_l19Ok_H : List (Nat × ET) := [(5,T_Deed),(10,T_Deed),(19,T_Deed),(25,T_Deed),(33,T_Deed)]
noncomputable def spec_l19Ok_c : Callee := mkCallee spec_l19Ok_D spec_l19Ok_H spec_l19Ok_ir [.d (.one (.sl T_Deed))] [.d (.one .bool)] []
noncomputable def spec_l19Ok (a0 : List T_Deed.ty) : Option (Bool) := spec_l19Ok_c.f (a0,())
noncomputable def spec_l19Ok_p0  (v0 : List T_Deed.ty) (v3 : Int) : Option (Bool) :=
 goL spec_l19Ok_D spec_l19Ok_H (vleave spec_l19Ok_ir [.d (.one (.sl T_Deed))] [.d (.one .bool)] [] []) [.c spec_l19Ok_k0,.l spec_l19Ok_k1,.e 0,.c spec_l19Ok_k2]
  ⟨[(0,.sl T_Deed v0),(3,.int .i64 v3)],[]⟩
theorem spec_l19Ok_eq (a0 : List T_Deed.ty) : spec_l19Ok a0 =
 spec_l19Ok_p0 a0 0 :=
 (mk_f _ _ _ _ _ _ _ 4000).trans (by kernel_rfl)
theorem spec_l19Ok_p0_eq  (v0 : List T_Deed.ty) (v3 : Int) : spec_l19Ok_p0 v0 v3 =
 if decide (v3 < (v0.length : Int)) then
  if decide (0 ≤ v3) then
   (v0[v3.toNat]?).bind fun x1 =>
    (spec_l19One x1).bind fun x2 =>
     if (!x2) then
      some false
     else
      if decide (v3 > 0) then
       if decide (0 ≤ IntKind.i64.wrap (v3 - 1)) then
        (v0[(IntKind.i64.wrap (v3 - 1)).toNat]?).bind fun x3 =>
         if decide (0 ≤ v3) then
          (v0[v3.toNat]?).bind fun x4 =>
           if decide (x3.2.2.1 > x4.2.2.1) then
            some false
           else
            spec_l19Ok_p0 v0 (IntKind.i64.wrap (v3 + 1))
         else
          none
       else
        none
      else
       spec_l19Ok_p0 v0 (IntKind.i64.wrap (v3 + 1))
  else
   none
 else
  some (decide ((v0.length : Int) ≤ 16)) :=
 (goL_dn _ _ _ 4000 _ _).trans (by kernel_rfl)
def spec_l00Rises_k0 : C :=
 .seq (.seq (.reg false [.V 8 (.mv (.t 7)),.V 9 (.mv (.t 0)),.V 10 (.len (.t 9)),.V 11 (.bin .lss (.t 8) (.t 10))] [0,1,2,7,11] []) (.cond (.t 11) .skip (.exit 0))) (.seq (.block 1 (.seq (.reg true [.V 14 (.mv (.t 0)),.V 15 (.mv (.t 7)),.V 16 (.ia 1 (.t 14) (.t 15)),.V 17 (.ld none (.t 16)),.V 18 (.mv (.t 1)),.V 19 (.mv (.t 2)),.V 20 (.call (.c (.fn 1 [])) [.t 17,.t 18,.t 19]),.V 21 (.un .not (.t 20)),.V 22 (.mv (.t 21)),.G 23 (.mv (.t 7)) 8 false,.G 24 (.bin .gtr (.t 23) (.c (.int .i64 0))) 8 false,.G 25 (.mv (.t 24)) 8 false,.G 26 (.mv (.t 0)) 11 true,.G 27 (.mv (.t 7)) 11 true,.G 28 (.bin .sub (.t 27) (.c (.int .i64 1))) 11 true,.G 29 (.ia 1 (.t 26) (.t 28)) 11 true,.G 30 (.ld none (.t 29)) 11 true,.G 31 (.mv (.t 0)) 11 true,.G 32 (.mv (.t 7)) 11 true,.G 33 (.ia 1 (.t 31) (.t 32)) 11 true,.G 34 (.ld none (.t 33)) 11 true,.G 35 (.bin .geq (.t 30) (.t 34)) 11 true,.G 36 (.pick (.t 25) (.t 35) (.c (.bool false))) 8 false,.V 37 (.pick (.t 22) (.c (.bool true)) (.t 36))] [0,1,2,7,37] []) (.cond (.t 37) (.seq (.reg false [.V 6 (.asg (.c (.bool false)))] [6] []) .ret) .skip))) (.reg false [.V 12 (.mv (.t 7)),.V 13 (.bin .add (.t 12) (.c (.int .i64 1))),.V 7 (.asg (.t 13))] [0,1,2,7] []))
def spec_l00Rises_k1 : C :=
 .norm [0,1,2,7] [] spec_l00Rises_k0
def spec_l00Rises_k2 : C :=
 .seq (.reg false [.V 6 (.asg (.c (.bool true)))] [6] []) .ret
def spec_l00Rises_ir : Fn := { np := 3,io := [],res := [.t 6],own := [false],body :=
 (.seq (.reg false [.V 6 (.asg (.c (.bool false)))] [0,1,2] []) (.seq (.seq (.reg false [.V 7 (.asg (.c (.int .i64 0)))] [0,1,2,7] []) (.block 0 (.loop spec_l00Rises_k1))) spec_l00Rises_k2)) }
noncomputable def spec_l00Rises_D : List (Nat × Callee) := [(1,spec_l00In_c)]
def spec_l00Rises_H : List (Nat × ET) := [(9,(.one (.int .i64))),(14,(.one (.int .i64))),(26,(.one (.int .i64))),(31,(.one (.int .i64)))]
noncomputable def spec_l00Rises_c : Callee := mkCallee spec_l00Rises_D spec_l00Rises_H spec_l00Rises_ir [.d (.one (.sl (.one (.int .i64)))),.d (.one (.int .i64)),.d (.one (.int .i64))] [.d (.one .bool)] []
noncomputable def spec_l00Rises (a0 : List Int) (a1 : Int) (a2 : Int) : Option (Bool) := spec_l00Rises_c.f (a0,a1,a2,())
noncomputable def spec_l00Rises_p0  (v0 : List Int) (v1 : Int) (v2 : Int) (v7 : Int) : Option (Bool) :=
 goL spec_l00Rises_D spec_l00Rises_H (vleave spec_l00Rises_ir [.d (.one (.sl (.one (.int .i64)))),.d (.one (.int .i64)),.d (.one (.int .i64))] [.d (.one .bool)] [] []) [.c spec_l00Rises_k0,.l spec_l00Rises_k1,.e 0,.c spec_l00Rises_k2]
  ⟨[(0,.sl (.one (.int .i64)) v0),(1,.int .i64 v1),(2,.int .i64 v2),(7,.int .i64 v7)],[]⟩
theorem spec_l00Rises_eq (a0 : List Int) (a1 : Int) (a2 : Int) : spec_l00Rises a0 a1 a2 =
 spec_l00Rises_p0 a0 a1 a2 0 :=
 (mk_f _ _ _ _ _ _ _ 4000).trans (by kernel_rfl)
theorem spec_l00Rises_p0_eq  (v0 : List Int) (v1 : Int) (v2 : Int) (v7 : Int) : spec_l00Rises_p0 v0 v1 v2 v7 =
 if decide (v7 < (v0.length : Int)) then
  if decide (0 ≤ v7) then
   (v0[v7.toNat]?).bind fun x1 =>
    (spec_l00In x1 v1 v2).bind fun x2 =>
     if (!x2) then
      some false
     else
      if decide (v7 > 0) then
       if decide (0 ≤ IntKind.i64.wrap (v7 - 1)) then
        (v0[(IntKind.i64.wrap (v7 - 1)).toNat]?).bind fun x3 =>
         if decide (0 ≤ v7) then
          (v0[v7.toNat]?).bind fun x4 =>
           if decide (x3 ≥ x4) then
            some false
           else
            spec_l00Rises_p0 v0 v1 v2 (IntKind.i64.wrap (v7 + 1))
         else
          none
       else
        none
      else
       spec_l00Rises_p0 v0 v1 v2 (IntKind.i64.wrap (v7 + 1))
  else
   none
 else
  some true :=
 (goL_dn _ _ _ 4000 _ _).trans (by kernel_rfl)
def spec_l19Chain_k0 : C :=
 .seq (.seq (.reg false [.V 17 (.mv (.t 5)),.V 18 (.mv (.t 1)),.V 19 (.len (.t 18)),.V 20 (.bin .lss (.t 17) (.t 19))] [0,1,5,20] []) (.cond (.t 20) .skip (.exit 0))) (.seq (.block 1 (.seq (.reg true [.V 23 (.mv (.t 0)),.V 24 (.mv (.t 1)),.V 25 (.mv (.t 5)),.V 26 (.bin .sub (.t 25) (.c (.int .i64 1))),.V 27 (.ia 1 (.t 24) (.t 26)),.V 28 (.ld none (.t 27)),.V 29 (.ia 4 (.t 23) (.t 28)),.V 30 (.fa 1 (.t 29)),.V 31 (.ld none (.t 30)),.V 32 (.mv (.t 0)),.V 33 (.mv (.t 1)),.V 34 (.mv (.t 5)),.V 35 (.ia 1 (.t 33) (.t 34)),.V 36 (.ld none (.t 35)),.V 37 (.ia 4 (.t 32) (.t 36)),.V 38 (.fa 0 (.t 37)),.V 39 (.ld none (.t 38)),.V 40 (.bin .neq (.t 31) (.t 39))] [0,1,5,40] []) (.cond (.t 40) (.seq (.reg false [.V 4 (.asg (.c (.bool false)))] [4] []) .ret) .skip))) (.reg false [.V 21 (.mv (.t 5)),.V 22 (.bin .add (.t 21) (.c (.int .i64 1))),.V 5 (.asg (.t 22))] [0,1,5] []))
def spec_l19Chain_k1 : C :=
 .norm [0,1,5] [] spec_l19Chain_k0
def spec_l19Chain_k2 : C :=
 .seq (.reg false [.V 4 (.asg (.c (.bool true)))] [4] []) .ret
def spec_l19Chain_k3 : C :=
 .seq (.seq (.reg false [.V 5 (.asg (.c (.int .i64 1)))] [0,1,5] []) (.block 0 (.loop spec_l19Chain_k1))) spec_l19Chain_k2
def spec_l19Chain_ir : Fn := { np := 2,io := [],res := [.t 4],own := [false],body :=
 (.seq (.reg false [.V 4 (.asg (.c (.bool false)))] [0,1] []) (.seq (.seq (.reg false [.V 6 (.mv (.t 1)),.V 7 (.len (.t 6)),.V 8 (.bin .eql (.t 7) (.c (.int .i64 0))),.V 9 (.mv (.t 8)),.G 10 (.mv (.t 1)) 3 false,.G 11 (.mv (.t 0)) 3 false,.G 12 (.len (.t 11)) 3 false,.G 13 (.bin .sub (.t 12) (.c (.int .i64 1))) 3 false,.G 14 (.call (.c (.fn 804 [])) [.t 10,.c (.int .i64 0),.t 13]) 3 false,.G 15 (.un .not (.t 14)) 3 false,.V 16 (.pick (.t 9) (.c (.bool true)) (.t 15))] [0,1,16] []) (.cond (.t 16) (.seq (.reg false [.V 4 (.asg (.c (.bool false)))] [4] []) .ret) .skip)) (.norm [0,1] [] spec_l19Chain_k3))) }
noncomputable def spec_l19Chain_D : List (Nat × Callee) := [(804,spec_l00Rises_c)]
def spec_l19Chain_H : List (Nat × ET) := [(6,(.one (.int .i64))),(10,(.one (.int .i64))),(11,T_Deed),(18,(.one (.int .i64))),(23,T_Deed),(24,(.one (.int .i64))),(32,T_Deed),(33,(.one (.int .i64)))]
noncomputable def spec_l19Chain_c : Callee := mkCallee spec_l19Chain_D spec_l19Chain_H spec_l19Chain_ir [.d (.one (.sl T_Deed)),.d (.one (.sl (.one (.int .i64))))] [.d (.one .bool)] []
noncomputable def spec_l19Chain (a0 : List T_Deed.ty) (a1 : List Int) : Option (Bool) := spec_l19Chain_c.f (a0,a1,())
noncomputable def spec_l19Chain_p0  (v0 : List T_Deed.ty) (v1 : List Int) : Option (Bool) :=
 goL spec_l19Chain_D spec_l19Chain_H (vleave spec_l19Chain_ir [.d (.one (.sl T_Deed)),.d (.one (.sl (.one (.int .i64))))] [.d (.one .bool)] [] []) [.c spec_l19Chain_k3]
  ⟨[(0,.sl T_Deed v0),(1,.sl (.one (.int .i64)) v1)],[]⟩
noncomputable def spec_l19Chain_p1  (v0 : List T_Deed.ty) (v1 : List Int) (v5 : Int) : Option (Bool) :=
 goL spec_l19Chain_D spec_l19Chain_H (vleave spec_l19Chain_ir [.d (.one (.sl T_Deed)),.d (.one (.sl (.one (.int .i64))))] [.d (.one .bool)] [] []) [.c spec_l19Chain_k0,.l spec_l19Chain_k1,.e 0,.c spec_l19Chain_k2]
  ⟨[(0,.sl T_Deed v0),(1,.sl (.one (.int .i64)) v1),(5,.int .i64 v5)],[]⟩
theorem spec_l19Chain_eq (a0 : List T_Deed.ty) (a1 : List Int) : spec_l19Chain a0 a1 =
 if ((a1.length : Int) == 0) then
  some false
 else
  (spec_l00Rises a1 0 (IntKind.i64.wrap ((a0.length : Int) - 1))).bind fun x1 =>
   if (!x1) then
    some false
   else
    spec_l19Chain_p0 a0 a1 :=
 (mk_f _ _ _ _ _ _ _ 4000).trans (by kernel_rfl)
theorem spec_l19Chain_p0_eq  (v0 : List T_Deed.ty) (v1 : List Int) : spec_l19Chain_p0 v0 v1 =
 spec_l19Chain_p1 v0 v1 1 :=
 (goL_dn _ _ _ 4000 _ _).trans (by kernel_rfl)
theorem spec_l19Chain_p1_eq  (v0 : List T_Deed.ty) (v1 : List Int) (v5 : Int) : spec_l19Chain_p1 v0 v1 v5 =
 if decide (v5 < (v1.length : Int)) then
  if decide (0 ≤ IntKind.i64.wrap (v5 - 1)) then
   (v1[(IntKind.i64.wrap (v5 - 1)).toNat]?).bind fun x1 =>
    if decide (0 ≤ x1) then
     (v0[x1.toNat]?).bind fun x2 =>
      if decide (0 ≤ v5) then
       (v1[v5.toNat]?).bind fun x3 =>
        if decide (0 ≤ x3) then
         (v0[x3.toNat]?).bind fun x4 =>
          if (!(x2.2.1 == x4.1)) then
           some false
          else
           spec_l19Chain_p1 v0 v1 (IntKind.i64.wrap (v5 + 1))
        else
         none
      else
       none
    else
     none
  else
   none
 else
  some true :=
 (goL_dn _ _ _ 4000 _ _).trans (by kernel_rfl)
def spec_IsChain_ir : Fn := { np := 2,io := [],res := [.t 4],own := [false],body :=
 (.seq (.reg false [.V 4 (.asg (.c (.bool false)))] [0,1] []) (.seq (.reg false [.V 5 (.mv (.t 0)),.V 6 (.call (.c (.fn 528 [])) [.t 5]),.V 7 (.mv (.t 6)),.G 8 (.mv (.t 0)) 2 true,.G 9 (.mv (.t 1)) 2 true,.G 10 (.call (.c (.fn 529 [])) [.t 8,.t 9]) 2 true,.V 11 (.pick (.t 7) (.t 10) (.c (.bool false))),.V 4 (.asg (.t 11))] [4] []) .ret)) }
noncomputable def spec_IsChain_D : List (Nat × Callee) := [(528,spec_l19Ok_c),(529,spec_l19Chain_c)]
def spec_IsChain_H : List (Nat × ET) := [(5,T_Deed),(8,T_Deed),(9,(.one (.int .i64)))]
noncomputable def spec_IsChain_c : Callee := mkCallee spec_IsChain_D spec_IsChain_H spec_IsChain_ir [.d (.one (.sl T_Deed)),.d (.one (.sl (.one (.int .i64))))] [.d (.one .bool)] []
noncomputable def spec_IsChain (a0 : List T_Deed.ty) (a1 : List Int) : Option (Bool) := spec_IsChain_c.f (a0,a1,())
theorem spec_IsChain_eq (a0 : List T_Deed.ty) (a1 : List Int) : spec_IsChain a0 a1 =
 (spec_l19Ok a0).bind fun x1 =>
  if x1 then
   (spec_l19Chain a0 a1).bind fun x2 =>
    some x2
  else
   some false :=
 (mk_f _ _ _ _ _ _ _ 4000).trans (by kernel_rfl)
def spec_l19Best_k0 : C :=
 .seq (.reg true [.V 56 (.mv (.t 6)),.V 57 (.mv (.t 11)),.V 58 (.ia 1 (.t 56) (.t 57)),.V 59 (.ld none (.t 58)),.V 60 (.mv (.t 0)),.V 61 (.mv (.t 8)),.V 62 (.ia 4 (.t 60) (.t 61)),.V 63 (.fa 3 (.t 62)),.V 64 (.ld none (.t 63)),.V 65 (.bin .add (.t 59) (.t 64)),.V 12 (.asg (.t 65))] [0,1,6,7,8,9,10,11,12] [6,7]) (.seq (.reg false [.V 66 (.mv (.t 9)),.V 67 (.bin .lss (.t 66) (.c (.int .i64 0))),.V 68 (.mv (.t 67)),.G 69 (.mv (.t 12)) 2 false,.G 70 (.mv (.t 9)) 2 false,.G 71 (.bin .lss (.t 69) (.t 70)) 2 false,.V 72 (.pick (.t 68) (.c (.bool true)) (.t 71))] [0,1,6,7,8,9,10,11,12,72] [6,7]) (.cond (.t 72) (.seq (.reg false [.V 73 (.mv (.t 12)),.V 9 (.asg (.t 73))] [0,1,6,7,8,9,11] [6,7]) (.reg false [.V 74 (.mv (.t 11)),.V 10 (.asg (.t 74))] [0,1,6,7,8,9,10,11] [6,7])) .skip))
def spec_l19Best_k1 : C :=
 .reg false [.V 36 (.mv (.t 11)),.V 37 (.bin .add (.t 36) (.c (.int .i64 1))),.V 11 (.asg (.t 37))] [0,1,6,7,8,9,10,11] [6,7]
def spec_l19Best_k2 : C :=
 .seq (.seq (.reg false [.V 33 (.mv (.t 11)),.V 34 (.mv (.t 8)),.V 35 (.bin .lss (.t 33) (.t 34))] [0,1,6,7,8,9,10,11,35] [6,7]) (.cond (.t 35) .skip (.exit 2))) (.seq (.block 3 (.seq (.seq (.reg true [.V 38 (.mv (.t 0)),.V 39 (.mv (.t 11)),.V 40 (.ia 4 (.t 38) (.t 39)),.V 41 (.fa 1 (.t 40)),.V 42 (.ld none (.t 41)),.V 43 (.mv (.t 0)),.V 44 (.mv (.t 8)),.V 45 (.ia 4 (.t 43) (.t 44)),.V 46 (.fa 0 (.t 45)),.V 47 (.ld none (.t 46)),.V 48 (.bin .neq (.t 42) (.t 47)),.V 49 (.mv (.t 48)),.G 50 (.mv (.t 6)) 11 false,.G 51 (.mv (.t 11)) 11 false,.G 52 (.ia 1 (.t 50) (.t 51)) 11 false,.G 53 (.ld none (.t 52)) 11 false,.G 54 (.bin .lss (.t 53) (.c (.int .i64 0))) 11 false,.V 55 (.pick (.t 49) (.c (.bool true)) (.t 54))] [0,1,6,7,8,9,10,11,55] [6,7]) (.cond (.t 55) (.exit 3) .skip)) (.norm [0,1,6,7,8,9,10,11] [6,7] spec_l19Best_k0))) spec_l19Best_k1)
def spec_l19Best_k3 : C :=
 .norm [0,1,6,7,8,9,10,11] [6,7] spec_l19Best_k2
def spec_l19Best_k4 : C :=
 .seq (.reg false [.V 75 (.mv (.t 6)),.V 76 (.mv (.t 9)),.V 77 (.bsl 1 (.int .i64 0) 1 [(0,.t 76)]),.W 78 (.app 1 8 (.t 75) (.t 77)),.W 6 (.asg (.t 78))] [0,1,6,7,8,10] [6,7]) (.reg false [.V 79 (.mv (.t 7)),.V 80 (.mv (.t 10)),.V 81 (.bsl 1 (.int .i64 0) 1 [(0,.t 80)]),.W 82 (.app 1 8 (.t 79) (.t 81)),.W 7 (.asg (.t 82))] [0,1,6,7,8] [6,7])
def spec_l19Best_k5 : C :=
 .seq (.seq (.reg false [.V 11 (.asg (.c (.int .i64 0)))] [0,1,6,7,8,9,10,11] [6,7]) (.block 2 (.loop spec_l19Best_k3))) spec_l19Best_k4
def spec_l19Best_k6 : C :=
 .reg false [.V 19 (.mv (.t 8)),.V 20 (.bin .add (.t 19) (.c (.int .i64 1))),.V 8 (.asg (.t 20))] [0,1,6,7,8] [6,7]
def spec_l19Best_k7 : C :=
 .seq (.seq (.reg false [.V 15 (.mv (.t 8)),.V 16 (.mv (.t 0)),.V 17 (.len (.t 16)),.V 18 (.bin .lss (.t 15) (.t 17))] [0,1,6,7,8,18] [6,7]) (.cond (.t 18) .skip (.exit 0))) (.seq (.block 1 (.seq (.reg false [.V 9 (.asg (.c (.int .i64 (-1))))] [0,1,6,7,8,9] [6,7]) (.seq (.reg false [.V 10 (.asg (.c (.int .i64 (-1))))] [0,1,6,7,8,9,10] [6,7]) (.seq (.seq (.reg false [.V 21 (.mv (.t 0)),.V 22 (.mv (.t 8)),.V 23 (.ia 4 (.t 21) (.t 22)),.V 24 (.fa 0 (.t 23)),.V 25 (.ld none (.t 24)),.V 26 (.mv (.t 1)),.V 27 (.bin .eql (.t 25) (.t 26))] [0,1,6,7,8,9,10,27] [6,7]) (.cond (.t 27) (.reg false [.V 28 (.mv (.t 0)),.V 29 (.mv (.t 8)),.V 30 (.ia 4 (.t 28) (.t 29)),.V 31 (.fa 3 (.t 30)),.V 32 (.ld none (.t 31)),.V 9 (.asg (.t 32))] [0,1,6,7,8,9,10] [6,7]) .skip)) (.norm [0,1,6,7,8,9,10] [6,7] spec_l19Best_k5))))) spec_l19Best_k6)
def spec_l19Best_k8 : C :=
 .norm [0,1,6,7,8] [6,7] spec_l19Best_k7
def spec_l19Best_k9 : C :=
 .seq (.reg false [.V 83 (.mv (.t 6)),.V 84 (.mv (.t 7)),.W 4 (.asg (.t 83)),.W 5 (.asg (.t 84))] [4,5] [4,5,6,7]) .ret
def spec_l19Best_ir : Fn := { np := 2,io := [],res := [.t 4,.t 5],own := [true,true],body :=
 (.seq (.reg false [.W 4 (.asg (.c (.nils 1))),.W 5 (.asg (.c (.nils 1)))] [0,1] []) (.seq (.reg false [.V 13 (.bsl 1 (.int .i64 0) 0 []),.W 6 (.asg (.t 13))] [0,1,6] [6]) (.seq (.reg false [.V 14 (.bsl 1 (.int .i64 0) 0 []),.W 7 (.asg (.t 14))] [0,1,6,7] [6,7]) (.seq (.seq (.reg false [.V 8 (.asg (.c (.int .i64 0)))] [0,1,6,7,8] [6,7]) (.block 0 (.loop spec_l19Best_k8))) spec_l19Best_k9)))) }
noncomputable def spec_l19Best_D : List (Nat × Callee) := []
def spec_l19Best_H : List (Nat × ET) := [(4,(.one (.int .i64))),(5,(.one (.int .i64))),(6,(.one (.int .i64))),(7,(.one (.int .i64))),(13,(.one (.int .i64))),(14,(.one (.int .i64))),(16,T_Deed),(21,T_Deed),(28,T_Deed),(38,T_Deed),(43,T_Deed),(50,(.one (.int .i64))),(56,(.one (.int .i64))),(60,T_Deed),(75,(.one (.int .i64))),(77,(.one (.int .i64))),(78,(.one (.int .i64))),(79,(.one (.int .i64))),(81,(.one (.int .i64))),(82,(.one (.int .i64))),(83,(.one (.int .i64))),(84,(.one (.int .i64)))]
noncomputable def spec_l19Best_c : Callee := mkCallee spec_l19Best_D spec_l19Best_H spec_l19Best_ir [.d (.one (.sl T_Deed)),.d (.one .str)] [.tok (.one (.int .i64)),.tok (.one (.int .i64))] []
noncomputable def spec_l19Best (a0 : List T_Deed.ty) (a1 : List UInt8) : Option (List Int × List Int) := spec_l19Best_c.f (a0,a1,())
noncomputable def spec_l19Best_p0  (v0 : List T_Deed.ty) (v1 : List UInt8) (v8 : Int) (r6 : List Int) (r7 : List Int) : Option (List Int × List Int) :=
 goL spec_l19Best_D spec_l19Best_H (vleave spec_l19Best_ir [.d (.one (.sl T_Deed)),.d (.one .str)] [.tok (.one (.int .i64)),.tok (.one (.int .i64))] [] []) [.c spec_l19Best_k7,.l spec_l19Best_k8,.e 0,.c spec_l19Best_k9]
  ⟨[(0,.sl T_Deed v0),(1,.str v1),(6,.view 6 0 r6.length),(7,.view 7 0 r7.length),(8,.int .i64 v8)],[(6,some (.sl (.one (.int .i64)) r6)),(7,some (.sl (.one (.int .i64)) r7))]⟩
noncomputable def spec_l19Best_p1  (v0 : List T_Deed.ty) (v1 : List UInt8) (v8 : Int) (v9 : Int) (v10 : Int) (r6 : List Int) (r7 : List Int) : Option (List Int × List Int) :=
 goL spec_l19Best_D spec_l19Best_H (vleave spec_l19Best_ir [.d (.one (.sl T_Deed)),.d (.one .str)] [.tok (.one (.int .i64)),.tok (.one (.int .i64))] [] []) [.c spec_l19Best_k5,.e 1,.c spec_l19Best_k6,.l spec_l19Best_k8,.e 0,.c spec_l19Best_k9]
  ⟨[(0,.sl T_Deed v0),(1,.str v1),(6,.view 6 0 r6.length),(7,.view 7 0 r7.length),(8,.int .i64 v8),(9,.int .i64 v9),(10,.int .i64 v10)],[(6,some (.sl (.one (.int .i64)) r6)),(7,some (.sl (.one (.int .i64)) r7))]⟩
noncomputable def spec_l19Best_p2  (v0 : List T_Deed.ty) (v1 : List UInt8) (v8 : Int) (v9 : Int) (v10 : Int) (v11 : Int) (r6 : List Int) (r7 : List Int) : Option (List Int × List Int) :=
 goL spec_l19Best_D spec_l19Best_H (vleave spec_l19Best_ir [.d (.one (.sl T_Deed)),.d (.one .str)] [.tok (.one (.int .i64)),.tok (.one (.int .i64))] [] []) [.c spec_l19Best_k2,.l spec_l19Best_k3,.e 2,.c spec_l19Best_k4,.e 1,.c spec_l19Best_k6,.l spec_l19Best_k8,.e 0,.c spec_l19Best_k9]
  ⟨[(0,.sl T_Deed v0),(1,.str v1),(6,.view 6 0 r6.length),(7,.view 7 0 r7.length),(8,.int .i64 v8),(9,.int .i64 v9),(10,.int .i64 v10),(11,.int .i64 v11)],[(6,some (.sl (.one (.int .i64)) r6)),(7,some (.sl (.one (.int .i64)) r7))]⟩
noncomputable def spec_l19Best_p3  (v0 : List T_Deed.ty) (v1 : List UInt8) (v8 : Int) (v9 : Int) (v10 : Int) (v11 : Int) (r6 : List Int) (r7 : List Int) : Option (List Int × List Int) :=
 goL spec_l19Best_D spec_l19Best_H (vleave spec_l19Best_ir [.d (.one (.sl T_Deed)),.d (.one .str)] [.tok (.one (.int .i64)),.tok (.one (.int .i64))] [] []) [.c spec_l19Best_k0,.e 3,.c spec_l19Best_k1,.l spec_l19Best_k3,.e 2,.c spec_l19Best_k4,.e 1,.c spec_l19Best_k6,.l spec_l19Best_k8,.e 0,.c spec_l19Best_k9]
  ⟨[(0,.sl T_Deed v0),(1,.str v1),(6,.view 6 0 r6.length),(7,.view 7 0 r7.length),(8,.int .i64 v8),(9,.int .i64 v9),(10,.int .i64 v10),(11,.int .i64 v11)],[(6,some (.sl (.one (.int .i64)) r6)),(7,some (.sl (.one (.int .i64)) r7))]⟩
theorem spec_l19Best_eq (a0 : List T_Deed.ty) (a1 : List UInt8) : spec_l19Best a0 a1 =
 spec_l19Best_p0 a0 a1 0 [] [] :=
 (mk_f _ _ _ _ _ _ _ 4000).trans (by kernel_rfl)
theorem spec_l19Best_p0_eq  (v0 : List T_Deed.ty) (v1 : List UInt8) (v8 : Int) (r6 : List Int) (r7 : List Int) : spec_l19Best_p0 v0 v1 v8 r6 r7 =
 if decide (v8 < (v0.length : Int)) then
  if decide (0 ≤ v8) then
   (v0[v8.toNat]?).bind fun x1 =>
    if (x1.1 == v1) then
     if decide (0 ≤ v8) then
      (v0[v8.toNat]?).bind fun x2 =>
       spec_l19Best_p1 v0 v1 v8 x2.2.2.2.1 (-1) r6 r7
     else
      none
    else
     spec_l19Best_p1 v0 v1 v8 (-1) (-1) r6 r7
  else
   none
 else
  some ((r6.take r6.length),(r7.take r7.length)) :=
 (goL_dn _ _ _ 4000 _ _).trans (by kernel_rfl)
theorem spec_l19Best_p1_eq  (v0 : List T_Deed.ty) (v1 : List UInt8) (v8 : Int) (v9 : Int) (v10 : Int) (r6 : List Int) (r7 : List Int) : spec_l19Best_p1 v0 v1 v8 v9 v10 r6 r7 =
 spec_l19Best_p2 v0 v1 v8 v9 v10 0 r6 r7 :=
 (goL_dn _ _ _ 4000 _ _).trans (by kernel_rfl)
theorem spec_l19Best_p2_eq  (v0 : List T_Deed.ty) (v1 : List UInt8) (v8 : Int) (v9 : Int) (v10 : Int) (v11 : Int) (r6 : List Int) (r7 : List Int) : spec_l19Best_p2 v0 v1 v8 v9 v10 v11 r6 r7 =
 if decide (v11 < v8) then
  if decide (0 ≤ v11) then
   (v0[v11.toNat]?).bind fun x1 =>
    if decide (0 ≤ v8) then
     (v0[v8.toNat]?).bind fun x2 =>
      if (!(x1.2.1 == x2.1)) then
       spec_l19Best_p2 v0 v1 v8 v9 v10 (IntKind.i64.wrap (v11 + 1)) r6 r7
      else
       if decide (0 ≤ v11) && decide (v11 < (r6.length : Int)) then
        (r6[v11.toNat]?).bind fun x3 =>
         if decide (x3 < 0) then
          spec_l19Best_p2 v0 v1 v8 v9 v10 (IntKind.i64.wrap (v11 + 1)) r6 r7
         else
          spec_l19Best_p3 v0 v1 v8 v9 v10 v11 r6 r7
       else
        none
    else
     none
  else
   none
 else
  if decide (r6.length + 1 < lim) then
   if decide (r7.length + 1 < lim) then
    spec_l19Best_p0 v0 v1 (IntKind.i64.wrap (v8 + 1)) ((r6.take r6.length) ++ [v9]) ((r7.take r7.length) ++ [v10])
   else
    none
  else
   none :=
 (goL_dn _ _ _ 4000 _ _).trans (by kernel_rfl)
theorem spec_l19Best_p3_eq  (v0 : List T_Deed.ty) (v1 : List UInt8) (v8 : Int) (v9 : Int) (v10 : Int) (v11 : Int) (r6 : List Int) (r7 : List Int) : spec_l19Best_p3 v0 v1 v8 v9 v10 v11 r6 r7 =
 if decide (0 ≤ v11) && decide (v11 < (r6.length : Int)) then
  (r6[v11.toNat]?).bind fun x1 =>
   if decide (0 ≤ v8) then
    (v0[v8.toNat]?).bind fun x2 =>
     if decide (v9 < 0) then
      spec_l19Best_p2 v0 v1 v8 (IntKind.i64.wrap (x1 + x2.2.2.2.1)) v11 (IntKind.i64.wrap (v11 + 1)) r6 r7
     else
      if decide (IntKind.i64.wrap (x1 + x2.2.2.2.1) < v9) then
       spec_l19Best_p2 v0 v1 v8 (IntKind.i64.wrap (x1 + x2.2.2.2.1)) v11 (IntKind.i64.wrap (v11 + 1)) r6 r7
      else
       spec_l19Best_p2 v0 v1 v8 v9 v10 (IntKind.i64.wrap (v11 + 1)) r6 r7
   else
    none
 else
  none :=
 (goL_dn _ _ _ 4000 _ _).trans (by kernel_rfl)
def spec_BestChain_k0 : C :=
 .seq (.seq (.reg false [.V 34 (.mv (.t 12)),.V 35 (.mv (.t 0)),.V 36 (.len (.t 35)),.V 37 (.bin .lss (.t 34) (.t 36))] [0,2,9,10,11,12,37] [9,10]) (.cond (.t 37) .skip (.exit 0))) (.seq (.block 1 (.seq (.reg true [.V 40 (.mv (.t 0)),.V 41 (.mv (.t 12)),.V 42 (.ia 4 (.t 40) (.t 41)),.V 43 (.fa 1 (.t 42)),.V 44 (.ld none (.t 43)),.V 45 (.mv (.t 2)),.V 46 (.bin .eql (.t 44) (.t 45)),.V 47 (.mv (.t 46)),.G 48 (.mv (.t 9)) 7 true,.G 49 (.mv (.t 12)) 7 true,.G 50 (.ia 1 (.t 48) (.t 49)) 7 true,.G 51 (.ld none (.t 50)) 7 true,.G 52 (.bin .geq (.t 51) (.c (.int .i64 0))) 7 true,.V 53 (.pick (.t 47) (.t 52) (.c (.bool false))),.V 54 (.mv (.t 53)),.G 55 (.mv (.t 11)) 14 true,.G 56 (.bin .lss (.t 55) (.c (.int .i64 0))) 14 true,.G 57 (.mv (.t 56)) 14 true,.G 58 (.mv (.t 9)) 17 false,.G 59 (.mv (.t 12)) 17 false,.G 60 (.ia 1 (.t 58) (.t 59)) 17 false,.G 61 (.ld none (.t 60)) 17 false,.G 62 (.mv (.t 9)) 17 false,.G 63 (.mv (.t 11)) 17 false,.G 64 (.ia 1 (.t 62) (.t 63)) 17 false,.G 65 (.ld none (.t 64)) 17 false,.G 66 (.bin .lss (.t 61) (.t 65)) 17 false,.G 67 (.pick (.t 57) (.c (.bool true)) (.t 66)) 14 true,.V 68 (.pick (.t 54) (.t 67) (.c (.bool false)))] [0,2,9,10,11,12,68] [9,10]) (.cond (.t 68) (.reg false [.V 69 (.mv (.t 12)),.V 11 (.asg (.t 69))] [0,2,9,10,11,12] [9,10]) .skip))) (.reg false [.V 38 (.mv (.t 12)),.V 39 (.bin .add (.t 38) (.c (.int .i64 1))),.V 12 (.asg (.t 39))] [0,2,9,10,11,12] [9,10]))
def spec_BestChain_k1 : C :=
 .norm [0,2,9,10,11,12] [9,10] spec_BestChain_k0
def spec_BestChain_k2 : C :=
 .seq (.seq (.reg false [.V 74 (.mv (.t 14)),.V 75 (.bin .geq (.t 74) (.c (.int .i64 0)))] [9,10,11,13,14,75] [9,10,13]) (.cond (.t 75) .skip (.exit 2))) (.seq (.block 3 (.reg false [.V 80 (.mv (.t 14)),.V 81 (.bsl 1 (.int .i64 0) 1 [(0,.t 80)]),.V 82 (.mv (.t 13)),.W 83 (.app 1 8 (.t 81) (.t 82)),.W 13 (.asg (.t 83))] [9,10,11,13,14] [9,10,13])) (.reg false [.V 76 (.mv (.t 10)),.V 77 (.mv (.t 14)),.V 78 (.ia 1 (.t 76) (.t 77)),.V 79 (.ld none (.t 78)),.V 14 (.asg (.t 79))] [9,10,11,13,14] [9,10,13]))
def spec_BestChain_k3 : C :=
 .norm [9,10,11,13,14] [9,10,13] spec_BestChain_k2
def spec_BestChain_k4 : C :=
 .seq (.reg true [.V 84 (.mv (.t 13)),.V 85 (.mv (.t 9)),.V 86 (.mv (.t 11)),.V 87 (.ia 1 (.t 85) (.t 86)),.V 88 (.ld none (.t 87)),⟨some 6,true,.asg (.t 84),none,true,[]⟩,.V 7 (.asg (.t 88)),.V 8 (.asg (.c (.int .i64 0)))] [6,7,8] [6,13]) .ret
def spec_BestChain_k5 : C :=
 .seq (.seq (.reg false [.V 70 (.mv (.t 11)),.V 71 (.bin .lss (.t 70) (.c (.int .i64 0)))] [9,10,11,71] [9,10]) (.cond (.t 71) (.seq (.reg false [.W 6 (.asg (.c (.nils 1))),.V 7 (.asg (.c (.int .i64 0))),.V 8 (.asg (.c (.int .i64 3)))] [6,7,8] [6,13]) .ret) .skip)) (.seq (.reg false [.V 72 (.bsl 1 (.int .i64 0) 0 []),.W 13 (.asg (.t 72))] [9,10,11,13] [9,10,13]) (.seq (.seq (.reg false [.V 73 (.mv (.t 11)),.V 14 (.asg (.t 73))] [9,10,11,13,14] [9,10,13]) (.block 2 (.loop spec_BestChain_k3))) spec_BestChain_k4))
def spec_BestChain_k6 : C :=
 .seq (.reg false [.V 29 (.mv (.t 0)),.V 30 (.mv (.t 1)),.V 31 (.call (.c (.fn 530 [])) [.t 29,.t 30]),.V 28 (.mv (.t 31)),.V 32 (.ext (.t 28) 0),.V 33 (.ext (.t 28) 1),.W 9 (.asg (.t 32)),.W 10 (.asg (.t 33))] [0,2,9,10] [9,10]) (.seq (.reg false [.V 11 (.asg (.c (.int .i64 (-1))))] [0,2,9,10,11] [9,10]) (.seq (.seq (.reg false [.V 12 (.asg (.c (.int .i64 0)))] [0,2,9,10,11,12] [9,10]) (.block 0 (.loop spec_BestChain_k1))) spec_BestChain_k5))
def spec_BestChain_ir : Fn := { np := 3,io := [],res := [.t 6,.t 7,.t 8],own := [true,false,false],body :=
 (.seq (.reg false [.W 6 (.asg (.c (.nils 1))),.V 7 (.asg (.c (.int .i64 0))),.V 8 (.asg (.c (.int .i64 0)))] [0,1,2] []) (.seq (.seq (.reg false [.V 15 (.mv (.t 0)),.V 16 (.call (.c (.fn 528 [])) [.t 15]),.V 17 (.un .not (.t 16)),.V 18 (.mv (.t 17)),.G 19 (.mv (.t 1)) 3 false,.G 20 (.call (.c (.fn 13 [])) [.t 19]) 3 false,.G 21 (.un .not (.t 20)) 3 false,.V 22 (.pick (.t 18) (.c (.bool true)) (.t 21)),.V 23 (.mv (.t 22)),.G 24 (.mv (.t 2)) 8 false,.G 25 (.call (.c (.fn 13 [])) [.t 24]) 8 false,.G 26 (.un .not (.t 25)) 8 false,.V 27 (.pick (.t 23) (.c (.bool true)) (.t 26))] [0,1,2,27] []) (.cond (.t 27) (.seq (.reg false [.W 6 (.asg (.c (.nils 1))),.V 7 (.asg (.c (.int .i64 0))),.V 8 (.asg (.c (.int .i64 1)))] [6,7,8] [6,13]) .ret) .skip)) (.norm [0,1,2] [] spec_BestChain_k6))) }
noncomputable def spec_BestChain_D : List (Nat × Callee) := [(13,spec_l01Name_c),(528,spec_l19Ok_c),(530,spec_l19Best_c)]
def spec_BestChain_H : List (Nat × ET) := [(6,(.one (.int .i64))),(9,(.one (.int .i64))),(10,(.one (.int .i64))),(13,(.one (.int .i64))),(15,T_Deed),(29,T_Deed),(32,(.one (.int .i64))),(33,(.one (.int .i64))),(35,T_Deed),(40,T_Deed),(48,(.one (.int .i64))),(58,(.one (.int .i64))),(62,(.one (.int .i64))),(72,(.one (.int .i64))),(76,(.one (.int .i64))),(81,(.one (.int .i64))),(82,(.one (.int .i64))),(83,(.one (.int .i64))),(84,(.one (.int .i64))),(85,(.one (.int .i64)))]
noncomputable def spec_BestChain_c : Callee := mkCallee spec_BestChain_D spec_BestChain_H spec_BestChain_ir [.d (.one (.sl T_Deed)),.d (.one .str),.d (.one .str)] [.tok (.one (.int .i64)),.d (.one (.int .i64)),.d (.one (.int .i64))] []
noncomputable def spec_BestChain (a0 : List T_Deed.ty) (a1 : List UInt8) (a2 : List UInt8) : Option (List Int × Int × Int) := spec_BestChain_c.f (a0,a1,a2,())
noncomputable def spec_BestChain_p0  (v0 : List T_Deed.ty) (v1 : List UInt8) (v2 : List UInt8) : Option (List Int × Int × Int) :=
 goL spec_BestChain_D spec_BestChain_H (vleave spec_BestChain_ir [.d (.one (.sl T_Deed)),.d (.one .str),.d (.one .str)] [.tok (.one (.int .i64)),.d (.one (.int .i64)),.d (.one (.int .i64))] [] []) [.c spec_BestChain_k6]
  ⟨[(0,.sl T_Deed v0),(1,.str v1),(2,.str v2)],[]⟩
noncomputable def spec_BestChain_p1  (v0 : List T_Deed.ty) (v2 : List UInt8) (v11 : Int) (v12 : Int) (r9 : List Int) (r10 : List Int) : Option (List Int × Int × Int) :=
 goL spec_BestChain_D spec_BestChain_H (vleave spec_BestChain_ir [.d (.one (.sl T_Deed)),.d (.one .str),.d (.one .str)] [.tok (.one (.int .i64)),.d (.one (.int .i64)),.d (.one (.int .i64))] [] []) [.c spec_BestChain_k0,.l spec_BestChain_k1,.e 0,.c spec_BestChain_k5]
  ⟨[(0,.sl T_Deed v0),(2,.str v2),(9,.view 9 0 r9.length),(10,.view 10 0 r10.length),(11,.int .i64 v11),(12,.int .i64 v12)],[(9,some (.sl (.one (.int .i64)) r9)),(10,some (.sl (.one (.int .i64)) r10))]⟩
noncomputable def spec_BestChain_p2  (v11 : Int) (v14 : Int) (r9 : List Int) (r10 : List Int) (r13 : List Int) : Option (List Int × Int × Int) :=
 goL spec_BestChain_D spec_BestChain_H (vleave spec_BestChain_ir [.d (.one (.sl T_Deed)),.d (.one .str),.d (.one .str)] [.tok (.one (.int .i64)),.d (.one (.int .i64)),.d (.one (.int .i64))] [] []) [.c spec_BestChain_k2,.l spec_BestChain_k3,.e 2,.c spec_BestChain_k4]
  ⟨[(9,.view 9 0 r9.length),(10,.view 10 0 r10.length),(11,.int .i64 v11),(13,.view 13 0 r13.length),(14,.int .i64 v14)],[(9,some (.sl (.one (.int .i64)) r9)),(10,some (.sl (.one (.int .i64)) r10)),(13,some (.sl (.one (.int .i64)) r13))]⟩
theorem spec_BestChain_eq (a0 : List T_Deed.ty) (a1 : List UInt8) (a2 : List UInt8) : spec_BestChain a0 a1 a2 =
 (spec_l19Ok a0).bind fun x1 =>
  if (!x1) then
   some ([],0,1)
  else
   (spec_l01Name a1).bind fun x2 =>
    if (!x2) then
     some ([],0,1)
    else
     (spec_l01Name a2).bind fun x3 =>
      if (!x3) then
       some ([],0,1)
      else
       spec_BestChain_p0 a0 a1 a2 :=
 (mk_f _ _ _ _ _ _ _ 4000).trans (by kernel_rfl)
theorem spec_BestChain_p0_eq  (v0 : List T_Deed.ty) (v1 : List UInt8) (v2 : List UInt8) : spec_BestChain_p0 v0 v1 v2 =
 (spec_l19Best v0 v1).bind fun x1 =>
  spec_BestChain_p1 v0 v2 (-1) 0 x1.1 x1.2 :=
 (goL_dn _ _ _ 4000 _ _).trans (by kernel_rfl)
theorem spec_BestChain_p1_eq  (v0 : List T_Deed.ty) (v2 : List UInt8) (v11 : Int) (v12 : Int) (r9 : List Int) (r10 : List Int) : spec_BestChain_p1 v0 v2 v11 v12 r9 r10 =
 if decide (v12 < (v0.length : Int)) then
  if decide (0 ≤ v12) then
   (v0[v12.toNat]?).bind fun x1 =>
    if (x1.2.1 == v2) then
     if decide (0 ≤ v12) && decide (v12 < (r9.length : Int)) then
      (r9[v12.toNat]?).bind fun x2 =>
       if decide (x2 ≥ 0) then
        if decide (v11 < 0) then
         spec_BestChain_p1 v0 v2 v12 (IntKind.i64.wrap (v12 + 1)) r9 r10
        else
         if decide (0 ≤ v12) && decide (v12 < (r9.length : Int)) then
          (r9[v12.toNat]?).bind fun x3 =>
           if decide (0 ≤ v11) && decide (v11 < (r9.length : Int)) then
            (r9[v11.toNat]?).bind fun x4 =>
             if decide (x3 < x4) then
              spec_BestChain_p1 v0 v2 v12 (IntKind.i64.wrap (v12 + 1)) r9 r10
             else
              spec_BestChain_p1 v0 v2 v11 (IntKind.i64.wrap (v12 + 1)) r9 r10
           else
            none
         else
          none
       else
        spec_BestChain_p1 v0 v2 v11 (IntKind.i64.wrap (v12 + 1)) r9 r10
     else
      none
    else
     spec_BestChain_p1 v0 v2 v11 (IntKind.i64.wrap (v12 + 1)) r9 r10
  else
   none
 else
  if decide (v11 < 0) then
   some ([],0,3)
  else
   spec_BestChain_p2 v11 v11 r9 r10 [] :=
 (goL_dn _ _ _ 4000 _ _).trans (by kernel_rfl)
theorem spec_BestChain_p2_eq  (v11 : Int) (v14 : Int) (r9 : List Int) (r10 : List Int) (r13 : List Int) : spec_BestChain_p2 v11 v14 r9 r10 r13 =
 if decide (v14 ≥ 0) then
  if decide (1 + (r13.take r13.length).length < lim) then
   if decide (0 ≤ v14) && decide (v14 < (r10.length : Int)) then
    (r10[v14.toNat]?).bind fun x1 =>
     spec_BestChain_p2 v11 x1 r9 r10 ([v14] ++ (r13.take r13.length))
   else
    none
  else
   none
 else
  if decide (0 ≤ v11) && decide (v11 < (r9.length : Int)) then
   (r9[v11.toNat]?).bind fun x2 =>
    some ((r13.take r13.length),x2,0)
  else
   none :=
 (goL_dn _ _ _ 4000 _ _).trans (by kernel_rfl)
def laws_r8Wide_ir : Fn := { np := 3,io := [],res := [.t 6],own := [false],body :=
 (.seq (.reg false [.V 6 (.asg (.c (.int .i64 0)))] [0,1,2] []) (.seq (.reg false [.V 7 (.mv (.t 0)),.V 8 (.mv (.t 1)),.V 9 (.call (.c (.fn 151 [])) [.t 7,.t 8,.c (.int .i64 256)]),.V 10 (.bin .mul (.c (.int .i64 256)) (.t 9)),.V 11 (.mv (.t 0)),.V 12 (.mv (.t 1)),.V 13 (.bin .add (.t 12) (.c (.int .i64 1))),.V 14 (.call (.c (.fn 151 [])) [.t 11,.t 13,.c (.int .i64 256)]),.V 15 (.bin .add (.t 10) (.t 14)),.V 16 (.mv (.t 2)),.V 17 (.bin .rem (.t 15) (.t 16)),.V 6 (.asg (.t 17))] [6] []) .ret)) }
noncomputable def laws_r8Wide_D : List (Nat × Callee) := [(151,laws_r8At_c)]
def laws_r8Wide_H : List (Nat × ET) := [(7,(.one (.int .u8))),(11,(.one (.int .u8)))]
noncomputable def laws_r8Wide_c : Callee := mkCallee laws_r8Wide_D laws_r8Wide_H laws_r8Wide_ir [.d (.one (.sl (.one (.int .u8)))),.d (.one (.int .i64)),.d (.one (.int .i64))] [.d (.one (.int .i64))] []
noncomputable def laws_r8Wide (a0 : List Int) (a1 : Int) (a2 : Int) : Option (Int) := laws_r8Wide_c.f (a0,a1,a2,())
theorem laws_r8Wide_eq (a0 : List Int) (a1 : Int) (a2 : Int) : laws_r8Wide a0 a1 a2 =
 (laws_r8At a0 a1 256).bind fun x1 =>
  (laws_r8At a0 (IntKind.i64.wrap (a1 + 1)) 256).bind fun x2 =>
   if decide (a2 = 0) then
    none
   else
    some ((IntKind.i64.wrap ((IntKind.i64.wrap (256 * x1)) + x2)).tmod a2) :=
 (mk_f _ _ _ _ _ _ _ 4000).trans (by kernel_rfl)
def impl_OwnerIn_k0 : C :=
 .seq (.reg false [.V 34 (.bin .lss (.t 33) (.t 32))] [0,2,8,31,32,33,34] []) (.seq (.cond (.t 34) .skip (.exit 1)) (.seq (.block 2 (.seq (.reg false [.V 35 (.ia 1 (.t 31) (.t 33)),.V 36 (.ld none (.t 35)),.V 10 (.asg (.t 36))] [0,2,8,10,31,32,33] []) (.seq (.reg false [.V 37 (.mv (.t 0)),.V 38 (.mv (.t 10)),.V 39 (.ia 4 (.t 37) (.t 38)),.V 40 (.fa 2 (.t 39)),.V 41 (.ld none (.t 40)),.V 42 (.mv (.t 2)),.V 43 (.bin .leq (.t 41) (.t 42))] [0,2,8,10,31,32,33,43] []) (.cond (.t 43) (.reg false [.V 44 (.mv (.t 0)),.V 45 (.mv (.t 10)),.V 46 (.ia 4 (.t 44) (.t 45)),.V 47 (.fa 1 (.t 46)),.V 48 (.ld none (.t 47)),.V 8 (.asg (.t 48))] [0,2,8,31,32,33] []) .skip)))) (.reg false [.V 49 (.bin .add (.t 33) (.c (.int .i64 1))),.V 33 (.mv (.t 49))] [0,2,8,31,32,33] [])))
def impl_OwnerIn_k1 : C :=
 .norm [0,2,8,31,32,33] [] impl_OwnerIn_k0
def impl_OwnerIn_k2 : C :=
 .seq (.reg false [.V 50 (.mv (.t 8)),.V 6 (.asg (.t 50)),.V 7 (.asg (.c (.int .i64 0)))] [6,7] []) .ret
def impl_OwnerIn_ir : Fn := { np := 3,io := [],res := [.t 6,.t 7],own := [false,false],body :=
 (.seq (.reg false [.V 6 (.asg (.c (.str []))),.V 7 (.asg (.c (.int .i64 0)))] [0,1,2] []) (.seq (.block 0 (.seq (.reg false [.V 12 (.mv (.t 0)),.V 13 (.call (.c (.fn 154 [])) [.t 12]),.V 14 (.un .not (.t 13)),.V 11 (.asg (.t 14))] [0,1,2,11] []) (.cond (.t 11) (.seq (.reg false [.V 6 (.asg (.c (.str []))),.V 7 (.asg (.c (.int .i64 1)))] [6,7] []) .ret) (.seq (.reg false [.V 16 (.mv (.t 2)),.V 17 (.call (.c (.fn 531 [])) [.t 16]),.V 18 (.un .not (.t 17)),.V 15 (.asg (.t 18))] [0,1,2,15] []) (.cond (.t 15) (.seq (.reg false [.V 6 (.asg (.c (.str []))),.V 7 (.asg (.c (.int .i64 2)))] [6,7] []) .ret) (.seq (.reg false [.V 20 (.mv (.t 0)),.V 21 (.mv (.t 1)),.V 22 (.call (.c (.fn 527 [])) [.t 20,.t 21]),.V 23 (.un .not (.t 22)),.V 19 (.asg (.t 23))] [0,1,2,19] []) (.cond (.t 19) (.seq (.reg false [.V 6 (.asg (.c (.str []))),.V 7 (.asg (.c (.int .i64 7)))] [6,7] []) .ret) .skip))))))) (.seq (.reg false [.V 24 (.mv (.t 0)),.V 25 (.mv (.t 1)),.V 26 (.ia 1 (.t 25) (.c (.int .i64 0))),.V 27 (.ld none (.t 26)),.V 28 (.ia 4 (.t 24) (.t 27)),.V 29 (.fa 0 (.t 28)),.V 30 (.ld none (.t 29)),.V 8 (.asg (.t 30))] [0,1,2,8] []) (.seq (.seq (.reg false [.V 31 (.mv (.t 1)),.V 32 (.len (.t 31)),.V 33 (.mv (.c (.int .i64 0)))] [0,2,8,31,32,33] []) (.block 1 (.loop impl_OwnerIn_k1))) impl_OwnerIn_k2)))) }
noncomputable def impl_OwnerIn_D : List (Nat × Callee) := [(154,impl_ValidDeeds_c),(527,impl_isChain_c),(531,impl_isYear_c)]
def impl_OwnerIn_H : List (Nat × ET) := [(12,T_Deed),(20,T_Deed),(21,(.one (.int .i64))),(24,T_Deed),(25,(.one (.int .i64))),(31,(.one (.int .i64))),(37,T_Deed),(44,T_Deed)]
noncomputable def impl_OwnerIn_c : Callee := mkCallee impl_OwnerIn_D impl_OwnerIn_H impl_OwnerIn_ir [.d (.one (.sl T_Deed)),.d (.one (.sl (.one (.int .i64)))),.d (.one (.int .i64))] [.d (.one .str),.d (.one (.int .i64))] []
noncomputable def impl_OwnerIn (a0 : List T_Deed.ty) (a1 : List Int) (a2 : Int) : Option (List UInt8 × Int) := impl_OwnerIn_c.f (a0,a1,a2,())
noncomputable def impl_OwnerIn_p0  (v0 : List T_Deed.ty) (v2 : Int) (v8 : List UInt8) (v31 : List Int) (v32 : Int) (v33 : Int) : Option (List UInt8 × Int) :=
 goL impl_OwnerIn_D impl_OwnerIn_H (vleave impl_OwnerIn_ir [.d (.one (.sl T_Deed)),.d (.one (.sl (.one (.int .i64)))),.d (.one (.int .i64))] [.d (.one .str),.d (.one (.int .i64))] [] []) [.c impl_OwnerIn_k0,.l impl_OwnerIn_k1,.e 1,.c impl_OwnerIn_k2]
  ⟨[(0,.sl T_Deed v0),(2,.int .i64 v2),(8,.str v8),(31,.sl (.one (.int .i64)) v31),(32,.int .i64 v32),(33,.int .i64 v33)],[]⟩
theorem impl_OwnerIn_eq (a0 : List T_Deed.ty) (a1 : List Int) (a2 : Int) : impl_OwnerIn a0 a1 a2 =
 (impl_ValidDeeds a0).bind fun x1 =>
  if (!x1) then
   some ([],1)
  else
   (impl_isYear a2).bind fun x2 =>
    if (!x2) then
     some ([],2)
    else
     (impl_isChain a0 a1).bind fun x3 =>
      if (!x3) then
       some ([],7)
      else
       (a1[0]?).bind fun x4 =>
        if decide (0 ≤ x4) then
         (a0[x4.toNat]?).bind fun x5 =>
          impl_OwnerIn_p0 a0 a2 x5.1 a1 (a1.length : Int) 0
        else
         none :=
 (mk_f _ _ _ _ _ _ _ 4000).trans (by kernel_rfl)
theorem impl_OwnerIn_p0_eq  (v0 : List T_Deed.ty) (v2 : Int) (v8 : List UInt8) (v31 : List Int) (v32 : Int) (v33 : Int) : impl_OwnerIn_p0 v0 v2 v8 v31 v32 v33 =
 if decide (v33 < v32) then
  if decide (0 ≤ v33) then
   (v31[v33.toNat]?).bind fun x1 =>
    if decide (0 ≤ x1) then
     (v0[x1.toNat]?).bind fun x2 =>
      if decide (x2.2.2.1 ≤ v2) then
       if decide (0 ≤ x1) then
        (v0[x1.toNat]?).bind fun x3 =>
         impl_OwnerIn_p0 v0 v2 x3.2.1 v31 v32 (IntKind.i64.wrap (v33 + 1))
       else
        none
      else
       impl_OwnerIn_p0 v0 v2 v8 v31 v32 (IntKind.i64.wrap (v33 + 1))
    else
     none
  else
   none
 else
  some (v8,0) :=
 (goL_dn _ _ _ 4000 _ _).trans (by kernel_rfl)
def impl_LongestHold_k0 : C :=
 .seq (.seq (.reg false [.V 24 (.mv (.t 9)),.V 25 (.mv (.t 1)),.V 26 (.len (.t 25)),.V 27 (.bin .lss (.t 24) (.t 26))] [0,1,7,8,9,27] []) (.cond (.t 27) .skip (.exit 1))) (.seq (.block 2 (.seq (.reg true [.V 30 (.mv (.t 0)),.V 31 (.mv (.t 1)),.V 32 (.mv (.t 9)),.V 33 (.ia 1 (.t 31) (.t 32)),.V 34 (.ld none (.t 33)),.V 35 (.ia 4 (.t 30) (.t 34)),.V 36 (.fa 2 (.t 35)),.V 37 (.ld none (.t 36)),.V 38 (.mv (.t 0)),.V 39 (.mv (.t 1)),.V 40 (.mv (.t 9)),.V 41 (.bin .sub (.t 40) (.c (.int .i64 1))),.V 42 (.ia 1 (.t 39) (.t 41)),.V 43 (.ld none (.t 42)),.V 44 (.ia 4 (.t 38) (.t 43)),.V 45 (.fa 2 (.t 44)),.V 46 (.ld none (.t 45)),.V 47 (.bin .sub (.t 37) (.t 46)),.V 10 (.asg (.t 47))] [0,1,7,8,9,10] []) (.seq (.reg false [.V 48 (.mv (.t 10)),.V 49 (.mv (.t 8)),.V 50 (.bin .gtr (.t 48) (.t 49))] [0,1,7,8,9,10,50] []) (.cond (.t 50) (.reg false [.V 51 (.mv (.t 9)),.V 52 (.mv (.t 10)),.V 7 (.asg (.t 51)),.V 8 (.asg (.t 52))] [0,1,7,8,9] []) .skip)))) (.reg false [.V 28 (.mv (.t 9)),.V 29 (.bin .add (.t 28) (.c (.int .i64 1))),.V 9 (.asg (.t 29))] [0,1,7,8,9] []))
def impl_LongestHold_k1 : C :=
 .norm [0,1,7,8,9] [] impl_LongestHold_k0
def impl_LongestHold_k2 : C :=
 .seq (.reg false [.V 53 (.mv (.t 7)),.V 54 (.mv (.t 8)),.V 4 (.asg (.t 53)),.V 5 (.asg (.t 54)),.V 6 (.asg (.c (.int .i64 0)))] [4,5,6] []) .ret
def impl_LongestHold_ir : Fn := { np := 2,io := [],res := [.t 4,.t 5,.t 6],own := [false,false,false],body :=
 (.seq (.reg false [.V 4 (.asg (.c (.int .i64 0))),.V 5 (.asg (.c (.int .i64 0))),.V 6 (.asg (.c (.int .i64 0)))] [0,1] []) (.seq (.block 0 (.seq (.reg false [.V 12 (.mv (.t 0)),.V 13 (.call (.c (.fn 154 [])) [.t 12]),.V 14 (.un .not (.t 13)),.V 11 (.asg (.t 14))] [0,1,11] []) (.cond (.t 11) (.seq (.reg false [.V 4 (.asg (.c (.int .i64 0))),.V 5 (.asg (.c (.int .i64 0))),.V 6 (.asg (.c (.int .i64 1)))] [4,5,6] []) .ret) (.seq (.reg false [.V 16 (.mv (.t 0)),.V 17 (.mv (.t 1)),.V 18 (.call (.c (.fn 527 [])) [.t 16,.t 17]),.V 19 (.un .not (.t 18)),.V 15 (.asg (.t 19))] [0,1,15] []) (.cond (.t 15) (.seq (.reg false [.V 4 (.asg (.c (.int .i64 0))),.V 5 (.asg (.c (.int .i64 0))),.V 6 (.asg (.c (.int .i64 7)))] [4,5,6] []) .ret) (.seq (.reg false [.V 21 (.mv (.t 1)),.V 22 (.len (.t 21)),.V 23 (.bin .eql (.t 22) (.c (.int .i64 1))),.V 20 (.asg (.t 23))] [0,1,20] []) (.cond (.t 20) (.seq (.reg false [.V 4 (.asg (.c (.int .i64 0))),.V 5 (.asg (.c (.int .i64 0))),.V 6 (.asg (.c (.int .i64 3)))] [4,5,6] []) .ret) .skip))))))) (.seq (.reg false [.V 7 (.asg (.c (.int .i64 0))),.V 8 (.asg (.c (.int .i64 (-1))))] [0,1,7,8] []) (.seq (.seq (.reg false [.V 9 (.asg (.c (.int .i64 1)))] [0,1,7,8,9] []) (.block 1 (.loop impl_LongestHold_k1))) impl_LongestHold_k2)))) }
noncomputable def impl_LongestHold_D : List (Nat × Callee) := [(154,impl_ValidDeeds_c),(527,impl_isChain_c)]
def impl_LongestHold_H : List (Nat × ET) := [(12,T_Deed),(16,T_Deed),(17,(.one (.int .i64))),(21,(.one (.int .i64))),(25,(.one (.int .i64))),(30,T_Deed),(31,(.one (.int .i64))),(38,T_Deed),(39,(.one (.int .i64)))]
noncomputable def impl_LongestHold_c : Callee := mkCallee impl_LongestHold_D impl_LongestHold_H impl_LongestHold_ir [.d (.one (.sl T_Deed)),.d (.one (.sl (.one (.int .i64))))] [.d (.one (.int .i64)),.d (.one (.int .i64)),.d (.one (.int .i64))] []
noncomputable def impl_LongestHold (a0 : List T_Deed.ty) (a1 : List Int) : Option (Int × Int × Int) := impl_LongestHold_c.f (a0,a1,())
noncomputable def impl_LongestHold_p0  (v0 : List T_Deed.ty) (v1 : List Int) (v7 : Int) (v8 : Int) (v9 : Int) : Option (Int × Int × Int) :=
 goL impl_LongestHold_D impl_LongestHold_H (vleave impl_LongestHold_ir [.d (.one (.sl T_Deed)),.d (.one (.sl (.one (.int .i64))))] [.d (.one (.int .i64)),.d (.one (.int .i64)),.d (.one (.int .i64))] [] []) [.c impl_LongestHold_k0,.l impl_LongestHold_k1,.e 1,.c impl_LongestHold_k2]
  ⟨[(0,.sl T_Deed v0),(1,.sl (.one (.int .i64)) v1),(7,.int .i64 v7),(8,.int .i64 v8),(9,.int .i64 v9)],[]⟩
theorem impl_LongestHold_eq (a0 : List T_Deed.ty) (a1 : List Int) : impl_LongestHold a0 a1 =
 (impl_ValidDeeds a0).bind fun x1 =>
  if (!x1) then
   some (0,0,1)
  else
   (impl_isChain a0 a1).bind fun x2 =>
    if (!x2) then
     some (0,0,7)
    else
     if ((a1.length : Int) == 1) then
      some (0,0,3)
     else
      impl_LongestHold_p0 a0 a1 0 (-1) 1 :=
 (mk_f _ _ _ _ _ _ _ 4000).trans (by kernel_rfl)
theorem impl_LongestHold_p0_eq  (v0 : List T_Deed.ty) (v1 : List Int) (v7 : Int) (v8 : Int) (v9 : Int) : impl_LongestHold_p0 v0 v1 v7 v8 v9 =
 if decide (v9 < (v1.length : Int)) then
  if decide (0 ≤ v9) then
   (v1[v9.toNat]?).bind fun x1 =>
    if decide (0 ≤ x1) then
     (v0[x1.toNat]?).bind fun x2 =>
      if decide (0 ≤ IntKind.i64.wrap (v9 - 1)) then
       (v1[(IntKind.i64.wrap (v9 - 1)).toNat]?).bind fun x3 =>
        if decide (0 ≤ x3) then
         (v0[x3.toNat]?).bind fun x4 =>
          if decide (IntKind.i64.wrap (x2.2.2.1 - x4.2.2.1) > v8) then
           impl_LongestHold_p0 v0 v1 v9 (IntKind.i64.wrap (x2.2.2.1 - x4.2.2.1)) (IntKind.i64.wrap (v9 + 1))
          else
           impl_LongestHold_p0 v0 v1 v7 v8 (IntKind.i64.wrap (v9 + 1))
        else
         none
      else
       none
    else
     none
  else
   none
 else
  some (v7,v8,0) :=
 (goL_dn _ _ _ 4000 _ _).trans (by kernel_rfl)
def impl_comesBack_1_ir : Fn := { np := 2,io := [],res := [.t 3],own := [false],body :=
 (.seq (.reg false [.W 2 (.box 4 (.t 0)),.V 3 (.asg (.c (.bool false)))] [1,2] [2]) (.seq (.reg false [.V 4 (.fa 1 (.t 2)),.V 5 (.ld none (.t 4)),.V 6 (.ld none (.t 1)),.V 7 (.bin .eql (.t 5) (.t 6)),.V 3 (.asg (.t 7))] [3] []) .ret)) }
noncomputable def impl_comesBack_1_D : List (Nat × Callee) := []
def impl_comesBack_1_H : List (Nat × ET) := []
noncomputable def impl_comesBack_1_c : Callee := mkCallee impl_comesBack_1_D impl_comesBack_1_H impl_comesBack_1_ir [.d T_Deed,.p (.one .str)] [.d (.one .bool)] []
noncomputable def impl_comesBack_1 (a0 : T_Deed.ty) (a1 : List UInt8) : Option (Bool) := impl_comesBack_1_c.f (a0,a1,())
theorem impl_comesBack_1_eq (a0 : T_Deed.ty) (a1 : List UInt8) : impl_comesBack_1 a0 a1 =
 some (a0.2.1 == a1) :=
 (mk_f _ _ _ _ _ _ _ 4000).trans (by kernel_rfl)
def slices_IndexFunc___impl_Deed_impl_Deed__impl_comesBack_1_k0 : C :=
 .seq (.reg false [.V 9 (.bin .lss (.t 8) (.t 7))] [0,1,7,8,9] []) (.seq (.cond (.t 9) .skip (.exit 0)) (.seq (.block 1 (.seq (.reg false [.V 10 (.mv (.t 8)),.V 5 (.asg (.t 10))] [0,1,5,7,8] []) (.seq (.reg false [.V 11 (.mv (.t 1)),.V 12 (.mv (.t 0)),.V 13 (.mv (.t 5)),.V 14 (.ia 4 (.t 12) (.t 13)),.V 15 (.ld (some 4) (.t 14)),.V 16 (.call (.t 11) [.t 15])] [0,1,5,7,8,16] []) (.cond (.t 16) (.seq (.reg false [.V 17 (.mv (.t 5)),.V 4 (.asg (.t 17))] [4] []) .ret) .skip)))) (.reg false [.V 18 (.bin .add (.t 8) (.c (.int .i64 1))),.V 8 (.mv (.t 18))] [0,1,7,8] [])))
def slices_IndexFunc___impl_Deed_impl_Deed__impl_comesBack_1_k1 : C :=
 .norm [0,1,7,8] [] slices_IndexFunc___impl_Deed_impl_Deed__impl_comesBack_1_k0
def slices_IndexFunc___impl_Deed_impl_Deed__impl_comesBack_1_k2 : C :=
 .seq (.reg false [.V 4 (.asg (.c (.int .i64 (-1))))] [4] []) .ret
def slices_IndexFunc___impl_Deed_impl_Deed__impl_comesBack_1_ir : Fn := { np := 2,io := [],res := [.t 4],own := [false],body :=
 (.seq (.reg false [.V 4 (.asg (.c (.int .i64 0)))] [0,1] []) (.seq (.seq (.reg false [.V 6 (.mv (.t 0)),.V 7 (.len (.t 6)),.V 8 (.mv (.c (.int .i64 0)))] [0,1,7,8] []) (.block 0 (.loop slices_IndexFunc___impl_Deed_impl_Deed__impl_comesBack_1_k1))) slices_IndexFunc___impl_Deed_impl_Deed__impl_comesBack_1_k2)) }
noncomputable def slices_IndexFunc___impl_Deed_impl_Deed__impl_comesBack_1_D : List (Nat × Callee) := [(866,impl_comesBack_1_c)]
def slices_IndexFunc___impl_Deed_impl_Deed__impl_comesBack_1_H : List (Nat × ET) := [(6,T_Deed),(12,T_Deed)]
noncomputable def slices_IndexFunc___impl_Deed_impl_Deed__impl_comesBack_1_c : Callee := mkCallee slices_IndexFunc___impl_Deed_impl_Deed__impl_comesBack_1_D slices_IndexFunc___impl_Deed_impl_Deed__impl_comesBack_1_H slices_IndexFunc___impl_Deed_impl_Deed__impl_comesBack_1_ir [.d (.one (.sl T_Deed)),.fn 866 [(.one .str)]] [.d (.one (.int .i64))] []
noncomputable def slices_IndexFunc___impl_Deed_impl_Deed__impl_comesBack_1 (a0 : List T_Deed.ty) (a1 : (List UInt8) × Unit) : Option (Int) := slices_IndexFunc___impl_Deed_impl_Deed__impl_comesBack_1_c.f (a0,a1,())
noncomputable def slices_IndexFunc___impl_Deed_impl_Deed__impl_comesBack_1_p0  (v0 : List T_Deed.ty) (v1_0_0 : List UInt8) (v7 : Int) (v8 : Int) : Option (Int) :=
 goL slices_IndexFunc___impl_Deed_impl_Deed__impl_comesBack_1_D slices_IndexFunc___impl_Deed_impl_Deed__impl_comesBack_1_H (vleave slices_IndexFunc___impl_Deed_impl_Deed__impl_comesBack_1_ir [.d (.one (.sl T_Deed)),.fn 866 [(.one .str)]] [.d (.one (.int .i64))] [] []) [.c slices_IndexFunc___impl_Deed_impl_Deed__impl_comesBack_1_k0,.l slices_IndexFunc___impl_Deed_impl_Deed__impl_comesBack_1_k1,.e 0,.c slices_IndexFunc___impl_Deed_impl_Deed__impl_comesBack_1_k2]
  ⟨[(0,.sl T_Deed v0),(1,.fn 866 [.ptr [.str v1_0_0] 0]),(7,.int .i64 v7),(8,.int .i64 v8)],[]⟩
theorem slices_IndexFunc___impl_Deed_impl_Deed__impl_comesBack_1_eq (a0 : List T_Deed.ty) (a1 : (List UInt8) × Unit) : slices_IndexFunc___impl_Deed_impl_Deed__impl_comesBack_1 a0 a1 =
 slices_IndexFunc___impl_Deed_impl_Deed__impl_comesBack_1_p0 a0 a1.1 (a0.length : Int) 0 :=
 (mk_f _ _ _ _ _ _ _ 4000).trans (by kernel_rfl)
theorem slices_IndexFunc___impl_Deed_impl_Deed__impl_comesBack_1_p0_eq  (v0 : List T_Deed.ty) (v1_0_0 : List UInt8) (v7 : Int) (v8 : Int) : slices_IndexFunc___impl_Deed_impl_Deed__impl_comesBack_1_p0 v0 v1_0_0 v7 v8 =
 if decide (v8 < v7) then
  if decide (0 ≤ v8) then
   (v0[v8.toNat]?).bind fun x1 =>
    (impl_comesBack_1 x1 v1_0_0).bind fun x2 =>
     if x2 then
      some v8
     else
      slices_IndexFunc___impl_Deed_impl_Deed__impl_comesBack_1_p0 v0 v1_0_0 v7 (IntKind.i64.wrap (v8 + 1))
  else
   none
 else
  some (-1) :=
 (goL_dn _ _ _ 4000 _ _).trans (by kernel_rfl)
def slices_ContainsFunc___impl_Deed_impl_Deed__impl_comesBack_1_ir : Fn := { np := 2,io := [],res := [.t 4],own := [false],body :=
 (.seq (.reg false [.V 4 (.asg (.c (.bool false)))] [0,1] []) (.seq (.reg false [.V 5 (.mv (.t 0)),.V 6 (.mv (.t 1)),.V 7 (.call (.c (.fn 1252 [])) [.t 5,.t 6]),.V 8 (.bin .geq (.t 7) (.c (.int .i64 0))),.V 4 (.asg (.t 8))] [4] []) .ret)) }
noncomputable def slices_ContainsFunc___impl_Deed_impl_Deed__impl_comesBack_1_D : List (Nat × Callee) := [(866,impl_comesBack_1_c),(1252,slices_IndexFunc___impl_Deed_impl_Deed__impl_comesBack_1_c)]
def slices_ContainsFunc___impl_Deed_impl_Deed__impl_comesBack_1_H : List (Nat × ET) := [(5,T_Deed)]
noncomputable def slices_ContainsFunc___impl_Deed_impl_Deed__impl_comesBack_1_c : Callee := mkCallee slices_ContainsFunc___impl_Deed_impl_Deed__impl_comesBack_1_D slices_ContainsFunc___impl_Deed_impl_Deed__impl_comesBack_1_H slices_ContainsFunc___impl_Deed_impl_Deed__impl_comesBack_1_ir [.d (.one (.sl T_Deed)),.fn 866 [(.one .str)]] [.d (.one .bool)] []
noncomputable def slices_ContainsFunc___impl_Deed_impl_Deed__impl_comesBack_1 (a0 : List T_Deed.ty) (a1 : (List UInt8) × Unit) : Option (Bool) := slices_ContainsFunc___impl_Deed_impl_Deed__impl_comesBack_1_c.f (a0,a1,())
theorem slices_ContainsFunc___impl_Deed_impl_Deed__impl_comesBack_1_eq (a0 : List T_Deed.ty) (a1 : (List UInt8) × Unit) : slices_ContainsFunc___impl_Deed_impl_Deed__impl_comesBack_1 a0 a1 =
 (slices_IndexFunc___impl_Deed_impl_Deed__impl_comesBack_1 a0 (a1.1,())).bind fun x1 =>
  some (decide (x1 ≥ 0)) :=
 (mk_f _ _ _ _ _ _ _ 4000).trans (by kernel_rfl)
def impl_comesBack_ir : Fn := { np := 2,io := [],res := [.t 4],own := [false],body :=
 (.seq (.reg false [.W 3 (.box 1 (.t 1)),.V 4 (.asg (.c (.bool false)))] [0,3] [3]) (.seq (.reg false [.V 5 (.mv (.t 0)),.V 6 (.mkf 866 [.t 3]),.V 7 (.call (.c (.fn 1253 [])) [.t 5,.t 6]),.V 4 (.asg (.t 7))] [4] []) .ret)) }
noncomputable def impl_comesBack_D : List (Nat × Callee) := [(1253,slices_ContainsFunc___impl_Deed_impl_Deed__impl_comesBack_1_c)]
def impl_comesBack_H : List (Nat × ET) := [(5,T_Deed)]
noncomputable def impl_comesBack_c : Callee := mkCallee impl_comesBack_D impl_comesBack_H impl_comesBack_ir [.d (.one (.sl T_Deed)),.d (.one .str)] [.d (.one .bool)] []
noncomputable def impl_comesBack (a0 : List T_Deed.ty) (a1 : List UInt8) : Option (Bool) := impl_comesBack_c.f (a0,a1,())
theorem impl_comesBack_eq (a0 : List T_Deed.ty) (a1 : List UInt8) : impl_comesBack a0 a1 =
 (slices_ContainsFunc___impl_Deed_impl_Deed__impl_comesBack_1 a0 (a1,())).bind fun x1 =>
  some x1 :=
 (mk_f _ _ _ _ _ _ _ 4000).trans (by kernel_rfl)
def impl_RivalDeeds_k0 : C :=
 .reg false [.V 46 (.mv (.t 4)),.V 47 (.mv (.t 5)),.V 48 (.mv (.t 7)),.V 49 (.bsl 1 (.int .i64 0) 2 [(0,.t 47),(1,.t 48)]),.W 50 (.bsl 1 (.sl 1 []) 1 [(0,.t 49)]),.W 51 (.app 1 24 (.t 46) (.t 50)),.W 4 (.asg (.t 51))] [0,4,5,6,7,12,13,14] [4,6]
def impl_RivalDeeds_k1 : C :=
 .reg false [.V 25 (.mv (.t 7)),.V 26 (.bin .add (.t 25) (.c (.int .i64 1))),.V 7 (.asg (.t 26))] [0,4,5,6,7,12,13,14] [4,6]
def impl_RivalDeeds_k2 : C :=
 .seq (.seq (.reg false [.V 21 (.mv (.t 7)),.V 22 (.mv (.t 0)),.V 23 (.len (.t 22)),.V 24 (.bin .lss (.t 21) (.t 23))] [0,4,5,6,7,12,13,14,24] [4,6]) (.cond (.t 24) .skip (.exit 2))) (.seq (.block 3 (.seq (.reg true [.V 27 (.mv (.t 0)),.V 28 (.mv (.t 7)),.V 29 (.ia 4 (.t 27) (.t 28)),.V 30 (.fa 0 (.t 29)),.V 31 (.ld none (.t 30)),.V 32 (.fa 0 (.t 6)),.V 33 (.ld none (.t 32)),.V 34 (.bin .eql (.t 31) (.t 33)),.V 35 (.mv (.t 34)),.G 36 (.mv (.t 0)) 8 true,.G 37 (.mv (.t 5)) 8 true,.G 38 (.bin .add (.t 37) (.c (.int .i64 1))) 8 true,.G 39 (.mv (.t 7)) 8 true,.G 40 (.slc 4 (.t 36) (some (.t 38)) (some (.t 39))) 8 true,.G 41 (.fa 0 (.t 6)) 8 true,.G 42 (.ld none (.t 41)) 8 true,.G 43 (.call (.c (.fn 532 [])) [.t 40,.t 42]) 8 true,.G 44 (.un .not (.t 43)) 8 true,.V 45 (.pick (.t 35) (.t 44) (.c (.bool false)))] [0,4,5,6,7,12,13,14,45] [4,6]) (.cond (.t 45) (.norm [0,4,5,6,7,12,13,14] [4,6] impl_RivalDeeds_k0) .skip))) impl_RivalDeeds_k1)
def impl_RivalDeeds_k3 : C :=
 .norm [0,4,5,6,7,12,13,14] [4,6] impl_RivalDeeds_k2
def impl_RivalDeeds_k4 : C :=
 .reg false [.V 52 (.bin .add (.t 14) (.c (.int .i64 1))),.V 14 (.mv (.t 52))] [0,4,12,13,14] [4]
def impl_RivalDeeds_k5 : C :=
 .seq (.reg false [.V 15 (.bin .lss (.t 14) (.t 13))] [0,4,12,13,14,15] [4]) (.seq (.cond (.t 15) .skip (.exit 0)) (.seq (.block 1 (.seq (.reg false [.V 16 (.mv (.t 14)),.V 17 (.ia 4 (.t 12) (.t 14)),.V 18 (.ld (some 4) (.t 17)),.W 6 (.alloc 4 (.agg [.str [],.str [],.int .i64 0,.int .i64 0])),.V 5 (.asg (.t 16)),⟨none,true,.sto 4 (.t 6) (.t 18),none,false,[]⟩] [0,4,5,6,12,13,14] [4,6]) (.seq (.reg false [.V 19 (.mv (.t 5)),.V 20 (.bin .add (.t 19) (.c (.int .i64 1))),.V 7 (.asg (.t 20))] [0,4,5,6,7,12,13,14] [4,6]) (.block 2 (.loop impl_RivalDeeds_k3))))) impl_RivalDeeds_k4))
def impl_RivalDeeds_k6 : C :=
 .norm [0,4,12,13,14] [4] impl_RivalDeeds_k5
def impl_RivalDeeds_k7 : C :=
 .seq (.seq (.reg false [.V 53 (.mv (.t 4)),.V 54 (.len (.t 53)),.V 55 (.call (.c (.fn 21 [])) [.t 54,.c (.int .i64 64)]),.V 56 (.un .not (.t 55))] [4,56] [4]) (.cond (.t 56) (.seq (.reg false [.W 2 (.asg (.c (.nils 1))),.V 3 (.asg (.c (.int .i64 5)))] [2,3] [2,4]) .ret) .skip)) (.seq (.reg false [.V 57 (.mv (.t 4)),.W 2 (.asg (.t 57)),.V 3 (.asg (.c (.int .i64 0)))] [2,3] [2,4]) .ret)
def impl_RivalDeeds_ir : Fn := { np := 1,io := [],res := [.t 2,.t 3],own := [false,false],body :=
 (.seq (.reg false [.W 2 (.asg (.c (.nils 1))),.V 3 (.asg (.c (.int .i64 0)))] [0] []) (.seq (.seq (.reg false [.V 8 (.mv (.t 0)),.V 9 (.call (.c (.fn 154 [])) [.t 8]),.V 10 (.un .not (.t 9))] [0,10] []) (.cond (.t 10) (.seq (.reg false [.W 2 (.asg (.c (.nils 1))),.V 3 (.asg (.c (.int .i64 1)))] [2,3] [2,4]) .ret) .skip)) (.seq (.reg false [.V 11 (.bsl 1 (.sl 1 []) 0 []),.W 4 (.asg (.t 11))] [0,4] [4]) (.seq (.seq (.reg false [.V 12 (.mv (.t 0)),.V 13 (.len (.t 12)),.V 14 (.mv (.c (.int .i64 0)))] [0,4,12,13,14] [4]) (.block 0 (.loop impl_RivalDeeds_k6))) impl_RivalDeeds_k7)))) }
noncomputable def impl_RivalDeeds_D : List (Nat × Callee) := [(21,impl_few_c),(154,impl_ValidDeeds_c),(532,impl_comesBack_c)]
def impl_RivalDeeds_H : List (Nat × ET) := [(2,(.one (.sl (.one (.int .i64))))),(4,(.one (.sl (.one (.int .i64))))),(8,T_Deed),(11,(.one (.sl (.one (.int .i64))))),(12,T_Deed),(22,T_Deed),(27,T_Deed),(36,T_Deed),(40,T_Deed),(46,(.one (.sl (.one (.int .i64))))),(49,(.one (.int .i64))),(50,(.one (.sl (.one (.int .i64))))),(51,(.one (.sl (.one (.int .i64))))),(53,(.one (.sl (.one (.int .i64))))),(57,(.one (.sl (.one (.int .i64)))))]
noncomputable def impl_RivalDeeds_c : Callee := mkCallee impl_RivalDeeds_D impl_RivalDeeds_H impl_RivalDeeds_ir [.d (.one (.sl T_Deed))] [.d (.one (.sl (.one (.sl (.one (.int .i64)))))),.d (.one (.int .i64))] []
noncomputable def impl_RivalDeeds (a0 : List T_Deed.ty) : Option (List (List Int) × Int) := impl_RivalDeeds_c.f (a0,())
noncomputable def impl_RivalDeeds_p0  (v0 : List T_Deed.ty) (v12 : List T_Deed.ty) (v13 : Int) (v14 : Int) (r4 : List (List Int)) : Option (List (List Int) × Int) :=
 goL impl_RivalDeeds_D impl_RivalDeeds_H (vleave impl_RivalDeeds_ir [.d (.one (.sl T_Deed))] [.d (.one (.sl (.one (.sl (.one (.int .i64)))))),.d (.one (.int .i64))] [] []) [.c impl_RivalDeeds_k5,.l impl_RivalDeeds_k6,.e 0,.c impl_RivalDeeds_k7]
  ⟨[(0,.sl T_Deed v0),(4,.view 4 0 r4.length),(12,.sl T_Deed v12),(13,.int .i64 v13),(14,.int .i64 v14)],[(4,some (.sl (.one (.sl (.one (.int .i64)))) r4))]⟩
noncomputable def impl_RivalDeeds_p1  (v0 : List T_Deed.ty) (v5 : Int) (v7 : Int) (v12 : List T_Deed.ty) (v13 : Int) (v14 : Int) (r4 : List (List Int)) (r6_0 : List UInt8) (r6_1 : List UInt8) (r6_2 : Int) (r6_3 : Int) : Option (List (List Int) × Int) :=
 goL impl_RivalDeeds_D impl_RivalDeeds_H (vleave impl_RivalDeeds_ir [.d (.one (.sl T_Deed))] [.d (.one (.sl (.one (.sl (.one (.int .i64)))))),.d (.one (.int .i64))] [] []) [.c impl_RivalDeeds_k2,.l impl_RivalDeeds_k3,.e 2,.e 1,.c impl_RivalDeeds_k4,.l impl_RivalDeeds_k6,.e 0,.c impl_RivalDeeds_k7]
  ⟨[(0,.sl T_Deed v0),(4,.view 4 0 r4.length),(5,.int .i64 v5),(6,.loc 6 0 0),(7,.int .i64 v7),(12,.sl T_Deed v12),(13,.int .i64 v13),(14,.int .i64 v14)],[(4,some (.sl (.one (.sl (.one (.int .i64)))) r4)),(6,some (.var 4 (.agg [.str r6_0,.str r6_1,.int .i64 r6_2,.int .i64 r6_3])))]⟩
noncomputable def impl_RivalDeeds_p2  (v0 : List T_Deed.ty) (v5 : Int) (v7 : Int) (v12 : List T_Deed.ty) (v13 : Int) (v14 : Int) (r4 : List (List Int)) (r6_0 : List UInt8) (r6_1 : List UInt8) (r6_2 : Int) (r6_3 : Int) : Option (List (List Int) × Int) :=
 goL impl_RivalDeeds_D impl_RivalDeeds_H (vleave impl_RivalDeeds_ir [.d (.one (.sl T_Deed))] [.d (.one (.sl (.one (.sl (.one (.int .i64)))))),.d (.one (.int .i64))] [] []) [.c impl_RivalDeeds_k0,.e 3,.c impl_RivalDeeds_k1,.l impl_RivalDeeds_k3,.e 2,.e 1,.c impl_RivalDeeds_k4,.l impl_RivalDeeds_k6,.e 0,.c impl_RivalDeeds_k7]
  ⟨[(0,.sl T_Deed v0),(4,.view 4 0 r4.length),(5,.int .i64 v5),(6,.loc 6 0 0),(7,.int .i64 v7),(12,.sl T_Deed v12),(13,.int .i64 v13),(14,.int .i64 v14)],[(4,some (.sl (.one (.sl (.one (.int .i64)))) r4)),(6,some (.var 4 (.agg [.str r6_0,.str r6_1,.int .i64 r6_2,.int .i64 r6_3])))]⟩
theorem impl_RivalDeeds_eq (a0 : List T_Deed.ty) : impl_RivalDeeds a0 =
 (impl_ValidDeeds a0).bind fun x1 =>
  if (!x1) then
   some ([],1)
  else
   impl_RivalDeeds_p0 a0 a0 (a0.length : Int) 0 [] :=
 (mk_f _ _ _ _ _ _ _ 4000).trans (by kernel_rfl)
theorem impl_RivalDeeds_p0_eq  (v0 : List T_Deed.ty) (v12 : List T_Deed.ty) (v13 : Int) (v14 : Int) (r4 : List (List Int)) : impl_RivalDeeds_p0 v0 v12 v13 v14 r4 =
 if decide (v14 < v13) then
  if decide (0 ≤ v14) then
   (v12[v14.toNat]?).bind fun x1 =>
    impl_RivalDeeds_p1 v0 v14 (IntKind.i64.wrap (v14 + 1)) v12 v13 v14 r4 x1.1 x1.2.1 x1.2.2.1 x1.2.2.2.1
  else
   none
 else
  (impl_few (r4.length : Int) 64).bind fun x2 =>
   if (!x2) then
    some ([],5)
   else
    some ((r4.take r4.length),0) :=
 (goL_dn _ _ _ 4000 _ _).trans (by kernel_rfl)
theorem impl_RivalDeeds_p1_eq  (v0 : List T_Deed.ty) (v5 : Int) (v7 : Int) (v12 : List T_Deed.ty) (v13 : Int) (v14 : Int) (r4 : List (List Int)) (r6_0 : List UInt8) (r6_1 : List UInt8) (r6_2 : Int) (r6_3 : Int) : impl_RivalDeeds_p1 v0 v5 v7 v12 v13 v14 r4 r6_0 r6_1 r6_2 r6_3 =
 if decide (v7 < (v0.length : Int)) then
  if decide (0 ≤ v7) then
   (v0[v7.toNat]?).bind fun x1 =>
    if (x1.1 == r6_0) then
     if decide (0 ≤ IntKind.i64.wrap (v5 + 1)) && decide (IntKind.i64.wrap (v5 + 1) ≤ v7) && decide (v7 ≤ (v0.length : Int)) then
      (impl_comesBack ((v0.take v7.toNat).drop ((IntKind.i64.wrap (v5 + 1)).toNat)) r6_0).bind fun x2 =>
       if (!x2) then
        impl_RivalDeeds_p2 v0 v5 v7 v12 v13 v14 r4 r6_0 r6_1 r6_2 r6_3
       else
        impl_RivalDeeds_p1 v0 v5 (IntKind.i64.wrap (v7 + 1)) v12 v13 v14 r4 r6_0 r6_1 r6_2 r6_3
     else
      none
    else
     impl_RivalDeeds_p1 v0 v5 (IntKind.i64.wrap (v7 + 1)) v12 v13 v14 r4 r6_0 r6_1 r6_2 r6_3
  else
   none
 else
  impl_RivalDeeds_p0 v0 v12 v13 (IntKind.i64.wrap (v14 + 1)) r4 :=
 (goL_dn _ _ _ 4000 _ _).trans (by kernel_rfl)
theorem impl_RivalDeeds_p2_eq  (v0 : List T_Deed.ty) (v5 : Int) (v7 : Int) (v12 : List T_Deed.ty) (v13 : Int) (v14 : Int) (r4 : List (List Int)) (r6_0 : List UInt8) (r6_1 : List UInt8) (r6_2 : Int) (r6_3 : Int) : impl_RivalDeeds_p2 v0 v5 v7 v12 v13 v14 r4 r6_0 r6_1 r6_2 r6_3 =
 if decide (r4.length + 1 < lim) then
  impl_RivalDeeds_p1 v0 v5 (IntKind.i64.wrap (v7 + 1)) v12 v13 v14 ((r4.take r4.length) ++ [[v5,v7]]) r6_0 r6_1 r6_2 r6_3
 else
  none :=
 (goL_dn _ _ _ 4000 _ _).trans (by kernel_rfl)
def impl_FirstOwners_k0 : C :=
 .seq (.reg false [.V 14 (.bin .lss (.t 13) (.t 12))] [0,4,11,12,13,14] [4]) (.seq (.cond (.t 14) .skip (.exit 0)) (.seq (.block 1 (.seq (.reg false [.V 15 (.ia 4 (.t 11) (.t 13)),.V 16 (.ld (some 4) (.t 15)),.W 6 (.alloc 4 (.agg [.str [],.str [],.int .i64 0,.int .i64 0])),⟨none,true,.sto 4 (.t 6) (.t 16),none,false,[]⟩] [0,4,6,11,12,13] [4,6]) (.seq (.reg false [.V 17 (.mv (.t 0)),.V 18 (.fa 0 (.t 6)),.V 19 (.ld none (.t 18)),.V 20 (.call (.c (.fn 532 [])) [.t 17,.t 19]),.V 21 (.un .not (.t 20))] [0,4,6,11,12,13,21] [4,6]) (.cond (.t 21) (.reg false [.V 22 (.mv (.t 4)),.V 23 (.fa 0 (.t 6)),.V 24 (.ld none (.t 23)),.V 25 (.bsl 1 (.str []) 1 [(0,.t 24)]),.W 26 (.app 1 16 (.t 22) (.t 25)),.W 4 (.asg (.t 26))] [0,4,11,12,13] [4]) .skip)))) (.reg false [.V 27 (.bin .add (.t 13) (.c (.int .i64 1))),.V 13 (.mv (.t 27))] [0,4,11,12,13] [4])))
def impl_FirstOwners_k1 : C :=
 .norm [0,4,11,12,13] [4] impl_FirstOwners_k0
def impl_FirstOwners_k2 : C :=
 .seq (.reg false [.V 28 (.mv (.t 4)),.W 29 (.call (.c (.fn 520 [])) [.t 28]),.W 2 (.asg (.t 29)),.V 3 (.asg (.c (.int .i64 0)))] [2,3] [2]) .ret
def impl_FirstOwners_ir : Fn := { np := 1,io := [],res := [.t 2,.t 3],own := [false,false],body :=
 (.seq (.reg false [.W 2 (.asg (.c (.nils 1))),.V 3 (.asg (.c (.int .i64 0)))] [0] []) (.seq (.seq (.reg false [.V 7 (.mv (.t 0)),.V 8 (.call (.c (.fn 154 [])) [.t 7]),.V 9 (.un .not (.t 8))] [0,9] []) (.cond (.t 9) (.seq (.reg false [.W 2 (.asg (.c (.nils 1))),.V 3 (.asg (.c (.int .i64 1)))] [2,3] [2]) .ret) .skip)) (.seq (.reg false [.V 10 (.bsl 1 (.str []) 0 []),.W 4 (.asg (.t 10))] [0,4] [4]) (.seq (.seq (.reg false [.V 11 (.mv (.t 0)),.V 12 (.len (.t 11)),.V 13 (.mv (.c (.int .i64 0)))] [0,4,11,12,13] [4]) (.block 0 (.loop impl_FirstOwners_k1))) impl_FirstOwners_k2)))) }
noncomputable def impl_FirstOwners_D : List (Nat × Callee) := [(154,impl_ValidDeeds_c),(520,impl_sortedSet_c),(532,impl_comesBack_c)]
def impl_FirstOwners_H : List (Nat × ET) := [(2,(.one .str)),(4,(.one .str)),(7,T_Deed),(10,(.one .str)),(11,T_Deed),(17,T_Deed),(22,(.one .str)),(25,(.one .str)),(26,(.one .str)),(28,(.one .str)),(29,(.one .str))]
noncomputable def impl_FirstOwners_c : Callee := mkCallee impl_FirstOwners_D impl_FirstOwners_H impl_FirstOwners_ir [.d (.one (.sl T_Deed))] [.d (.one (.sl (.one .str))),.d (.one (.int .i64))] []
noncomputable def impl_FirstOwners (a0 : List T_Deed.ty) : Option (List (List UInt8) × Int) := impl_FirstOwners_c.f (a0,())
noncomputable def impl_FirstOwners_p0  (v0 : List T_Deed.ty) (v11 : List T_Deed.ty) (v12 : Int) (v13 : Int) (r4 : List (List UInt8)) : Option (List (List UInt8) × Int) :=
 goL impl_FirstOwners_D impl_FirstOwners_H (vleave impl_FirstOwners_ir [.d (.one (.sl T_Deed))] [.d (.one (.sl (.one .str))),.d (.one (.int .i64))] [] []) [.c impl_FirstOwners_k0,.l impl_FirstOwners_k1,.e 0,.c impl_FirstOwners_k2]
  ⟨[(0,.sl T_Deed v0),(4,.view 4 0 r4.length),(11,.sl T_Deed v11),(12,.int .i64 v12),(13,.int .i64 v13)],[(4,some (.sl (.one .str) r4))]⟩
theorem impl_FirstOwners_eq (a0 : List T_Deed.ty) : impl_FirstOwners a0 =
 (impl_ValidDeeds a0).bind fun x1 =>
  if (!x1) then
   some ([],1)
  else
   impl_FirstOwners_p0 a0 a0 (a0.length : Int) 0 [] :=
 (mk_f _ _ _ _ _ _ _ 4000).trans (by kernel_rfl)
theorem impl_FirstOwners_p0_eq  (v0 : List T_Deed.ty) (v11 : List T_Deed.ty) (v12 : Int) (v13 : Int) (r4 : List (List UInt8)) : impl_FirstOwners_p0 v0 v11 v12 v13 r4 =
 if decide (v13 < v12) then
  if decide (0 ≤ v13) then
   (v11[v13.toNat]?).bind fun x1 =>
    (impl_comesBack v0 x1.1).bind fun x2 =>
     if (!x2) then
      if decide (r4.length + 1 < lim) then
       impl_FirstOwners_p0 v0 v11 v12 (IntKind.i64.wrap (v13 + 1)) ((r4.take r4.length) ++ [x1.1])
      else
       none
     else
      impl_FirstOwners_p0 v0 v11 v12 (IntKind.i64.wrap (v13 + 1)) r4
  else
   none
 else
  if decide (r4.length = r4.length) then
   (impl_sortedSet r4).bind fun x3 =>
    some (x3.1,0)
  else
   none :=
 (goL_dn _ _ _ 4000 _ _).trans (by kernel_rfl)
def laws_FnProvenance_k0 : C :=
 .seq (.seq (.reg false [.V 74 (.mv (.t 8)),.V 75 (.mv (.t 5)),.V 76 (.len (.t 75)),.V 77 (.bin .lss (.t 74) (.t 76))] [1,5,6,8,77] [5,6]) (.cond (.t 77) .skip (.exit 0))) (.seq (.block 1 (.seq (.reg false [.V 81 (.mv (.t 5)),.V 82 (.mv (.t 8)),.V 83 (.ia 4 (.t 81) (.t 82)),.V 84 (.ld (some 4) (.t 83)),.V 85 (.call (.c (.fn 152 [])) [.t 84]),.V 86 (.call (.c (.fn 153 [])) [.t 85]),.V 80 (.mv (.t 86)),.V 87 (.ext (.t 80) 0),.V 88 (.ext (.t 80) 1),.W 9 (.alloc 4 (.agg [.str [],.str [],.int .i64 0,.int .i64 0])),⟨none,true,.sto 4 (.t 9) (.t 87),none,false,[]⟩,.V 10 (.asg (.t 88))] [1,5,6,8,9,10] [5,6,9]) (.seq (.reg true [.V 89 (.mv (.t 10)),.V 90 (.un .not (.t 89)),.V 91 (.mv (.t 90)),.G 92 (.ld (some 4) (.t 9)) 2 false,.G 93 (.mv (.t 5)) 2 false,.G 94 (.mv (.t 8)) 2 false,.G 95 (.ia 4 (.t 93) (.t 94)) 2 false,.G 96 (.ld (some 4) (.t 95)) 2 false,.G 97 (.eqs true [.s,.s,.i,.i] (.t 92) (.t 96)) 2 false,.V 98 (.pick (.t 91) (.c (.bool true)) (.t 97))] [1,5,6,8,98] [5,6]) (.cond (.t 98) (.seq (.reg false [.V 4 (.asg (.c (.bool false)))] [4] []) .ret) .skip)))) (.reg false [.V 78 (.mv (.t 8)),.V 79 (.bin .add (.t 78) (.c (.int .i64 1))),.V 8 (.asg (.t 79))] [1,5,6,8] [5,6]))
def laws_FnProvenance_k1 : C :=
 .norm [1,5,6,8] [5,6] laws_FnProvenance_k0
def laws_FnProvenance_k2 : C :=
 .seq (.reg false [.V 147 (.mv (.t 11)),.V 148 (.mv (.t 13)),.V 149 (.bsl 1 (.int .i64 0) 1 [(0,.t 148)]),.W 150 (.app 1 8 (.t 147) (.t 149)),.W 11 (.asg (.t 150))] [1,5,6,11,12,13] [5,6,11]) (.reg false [.V 151 (.mv (.t 12)),.V 152 (.mv (.t 5)),.V 153 (.mv (.t 13)),.V 154 (.ia 4 (.t 152) (.t 153)),.V 155 (.fa 3 (.t 154)),.V 156 (.ld none (.t 155)),.V 157 (.bin .add (.t 151) (.t 156)),.V 12 (.asg (.t 157))] [1,5,6,11,12,13] [5,6,11])
def laws_FnProvenance_k3 : C :=
 .reg false [.V 107 (.mv (.t 13)),.V 108 (.bin .add (.t 107) (.c (.int .i64 1))),.V 13 (.asg (.t 108))] [1,5,6,11,12,13] [5,6,11]
def laws_FnProvenance_k4 : C :=
 .seq (.seq (.reg false [.V 103 (.mv (.t 13)),.V 104 (.mv (.t 5)),.V 105 (.len (.t 104)),.V 106 (.bin .lss (.t 103) (.t 105))] [1,5,6,11,12,13,106] [5,6,11]) (.cond (.t 106) .skip (.exit 2))) (.seq (.block 3 (.seq (.reg false [.V 109 (.mv (.t 11)),.V 110 (.len (.t 109)),.V 14 (.asg (.t 110))] [1,5,6,11,12,13,14] [5,6,11]) (.seq (.reg true [.V 111 (.mv (.t 14)),.V 112 (.bin .eql (.t 111) (.c (.int .i64 0))),.V 113 (.mv (.t 112)),.G 114 (.mv (.t 5)) 2 false,.G 115 (.mv (.t 11)) 2 false,.G 116 (.mv (.t 14)) 2 false,.G 117 (.bin .sub (.t 116) (.c (.int .i64 1))) 2 false,.G 118 (.ia 1 (.t 115) (.t 117)) 2 false,.G 119 (.ld none (.t 118)) 2 false,.G 120 (.ia 4 (.t 114) (.t 119)) 2 false,.G 121 (.fa 1 (.t 120)) 2 false,.G 122 (.ld none (.t 121)) 2 false,.G 123 (.mv (.t 5)) 2 false,.G 124 (.mv (.t 13)) 2 false,.G 125 (.ia 4 (.t 123) (.t 124)) 2 false,.G 126 (.fa 0 (.t 125)) 2 false,.G 127 (.ld none (.t 126)) 2 false,.G 128 (.bin .eql (.t 122) (.t 127)) 2 false,.V 129 (.pick (.t 113) (.c (.bool true)) (.t 128)),.V 130 (.mv (.t 129)),.G 131 (.mv (.t 1)) 19 true,.G 132 (.mv (.t 13)) 19 true,.G 133 (.call (.c (.fn 151 [])) [.t 131,.t 132,.c (.int .i64 3)]) 19 true,.G 134 (.bin .gtr (.t 133) (.c (.int .i64 0))) 19 true,.G 135 (.mv (.t 134)) 19 true,.G 136 (.mv (.t 13)) 24 false,.G 137 (.mv (.t 5)) 24 false,.G 138 (.len (.t 137)) 24 false,.G 139 (.bin .sub (.t 138) (.c (.int .i64 1))) 24 false,.G 140 (.bin .eql (.t 136) (.t 139)) 24 false,.G 141 (.mv (.t 140)) 24 false,.G 142 (.mv (.t 14)) 30 true,.G 143 (.bin .eql (.t 142) (.c (.int .i64 0))) 30 true,.G 144 (.pick (.t 141) (.t 143) (.c (.bool false))) 24 false,.G 145 (.pick (.t 135) (.c (.bool true)) (.t 144)) 19 true,.V 146 (.pick (.t 130) (.t 145) (.c (.bool false)))] [1,5,6,11,12,13,146] [5,6,11]) (.cond (.t 146) (.norm [1,5,6,11,12,13] [5,6,11] laws_FnProvenance_k2) .skip)))) laws_FnProvenance_k3)
def laws_FnProvenance_k5 : C :=
 .norm [1,5,6,11,12,13] [5,6,11] laws_FnProvenance_k4
def laws_FnProvenance_k6 : C :=
 .seq (.seq (.reg false [.V 213 (.mv (.t 23)),.V 214 (.mv (.t 17)),.V 215 (.len (.t 214)),.V 216 (.bin .lss (.t 213) (.t 215))] [1,5,6,11,15,16,17,18,20,22,23,216] [5,6,11,15,16,17,20]) (.cond (.t 216) .skip (.exit 4))) (.seq (.block 5 (.reg false [.V 219 (.mv (.t 22)),.V 220 (.mv (.t 5)),.V 221 (.mv (.t 17)),.V 222 (.mv (.t 23)),.V 223 (.ia 1 (.t 221) (.t 222)),.V 224 (.ld none (.t 223)),.V 225 (.ia 4 (.t 220) (.t 224)),.V 226 (.fa 3 (.t 225)),.V 227 (.ld none (.t 226)),.V 228 (.bin .add (.t 219) (.t 227)),.V 22 (.asg (.t 228))] [1,5,6,11,15,16,17,18,20,22,23] [5,6,11,15,16,17,20])) (.reg false [.V 217 (.mv (.t 23)),.V 218 (.bin .add (.t 217) (.c (.int .i64 1))),.V 23 (.asg (.t 218))] [1,5,6,11,15,16,17,18,20,22,23] [5,6,11,15,16,17,20]))
def laws_FnProvenance_k7 : C :=
 .norm [1,5,6,11,15,16,17,18,20,22,23] [5,6,11,15,16,17,20] laws_FnProvenance_k6
def laws_FnProvenance_k8 : C :=
 .seq (.seq (.reg false [.V 265 (.mv (.t 26)),.V 266 (.mv (.t 20)),.V 267 (.len (.t 266)),.V 268 (.bin .lss (.t 265) (.t 267))] [1,5,6,11,15,20,24,25,26,268] [5,6,11,15,20]) (.cond (.t 268) .skip (.exit 8))) (.seq (.block 9 (.reg true [.V 271 (.mv (.t 25)),.V 272 (.mv (.t 271)),.G 273 (.mv (.t 20)) 1 false,.G 274 (.mv (.t 26)) 1 false,.G 275 (.ia 1 (.t 273) (.t 274)) 1 false,.G 276 (.ld none (.t 275)) 1 false,.G 277 (.mv (.t 6)) 1 false,.G 278 (.mv (.t 24)) 1 false,.G 279 (.ia 1 (.t 277) (.t 278)) 1 false,.G 280 (.ld none (.t 279)) 1 false,.G 281 (.bin .eql (.t 276) (.t 280)) 1 false,.V 282 (.pick (.t 272) (.c (.bool true)) (.t 281)),.V 25 (.asg (.t 282))] [1,5,6,11,15,20,24,25,26] [5,6,11,15,20])) (.reg false [.V 269 (.mv (.t 26)),.V 270 (.bin .add (.t 269) (.c (.int .i64 1))),.V 26 (.asg (.t 270))] [1,5,6,11,15,20,24,25,26] [5,6,11,15,20]))
def laws_FnProvenance_k9 : C :=
 .norm [1,5,6,11,15,20,24,25,26] [5,6,11,15,20] laws_FnProvenance_k8
def laws_FnProvenance_k10 : C :=
 .seq (.reg true [.V 284 (.mv (.t 5)),.V 285 (.fa 0 (.t 15)),.V 286 (.ld none (.t 285)),.V 287 (.mv (.t 6)),.V 288 (.mv (.t 24)),.V 289 (.ia 1 (.t 287) (.t 288)),.V 290 (.ld none (.t 289)),.V 291 (.call (.c (.fn 147 [])) [.t 284,.t 286,.t 290]),.V 283 (.mv (.t 291)),.V 292 (.ext (.t 283) 0),.V 293 (.ext (.t 283) 1),.V 294 (.ext (.t 283) 2),.V 27 (.mv (.t 292)),.V 28 (.asg (.t 293)),.V 29 (.asg (.t 294))] [1,5,6,11,15,20,24,25,29] [5,6,11,15,20]) (.seq (.reg true [.V 295 (.mv (.t 25)),.V 296 (.mv (.t 29)),.V 297 (.bin .eql (.t 296) (.c (.int .i64 0))),.V 298 (.eqb true (.t 295) (.t 297)),.V 299 (.mv (.t 298)),.G 300 (.mv (.t 24)) 4 false,.G 301 (.bin .gtr (.t 300) (.c (.int .i64 0))) 4 false,.G 302 (.mv (.t 301)) 4 false,.G 303 (.mv (.t 6)) 7 true,.G 304 (.mv (.t 24)) 7 true,.G 305 (.bin .sub (.t 304) (.c (.int .i64 1))) 7 true,.G 306 (.ia 1 (.t 303) (.t 305)) 7 true,.G 307 (.ld none (.t 306)) 7 true,.G 308 (.mv (.t 6)) 7 true,.G 309 (.mv (.t 24)) 7 true,.G 310 (.ia 1 (.t 308) (.t 309)) 7 true,.G 311 (.ld none (.t 310)) 7 true,.G 312 (.bin .geq (.t 307) (.t 311)) 7 true,.G 313 (.pick (.t 302) (.t 312) (.c (.bool false))) 4 false,.V 314 (.pick (.t 299) (.c (.bool true)) (.t 313))] [1,5,6,11,15,20,24,314] [5,6,11,15,20]) (.cond (.t 314) (.seq (.reg false [.V 4 (.asg (.c (.bool false)))] [4] []) .ret) .skip))
def laws_FnProvenance_k11 : C :=
 .reg false [.V 263 (.mv (.t 24)),.V 264 (.bin .add (.t 263) (.c (.int .i64 1))),.V 24 (.asg (.t 264))] [1,5,6,11,15,20,24] [5,6,11,15,20]
def laws_FnProvenance_k12 : C :=
 .seq (.seq (.reg false [.V 259 (.mv (.t 24)),.V 260 (.mv (.t 6)),.V 261 (.len (.t 260)),.V 262 (.bin .lss (.t 259) (.t 261))] [1,5,6,11,15,20,24,262] [5,6,11,15,20]) (.cond (.t 262) .skip (.exit 6))) (.seq (.block 7 (.seq (.reg false [.V 25 (.asg (.c (.bool false)))] [1,5,6,11,15,20,24,25] [5,6,11,15,20]) (.seq (.seq (.reg false [.V 26 (.asg (.c (.int .i64 0)))] [1,5,6,11,15,20,24,25,26] [5,6,11,15,20]) (.block 8 (.loop laws_FnProvenance_k9))) laws_FnProvenance_k10))) laws_FnProvenance_k11)
def laws_FnProvenance_k13 : C :=
 .norm [1,5,6,11,15,20,24] [5,6,11,15,20] laws_FnProvenance_k12
def laws_FnProvenance_k14 : C :=
 .seq (.seq (.reg false [.V 327 (.mv (.t 34)),.V 328 (.mv (.t 11)),.V 329 (.len (.t 328)),.V 330 (.bin .lss (.t 327) (.t 329))] [5,11,30,31,32,33,34,330] [5,11]) (.cond (.t 330) .skip (.exit 10))) (.seq (.block 11 (.seq (.reg false [.V 333 (.mv (.t 5)),.V 334 (.mv (.t 11)),.V 335 (.mv (.t 34)),.V 336 (.ia 1 (.t 334) (.t 335)),.V 337 (.ld none (.t 336)),.V 338 (.ia 4 (.t 333) (.t 337)),.V 339 (.fa 2 (.t 338)),.V 340 (.ld none (.t 339)),.V 341 (.mv (.t 30)),.V 342 (.bin .leq (.t 340) (.t 341))] [5,11,30,31,32,33,34,342] [5,11]) (.cond (.t 342) (.reg false [.V 343 (.mv (.t 5)),.V 344 (.mv (.t 11)),.V 345 (.mv (.t 34)),.V 346 (.ia 1 (.t 344) (.t 345)),.V 347 (.ld none (.t 346)),.V 348 (.ia 4 (.t 343) (.t 347)),.V 349 (.fa 1 (.t 348)),.V 350 (.ld none (.t 349)),.V 33 (.asg (.t 350))] [5,11,30,31,32,33,34] [5,11]) .skip))) (.reg false [.V 331 (.mv (.t 34)),.V 332 (.bin .add (.t 331) (.c (.int .i64 1))),.V 34 (.asg (.t 332))] [5,11,30,31,32,33,34] [5,11]))
def laws_FnProvenance_k15 : C :=
 .norm [5,11,30,31,32,33,34] [5,11] laws_FnProvenance_k14
def laws_FnProvenance_k16 : C :=
 .seq (.seq (.reg false [.V 373 (.mv (.t 38)),.V 374 (.mv (.t 11)),.V 375 (.len (.t 374)),.V 376 (.bin .lss (.t 373) (.t 375))] [5,11,35,36,37,38,376] [5,11]) (.cond (.t 376) .skip (.exit 12))) (.seq (.block 13 (.seq (.reg true [.V 379 (.mv (.t 5)),.V 380 (.mv (.t 11)),.V 381 (.mv (.t 38)),.V 382 (.ia 1 (.t 380) (.t 381)),.V 383 (.ld none (.t 382)),.V 384 (.ia 4 (.t 379) (.t 383)),.V 385 (.fa 2 (.t 384)),.V 386 (.ld none (.t 385)),.V 387 (.mv (.t 5)),.V 388 (.mv (.t 11)),.V 389 (.mv (.t 38)),.V 390 (.bin .sub (.t 389) (.c (.int .i64 1))),.V 391 (.ia 1 (.t 388) (.t 390)),.V 392 (.ld none (.t 391)),.V 393 (.ia 4 (.t 387) (.t 392)),.V 394 (.fa 2 (.t 393)),.V 395 (.ld none (.t 394)),.V 396 (.bin .sub (.t 386) (.t 395)),.V 39 (.asg (.t 396))] [5,11,35,36,37,38,39] [5,11]) (.seq (.reg false [.V 397 (.mv (.t 39)),.V 398 (.mv (.t 36)),.V 399 (.bin .gtr (.t 397) (.t 398)),.V 400 (.mv (.t 399)),.G 401 (.mv (.t 38)) 3 false,.G 402 (.mv (.t 35)) 3 false,.G 403 (.bin .eql (.t 401) (.t 402)) 3 false,.G 404 (.mv (.t 403)) 3 false,.G 405 (.mv (.t 39)) 7 true,.G 406 (.mv (.t 36)) 7 true,.G 407 (.bin .neq (.t 405) (.t 406)) 7 true,.G 408 (.pick (.t 404) (.t 407) (.c (.bool false))) 3 false,.V 409 (.pick (.t 400) (.c (.bool true)) (.t 408))] [5,11,35,36,37,38,409] [5,11]) (.cond (.t 409) (.seq (.reg false [.V 4 (.asg (.c (.bool false)))] [4] []) .ret) .skip)))) (.reg false [.V 377 (.mv (.t 38)),.V 378 (.bin .add (.t 377) (.c (.int .i64 1))),.V 38 (.asg (.t 378))] [5,11,35,36,37,38] [5,11]))
def laws_FnProvenance_k17 : C :=
 .norm [5,11,35,36,37,38] [5,11] laws_FnProvenance_k16
def laws_FnProvenance_k18 : C :=
 .seq (.reg false [.V 470 (.mv (.t 5)),.V 471 (.mv (.t 43)),.V 472 (.call (.c (.fn 142 [])) [.t 470,.t 471])] [5,11,35,37,40,42,472] [5,11,40]) (.cond (.t 472) (.seq (.reg false [.V 4 (.asg (.c (.bool false)))] [4] []) .ret) .skip)
def laws_FnProvenance_k19 : C :=
 .reg false [.V 421 (.mv (.t 42)),.V 422 (.bin .add (.t 421) (.c (.int .i64 1))),.V 42 (.asg (.t 422))] [5,11,35,37,40,42] [5,11,40]
def laws_FnProvenance_k20 : C :=
 .seq (.seq (.reg false [.V 417 (.mv (.t 42)),.V 418 (.mv (.t 40)),.V 419 (.len (.t 418)),.V 420 (.bin .lss (.t 417) (.t 419))] [5,11,35,37,40,42,420] [5,11,40]) (.cond (.t 420) .skip (.exit 14))) (.seq (.block 15 (.seq (.reg false [.V 423 (.mv (.t 40)),.V 424 (.mv (.t 42)),.V 425 (.ia 1 (.t 423) (.t 424)),.V 426 (.ld none (.t 425)),.W 43 (.asg (.t 426))] [5,11,35,37,40,42,43] [5,11,40,43]) (.seq (.seq (.reg true [.V 427 (.mv (.t 43)),.V 428 (.len (.t 427)),.V 429 (.bin .neq (.t 428) (.c (.int .i64 2))),.V 430 (.mv (.t 429)),.G 431 (.mv (.t 43)) 3 false,.G 432 (.ia 1 (.t 431) (.c (.int .i64 0))) 3 false,.G 433 (.ld none (.t 432)) 3 false,.G 434 (.bin .lss (.t 433) (.c (.int .i64 0))) 3 false,.V 435 (.pick (.t 430) (.c (.bool true)) (.t 434)),.V 436 (.mv (.t 435)),.G 437 (.mv (.t 43)) 9 false,.G 438 (.ia 1 (.t 437) (.c (.int .i64 0))) 9 false,.G 439 (.ld none (.t 438)) 9 false,.G 440 (.mv (.t 43)) 9 false,.G 441 (.ia 1 (.t 440) (.c (.int .i64 1))) 9 false,.G 442 (.ld none (.t 441)) 9 false,.G 443 (.bin .geq (.t 439) (.t 442)) 9 false,.V 444 (.pick (.t 436) (.c (.bool true)) (.t 443)),.V 445 (.mv (.t 444)),.G 446 (.mv (.t 43)) 18 false,.G 447 (.ia 1 (.t 446) (.c (.int .i64 1))) 18 false,.G 448 (.ld none (.t 447)) 18 false,.G 449 (.mv (.t 5)) 18 false,.G 450 (.len (.t 449)) 18 false,.G 451 (.bin .geq (.t 448) (.t 450)) 18 false,.V 452 (.pick (.t 445) (.c (.bool true)) (.t 451)),.V 453 (.mv (.t 452)),.G 454 (.mv (.t 5)) 26 false,.G 455 (.mv (.t 43)) 26 false,.G 456 (.ia 1 (.t 455) (.c (.int .i64 0))) 26 false,.G 457 (.ld none (.t 456)) 26 false,.G 458 (.ia 4 (.t 454) (.t 457)) 26 false,.G 459 (.fa 0 (.t 458)) 26 false,.G 460 (.ld none (.t 459)) 26 false,.G 461 (.mv (.t 5)) 26 false,.G 462 (.mv (.t 43)) 26 false,.G 463 (.ia 1 (.t 462) (.c (.int .i64 1))) 26 false,.G 464 (.ld none (.t 463)) 26 false,.G 465 (.ia 4 (.t 461) (.t 464)) 26 false,.G 466 (.fa 0 (.t 465)) 26 false,.G 467 (.ld none (.t 466)) 26 false,.G 468 (.bin .neq (.t 460) (.t 467)) 26 false,.V 469 (.pick (.t 453) (.c (.bool true)) (.t 468))] [5,11,35,37,40,42,43,469] [5,11,40,43]) (.cond (.t 469) (.seq (.reg false [.V 4 (.asg (.c (.bool false)))] [4] []) .ret) .skip)) (.norm [5,11,35,37,40,42,43] [5,11,40,43] laws_FnProvenance_k18)))) laws_FnProvenance_k19)
def laws_FnProvenance_k21 : C :=
 .norm [5,11,35,37,40,42] [5,11,40] laws_FnProvenance_k20
def laws_FnProvenance_k22 : C :=
 .seq (.seq (.reg false [.V 486 (.mv (.t 47)),.V 487 (.mv (.t 5)),.V 488 (.len (.t 487)),.V 489 (.bin .lss (.t 486) (.t 488))] [5,11,35,37,44,46,47,489] [5,11,44]) (.cond (.t 489) .skip (.exit 18))) (.seq (.block 19 (.seq (.reg true [.V 492 (.mv (.t 5)),.V 493 (.mv (.t 47)),.V 494 (.ia 4 (.t 492) (.t 493)),.V 495 (.fa 1 (.t 494)),.V 496 (.ld none (.t 495)),.V 497 (.mv (.t 44)),.V 498 (.mv (.t 46)),.V 499 (.ia 1 (.t 497) (.t 498)),.V 500 (.ld none (.t 499)),.V 501 (.bin .eql (.t 496) (.t 500))] [5,11,35,37,44,46,47,501] [5,11,44]) (.cond (.t 501) (.seq (.reg false [.V 4 (.asg (.c (.bool false)))] [4] []) .ret) .skip))) (.reg false [.V 490 (.mv (.t 47)),.V 491 (.bin .add (.t 490) (.c (.int .i64 1))),.V 47 (.asg (.t 491))] [5,11,35,37,44,46,47] [5,11,44]))
def laws_FnProvenance_k23 : C :=
 .norm [5,11,35,37,44,46,47] [5,11,44] laws_FnProvenance_k22
def laws_FnProvenance_k24 : C :=
 .reg false [.V 484 (.mv (.t 46)),.V 485 (.bin .add (.t 484) (.c (.int .i64 1))),.V 46 (.asg (.t 485))] [5,11,35,37,44,46] [5,11,44]
def laws_FnProvenance_k25 : C :=
 .seq (.seq (.reg false [.V 480 (.mv (.t 46)),.V 481 (.mv (.t 44)),.V 482 (.len (.t 481)),.V 483 (.bin .lss (.t 480) (.t 482))] [5,11,35,37,44,46,483] [5,11,44]) (.cond (.t 483) .skip (.exit 16))) (.seq (.block 17 (.seq (.reg false [.V 47 (.asg (.c (.int .i64 0)))] [5,11,35,37,44,46,47] [5,11,44]) (.block 18 (.loop laws_FnProvenance_k23)))) laws_FnProvenance_k24)
def laws_FnProvenance_k26 : C :=
 .norm [5,11,35,37,44,46] [5,11,44] laws_FnProvenance_k25
def laws_FnProvenance_k27 : C :=
 .seq (.reg false [.V 502 (.mv (.t 37)),.V 503 (.bin .neq (.t 502) (.c (.int .i64 0))),.V 504 (.mv (.t 503)),.G 505 (.mv (.t 35)) 2 false,.G 506 (.bin .geq (.t 505) (.c (.int .i64 1))) 2 false,.G 507 (.mv (.t 506)) 2 false,.G 508 (.mv (.t 35)) 5 true,.G 509 (.mv (.t 11)) 5 true,.G 510 (.len (.t 509)) 5 true,.G 511 (.bin .lss (.t 508) (.t 510)) 5 true,.G 512 (.pick (.t 507) (.t 511) (.c (.bool false))) 2 false,.V 513 (.pick (.t 504) (.c (.bool true)) (.t 512)),.V 4 (.asg (.t 513))] [4] []) .ret
def laws_FnProvenance_k28 : C :=
 .seq (.reg false [.V 474 (.mv (.t 5)),.W 475 (.call (.c (.fn 141 [])) [.t 474]),.V 473 (.mv (.t 475)),.V 476 (.ext (.t 473) 0),.V 477 (.ext (.t 473) 1),.W 44 (.asg (.t 476)),.V 45 (.asg (.t 477))] [5,11,35,37,44,45] [5,11,44]) (.seq (.seq (.reg false [.V 478 (.mv (.t 45)),.V 479 (.bin .neq (.t 478) (.c (.int .i64 0)))] [5,11,35,37,44,479] [5,11,44]) (.cond (.t 479) (.seq (.reg false [.V 4 (.asg (.c (.bool false)))] [4] []) .ret) .skip)) (.seq (.seq (.reg false [.V 46 (.asg (.c (.int .i64 0)))] [5,11,35,37,44,46] [5,11,44]) (.block 16 (.loop laws_FnProvenance_k26))) laws_FnProvenance_k27))
def laws_FnProvenance_k29 : C :=
 .seq (.reg false [.V 411 (.mv (.t 5)),.W 412 (.call (.c (.fn 143 [])) [.t 411]),.V 410 (.mv (.t 412)),.V 413 (.ext (.t 410) 0),.V 414 (.ext (.t 410) 1),.W 40 (.asg (.t 413)),.V 41 (.asg (.t 414))] [5,11,35,37,40,41] [5,11,40]) (.seq (.seq (.reg false [.V 415 (.mv (.t 41)),.V 416 (.bin .neq (.t 415) (.c (.int .i64 0)))] [5,11,35,37,40,416] [5,11,40]) (.cond (.t 416) (.seq (.reg false [.V 4 (.asg (.c (.bool false)))] [4] []) .ret) .skip)) (.seq (.seq (.reg false [.V 42 (.asg (.c (.int .i64 0)))] [5,11,35,37,40,42] [5,11,40]) (.block 14 (.loop laws_FnProvenance_k21))) laws_FnProvenance_k28))
def laws_FnProvenance_k30 : C :=
 .seq (.seq (.reg false [.V 38 (.asg (.c (.int .i64 1)))] [5,11,35,36,37,38] [5,11]) (.block 12 (.loop laws_FnProvenance_k17))) laws_FnProvenance_k29
def laws_FnProvenance_k31 : C :=
 .seq (.reg false [.V 352 (.mv (.t 5)),.V 353 (.mv (.t 11)),.V 354 (.call (.c (.fn 144 [])) [.t 352,.t 353]),.V 351 (.mv (.t 354)),.V 355 (.ext (.t 351) 0),.V 356 (.ext (.t 351) 1),.V 357 (.ext (.t 351) 2),.V 35 (.asg (.t 355)),.V 36 (.asg (.t 356)),.V 37 (.asg (.t 357))] [5,11,31,32,33,35,36,37] [5,11]) (.seq (.seq (.reg false [.V 358 (.mv (.t 32)),.V 359 (.bin .neq (.t 358) (.c (.int .i64 0))),.V 360 (.mv (.t 359)),.G 361 (.mv (.t 31)) 2 false,.G 362 (.mv (.t 33)) 2 false,.G 363 (.bin .neq (.t 361) (.t 362)) 2 false,.V 364 (.pick (.t 360) (.c (.bool true)) (.t 363)),.V 365 (.mv (.t 364)),.G 366 (.mv (.t 37)) 7 false,.G 367 (.bin .eql (.t 366) (.c (.int .i64 0))) 7 false,.G 368 (.mv (.t 11)) 7 false,.G 369 (.len (.t 368)) 7 false,.G 370 (.bin .gtr (.t 369) (.c (.int .i64 1))) 7 false,.G 371 (.eqb true (.t 367) (.t 370)) 7 false,.V 372 (.pick (.t 365) (.c (.bool true)) (.t 371))] [5,11,35,36,37,372] [5,11]) (.cond (.t 372) (.seq (.reg false [.V 4 (.asg (.c (.bool false)))] [4] []) .ret) .skip)) (.norm [5,11,35,36,37] [5,11] laws_FnProvenance_k30))
def laws_FnProvenance_k32 : C :=
 .seq (.reg false [.V 315 (.mv (.t 1)),.V 316 (.call (.c (.fn 146 [])) [.t 315,.c (.int .i64 30),.c (.int .i64 300)]),.V 317 (.bin .add (.c (.int .i64 1690)) (.t 316)),.V 30 (.asg (.t 317))] [5,11,15,30] [5,11,15]) (.seq (.reg false [.V 319 (.mv (.t 5)),.V 320 (.mv (.t 11)),.V 321 (.mv (.t 30)),.V 322 (.call (.c (.fn 145 [])) [.t 319,.t 320,.t 321]),.V 318 (.mv (.t 322)),.V 323 (.ext (.t 318) 0),.V 324 (.ext (.t 318) 1),.V 31 (.asg (.t 323)),.V 32 (.asg (.t 324))] [5,11,15,30,31,32] [5,11,15]) (.seq (.reg false [.V 325 (.fa 0 (.t 15)),.V 326 (.ld none (.t 325)),.V 33 (.asg (.t 326))] [5,11,30,31,32,33] [5,11]) (.seq (.seq (.reg false [.V 34 (.asg (.c (.int .i64 0)))] [5,11,30,31,32,33,34] [5,11]) (.block 10 (.loop laws_FnProvenance_k15))) laws_FnProvenance_k31)))
def laws_FnProvenance_k33 : C :=
 .seq (.seq (.reg false [.V 24 (.asg (.c (.int .i64 0)))] [1,5,6,11,15,20,24] [5,6,11,15,20]) (.block 6 (.loop laws_FnProvenance_k13))) laws_FnProvenance_k32
def laws_FnProvenance_k34 : C :=
 .seq (.seq (.reg true [.V 229 (.mv (.t 22)),.V 230 (.mv (.t 18)),.V 231 (.bin .neq (.t 229) (.t 230)),.V 232 (.mv (.t 231)),.G 233 (.mv (.t 5)) 3 false,.G 234 (.mv (.t 17)) 3 false,.G 235 (.ia 1 (.t 234) (.c (.int .i64 0))) 3 false,.G 236 (.ld none (.t 235)) 3 false,.G 237 (.ia 4 (.t 233) (.t 236)) 3 false,.G 238 (.fa 0 (.t 237)) 3 false,.G 239 (.ld none (.t 238)) 3 false,.G 240 (.fa 0 (.t 15)) 3 false,.G 241 (.ld none (.t 240)) 3 false,.G 242 (.bin .neq (.t 239) (.t 241)) 3 false,.V 243 (.pick (.t 232) (.c (.bool true)) (.t 242)),.V 244 (.mv (.t 243)),.G 245 (.mv (.t 5)) 15 false,.G 246 (.mv (.t 17)) 15 false,.G 247 (.mv (.t 17)) 15 false,.G 248 (.len (.t 247)) 15 false,.G 249 (.bin .sub (.t 248) (.c (.int .i64 1))) 15 false,.G 250 (.ia 1 (.t 246) (.t 249)) 15 false,.G 251 (.ld none (.t 250)) 15 false,.G 252 (.ia 4 (.t 245) (.t 251)) 15 false,.G 253 (.fa 1 (.t 252)) 15 false,.G 254 (.ld none (.t 253)) 15 false,.G 255 (.fa 1 (.t 16)) 15 false,.G 256 (.ld none (.t 255)) 15 false,.G 257 (.bin .neq (.t 254) (.t 256)) 15 false,.V 258 (.pick (.t 244) (.c (.bool true)) (.t 257))] [1,5,6,11,15,20,258] [5,6,11,15,20]) (.cond (.t 258) (.seq (.reg false [.V 4 (.asg (.c (.bool false)))] [4] []) .ret) .skip)) (.norm [1,5,6,11,15,20] [5,6,11,15,20] laws_FnProvenance_k33)
def laws_FnProvenance_k35 : C :=
 .seq (.reg false [.V 22 (.asg (.c (.int .i64 0)))] [1,5,6,11,15,16,17,18,20,22] [5,6,11,15,16,17,20]) (.seq (.seq (.reg false [.V 23 (.asg (.c (.int .i64 0)))] [1,5,6,11,15,16,17,18,20,22,23] [5,6,11,15,16,17,20]) (.block 4 (.loop laws_FnProvenance_k7))) laws_FnProvenance_k34)
def laws_FnProvenance_k36 : C :=
 .seq (.reg false [.V 158 (.mv (.t 5)),.V 159 (.mv (.t 11)),.V 160 (.ia 1 (.t 159) (.c (.int .i64 0))),.V 161 (.ld none (.t 160)),.V 162 (.ia 4 (.t 158) (.t 161)),.V 163 (.ld (some 4) (.t 162)),.W 15 (.alloc 4 (.agg [.str [],.str [],.int .i64 0,.int .i64 0])),⟨none,true,.sto 4 (.t 15) (.t 163),none,false,[]⟩] [1,5,6,11,12,15] [5,6,11,15]) (.seq (.reg false [.V 164 (.mv (.t 5)),.V 165 (.mv (.t 11)),.V 166 (.mv (.t 11)),.V 167 (.len (.t 166)),.V 168 (.bin .sub (.t 167) (.c (.int .i64 1))),.V 169 (.ia 1 (.t 165) (.t 168)),.V 170 (.ld none (.t 169)),.V 171 (.ia 4 (.t 164) (.t 170)),.V 172 (.ld (some 4) (.t 171)),.W 16 (.alloc 4 (.agg [.str [],.str [],.int .i64 0,.int .i64 0])),⟨none,true,.sto 4 (.t 16) (.t 172),none,false,[]⟩] [1,5,6,11,12,15,16] [5,6,11,15,16]) (.seq (.reg false [.V 174 (.mv (.t 5)),.V 175 (.fa 0 (.t 15)),.V 176 (.ld none (.t 175)),.V 177 (.fa 1 (.t 16)),.V 178 (.ld none (.t 177)),.V 179 (.call (.c (.fn 150 [])) [.t 174,.t 176,.t 178]),.V 173 (.mv (.t 179)),.V 180 (.ext (.t 173) 0),.V 181 (.ext (.t 173) 1),.V 182 (.ext (.t 173) 2),.W 17 (.asg (.t 180)),.V 18 (.asg (.t 181)),.V 19 (.asg (.t 182))] [1,5,6,11,12,15,16,17,18,19] [5,6,11,15,16,17]) (.seq (.reg false [.V 184 (.mv (.t 5)),.V 185 (.fa 0 (.t 15)),.V 186 (.ld none (.t 185)),.W 187 (.call (.c (.fn 149 [])) [.t 184,.t 186]),.V 183 (.mv (.t 187)),.V 188 (.ext (.t 183) 0),.V 189 (.ext (.t 183) 1),.W 20 (.asg (.t 188)),.V 21 (.asg (.t 189))] [1,5,6,11,12,15,16,17,18,19,20,21] [5,6,11,15,16,17,20]) (.seq (.seq (.reg false [.V 190 (.mv (.t 5)),.V 191 (.mv (.t 11)),.V 192 (.call (.c (.fn 148 [])) [.t 190,.t 191]),.V 193 (.un .not (.t 192)),.V 194 (.mv (.t 193)),.G 195 (.mv (.t 19)) 4 false,.G 196 (.bin .neq (.t 195) (.c (.int .i64 0))) 4 false,.V 197 (.pick (.t 194) (.c (.bool true)) (.t 196)),.V 198 (.mv (.t 197)),.G 199 (.mv (.t 18)) 8 false,.G 200 (.mv (.t 12)) 8 false,.G 201 (.bin .gtr (.t 199) (.t 200)) 8 false,.V 202 (.pick (.t 198) (.c (.bool true)) (.t 201)),.V 203 (.mv (.t 202)),.G 204 (.mv (.t 5)) 13 false,.G 205 (.mv (.t 17)) 13 false,.G 206 (.call (.c (.fn 142 [])) [.t 204,.t 205]) 13 false,.G 207 (.un .not (.t 206)) 13 false,.V 208 (.pick (.t 203) (.c (.bool true)) (.t 207)),.V 209 (.mv (.t 208)),.G 210 (.mv (.t 21)) 19 false,.G 211 (.bin .neq (.t 210) (.c (.int .i64 0))) 19 false,.V 212 (.pick (.t 209) (.c (.bool true)) (.t 211))] [1,5,6,11,15,16,17,18,20,212] [5,6,11,15,16,17,20]) (.cond (.t 212) (.seq (.reg false [.V 4 (.asg (.c (.bool false)))] [4] []) .ret) .skip)) (.norm [1,5,6,11,15,16,17,18,20] [5,6,11,15,16,17,20] laws_FnProvenance_k35)))))
def laws_FnProvenance_k37 : C :=
 .seq (.seq (.reg false [.V 99 (.mv (.t 5)),.V 100 (.len (.t 99)),.V 101 (.bin .eql (.t 100) (.c (.int .i64 0)))] [1,5,6,101] [5,6]) (.cond (.t 101) (.seq (.reg false [.V 4 (.asg (.c (.bool true)))] [4] []) .ret) .skip)) (.seq (.reg false [.V 102 (.bsl 1 (.int .i64 0) 0 []),.W 11 (.asg (.t 102))] [1,5,6,11] [5,6,11]) (.seq (.reg false [.V 12 (.asg (.c (.int .i64 0)))] [1,5,6,11,12] [5,6,11]) (.seq (.seq (.reg false [.V 13 (.asg (.c (.int .i64 0)))] [1,5,6,11,12,13] [5,6,11]) (.block 2 (.loop laws_FnProvenance_k5))) laws_FnProvenance_k36)))
def laws_FnProvenance_k38 : C :=
 .seq (.seq (.reg false [.V 8 (.asg (.c (.int .i64 0)))] [1,5,6,8] [5,6]) (.block 0 (.loop laws_FnProvenance_k1))) laws_FnProvenance_k37
def laws_FnProvenance_ir : Fn := { np := 2,io := [],res := [.t 4],own := [false],body :=
 (.seq (.reg false [.V 4 (.asg (.c (.bool false)))] [0,1] []) (.seq (.seq (.reg false [.V 48 (.mv (.t 0)),.V 49 (.mv (.t 1)),.V 50 (.call (.c (.fn 89 [])) [.t 48,.t 49])] [0,1,50] []) (.cond (.t 50) (.seq (.reg false [.V 4 (.asg (.c (.bool true)))] [4] []) .ret) .skip)) (.seq (.reg false [.V 51 (.mv (.t 0)),.V 52 (.call (.c (.fn 156 [])) [.t 51]),.W 5 (.asg (.t 52))] [1,5] [5]) (.seq (.reg false [.V 54 (.mv (.t 5)),.W 55 (.call (.c (.fn 155 [])) [.t 54]),.V 53 (.mv (.t 55)),.V 56 (.ext (.t 53) 0),.V 57 (.ext (.t 53) 1),.W 6 (.asg (.t 56)),.V 7 (.asg (.t 57))] [1,5,6,7] [5,6]) (.seq (.seq (.reg false [.V 58 (.mv (.t 7)),.V 59 (.bin .neq (.t 58) (.c (.int .i64 0))),.V 60 (.mv (.t 59)),.G 61 (.mv (.t 6)) 2 false,.G 62 (.len (.t 61)) 2 false,.G 63 (.bin .gtr (.t 62) (.c (.int .i64 0))) 2 false,.G 64 (.mv (.t 5)) 2 false,.G 65 (.len (.t 64)) 2 false,.G 66 (.bin .gtr (.t 65) (.c (.int .i64 0))) 2 false,.G 67 (.eqb true (.t 63) (.t 66)) 2 false,.V 68 (.pick (.t 60) (.c (.bool true)) (.t 67)),.V 69 (.mv (.t 68)),.G 70 (.mv (.t 5)) 11 false,.G 71 (.call (.c (.fn 154 [])) [.t 70]) 11 false,.G 72 (.un .not (.t 71)) 11 false,.V 73 (.pick (.t 69) (.c (.bool true)) (.t 72))] [1,5,6,73] [5,6]) (.cond (.t 73) (.seq (.reg false [.V 4 (.asg (.c (.bool false)))] [4] []) .ret) .skip)) (.norm [1,5,6] [5,6] laws_FnProvenance_k38)))))) }
noncomputable def laws_FnProvenance_D : List (Nat × Callee) := [(89,laws_r8Long_c),(141,impl_FirstOwners_c),(142,spec_IsChain_c),(143,impl_RivalDeeds_c),(144,impl_LongestHold_c),(145,impl_OwnerIn_c),(146,laws_r8Wide_c),(147,spec_BestChain_c),(148,impl_IsChain_c),(149,impl_ReachedOwners_c),(150,impl_BestChain_c),(151,laws_r8At_c),(152,impl_DeedText_c),(153,impl_ReadDeed_c),(154,impl_ValidDeeds_c),(155,impl_OwnersOf_c),(156,spec_R8Deeds_c)]
def laws_FnProvenance_H : List (Nat × ET) := [(5,T_Deed),(6,(.one .str)),(11,(.one (.int .i64))),(17,(.one (.int .i64))),(20,(.one .str)),(27,(.one (.int .i64))),(40,(.one (.sl (.one (.int .i64))))),(43,(.one (.int .i64))),(44,(.one .str)),(48,(.one (.int .u8))),(49,(.one (.int .u8))),(51,(.one (.int .u8))),(52,T_Deed),(54,T_Deed),(56,(.one .str)),(61,(.one .str)),(64,T_Deed),(70,T_Deed),(75,T_Deed),(81,T_Deed),(93,T_Deed),(99,T_Deed),(102,(.one (.int .i64))),(104,T_Deed),(109,(.one (.int .i64))),(114,T_Deed),(115,(.one (.int .i64))),(123,T_Deed),(131,(.one (.int .u8))),(137,T_Deed),(147,(.one (.int .i64))),(149,(.one (.int .i64))),(150,(.one (.int .i64))),(152,T_Deed),(158,T_Deed),(159,(.one (.int .i64))),(164,T_Deed),(165,(.one (.int .i64))),(166,(.one (.int .i64))),(174,T_Deed),(180,(.one (.int .i64))),(184,T_Deed),(188,(.one .str)),(190,T_Deed),(191,(.one (.int .i64))),(204,T_Deed),(205,(.one (.int .i64))),(214,(.one (.int .i64))),(220,T_Deed),(221,(.one (.int .i64))),(233,T_Deed),(234,(.one (.int .i64))),(245,T_Deed),(246,(.one (.int .i64))),(247,(.one (.int .i64))),(260,(.one .str)),(266,(.one .str)),(273,(.one .str)),(277,(.one .str)),(284,T_Deed),(287,(.one .str)),(292,(.one (.int .i64))),(303,(.one .str)),(308,(.one .str)),(315,(.one (.int .u8))),(319,T_Deed),(320,(.one (.int .i64))),(328,(.one (.int .i64))),(333,T_Deed),(334,(.one (.int .i64))),(343,T_Deed),(344,(.one (.int .i64))),(352,T_Deed),(353,(.one (.int .i64))),(368,(.one (.int .i64))),(374,(.one (.int .i64))),(379,T_Deed),(380,(.one (.int .i64))),(387,T_Deed),(388,(.one (.int .i64))),(411,T_Deed),(413,(.one (.sl (.one (.int .i64))))),(418,(.one (.sl (.one (.int .i64))))),(423,(.one (.sl (.one (.int .i64))))),(426,(.one (.int .i64))),(427,(.one (.int .i64))),(431,(.one (.int .i64))),(437,(.one (.int .i64))),(440,(.one (.int .i64))),(446,(.one (.int .i64))),(449,T_Deed),(454,T_Deed),(455,(.one (.int .i64))),(461,T_Deed),(462,(.one (.int .i64))),(470,T_Deed),(471,(.one (.int .i64))),(474,T_Deed),(476,(.one .str)),(481,(.one .str)),(487,T_Deed),(492,T_Deed),(497,(.one .str)),(509,(.one (.int .i64)))]
noncomputable def laws_FnProvenance_c : Callee := mkCallee laws_FnProvenance_D laws_FnProvenance_H laws_FnProvenance_ir [.d (.one (.sl (.one (.int .u8)))),.d (.one (.sl (.one (.int .u8))))] [.d (.one .bool)] []
noncomputable def laws_FnProvenance (a0 : List Int) (a1 : List Int) : Option (Bool) := laws_FnProvenance_c.f (a0,a1,())
noncomputable def laws_FnProvenance_p0  (v1 : List Int) (v5 : List T_Deed.ty) (v6 : List (List UInt8)) : Option (Bool) :=
 goL laws_FnProvenance_D laws_FnProvenance_H (vleave laws_FnProvenance_ir [.d (.one (.sl (.one (.int .u8)))),.d (.one (.sl (.one (.int .u8))))] [.d (.one .bool)] [] []) [.c laws_FnProvenance_k38]
  ⟨[(1,.sl (.one (.int .u8)) v1),(5,.sl T_Deed v5),(6,.sl (.one .str) v6)],[(5,none),(6,none)]⟩
noncomputable def laws_FnProvenance_p1  (v1 : List Int) (v5 : List T_Deed.ty) (v6 : List (List UInt8)) (v8 : Int) : Option (Bool) :=
 goL laws_FnProvenance_D laws_FnProvenance_H (vleave laws_FnProvenance_ir [.d (.one (.sl (.one (.int .u8)))),.d (.one (.sl (.one (.int .u8))))] [.d (.one .bool)] [] []) [.c laws_FnProvenance_k0,.l laws_FnProvenance_k1,.e 0,.c laws_FnProvenance_k37]
  ⟨[(1,.sl (.one (.int .u8)) v1),(5,.sl T_Deed v5),(6,.sl (.one .str) v6),(8,.int .i64 v8)],[(5,none),(6,none)]⟩
noncomputable def laws_FnProvenance_p2  (v1 : List Int) (v5 : List T_Deed.ty) (v6 : List (List UInt8)) (v12 : Int) (v13 : Int) (r11 : List Int) : Option (Bool) :=
 goL laws_FnProvenance_D laws_FnProvenance_H (vleave laws_FnProvenance_ir [.d (.one (.sl (.one (.int .u8)))),.d (.one (.sl (.one (.int .u8))))] [.d (.one .bool)] [] []) [.c laws_FnProvenance_k4,.l laws_FnProvenance_k5,.e 2,.c laws_FnProvenance_k36]
  ⟨[(1,.sl (.one (.int .u8)) v1),(5,.sl T_Deed v5),(6,.sl (.one .str) v6),(11,.view 11 0 r11.length),(12,.int .i64 v12),(13,.int .i64 v13)],[(5,none),(6,none),(11,some (.sl (.one (.int .i64)) r11))]⟩
noncomputable def laws_FnProvenance_p3  (v1 : List Int) (v5 : List T_Deed.ty) (v6 : List (List UInt8)) (v12 : Int) (v13 : Int) (r11 : List Int) : Option (Bool) :=
 goL laws_FnProvenance_D laws_FnProvenance_H (vleave laws_FnProvenance_ir [.d (.one (.sl (.one (.int .u8)))),.d (.one (.sl (.one (.int .u8))))] [.d (.one .bool)] [] []) [.c laws_FnProvenance_k2,.e 3,.c laws_FnProvenance_k3,.l laws_FnProvenance_k5,.e 2,.c laws_FnProvenance_k36]
  ⟨[(1,.sl (.one (.int .u8)) v1),(5,.sl T_Deed v5),(6,.sl (.one .str) v6),(11,.view 11 0 r11.length),(12,.int .i64 v12),(13,.int .i64 v13)],[(5,none),(6,none),(11,some (.sl (.one (.int .i64)) r11))]⟩
noncomputable def laws_FnProvenance_p4  (v1 : List Int) (v5 : List T_Deed.ty) (v6 : List (List UInt8)) (v18 : Int) (v20 : List (List UInt8)) (r11 : List Int) (r15_0 : List UInt8) (r15_1 : List UInt8) (r15_2 : Int) (r15_3 : Int) (r16_0 : List UInt8) (r16_1 : List UInt8) (r16_2 : Int) (r16_3 : Int) (r17 : List Int) : Option (Bool) :=
 goL laws_FnProvenance_D laws_FnProvenance_H (vleave laws_FnProvenance_ir [.d (.one (.sl (.one (.int .u8)))),.d (.one (.sl (.one (.int .u8))))] [.d (.one .bool)] [] []) [.c laws_FnProvenance_k35]
  ⟨[(1,.sl (.one (.int .u8)) v1),(5,.sl T_Deed v5),(6,.sl (.one .str) v6),(11,.view 11 0 r11.length),(15,.loc 15 0 0),(16,.loc 16 0 0),(17,.view 17 0 r17.length),(18,.int .i64 v18),(20,.sl (.one .str) v20)],[(5,none),(6,none),(11,some (.sl (.one (.int .i64)) r11)),(15,some (.var 4 (.agg [.str r15_0,.str r15_1,.int .i64 r15_2,.int .i64 r15_3]))),(16,some (.var 4 (.agg [.str r16_0,.str r16_1,.int .i64 r16_2,.int .i64 r16_3]))),(17,some (.sl (.one (.int .i64)) r17)),(20,none)]⟩
noncomputable def laws_FnProvenance_p5  (v1 : List Int) (v5 : List T_Deed.ty) (v6 : List (List UInt8)) (v18 : Int) (v20 : List (List UInt8)) (v22 : Int) (v23 : Int) (r11 : List Int) (r15_0 : List UInt8) (r15_1 : List UInt8) (r15_2 : Int) (r15_3 : Int) (r16_0 : List UInt8) (r16_1 : List UInt8) (r16_2 : Int) (r16_3 : Int) (r17 : List Int) : Option (Bool) :=
 goL laws_FnProvenance_D laws_FnProvenance_H (vleave laws_FnProvenance_ir [.d (.one (.sl (.one (.int .u8)))),.d (.one (.sl (.one (.int .u8))))] [.d (.one .bool)] [] []) [.c laws_FnProvenance_k6,.l laws_FnProvenance_k7,.e 4,.c laws_FnProvenance_k34]
  ⟨[(1,.sl (.one (.int .u8)) v1),(5,.sl T_Deed v5),(6,.sl (.one .str) v6),(11,.view 11 0 r11.length),(15,.loc 15 0 0),(16,.loc 16 0 0),(17,.view 17 0 r17.length),(18,.int .i64 v18),(20,.sl (.one .str) v20),(22,.int .i64 v22),(23,.int .i64 v23)],[(5,none),(6,none),(11,some (.sl (.one (.int .i64)) r11)),(15,some (.var 4 (.agg [.str r15_0,.str r15_1,.int .i64 r15_2,.int .i64 r15_3]))),(16,some (.var 4 (.agg [.str r16_0,.str r16_1,.int .i64 r16_2,.int .i64 r16_3]))),(17,some (.sl (.one (.int .i64)) r17)),(20,none)]⟩
noncomputable def laws_FnProvenance_p6  (v1 : List Int) (v5 : List T_Deed.ty) (v6 : List (List UInt8)) (v20 : List (List UInt8)) (r11 : List Int) (r15_0 : List UInt8) (r15_1 : List UInt8) (r15_2 : Int) (r15_3 : Int) : Option (Bool) :=
 goL laws_FnProvenance_D laws_FnProvenance_H (vleave laws_FnProvenance_ir [.d (.one (.sl (.one (.int .u8)))),.d (.one (.sl (.one (.int .u8))))] [.d (.one .bool)] [] []) [.c laws_FnProvenance_k33]
  ⟨[(1,.sl (.one (.int .u8)) v1),(5,.sl T_Deed v5),(6,.sl (.one .str) v6),(11,.view 11 0 r11.length),(15,.loc 15 0 0),(20,.sl (.one .str) v20)],[(5,none),(6,none),(11,some (.sl (.one (.int .i64)) r11)),(15,some (.var 4 (.agg [.str r15_0,.str r15_1,.int .i64 r15_2,.int .i64 r15_3]))),(20,none)]⟩
noncomputable def laws_FnProvenance_p7  (v1 : List Int) (v5 : List T_Deed.ty) (v6 : List (List UInt8)) (v20 : List (List UInt8)) (v24 : Int) (r11 : List Int) (r15_0 : List UInt8) (r15_1 : List UInt8) (r15_2 : Int) (r15_3 : Int) : Option (Bool) :=
 goL laws_FnProvenance_D laws_FnProvenance_H (vleave laws_FnProvenance_ir [.d (.one (.sl (.one (.int .u8)))),.d (.one (.sl (.one (.int .u8))))] [.d (.one .bool)] [] []) [.c laws_FnProvenance_k12,.l laws_FnProvenance_k13,.e 6,.c laws_FnProvenance_k32]
  ⟨[(1,.sl (.one (.int .u8)) v1),(5,.sl T_Deed v5),(6,.sl (.one .str) v6),(11,.view 11 0 r11.length),(15,.loc 15 0 0),(20,.sl (.one .str) v20),(24,.int .i64 v24)],[(5,none),(6,none),(11,some (.sl (.one (.int .i64)) r11)),(15,some (.var 4 (.agg [.str r15_0,.str r15_1,.int .i64 r15_2,.int .i64 r15_3]))),(20,none)]⟩
noncomputable def laws_FnProvenance_p8  (v1 : List Int) (v5 : List T_Deed.ty) (v6 : List (List UInt8)) (v20 : List (List UInt8)) (v24 : Int) (v25 : Bool) (v26 : Int) (r11 : List Int) (r15_0 : List UInt8) (r15_1 : List UInt8) (r15_2 : Int) (r15_3 : Int) : Option (Bool) :=
 goL laws_FnProvenance_D laws_FnProvenance_H (vleave laws_FnProvenance_ir [.d (.one (.sl (.one (.int .u8)))),.d (.one (.sl (.one (.int .u8))))] [.d (.one .bool)] [] []) [.c laws_FnProvenance_k8,.l laws_FnProvenance_k9,.e 8,.c laws_FnProvenance_k10,.e 7,.c laws_FnProvenance_k11,.l laws_FnProvenance_k13,.e 6,.c laws_FnProvenance_k32]
  ⟨[(1,.sl (.one (.int .u8)) v1),(5,.sl T_Deed v5),(6,.sl (.one .str) v6),(11,.view 11 0 r11.length),(15,.loc 15 0 0),(20,.sl (.one .str) v20),(24,.int .i64 v24),(25,.bool v25),(26,.int .i64 v26)],[(5,none),(6,none),(11,some (.sl (.one (.int .i64)) r11)),(15,some (.var 4 (.agg [.str r15_0,.str r15_1,.int .i64 r15_2,.int .i64 r15_3]))),(20,none)]⟩
noncomputable def laws_FnProvenance_p9  (v5 : List T_Deed.ty) (v30 : Int) (v31 : List UInt8) (v32 : Int) (v33 : List UInt8) (v34 : Int) (r11 : List Int) : Option (Bool) :=
 goL laws_FnProvenance_D laws_FnProvenance_H (vleave laws_FnProvenance_ir [.d (.one (.sl (.one (.int .u8)))),.d (.one (.sl (.one (.int .u8))))] [.d (.one .bool)] [] []) [.c laws_FnProvenance_k14,.l laws_FnProvenance_k15,.e 10,.c laws_FnProvenance_k31]
  ⟨[(5,.sl T_Deed v5),(11,.view 11 0 r11.length),(30,.int .i64 v30),(31,.str v31),(32,.int .i64 v32),(33,.str v33),(34,.int .i64 v34)],[(5,none),(11,some (.sl (.one (.int .i64)) r11))]⟩
noncomputable def laws_FnProvenance_p10  (v5 : List T_Deed.ty) (v35 : Int) (v36 : Int) (v37 : Int) (r11 : List Int) : Option (Bool) :=
 goL laws_FnProvenance_D laws_FnProvenance_H (vleave laws_FnProvenance_ir [.d (.one (.sl (.one (.int .u8)))),.d (.one (.sl (.one (.int .u8))))] [.d (.one .bool)] [] []) [.c laws_FnProvenance_k30]
  ⟨[(5,.sl T_Deed v5),(11,.view 11 0 r11.length),(35,.int .i64 v35),(36,.int .i64 v36),(37,.int .i64 v37)],[(5,none),(11,some (.sl (.one (.int .i64)) r11))]⟩
noncomputable def laws_FnProvenance_p11  (v5 : List T_Deed.ty) (v35 : Int) (v36 : Int) (v37 : Int) (v38 : Int) (r11 : List Int) : Option (Bool) :=
 goL laws_FnProvenance_D laws_FnProvenance_H (vleave laws_FnProvenance_ir [.d (.one (.sl (.one (.int .u8)))),.d (.one (.sl (.one (.int .u8))))] [.d (.one .bool)] [] []) [.c laws_FnProvenance_k16,.l laws_FnProvenance_k17,.e 12,.c laws_FnProvenance_k29]
  ⟨[(5,.sl T_Deed v5),(11,.view 11 0 r11.length),(35,.int .i64 v35),(36,.int .i64 v36),(37,.int .i64 v37),(38,.int .i64 v38)],[(5,none),(11,some (.sl (.one (.int .i64)) r11))]⟩
noncomputable def laws_FnProvenance_p12  (v5 : List T_Deed.ty) (v35 : Int) (v37 : Int) (v40 : List (List Int)) (v42 : Int) (r11 : List Int) : Option (Bool) :=
 goL laws_FnProvenance_D laws_FnProvenance_H (vleave laws_FnProvenance_ir [.d (.one (.sl (.one (.int .u8)))),.d (.one (.sl (.one (.int .u8))))] [.d (.one .bool)] [] []) [.c laws_FnProvenance_k20,.l laws_FnProvenance_k21,.e 14,.c laws_FnProvenance_k28]
  ⟨[(5,.sl T_Deed v5),(11,.view 11 0 r11.length),(35,.int .i64 v35),(37,.int .i64 v37),(40,.sl (.one (.sl (.one (.int .i64)))) v40),(42,.int .i64 v42)],[(5,none),(11,some (.sl (.one (.int .i64)) r11)),(40,none)]⟩
noncomputable def laws_FnProvenance_p13  (v5 : List T_Deed.ty) (v35 : Int) (v37 : Int) (v40 : List (List Int)) (v42 : Int) (v43 : List Int) (r11 : List Int) : Option (Bool) :=
 goL laws_FnProvenance_D laws_FnProvenance_H (vleave laws_FnProvenance_ir [.d (.one (.sl (.one (.int .u8)))),.d (.one (.sl (.one (.int .u8))))] [.d (.one .bool)] [] []) [.c laws_FnProvenance_k18,.e 15,.c laws_FnProvenance_k19,.l laws_FnProvenance_k21,.e 14,.c laws_FnProvenance_k28]
  ⟨[(5,.sl T_Deed v5),(11,.view 11 0 r11.length),(35,.int .i64 v35),(37,.int .i64 v37),(40,.sl (.one (.sl (.one (.int .i64)))) v40),(42,.int .i64 v42),(43,.sl (.one (.int .i64)) v43)],[(5,none),(11,some (.sl (.one (.int .i64)) r11)),(40,none),(43,none)]⟩
noncomputable def laws_FnProvenance_p14  (v5 : List T_Deed.ty) (v35 : Int) (v37 : Int) (v44 : List (List UInt8)) (v46 : Int) (r11 : List Int) : Option (Bool) :=
 goL laws_FnProvenance_D laws_FnProvenance_H (vleave laws_FnProvenance_ir [.d (.one (.sl (.one (.int .u8)))),.d (.one (.sl (.one (.int .u8))))] [.d (.one .bool)] [] []) [.c laws_FnProvenance_k25,.l laws_FnProvenance_k26,.e 16,.c laws_FnProvenance_k27]
  ⟨[(5,.sl T_Deed v5),(11,.view 11 0 r11.length),(35,.int .i64 v35),(37,.int .i64 v37),(44,.sl (.one .str) v44),(46,.int .i64 v46)],[(5,none),(11,some (.sl (.one (.int .i64)) r11)),(44,none)]⟩
noncomputable def laws_FnProvenance_p15  (v5 : List T_Deed.ty) (v35 : Int) (v37 : Int) (v44 : List (List UInt8)) (v46 : Int) (v47 : Int) (r11 : List Int) : Option (Bool) :=
 goL laws_FnProvenance_D laws_FnProvenance_H (vleave laws_FnProvenance_ir [.d (.one (.sl (.one (.int .u8)))),.d (.one (.sl (.one (.int .u8))))] [.d (.one .bool)] [] []) [.c laws_FnProvenance_k22,.l laws_FnProvenance_k23,.e 18,.e 17,.c laws_FnProvenance_k24,.l laws_FnProvenance_k26,.e 16,.c laws_FnProvenance_k27]
  ⟨[(5,.sl T_Deed v5),(11,.view 11 0 r11.length),(35,.int .i64 v35),(37,.int .i64 v37),(44,.sl (.one .str) v44),(46,.int .i64 v46),(47,.int .i64 v47)],[(5,none),(11,some (.sl (.one (.int .i64)) r11)),(44,none)]⟩
theorem laws_FnProvenance_eq (a0 : List Int) (a1 : List Int) : laws_FnProvenance a0 a1 =
 (laws_r8Long a0 a1).bind fun x1 =>
  if x1 then
   some true
  else
   (spec_R8Deeds a0).bind fun x2 =>
    (impl_OwnersOf (x2.take x2.length)).bind fun x3 =>
     if (x3.2 != 0) then
      some false
     else
      if (!(decide ((x3.1.length : Int) > 0) == decide (((x2.take x2.length).length : Int) > 0))) then
       some false
      else
       (impl_ValidDeeds (x2.take x2.length)).bind fun x4 =>
        if (!x4) then
         some false
        else
         laws_FnProvenance_p0 a1 (x2.take x2.length) x3.1 :=
 (mk_f _ _ _ _ _ _ _ 4000).trans (by kernel_rfl)
theorem laws_FnProvenance_p0_eq  (v1 : List Int) (v5 : List T_Deed.ty) (v6 : List (List UInt8)) : laws_FnProvenance_p0 v1 v5 v6 =
 laws_FnProvenance_p1 v1 v5 v6 0 :=
 (goL_dn _ _ _ 4000 _ _).trans (by kernel_rfl)
theorem laws_FnProvenance_p1_eq  (v1 : List Int) (v5 : List T_Deed.ty) (v6 : List (List UInt8)) (v8 : Int) : laws_FnProvenance_p1 v1 v5 v6 v8 =
 if decide (v8 < (v5.length : Int)) then
  if decide (0 ≤ v8) then
   (v5[v8.toNat]?).bind fun x1 =>
    (impl_DeedText x1).bind fun x2 =>
     (impl_ReadDeed x2).bind fun x3 =>
      if (!x3.2) then
       some false
      else
       if decide (0 ≤ v8) then
        (v5[v8.toNat]?).bind fun x4 =>
         if (!((x3.1.1 == x4.1) && ((x3.1.2.1 == x4.2.1) && ((x3.1.2.2.1 == x4.2.2.1) && (x3.1.2.2.2.1 == x4.2.2.2.1))))) then
          some false
         else
          laws_FnProvenance_p1 v1 v5 v6 (IntKind.i64.wrap (v8 + 1))
       else
        none
  else
   none
 else
  if ((v5.length : Int) == 0) then
   some true
  else
   laws_FnProvenance_p2 v1 v5 v6 0 0 [] :=
 (goL_dn _ _ _ 4000 _ _).trans (by kernel_rfl)
theorem laws_FnProvenance_p2_eq  (v1 : List Int) (v5 : List T_Deed.ty) (v6 : List (List UInt8)) (v12 : Int) (v13 : Int) (r11 : List Int) : laws_FnProvenance_p2 v1 v5 v6 v12 v13 r11 =
 if decide (v13 < (v5.length : Int)) then
  if ((r11.length : Int) == 0) then
   (laws_r8At v1 v13 3).bind fun x1 =>
    if decide (x1 > 0) then
     laws_FnProvenance_p3 v1 v5 v6 v12 v13 r11
    else
     if (v13 == IntKind.i64.wrap ((v5.length : Int) - 1)) then
      if ((r11.length : Int) == 0) then
       laws_FnProvenance_p3 v1 v5 v6 v12 v13 r11
      else
       laws_FnProvenance_p2 v1 v5 v6 v12 (IntKind.i64.wrap (v13 + 1)) r11
     else
      laws_FnProvenance_p2 v1 v5 v6 v12 (IntKind.i64.wrap (v13 + 1)) r11
  else
   if decide (0 ≤ IntKind.i64.wrap ((r11.length : Int) - 1)) && decide (IntKind.i64.wrap ((r11.length : Int) - 1) < (r11.length : Int)) then
    (r11[(IntKind.i64.wrap ((r11.length : Int) - 1)).toNat]?).bind fun x2 =>
     if decide (0 ≤ x2) then
      (v5[x2.toNat]?).bind fun x3 =>
       if decide (0 ≤ v13) then
        (v5[v13.toNat]?).bind fun x4 =>
         if (x3.2.1 == x4.1) then
          (laws_r8At v1 v13 3).bind fun x5 =>
           if decide (x5 > 0) then
            laws_FnProvenance_p3 v1 v5 v6 v12 v13 r11
           else
            if (v13 == IntKind.i64.wrap ((v5.length : Int) - 1)) then
             if ((r11.length : Int) == 0) then
              laws_FnProvenance_p3 v1 v5 v6 v12 v13 r11
             else
              laws_FnProvenance_p2 v1 v5 v6 v12 (IntKind.i64.wrap (v13 + 1)) r11
            else
             laws_FnProvenance_p2 v1 v5 v6 v12 (IntKind.i64.wrap (v13 + 1)) r11
         else
          laws_FnProvenance_p2 v1 v5 v6 v12 (IntKind.i64.wrap (v13 + 1)) r11
       else
        none
     else
      none
   else
    none
 else
  if decide (0 < (r11.length : Int)) then
   (r11[0]?).bind fun x6 =>
    if decide (0 ≤ x6) then
     (v5[x6.toNat]?).bind fun x7 =>
      if decide (0 ≤ IntKind.i64.wrap ((r11.length : Int) - 1)) && decide (IntKind.i64.wrap ((r11.length : Int) - 1) < (r11.length : Int)) then
       (r11[(IntKind.i64.wrap ((r11.length : Int) - 1)).toNat]?).bind fun x8 =>
        if decide (0 ≤ x8) then
         (v5[x8.toNat]?).bind fun x9 =>
          (impl_BestChain v5 x7.1 x9.2.1).bind fun x10 =>
           (impl_ReachedOwners v5 x7.1).bind fun x11 =>
            (impl_IsChain v5 (r11.take r11.length)).bind fun x12 =>
             if (!x12) then
              some false
             else
              if (x10.2.2 != 0) then
               some false
              else
               if decide (x10.2.1 > v12) then
                some false
               else
                (spec_IsChain v5 (x10.1.take x10.1.length)).bind fun x13 =>
                 if (!x13) then
                  some false
                 else
                  if (x11.2 != 0) then
                   some false
                  else
                   laws_FnProvenance_p4 v1 v5 v6 x10.2.1 x11.1 r11 x7.1 x7.2.1 x7.2.2.1 x7.2.2.2.1 x9.1 x9.2.1 x9.2.2.1 x9.2.2.2.1 x10.1
        else
         none
      else
       none
    else
     none
  else
   none :=
 (goL_dn _ _ _ 4000 _ _).trans (by kernel_rfl)
theorem laws_FnProvenance_p3_eq  (v1 : List Int) (v5 : List T_Deed.ty) (v6 : List (List UInt8)) (v12 : Int) (v13 : Int) (r11 : List Int) : laws_FnProvenance_p3 v1 v5 v6 v12 v13 r11 =
 if decide (r11.length + 1 < lim) then
  if decide (0 ≤ v13) then
   (v5[v13.toNat]?).bind fun x1 =>
    laws_FnProvenance_p2 v1 v5 v6 (IntKind.i64.wrap (v12 + x1.2.2.2.1)) (IntKind.i64.wrap (v13 + 1)) ((r11.take r11.length) ++ [v13])
  else
   none
 else
  none :=
 (goL_dn _ _ _ 4000 _ _).trans (by kernel_rfl)
theorem laws_FnProvenance_p4_eq  (v1 : List Int) (v5 : List T_Deed.ty) (v6 : List (List UInt8)) (v18 : Int) (v20 : List (List UInt8)) (r11 : List Int) (r15_0 : List UInt8) (r15_1 : List UInt8) (r15_2 : Int) (r15_3 : Int) (r16_0 : List UInt8) (r16_1 : List UInt8) (r16_2 : Int) (r16_3 : Int) (r17 : List Int) : laws_FnProvenance_p4 v1 v5 v6 v18 v20 r11 r15_0 r15_1 r15_2 r15_3 r16_0 r16_1 r16_2 r16_3 r17 =
 laws_FnProvenance_p5 v1 v5 v6 v18 v20 0 0 r11 r15_0 r15_1 r15_2 r15_3 r16_0 r16_1 r16_2 r16_3 r17 :=
 (goL_dn _ _ _ 4000 _ _).trans (by kernel_rfl)
theorem laws_FnProvenance_p5_eq  (v1 : List Int) (v5 : List T_Deed.ty) (v6 : List (List UInt8)) (v18 : Int) (v20 : List (List UInt8)) (v22 : Int) (v23 : Int) (r11 : List Int) (r15_0 : List UInt8) (r15_1 : List UInt8) (r15_2 : Int) (r15_3 : Int) (r16_0 : List UInt8) (r16_1 : List UInt8) (r16_2 : Int) (r16_3 : Int) (r17 : List Int) : laws_FnProvenance_p5 v1 v5 v6 v18 v20 v22 v23 r11 r15_0 r15_1 r15_2 r15_3 r16_0 r16_1 r16_2 r16_3 r17 =
 if decide (v23 < (r17.length : Int)) then
  if decide (0 ≤ v23) && decide (v23 < (r17.length : Int)) then
   (r17[v23.toNat]?).bind fun x1 =>
    if decide (0 ≤ x1) then
     (v5[x1.toNat]?).bind fun x2 =>
      laws_FnProvenance_p5 v1 v5 v6 v18 v20 (IntKind.i64.wrap (v22 + x2.2.2.2.1)) (IntKind.i64.wrap (v23 + 1)) r11 r15_0 r15_1 r15_2 r15_3 r16_0 r16_1 r16_2 r16_3 r17
    else
     none
  else
   none
 else
  if (v22 != v18) then
   some false
  else
   if decide (0 < (r17.length : Int)) then
    (r17[0]?).bind fun x3 =>
     if decide (0 ≤ x3) then
      (v5[x3.toNat]?).bind fun x4 =>
       if (!(x4.1 == r15_0)) then
        some false
       else
        if decide (0 ≤ IntKind.i64.wrap ((r17.length : Int) - 1)) && decide (IntKind.i64.wrap ((r17.length : Int) - 1) < (r17.length : Int)) then
         (r17[(IntKind.i64.wrap ((r17.length : Int) - 1)).toNat]?).bind fun x5 =>
          if decide (0 ≤ x5) then
           (v5[x5.toNat]?).bind fun x6 =>
            if (!(x6.2.1 == r16_1)) then
             some false
            else
             laws_FnProvenance_p6 v1 v5 v6 v20 r11 r15_0 r15_1 r15_2 r15_3
          else
           none
        else
         none
     else
      none
   else
    none :=
 (goL_dn _ _ _ 4000 _ _).trans (by kernel_rfl)
theorem laws_FnProvenance_p6_eq  (v1 : List Int) (v5 : List T_Deed.ty) (v6 : List (List UInt8)) (v20 : List (List UInt8)) (r11 : List Int) (r15_0 : List UInt8) (r15_1 : List UInt8) (r15_2 : Int) (r15_3 : Int) : laws_FnProvenance_p6 v1 v5 v6 v20 r11 r15_0 r15_1 r15_2 r15_3 =
 laws_FnProvenance_p7 v1 v5 v6 v20 0 r11 r15_0 r15_1 r15_2 r15_3 :=
 (goL_dn _ _ _ 4000 _ _).trans (by kernel_rfl)
theorem laws_FnProvenance_p7_eq  (v1 : List Int) (v5 : List T_Deed.ty) (v6 : List (List UInt8)) (v20 : List (List UInt8)) (v24 : Int) (r11 : List Int) (r15_0 : List UInt8) (r15_1 : List UInt8) (r15_2 : Int) (r15_3 : Int) : laws_FnProvenance_p7 v1 v5 v6 v20 v24 r11 r15_0 r15_1 r15_2 r15_3 =
 if decide (v24 < (v6.length : Int)) then
  laws_FnProvenance_p8 v1 v5 v6 v20 v24 false 0 r11 r15_0 r15_1 r15_2 r15_3
 else
  (laws_r8Wide v1 30 300).bind fun x1 =>
   (impl_OwnerIn v5 (r11.take r11.length) (IntKind.i64.wrap (1690 + x1))).bind fun x2 =>
    laws_FnProvenance_p9 v5 (IntKind.i64.wrap (1690 + x1)) x2.1 x2.2 r15_0 0 r11 :=
 (goL_dn _ _ _ 4000 _ _).trans (by kernel_rfl)
theorem laws_FnProvenance_p8_eq  (v1 : List Int) (v5 : List T_Deed.ty) (v6 : List (List UInt8)) (v20 : List (List UInt8)) (v24 : Int) (v25 : Bool) (v26 : Int) (r11 : List Int) (r15_0 : List UInt8) (r15_1 : List UInt8) (r15_2 : Int) (r15_3 : Int) : laws_FnProvenance_p8 v1 v5 v6 v20 v24 v25 v26 r11 r15_0 r15_1 r15_2 r15_3 =
 if decide (v26 < (v20.length : Int)) then
  if v25 then
   laws_FnProvenance_p8 v1 v5 v6 v20 v24 true (IntKind.i64.wrap (v26 + 1)) r11 r15_0 r15_1 r15_2 r15_3
  else
   if decide (0 ≤ v26) then
    (v20[v26.toNat]?).bind fun x1 =>
     if decide (0 ≤ v24) then
      (v6[v24.toNat]?).bind fun x2 =>
       laws_FnProvenance_p8 v1 v5 v6 v20 v24 (x1 == x2) (IntKind.i64.wrap (v26 + 1)) r11 r15_0 r15_1 r15_2 r15_3
     else
      none
   else
    none
 else
  if decide (0 ≤ v24) then
   (v6[v24.toNat]?).bind fun x3 =>
    (spec_BestChain v5 r15_0 x3).bind fun x4 =>
     if (!(v25 == (x4.2.2 == 0))) then
      some false
     else
      if decide (v24 > 0) then
       if decide (0 ≤ IntKind.i64.wrap (v24 - 1)) then
        (v6[(IntKind.i64.wrap (v24 - 1)).toNat]?).bind fun x5 =>
         if decide (0 ≤ v24) then
          (v6[v24.toNat]?).bind fun x6 =>
           if (!Op.bytesLess x5 x6) then
            some false
           else
            laws_FnProvenance_p7 v1 v5 v6 v20 (IntKind.i64.wrap (v24 + 1)) r11 r15_0 r15_1 r15_2 r15_3
         else
          none
       else
        none
      else
       laws_FnProvenance_p7 v1 v5 v6 v20 (IntKind.i64.wrap (v24 + 1)) r11 r15_0 r15_1 r15_2 r15_3
  else
   none :=
 (goL_dn _ _ _ 4000 _ _).trans (by kernel_rfl)
theorem laws_FnProvenance_p9_eq  (v5 : List T_Deed.ty) (v30 : Int) (v31 : List UInt8) (v32 : Int) (v33 : List UInt8) (v34 : Int) (r11 : List Int) : laws_FnProvenance_p9 v5 v30 v31 v32 v33 v34 r11 =
 if decide (v34 < (r11.length : Int)) then
  if decide (0 ≤ v34) && decide (v34 < (r11.length : Int)) then
   (r11[v34.toNat]?).bind fun x1 =>
    if decide (0 ≤ x1) then
     (v5[x1.toNat]?).bind fun x2 =>
      if decide (x2.2.2.1 ≤ v30) then
       if decide (0 ≤ v34) && decide (v34 < (r11.length : Int)) then
        (r11[v34.toNat]?).bind fun x3 =>
         if decide (0 ≤ x3) then
          (v5[x3.toNat]?).bind fun x4 =>
           laws_FnProvenance_p9 v5 v30 v31 v32 x4.2.1 (IntKind.i64.wrap (v34 + 1)) r11
         else
          none
       else
        none
      else
       laws_FnProvenance_p9 v5 v30 v31 v32 v33 (IntKind.i64.wrap (v34 + 1)) r11
    else
     none
  else
   none
 else
  (impl_LongestHold v5 (r11.take r11.length)).bind fun x5 =>
   if (v32 != 0) then
    some false
   else
    if (!(v31 == v33)) then
     some false
    else
     if (!((x5.2.2 == 0) == decide ((r11.length : Int) > 1))) then
      some false
     else
      laws_FnProvenance_p10 v5 x5.1 x5.2.1 x5.2.2 r11 :=
 (goL_dn _ _ _ 4000 _ _).trans (by kernel_rfl)
theorem laws_FnProvenance_p10_eq  (v5 : List T_Deed.ty) (v35 : Int) (v36 : Int) (v37 : Int) (r11 : List Int) : laws_FnProvenance_p10 v5 v35 v36 v37 r11 =
 laws_FnProvenance_p11 v5 v35 v36 v37 1 r11 :=
 (goL_dn _ _ _ 4000 _ _).trans (by kernel_rfl)
theorem laws_FnProvenance_p11_eq  (v5 : List T_Deed.ty) (v35 : Int) (v36 : Int) (v37 : Int) (v38 : Int) (r11 : List Int) : laws_FnProvenance_p11 v5 v35 v36 v37 v38 r11 =
 if decide (v38 < (r11.length : Int)) then
  if decide (0 ≤ v38) && decide (v38 < (r11.length : Int)) then
   (r11[v38.toNat]?).bind fun x1 =>
    if decide (0 ≤ x1) then
     (v5[x1.toNat]?).bind fun x2 =>
      if decide (0 ≤ IntKind.i64.wrap (v38 - 1)) && decide (IntKind.i64.wrap (v38 - 1) < (r11.length : Int)) then
       (r11[(IntKind.i64.wrap (v38 - 1)).toNat]?).bind fun x3 =>
        if decide (0 ≤ x3) then
         (v5[x3.toNat]?).bind fun x4 =>
          if decide (IntKind.i64.wrap (x2.2.2.1 - x4.2.2.1) > v36) then
           some false
          else
           if (v38 == v35) then
            if (IntKind.i64.wrap (x2.2.2.1 - x4.2.2.1) != v36) then
             some false
            else
             laws_FnProvenance_p11 v5 v35 v36 v37 (IntKind.i64.wrap (v38 + 1)) r11
           else
            laws_FnProvenance_p11 v5 v35 v36 v37 (IntKind.i64.wrap (v38 + 1)) r11
        else
         none
      else
       none
    else
     none
  else
   none
 else
  (impl_RivalDeeds v5).bind fun x5 =>
   if (x5.2 != 0) then
    some false
   else
    laws_FnProvenance_p12 v5 v35 v37 x5.1 0 r11 :=
 (goL_dn _ _ _ 4000 _ _).trans (by kernel_rfl)
theorem laws_FnProvenance_p12_eq  (v5 : List T_Deed.ty) (v35 : Int) (v37 : Int) (v40 : List (List Int)) (v42 : Int) (r11 : List Int) : laws_FnProvenance_p12 v5 v35 v37 v40 v42 r11 =
 if decide (v42 < (v40.length : Int)) then
  if decide (0 ≤ v42) then
   (v40[v42.toNat]?).bind fun x1 =>
    if ((x1.length : Int) != 2) then
     some false
    else
     (x1[0]?).bind fun x2 =>
      if decide (x2 < 0) then
       some false
      else
       (x1[0]?).bind fun x3 =>
        (x1[1]?).bind fun x4 =>
         if decide (x3 ≥ x4) then
          some false
         else
          (x1[1]?).bind fun x5 =>
           if decide (x5 ≥ (v5.length : Int)) then
            some false
           else
            (x1[0]?).bind fun x6 =>
             if decide (0 ≤ x6) then
              (v5[x6.toNat]?).bind fun x7 =>
               (x1[1]?).bind fun x8 =>
                if decide (0 ≤ x8) then
                 (v5[x8.toNat]?).bind fun x9 =>
                  if (!(x7.1 == x9.1)) then
                   some false
                  else
                   laws_FnProvenance_p13 v5 v35 v37 v40 v42 x1 r11
                else
                 none
             else
              none
  else
   none
 else
  (impl_FirstOwners v5).bind fun x10 =>
   if (x10.2 != 0) then
    some false
   else
    laws_FnProvenance_p14 v5 v35 v37 x10.1 0 r11 :=
 (goL_dn _ _ _ 4000 _ _).trans (by kernel_rfl)
theorem laws_FnProvenance_p13_eq  (v5 : List T_Deed.ty) (v35 : Int) (v37 : Int) (v40 : List (List Int)) (v42 : Int) (v43 : List Int) (r11 : List Int) : laws_FnProvenance_p13 v5 v35 v37 v40 v42 v43 r11 =
 (spec_IsChain v5 v43).bind fun x1 =>
  if x1 then
   some false
  else
   laws_FnProvenance_p12 v5 v35 v37 v40 (IntKind.i64.wrap (v42 + 1)) r11 :=
 (goL_dn _ _ _ 4000 _ _).trans (by kernel_rfl)
theorem laws_FnProvenance_p14_eq  (v5 : List T_Deed.ty) (v35 : Int) (v37 : Int) (v44 : List (List UInt8)) (v46 : Int) (r11 : List Int) : laws_FnProvenance_p14 v5 v35 v37 v44 v46 r11 =
 if decide (v46 < (v44.length : Int)) then
  laws_FnProvenance_p15 v5 v35 v37 v44 v46 0 r11
 else
  if (v37 != 0) then
   some true
  else
   if decide (v35 ≥ 1) then
    some (decide (v35 < (r11.length : Int)))
   else
    some false :=
 (goL_dn _ _ _ 4000 _ _).trans (by kernel_rfl)
theorem laws_FnProvenance_p15_eq  (v5 : List T_Deed.ty) (v35 : Int) (v37 : Int) (v44 : List (List UInt8)) (v46 : Int) (v47 : Int) (r11 : List Int) : laws_FnProvenance_p15 v5 v35 v37 v44 v46 v47 r11 =
 if decide (v47 < (v5.length : Int)) then
  if decide (0 ≤ v47) then
   (v5[v47.toNat]?).bind fun x1 =>
    if decide (0 ≤ v46) then
     (v44[v46.toNat]?).bind fun x2 =>
      if (x1.2.1 == x2) then
       some false
      else
       laws_FnProvenance_p15 v5 v35 v37 v44 v46 (IntKind.i64.wrap (v47 + 1)) r11
    else
     none
  else
   none
 else
  laws_FnProvenance_p14 v5 v35 v37 v44 (IntKind.i64.wrap (v46 + 1)) r11 :=
 (goL_dn _ _ _ 4000 _ _).trans (by kernel_rfl)
end Go.Ab.P
