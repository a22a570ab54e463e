/- Functions of the program: abstract forms, and what their runs give. Conditions: none. -/
import Derived.Test.YtfmleilgdgmpeaaGreatDoorLD
import Derived.Test.YtfmleilgdgmpeaaGreatDoorL8
set_option maxRecDepth 100000
set_option linter.unusedVariables false
namespace Go.Ab.P
open Go.Ab
@[reducible] def T_Entry : ET := .agg (.cons (.int .i64) (.cons .str (.cons .str (.cons (.int .i64) .nil))))
@[reducible] def T_l00Src : ET := .agg (.cons (.sl (.one (.int .u8))) (.cons (.int .i64) (.cons (.int .u64) .nil)))
def laws_r8Long_ir : Fn := { np := 2,io := [],res := [.t 4],own := [false],body :=
 (.seq (.reg false [.V 4 (.asg (.c (.bool false)))] [0,1] []) (.seq (.reg false [.V 5 (.mv (.t 0)),.V 6 (.len (.t 5)),.V 7 (.bin .gtr (.t 6) (.c (.int .i64 1048576))),.V 8 (.mv (.t 7)),.G 9 (.mv (.t 1)) 3 false,.G 10 (.len (.t 9)) 3 false,.G 11 (.bin .gtr (.t 10) (.c (.int .i64 1048576))) 3 false,.V 12 (.pick (.t 8) (.c (.bool true)) (.t 11)),.V 4 (.asg (.t 12))] [4] []) .ret)) }
noncomputable def laws_r8Long_D : List (Nat × Callee) := []
def laws_r8Long_H : List (Nat × ET) := [(5,(.one (.int .u8))),(9,(.one (.int .u8)))]
noncomputable def laws_r8Long_c : Callee := mkCallee laws_r8Long_D laws_r8Long_H laws_r8Long_ir [.d (.one (.sl (.one (.int .u8)))),.d (.one (.sl (.one (.int .u8))))] [.d (.one .bool)] []
noncomputable def laws_r8Long (a0 : List Int) (a1 : List Int) : Option (Bool) := laws_r8Long_c.f (a0,a1,())
theorem laws_r8Long_eq (a0 : List Int) (a1 : List Int) : laws_r8Long a0 a1 =
 if decide ((a0.length : Int) > 1048576) then
  some true
 else
  some (decide ((a1.length : Int) > 1048576)) :=
 (mk_f _ _ _ _ _ _ _ 4000).trans (by kernel_rfl)
def spec_l00From_ir : Fn := { np := 1,io := [],res := [.t 2],own := [true],body :=
 (.seq (.reg false [.V 2 (.asg (.c (.cst (.pointer none))))] [0] []) (.seq (.reg false [.V 3 (.mv (.t 0)),.V 4 (.build [.nils 1,.int .i64 0,.int .u64 0] [(0,1,.t 3)]),.W 5 (.box 3 (.t 4)),.V 2 (.asg (.t 5))] [2] [5,6000]) .ret)) }
noncomputable def spec_l00From_D : List (Nat × Callee) := []
def spec_l00From_H : List (Nat × ET) := [(3,(.one (.int .u8)))]
noncomputable def spec_l00From_c : Callee := mkCallee spec_l00From_D spec_l00From_H spec_l00From_ir [.d (.one (.sl (.one (.int .u8))))] [.box T_l00Src] []
noncomputable def spec_l00From (a0 : List Int) : Option (T_l00Src.ty) := spec_l00From_c.f (a0,())
theorem spec_l00From_eq (a0 : List Int) : spec_l00From a0 =
 some (a0,0,0,()) :=
 (mk_f _ _ _ _ _ _ _ 4000).trans (by kernel_rfl)
def spec_l00Src_next_k0 : C :=
 .seq (.reg false [.V 25 (.mv (.t 0)),.V 26 (.nilck (.t 25)),.V 27 (.fa 1 (.t 26)),.V 28 (.ld none (.t 27)),.V 29 (.bin .add (.t 28) (.c (.int .i64 1))),.V 30 (.nilck (.t 25)),.V 31 (.fa 1 (.t 30)),⟨none,true,.sto 1 (.t 31) (.t 29),none,false,[]⟩] [0,3] [0,1000]) (.seq (.reg false [.V 32 (.mv (.t 0)),.V 33 (.mv (.t 0)),.V 34 (.nilck (.t 33)),.V 35 (.fa 2 (.t 34)),.V 36 (.ld none (.t 35)),.V 37 (.bin .mul (.t 36) (.c (.int .u64 6364136223846793005))),.V 38 (.mv (.t 3)),.V 39 (.conv (.int .u64) (.t 38)),.V 40 (.bin .add (.t 37) (.t 39)),.V 41 (.bin .add (.t 40) (.c (.int .u64 1442695040888963407))),.V 42 (.nilck (.t 32)),.V 43 (.fa 2 (.t 42)),⟨none,true,.sto 1 (.t 43) (.t 41),none,false,[]⟩] [0,3] [0,1000]) (.seq (.seq (.reg true [.V 44 (.mv (.t 0)),.V 45 (.nilck (.t 44)),.V 46 (.fa 1 (.t 45)),.V 47 (.ld none (.t 46)),.V 48 (.mv (.t 0)),.V 49 (.nilck (.t 48)),.V 50 (.fa 0 (.t 49)),.V 51 (.ld none (.t 50)),.V 52 (.len (.t 51)),.V 53 (.bin .leq (.t 47) (.t 52))] [0,3,53] [0,1000]) (.cond (.t 53) (.seq (.reg false [.V 54 (.mv (.t 3)),.V 2 (.asg (.t 54))] [0,2] [0,1000]) .ret) .skip)) (.seq (.reg false [.V 55 (.mv (.t 0)),.V 56 (.nilck (.t 55)),.V 57 (.fa 2 (.t 56)),.V 58 (.ld none (.t 57)),.V 59 (.bin .shr (.t 58) (.c (.int .u64 40))),.V 60 (.bin .and (.t 59) (.c (.int .u64 255))),.V 61 (.conv (.int .i64) (.t 60)),.V 2 (.asg (.t 61))] [0,2] [0,1000]) .ret)))
def spec_l00Src_next_ir : Fn := { np := 1,io := [true],res := [.t 2],own := [false],body :=
 (.seq (.reg false [.V 2 (.asg (.c (.int .i64 0)))] [0] [0,1000]) (.seq (.reg false [.V 3 (.asg (.c (.int .i64 0)))] [0,3] [0,1000]) (.seq (.seq (.reg true [.V 4 (.mv (.t 0)),.V 5 (.nilck (.t 4)),.V 6 (.fa 1 (.t 5)),.V 7 (.ld none (.t 6)),.V 8 (.mv (.t 0)),.V 9 (.nilck (.t 8)),.V 10 (.fa 0 (.t 9)),.V 11 (.ld none (.t 10)),.V 12 (.len (.t 11)),.V 13 (.bin .lss (.t 7) (.t 12))] [0,3,13] [0,1000]) (.cond (.t 13) (.reg true [.V 14 (.mv (.t 0)),.V 15 (.nilck (.t 14)),.V 16 (.fa 0 (.t 15)),.V 17 (.ld none (.t 16)),.V 18 (.mv (.t 0)),.V 19 (.nilck (.t 18)),.V 20 (.fa 1 (.t 19)),.V 21 (.ld none (.t 20)),.V 22 (.ia 1 (.t 17) (.t 21)),.V 23 (.ld none (.t 22)),.V 24 (.conv (.int .i64) (.t 23)),.V 3 (.asg (.t 24))] [0,3] [0,1000]) .skip)) (.norm [0,3] [0,1000] spec_l00Src_next_k0)))) }
noncomputable def spec_l00Src_next_D : List (Nat × Callee) := []
def spec_l00Src_next_H : List (Nat × ET) := [(11,(.one (.int .u8))),(17,(.one (.int .u8))),(51,(.one (.int .u8)))]
noncomputable def spec_l00Src_next_c : Callee := mkCallee spec_l00Src_next_D spec_l00Src_next_H spec_l00Src_next_ir [.box T_l00Src] [.d (.one (.int .i64))] [.box T_l00Src]
noncomputable def spec_l00Src_next (a0 : T_l00Src.ty) : Option (Int × T_l00Src.ty) := spec_l00Src_next_c.f (a0,())
noncomputable def spec_l00Src_next_p0  (v3 : Int) (r0_0 : List Int) (r0_1 : Int) (r0_2 : Int) : Option (Int × T_l00Src.ty) :=
 goL spec_l00Src_next_D spec_l00Src_next_H (vleave spec_l00Src_next_ir [.box T_l00Src] [.d (.one (.int .i64))] [.box T_l00Src] []) [.c spec_l00Src_next_k0]
  ⟨[(0,.loc 0 0 0),(3,.int .i64 v3)],[(0,some (.var 3 (.agg [.sl (.one (.int .u8)) r0_0,.int .i64 r0_1,.int .u64 r0_2]))),(1000,none)]⟩
theorem spec_l00Src_next_eq (a0 : T_l00Src.ty) : spec_l00Src_next a0 =
 if decide (a0.2.1 < (a0.1.length : Int)) then
  if decide (0 ≤ a0.2.1) then
   (a0.1[a0.2.1.toNat]?).bind fun x1 =>
    spec_l00Src_next_p0 (IntKind.i64.wrap x1) a0.1 a0.2.1 a0.2.2.1
  else
   none
 else
  spec_l00Src_next_p0 0 a0.1 a0.2.1 a0.2.2.1 :=
 (mk_f _ _ _ _ _ _ _ 4000).trans (by kernel_rfl)
theorem spec_l00Src_next_p0_eq  (v3 : Int) (r0_0 : List Int) (r0_1 : Int) (r0_2 : Int) : spec_l00Src_next_p0 v3 r0_0 r0_1 r0_2 =
 if decide (IntKind.i64.wrap (r0_1 + 1) ≤ (r0_0.length : Int)) then
  some (v3,(r0_0,IntKind.i64.wrap (r0_1 + 1),IntKind.u64.wrap ((IntKind.u64.wrap ((IntKind.u64.wrap (r0_2 * 6364136223846793005)) + (IntKind.u64.wrap v3))) + 1442695040888963407),()))
 else
  some (IntKind.i64.wrap (IntKind.u64.wrap ((BitVec.ofInt IntKind.u64.bits (Int.fdiv (IntKind.u64.wrap ((IntKind.u64.wrap ((IntKind.u64.wrap (r0_2 * 6364136223846793005)) + (IntKind.u64.wrap v3))) + 1442695040888963407)) (2 ^ (min (40 : Int).toNat IntKind.u64.bits))) &&& BitVec.ofInt IntKind.u64.bits 255).toNat : Int)),(r0_0,IntKind.i64.wrap (r0_1 + 1),IntKind.u64.wrap ((IntKind.u64.wrap ((IntKind.u64.wrap (r0_2 * 6364136223846793005)) + (IntKind.u64.wrap v3))) + 1442695040888963407),())) :=
 (goL_dn _ _ _ 4000 _ _).trans (by kernel_rfl)
def spec_l00Src_pick_ir : Fn := { np := 2,io := [true,false],res := [.t 4],own := [false],body :=
 (.seq (.reg false [.V 4 (.asg (.c (.int .i64 0)))] [0,1] [0,1000]) (.seq (.seq (.reg false [.V 6 (.mv (.t 1)),.V 7 (.bin .leq (.t 6) (.c (.int .i64 1)))] [0,1,7] [0,1000]) (.cond (.t 7) (.seq (.reg false [.V 4 (.asg (.c (.int .i64 0)))] [0,4] [0,1000]) .ret) .skip)) (.seq (.reg false [.V 8 (.mv (.t 0)),.W 9 (.call (.c (.fn 847 [])) [.t 8]),.V 5 (.asg (.t 9))] [0,1,5] [0,1000]) (.seq (.seq (.reg false [.V 10 (.mv (.t 1)),.V 11 (.bin .gtr (.t 10) (.c (.int .i64 200)))] [0,1,5,11] [0,1000]) (.cond (.t 11) (.reg false [.V 12 (.mv (.t 5)),.V 13 (.bin .mul (.t 12) (.c (.int .i64 256))),.V 14 (.mv (.t 0)),.W 15 (.call (.c (.fn 847 [])) [.t 14]),.V 16 (.bin .add (.t 13) (.t 15)),.V 5 (.asg (.t 16))] [0,1,5] [0,1000]) .skip)) (.seq (.reg false [.V 17 (.mv (.t 5)),.V 18 (.mv (.t 1)),.V 19 (.bin .rem (.t 17) (.t 18)),.V 4 (.asg (.t 19))] [0,4] [0,1000]) .ret))))) }
noncomputable def spec_l00Src_pick_D : List (Nat × Callee) := [(847,spec_l00Src_next_c)]
def spec_l00Src_pick_H : List (Nat × ET) := []
noncomputable def spec_l00Src_pick_c : Callee := mkCallee spec_l00Src_pick_D spec_l00Src_pick_H spec_l00Src_pick_ir [.box T_l00Src,.d (.one (.int .i64))] [.d (.one (.int .i64))] [.box T_l00Src]
noncomputable def spec_l00Src_pick (a0 : T_l00Src.ty) (a1 : Int) : Option (Int × T_l00Src.ty) := spec_l00Src_pick_c.f (a0,a1,())
theorem spec_l00Src_pick_eq (a0 : T_l00Src.ty) (a1 : Int) : spec_l00Src_pick a0 a1 =
 if decide (a1 ≤ 1) then
  some (0,a0)
 else
  (spec_l00Src_next a0).bind fun x1 =>
   if decide (a1 > 200) then
    (spec_l00Src_next (x1.2.1,x1.2.2.1,x1.2.2.2.1,())).bind fun x2 =>
     if decide (a1 = 0) then
      none
     else
      some ((IntKind.i64.wrap ((IntKind.i64.wrap (x1.1 * 256)) + x2.1)).tmod a1,(x2.2.1,x2.2.2.1,x2.2.2.2.1,()))
   else
    if decide (a1 = 0) then
     none
    else
     some (x1.1.tmod a1,(x1.2.1,x1.2.2.1,x1.2.2.2.1,())) :=
 (mk_f _ _ _ _ _ _ _ 4000).trans (by kernel_rfl)
def spec_l00Src_text_ir : Fn := { np := 2,io := [true,false],res := [.t 4],own := [false],body :=
 (.seq (.reg false [.V 4 (.asg (.c (.str [])))] [0,1] [0,1000]) (.seq (.reg false [.V 5 (.mv (.t 1)),.V 6 (.mv (.t 0)),.V 7 (.mv (.t 1)),.V 8 (.len (.t 7)),.W 9 (.call (.c (.fn 463 [])) [.t 6,.t 8]),.V 10 (.ia 1 (.t 5) (.t 9)),.V 11 (.ld none (.t 10)),.V 4 (.asg (.t 11))] [0,4] [0,1000]) .ret)) }
noncomputable def spec_l00Src_text_D : List (Nat × Callee) := [(463,spec_l00Src_pick_c)]
def spec_l00Src_text_H : List (Nat × ET) := [(5,(.one .str)),(7,(.one .str))]
noncomputable def spec_l00Src_text_c : Callee := mkCallee spec_l00Src_text_D spec_l00Src_text_H spec_l00Src_text_ir [.box T_l00Src,.d (.one (.sl (.one .str)))] [.d (.one .str)] [.box T_l00Src]
noncomputable def spec_l00Src_text (a0 : T_l00Src.ty) (a1 : List (List UInt8)) : Option (List UInt8 × T_l00Src.ty) := spec_l00Src_text_c.f (a0,a1,())
theorem spec_l00Src_text_eq (a0 : T_l00Src.ty) (a1 : List (List UInt8)) : spec_l00Src_text a0 a1 =
 (spec_l00Src_pick a0 (a1.length : Int)).bind fun x1 =>
  if decide (0 ≤ x1.1) then
   (a1[x1.1.toNat]?).bind fun x2 =>
    some (x2,(x1.2.1,x1.2.2.1,x1.2.2.2.1,()))
  else
   none :=
 (mk_f _ _ _ _ _ _ _ 4000).trans (by kernel_rfl)
def spec_l25DrawName_ir : Fn := { np := 1,io := [true],res := [.t 2],own := [false],body :=
 (.seq (.reg false [.V 2 (.asg (.c (.str [])))] [0] [0,1000]) (.seq (.reg false [.V 3 (.mv (.t 0)),.V 4 (.bsl 1 (.str []) 5 [(0,.c (.str [98,97,110,107])),(1,.c (.str [99,97,115,104])),(2,.c (.str [114,101,110,116])),(3,.c (.str [115,97,108,101,115])),(4,.c (.str [119,111,111,100]))]),.W 5 (.call (.c (.fn 557 [])) [.t 3,.t 4]),.V 2 (.asg (.t 5))] [0,2] [0,1000]) .ret)) }
noncomputable def spec_l25DrawName_D : List (Nat × Callee) := [(557,spec_l00Src_text_c)]
def spec_l25DrawName_H : List (Nat × ET) := [(4,(.one .str))]
noncomputable def spec_l25DrawName_c : Callee := mkCallee spec_l25DrawName_D spec_l25DrawName_H spec_l25DrawName_ir [.box T_l00Src] [.d (.one .str)] [.box T_l00Src]
noncomputable def spec_l25DrawName (a0 : T_l00Src.ty) : Option (List UInt8 × T_l00Src.ty) := spec_l25DrawName_c.f (a0,())
theorem spec_l25DrawName_eq (a0 : T_l00Src.ty) : spec_l25DrawName a0 =
 (spec_l00Src_text a0 [[98,97,110,107],[99,97,115,104],[114,101,110,116],[115,97,108,101,115],[119,111,111,100]]).bind fun x1 =>
  some (x1.1,(x1.2.1,x1.2.2.1,x1.2.2.2.1,())) :=
 (mk_f _ _ _ _ _ _ _ 4000).trans (by kernel_rfl)
def spec_l25DrawOne_ir : Fn := { np := 2,io := [true,false],res := [.cell 4 (some 4)],own := [false],body :=
 (.seq (.reg false [.W 4 (.alloc 4 (.agg [.int .i64 0,.str [],.str [],.int .i64 0]))] [0,1,4] [0,4,1000]) (.seq (.reg false [.V 6 (.mv (.t 1)),.V 7 (.mv (.t 0)),.W 8 (.call (.c (.fn 906 [])) [.t 7]),.V 9 (.mv (.t 0)),.W 10 (.call (.c (.fn 906 [])) [.t 9]),.V 11 (.build [.int .i64 0,.str [],.str [],.int .i64 0] [(0,1,.t 6),(1,1,.t 8),(2,1,.t 10)]),.W 5 (.alloc 4 (.agg [.int .i64 0,.str [],.str [],.int .i64 0])),⟨none,true,.sto 4 (.t 5) (.t 11),none,false,[]⟩] [0,4,5] [0,4,5,1000]) (.seq (.reg false [.V 12 (.mv (.t 0)),.W 13 (.call (.c (.fn 463 [])) [.t 12,.c (.int .i64 20)]),.V 14 (.bin .add (.c (.int .i64 1)) (.t 13)),.V 15 (.bin .mul (.c (.int .i64 100)) (.t 14)),.V 16 (.fa 3 (.t 5)),⟨none,true,.sto 1 (.t 16) (.t 15),none,false,[]⟩] [0,4,5] [0,4,5,1000]) (.seq (.seq (.reg false [.V 17 (.fa 1 (.t 5)),.V 18 (.ld none (.t 17)),.V 19 (.fa 2 (.t 5)),.V 20 (.ld none (.t 19)),.V 21 (.bin .eql (.t 18) (.t 20))] [0,4,5,21] [0,4,5,1000]) (.cond (.t 21) (.reg false [.V 22 (.fa 2 (.t 5)),⟨none,true,.sto 1 (.t 22) (.c (.str [116,111,111,108,115])),none,false,[]⟩] [0,4,5] [0,4,5,1000]) .skip)) (.seq (.reg false [.V 23 (.ld (some 4) (.t 5)),⟨none,true,.sto 4 (.t 4) (.t 23),none,false,[]⟩] [0,4] [0,4,1000]) .ret))))) }
noncomputable def spec_l25DrawOne_D : List (Nat × Callee) := [(463,spec_l00Src_pick_c),(906,spec_l25DrawName_c)]
def spec_l25DrawOne_H : List (Nat × ET) := []
noncomputable def spec_l25DrawOne_c : Callee := mkCallee spec_l25DrawOne_D spec_l25DrawOne_H spec_l25DrawOne_ir [.box T_l00Src,.d (.one (.int .i64))] [.d T_Entry] [.box T_l00Src]
noncomputable def spec_l25DrawOne (a0 : T_l00Src.ty) (a1 : Int) : Option (T_Entry.ty × T_l00Src.ty) := spec_l25DrawOne_c.f (a0,a1,())
theorem spec_l25DrawOne_eq (a0 : T_l00Src.ty) (a1 : Int) : spec_l25DrawOne a0 a1 =
 (spec_l25DrawName a0).bind fun x1 =>
  (spec_l25DrawName (x1.2.1,x1.2.2.1,x1.2.2.2.1,())).bind fun x2 =>
   (spec_l00Src_pick (x2.2.1,x2.2.2.1,x2.2.2.2.1,()) 20).bind fun x3 =>
    if (x1.1 == x2.1) then
     some ((a1,x1.1,[116,111,111,108,115],IntKind.i64.wrap (100 * (IntKind.i64.wrap (1 + x3.1))),()),(x3.2.1,x3.2.2.1,x3.2.2.2.1,()))
    else
     some ((a1,x1.1,x2.1,IntKind.i64.wrap (100 * (IntKind.i64.wrap (1 + x3.1))),()),(x3.2.1,x3.2.2.1,x3.2.2.2.1,())) :=
 (mk_f _ _ _ _ _ _ _ 4000).trans (by kernel_rfl)
def spec_l00Src_one_ir : Fn := { np := 2,io := [true,false],res := [.t 4],own := [false],body :=
 (.seq (.reg false [.V 4 (.asg (.c (.bool false)))] [0,1] [0,1000]) (.seq (.reg false [.V 5 (.mv (.t 0)),.V 6 (.mv (.t 1)),.W 7 (.call (.c (.fn 463 [])) [.t 5,.t 6]),.V 8 (.bin .eql (.t 7) (.c (.int .i64 0))),.V 4 (.asg (.t 8))] [0,4] [0,1000]) .ret)) }
noncomputable def spec_l00Src_one_D : List (Nat × Callee) := [(463,spec_l00Src_pick_c)]
def spec_l00Src_one_H : List (Nat × ET) := []
noncomputable def spec_l00Src_one_c : Callee := mkCallee spec_l00Src_one_D spec_l00Src_one_H spec_l00Src_one_ir [.box T_l00Src,.d (.one (.int .i64))] [.d (.one .bool)] [.box T_l00Src]
noncomputable def spec_l00Src_one (a0 : T_l00Src.ty) (a1 : Int) : Option (Bool × T_l00Src.ty) := spec_l00Src_one_c.f (a0,a1,())
theorem spec_l00Src_one_eq (a0 : T_l00Src.ty) (a1 : Int) : spec_l00Src_one a0 a1 =
 (spec_l00Src_pick a0 a1).bind fun x1 =>
  some ((x1.1 == 0),(x1.2.1,x1.2.2.1,x1.2.2.2.1,())) :=
 (mk_f _ _ _ _ _ _ _ 4000).trans (by kernel_rfl)
def spec_l25Draw_k0 : C :=
 .seq (.reg false [.V 27 (.mv (.t 3)),.V 28 (.mv (.t 0)),.V 29 (.mv (.t 3)),.V 30 (.len (.t 29)),.W 31 (.call (.c (.fn 463 [])) [.t 28,.t 30]),.V 32 (.ia 4 (.t 27) (.t 31)),.V 33 (.ld (some 4) (.t 32)),.W 7 (.alloc 4 (.agg [.int .i64 0,.str [],.str [],.int .i64 0])),⟨none,true,.sto 4 (.t 7) (.t 33),none,false,[]⟩] [0,3,4,5,6,7] [0,3,6,7,1000]) (.reg false [.V 34 (.mv (.t 4)),.V 35 (.fa 2 (.t 7)),.V 36 (.ld none (.t 35)),.V 37 (.fa 1 (.t 7)),.V 38 (.ld none (.t 37)),.V 39 (.fa 3 (.t 7)),.V 40 (.ld none (.t 39)),.V 41 (.build [.int .i64 0,.str [],.str [],.int .i64 0] [(0,1,.t 34),(1,1,.t 36),(2,1,.t 38),(3,1,.t 40)]),⟨none,true,.sto 4 (.t 6) (.t 41),none,false,[]⟩] [0,3,4,5,6] [0,3,6,1000])
def spec_l25Draw_k1 : C :=
 .seq (.reg false [.V 42 (.mv (.t 3)),.V 43 (.ld (some 4) (.t 6)),.V 44 (.bsl 4 (.agg [.int .i64 0,.str [],.str [],.int .i64 0]) 1 [(0,.t 43)]),.W 45 (.app 4 48 (.t 42) (.t 44)),.W 3 (.asg (.t 45))] [0,3,4,5] [0,3,1000]) (.reg false [.V 46 (.mv (.t 4)),.V 47 (.mv (.t 0)),.W 48 (.call (.c (.fn 463 [])) [.t 47,.c (.int .i64 9)]),.V 49 (.bin .add (.t 46) (.t 48)),.V 4 (.asg (.t 49))] [0,3,4,5] [0,3,1000])
def spec_l25Draw_k2 : C :=
 .norm [0,3,4,5,6] [0,3,6,1000] spec_l25Draw_k1
def spec_l25Draw_k3 : C :=
 .reg false [.V 15 (.mv (.t 5)),.V 16 (.bin .sub (.t 15) (.c (.int .i64 1))),.V 5 (.asg (.t 16))] [0,3,4,5] [0,3,1000]
def spec_l25Draw_k4 : C :=
 .seq (.seq (.reg false [.V 13 (.mv (.t 5)),.V 14 (.bin .gtr (.t 13) (.c (.int .i64 0)))] [0,3,4,5,14] [0,3,1000]) (.cond (.t 14) .skip (.exit 0))) (.seq (.block 1 (.seq (.reg false [.V 17 (.mv (.t 0)),.V 18 (.mv (.t 4)),.W 19 (.call (.c (.fn 618 [])) [.t 17,.t 18]),.W 6 (.alloc 4 (.agg [.int .i64 0,.str [],.str [],.int .i64 0])),⟨none,true,.sto 4 (.t 6) (.t 19),none,false,[]⟩] [0,3,4,5,6] [0,3,6,1000]) (.seq (.seq (.reg false [.V 20 (.mv (.t 3)),.V 21 (.len (.t 20)),.V 22 (.bin .gtr (.t 21) (.c (.int .i64 0))),.V 23 (.mv (.t 22)),.G 24 (.mv (.t 0)) 3 true,⟨some 25,true,.call (.c (.fn 642 [])) [.t 24,.c (.int .i64 5)],some (3,true),false,[]⟩,.V 26 (.pick (.t 23) (.t 25) (.c (.bool false)))] [0,3,4,5,6,26] [0,3,6,1000]) (.cond (.t 26) (.norm [0,3,4,5,6] [0,3,6,1000] spec_l25Draw_k0) .skip)) spec_l25Draw_k2))) spec_l25Draw_k3)
def spec_l25Draw_k5 : C :=
 .norm [0,3,4,5] [0,3,1000] spec_l25Draw_k4
def spec_l25Draw_k6 : C :=
 .seq (.reg false [.V 50 (.mv (.t 3)),.W 2 (.asg (.t 50))] [0,2] [0,2,3,1000]) .ret
def spec_l25Draw_ir : Fn := { np := 1,io := [true],res := [.t 2],own := [true],body :=
 (.seq (.reg false [.W 2 (.asg (.c (.nils 4)))] [0] [0,1000]) (.seq (.reg false [.V 8 (.bsl 4 (.agg [.int .i64 0,.str [],.str [],.int .i64 0]) 0 []),.W 3 (.asg (.t 8))] [0,3] [0,3,1000]) (.seq (.reg false [.V 9 (.mv (.t 0)),.W 10 (.call (.c (.fn 463 [])) [.t 9,.c (.int .i64 30)]),.V 4 (.asg (.t 10))] [0,3,4] [0,3,1000]) (.seq (.seq (.reg false [.V 11 (.mv (.t 0)),.W 12 (.call (.c (.fn 463 [])) [.t 11,.c (.int .i64 9)]),.V 5 (.asg (.t 12))] [0,3,4,5] [0,3,1000]) (.block 0 (.loop spec_l25Draw_k5))) spec_l25Draw_k6)))) }
noncomputable def spec_l25Draw_D : List (Nat × Callee) := [(463,spec_l00Src_pick_c),(618,spec_l25DrawOne_c),(642,spec_l00Src_one_c)]
def spec_l25Draw_H : List (Nat × ET) := [(2,T_Entry),(3,T_Entry),(8,T_Entry),(20,T_Entry),(27,T_Entry),(29,T_Entry),(42,T_Entry),(44,T_Entry),(45,T_Entry),(50,T_Entry)]
noncomputable def spec_l25Draw_c : Callee := mkCallee spec_l25Draw_D spec_l25Draw_H spec_l25Draw_ir [.box T_l00Src] [.tok T_Entry] [.box T_l00Src]
noncomputable def spec_l25Draw (a0 : T_l00Src.ty) : Option (List T_Entry.ty × T_l00Src.ty) := spec_l25Draw_c.f (a0,())
noncomputable def spec_l25Draw_p0  (v4 : Int) (v5 : Int) (r0_0 : List Int) (r0_1 : Int) (r0_2 : Int) (r3 : List T_Entry.ty) : Option (List T_Entry.ty × T_l00Src.ty) :=
 goL spec_l25Draw_D spec_l25Draw_H (vleave spec_l25Draw_ir [.box T_l00Src] [.tok T_Entry] [.box T_l00Src] []) [.c spec_l25Draw_k4,.l spec_l25Draw_k5,.e 0,.c spec_l25Draw_k6]
  ⟨[(0,.loc 0 0 0),(3,.view 3 0 r3.length),(4,.int .i64 v4),(5,.int .i64 v5)],[(0,some (.var 3 (.agg [.sl (.one (.int .u8)) r0_0,.int .i64 r0_1,.int .u64 r0_2]))),(3,some (.sl T_Entry r3)),(1000,none)]⟩
noncomputable def spec_l25Draw_p1  (v4 : Int) (v5 : Int) (r0_0 : List Int) (r0_1 : Int) (r0_2 : Int) (r3 : List T_Entry.ty) (r6_0 : Int) (r6_1 : List UInt8) (r6_2 : List UInt8) (r6_3 : Int) : Option (List T_Entry.ty × T_l00Src.ty) :=
 goL spec_l25Draw_D spec_l25Draw_H (vleave spec_l25Draw_ir [.box T_l00Src] [.tok T_Entry] [.box T_l00Src] []) [.c spec_l25Draw_k0,.c spec_l25Draw_k2,.e 1,.c spec_l25Draw_k3,.l spec_l25Draw_k5,.e 0,.c spec_l25Draw_k6]
  ⟨[(0,.loc 0 0 0),(3,.view 3 0 r3.length),(4,.int .i64 v4),(5,.int .i64 v5),(6,.loc 6 0 0)],[(0,some (.var 3 (.agg [.sl (.one (.int .u8)) r0_0,.int .i64 r0_1,.int .u64 r0_2]))),(3,some (.sl T_Entry r3)),(6,some (.var 4 (.agg [.int .i64 r6_0,.str r6_1,.str r6_2,.int .i64 r6_3]))),(1000,none)]⟩
noncomputable def spec_l25Draw_p2  (v4 : Int) (v5 : Int) (r0_0 : List Int) (r0_1 : Int) (r0_2 : Int) (r3 : List T_Entry.ty) (r6_0 : Int) (r6_1 : List UInt8) (r6_2 : List UInt8) (r6_3 : Int) : Option (List T_Entry.ty × T_l00Src.ty) :=
 goL spec_l25Draw_D spec_l25Draw_H (vleave spec_l25Draw_ir [.box T_l00Src] [.tok T_Entry] [.box T_l00Src] []) [.c spec_l25Draw_k1,.e 1,.c spec_l25Draw_k3,.l spec_l25Draw_k5,.e 0,.c spec_l25Draw_k6]
  ⟨[(0,.loc 0 0 0),(3,.view 3 0 r3.length),(4,.int .i64 v4),(5,.int .i64 v5),(6,.loc 6 0 0)],[(0,some (.var 3 (.agg [.sl (.one (.int .u8)) r0_0,.int .i64 r0_1,.int .u64 r0_2]))),(3,some (.sl T_Entry r3)),(6,some (.var 4 (.agg [.int .i64 r6_0,.str r6_1,.str r6_2,.int .i64 r6_3]))),(1000,none)]⟩
theorem spec_l25Draw_eq (a0 : T_l00Src.ty) : spec_l25Draw a0 =
 (spec_l00Src_pick a0 30).bind fun x1 =>
  (spec_l00Src_pick (x1.2.1,x1.2.2.1,x1.2.2.2.1,()) 9).bind fun x2 =>
   spec_l25Draw_p0 x1.1 x2.1 x2.2.1 x2.2.2.1 x2.2.2.2.1 [] :=
 (mk_f _ _ _ _ _ _ _ 4000).trans (by kernel_rfl)
theorem spec_l25Draw_p0_eq  (v4 : Int) (v5 : Int) (r0_0 : List Int) (r0_1 : Int) (r0_2 : Int) (r3 : List T_Entry.ty) : spec_l25Draw_p0 v4 v5 r0_0 r0_1 r0_2 r3 =
 if decide (v5 > 0) then
  (spec_l25DrawOne (r0_0,r0_1,r0_2,()) v4).bind fun x1 =>
   if decide ((r3.length : Int) > 0) then
    (spec_l00Src_one (x1.2.1,x1.2.2.1,x1.2.2.2.1,()) 5).bind fun x2 =>
     if x2.1 then
      spec_l25Draw_p1 v4 v5 x2.2.1 x2.2.2.1 x2.2.2.2.1 r3 x1.1.1 x1.1.2.1 x1.1.2.2.1 x1.1.2.2.2.1
     else
      spec_l25Draw_p2 v4 v5 x2.2.1 x2.2.2.1 x2.2.2.2.1 r3 x1.1.1 x1.1.2.1 x1.1.2.2.1 x1.1.2.2.2.1
   else
    spec_l25Draw_p2 v4 v5 x1.2.1 x1.2.2.1 x1.2.2.2.1 r3 x1.1.1 x1.1.2.1 x1.1.2.2.1 x1.1.2.2.2.1
 else
  some ((r3.take r3.length),(r0_0,r0_1,r0_2,())) :=
 (goL_dn _ _ _ 4000 _ _).trans (by kernel_rfl)
theorem spec_l25Draw_p1_eq  (v4 : Int) (v5 : Int) (r0_0 : List Int) (r0_1 : Int) (r0_2 : Int) (r3 : List T_Entry.ty) (r6_0 : Int) (r6_1 : List UInt8) (r6_2 : List UInt8) (r6_3 : Int) : spec_l25Draw_p1 v4 v5 r0_0 r0_1 r0_2 r3 r6_0 r6_1 r6_2 r6_3 =
 (spec_l00Src_pick (r0_0,r0_1,r0_2,()) (r3.length : Int)).bind fun x1 =>
  if decide (0 ≤ x1.1) && decide (x1.1 < (r3.length : Int)) then
   (r3[x1.1.toNat]?).bind fun x2 =>
    spec_l25Draw_p2 v4 v5 x1.2.1 x1.2.2.1 x1.2.2.2.1 r3 v4 x2.2.2.1 x2.2.1 x2.2.2.2.1
  else
   none :=
 (goL_dn _ _ _ 4000 _ _).trans (by kernel_rfl)
theorem spec_l25Draw_p2_eq  (v4 : Int) (v5 : Int) (r0_0 : List Int) (r0_1 : Int) (r0_2 : Int) (r3 : List T_Entry.ty) (r6_0 : Int) (r6_1 : List UInt8) (r6_2 : List UInt8) (r6_3 : Int) : spec_l25Draw_p2 v4 v5 r0_0 r0_1 r0_2 r3 r6_0 r6_1 r6_2 r6_3 =
 if decide (r3.length + 1 < lim) then
  (spec_l00Src_pick (r0_0,r0_1,r0_2,()) 9).bind fun x1 =>
   spec_l25Draw_p0 (IntKind.i64.wrap (v4 + x1.1)) (IntKind.i64.wrap (v5 - 1)) x1.2.1 x1.2.2.1 x1.2.2.2.1 ((r3.take r3.length) ++ [(r6_0,r6_1,r6_2,r6_3,())])
 else
  none :=
 (goL_dn _ _ _ 4000 _ _).trans (by kernel_rfl)
def spec_R8Book_ir : Fn := { np := 1,io := [],res := [.t 2],own := [true],body :=
 (.seq (.reg false [.W 2 (.asg (.c (.nils 4)))] [0] []) (.seq (.reg false [.V 4 (.mv (.t 0)),.W 5 (.call (.c (.fn 441 [])) [.t 4]),.V 3 (.asg (.t 5))] [3] [5,6000]) (.seq (.reg false [.V 6 (.mv (.t 3)),.W 7 (.call (.c (.fn 617 [])) [.t 6]),.W 2 (.asg (.t 7))] [2] [2]) .ret))) }
noncomputable def spec_R8Book_D : List (Nat × Callee) := [(441,spec_l00From_c),(617,spec_l25Draw_c)]
def spec_R8Book_H : List (Nat × ET) := [(2,T_Entry),(4,(.one (.int .u8))),(7,T_Entry)]
noncomputable def spec_R8Book_c : Callee := mkCallee spec_R8Book_D spec_R8Book_H spec_R8Book_ir [.d (.one (.sl (.one (.int .u8))))] [.tok T_Entry] []
noncomputable def spec_R8Book (a0 : List Int) : Option (List T_Entry.ty) := spec_R8Book_c.f (a0,())
theorem spec_R8Book_eq (a0 : List Int) : spec_R8Book a0 =
 (spec_l00From a0).bind fun x1 =>
  (spec_l25Draw x1).bind fun x2 =>
   some (x2.1.take x2.1.length) :=
 (mk_f _ _ _ _ _ _ _ 4000).trans (by kernel_rfl)
def spec_R8Entry_ir : Fn := { np := 1,io := [],res := [.cell 2 (some 4)],own := [false],body :=
 (.seq (.reg false [.W 2 (.alloc 4 (.agg [.int .i64 0,.str [],.str [],.int .i64 0]))] [0,2] [2]) (.seq (.reg false [.V 5 (.mv (.t 0)),.W 6 (.call (.c (.fn 441 [])) [.t 5]),.V 3 (.asg (.t 6))] [2,3] [2,6,7000]) (.seq (.reg false [.V 7 (.mv (.t 3)),.W 8 (.call (.c (.fn 463 [])) [.t 7,.c (.int .i64 90)]),.V 4 (.asg (.t 8))] [2,3,4] [2,6,7000]) (.seq (.reg false [.V 9 (.mv (.t 3)),.V 10 (.mv (.t 4)),.W 11 (.call (.c (.fn 618 [])) [.t 9,.t 10]),⟨none,true,.sto 4 (.t 2) (.t 11),none,false,[]⟩] [2] [2]) .ret)))) }
noncomputable def spec_R8Entry_D : List (Nat × Callee) := [(441,spec_l00From_c),(463,spec_l00Src_pick_c),(618,spec_l25DrawOne_c)]
def spec_R8Entry_H : List (Nat × ET) := [(5,(.one (.int .u8)))]
noncomputable def spec_R8Entry_c : Callee := mkCallee spec_R8Entry_D spec_R8Entry_H spec_R8Entry_ir [.d (.one (.sl (.one (.int .u8))))] [.d T_Entry] []
noncomputable def spec_R8Entry (a0 : List Int) : Option (T_Entry.ty) := spec_R8Entry_c.f (a0,())
theorem spec_R8Entry_eq (a0 : List Int) : spec_R8Entry a0 =
 (spec_l00From a0).bind fun x1 =>
  (spec_l00Src_pick x1 90).bind fun x2 =>
   (spec_l25DrawOne (x2.2.1,x2.2.2.1,x2.2.2.2.1,()) x2.1).bind fun x3 =>
    some (x3.1.1,x3.1.2.1,x3.1.2.2.1,x3.1.2.2.2.1,()) :=
 (mk_f _ _ _ _ _ _ _ 4000).trans (by kernel_rfl)
def impl_within_ir : Fn := { np := 3,io := [],res := [.t 6],own := [false],body :=
 (.seq (.reg false [.V 6 (.asg (.c (.bool false)))] [0,1,2] []) (.seq (.reg false [.V 7 (.mv (.t 1)),.V 8 (.mv (.t 0)),.V 9 (.bin .leq (.t 7) (.t 8)),.V 10 (.mv (.t 9)),.G 11 (.mv (.t 0)) 3 true,.G 12 (.mv (.t 2)) 3 true,.G 13 (.bin .leq (.t 11) (.t 12)) 3 true,.V 14 (.pick (.t 10) (.t 13) (.c (.bool false))),.V 6 (.asg (.t 14))] [6] []) .ret)) }
noncomputable def impl_within_D : List (Nat × Callee) := []
def impl_within_H : List (Nat × ET) := []
noncomputable def impl_within_c : Callee := mkCallee impl_within_D impl_within_H impl_within_ir [.d (.one (.int .i64)),.d (.one (.int .i64)),.d (.one (.int .i64))] [.d (.one .bool)] []
noncomputable def impl_within (a0 : Int) (a1 : Int) (a2 : Int) : Option (Bool) := impl_within_c.f (a0,a1,a2,())
theorem impl_within_eq (a0 : Int) (a1 : Int) (a2 : Int) : impl_within a0 a1 a2 =
 if decide (a1 ≤ a0) then
  some (decide (a0 ≤ a2))
 else
  some false :=
 (mk_f _ _ _ _ _ _ _ 4000).trans (by kernel_rfl)
def impl_isRentDay_ir : Fn := { np := 1,io := [],res := [.t 2],own := [false],body :=
 (.seq (.reg false [.V 2 (.asg (.c (.bool false)))] [0] []) (.seq (.reg false [.V 3 (.mv (.t 0)),.V 4 (.call (.c (.fn 23 [])) [.t 3,.c (.int .i64 0),.c (.int .i64 100000)]),.V 2 (.asg (.t 4))] [2] []) .ret)) }
noncomputable def impl_isRentDay_D : List (Nat × Callee) := [(23,impl_within_c)]
def impl_isRentDay_H : List (Nat × ET) := []
noncomputable def impl_isRentDay_c : Callee := mkCallee impl_isRentDay_D impl_isRentDay_H impl_isRentDay_ir [.d (.one (.int .i64))] [.d (.one .bool)] []
noncomputable def impl_isRentDay (a0 : Int) : Option (Bool) := impl_isRentDay_c.f (a0,())
theorem impl_isRentDay_eq (a0 : Int) : impl_isRentDay a0 =
 (impl_within a0 0 100000).bind fun x1 =>
  some x1 :=
 (mk_f _ _ _ _ _ _ _ 4000).trans (by kernel_rfl)
def impl_isDigit_ir : Fn := { np := 1,io := [],res := [.t 2],own := [false],body :=
 (.seq (.reg false [.V 2 (.asg (.c (.bool false)))] [0] []) (.seq (.reg false [.V 3 (.mv (.t 0)),.V 4 (.bin .geq (.t 3) (.c (.int .u8 48))),.V 5 (.mv (.t 4)),.G 6 (.mv (.t 0)) 2 true,.G 7 (.bin .leq (.t 6) (.c (.int .u8 57))) 2 true,.V 8 (.pick (.t 5) (.t 7) (.c (.bool false))),.V 2 (.asg (.t 8))] [2] []) .ret)) }
noncomputable def impl_isDigit_D : List (Nat × Callee) := []
def impl_isDigit_H : List (Nat × ET) := []
noncomputable def impl_isDigit_c : Callee := mkCallee impl_isDigit_D impl_isDigit_H impl_isDigit_ir [.d (.one (.int .u8))] [.d (.one .bool)] []
noncomputable def impl_isDigit (a0 : Int) : Option (Bool) := impl_isDigit_c.f (a0,())
theorem impl_isDigit_eq (a0 : Int) : impl_isDigit a0 =
 if decide (a0 ≥ 48) then
  some (decide (a0 ≤ 57))
 else
  some false :=
 (mk_f _ _ _ _ _ _ _ 4000).trans (by kernel_rfl)
def impl_few_ir : Fn := { np := 2,io := [],res := [.t 4],own := [false],body :=
 (.seq (.reg false [.V 4 (.asg (.c (.bool false)))] [0,1] []) (.seq (.reg false [.V 5 (.mv (.t 0)),.V 6 (.mv (.t 1)),.V 7 (.bin .leq (.t 5) (.t 6)),.V 4 (.asg (.t 7))] [4] []) .ret)) }
noncomputable def impl_few_D : List (Nat × Callee) := []
def impl_few_H : List (Nat × ET) := []
noncomputable def impl_few_c : Callee := mkCallee impl_few_D impl_few_H impl_few_ir [.d (.one (.int .i64)),.d (.one (.int .i64))] [.d (.one .bool)] []
noncomputable def impl_few (a0 : Int) (a1 : Int) : Option (Bool) := impl_few_c.f (a0,a1,())
theorem impl_few_eq (a0 : Int) (a1 : Int) : impl_few a0 a1 =
 some (decide (a0 ≤ a1)) :=
 (mk_f _ _ _ _ _ _ _ 4000).trans (by kernel_rfl)
def impl_IsName_k0 : C :=
 .seq (.reg false [.V 21 (.mv (.t 4)),.V 22 (.un .not (.t 21)),.V 23 (.mv (.t 22)),.G 24 (.mv (.t 3)) 2 true,.G 25 (.bin .eql (.t 24) (.c (.int .i64 0))) 2 true,.G 26 (.mv (.t 25)) 2 true,.G 27 (.mv (.t 0)) 5 false,.G 28 (.mv (.t 3)) 5 false,.G 29 (.ix (.t 27) (.t 28)) 5 false,.G 30 (.call (.c (.fn 22 [])) [.t 29]) 5 false,.G 31 (.un .not (.t 30)) 5 false,.G 32 (.pick (.t 26) (.c (.bool true)) (.t 31)) 2 true,.V 33 (.pick (.t 23) (.t 32) (.c (.bool false)))] [0,3,33] []) (.cond (.t 33) (.seq (.reg false [.V 2 (.asg (.c (.bool false)))] [2] []) .ret) .skip)
def impl_IsName_k1 : C :=
 .reg false [.V 9 (.mv (.t 3)),.V 10 (.bin .add (.t 9) (.c (.int .i64 1))),.V 3 (.asg (.t 10))] [0,3] []
def impl_IsName_k2 : C :=
 .seq (.seq (.reg false [.V 5 (.mv (.t 3)),.V 6 (.mv (.t 0)),.V 7 (.lens (.t 6)),.V 8 (.bin .lss (.t 5) (.t 7))] [0,3,8] []) (.cond (.t 8) .skip (.exit 0))) (.seq (.block 1 (.seq (.reg false [.V 11 (.mv (.t 0)),.V 12 (.mv (.t 3)),.V 13 (.ix (.t 11) (.t 12)),.V 14 (.bin .geq (.t 13) (.c (.int .u8 97))),.V 15 (.mv (.t 14)),.G 16 (.mv (.t 0)) 4 true,.G 17 (.mv (.t 3)) 4 true,.G 18 (.ix (.t 16) (.t 17)) 4 true,.G 19 (.bin .leq (.t 18) (.c (.int .u8 122))) 4 true,.V 20 (.pick (.t 15) (.t 19) (.c (.bool false))),.V 4 (.asg (.t 20))] [0,3,4] []) (.norm [0,3,4] [] impl_IsName_k0))) impl_IsName_k1)
def impl_IsName_k3 : C :=
 .norm [0,3] [] impl_IsName_k2
def impl_IsName_k4 : C :=
 .seq (.reg false [.V 34 (.mv (.t 0)),.V 35 (.bin .neq (.t 34) (.c (.str []))),.V 36 (.mv (.t 35)),.G 37 (.mv (.t 0)) 2 true,.G 38 (.lens (.t 37)) 2 true,.G 39 (.call (.c (.fn 21 [])) [.t 38,.c (.int .i64 10)]) 2 true,.V 40 (.pick (.t 36) (.t 39) (.c (.bool false))),.V 2 (.asg (.t 40))] [2] []) .ret
def impl_IsName_ir : Fn := { np := 1,io := [],res := [.t 2],own := [false],body :=
 (.seq (.reg false [.V 2 (.asg (.c (.bool false)))] [0] []) (.seq (.seq (.reg false [.V 3 (.asg (.c (.int .i64 0)))] [0,3] []) (.block 0 (.loop impl_IsName_k3))) impl_IsName_k4)) }
noncomputable def impl_IsName_D : List (Nat × Callee) := [(21,impl_few_c),(22,impl_isDigit_c)]
def impl_IsName_H : List (Nat × ET) := []
noncomputable def impl_IsName_c : Callee := mkCallee impl_IsName_D impl_IsName_H impl_IsName_ir [.d (.one .str)] [.d (.one .bool)] []
noncomputable def impl_IsName (a0 : List UInt8) : Option (Bool) := impl_IsName_c.f (a0,())
noncomputable def impl_IsName_p0  (v0 : List UInt8) (v3 : Int) : Option (Bool) :=
 goL impl_IsName_D impl_IsName_H (vleave impl_IsName_ir [.d (.one .str)] [.d (.one .bool)] [] []) [.c impl_IsName_k2,.l impl_IsName_k3,.e 0,.c impl_IsName_k4]
  ⟨[(0,.str v0),(3,.int .i64 v3)],[]⟩
noncomputable def impl_IsName_p1  (v0 : List UInt8) (v3 : Int) (v4 : Bool) : Option (Bool) :=
 goL impl_IsName_D impl_IsName_H (vleave impl_IsName_ir [.d (.one .str)] [.d (.one .bool)] [] []) [.c impl_IsName_k0,.e 1,.c impl_IsName_k1,.l impl_IsName_k3,.e 0,.c impl_IsName_k4]
  ⟨[(0,.str v0),(3,.int .i64 v3),(4,.bool v4)],[]⟩
theorem impl_IsName_eq (a0 : List UInt8) : impl_IsName a0 =
 impl_IsName_p0 a0 0 :=
 (mk_f _ _ _ _ _ _ _ 4000).trans (by kernel_rfl)
theorem impl_IsName_p0_eq  (v0 : List UInt8) (v3 : Int) : impl_IsName_p0 v0 v3 =
 if decide (v3 < (v0.length : Int)) then
  if decide (0 ≤ v3) then
   (v0[v3.toNat]?).bind fun x1 =>
    if decide ((x1.toNat : Int) ≥ 97) then
     if decide (0 ≤ v3) then
      (v0[v3.toNat]?).bind fun x2 =>
       impl_IsName_p1 v0 v3 (decide ((x2.toNat : Int) ≤ 122))
     else
      none
    else
     impl_IsName_p1 v0 v3 false
  else
   none
 else
  if (!(v0 == [])) then
   (impl_few (v0.length : Int) 10).bind fun x3 =>
    some x3
  else
   some false :=
 (goL_dn _ _ _ 4000 _ _).trans (by kernel_rfl)
theorem impl_IsName_p1_eq  (v0 : List UInt8) (v3 : Int) (v4 : Bool) : impl_IsName_p1 v0 v3 v4 =
 if (!v4) then
  if (v3 == 0) then
   some false
  else
   if decide (0 ≤ v3) then
    (v0[v3.toNat]?).bind fun x1 =>
     (impl_isDigit (x1.toNat : Int)).bind fun x2 =>
      if (!x2) then
       some false
      else
       impl_IsName_p0 v0 (IntKind.i64.wrap (v3 + 1))
   else
    none
 else
  impl_IsName_p0 v0 (IntKind.i64.wrap (v3 + 1)) :=
 (goL_dn _ _ _ 4000 _ _).trans (by kernel_rfl)
def impl_Entry_valid_ir : Fn := { np := 1,io := [],res := [.t 2],own := [false],body :=
 (.seq (.reg false [.W 1 (.box 4 (.t 0)),.V 2 (.asg (.c (.bool false)))] [1] [1]) (.seq (.reg false [.V 3 (.fa 0 (.t 1)),.V 4 (.ld none (.t 3)),.V 5 (.call (.c (.fn 623 [])) [.t 4]),.V 6 (.mv (.t 5)),.G 7 (.fa 1 (.t 1)) 3 true,.G 8 (.ld none (.t 7)) 3 true,.G 9 (.call (.c (.fn 24 [])) [.t 8]) 3 true,.V 10 (.pick (.t 6) (.t 9) (.c (.bool false))),.V 11 (.mv (.t 10)),.G 12 (.fa 2 (.t 1)) 8 true,.G 13 (.ld none (.t 12)) 8 true,.G 14 (.call (.c (.fn 24 [])) [.t 13]) 8 true,.V 15 (.pick (.t 11) (.t 14) (.c (.bool false))),.V 16 (.mv (.t 15)),.G 17 (.fa 1 (.t 1)) 13 true,.G 18 (.ld none (.t 17)) 13 true,.G 19 (.fa 2 (.t 1)) 13 true,.G 20 (.ld none (.t 19)) 13 true,.G 21 (.bin .neq (.t 18) (.t 20)) 13 true,.V 22 (.pick (.t 16) (.t 21) (.c (.bool false))),.V 23 (.mv (.t 22)),.G 24 (.fa 3 (.t 1)) 20 true,.G 25 (.ld none (.t 24)) 20 true,.G 26 (.call (.c (.fn 23 [])) [.t 25,.c (.int .i64 1),.c (.int .i64 10000000)]) 20 true,.V 27 (.pick (.t 23) (.t 26) (.c (.bool false))),.V 2 (.asg (.t 27))] [2] []) .ret)) }
noncomputable def impl_Entry_valid_D : List (Nat × Callee) := [(23,impl_within_c),(24,impl_IsName_c),(623,impl_isRentDay_c)]
def impl_Entry_valid_H : List (Nat × ET) := []
noncomputable def impl_Entry_valid_c : Callee := mkCallee impl_Entry_valid_D impl_Entry_valid_H impl_Entry_valid_ir [.d T_Entry] [.d (.one .bool)] []
noncomputable def impl_Entry_valid (a0 : T_Entry.ty) : Option (Bool) := impl_Entry_valid_c.f (a0,())
theorem impl_Entry_valid_eq (a0 : T_Entry.ty) : impl_Entry_valid a0 =
 (impl_isRentDay a0.1).bind fun x1 =>
  if x1 then
   (impl_IsName a0.2.1).bind fun x2 =>
    if x2 then
     (impl_IsName a0.2.2.1).bind fun x3 =>
      if x3 then
       if (!(a0.2.1 == a0.2.2.1)) then
        (impl_within a0.2.2.2.1 1 10000000).bind fun x4 =>
         some x4
       else
        some false
      else
       some false
    else
     some false
  else
   some false :=
 (mk_f _ _ _ _ _ _ _ 4000).trans (by kernel_rfl)
def impl_ValidBook_k0 : C :=
 .seq (.reg false [.V 8 (.bin .lss (.t 7) (.t 6))] [0,5,6,7,8] []) (.seq (.cond (.t 8) .skip (.exit 0)) (.seq (.block 1 (.seq (.reg false [.V 9 (.mv (.t 7)),.V 10 (.ia 4 (.t 5) (.t 7)),.V 11 (.ld (some 4) (.t 10)),.W 4 (.alloc 4 (.agg [.int .i64 0,.str [],.str [],.int .i64 0])),.V 3 (.asg (.t 9)),⟨none,true,.sto 4 (.t 4) (.t 11),none,false,[]⟩] [0,3,4,5,6,7] [4]) (.seq (.reg true [.V 12 (.ld (some 4) (.t 4)),.V 13 (.call (.c (.fn 621 [])) [.t 12]),.V 14 (.un .not (.t 13)),.V 15 (.mv (.t 14)),.G 16 (.mv (.t 3)) 3 false,.G 17 (.bin .gtr (.t 16) (.c (.int .i64 0))) 3 false,.G 18 (.mv (.t 17)) 3 false,.G 19 (.mv (.t 0)) 6 true,.G 20 (.mv (.t 3)) 6 true,.G 21 (.bin .sub (.t 20) (.c (.int .i64 1))) 6 true,.G 22 (.ia 4 (.t 19) (.t 21)) 6 true,.G 23 (.fa 0 (.t 22)) 6 true,.G 24 (.ld none (.t 23)) 6 true,.G 25 (.fa 0 (.t 4)) 6 true,.G 26 (.ld none (.t 25)) 6 true,.G 27 (.bin .gtr (.t 24) (.t 26)) 6 true,.G 28 (.pick (.t 18) (.t 27) (.c (.bool false))) 3 false,.V 29 (.pick (.t 15) (.c (.bool true)) (.t 28))] [0,5,6,7,29] []) (.cond (.t 29) (.seq (.reg false [.V 2 (.asg (.c (.bool false)))] [2] []) .ret) .skip)))) (.reg false [.V 30 (.bin .add (.t 7) (.c (.int .i64 1))),.V 7 (.mv (.t 30))] [0,5,6,7] [])))
def impl_ValidBook_k1 : C :=
 .norm [0,5,6,7] [] impl_ValidBook_k0
def impl_ValidBook_k2 : C :=
 .seq (.reg false [.V 31 (.mv (.t 0)),.V 32 (.len (.t 31)),.V 33 (.call (.c (.fn 21 [])) [.t 32,.c (.int .i64 32)]),.V 2 (.asg (.t 33))] [2] []) .ret
def impl_ValidBook_ir : Fn := { np := 1,io := [],res := [.t 2],own := [false],body :=
 (.seq (.reg false [.V 2 (.asg (.c (.bool false)))] [0] []) (.seq (.seq (.reg false [.V 5 (.mv (.t 0)),.V 6 (.len (.t 5)),.V 7 (.mv (.c (.int .i64 0)))] [0,5,6,7] []) (.block 0 (.loop impl_ValidBook_k1))) impl_ValidBook_k2)) }
noncomputable def impl_ValidBook_D : List (Nat × Callee) := [(21,impl_few_c),(621,impl_Entry_valid_c)]
def impl_ValidBook_H : List (Nat × ET) := [(5,T_Entry),(19,T_Entry),(31,T_Entry)]
noncomputable def impl_ValidBook_c : Callee := mkCallee impl_ValidBook_D impl_ValidBook_H impl_ValidBook_ir [.d (.one (.sl T_Entry))] [.d (.one .bool)] []
noncomputable def impl_ValidBook (a0 : List T_Entry.ty) : Option (Bool) := impl_ValidBook_c.f (a0,())
noncomputable def impl_ValidBook_p0  (v0 : List T_Entry.ty) (v5 : List T_Entry.ty) (v6 : Int) (v7 : Int) : Option (Bool) :=
 goL impl_ValidBook_D impl_ValidBook_H (vleave impl_ValidBook_ir [.d (.one (.sl T_Entry))] [.d (.one .bool)] [] []) [.c impl_ValidBook_k0,.l impl_ValidBook_k1,.e 0,.c impl_ValidBook_k2]
  ⟨[(0,.sl T_Entry v0),(5,.sl T_Entry v5),(6,.int .i64 v6),(7,.int .i64 v7)],[]⟩
theorem impl_ValidBook_eq (a0 : List T_Entry.ty) : impl_ValidBook a0 =
 impl_ValidBook_p0 a0 a0 (a0.length : Int) 0 :=
 (mk_f _ _ _ _ _ _ _ 4000).trans (by kernel_rfl)
theorem impl_ValidBook_p0_eq  (v0 : List T_Entry.ty) (v5 : List T_Entry.ty) (v6 : Int) (v7 : Int) : impl_ValidBook_p0 v0 v5 v6 v7 =
 if decide (v7 < v6) then
  if decide (0 ≤ v7) then
   (v5[v7.toNat]?).bind fun x1 =>
    (impl_Entry_valid x1).bind fun x2 =>
     if (!x2) then
      some false
     else
      if decide (v7 > 0) then
       if decide (0 ≤ IntKind.i64.wrap (v7 - 1)) then
        (v0[(IntKind.i64.wrap (v7 - 1)).toNat]?).bind fun x3 =>
         if decide (x3.1 > x1.1) then
          some false
         else
          impl_ValidBook_p0 v0 v5 v6 (IntKind.i64.wrap (v7 + 1))
       else
        none
      else
       impl_ValidBook_p0 v0 v5 v6 (IntKind.i64.wrap (v7 + 1))
  else
   none
 else
  (impl_few (v0.length : Int) 32).bind fun x4 =>
   some x4 :=
 (goL_dn _ _ _ 4000 _ _).trans (by kernel_rfl)
noncomputable def slices_Sort___string_string__c : Callee := sortSC
noncomputable def slices_Sort___string_string_ (a0 : List (List UInt8)) : Option (List (List UInt8)) := slices_Sort___string_string__c.f (a0,())
theorem slices_Sort___string_string__eq (a0 : List (List UInt8)) : slices_Sort___string_string_ a0 = if decide (a0.length < 4611686018427387904) then some (a0.mergeSort fun a b => decide (a ≤ b)) else none := rfl
noncomputable def slices_Compact___string_string__c : Callee := compactSC
noncomputable def slices_Compact___string_string_ (a0 : List (List UInt8)) : Option (List (List UInt8) × Unit) := slices_Compact___string_string__c.f (a0,())
theorem slices_Compact___string_string__eq (a0 : List (List UInt8)) : slices_Compact___string_string_ a0 = if decide (a0.length ≤ 9223372036854775807) then some (Lib.compact a0,()) else none := rfl
def impl_sortedSet_ir : Fn := { np := 1,io := [true],res := [.t 2],own := [false],body :=
 (.seq (.reg false [.W 2 (.asg (.c (.nils 1)))] [0] [0]) (.seq (.reg false [.V 3 (.mv (.t 0)),.W 4 (.call (.c (.fn 823 [])) [.t 3])] [0] [0]) (.seq (.reg false [.V 5 (.mv (.t 0)),.W 6 (.call (.c (.fn 861 [])) [.t 5]),.W 2 (.asg (.t 6))] [0,2] [0,2]) .ret))),gone := [0] }
noncomputable def impl_sortedSet_D : List (Nat × Callee) := [(823,slices_Sort___string_string__c),(861,slices_Compact___string_string__c)]
def impl_sortedSet_H : List (Nat × ET) := [(2,(.one .str)),(3,(.one .str)),(5,(.one .str)),(6,(.one .str))]
noncomputable def impl_sortedSet_c : Callee := mkCallee impl_sortedSet_D impl_sortedSet_H impl_sortedSet_ir [.ios (.one .str)] [.d (.one (.sl (.one .str)))] [.gone]
noncomputable def impl_sortedSet (a0 : List (List UInt8)) : Option (List (List UInt8) × Unit) := impl_sortedSet_c.f (a0,())
theorem impl_sortedSet_eq (a0 : List (List UInt8)) : impl_sortedSet a0 =
 if decide (a0.length = a0.length) then
  (slices_Sort___string_string_ a0).bind fun x1 =>
   if decide (a0.length = x1.length) then
    (slices_Compact___string_string_ x1).bind fun x2 =>
     some ((x2.1.take x2.1.length),())
   else
    none
 else
  none :=
 (mk_f _ _ _ _ _ _ _ 4000).trans (by kernel_rfl)
def impl_Entry_change_ir : Fn := { np := 2,io := [],res := [.t 4],own := [false],body :=
 (.seq (.reg false [.W 2 (.box 4 (.t 0)),.V 4 (.asg (.c (.int .i64 0)))] [1,2] [2]) (.seq (.seq (.reg false [.V 5 (.mv (.t 1))] [2,5] [2]) (.block 0 (.seq (.reg false [.V 7 (.fa 1 (.t 2)),.V 8 (.ld none (.t 7)),.V 9 (.bin .eql (.t 5) (.t 8)),.V 6 (.asg (.t 9))] [2,5,6] [2]) (.cond (.t 6) (.seq (.reg false [.V 10 (.fa 3 (.t 2)),.V 11 (.ld none (.t 10)),.V 4 (.asg (.t 11))] [4] []) .ret) (.seq (.reg false [.V 13 (.fa 2 (.t 2)),.V 14 (.ld none (.t 13)),.V 15 (.bin .eql (.t 5) (.t 14)),.V 12 (.asg (.t 15))] [2,12] [2]) (.cond (.t 12) (.seq (.reg false [.V 16 (.fa 3 (.t 2)),.V 17 (.ld none (.t 16)),.V 18 (.un .neg (.t 17)),.V 4 (.asg (.t 18))] [4] []) .ret) .skip)))))) (.seq (.reg false [.V 4 (.asg (.c (.int .i64 0)))] [4] []) .ret))) }
noncomputable def impl_Entry_change_D : List (Nat × Callee) := []
def impl_Entry_change_H : List (Nat × ET) := []
noncomputable def impl_Entry_change_c : Callee := mkCallee impl_Entry_change_D impl_Entry_change_H impl_Entry_change_ir [.d T_Entry,.d (.one .str)] [.d (.one (.int .i64))] []
noncomputable def impl_Entry_change (a0 : T_Entry.ty) (a1 : List UInt8) : Option (Int) := impl_Entry_change_c.f (a0,a1,())
theorem impl_Entry_change_eq (a0 : T_Entry.ty) (a1 : List UInt8) : impl_Entry_change a0 a1 =
 if (a1 == a0.2.1) then
  some a0.2.2.2.1
 else
  if (a1 == a0.2.2.1) then
   some (IntKind.i64.wrap (0 - a0.2.2.2.1))
  else
   some 0 :=
 (mk_f _ _ _ _ _ _ _ 4000).trans (by kernel_rfl)
def impl_AccountOf_k0 : C :=
 .seq (.reg false [.V 25 (.bin .lss (.t 24) (.t 23))] [1,2,8,22,23,24,25] []) (.seq (.cond (.t 25) .skip (.exit 0)) (.seq (.block 1 (.seq (.reg false [.V 26 (.ia 4 (.t 22) (.t 24)),.V 27 (.ld (some 4) (.t 26)),.W 10 (.alloc 4 (.agg [.int .i64 0,.str [],.str [],.int .i64 0])),⟨none,true,.sto 4 (.t 10) (.t 27),none,false,[]⟩] [1,2,8,10,22,23,24] [10]) (.seq (.reg false [.V 28 (.fa 0 (.t 10)),.V 29 (.ld none (.t 28)),.V 30 (.mv (.t 2)),.V 31 (.bin .leq (.t 29) (.t 30))] [1,2,8,10,22,23,24,31] [10]) (.cond (.t 31) (.reg false [.V 32 (.mv (.t 8)),.V 33 (.ld (some 4) (.t 10)),.V 34 (.mv (.t 1)),.V 35 (.call (.c (.fn 622 [])) [.t 33,.t 34]),.V 36 (.bin .add (.t 32) (.t 35)),.V 8 (.asg (.t 36))] [1,2,8,22,23,24] []) .skip)))) (.reg false [.V 37 (.bin .add (.t 24) (.c (.int .i64 1))),.V 24 (.mv (.t 37))] [1,2,8,22,23,24] [])))
def impl_AccountOf_k1 : C :=
 .norm [1,2,8,22,23,24] [] impl_AccountOf_k0
def impl_AccountOf_k2 : C :=
 .seq (.reg false [.V 38 (.mv (.t 8)),.V 6 (.asg (.t 38)),.V 7 (.asg (.c (.int .i64 0)))] [6,7] []) .ret
def impl_AccountOf_k3 : C :=
 .seq (.seq (.reg false [.V 19 (.mv (.t 2)),.V 20 (.call (.c (.fn 623 [])) [.t 19]),.V 21 (.un .not (.t 20))] [0,1,2,21] []) (.cond (.t 21) (.seq (.reg false [.V 6 (.asg (.c (.int .i64 0))),.V 7 (.asg (.c (.int .i64 2)))] [6,7] []) .ret) .skip)) (.seq (.reg false [.V 8 (.asg (.c (.int .i64 0)))] [0,1,2,8] []) (.seq (.seq (.reg false [.V 22 (.mv (.t 0)),.V 23 (.len (.t 22)),.V 24 (.mv (.c (.int .i64 0)))] [1,2,8,22,23,24] []) (.block 0 (.loop impl_AccountOf_k1))) impl_AccountOf_k2))
def impl_AccountOf_ir : Fn := { np := 3,io := [],res := [.t 6,.t 7],own := [false,false],body :=
 (.seq (.reg false [.V 6 (.asg (.c (.int .i64 0))),.V 7 (.asg (.c (.int .i64 0)))] [0,1,2] []) (.seq (.seq (.reg false [.V 11 (.mv (.t 0)),.V 12 (.call (.c (.fn 213 [])) [.t 11]),.V 13 (.un .not (.t 12)),.V 14 (.mv (.t 13)),.G 15 (.mv (.t 1)) 3 false,.G 16 (.call (.c (.fn 24 [])) [.t 15]) 3 false,.G 17 (.un .not (.t 16)) 3 false,.V 18 (.pick (.t 14) (.c (.bool true)) (.t 17))] [0,1,2,18] []) (.cond (.t 18) (.seq (.reg false [.V 6 (.asg (.c (.int .i64 0))),.V 7 (.asg (.c (.int .i64 1)))] [6,7] []) .ret) .skip)) (.norm [0,1,2] [] impl_AccountOf_k3))) }
noncomputable def impl_AccountOf_D : List (Nat × Callee) := [(24,impl_IsName_c),(213,impl_ValidBook_c),(622,impl_Entry_change_c),(623,impl_isRentDay_c)]
def impl_AccountOf_H : List (Nat × ET) := [(11,T_Entry),(22,T_Entry)]
noncomputable def impl_AccountOf_c : Callee := mkCallee impl_AccountOf_D impl_AccountOf_H impl_AccountOf_ir [.d (.one (.sl T_Entry)),.d (.one .str),.d (.one (.int .i64))] [.d (.one (.int .i64)),.d (.one (.int .i64))] []
noncomputable def impl_AccountOf (a0 : List T_Entry.ty) (a1 : List UInt8) (a2 : Int) : Option (Int × Int) := impl_AccountOf_c.f (a0,a1,a2,())
noncomputable def impl_AccountOf_p0  (v0 : List T_Entry.ty) (v1 : List UInt8) (v2 : Int) : Option (Int × Int) :=
 goL impl_AccountOf_D impl_AccountOf_H (vleave impl_AccountOf_ir [.d (.one (.sl T_Entry)),.d (.one .str),.d (.one (.int .i64))] [.d (.one (.int .i64)),.d (.one (.int .i64))] [] []) [.c impl_AccountOf_k3]
  ⟨[(0,.sl T_Entry v0),(1,.str v1),(2,.int .i64 v2)],[]⟩
noncomputable def impl_AccountOf_p1  (v1 : List UInt8) (v2 : Int) (v8 : Int) (v22 : List T_Entry.ty) (v23 : Int) (v24 : Int) : Option (Int × Int) :=
 goL impl_AccountOf_D impl_AccountOf_H (vleave impl_AccountOf_ir [.d (.one (.sl T_Entry)),.d (.one .str),.d (.one (.int .i64))] [.d (.one (.int .i64)),.d (.one (.int .i64))] [] []) [.c impl_AccountOf_k0,.l impl_AccountOf_k1,.e 0,.c impl_AccountOf_k2]
  ⟨[(1,.str v1),(2,.int .i64 v2),(8,.int .i64 v8),(22,.sl T_Entry v22),(23,.int .i64 v23),(24,.int .i64 v24)],[]⟩
theorem impl_AccountOf_eq (a0 : List T_Entry.ty) (a1 : List UInt8) (a2 : Int) : impl_AccountOf a0 a1 a2 =
 (impl_ValidBook a0).bind fun x1 =>
  if (!x1) then
   some (0,1)
  else
   (impl_IsName a1).bind fun x2 =>
    if (!x2) then
     some (0,1)
    else
     impl_AccountOf_p0 a0 a1 a2 :=
 (mk_f _ _ _ _ _ _ _ 4000).trans (by kernel_rfl)
theorem impl_AccountOf_p0_eq  (v0 : List T_Entry.ty) (v1 : List UInt8) (v2 : Int) : impl_AccountOf_p0 v0 v1 v2 =
 (impl_isRentDay v2).bind fun x1 =>
  if (!x1) then
   some (0,2)
  else
   impl_AccountOf_p1 v1 v2 0 v0 (v0.length : Int) 0 :=
 (goL_dn _ _ _ 4000 _ _).trans (by kernel_rfl)
theorem impl_AccountOf_p1_eq  (v1 : List UInt8) (v2 : Int) (v8 : Int) (v22 : List T_Entry.ty) (v23 : Int) (v24 : Int) : impl_AccountOf_p1 v1 v2 v8 v22 v23 v24 =
 if decide (v24 < v23) then
  if decide (0 ≤ v24) then
   (v22[v24.toNat]?).bind fun x1 =>
    if decide (x1.1 ≤ v2) then
     (impl_Entry_change x1 v1).bind fun x2 =>
      impl_AccountOf_p1 v1 v2 (IntKind.i64.wrap (v8 + x2)) v22 v23 (IntKind.i64.wrap (v24 + 1))
    else
     impl_AccountOf_p1 v1 v2 v8 v22 v23 (IntKind.i64.wrap (v24 + 1))
  else
   none
 else
  some (v8,0) :=
 (goL_dn _ _ _ 4000 _ _).trans (by kernel_rfl)
def impl_TrialBalance_k0 : C :=
 .seq (.reg false [.V 20 (.bin .lss (.t 19) (.t 18))] [0,5,17,18,19,20] [5]) (.seq (.cond (.t 20) .skip (.exit 0)) (.seq (.block 1 (.seq (.reg false [.V 21 (.ia 4 (.t 17) (.t 19)),.V 22 (.ld (some 4) (.t 21)),.W 7 (.alloc 4 (.agg [.int .i64 0,.str [],.str [],.int .i64 0])),⟨none,true,.sto 4 (.t 7) (.t 22),none,false,[]⟩] [0,5,7,17,18,19] [5,7]) (.reg false [.V 23 (.mv (.t 5)),.V 24 (.fa 1 (.t 7)),.V 25 (.ld none (.t 24)),.V 26 (.fa 2 (.t 7)),.V 27 (.ld none (.t 26)),.V 28 (.bsl 1 (.str []) 2 [(0,.t 25),(1,.t 27)]),.W 29 (.app 1 16 (.t 23) (.t 28)),.W 5 (.asg (.t 29))] [0,5,17,18,19] [5]))) (.reg false [.V 30 (.bin .add (.t 19) (.c (.int .i64 1))),.V 19 (.mv (.t 30))] [0,5,17,18,19] [5])))
def impl_TrialBalance_k1 : C :=
 .norm [0,5,17,18,19] [5] impl_TrialBalance_k0
def impl_TrialBalance_k2 : C :=
 .seq (.reg false [.V 37 (.bin .lss (.t 36) (.t 35))] [0,5,8,34,35,36,37] [5,8]) (.seq (.cond (.t 37) .skip (.exit 2)) (.seq (.block 3 (.seq (.reg false [.V 38 (.ia 1 (.t 34) (.t 36)),.V 39 (.ld none (.t 38)),.V 10 (.asg (.t 39))] [0,5,8,10,34,35,36] [5,8]) (.seq (.reg false [.V 41 (.mv (.t 0)),.V 42 (.mv (.t 10)),.V 43 (.call (.c (.fn 212 [])) [.t 41,.t 42,.c (.int .i64 100000)]),.V 40 (.mv (.t 43)),.V 44 (.ext (.t 40) 0),.V 45 (.ext (.t 40) 1),.V 11 (.asg (.t 44)),.V 12 (.asg (.t 45))] [0,5,8,11,34,35,36] [5,8]) (.reg false [.V 46 (.mv (.t 8)),.V 47 (.mv (.t 11)),.V 48 (.bsl 1 (.int .i64 0) 1 [(0,.t 47)]),.W 49 (.app 1 8 (.t 46) (.t 48)),.W 8 (.asg (.t 49))] [0,5,8,34,35,36] [5,8])))) (.reg false [.V 50 (.bin .add (.t 36) (.c (.int .i64 1))),.V 36 (.mv (.t 50))] [0,5,8,34,35,36] [5,8])))
def impl_TrialBalance_k3 : C :=
 .norm [0,5,8,34,35,36] [5,8] impl_TrialBalance_k2
def impl_TrialBalance_k4 : C :=
 .seq (.reg false [.V 51 (.mv (.t 5)),.V 52 (.mv (.t 8)),.W 2 (.asg (.t 51)),.W 3 (.asg (.t 52)),.V 4 (.asg (.c (.int .i64 0)))] [2,3,4] [2,3,5,8]) .ret
def impl_TrialBalance_k5 : C :=
 .seq (.reg false [.V 31 (.mv (.t 5)),.W 32 (.call (.c (.fn 520 [])) [.t 31]),.W 5 (.asg (.t 32))] [0,5] [5]) (.seq (.reg false [.V 33 (.bsl 1 (.int .i64 0) 0 []),.W 8 (.asg (.t 33))] [0,5,8] [5,8]) (.seq (.seq (.reg false [.V 34 (.mv (.t 5)),.V 35 (.len (.t 34)),.V 36 (.mv (.c (.int .i64 0)))] [0,5,8,34,35,36] [5,8]) (.block 2 (.loop impl_TrialBalance_k3))) impl_TrialBalance_k4))
def impl_TrialBalance_ir : Fn := { np := 1,io := [],res := [.t 2,.t 3,.t 4],own := [false,true,false],body :=
 (.seq (.reg false [.W 2 (.asg (.c (.nils 1))),.W 3 (.asg (.c (.nils 1))),.V 4 (.asg (.c (.int .i64 0)))] [0] []) (.seq (.seq (.reg false [.V 13 (.mv (.t 0)),.V 14 (.call (.c (.fn 213 [])) [.t 13]),.V 15 (.un .not (.t 14))] [0,15] []) (.cond (.t 15) (.seq (.reg false [.W 2 (.asg (.c (.nils 1))),.W 3 (.asg (.c (.nils 1))),.V 4 (.asg (.c (.int .i64 1)))] [2,3,4] [2,3,5,8]) .ret) .skip)) (.seq (.reg false [.V 16 (.bsl 1 (.str []) 0 []),.W 5 (.asg (.t 16))] [0,5] [5]) (.seq (.seq (.reg false [.V 17 (.mv (.t 0)),.V 18 (.len (.t 17)),.V 19 (.mv (.c (.int .i64 0)))] [0,5,17,18,19] [5]) (.block 0 (.loop impl_TrialBalance_k1))) impl_TrialBalance_k5)))) }
noncomputable def impl_TrialBalance_D : List (Nat × Callee) := [(212,impl_AccountOf_c),(213,impl_ValidBook_c),(520,impl_sortedSet_c)]
def impl_TrialBalance_H : List (Nat × ET) := [(2,(.one .str)),(3,(.one (.int .i64))),(5,(.one .str)),(8,(.one (.int .i64))),(13,T_Entry),(16,(.one .str)),(17,T_Entry),(23,(.one .str)),(28,(.one .str)),(29,(.one .str)),(31,(.one .str)),(32,(.one .str)),(33,(.one (.int .i64))),(34,(.one .str)),(41,T_Entry),(46,(.one (.int .i64))),(48,(.one (.int .i64))),(49,(.one (.int .i64))),(51,(.one .str)),(52,(.one (.int .i64)))]
noncomputable def impl_TrialBalance_c : Callee := mkCallee impl_TrialBalance_D impl_TrialBalance_H impl_TrialBalance_ir [.d (.one (.sl T_Entry))] [.d (.one (.sl (.one .str))),.tok (.one (.int .i64)),.d (.one (.int .i64))] []
noncomputable def impl_TrialBalance (a0 : List T_Entry.ty) : Option (List (List UInt8) × List Int × Int) := impl_TrialBalance_c.f (a0,())
noncomputable def impl_TrialBalance_p0  (v0 : List T_Entry.ty) (v17 : List T_Entry.ty) (v18 : Int) (v19 : Int) (r5 : List (List UInt8)) : Option (List (List UInt8) × List Int × Int) :=
 goL impl_TrialBalance_D impl_TrialBalance_H (vleave impl_TrialBalance_ir [.d (.one (.sl T_Entry))] [.d (.one (.sl (.one .str))),.tok (.one (.int .i64)),.d (.one (.int .i64))] [] []) [.c impl_TrialBalance_k0,.l impl_TrialBalance_k1,.e 0,.c impl_TrialBalance_k5]
  ⟨[(0,.sl T_Entry v0),(5,.view 5 0 r5.length),(17,.sl T_Entry v17),(18,.int .i64 v18),(19,.int .i64 v19)],[(5,some (.sl (.one .str) r5))]⟩
noncomputable def impl_TrialBalance_p1  (v0 : List T_Entry.ty) (v5 : List (List UInt8)) (v34 : List (List UInt8)) (v35 : Int) (v36 : Int) (r8 : List Int) : Option (List (List UInt8) × List Int × Int) :=
 goL impl_TrialBalance_D impl_TrialBalance_H (vleave impl_TrialBalance_ir [.d (.one (.sl T_Entry))] [.d (.one (.sl (.one .str))),.tok (.one (.int .i64)),.d (.one (.int .i64))] [] []) [.c impl_TrialBalance_k2,.l impl_TrialBalance_k3,.e 2,.c impl_TrialBalance_k4]
  ⟨[(0,.sl T_Entry v0),(5,.sl (.one .str) v5),(8,.view 8 0 r8.length),(34,.sl (.one .str) v34),(35,.int .i64 v35),(36,.int .i64 v36)],[(5,none),(8,some (.sl (.one (.int .i64)) r8))]⟩
theorem impl_TrialBalance_eq (a0 : List T_Entry.ty) : impl_TrialBalance a0 =
 (impl_ValidBook a0).bind fun x1 =>
  if (!x1) then
   some ([],[],1)
  else
   impl_TrialBalance_p0 a0 a0 (a0.length : Int) 0 [] :=
 (mk_f _ _ _ _ _ _ _ 4000).trans (by kernel_rfl)
theorem impl_TrialBalance_p0_eq  (v0 : List T_Entry.ty) (v17 : List T_Entry.ty) (v18 : Int) (v19 : Int) (r5 : List (List UInt8)) : impl_TrialBalance_p0 v0 v17 v18 v19 r5 =
 if decide (v19 < v18) then
  if decide (0 ≤ v19) then
   (v17[v19.toNat]?).bind fun x1 =>
    if decide (r5.length + 2 < lim) then
     impl_TrialBalance_p0 v0 v17 v18 (IntKind.i64.wrap (v19 + 1)) ((r5.take r5.length) ++ [x1.2.1,x1.2.2.1])
    else
     none
  else
   none
 else
  if decide (r5.length = r5.length) then
   (impl_sortedSet r5).bind fun x2 =>
    impl_TrialBalance_p1 v0 x2.1 x2.1 (x2.1.length : Int) 0 []
  else
   none :=
 (goL_dn _ _ _ 4000 _ _).trans (by kernel_rfl)
theorem impl_TrialBalance_p1_eq  (v0 : List T_Entry.ty) (v5 : List (List UInt8)) (v34 : List (List UInt8)) (v35 : Int) (v36 : Int) (r8 : List Int) : impl_TrialBalance_p1 v0 v5 v34 v35 v36 r8 =
 if decide (v36 < v35) then
  if decide (0 ≤ v36) then
   (v34[v36.toNat]?).bind fun x1 =>
    (impl_AccountOf v0 x1 100000).bind fun x2 =>
     if decide (r8.length + 1 < lim) then
      impl_TrialBalance_p1 v0 v5 v34 v35 (IntKind.i64.wrap (v36 + 1)) ((r8.take r8.length) ++ [x2.1])
     else
      none
  else
   none
 else
  some (v5,(r8.take r8.length),0) :=
 (goL_dn _ _ _ 4000 _ _).trans (by kernel_rfl)
def impl_clone_impl_Entry__ir : Fn := { np := 1,io := [],res := [.t 2],own := [true],body :=
 (.seq (.reg false [.W 2 (.asg (.c (.nils 4)))] [0] []) (.seq (.reg false [.V 3 (.mv (.t 0)),.V 4 (.len (.t 3)),.V 5 (.mks 4 48 (.agg [.int .i64 0,.str [],.str [],.int .i64 0]) (.c (.int .i64 0)) (.t 4)),.V 6 (.mv (.t 0)),.W 7 (.app 4 48 (.t 5) (.t 6)),.W 2 (.asg (.t 7))] [2] [2]) .ret)) }
noncomputable def impl_clone_impl_Entry__D : List (Nat × Callee) := []
def impl_clone_impl_Entry__H : List (Nat × ET) := [(2,T_Entry),(3,T_Entry),(5,T_Entry),(6,T_Entry),(7,T_Entry)]
noncomputable def impl_clone_impl_Entry__c : Callee := mkCallee impl_clone_impl_Entry__D impl_clone_impl_Entry__H impl_clone_impl_Entry__ir [.d (.one (.sl T_Entry))] [.tok T_Entry] []
noncomputable def impl_clone_impl_Entry_ (a0 : List T_Entry.ty) : Option (List T_Entry.ty) := impl_clone_impl_Entry__c.f (a0,())
theorem impl_clone_impl_Entry__eq (a0 : List T_Entry.ty) : impl_clone_impl_Entry_ a0 =
 if decide (0 ≤ (a0.length : Int)) && decide ((a0.length : Int).toNat < lim) then
  if decide (0 + a0.length < lim) then
   some (([] ++ a0).take (([] ++ a0).length))
  else
   none
 else
  none :=
 (mk_f _ _ _ _ _ _ _ 4000).trans (by kernel_rfl)
noncomputable def slices_Insert___impl_Entry_impl_Entry__c : Callee := insertC T_Entry
noncomputable def slices_Insert___impl_Entry_impl_Entry_ (a0 : List T_Entry.ty) (a1 : Int) (a2 : List T_Entry.ty) : Option (List T_Entry.ty × Unit) := slices_Insert___impl_Entry_impl_Entry__c.f (a0,a1,a2,())
theorem slices_Insert___impl_Entry_impl_Entry__eq (a0 : List T_Entry.ty) (a1 : Int) (a2 : List T_Entry.ty) : slices_Insert___impl_Entry_impl_Entry_ a0 a1 a2 = if decide (a2.length = 1) && (decide (0 ≤ a1) && (decide (a1 ≤ (a0.length : Int)) && decide (a0.length + 1 < 1099511627776))) then some (a0.take a1.toNat ++ a2 ++ a0.drop a1.toNat,()) else none := rfl
def impl_AddEntry_k0 : C :=
 .seq (.seq (.reg true [.V 20 (.mv (.t 6)),.V 21 (.bin .gtr (.t 20) (.c (.int .i64 0))),.V 22 (.mv (.t 21)),.G 23 (.mv (.t 0)) 2 true,.G 24 (.mv (.t 6)) 2 true,.G 25 (.bin .sub (.t 24) (.c (.int .i64 1))) 2 true,.G 26 (.ia 4 (.t 23) (.t 25)) 2 true,.G 27 (.fa 0 (.t 26)) 2 true,.G 28 (.ld none (.t 27)) 2 true,.G 29 (.fa 0 (.t 3)) 2 true,.G 30 (.ld none (.t 29)) 2 true,.G 31 (.bin .gtr (.t 28) (.t 30)) 2 true,.V 32 (.pick (.t 22) (.t 31) (.c (.bool false)))] [0,3,6,32] [3]) (.cond (.t 32) .skip (.exit 0))) (.block 1 (.reg false [.V 33 (.mv (.t 6)),.V 34 (.bin .sub (.t 33) (.c (.int .i64 1))),.V 6 (.asg (.t 34))] [0,3,6] [3]))
def impl_AddEntry_k1 : C :=
 .norm [0,3,6] [3] impl_AddEntry_k0
def impl_AddEntry_k2 : C :=
 .seq (.reg true [.V 35 (.mv (.t 0)),.V 36 (.call (.c (.fn 619 [])) [.t 35]),.V 37 (.mv (.t 6)),.V 38 (.ld (some 4) (.t 3)),.V 39 (.bsl 4 (.agg [.int .i64 0,.str [],.str [],.int .i64 0]) 1 [(0,.t 38)]),.W 40 (.call (.c (.fn 620 [])) [.t 36,.t 37,.t 39]),.W 4 (.asg (.t 40)),.V 5 (.asg (.c (.int .i64 0)))] [4,5] [4]) .ret
def impl_AddEntry_k3 : C :=
 .norm [0,3,6] [3] impl_AddEntry_k2
def impl_AddEntry_k4 : C :=
 .seq (.seq (.reg false [.V 15 (.mv (.t 0)),.V 16 (.len (.t 15)),.V 17 (.bin .eql (.t 16) (.c (.int .i64 32)))] [0,3,17] [3]) (.cond (.t 17) (.seq (.reg false [.W 4 (.asg (.c (.nils 4))),.V 5 (.asg (.c (.int .i64 5)))] [4,5] [4]) .ret) .skip)) (.seq (.reg false [.V 18 (.mv (.t 0)),.V 19 (.len (.t 18)),.V 6 (.asg (.t 19))] [0,3,6] [3]) (.seq (.block 0 (.loop impl_AddEntry_k1)) impl_AddEntry_k3))
def impl_AddEntry_ir : Fn := { np := 2,io := [],res := [.t 4,.t 5],own := [false,false],body :=
 (.seq (.reg false [.W 3 (.box 4 (.t 1)),.W 4 (.asg (.c (.nils 4))),.V 5 (.asg (.c (.int .i64 0)))] [0,3] [3]) (.seq (.seq (.reg false [.V 7 (.mv (.t 0)),.V 8 (.call (.c (.fn 213 [])) [.t 7]),.V 9 (.un .not (.t 8)),.V 10 (.mv (.t 9)),.G 11 (.ld (some 4) (.t 3)) 3 false,.G 12 (.call (.c (.fn 621 [])) [.t 11]) 3 false,.G 13 (.un .not (.t 12)) 3 false,.V 14 (.pick (.t 10) (.c (.bool true)) (.t 13))] [0,3,14] [3]) (.cond (.t 14) (.seq (.reg false [.W 4 (.asg (.c (.nils 4))),.V 5 (.asg (.c (.int .i64 1)))] [4,5] [4]) .ret) .skip)) (.norm [0,3] [3] impl_AddEntry_k4))) }
noncomputable def impl_AddEntry_D : List (Nat × Callee) := [(213,impl_ValidBook_c),(619,impl_clone_impl_Entry__c),(620,slices_Insert___impl_Entry_impl_Entry__c),(621,impl_Entry_valid_c)]
def impl_AddEntry_H : List (Nat × ET) := [(4,T_Entry),(7,T_Entry),(15,T_Entry),(18,T_Entry),(23,T_Entry),(35,T_Entry),(36,T_Entry),(39,T_Entry),(40,T_Entry)]
noncomputable def impl_AddEntry_c : Callee := mkCallee impl_AddEntry_D impl_AddEntry_H impl_AddEntry_ir [.d (.one (.sl T_Entry)),.d T_Entry] [.d (.one (.sl T_Entry)),.d (.one (.int .i64))] []
noncomputable def impl_AddEntry (a0 : List T_Entry.ty) (a1 : T_Entry.ty) : Option (List T_Entry.ty × Int) := impl_AddEntry_c.f (a0,a1,())
noncomputable def impl_AddEntry_p0  (v0 : List T_Entry.ty) (r3_0 : Int) (r3_1 : List UInt8) (r3_2 : List UInt8) (r3_3 : Int) : Option (List T_Entry.ty × Int) :=
 goL impl_AddEntry_D impl_AddEntry_H (vleave impl_AddEntry_ir [.d (.one (.sl T_Entry)),.d T_Entry] [.d (.one (.sl T_Entry)),.d (.one (.int .i64))] [] []) [.c impl_AddEntry_k4]
  ⟨[(0,.sl T_Entry v0),(3,.loc 3 0 0)],[(3,some (.var 4 (.agg [.int .i64 r3_0,.str r3_1,.str r3_2,.int .i64 r3_3])))]⟩
noncomputable def impl_AddEntry_p1  (v0 : List T_Entry.ty) (v6 : Int) (r3_0 : Int) (r3_1 : List UInt8) (r3_2 : List UInt8) (r3_3 : Int) : Option (List T_Entry.ty × Int) :=
 goL impl_AddEntry_D impl_AddEntry_H (vleave impl_AddEntry_ir [.d (.one (.sl T_Entry)),.d T_Entry] [.d (.one (.sl T_Entry)),.d (.one (.int .i64))] [] []) [.c impl_AddEntry_k0,.l impl_AddEntry_k1,.e 0,.c impl_AddEntry_k3]
  ⟨[(0,.sl T_Entry v0),(3,.loc 3 0 0),(6,.int .i64 v6)],[(3,some (.var 4 (.agg [.int .i64 r3_0,.str r3_1,.str r3_2,.int .i64 r3_3])))]⟩
noncomputable def impl_AddEntry_p2  (v0 : List T_Entry.ty) (v6 : Int) (r3_0 : Int) (r3_1 : List UInt8) (r3_2 : List UInt8) (r3_3 : Int) : Option (List T_Entry.ty × Int) :=
 goL impl_AddEntry_D impl_AddEntry_H (vleave impl_AddEntry_ir [.d (.one (.sl T_Entry)),.d T_Entry] [.d (.one (.sl T_Entry)),.d (.one (.int .i64))] [] []) [.c impl_AddEntry_k2]
  ⟨[(0,.sl T_Entry v0),(3,.loc 3 0 0),(6,.int .i64 v6)],[(3,some (.var 4 (.agg [.int .i64 r3_0,.str r3_1,.str r3_2,.int .i64 r3_3])))]⟩
theorem impl_AddEntry_eq (a0 : List T_Entry.ty) (a1 : T_Entry.ty) : impl_AddEntry a0 a1 =
 (impl_ValidBook a0).bind fun x1 =>
  if (!x1) then
   some ([],1)
  else
   (impl_Entry_valid a1).bind fun x2 =>
    if (!x2) then
     some ([],1)
    else
     impl_AddEntry_p0 a0 a1.1 a1.2.1 a1.2.2.1 a1.2.2.2.1 :=
 (mk_f _ _ _ _ _ _ _ 4000).trans (by kernel_rfl)
theorem impl_AddEntry_p0_eq  (v0 : List T_Entry.ty) (r3_0 : Int) (r3_1 : List UInt8) (r3_2 : List UInt8) (r3_3 : Int) : impl_AddEntry_p0 v0 r3_0 r3_1 r3_2 r3_3 =
 if ((v0.length : Int) == 32) then
  some ([],5)
 else
  impl_AddEntry_p1 v0 (v0.length : Int) r3_0 r3_1 r3_2 r3_3 :=
 (goL_dn _ _ _ 4000 _ _).trans (by kernel_rfl)
theorem impl_AddEntry_p1_eq  (v0 : List T_Entry.ty) (v6 : Int) (r3_0 : Int) (r3_1 : List UInt8) (r3_2 : List UInt8) (r3_3 : Int) : impl_AddEntry_p1 v0 v6 r3_0 r3_1 r3_2 r3_3 =
 if decide (v6 > 0) then
  if decide (0 ≤ IntKind.i64.wrap (v6 - 1)) then
   (v0[(IntKind.i64.wrap (v6 - 1)).toNat]?).bind fun x1 =>
    if decide (x1.1 > r3_0) then
     impl_AddEntry_p1 v0 (IntKind.i64.wrap (v6 - 1)) r3_0 r3_1 r3_2 r3_3
    else
     impl_AddEntry_p2 v0 v6 r3_0 r3_1 r3_2 r3_3
  else
   none
 else
  impl_AddEntry_p2 v0 v6 r3_0 r3_1 r3_2 r3_3 :=
 (goL_dn _ _ _ 4000 _ _).trans (by kernel_rfl)
theorem impl_AddEntry_p2_eq  (v0 : List T_Entry.ty) (v6 : Int) (r3_0 : Int) (r3_1 : List UInt8) (r3_2 : List UInt8) (r3_3 : Int) : impl_AddEntry_p2 v0 v6 r3_0 r3_1 r3_2 r3_3 =
 (impl_clone_impl_Entry_ v0).bind fun x1 =>
  if decide (x1.length = x1.length) then
   (slices_Insert___impl_Entry_impl_Entry_ x1 v6 [(r3_0,r3_1,r3_2,r3_3,())]).bind fun x2 =>
    some ((x2.1.take x2.1.length),0)
  else
   none :=
 (goL_dn _ _ _ 4000 _ _).trans (by kernel_rfl)
def impl_LowestOf_k0 : C :=
 .seq (.reg false [.V 26 (.bin .lss (.t 25) (.t 24))] [1,7,8,9,23,24,25,26] []) (.seq (.cond (.t 26) .skip (.exit 0)) (.seq (.block 1 (.seq (.reg false [.V 27 (.mv (.t 25)),.V 28 (.ia 4 (.t 23) (.t 25)),.V 29 (.ld (some 4) (.t 28)),.W 11 (.alloc 4 (.agg [.int .i64 0,.str [],.str [],.int .i64 0])),.V 10 (.asg (.t 27)),⟨none,true,.sto 4 (.t 11) (.t 29),none,false,[]⟩] [1,7,8,9,10,11,23,24,25] [11]) (.seq (.reg false [.V 30 (.mv (.t 7)),.V 31 (.ld (some 4) (.t 11)),.V 32 (.mv (.t 1)),.V 33 (.call (.c (.fn 622 [])) [.t 31,.t 32]),.V 34 (.bin .add (.t 30) (.t 33)),.V 7 (.asg (.t 34))] [1,7,8,9,10,23,24,25] []) (.seq (.reg false [.V 35 (.mv (.t 7)),.V 36 (.mv (.t 9)),.V 37 (.bin .lss (.t 35) (.t 36))] [1,7,8,9,10,23,24,25,37] []) (.cond (.t 37) (.reg false [.V 38 (.mv (.t 10)),.V 39 (.mv (.t 7)),.V 8 (.asg (.t 38)),.V 9 (.asg (.t 39))] [1,7,8,9,23,24,25] []) .skip))))) (.reg false [.V 40 (.bin .add (.t 25) (.c (.int .i64 1))),.V 25 (.mv (.t 40))] [1,7,8,9,23,24,25] [])))
def impl_LowestOf_k1 : C :=
 .norm [1,7,8,9,23,24,25] [] impl_LowestOf_k0
def impl_LowestOf_k2 : C :=
 .seq (.reg false [.V 41 (.mv (.t 8)),.V 42 (.mv (.t 9)),.V 4 (.asg (.t 41)),.V 5 (.asg (.t 42)),.V 6 (.asg (.c (.int .i64 0)))] [4,5,6] []) .ret
def impl_LowestOf_k3 : C :=
 .seq (.seq (.reg false [.V 20 (.mv (.t 0)),.V 21 (.len (.t 20)),.V 22 (.bin .eql (.t 21) (.c (.int .i64 0)))] [0,1,22] []) (.cond (.t 22) (.seq (.reg false [.V 4 (.asg (.c (.int .i64 0))),.V 5 (.asg (.c (.int .i64 0))),.V 6 (.asg (.c (.int .i64 3)))] [4,5,6] []) .ret) .skip)) (.seq (.reg false [.V 7 (.asg (.c (.int .i64 0)))] [0,1,7] []) (.seq (.reg false [.V 8 (.asg (.c (.int .i64 0))),.V 9 (.asg (.c (.int .i64 1000000000000)))] [0,1,7,8,9] []) (.seq (.seq (.reg false [.V 23 (.mv (.t 0)),.V 24 (.len (.t 23)),.V 25 (.mv (.c (.int .i64 0)))] [1,7,8,9,23,24,25] []) (.block 0 (.loop impl_LowestOf_k1))) impl_LowestOf_k2)))
def impl_LowestOf_ir : Fn := { np := 2,io := [],res := [.t 4,.t 5,.t 6],own := [false,false,false],body :=
 (.seq (.reg false [.V 4 (.asg (.c (.int .i64 0))),.V 5 (.asg (.c (.int .i64 0))),.V 6 (.asg (.c (.int .i64 0)))] [0,1] []) (.seq (.seq (.reg false [.V 12 (.mv (.t 0)),.V 13 (.call (.c (.fn 213 [])) [.t 12]),.V 14 (.un .not (.t 13)),.V 15 (.mv (.t 14)),.G 16 (.mv (.t 1)) 3 false,.G 17 (.call (.c (.fn 24 [])) [.t 16]) 3 false,.G 18 (.un .not (.t 17)) 3 false,.V 19 (.pick (.t 15) (.c (.bool true)) (.t 18))] [0,1,19] []) (.cond (.t 19) (.seq (.reg false [.V 4 (.asg (.c (.int .i64 0))),.V 5 (.asg (.c (.int .i64 0))),.V 6 (.asg (.c (.int .i64 1)))] [4,5,6] []) .ret) .skip)) (.norm [0,1] [] impl_LowestOf_k3))) }
noncomputable def impl_LowestOf_D : List (Nat × Callee) := [(24,impl_IsName_c),(213,impl_ValidBook_c),(622,impl_Entry_change_c)]
def impl_LowestOf_H : List (Nat × ET) := [(12,T_Entry),(20,T_Entry),(23,T_Entry)]
noncomputable def impl_LowestOf_c : Callee := mkCallee impl_LowestOf_D impl_LowestOf_H impl_LowestOf_ir [.d (.one (.sl T_Entry)),.d (.one .str)] [.d (.one (.int .i64)),.d (.one (.int .i64)),.d (.one (.int .i64))] []
noncomputable def impl_LowestOf (a0 : List T_Entry.ty) (a1 : List UInt8) : Option (Int × Int × Int) := impl_LowestOf_c.f (a0,a1,())
noncomputable def impl_LowestOf_p0  (v0 : List T_Entry.ty) (v1 : List UInt8) : Option (Int × Int × Int) :=
 goL impl_LowestOf_D impl_LowestOf_H (vleave impl_LowestOf_ir [.d (.one (.sl T_Entry)),.d (.one .str)] [.d (.one (.int .i64)),.d (.one (.int .i64)),.d (.one (.int .i64))] [] []) [.c impl_LowestOf_k3]
  ⟨[(0,.sl T_Entry v0),(1,.str v1)],[]⟩
noncomputable def impl_LowestOf_p1  (v1 : List UInt8) (v7 : Int) (v8 : Int) (v9 : Int) (v23 : List T_Entry.ty) (v24 : Int) (v25 : Int) : Option (Int × Int × Int) :=
 goL impl_LowestOf_D impl_LowestOf_H (vleave impl_LowestOf_ir [.d (.one (.sl T_Entry)),.d (.one .str)] [.d (.one (.int .i64)),.d (.one (.int .i64)),.d (.one (.int .i64))] [] []) [.c impl_LowestOf_k0,.l impl_LowestOf_k1,.e 0,.c impl_LowestOf_k2]
  ⟨[(1,.str v1),(7,.int .i64 v7),(8,.int .i64 v8),(9,.int .i64 v9),(23,.sl T_Entry v23),(24,.int .i64 v24),(25,.int .i64 v25)],[]⟩
theorem impl_LowestOf_eq (a0 : List T_Entry.ty) (a1 : List UInt8) : impl_LowestOf a0 a1 =
 (impl_ValidBook a0).bind fun x1 =>
  if (!x1) then
   some (0,0,1)
  else
   (impl_IsName a1).bind fun x2 =>
    if (!x2) then
     some (0,0,1)
    else
     impl_LowestOf_p0 a0 a1 :=
 (mk_f _ _ _ _ _ _ _ 4000).trans (by kernel_rfl)
theorem impl_LowestOf_p0_eq  (v0 : List T_Entry.ty) (v1 : List UInt8) : impl_LowestOf_p0 v0 v1 =
 if ((v0.length : Int) == 0) then
  some (0,0,3)
 else
  impl_LowestOf_p1 v1 0 0 1000000000000 v0 (v0.length : Int) 0 :=
 (goL_dn _ _ _ 4000 _ _).trans (by kernel_rfl)
theorem impl_LowestOf_p1_eq  (v1 : List UInt8) (v7 : Int) (v8 : Int) (v9 : Int) (v23 : List T_Entry.ty) (v24 : Int) (v25 : Int) : impl_LowestOf_p1 v1 v7 v8 v9 v23 v24 v25 =
 if decide (v25 < v24) then
  if decide (0 ≤ v25) then
   (v23[v25.toNat]?).bind fun x1 =>
    (impl_Entry_change x1 v1).bind fun x2 =>
     if decide (IntKind.i64.wrap (v7 + x2) < v9) then
      impl_LowestOf_p1 v1 (IntKind.i64.wrap (v7 + x2)) v25 (IntKind.i64.wrap (v7 + x2)) v23 v24 (IntKind.i64.wrap (v25 + 1))
     else
      impl_LowestOf_p1 v1 (IntKind.i64.wrap (v7 + x2)) v8 v9 v23 v24 (IntKind.i64.wrap (v25 + 1))
  else
   none
 else
  some (v8,v9,0) :=
 (goL_dn _ _ _ 4000 _ _).trans (by kernel_rfl)
def impl_FirstBelow_k0 : C :=
 .seq (.reg false [.V 20 (.bin .lss (.t 19) (.t 18))] [1,6,17,18,19,20] []) (.seq (.cond (.t 20) .skip (.exit 0)) (.seq (.block 1 (.seq (.reg false [.V 21 (.mv (.t 19)),.V 22 (.ia 4 (.t 17) (.t 19)),.V 23 (.ld (some 4) (.t 22)),.W 8 (.alloc 4 (.agg [.int .i64 0,.str [],.str [],.int .i64 0])),.V 7 (.asg (.t 21)),⟨none,true,.sto 4 (.t 8) (.t 23),none,false,[]⟩] [1,6,7,8,17,18,19] [8]) (.seq (.reg false [.V 24 (.mv (.t 6)),.V 25 (.ld (some 4) (.t 8)),.V 26 (.mv (.t 1)),.V 27 (.call (.c (.fn 622 [])) [.t 25,.t 26]),.V 28 (.bin .add (.t 24) (.t 27)),.V 6 (.asg (.t 28))] [1,6,7,17,18,19] []) (.seq (.reg false [.V 29 (.mv (.t 6)),.V 30 (.bin .lss (.t 29) (.c (.int .i64 0)))] [1,6,7,17,18,19,30] []) (.cond (.t 30) (.seq (.reg false [.V 31 (.mv (.t 7)),.V 4 (.asg (.t 31)),.V 5 (.asg (.c (.int .i64 0)))] [4,5] []) .ret) .skip))))) (.reg false [.V 32 (.bin .add (.t 19) (.c (.int .i64 1))),.V 19 (.mv (.t 32))] [1,6,17,18,19] [])))
def impl_FirstBelow_k1 : C :=
 .norm [1,6,17,18,19] [] impl_FirstBelow_k0
def impl_FirstBelow_k2 : C :=
 .seq (.reg false [.V 4 (.asg (.c (.int .i64 0))),.V 5 (.asg (.c (.int .i64 3)))] [4,5] []) .ret
def impl_FirstBelow_k3 : C :=
 .seq (.reg false [.V 6 (.asg (.c (.int .i64 0)))] [0,1,6] []) (.seq (.seq (.reg false [.V 17 (.mv (.t 0)),.V 18 (.len (.t 17)),.V 19 (.mv (.c (.int .i64 0)))] [1,6,17,18,19] []) (.block 0 (.loop impl_FirstBelow_k1))) impl_FirstBelow_k2)
def impl_FirstBelow_ir : Fn := { np := 2,io := [],res := [.t 4,.t 5],own := [false,false],body :=
 (.seq (.reg false [.V 4 (.asg (.c (.int .i64 0))),.V 5 (.asg (.c (.int .i64 0)))] [0,1] []) (.seq (.seq (.reg false [.V 9 (.mv (.t 0)),.V 10 (.call (.c (.fn 213 [])) [.t 9]),.V 11 (.un .not (.t 10)),.V 12 (.mv (.t 11)),.G 13 (.mv (.t 1)) 3 false,.G 14 (.call (.c (.fn 24 [])) [.t 13]) 3 false,.G 15 (.un .not (.t 14)) 3 false,.V 16 (.pick (.t 12) (.c (.bool true)) (.t 15))] [0,1,16] []) (.cond (.t 16) (.seq (.reg false [.V 4 (.asg (.c (.int .i64 0))),.V 5 (.asg (.c (.int .i64 1)))] [4,5] []) .ret) .skip)) (.norm [0,1] [] impl_FirstBelow_k3))) }
noncomputable def impl_FirstBelow_D : List (Nat × Callee) := [(24,impl_IsName_c),(213,impl_ValidBook_c),(622,impl_Entry_change_c)]
def impl_FirstBelow_H : List (Nat × ET) := [(9,T_Entry),(17,T_Entry)]
noncomputable def impl_FirstBelow_c : Callee := mkCallee impl_FirstBelow_D impl_FirstBelow_H impl_FirstBelow_ir [.d (.one (.sl T_Entry)),.d (.one .str)] [.d (.one (.int .i64)),.d (.one (.int .i64))] []
noncomputable def impl_FirstBelow (a0 : List T_Entry.ty) (a1 : List UInt8) : Option (Int × Int) := impl_FirstBelow_c.f (a0,a1,())
noncomputable def impl_FirstBelow_p0  (v0 : List T_Entry.ty) (v1 : List UInt8) : Option (Int × Int) :=
 goL impl_FirstBelow_D impl_FirstBelow_H (vleave impl_FirstBelow_ir [.d (.one (.sl T_Entry)),.d (.one .str)] [.d (.one (.int .i64)),.d (.one (.int .i64))] [] []) [.c impl_FirstBelow_k3]
  ⟨[(0,.sl T_Entry v0),(1,.str v1)],[]⟩
noncomputable def impl_FirstBelow_p1  (v1 : List UInt8) (v6 : Int) (v17 : List T_Entry.ty) (v18 : Int) (v19 : Int) : Option (Int × Int) :=
 goL impl_FirstBelow_D impl_FirstBelow_H (vleave impl_FirstBelow_ir [.d (.one (.sl T_Entry)),.d (.one .str)] [.d (.one (.int .i64)),.d (.one (.int .i64))] [] []) [.c impl_FirstBelow_k0,.l impl_FirstBelow_k1,.e 0,.c impl_FirstBelow_k2]
  ⟨[(1,.str v1),(6,.int .i64 v6),(17,.sl T_Entry v17),(18,.int .i64 v18),(19,.int .i64 v19)],[]⟩
theorem impl_FirstBelow_eq (a0 : List T_Entry.ty) (a1 : List UInt8) : impl_FirstBelow a0 a1 =
 (impl_ValidBook a0).bind fun x1 =>
  if (!x1) then
   some (0,1)
  else
   (impl_IsName a1).bind fun x2 =>
    if (!x2) then
     some (0,1)
    else
     impl_FirstBelow_p0 a0 a1 :=
 (mk_f _ _ _ _ _ _ _ 4000).trans (by kernel_rfl)
theorem impl_FirstBelow_p0_eq  (v0 : List T_Entry.ty) (v1 : List UInt8) : impl_FirstBelow_p0 v0 v1 =
 impl_FirstBelow_p1 v1 0 v0 (v0.length : Int) 0 :=
 (goL_dn _ _ _ 4000 _ _).trans (by kernel_rfl)
theorem impl_FirstBelow_p1_eq  (v1 : List UInt8) (v6 : Int) (v17 : List T_Entry.ty) (v18 : Int) (v19 : Int) : impl_FirstBelow_p1 v1 v6 v17 v18 v19 =
 if decide (v19 < v18) then
  if decide (0 ≤ v19) then
   (v17[v19.toNat]?).bind fun x1 =>
    (impl_Entry_change x1 v1).bind fun x2 =>
     if decide (IntKind.i64.wrap (v6 + x2) < 0) then
      some (v19,0)
     else
      impl_FirstBelow_p1 v1 (IntKind.i64.wrap (v6 + x2)) v17 v18 (IntKind.i64.wrap (v19 + 1))
  else
   none
 else
  some (0,3) :=
 (goL_dn _ _ _ 4000 _ _).trans (by kernel_rfl)
def impl_at_ir : Fn := { np := 2,io := [],res := [.t 4],own := [false],body :=
 (.seq (.reg false [.V 4 (.asg (.c (.bool false)))] [0,1] []) (.seq (.reg false [.V 5 (.mv (.t 0)),.V 6 (.bin .geq (.t 5) (.c (.int .i64 0))),.V 7 (.mv (.t 6)),.G 8 (.mv (.t 0)) 2 true,.G 9 (.mv (.t 1)) 2 true,.G 10 (.bin .lss (.t 8) (.t 9)) 2 true,.V 11 (.pick (.t 7) (.t 10) (.c (.bool false))),.V 4 (.asg (.t 11))] [4] []) .ret)) }
noncomputable def impl_at_D : List (Nat × Callee) := []
def impl_at_H : List (Nat × ET) := []
noncomputable def impl_at_c : Callee := mkCallee impl_at_D impl_at_H impl_at_ir [.d (.one (.int .i64)),.d (.one (.int .i64))] [.d (.one .bool)] []
noncomputable def impl_at (a0 : Int) (a1 : Int) : Option (Bool) := impl_at_c.f (a0,a1,())
theorem impl_at_eq (a0 : Int) (a1 : Int) : impl_at a0 a1 =
 if decide (a0 ≥ 0) then
  some (decide (a0 < a1))
 else
  some false :=
 (mk_f _ _ _ _ _ _ _ 4000).trans (by kernel_rfl)
def impl_Reversed_k0 : C :=
 .seq (.reg false [.V 27 (.mv (.t 2)),.V 28 (.mv (.t 0)),.V 29 (.mv (.t 1)),.V 30 (.ia 4 (.t 28) (.t 29)),.V 31 (.fa 0 (.t 30)),.V 32 (.ld none (.t 31)),.V 33 (.bin .lss (.t 27) (.t 32)),.V 26 (.asg (.t 33))] [0,1,2,6,26] [6]) (.cond (.t 26) (.seq (.reg false [.V 34 (.build [.int .i64 0,.str [],.str [],.int .i64 0] []),⟨none,true,.sto 4 (.t 6) (.t 34),none,false,[]⟩,.V 7 (.asg (.c (.int .i64 6)))] [6,7] [6]) .ret) .skip)
def impl_Reversed_k1 : C :=
 .seq (.reg false [.V 35 (.mv (.t 0)),.V 36 (.mv (.t 1)),.V 37 (.ia 4 (.t 35) (.t 36)),.V 38 (.ld (some 4) (.t 37)),.W 8 (.alloc 4 (.agg [.int .i64 0,.str [],.str [],.int .i64 0])),⟨none,true,.sto 4 (.t 8) (.t 38),none,false,[]⟩] [2,6,8] [6,8]) (.seq (.reg false [.V 39 (.mv (.t 2)),.V 40 (.fa 2 (.t 8)),.V 41 (.ld none (.t 40)),.V 42 (.fa 1 (.t 8)),.V 43 (.ld none (.t 42)),.V 44 (.fa 3 (.t 8)),.V 45 (.ld none (.t 44)),.V 46 (.build [.int .i64 0,.str [],.str [],.int .i64 0] [(0,1,.t 39),(1,1,.t 41),(2,1,.t 43),(3,1,.t 45)]),⟨none,true,.sto 4 (.t 6) (.t 46),none,false,[]⟩,.V 7 (.asg (.c (.int .i64 0)))] [6,7] [6]) .ret)
def impl_Reversed_k2 : C :=
 .norm [0,1,2,6] [6] impl_Reversed_k1
def impl_Reversed_ir : Fn := { np := 3,io := [],res := [.cell 6 (some 4),.t 7],own := [false,false],body :=
 (.seq (.reg false [.W 6 (.alloc 4 (.agg [.int .i64 0,.str [],.str [],.int .i64 0])),.V 7 (.asg (.c (.int .i64 0)))] [0,1,2,6] [6]) (.seq (.block 0 (.seq (.reg false [.V 10 (.mv (.t 0)),.V 11 (.call (.c (.fn 213 [])) [.t 10]),.V 12 (.un .not (.t 11)),.V 9 (.asg (.t 12))] [0,1,2,6,9] [6]) (.cond (.t 9) (.seq (.reg false [.V 13 (.build [.int .i64 0,.str [],.str [],.int .i64 0] []),⟨none,true,.sto 4 (.t 6) (.t 13),none,false,[]⟩,.V 7 (.asg (.c (.int .i64 1)))] [6,7] [6]) .ret) (.seq (.reg false [.V 15 (.mv (.t 2)),.V 16 (.call (.c (.fn 623 [])) [.t 15]),.V 17 (.un .not (.t 16)),.V 18 (.mv (.t 17)),.G 19 (.mv (.t 1)) 3 false,.G 20 (.mv (.t 0)) 3 false,.G 21 (.len (.t 20)) 3 false,.G 22 (.call (.c (.fn 4 [])) [.t 19,.t 21]) 3 false,.G 23 (.un .not (.t 22)) 3 false,.V 24 (.pick (.t 18) (.c (.bool true)) (.t 23)),.V 14 (.asg (.t 24))] [0,1,2,6,14] [6]) (.cond (.t 14) (.seq (.reg false [.V 25 (.build [.int .i64 0,.str [],.str [],.int .i64 0] []),⟨none,true,.sto 4 (.t 6) (.t 25),none,false,[]⟩,.V 7 (.asg (.c (.int .i64 2)))] [6,7] [6]) .ret) (.norm [0,1,2,6] [6] impl_Reversed_k0)))))) impl_Reversed_k2)) }
noncomputable def impl_Reversed_D : List (Nat × Callee) := [(4,impl_at_c),(213,impl_ValidBook_c),(623,impl_isRentDay_c)]
def impl_Reversed_H : List (Nat × ET) := [(10,T_Entry),(20,T_Entry),(28,T_Entry),(35,T_Entry)]
noncomputable def impl_Reversed_c : Callee := mkCallee impl_Reversed_D impl_Reversed_H impl_Reversed_ir [.d (.one (.sl T_Entry)),.d (.one (.int .i64)),.d (.one (.int .i64))] [.d T_Entry,.d (.one (.int .i64))] []
noncomputable def impl_Reversed (a0 : List T_Entry.ty) (a1 : Int) (a2 : Int) : Option (T_Entry.ty × Int) := impl_Reversed_c.f (a0,a1,a2,())
noncomputable def impl_Reversed_p0  (v0 : List T_Entry.ty) (v1 : Int) (v2 : Int) (r6_0 : Int) (r6_1 : List UInt8) (r6_2 : List UInt8) (r6_3 : Int) : Option (T_Entry.ty × Int) :=
 goL impl_Reversed_D impl_Reversed_H (vleave impl_Reversed_ir [.d (.one (.sl T_Entry)),.d (.one (.int .i64)),.d (.one (.int .i64))] [.d T_Entry,.d (.one (.int .i64))] [] []) [.c impl_Reversed_k0,.e 0,.c impl_Reversed_k2]
  ⟨[(0,.sl T_Entry v0),(1,.int .i64 v1),(2,.int .i64 v2),(6,.loc 6 0 0)],[(6,some (.var 4 (.agg [.int .i64 r6_0,.str r6_1,.str r6_2,.int .i64 r6_3])))]⟩
noncomputable def impl_Reversed_p1  (v0 : List T_Entry.ty) (v1 : Int) (v2 : Int) (r6_0 : Int) (r6_1 : List UInt8) (r6_2 : List UInt8) (r6_3 : Int) : Option (T_Entry.ty × Int) :=
 goL impl_Reversed_D impl_Reversed_H (vleave impl_Reversed_ir [.d (.one (.sl T_Entry)),.d (.one (.int .i64)),.d (.one (.int .i64))] [.d T_Entry,.d (.one (.int .i64))] [] []) [.c impl_Reversed_k1]
  ⟨[(0,.sl T_Entry v0),(1,.int .i64 v1),(2,.int .i64 v2),(6,.loc 6 0 0)],[(6,some (.var 4 (.agg [.int .i64 r6_0,.str r6_1,.str r6_2,.int .i64 r6_3])))]⟩
theorem impl_Reversed_eq (a0 : List T_Entry.ty) (a1 : Int) (a2 : Int) : impl_Reversed a0 a1 a2 =
 (impl_ValidBook a0).bind fun x1 =>
  if (!x1) then
   some ((0,[],[],0,()),1)
  else
   (impl_isRentDay a2).bind fun x2 =>
    if (!x2) then
     some ((0,[],[],0,()),2)
    else
     (impl_at a1 (a0.length : Int)).bind fun x3 =>
      if (!x3) then
       some ((0,[],[],0,()),2)
      else
       impl_Reversed_p0 a0 a1 a2 0 [] [] 0 :=
 (mk_f _ _ _ _ _ _ _ 4000).trans (by kernel_rfl)
theorem impl_Reversed_p0_eq  (v0 : List T_Entry.ty) (v1 : Int) (v2 : Int) (r6_0 : Int) (r6_1 : List UInt8) (r6_2 : List UInt8) (r6_3 : Int) : impl_Reversed_p0 v0 v1 v2 r6_0 r6_1 r6_2 r6_3 =
 if decide (0 ≤ v1) then
  (v0[v1.toNat]?).bind fun x1 =>
   if decide (v2 < x1.1) then
    some ((0,[],[],0,()),6)
   else
    impl_Reversed_p1 v0 v1 v2 r6_0 r6_1 r6_2 r6_3
 else
  none :=
 (goL_dn _ _ _ 4000 _ _).trans (by kernel_rfl)
theorem impl_Reversed_p1_eq  (v0 : List T_Entry.ty) (v1 : Int) (v2 : Int) (r6_0 : Int) (r6_1 : List UInt8) (r6_2 : List UInt8) (r6_3 : Int) : impl_Reversed_p1 v0 v1 v2 r6_0 r6_1 r6_2 r6_3 =
 if decide (0 ≤ v1) then
  (v0[v1.toNat]?).bind fun x1 =>
   some ((v2,x1.2.2.1,x1.2.1,x1.2.2.2.1,()),0)
 else
  none :=
 (goL_dn _ _ _ 4000 _ _).trans (by kernel_rfl)
noncomputable def strconv_FormatInt_c : Callee := formatIntC
noncomputable def strconv_FormatInt (a0 : Int) (a1 : Int) : Option (List UInt8) := strconv_FormatInt_c.f (a0,a1,())
theorem strconv_FormatInt_eq (a0 : Int) (a1 : Int) : strconv_FormatInt a0 a1 = if decide (a1 = 10) && (decide (-9223372036854775808 ≤ a0) && decide (a0 ≤ 9223372036854775807)) then some (Lib.itoa a0) else none := rfl
def impl_Decimal_ir : Fn := { np := 1,io := [],res := [.t 2],own := [false],body :=
 (.seq (.reg false [.V 2 (.asg (.c (.str [])))] [0] []) (.seq (.reg false [.V 3 (.mv (.t 0)),.V 4 (.call (.c (.fn 864 [])) [.t 3,.c (.int .i64 10)]),.V 2 (.asg (.t 4))] [2] []) .ret)) }
noncomputable def impl_Decimal_D : List (Nat × Callee) := [(864,strconv_FormatInt_c)]
def impl_Decimal_H : List (Nat × ET) := []
noncomputable def impl_Decimal_c : Callee := mkCallee impl_Decimal_D impl_Decimal_H impl_Decimal_ir [.d (.one (.int .i64))] [.d (.one .str)] []
noncomputable def impl_Decimal (a0 : Int) : Option (List UInt8) := impl_Decimal_c.f (a0,())
theorem impl_Decimal_eq (a0 : Int) : impl_Decimal a0 =
 (strconv_FormatInt a0 10).bind fun x1 =>
  some x1 :=
 (mk_f _ _ _ _ _ _ _ 4000).trans (by kernel_rfl)
def impl_EntryText_ir : Fn := { np := 1,io := [],res := [.t 2],own := [false],body :=
 (.seq (.reg false [.W 1 (.box 4 (.t 0)),.V 2 (.asg (.c (.str [])))] [1] [1]) (.seq (.seq (.reg false [.V 3 (.ld (some 4) (.t 1)),.V 4 (.call (.c (.fn 621 [])) [.t 3]),.V 5 (.un .not (.t 4))] [1,5] [1]) (.cond (.t 5) (.seq (.reg false [.V 2 (.asg (.c (.str [])))] [2] []) .ret) .skip)) (.seq (.reg true [.V 6 (.fa 0 (.t 1)),.V 7 (.ld none (.t 6)),.V 8 (.call (.c (.fn 524 [])) [.t 7]),.V 9 (.bin .add (.t 8) (.c (.str [32]))),.V 10 (.fa 2 (.t 1)),.V 11 (.ld none (.t 10)),.V 12 (.bin .add (.t 9) (.t 11)),.V 13 (.bin .add (.t 12) (.c (.str [45]))),.V 14 (.fa 1 (.t 1)),.V 15 (.ld none (.t 14)),.V 16 (.bin .add (.t 13) (.t 15)),.V 17 (.bin .add (.t 16) (.c (.str [32]))),.V 18 (.fa 3 (.t 1)),.V 19 (.ld none (.t 18)),.V 20 (.call (.c (.fn 524 [])) [.t 19]),.V 21 (.bin .add (.t 17) (.t 20)),.V 2 (.asg (.t 21))] [2] []) .ret))) }
noncomputable def impl_EntryText_D : List (Nat × Callee) := [(524,impl_Decimal_c),(621,impl_Entry_valid_c)]
def impl_EntryText_H : List (Nat × ET) := []
noncomputable def impl_EntryText_c : Callee := mkCallee impl_EntryText_D impl_EntryText_H impl_EntryText_ir [.d T_Entry] [.d (.one .str)] []
noncomputable def impl_EntryText (a0 : T_Entry.ty) : Option (List UInt8) := impl_EntryText_c.f (a0,())
theorem impl_EntryText_eq (a0 : T_Entry.ty) : impl_EntryText a0 =
 (impl_Entry_valid a0).bind fun x1 =>
  if (!x1) then
   some []
  else
   (impl_Decimal a0.1).bind fun x2 =>
    if decide (x2.length + [32].length ≤ strMax) then
     if decide ((x2 ++ [32]).length + a0.2.2.1.length ≤ strMax) then
      if decide (((x2 ++ [32]) ++ a0.2.2.1).length + [45].length ≤ strMax) then
       if decide ((((x2 ++ [32]) ++ a0.2.2.1) ++ [45]).length + a0.2.1.length ≤ strMax) then
        if decide (((((x2 ++ [32]) ++ a0.2.2.1) ++ [45]) ++ a0.2.1).length + [32].length ≤ strMax) then
         (impl_Decimal a0.2.2.2.1).bind fun x3 =>
          if decide ((((((x2 ++ [32]) ++ a0.2.2.1) ++ [45]) ++ a0.2.1) ++ [32]).length + x3.length ≤ strMax) then
           some ((((((x2 ++ [32]) ++ a0.2.2.1) ++ [45]) ++ a0.2.1) ++ [32]) ++ x3)
          else
           none
        else
         none
       else
        none
      else
       none
     else
      none
    else
     none :=
 (mk_f _ _ _ _ _ _ _ 4000).trans (by kernel_rfl)
noncomputable def strings_Split_c : Callee := splitC
noncomputable def strings_Split (a0 : List UInt8) (a1 : List UInt8) : Option (List (List UInt8)) := strings_Split_c.f (a0,a1,())
theorem strings_Split_eq (a0 : List UInt8) (a1 : List UInt8) : strings_Split a0 a1 = if decide (a0.length < 4294967281) && decide (1 ≤ a1.length) then some (Lib.splitK a1 0 (Lib.count a0 a1) a0) else none := rfl
def impl_SplitWords_k0 : C :=
 .seq (.reg false [.V 11 (.bin .lss (.t 10) (.t 9))] [3,8,9,10,11] [3]) (.seq (.cond (.t 11) .skip (.exit 0)) (.seq (.block 1 (.seq (.reg false [.V 12 (.ia 1 (.t 8) (.t 10)),.V 13 (.ld none (.t 12)),.V 5 (.asg (.t 13))] [3,5,8,9,10] [3]) (.seq (.reg false [.V 14 (.mv (.t 5)),.V 15 (.bin .neq (.t 14) (.c (.str [])))] [3,5,8,9,10,15] [3]) (.cond (.t 15) (.reg false [.V 16 (.mv (.t 3)),.V 17 (.mv (.t 5)),.V 18 (.bsl 1 (.str []) 1 [(0,.t 17)]),.W 19 (.app 1 16 (.t 16) (.t 18)),.W 3 (.asg (.t 19))] [3,8,9,10] [3]) .skip)))) (.reg false [.V 20 (.bin .add (.t 10) (.c (.int .i64 1))),.V 10 (.mv (.t 20))] [3,8,9,10] [3])))
def impl_SplitWords_k1 : C :=
 .norm [3,8,9,10] [3] impl_SplitWords_k0
def impl_SplitWords_k2 : C :=
 .seq (.reg false [.V 21 (.mv (.t 3)),.W 2 (.asg (.t 21))] [2] [2,3]) .ret
def impl_SplitWords_ir : Fn := { np := 1,io := [],res := [.t 2],own := [true],body :=
 (.seq (.reg false [.W 2 (.asg (.c (.nils 1)))] [0] []) (.seq (.reg false [.V 6 (.bsl 1 (.str []) 0 []),.W 3 (.asg (.t 6))] [0,3] [3]) (.seq (.seq (.reg false [.V 7 (.mv (.t 0)),.V 8 (.call (.c (.fn 683 [])) [.t 7,.c (.str [32])]),.V 9 (.len (.t 8)),.V 10 (.mv (.c (.int .i64 0)))] [3,8,9,10] [3]) (.block 0 (.loop impl_SplitWords_k1))) impl_SplitWords_k2))) }
noncomputable def impl_SplitWords_D : List (Nat × Callee) := [(683,strings_Split_c)]
def impl_SplitWords_H : List (Nat × ET) := [(2,(.one .str)),(3,(.one .str)),(6,(.one .str)),(8,(.one .str)),(16,(.one .str)),(18,(.one .str)),(19,(.one .str)),(21,(.one .str))]
noncomputable def impl_SplitWords_c : Callee := mkCallee impl_SplitWords_D impl_SplitWords_H impl_SplitWords_ir [.d (.one .str)] [.tok (.one .str)] []
noncomputable def impl_SplitWords (a0 : List UInt8) : Option (List (List UInt8)) := impl_SplitWords_c.f (a0,())
noncomputable def impl_SplitWords_p0  (v8 : List (List UInt8)) (v9 : Int) (v10 : Int) (r3 : List (List UInt8)) : Option (List (List UInt8)) :=
 goL impl_SplitWords_D impl_SplitWords_H (vleave impl_SplitWords_ir [.d (.one .str)] [.tok (.one .str)] [] []) [.c impl_SplitWords_k0,.l impl_SplitWords_k1,.e 0,.c impl_SplitWords_k2]
  ⟨[(3,.view 3 0 r3.length),(8,.sl (.one .str) v8),(9,.int .i64 v9),(10,.int .i64 v10)],[(3,some (.sl (.one .str) r3))]⟩
theorem impl_SplitWords_eq (a0 : List UInt8) : impl_SplitWords a0 =
 (strings_Split a0 [32]).bind fun x1 =>
  impl_SplitWords_p0 x1 (x1.length : Int) 0 [] :=
 (mk_f _ _ _ _ _ _ _ 4000).trans (by kernel_rfl)
theorem impl_SplitWords_p0_eq  (v8 : List (List UInt8)) (v9 : Int) (v10 : Int) (r3 : List (List UInt8)) : impl_SplitWords_p0 v8 v9 v10 r3 =
 if decide (v10 < v9) then
  if decide (0 ≤ v10) then
   (v8[v10.toNat]?).bind fun x1 =>
    if (!(x1 == [])) then
     if decide (r3.length + 1 < lim) then
      impl_SplitWords_p0 v8 v9 (IntKind.i64.wrap (v10 + 1)) ((r3.take r3.length) ++ [x1])
     else
      none
    else
     impl_SplitWords_p0 v8 v9 (IntKind.i64.wrap (v10 + 1)) r3
  else
   none
 else
  some (r3.take r3.length) :=
 (goL_dn _ _ _ 4000 _ _).trans (by kernel_rfl)
noncomputable def impl_ReadDecimal_c : Callee := readDecC
noncomputable def impl_ReadDecimal (a0 : List UInt8) : Option (Int × Bool) := impl_ReadDecimal_c.f (a0,())
theorem impl_ReadDecimal_eq (a0 : List UInt8) : impl_ReadDecimal a0 = some (readDecP a0) := rfl
noncomputable def strings_Cut_c : Callee := cutC
noncomputable def strings_Cut (a0 : List UInt8) (a1 : List UInt8) : Option (List UInt8 × List UInt8 × Bool) := strings_Cut_c.f (a0,a1,())
theorem strings_Cut_eq (a0 : List UInt8) (a1 : List UInt8) : strings_Cut a0 a1 = if decide (a0.length < 4294967281) then some (Lib.cut a0 a1) else none := rfl
def impl_ReadEntry_ir : Fn := { np := 1,io := [],res := [.cell 2 (some 4),.t 3],own := [false,false],body :=
 (.seq (.reg false [.W 2 (.alloc 4 (.agg [.int .i64 0,.str [],.str [],.int .i64 0])),.V 3 (.asg (.c (.bool false)))] [0,2] [2]) (.seq (.reg false [.V 13 (.mv (.t 0)),.V 14 (.call (.c (.fn 458 [])) [.t 13]),.W 4 (.asg (.t 14))] [0,2,4] [2,4]) (.seq (.seq (.reg false [.V 15 (.mv (.t 4)),.V 16 (.len (.t 15)),.V 17 (.bin .neq (.t 16) (.c (.int .i64 3)))] [0,2,4,17] [2,4]) (.cond (.t 17) (.seq (.reg false [.V 18 (.build [.int .i64 0,.str [],.str [],.int .i64 0] []),⟨none,true,.sto 4 (.t 2) (.t 18),none,false,[]⟩,.V 3 (.asg (.c (.bool false)))] [2,3] [2]) .ret) .skip)) (.seq (.reg false [.V 20 (.mv (.t 4)),.V 21 (.ia 1 (.t 20) (.c (.int .i64 0))),.V 22 (.ld none (.t 21)),.V 23 (.call (.c (.fn 522 [])) [.t 22]),.V 19 (.mv (.t 23)),.V 24 (.ext (.t 19) 0),.V 25 (.ext (.t 19) 1),.V 5 (.asg (.t 24)),.V 6 (.asg (.t 25))] [0,2,4,5,6] [2,4]) (.seq (.reg false [.V 27 (.mv (.t 4)),.V 28 (.ia 1 (.t 27) (.c (.int .i64 1))),.V 29 (.ld none (.t 28)),.V 30 (.call (.c (.fn 523 [])) [.t 29,.c (.str [45])]),.V 26 (.mv (.t 30)),.V 31 (.ext (.t 26) 0),.V 32 (.ext (.t 26) 1),.V 33 (.ext (.t 26) 2),.V 7 (.asg (.t 31)),.V 8 (.asg (.t 32)),.V 9 (.asg (.t 33))] [0,2,4,5,6,7,8] [2,4]) (.seq (.reg false [.V 35 (.mv (.t 4)),.V 36 (.ia 1 (.t 35) (.c (.int .i64 2))),.V 37 (.ld none (.t 36)),.V 38 (.call (.c (.fn 522 [])) [.t 37]),.V 34 (.mv (.t 38)),.V 39 (.ext (.t 34) 0),.V 40 (.ext (.t 34) 1),.V 10 (.asg (.t 39)),.V 11 (.asg (.t 40))] [0,2,5,6,7,8,10,11] [2]) (.seq (.reg false [.V 41 (.mv (.t 5)),.V 42 (.mv (.t 8)),.V 43 (.mv (.t 7)),.V 44 (.mv (.t 10)),.V 45 (.build [.int .i64 0,.str [],.str [],.int .i64 0] [(0,1,.t 41),(1,1,.t 42),(2,1,.t 43),(3,1,.t 44)]),.W 12 (.alloc 4 (.agg [.int .i64 0,.str [],.str [],.int .i64 0])),⟨none,true,.sto 4 (.t 12) (.t 45),none,false,[]⟩] [0,2,6,11,12] [2,12]) (.seq (.seq (.reg false [.V 46 (.mv (.t 6)),.V 47 (.un .not (.t 46)),.V 48 (.mv (.t 47)),.G 49 (.mv (.t 11)) 2 false,.G 50 (.un .not (.t 49)) 2 false,.V 51 (.pick (.t 48) (.c (.bool true)) (.t 50)),.V 52 (.mv (.t 51)),.G 53 (.ld (some 4) (.t 12)) 6 false,.G 54 (.call (.c (.fn 207 [])) [.t 53]) 6 false,.G 55 (.mv (.t 0)) 6 false,.G 56 (.bin .neq (.t 54) (.t 55)) 6 false,.V 57 (.pick (.t 52) (.c (.bool true)) (.t 56))] [2,12,57] [2,12]) (.cond (.t 57) (.seq (.reg false [.V 58 (.build [.int .i64 0,.str [],.str [],.int .i64 0] []),⟨none,true,.sto 4 (.t 2) (.t 58),none,false,[]⟩,.V 3 (.asg (.c (.bool false)))] [2,3] [2]) .ret) .skip)) (.seq (.reg false [.V 59 (.ld (some 4) (.t 12)),⟨none,true,.sto 4 (.t 2) (.t 59),none,false,[]⟩,.V 3 (.asg (.c (.bool true)))] [2,3] [2]) .ret))))))))) }
noncomputable def impl_ReadEntry_D : List (Nat × Callee) := [(207,impl_EntryText_c),(458,impl_SplitWords_c),(522,impl_ReadDecimal_c),(523,strings_Cut_c)]
def impl_ReadEntry_H : List (Nat × ET) := [(4,(.one .str)),(14,(.one .str)),(15,(.one .str)),(20,(.one .str)),(27,(.one .str)),(35,(.one .str))]
noncomputable def impl_ReadEntry_c : Callee := mkCallee impl_ReadEntry_D impl_ReadEntry_H impl_ReadEntry_ir [.d (.one .str)] [.d T_Entry,.d (.one .bool)] []
noncomputable def impl_ReadEntry (a0 : List UInt8) : Option (T_Entry.ty × Bool) := impl_ReadEntry_c.f (a0,())
theorem impl_ReadEntry_eq (a0 : List UInt8) : impl_ReadEntry a0 =
 (impl_SplitWords a0).bind fun x1 =>
  if ((x1.length : Int) != 3) then
   some ((0,[],[],0,()),false)
  else
   if decide (0 < (x1.length : Int)) then
    (x1[0]?).bind fun x2 =>
     (impl_ReadDecimal x2).bind fun x3 =>
      if decide (1 < (x1.length : Int)) then
       (x1[1]?).bind fun x4 =>
        (strings_Cut x4 [45]).bind fun x5 =>
         if decide (2 < (x1.length : Int)) then
          (x1[2]?).bind fun x6 =>
           (impl_ReadDecimal x6).bind fun x7 =>
            if (!x3.2) then
             some ((0,[],[],0,()),false)
            else
             if (!x7.2) then
              some ((0,[],[],0,()),false)
             else
              (impl_EntryText (x3.1,x5.2.1,x5.1,x7.1,())).bind fun x8 =>
               if (!(x8 == a0)) then
                some ((0,[],[],0,()),false)
               else
                some ((x3.1,x5.2.1,x5.1,x7.1,()),true)
         else
          none
      else
       none
   else
    none :=
 (mk_f _ _ _ _ _ _ _ 4000).trans (by kernel_rfl)
def impl_FlowBetween_k0 : C :=
 .seq (.reg false [.V 27 (.bin .lss (.t 26) (.t 25))] [1,2,8,24,25,26,27] []) (.seq (.cond (.t 27) .skip (.exit 0)) (.seq (.block 1 (.seq (.reg false [.V 28 (.ia 4 (.t 24) (.t 26)),.V 29 (.ld (some 4) (.t 28)),.W 10 (.alloc 4 (.agg [.int .i64 0,.str [],.str [],.int .i64 0])),⟨none,true,.sto 4 (.t 10) (.t 29),none,false,[]⟩] [1,2,8,10,24,25,26] [10]) (.seq (.reg false [.V 30 (.fa 2 (.t 10)),.V 31 (.ld none (.t 30)),.V 32 (.mv (.t 1)),.V 33 (.bin .eql (.t 31) (.t 32)),.V 34 (.mv (.t 33)),.G 35 (.fa 1 (.t 10)) 4 true,.G 36 (.ld none (.t 35)) 4 true,.G 37 (.mv (.t 2)) 4 true,.G 38 (.bin .eql (.t 36) (.t 37)) 4 true,.V 39 (.pick (.t 34) (.t 38) (.c (.bool false)))] [1,2,8,10,24,25,26,39] [10]) (.cond (.t 39) (.reg false [.V 40 (.mv (.t 8)),.V 41 (.fa 3 (.t 10)),.V 42 (.ld none (.t 41)),.V 43 (.bin .add (.t 40) (.t 42)),.V 8 (.asg (.t 43))] [1,2,8,24,25,26] []) .skip)))) (.reg false [.V 44 (.bin .add (.t 26) (.c (.int .i64 1))),.V 26 (.mv (.t 44))] [1,2,8,24,25,26] [])))
def impl_FlowBetween_k1 : C :=
 .norm [1,2,8,24,25,26] [] impl_FlowBetween_k0
def impl_FlowBetween_k2 : C :=
 .seq (.reg false [.V 45 (.mv (.t 8)),.V 6 (.asg (.t 45)),.V 7 (.asg (.c (.int .i64 0)))] [6,7] []) .ret
def impl_FlowBetween_k3 : C :=
 .seq (.reg false [.V 8 (.asg (.c (.int .i64 0)))] [0,1,2,8] []) (.seq (.seq (.reg false [.V 24 (.mv (.t 0)),.V 25 (.len (.t 24)),.V 26 (.mv (.c (.int .i64 0)))] [1,2,8,24,25,26] []) (.block 0 (.loop impl_FlowBetween_k1))) impl_FlowBetween_k2)
def impl_FlowBetween_ir : Fn := { np := 3,io := [],res := [.t 6,.t 7],own := [false,false],body :=
 (.seq (.reg false [.V 6 (.asg (.c (.int .i64 0))),.V 7 (.asg (.c (.int .i64 0)))] [0,1,2] []) (.seq (.seq (.reg false [.V 11 (.mv (.t 0)),.V 12 (.call (.c (.fn 213 [])) [.t 11]),.V 13 (.un .not (.t 12)),.V 14 (.mv (.t 13)),.G 15 (.mv (.t 1)) 3 false,.G 16 (.call (.c (.fn 24 [])) [.t 15]) 3 false,.G 17 (.un .not (.t 16)) 3 false,.V 18 (.pick (.t 14) (.c (.bool true)) (.t 17)),.V 19 (.mv (.t 18)),.G 20 (.mv (.t 2)) 8 false,.G 21 (.call (.c (.fn 24 [])) [.t 20]) 8 false,.G 22 (.un .not (.t 21)) 8 false,.V 23 (.pick (.t 19) (.c (.bool true)) (.t 22))] [0,1,2,23] []) (.cond (.t 23) (.seq (.reg false [.V 6 (.asg (.c (.int .i64 0))),.V 7 (.asg (.c (.int .i64 1)))] [6,7] []) .ret) .skip)) (.norm [0,1,2] [] impl_FlowBetween_k3))) }
noncomputable def impl_FlowBetween_D : List (Nat × Callee) := [(24,impl_IsName_c),(213,impl_ValidBook_c)]
def impl_FlowBetween_H : List (Nat × ET) := [(11,T_Entry),(24,T_Entry)]
noncomputable def impl_FlowBetween_c : Callee := mkCallee impl_FlowBetween_D impl_FlowBetween_H impl_FlowBetween_ir [.d (.one (.sl T_Entry)),.d (.one .str),.d (.one .str)] [.d (.one (.int .i64)),.d (.one (.int .i64))] []
noncomputable def impl_FlowBetween (a0 : List T_Entry.ty) (a1 : List UInt8) (a2 : List UInt8) : Option (Int × Int) := impl_FlowBetween_c.f (a0,a1,a2,())
noncomputable def impl_FlowBetween_p0  (v0 : List T_Entry.ty) (v1 : List UInt8) (v2 : List UInt8) : Option (Int × Int) :=
 goL impl_FlowBetween_D impl_FlowBetween_H (vleave impl_FlowBetween_ir [.d (.one (.sl T_Entry)),.d (.one .str),.d (.one .str)] [.d (.one (.int .i64)),.d (.one (.int .i64))] [] []) [.c impl_FlowBetween_k3]
  ⟨[(0,.sl T_Entry v0),(1,.str v1),(2,.str v2)],[]⟩
noncomputable def impl_FlowBetween_p1  (v1 : List UInt8) (v2 : List UInt8) (v8 : Int) (v24 : List T_Entry.ty) (v25 : Int) (v26 : Int) : Option (Int × Int) :=
 goL impl_FlowBetween_D impl_FlowBetween_H (vleave impl_FlowBetween_ir [.d (.one (.sl T_Entry)),.d (.one .str),.d (.one .str)] [.d (.one (.int .i64)),.d (.one (.int .i64))] [] []) [.c impl_FlowBetween_k0,.l impl_FlowBetween_k1,.e 0,.c impl_FlowBetween_k2]
  ⟨[(1,.str v1),(2,.str v2),(8,.int .i64 v8),(24,.sl T_Entry v24),(25,.int .i64 v25),(26,.int .i64 v26)],[]⟩
theorem impl_FlowBetween_eq (a0 : List T_Entry.ty) (a1 : List UInt8) (a2 : List UInt8) : impl_FlowBetween a0 a1 a2 =
 (impl_ValidBook a0).bind fun x1 =>
  if (!x1) then
   some (0,1)
  else
   (impl_IsName a1).bind fun x2 =>
    if (!x2) then
     some (0,1)
    else
     (impl_IsName a2).bind fun x3 =>
      if (!x3) then
       some (0,1)
      else
       impl_FlowBetween_p0 a0 a1 a2 :=
 (mk_f _ _ _ _ _ _ _ 4000).trans (by kernel_rfl)
theorem impl_FlowBetween_p0_eq  (v0 : List T_Entry.ty) (v1 : List UInt8) (v2 : List UInt8) : impl_FlowBetween_p0 v0 v1 v2 =
 impl_FlowBetween_p1 v1 v2 0 v0 (v0.length : Int) 0 :=
 (goL_dn _ _ _ 4000 _ _).trans (by kernel_rfl)
theorem impl_FlowBetween_p1_eq  (v1 : List UInt8) (v2 : List UInt8) (v8 : Int) (v24 : List T_Entry.ty) (v25 : Int) (v26 : Int) : impl_FlowBetween_p1 v1 v2 v8 v24 v25 v26 =
 if decide (v26 < v25) then
  if decide (0 ≤ v26) then
   (v24[v26.toNat]?).bind fun x1 =>
    if (x1.2.2.1 == v1) then
     if (x1.2.1 == v2) then
      impl_FlowBetween_p1 v1 v2 (IntKind.i64.wrap (v8 + x1.2.2.2.1)) v24 v25 (IntKind.i64.wrap (v26 + 1))
     else
      impl_FlowBetween_p1 v1 v2 v8 v24 v25 (IntKind.i64.wrap (v26 + 1))
    else
     impl_FlowBetween_p1 v1 v2 v8 v24 v25 (IntKind.i64.wrap (v26 + 1))
  else
   none
 else
  some (v8,0) :=
 (goL_dn _ _ _ 4000 _ _).trans (by kernel_rfl)
def impl_PairsOf_k0 : C :=
 .seq (.reg false [.V 69 (.mv (.t 5)),.V 70 (.mv (.t 6)),.V 71 (.mv (.t 5)),.V 72 (.mv (.t 8)),.V 73 (.ia 1 (.t 69) (.t 70)),⟨none,true,.sto 1 (.t 73) (.c (.bool true)),none,false,[]⟩,.V 74 (.ia 1 (.t 71) (.t 72)),⟨none,true,.sto 1 (.t 74) (.c (.bool true)),none,false,[]⟩] [0,4,5,6,7,8,17,18,19] [4,5,7]) (.reg false [.V 75 (.mv (.t 4)),.V 76 (.mv (.t 6)),.V 77 (.mv (.t 8)),.V 78 (.bsl 1 (.int .i64 0) 2 [(0,.t 76),(1,.t 77)]),.W 79 (.bsl 1 (.sl 1 []) 1 [(0,.t 78)]),.W 80 (.app 1 24 (.t 75) (.t 79)),.W 4 (.asg (.t 80))] [0,4,5,6,7,8,17,18,19] [4,5,7])
def impl_PairsOf_k1 : C :=
 .reg false [.V 30 (.mv (.t 8)),.V 31 (.bin .add (.t 30) (.c (.int .i64 1))),.V 8 (.asg (.t 31))] [0,4,5,6,7,8,17,18,19] [4,5,7]
def impl_PairsOf_k2 : C :=
 .seq (.seq (.reg false [.V 26 (.mv (.t 8)),.V 27 (.mv (.t 0)),.V 28 (.len (.t 27)),.V 29 (.bin .lss (.t 26) (.t 28))] [0,4,5,6,7,8,17,18,19,29] [4,5,7]) (.cond (.t 29) .skip (.exit 2))) (.seq (.block 3 (.seq (.reg false [.V 32 (.mv (.t 0)),.V 33 (.mv (.t 8)),.V 34 (.ia 4 (.t 32) (.t 33)),.V 35 (.ld (some 4) (.t 34)),.W 9 (.alloc 4 (.agg [.int .i64 0,.str [],.str [],.int .i64 0])),⟨none,true,.sto 4 (.t 9) (.t 35),none,false,[]⟩] [0,4,5,6,7,8,9,17,18,19] [4,5,7,9]) (.seq (.reg false [.V 36 (.mv (.t 5)),.V 37 (.mv (.t 6)),.V 38 (.ia 1 (.t 36) (.t 37)),.V 39 (.ld none (.t 38)),.V 40 (.un .not (.t 39)),.V 41 (.mv (.t 40)),.G 42 (.mv (.t 5)) 5 true,.G 43 (.mv (.t 8)) 5 true,.G 44 (.ia 1 (.t 42) (.t 43)) 5 true,.G 45 (.ld none (.t 44)) 5 true,.G 46 (.un .not (.t 45)) 5 true,.V 47 (.pick (.t 41) (.t 46) (.c (.bool false))),.V 48 (.mv (.t 47)),.G 49 (.fa 1 (.t 7)) 12 true,.G 50 (.ld none (.t 49)) 12 true,.G 51 (.fa 2 (.t 9)) 12 true,.G 52 (.ld none (.t 51)) 12 true,.G 53 (.bin .eql (.t 50) (.t 52)) 12 true,.V 54 (.pick (.t 48) (.t 53) (.c (.bool false))),.V 55 (.mv (.t 54)),.G 56 (.fa 2 (.t 7)) 19 true,.G 57 (.ld none (.t 56)) 19 true,.G 58 (.fa 1 (.t 9)) 19 true,.G 59 (.ld none (.t 58)) 19 true,.G 60 (.bin .eql (.t 57) (.t 59)) 19 true,.V 61 (.pick (.t 55) (.t 60) (.c (.bool false))),.V 62 (.mv (.t 61)),.G 63 (.fa 3 (.t 7)) 26 true,.G 64 (.ld none (.t 63)) 26 true,.G 65 (.fa 3 (.t 9)) 26 true,.G 66 (.ld none (.t 65)) 26 true,.G 67 (.bin .eql (.t 64) (.t 66)) 26 true,.V 68 (.pick (.t 62) (.t 67) (.c (.bool false)))] [0,4,5,6,7,8,17,18,19,68] [4,5,7]) (.cond (.t 68) (.norm [0,4,5,6,7,8,17,18,19] [4,5,7] impl_PairsOf_k0) .skip)))) impl_PairsOf_k1)
def impl_PairsOf_k3 : C :=
 .norm [0,4,5,6,7,8,17,18,19] [4,5,7] impl_PairsOf_k2
def impl_PairsOf_k4 : C :=
 .reg false [.V 81 (.bin .add (.t 19) (.c (.int .i64 1))),.V 19 (.mv (.t 81))] [0,4,5,17,18,19] [4,5]
def impl_PairsOf_k5 : C :=
 .seq (.reg false [.V 20 (.bin .lss (.t 19) (.t 18))] [0,4,5,17,18,19,20] [4,5]) (.seq (.cond (.t 20) .skip (.exit 0)) (.seq (.block 1 (.seq (.reg false [.V 21 (.mv (.t 19)),.V 22 (.ia 4 (.t 17) (.t 19)),.V 23 (.ld (some 4) (.t 22)),.W 7 (.alloc 4 (.agg [.int .i64 0,.str [],.str [],.int .i64 0])),.V 6 (.asg (.t 21)),⟨none,true,.sto 4 (.t 7) (.t 23),none,false,[]⟩] [0,4,5,6,7,17,18,19] [4,5,7]) (.seq (.reg false [.V 24 (.mv (.t 6)),.V 25 (.bin .add (.t 24) (.c (.int .i64 1))),.V 8 (.asg (.t 25))] [0,4,5,6,7,8,17,18,19] [4,5,7]) (.block 2 (.loop impl_PairsOf_k3))))) impl_PairsOf_k4))
def impl_PairsOf_k6 : C :=
 .norm [0,4,5,17,18,19] [4,5] impl_PairsOf_k5
def impl_PairsOf_k7 : C :=
 .seq (.reg false [.V 82 (.mv (.t 4)),.W 2 (.asg (.t 82)),.V 3 (.asg (.c (.int .i64 0)))] [2,3] [2,4]) .ret
def impl_PairsOf_ir : Fn := { np := 1,io := [],res := [.t 2,.t 3],own := [false,false],body :=
 (.seq (.reg false [.W 2 (.asg (.c (.nils 1))),.V 3 (.asg (.c (.int .i64 0)))] [0] []) (.seq (.seq (.reg false [.V 10 (.mv (.t 0)),.V 11 (.call (.c (.fn 213 [])) [.t 10]),.V 12 (.un .not (.t 11))] [0,12] []) (.cond (.t 12) (.seq (.reg false [.W 2 (.asg (.c (.nils 1))),.V 3 (.asg (.c (.int .i64 1)))] [2,3] [2,4]) .ret) .skip)) (.seq (.reg false [.V 13 (.bsl 1 (.sl 1 []) 0 []),.W 4 (.asg (.t 13))] [0,4] [4]) (.seq (.reg false [.V 14 (.mv (.t 0)),.V 15 (.len (.t 14)),.V 16 (.mks 1 1 (.bool false) (.t 15) (.t 15)),.W 5 (.asg (.t 16))] [0,4,5] [4,5]) (.seq (.seq (.reg false [.V 17 (.mv (.t 0)),.V 18 (.len (.t 17)),.V 19 (.mv (.c (.int .i64 0)))] [0,4,5,17,18,19] [4,5]) (.block 0 (.loop impl_PairsOf_k6))) impl_PairsOf_k7))))) }
noncomputable def impl_PairsOf_D : List (Nat × Callee) := [(213,impl_ValidBook_c)]
def impl_PairsOf_H : List (Nat × ET) := [(2,(.one (.sl (.one (.int .i64))))),(4,(.one (.sl (.one (.int .i64))))),(5,(.one .bool)),(10,T_Entry),(13,(.one (.sl (.one (.int .i64))))),(14,T_Entry),(16,(.one .bool)),(17,T_Entry),(27,T_Entry),(32,T_Entry),(36,(.one .bool)),(42,(.one .bool)),(69,(.one .bool)),(71,(.one .bool)),(75,(.one (.sl (.one (.int .i64))))),(78,(.one (.int .i64))),(79,(.one (.sl (.one (.int .i64))))),(80,(.one (.sl (.one (.int .i64))))),(82,(.one (.sl (.one (.int .i64)))))]
noncomputable def impl_PairsOf_c : Callee := mkCallee impl_PairsOf_D impl_PairsOf_H impl_PairsOf_ir [.d (.one (.sl T_Entry))] [.d (.one (.sl (.one (.sl (.one (.int .i64)))))),.d (.one (.int .i64))] []
noncomputable def impl_PairsOf (a0 : List T_Entry.ty) : Option (List (List Int) × Int) := impl_PairsOf_c.f (a0,())
noncomputable def impl_PairsOf_p0  (v0 : List T_Entry.ty) (v5n : Nat) (v17 : List T_Entry.ty) (v18 : Int) (v19 : Int) (r4 : List (List Int)) (r5 : List Bool) : Option (List (List Int) × Int) :=
 goL impl_PairsOf_D impl_PairsOf_H (vleave impl_PairsOf_ir [.d (.one (.sl T_Entry))] [.d (.one (.sl (.one (.sl (.one (.int .i64)))))),.d (.one (.int .i64))] [] []) [.c impl_PairsOf_k5,.l impl_PairsOf_k6,.e 0,.c impl_PairsOf_k7]
  ⟨[(0,.sl T_Entry v0),(4,.view 4 0 r4.length),(5,.view 5 0 v5n),(17,.sl T_Entry v17),(18,.int .i64 v18),(19,.int .i64 v19)],[(4,some (.sl (.one (.sl (.one (.int .i64)))) r4)),(5,some (.sl (.one .bool) r5))]⟩
noncomputable def impl_PairsOf_p1  (v0 : List T_Entry.ty) (v5n : Nat) (v6 : Int) (v8 : Int) (v17 : List T_Entry.ty) (v18 : Int) (v19 : Int) (r4 : List (List Int)) (r5 : List Bool) (r7_0 : Int) (r7_1 : List UInt8) (r7_2 : List UInt8) (r7_3 : Int) : Option (List (List Int) × Int) :=
 goL impl_PairsOf_D impl_PairsOf_H (vleave impl_PairsOf_ir [.d (.one (.sl T_Entry))] [.d (.one (.sl (.one (.sl (.one (.int .i64)))))),.d (.one (.int .i64))] [] []) [.c impl_PairsOf_k2,.l impl_PairsOf_k3,.e 2,.e 1,.c impl_PairsOf_k4,.l impl_PairsOf_k6,.e 0,.c impl_PairsOf_k7]
  ⟨[(0,.sl T_Entry v0),(4,.view 4 0 r4.length),(5,.view 5 0 v5n),(6,.int .i64 v6),(7,.loc 7 0 0),(8,.int .i64 v8),(17,.sl T_Entry v17),(18,.int .i64 v18),(19,.int .i64 v19)],[(4,some (.sl (.one (.sl (.one (.int .i64)))) r4)),(5,some (.sl (.one .bool) r5)),(7,some (.var 4 (.agg [.int .i64 r7_0,.str r7_1,.str r7_2,.int .i64 r7_3])))]⟩
noncomputable def impl_PairsOf_p2  (v0 : List T_Entry.ty) (v5n : Nat) (v6 : Int) (v8 : Int) (v17 : List T_Entry.ty) (v18 : Int) (v19 : Int) (r4 : List (List Int)) (r5 : List Bool) (r7_0 : Int) (r7_1 : List UInt8) (r7_2 : List UInt8) (r7_3 : Int) : Option (List (List Int) × Int) :=
 goL impl_PairsOf_D impl_PairsOf_H (vleave impl_PairsOf_ir [.d (.one (.sl T_Entry))] [.d (.one (.sl (.one (.sl (.one (.int .i64)))))),.d (.one (.int .i64))] [] []) [.c impl_PairsOf_k0,.e 3,.c impl_PairsOf_k1,.l impl_PairsOf_k3,.e 2,.e 1,.c impl_PairsOf_k4,.l impl_PairsOf_k6,.e 0,.c impl_PairsOf_k7]
  ⟨[(0,.sl T_Entry v0),(4,.view 4 0 r4.length),(5,.view 5 0 v5n),(6,.int .i64 v6),(7,.loc 7 0 0),(8,.int .i64 v8),(17,.sl T_Entry v17),(18,.int .i64 v18),(19,.int .i64 v19)],[(4,some (.sl (.one (.sl (.one (.int .i64)))) r4)),(5,some (.sl (.one .bool) r5)),(7,some (.var 4 (.agg [.int .i64 r7_0,.str r7_1,.str r7_2,.int .i64 r7_3])))]⟩
theorem impl_PairsOf_eq (a0 : List T_Entry.ty) : impl_PairsOf a0 =
 (impl_ValidBook a0).bind fun x1 =>
  if (!x1) then
   some ([],1)
  else
   if decide (0 ≤ (a0.length : Int)) && decide ((a0.length : Int) ≤ (a0.length : Int)) && decide ((a0.length : Int).toNat < lim) then
    impl_PairsOf_p0 a0 ((List.replicate ((a0.length : Int).toNat) (false : Bool)).length) a0 (a0.length : Int) 0 [] (List.replicate ((a0.length : Int).toNat) (false : Bool))
   else
    none :=
 (mk_f _ _ _ _ _ _ _ 4000).trans (by kernel_rfl)
theorem impl_PairsOf_p0_eq  (v0 : List T_Entry.ty) (v5n : Nat) (v17 : List T_Entry.ty) (v18 : Int) (v19 : Int) (r4 : List (List Int)) (r5 : List Bool) : impl_PairsOf_p0 v0 v5n v17 v18 v19 r4 r5 =
 if decide (v19 < v18) then
  if decide (0 ≤ v19) then
   (v17[v19.toNat]?).bind fun x1 =>
    impl_PairsOf_p1 v0 v5n v19 (IntKind.i64.wrap (v19 + 1)) v17 v18 v19 r4 r5 x1.1 x1.2.1 x1.2.2.1 x1.2.2.2.1
  else
   none
 else
  some ((r4.take r4.length),0) :=
 (goL_dn _ _ _ 4000 _ _).trans (by kernel_rfl)
theorem impl_PairsOf_p1_eq  (v0 : List T_Entry.ty) (v5n : Nat) (v6 : Int) (v8 : Int) (v17 : List T_Entry.ty) (v18 : Int) (v19 : Int) (r4 : List (List Int)) (r5 : List Bool) (r7_0 : Int) (r7_1 : List UInt8) (r7_2 : List UInt8) (r7_3 : Int) : impl_PairsOf_p1 v0 v5n v6 v8 v17 v18 v19 r4 r5 r7_0 r7_1 r7_2 r7_3 =
 if decide (v8 < (v0.length : Int)) then
  if decide (0 ≤ v8) then
   (v0[v8.toNat]?).bind fun x1 =>
    if decide (0 ≤ v6) && decide (v6 < (v5n : Int)) then
     (r5[v6.toNat]?).bind fun x2 =>
      if (!x2) then
       if decide (0 ≤ v8) && decide (v8 < (v5n : Int)) then
        (r5[v8.toNat]?).bind fun x3 =>
         if (!x3) then
          if (r7_1 == x1.2.2.1) then
           if (r7_2 == x1.2.1) then
            if (r7_3 == x1.2.2.2.1) then
             impl_PairsOf_p2 v0 v5n v6 v8 v17 v18 v19 r4 r5 r7_0 r7_1 r7_2 r7_3
            else
             impl_PairsOf_p1 v0 v5n v6 (IntKind.i64.wrap (v8 + 1)) v17 v18 v19 r4 r5 r7_0 r7_1 r7_2 r7_3
           else
            impl_PairsOf_p1 v0 v5n v6 (IntKind.i64.wrap (v8 + 1)) v17 v18 v19 r4 r5 r7_0 r7_1 r7_2 r7_3
          else
           impl_PairsOf_p1 v0 v5n v6 (IntKind.i64.wrap (v8 + 1)) v17 v18 v19 r4 r5 r7_0 r7_1 r7_2 r7_3
         else
          impl_PairsOf_p1 v0 v5n v6 (IntKind.i64.wrap (v8 + 1)) v17 v18 v19 r4 r5 r7_0 r7_1 r7_2 r7_3
       else
        none
      else
       impl_PairsOf_p1 v0 v5n v6 (IntKind.i64.wrap (v8 + 1)) v17 v18 v19 r4 r5 r7_0 r7_1 r7_2 r7_3
    else
     none
  else
   none
 else
  impl_PairsOf_p0 v0 v5n v17 v18 (IntKind.i64.wrap (v19 + 1)) r4 r5 :=
 (goL_dn _ _ _ 4000 _ _).trans (by kernel_rfl)
theorem impl_PairsOf_p2_eq  (v0 : List T_Entry.ty) (v5n : Nat) (v6 : Int) (v8 : Int) (v17 : List T_Entry.ty) (v18 : Int) (v19 : Int) (r4 : List (List Int)) (r5 : List Bool) (r7_0 : Int) (r7_1 : List UInt8) (r7_2 : List UInt8) (r7_3 : Int) : impl_PairsOf_p2 v0 v5n v6 v8 v17 v18 v19 r4 r5 r7_0 r7_1 r7_2 r7_3 =
 if decide (0 ≤ v6) && decide (v6 < (v5n : Int)) then
  (r5[v6.toNat]?).bind fun x1 =>
   if decide (0 ≤ v8) && decide (v8 < (v5n : Int)) then
    ((r5.set v6.toNat true)[v8.toNat]?).bind fun x2 =>
     if decide (r4.length + 1 < lim) then
      impl_PairsOf_p1 v0 v5n v6 (IntKind.i64.wrap (v8 + 1)) v17 v18 v19 ((r4.take r4.length) ++ [[v6,v8]]) ((r5.set v6.toNat true).set v8.toNat true) r7_0 r7_1 r7_2 r7_3
     else
      none
   else
    none
 else
  none :=
 (goL_dn _ _ _ 4000 _ _).trans (by kernel_rfl)
def laws_r8At_k0 : C :=
 .seq (.reg false [.V 15 (.mv (.t 0)),.V 16 (.mv (.t 1)),.V 17 (.ia 1 (.t 15) (.t 16)),.V 18 (.ld none (.t 17)),.V 19 (.conv (.int .i64) (.t 18)),.V 20 (.mv (.t 2)),.V 21 (.bin .rem (.t 19) (.t 20)),.V 6 (.asg (.t 21))] [6] []) .ret
def laws_r8At_ir : Fn := { np := 3,io := [],res := [.t 6],own := [false],body :=
 (.seq (.reg false [.V 6 (.asg (.c (.int .i64 0)))] [0,1,2] []) (.seq (.seq (.reg false [.V 7 (.mv (.t 2)),.V 8 (.bin .leq (.t 7) (.c (.int .i64 1))),.V 9 (.mv (.t 8)),.G 10 (.mv (.t 1)) 2 false,.G 11 (.mv (.t 0)) 2 false,.G 12 (.len (.t 11)) 2 false,.G 13 (.bin .geq (.t 10) (.t 12)) 2 false,.V 14 (.pick (.t 9) (.c (.bool true)) (.t 13))] [0,1,2,14] []) (.cond (.t 14) (.seq (.reg false [.V 6 (.asg (.c (.int .i64 0)))] [6] []) .ret) .skip)) (.norm [0,1,2] [] laws_r8At_k0))) }
noncomputable def laws_r8At_D : List (Nat × Callee) := []
def laws_r8At_H : List (Nat × ET) := [(11,(.one (.int .u8))),(15,(.one (.int .u8)))]
noncomputable def laws_r8At_c : Callee := mkCallee laws_r8At_D laws_r8At_H laws_r8At_ir [.d (.one (.sl (.one (.int .u8)))),.d (.one (.int .i64)),.d (.one (.int .i64))] [.d (.one (.int .i64))] []
noncomputable def laws_r8At (a0 : List Int) (a1 : Int) (a2 : Int) : Option (Int) := laws_r8At_c.f (a0,a1,a2,())
noncomputable def laws_r8At_p0  (v0 : List Int) (v1 : Int) (v2 : Int) : Option (Int) :=
 goL laws_r8At_D laws_r8At_H (vleave laws_r8At_ir [.d (.one (.sl (.one (.int .u8)))),.d (.one (.int .i64)),.d (.one (.int .i64))] [.d (.one (.int .i64))] [] []) [.c laws_r8At_k0]
  ⟨[(0,.sl (.one (.int .u8)) v0),(1,.int .i64 v1),(2,.int .i64 v2)],[]⟩
theorem laws_r8At_eq (a0 : List Int) (a1 : Int) (a2 : Int) : laws_r8At a0 a1 a2 =
 if decide (a2 ≤ 1) then
  some 0
 else
  if decide (a1 ≥ (a0.length : Int)) then
   some 0
  else
   laws_r8At_p0 a0 a1 a2 :=
 (mk_f _ _ _ _ _ _ _ 4000).trans (by kernel_rfl)
theorem laws_r8At_p0_eq  (v0 : List Int) (v1 : Int) (v2 : Int) : laws_r8At_p0 v0 v1 v2 =
 if decide (0 ≤ v1) then
  (v0[v1.toNat]?).bind fun x1 =>
   if decide (v2 = 0) then
    none
   else
    some ((IntKind.i64.wrap x1).tmod v2)
 else
  none :=
 (goL_dn _ _ _ 4000 _ _).trans (by kernel_rfl)
def impl_debtsCode_k0 : C :=
 .seq (.reg false [.V 13 (.bin .lss (.t 12) (.t 11))] [0,1,10,11,12,13] []) (.seq (.cond (.t 13) .skip (.exit 0)) (.seq (.block 1 (.seq (.reg false [.V 14 (.mv (.t 12)),.V 15 (.ia 1 (.t 10) (.t 12)),.V 16 (.ld none (.t 15)),.V 5 (.asg (.t 14)),.V 6 (.asg (.t 16))] [0,1,5,6,10,11,12] []) (.seq (.reg false [.V 17 (.mv (.t 6)),.V 18 (.call (.c (.fn 24 [])) [.t 17]),.V 19 (.un .not (.t 18)),.V 20 (.mv (.t 19)),.G 21 (.mv (.t 5)) 3 false,.G 22 (.bin .gtr (.t 21) (.c (.int .i64 0))) 3 false,.G 23 (.mv (.t 22)) 3 false,.G 24 (.mv (.t 0)) 6 true,.G 25 (.mv (.t 5)) 6 true,.G 26 (.bin .sub (.t 25) (.c (.int .i64 1))) 6 true,.G 27 (.ia 1 (.t 24) (.t 26)) 6 true,.G 28 (.ld none (.t 27)) 6 true,.G 29 (.mv (.t 6)) 6 true,.G 30 (.bin .geq (.t 28) (.t 29)) 6 true,.G 31 (.pick (.t 23) (.t 30) (.c (.bool false))) 3 false,.V 32 (.pick (.t 20) (.c (.bool true)) (.t 31))] [0,1,10,11,12,32] []) (.cond (.t 32) (.seq (.reg false [.V 4 (.asg (.c (.int .i64 1)))] [4] []) .ret) .skip)))) (.reg false [.V 33 (.bin .add (.t 12) (.c (.int .i64 1))),.V 12 (.mv (.t 33))] [0,1,10,11,12] [])))
def impl_debtsCode_k1 : C :=
 .norm [0,1,10,11,12] [] impl_debtsCode_k0
def impl_debtsCode_k2 : C :=
 .seq (.reg false [.V 37 (.bin .lss (.t 36) (.t 35))] [0,1,7,34,35,36,37] []) (.seq (.cond (.t 37) .skip (.exit 2)) (.seq (.block 3 (.seq (.reg false [.V 38 (.ia 1 (.t 34) (.t 36)),.V 39 (.ld none (.t 38)),.V 9 (.asg (.t 39))] [0,1,7,9,34,35,36] []) (.seq (.seq (.reg false [.V 40 (.mv (.t 9)),.V 41 (.call (.c (.fn 23 [])) [.t 40,.c (.int .i64 (-10000000)),.c (.int .i64 10000000)]),.V 42 (.un .not (.t 41))] [0,1,7,9,34,35,36,42] []) (.cond (.t 42) (.seq (.reg false [.V 4 (.asg (.c (.int .i64 2)))] [4] []) .ret) .skip)) (.reg false [.V 43 (.mv (.t 7)),.V 44 (.mv (.t 9)),.V 45 (.bin .add (.t 43) (.t 44)),.V 7 (.asg (.t 45))] [0,1,7,34,35,36] [])))) (.reg false [.V 46 (.bin .add (.t 36) (.c (.int .i64 1))),.V 36 (.mv (.t 46))] [0,1,7,34,35,36] [])))
def impl_debtsCode_k3 : C :=
 .norm [0,1,7,34,35,36] [] impl_debtsCode_k2
def impl_debtsCode_k4 : C :=
 .seq (.block 4 (.seq (.reg false [.V 48 (.mv (.t 0)),.V 49 (.len (.t 48)),.V 50 (.mv (.t 1)),.V 51 (.len (.t 50)),.V 52 (.bin .neq (.t 49) (.t 51)),.V 53 (.mv (.t 52)),.G 54 (.mv (.t 0)) 5 false,.G 55 (.len (.t 54)) 5 false,.G 56 (.call (.c (.fn 21 [])) [.t 55,.c (.int .i64 16)]) 5 false,.G 57 (.un .not (.t 56)) 5 false,.V 58 (.pick (.t 53) (.c (.bool true)) (.t 57)),.V 47 (.asg (.t 58))] [7,47] []) (.cond (.t 47) (.seq (.reg false [.V 4 (.asg (.c (.int .i64 7)))] [4] []) .ret) (.seq (.reg false [.V 60 (.mv (.t 7)),.V 61 (.bin .neq (.t 60) (.c (.int .i64 0))),.V 59 (.asg (.t 61))] [59] []) (.cond (.t 59) (.seq (.reg false [.V 4 (.asg (.c (.int .i64 6)))] [4] []) .ret) .skip))))) (.seq (.reg false [.V 4 (.asg (.c (.int .i64 0)))] [4] []) .ret)
def impl_debtsCode_k5 : C :=
 .seq (.reg false [.V 7 (.asg (.c (.int .i64 0)))] [0,1,7] []) (.seq (.seq (.reg false [.V 34 (.mv (.t 1)),.V 35 (.len (.t 34)),.V 36 (.mv (.c (.int .i64 0)))] [0,1,7,34,35,36] []) (.block 2 (.loop impl_debtsCode_k3))) impl_debtsCode_k4)
def impl_debtsCode_ir : Fn := { np := 2,io := [],res := [.t 4],own := [false],body :=
 (.seq (.reg false [.V 4 (.asg (.c (.int .i64 0)))] [0,1] []) (.seq (.seq (.reg false [.V 10 (.mv (.t 0)),.V 11 (.len (.t 10)),.V 12 (.mv (.c (.int .i64 0)))] [0,1,10,11,12] []) (.block 0 (.loop impl_debtsCode_k1))) impl_debtsCode_k5)) }
noncomputable def impl_debtsCode_D : List (Nat × Callee) := [(21,impl_few_c),(23,impl_within_c),(24,impl_IsName_c)]
def impl_debtsCode_H : List (Nat × ET) := [(10,(.one .str)),(24,(.one .str)),(34,(.one (.int .i64))),(48,(.one .str)),(50,(.one (.int .i64))),(54,(.one .str))]
noncomputable def impl_debtsCode_c : Callee := mkCallee impl_debtsCode_D impl_debtsCode_H impl_debtsCode_ir [.d (.one (.sl (.one .str))),.d (.one (.sl (.one (.int .i64))))] [.d (.one (.int .i64))] []
noncomputable def impl_debtsCode (a0 : List (List UInt8)) (a1 : List Int) : Option (Int) := impl_debtsCode_c.f (a0,a1,())
noncomputable def impl_debtsCode_p0  (v0 : List (List UInt8)) (v1 : List Int) (v10 : List (List UInt8)) (v11 : Int) (v12 : Int) : Option (Int) :=
 goL impl_debtsCode_D impl_debtsCode_H (vleave impl_debtsCode_ir [.d (.one (.sl (.one .str))),.d (.one (.sl (.one (.int .i64))))] [.d (.one (.int .i64))] [] []) [.c impl_debtsCode_k0,.l impl_debtsCode_k1,.e 0,.c impl_debtsCode_k5]
  ⟨[(0,.sl (.one .str) v0),(1,.sl (.one (.int .i64)) v1),(10,.sl (.one .str) v10),(11,.int .i64 v11),(12,.int .i64 v12)],[]⟩
noncomputable def impl_debtsCode_p1  (v0 : List (List UInt8)) (v1 : List Int) (v7 : Int) (v34 : List Int) (v35 : Int) (v36 : Int) : Option (Int) :=
 goL impl_debtsCode_D impl_debtsCode_H (vleave impl_debtsCode_ir [.d (.one (.sl (.one .str))),.d (.one (.sl (.one (.int .i64))))] [.d (.one (.int .i64))] [] []) [.c impl_debtsCode_k2,.l impl_debtsCode_k3,.e 2,.c impl_debtsCode_k4]
  ⟨[(0,.sl (.one .str) v0),(1,.sl (.one (.int .i64)) v1),(7,.int .i64 v7),(34,.sl (.one (.int .i64)) v34),(35,.int .i64 v35),(36,.int .i64 v36)],[]⟩
theorem impl_debtsCode_eq (a0 : List (List UInt8)) (a1 : List Int) : impl_debtsCode a0 a1 =
 impl_debtsCode_p0 a0 a1 a0 (a0.length : Int) 0 :=
 (mk_f _ _ _ _ _ _ _ 4000).trans (by kernel_rfl)
theorem impl_debtsCode_p0_eq  (v0 : List (List UInt8)) (v1 : List Int) (v10 : List (List UInt8)) (v11 : Int) (v12 : Int) : impl_debtsCode_p0 v0 v1 v10 v11 v12 =
 if decide (v12 < v11) then
  if decide (0 ≤ v12) then
   (v10[v12.toNat]?).bind fun x1 =>
    (impl_IsName x1).bind fun x2 =>
     if (!x2) then
      some 1
     else
      if decide (v12 > 0) then
       if decide (0 ≤ IntKind.i64.wrap (v12 - 1)) then
        (v0[(IntKind.i64.wrap (v12 - 1)).toNat]?).bind fun x3 =>
         if (!Op.bytesLess x3 x1) then
          some 1
         else
          impl_debtsCode_p0 v0 v1 v10 v11 (IntKind.i64.wrap (v12 + 1))
       else
        none
      else
       impl_debtsCode_p0 v0 v1 v10 v11 (IntKind.i64.wrap (v12 + 1))
  else
   none
 else
  impl_debtsCode_p1 v0 v1 0 v1 (v1.length : Int) 0 :=
 (goL_dn _ _ _ 4000 _ _).trans (by kernel_rfl)
theorem impl_debtsCode_p1_eq  (v0 : List (List UInt8)) (v1 : List Int) (v7 : Int) (v34 : List Int) (v35 : Int) (v36 : Int) : impl_debtsCode_p1 v0 v1 v7 v34 v35 v36 =
 if decide (v36 < v35) then
  if decide (0 ≤ v36) then
   (v34[v36.toNat]?).bind fun x1 =>
    (impl_within x1 (-10000000) 10000000).bind fun x2 =>
     if (!x2) then
      some 2
     else
      impl_debtsCode_p1 v0 v1 (IntKind.i64.wrap (v7 + x1)) v34 v35 (IntKind.i64.wrap (v36 + 1))
  else
   none
 else
  if ((v0.length : Int) != (v1.length : Int)) then
   some 7
  else
   (impl_few (v0.length : Int) 16).bind fun x3 =>
    if (!x3) then
     some 7
    else
     if (v7 != 0) then
      some 6
     else
      some 0 :=
 (goL_dn _ _ _ 4000 _ _).trans (by kernel_rfl)
def impl_clone_int64__ir : Fn := { np := 1,io := [],res := [.t 2],own := [true],body :=
 (.seq (.reg false [.W 2 (.asg (.c (.nils 1)))] [0] []) (.seq (.reg false [.V 3 (.mv (.t 0)),.V 4 (.len (.t 3)),.V 5 (.mks 1 8 (.int .i64 0) (.c (.int .i64 0)) (.t 4)),.V 6 (.mv (.t 0)),.W 7 (.app 1 8 (.t 5) (.t 6)),.W 2 (.asg (.t 7))] [2] [2]) .ret)) }
noncomputable def impl_clone_int64__D : List (Nat × Callee) := []
def impl_clone_int64__H : List (Nat × ET) := [(2,(.one (.int .i64))),(3,(.one (.int .i64))),(5,(.one (.int .i64))),(6,(.one (.int .i64))),(7,(.one (.int .i64)))]
noncomputable def impl_clone_int64__c : Callee := mkCallee impl_clone_int64__D impl_clone_int64__H impl_clone_int64__ir [.d (.one (.sl (.one (.int .i64))))] [.tok (.one (.int .i64))] []
noncomputable def impl_clone_int64_ (a0 : List Int) : Option (List Int) := impl_clone_int64__c.f (a0,())
theorem impl_clone_int64__eq (a0 : List Int) : impl_clone_int64_ a0 =
 if decide (0 ≤ (a0.length : Int)) && decide ((a0.length : Int).toNat < lim) then
  if decide (0 + a0.length < lim) then
   some (([] ++ a0).take (([] ++ a0).length))
  else
   none
 else
  none :=
 (mk_f _ _ _ _ _ _ _ 4000).trans (by kernel_rfl)
def impl_SettleDebts_k0 : C :=
 .seq (.reg false [.V 40 (.mv (.t 12)),.V 41 (.mv (.t 7)),.V 42 (.mv (.t 10)),.V 43 (.ia 1 (.t 41) (.t 42)),.V 44 (.ld none (.t 43)),.V 45 (.bin .gtr (.t 40) (.t 44))] [0,7,8,9,10,11,26,27,28,45] [7,8]) (.cond (.t 45) (.reg false [.V 46 (.mv (.t 11)),.V 10 (.asg (.t 46))] [0,7,8,9,10,26,27,28] [7,8]) .skip)
def impl_SettleDebts_k1 : C :=
 .reg false [.V 47 (.bin .add (.t 28) (.c (.int .i64 1))),.V 28 (.mv (.t 47))] [0,7,8,9,10,26,27,28] [7,8]
def impl_SettleDebts_k2 : C :=
 .seq (.reg false [.V 29 (.bin .lss (.t 28) (.t 27))] [0,7,8,9,10,26,27,28,29] [7,8]) (.seq (.cond (.t 29) .skip (.exit 2)) (.seq (.block 3 (.seq (.reg false [.V 30 (.mv (.t 28)),.V 31 (.ia 1 (.t 26) (.t 28)),.V 32 (.ld none (.t 31)),.V 11 (.asg (.t 30)),.V 12 (.asg (.t 32))] [0,7,8,9,10,11,12,26,27,28] [7,8]) (.seq (.seq (.reg false [.V 33 (.mv (.t 12)),.V 34 (.mv (.t 7)),.V 35 (.mv (.t 9)),.V 36 (.ia 1 (.t 34) (.t 35)),.V 37 (.ld none (.t 36)),.V 38 (.bin .lss (.t 33) (.t 37))] [0,7,8,9,10,11,12,26,27,28,38] [7,8]) (.cond (.t 38) (.reg false [.V 39 (.mv (.t 11)),.V 9 (.asg (.t 39))] [0,7,8,9,10,11,12,26,27,28] [7,8]) .skip)) (.norm [0,7,8,9,10,11,12,26,27,28] [7,8] impl_SettleDebts_k0)))) impl_SettleDebts_k1))
def impl_SettleDebts_k3 : C :=
 .norm [0,7,8,9,10,26,27,28] [7,8] impl_SettleDebts_k2
def impl_SettleDebts_k4 : C :=
 .seq (.reg true [.V 48 (.mv (.t 7)),.V 49 (.mv (.t 9)),.V 50 (.ia 1 (.t 48) (.t 49)),.V 51 (.ld none (.t 50)),.V 52 (.un .neg (.t 51)),.V 53 (.mv (.t 7)),.V 54 (.mv (.t 10)),.V 55 (.ia 1 (.t 53) (.t 54)),.V 56 (.ld none (.t 55)),.V 57 (.min [.t 52,.t 56]),.V 13 (.asg (.t 57))] [0,7,8,9,10,13] [7,8]) (.seq (.seq (.reg false [.V 58 (.mv (.t 13)),.V 59 (.bin .eql (.t 58) (.c (.int .i64 0)))] [0,7,8,9,10,13,59] [7,8]) (.cond (.t 59) (.exit 0) .skip)) (.seq (.reg true [.V 60 (.mv (.t 8)),.V 61 (.mv (.t 0)),.V 62 (.mv (.t 9)),.V 63 (.ia 1 (.t 61) (.t 62)),.V 64 (.ld none (.t 63)),.V 65 (.mv (.t 0)),.V 66 (.mv (.t 10)),.V 67 (.ia 1 (.t 65) (.t 66)),.V 68 (.ld none (.t 67)),.V 69 (.mv (.t 13)),.V 70 (.build [.int .i64 0,.str [],.str [],.int .i64 0] [(0,1,.c (.int .i64 0)),(1,1,.t 64),(2,1,.t 68),(3,1,.t 69)]),.V 71 (.bsl 4 (.agg [.int .i64 0,.str [],.str [],.int .i64 0]) 1 [(0,.t 70)]),.W 72 (.app 4 48 (.t 60) (.t 71)),.W 8 (.asg (.t 72))] [0,7,8,9,10,13] [7,8]) (.seq (.reg false [.V 73 (.mv (.t 7)),.V 74 (.mv (.t 9)),.V 75 (.ia 1 (.t 73) (.t 74)),.V 76 (.ld none (.t 75)),.V 77 (.mv (.t 13)),.V 78 (.bin .add (.t 76) (.t 77)),.V 79 (.ia 1 (.t 73) (.t 74)),⟨none,true,.sto 1 (.t 79) (.t 78),none,false,[]⟩] [0,7,8,10,13] [7,8]) (.reg false [.V 80 (.mv (.t 7)),.V 81 (.mv (.t 10)),.V 82 (.ia 1 (.t 80) (.t 81)),.V 83 (.ld none (.t 82)),.V 84 (.mv (.t 13)),.V 85 (.bin .sub (.t 83) (.t 84)),.V 86 (.ia 1 (.t 80) (.t 81)),⟨none,true,.sto 1 (.t 86) (.t 85),none,false,[]⟩] [0,7,8] [7,8]))))
def impl_SettleDebts_k5 : C :=
 .seq (.seq (.reg false [.V 23 (.mv (.t 7)),.V 24 (.len (.t 23)),.V 25 (.bin .gtr (.t 24) (.c (.int .i64 0)))] [0,7,8,25] [7,8]) (.cond (.t 25) .skip (.exit 0))) (.block 1 (.seq (.reg false [.V 9 (.asg (.c (.int .i64 0))),.V 10 (.asg (.c (.int .i64 0)))] [0,7,8,9,10] [7,8]) (.seq (.seq (.reg false [.V 26 (.mv (.t 7)),.V 27 (.len (.t 26)),.V 28 (.mv (.c (.int .i64 0)))] [0,7,8,9,10,26,27,28] [7,8]) (.block 2 (.loop impl_SettleDebts_k3))) impl_SettleDebts_k4)))
def impl_SettleDebts_k6 : C :=
 .norm [0,7,8] [7,8] impl_SettleDebts_k5
def impl_SettleDebts_k7 : C :=
 .seq (.reg false [.V 87 (.mv (.t 8)),.W 4 (.asg (.t 87)),.V 5 (.asg (.c (.int .i64 0)))] [4,5] [4,8]) .ret
def impl_SettleDebts_ir : Fn := { np := 2,io := [],res := [.t 4,.t 5],own := [true,false],body :=
 (.seq (.reg false [.W 4 (.asg (.c (.nils 4))),.V 5 (.asg (.c (.int .i64 0)))] [0,1] []) (.seq (.seq (.reg false [.V 14 (.mv (.t 0)),.V 15 (.mv (.t 1)),.V 16 (.call (.c (.fn 625 [])) [.t 14,.t 15]),.V 6 (.asg (.t 16))] [0,1,6] []) (.seq (.reg false [.V 17 (.mv (.t 6)),.V 18 (.bin .neq (.t 17) (.c (.int .i64 0)))] [0,1,6,18] []) (.cond (.t 18) (.seq (.reg false [.V 19 (.mv (.t 6)),.W 4 (.asg (.c (.nils 4))),.V 5 (.asg (.t 19))] [4,5] [4,8]) .ret) .skip))) (.seq (.reg false [.V 20 (.mv (.t 1)),.V 21 (.call (.c (.fn 624 [])) [.t 20]),.W 7 (.asg (.t 21))] [0,7] [7]) (.seq (.reg false [.V 22 (.bsl 4 (.agg [.int .i64 0,.str [],.str [],.int .i64 0]) 0 []),.W 8 (.asg (.t 22))] [0,7,8] [7,8]) (.seq (.block 0 (.loop impl_SettleDebts_k6)) impl_SettleDebts_k7))))) }
noncomputable def impl_SettleDebts_D : List (Nat × Callee) := [(624,impl_clone_int64__c),(625,impl_debtsCode_c)]
def impl_SettleDebts_H : List (Nat × ET) := [(4,T_Entry),(7,(.one (.int .i64))),(8,T_Entry),(14,(.one .str)),(15,(.one (.int .i64))),(20,(.one (.int .i64))),(21,(.one (.int .i64))),(22,T_Entry),(23,(.one (.int .i64))),(26,(.one (.int .i64))),(34,(.one (.int .i64))),(41,(.one (.int .i64))),(48,(.one (.int .i64))),(53,(.one (.int .i64))),(60,T_Entry),(61,(.one .str)),(65,(.one .str)),(71,T_Entry),(72,T_Entry),(73,(.one (.int .i64))),(80,(.one (.int .i64))),(87,T_Entry)]
noncomputable def impl_SettleDebts_c : Callee := mkCallee impl_SettleDebts_D impl_SettleDebts_H impl_SettleDebts_ir [.d (.one (.sl (.one .str))),.d (.one (.sl (.one (.int .i64))))] [.tok T_Entry,.d (.one (.int .i64))] []
noncomputable def impl_SettleDebts (a0 : List (List UInt8)) (a1 : List Int) : Option (List T_Entry.ty × Int) := impl_SettleDebts_c.f (a0,a1,())
noncomputable def impl_SettleDebts_p0  (v0 : List (List UInt8)) (v7n : Nat) (r7 : List Int) (r8 : List T_Entry.ty) : Option (List T_Entry.ty × Int) :=
 goL impl_SettleDebts_D impl_SettleDebts_H (vleave impl_SettleDebts_ir [.d (.one (.sl (.one .str))),.d (.one (.sl (.one (.int .i64))))] [.tok T_Entry,.d (.one (.int .i64))] [] []) [.c impl_SettleDebts_k5,.l impl_SettleDebts_k6,.e 0,.c impl_SettleDebts_k7]
  ⟨[(0,.sl (.one .str) v0),(7,.view 7 0 v7n),(8,.view 8 0 r8.length)],[(7,some (.sl (.one (.int .i64)) r7)),(8,some (.sl T_Entry r8))]⟩
noncomputable def impl_SettleDebts_p1  (v0 : List (List UInt8)) (v7n : Nat) (v9 : Int) (v10 : Int) (v26n : Nat) (v27 : Int) (v28 : Int) (r7 : List Int) (r8 : List T_Entry.ty) : Option (List T_Entry.ty × Int) :=
 goL impl_SettleDebts_D impl_SettleDebts_H (vleave impl_SettleDebts_ir [.d (.one (.sl (.one .str))),.d (.one (.sl (.one (.int .i64))))] [.tok T_Entry,.d (.one (.int .i64))] [] []) [.c impl_SettleDebts_k2,.l impl_SettleDebts_k3,.e 2,.c impl_SettleDebts_k4,.e 1,.l impl_SettleDebts_k6,.e 0,.c impl_SettleDebts_k7]
  ⟨[(0,.sl (.one .str) v0),(7,.view 7 0 v7n),(8,.view 8 0 r8.length),(9,.int .i64 v9),(10,.int .i64 v10),(26,.view 7 0 v26n),(27,.int .i64 v27),(28,.int .i64 v28)],[(7,some (.sl (.one (.int .i64)) r7)),(8,some (.sl T_Entry r8))]⟩
noncomputable def impl_SettleDebts_p2  (v0 : List (List UInt8)) (v7n : Nat) (v9 : Int) (v10 : Int) (v11 : Int) (v12 : Int) (v26n : Nat) (v27 : Int) (v28 : Int) (r7 : List Int) (r8 : List T_Entry.ty) : Option (List T_Entry.ty × Int) :=
 goL impl_SettleDebts_D impl_SettleDebts_H (vleave impl_SettleDebts_ir [.d (.one (.sl (.one .str))),.d (.one (.sl (.one (.int .i64))))] [.tok T_Entry,.d (.one (.int .i64))] [] []) [.c impl_SettleDebts_k0,.e 3,.c impl_SettleDebts_k1,.l impl_SettleDebts_k3,.e 2,.c impl_SettleDebts_k4,.e 1,.l impl_SettleDebts_k6,.e 0,.c impl_SettleDebts_k7]
  ⟨[(0,.sl (.one .str) v0),(7,.view 7 0 v7n),(8,.view 8 0 r8.length),(9,.int .i64 v9),(10,.int .i64 v10),(11,.int .i64 v11),(12,.int .i64 v12),(26,.view 7 0 v26n),(27,.int .i64 v27),(28,.int .i64 v28)],[(7,some (.sl (.one (.int .i64)) r7)),(8,some (.sl T_Entry r8))]⟩
theorem impl_SettleDebts_eq (a0 : List (List UInt8)) (a1 : List Int) : impl_SettleDebts a0 a1 =
 (impl_debtsCode a0 a1).bind fun x1 =>
  if (x1 != 0) then
   some ([],x1)
  else
   (impl_clone_int64_ a1).bind fun x2 =>
    impl_SettleDebts_p0 a0 x2.length x2 [] :=
 (mk_f _ _ _ _ _ _ _ 4000).trans (by kernel_rfl)
theorem impl_SettleDebts_p0_eq  (v0 : List (List UInt8)) (v7n : Nat) (r7 : List Int) (r8 : List T_Entry.ty) : impl_SettleDebts_p0 v0 v7n r7 r8 =
 if decide ((v7n : Int) > 0) then
  impl_SettleDebts_p1 v0 v7n 0 0 v7n (v7n : Int) 0 r7 r8
 else
  some ((r8.take r8.length),0) :=
 (goL_dn _ _ _ 4000 _ _).trans (by kernel_rfl)
theorem impl_SettleDebts_p1_eq  (v0 : List (List UInt8)) (v7n : Nat) (v9 : Int) (v10 : Int) (v26n : Nat) (v27 : Int) (v28 : Int) (r7 : List Int) (r8 : List T_Entry.ty) : impl_SettleDebts_p1 v0 v7n v9 v10 v26n v27 v28 r7 r8 =
 if decide (v28 < v27) then
  if decide (0 ≤ v28) && decide (v28 < (v26n : Int)) then
   (r7[v28.toNat]?).bind fun x1 =>
    if decide (0 ≤ v9) && decide (v9 < (v7n : Int)) then
     (r7[v9.toNat]?).bind fun x2 =>
      if decide (x1 < x2) then
       impl_SettleDebts_p2 v0 v7n v28 v10 v28 x1 v26n v27 v28 r7 r8
      else
       impl_SettleDebts_p2 v0 v7n v9 v10 v28 x1 v26n v27 v28 r7 r8
    else
     none
  else
   none
 else
  if decide (0 ≤ v9) && decide (v9 < (v7n : Int)) then
   (r7[v9.toNat]?).bind fun x3 =>
    if decide (0 ≤ v10) && decide (v10 < (v7n : Int)) then
     (r7[v10.toNat]?).bind fun x4 =>
      if ((if x4 < IntKind.i64.wrap (0 - x3) then x4 else IntKind.i64.wrap (0 - x3)) == 0) then
       some ((r8.take r8.length),0)
      else
       if decide (0 ≤ v9) then
        (v0[v9.toNat]?).bind fun x5 =>
         if decide (0 ≤ v10) then
          (v0[v10.toNat]?).bind fun x6 =>
           if decide (r8.length + 1 < lim) then
            if decide (0 ≤ v9) && decide (v9 < (v7n : Int)) then
             (r7[v9.toNat]?).bind fun x7 =>
              if decide (0 ≤ v9) && decide (v9 < (v7n : Int)) then
               (r7[v9.toNat]?).bind fun x8 =>
                if decide (0 ≤ v10) && decide (v10 < (v7n : Int)) then
                 ((r7.set v9.toNat (IntKind.i64.wrap (x7 + (if x4 < IntKind.i64.wrap (0 - x3) then x4 else IntKind.i64.wrap (0 - x3)))))[v10.toNat]?).bind fun x9 =>
                  if decide (0 ≤ v10) && decide (v10 < (v7n : Int)) then
                   ((r7.set v9.toNat (IntKind.i64.wrap (x7 + (if x4 < IntKind.i64.wrap (0 - x3) then x4 else IntKind.i64.wrap (0 - x3)))))[v10.toNat]?).bind fun x10 =>
                    impl_SettleDebts_p0 v0 v7n ((r7.set v9.toNat (IntKind.i64.wrap (x7 + (if x4 < IntKind.i64.wrap (0 - x3) then x4 else IntKind.i64.wrap (0 - x3))))).set v10.toNat (IntKind.i64.wrap (x9 - (if x4 < IntKind.i64.wrap (0 - x3) then x4 else IntKind.i64.wrap (0 - x3))))) ((r8.take r8.length) ++ [(0,x5,x6,(if x4 < IntKind.i64.wrap (0 - x3) then x4 else IntKind.i64.wrap (0 - x3)),())])
                  else
                   none
                else
                 none
              else
               none
            else
             none
           else
            none
         else
          none
       else
        none
    else
     none
  else
   none :=
 (goL_dn _ _ _ 4000 _ _).trans (by kernel_rfl)
theorem impl_SettleDebts_p2_eq  (v0 : List (List UInt8)) (v7n : Nat) (v9 : Int) (v10 : Int) (v11 : Int) (v12 : Int) (v26n : Nat) (v27 : Int) (v28 : Int) (r7 : List Int) (r8 : List T_Entry.ty) : impl_SettleDebts_p2 v0 v7n v9 v10 v11 v12 v26n v27 v28 r7 r8 =
 if decide (0 ≤ v10) && decide (v10 < (v7n : Int)) then
  (r7[v10.toNat]?).bind fun x1 =>
   if decide (v12 > x1) then
    impl_SettleDebts_p1 v0 v7n v9 v11 v26n v27 (IntKind.i64.wrap (v28 + 1)) r7 r8
   else
    impl_SettleDebts_p1 v0 v7n v9 v10 v26n v27 (IntKind.i64.wrap (v28 + 1)) r7 r8
 else
  none :=
 (goL_dn _ _ _ 4000 _ _).trans (by kernel_rfl)
def laws_FnBooks_k0 : C :=
 .seq (.reg false [.V 261 (.mv (.t 24)),.V 262 (.mv (.t 20)),.V 263 (.bin .lss (.t 261) (.t 262)),.V 264 (.mv (.t 263)),.G 265 (.mv (.t 25)) 3 false,.G 266 (.mv (.t 19)) 3 false,.G 267 (.bin .eql (.t 265) (.t 266)) 3 false,.G 268 (.mv (.t 267)) 3 false,.G 269 (.mv (.t 24)) 7 true,.G 270 (.mv (.t 20)) 7 true,.G 271 (.bin .neq (.t 269) (.t 270)) 7 true,.G 272 (.pick (.t 268) (.t 271) (.c (.bool false))) 3 false,.V 273 (.pick (.t 264) (.c (.bool true)) (.t 272)),.V 274 (.mv (.t 273)),.G 275 (.mv (.t 24)) 13 false,.G 276 (.bin .lss (.t 275) (.c (.int .i64 0))) 13 false,.G 277 (.mv (.t 276)) 13 false,.G 278 (.mv (.t 23)) 16 true,.G 279 (.bin .neq (.t 278) (.c (.int .i64 0))) 16 true,.G 280 (.mv (.t 279)) 16 true,.G 281 (.mv (.t 22)) 19 false,.G 282 (.mv (.t 25)) 19 false,.G 283 (.bin .gtr (.t 281) (.t 282)) 19 false,.G 284 (.pick (.t 280) (.c (.bool true)) (.t 283)) 16 true,.G 285 (.pick (.t 277) (.t 284) (.c (.bool false))) 13 false,.V 286 (.pick (.t 274) (.c (.bool true)) (.t 285)),.V 287 (.mv (.t 286)),.G 288 (.mv (.t 23)) 26 false,.G 289 (.bin .eql (.t 288) (.c (.int .i64 0))) 26 false,.G 290 (.mv (.t 289)) 26 false,.G 291 (.mv (.t 25)) 29 true,.G 292 (.mv (.t 22)) 29 true,.G 293 (.bin .eql (.t 291) (.t 292)) 29 true,.G 294 (.pick (.t 290) (.t 293) (.c (.bool false))) 26 false,.G 295 (.mv (.t 294)) 26 false,.G 296 (.mv (.t 24)) 34 true,.G 297 (.bin .geq (.t 296) (.c (.int .i64 0))) 34 true,.G 298 (.pick (.t 295) (.t 297) (.c (.bool false))) 26 false,.V 299 (.pick (.t 287) (.c (.bool true)) (.t 298))] [1,5,6,7,8,10,12,13,19,20,22,23,24,25,299] [5,6,7,8,10]) (.cond (.t 299) (.seq (.reg false [.V 4 (.asg (.c (.bool false)))] [4] []) .ret) .skip)
def laws_FnBooks_k1 : C :=
 .seq (.seq (.reg true [.V 244 (.mv (.t 5)),.V 245 (.mv (.t 25)),.V 246 (.ia 4 (.t 244) (.t 245)),.V 247 (.fa 2 (.t 246)),.V 248 (.ld none (.t 247)),.V 249 (.mv (.t 7)),.V 250 (.mv (.t 13)),.V 251 (.ia 1 (.t 249) (.t 250)),.V 252 (.ld none (.t 251)),.V 253 (.bin .eql (.t 248) (.t 252))] [1,5,6,7,8,10,12,13,19,20,22,23,24,25,253] [5,6,7,8,10]) (.cond (.t 253) (.reg false [.V 254 (.mv (.t 24)),.V 255 (.mv (.t 5)),.V 256 (.mv (.t 25)),.V 257 (.ia 4 (.t 255) (.t 256)),.V 258 (.fa 3 (.t 257)),.V 259 (.ld none (.t 258)),.V 260 (.bin .sub (.t 254) (.t 259)),.V 24 (.asg (.t 260))] [1,5,6,7,8,10,12,13,19,20,22,23,24,25] [5,6,7,8,10]) .skip)) (.norm [1,5,6,7,8,10,12,13,19,20,22,23,24,25] [5,6,7,8,10] laws_FnBooks_k0)
def laws_FnBooks_k2 : C :=
 .reg false [.V 225 (.mv (.t 25)),.V 226 (.bin .add (.t 225) (.c (.int .i64 1))),.V 25 (.asg (.t 226))] [1,5,6,7,8,10,12,13,19,20,22,23,24,25] [5,6,7,8,10]
def laws_FnBooks_k3 : C :=
 .seq (.seq (.reg false [.V 221 (.mv (.t 25)),.V 222 (.mv (.t 5)),.V 223 (.len (.t 222)),.V 224 (.bin .lss (.t 221) (.t 223))] [1,5,6,7,8,10,12,13,19,20,22,23,24,25,224] [5,6,7,8,10]) (.cond (.t 224) .skip (.exit 2))) (.seq (.block 3 (.seq (.seq (.reg true [.V 227 (.mv (.t 5)),.V 228 (.mv (.t 25)),.V 229 (.ia 4 (.t 227) (.t 228)),.V 230 (.fa 1 (.t 229)),.V 231 (.ld none (.t 230)),.V 232 (.mv (.t 7)),.V 233 (.mv (.t 13)),.V 234 (.ia 1 (.t 232) (.t 233)),.V 235 (.ld none (.t 234)),.V 236 (.bin .eql (.t 231) (.t 235))] [1,5,6,7,8,10,12,13,19,20,22,23,24,25,236] [5,6,7,8,10]) (.cond (.t 236) (.reg false [.V 237 (.mv (.t 24)),.V 238 (.mv (.t 5)),.V 239 (.mv (.t 25)),.V 240 (.ia 4 (.t 238) (.t 239)),.V 241 (.fa 3 (.t 240)),.V 242 (.ld none (.t 241)),.V 243 (.bin .add (.t 237) (.t 242)),.V 24 (.asg (.t 243))] [1,5,6,7,8,10,12,13,19,20,22,23,24,25] [5,6,7,8,10]) .skip)) (.norm [1,5,6,7,8,10,12,13,19,20,22,23,24,25] [5,6,7,8,10] laws_FnBooks_k1))) laws_FnBooks_k2)
def laws_FnBooks_k4 : C :=
 .norm [1,5,6,7,8,10,12,13,19,20,22,23,24,25] [5,6,7,8,10] laws_FnBooks_k3
def laws_FnBooks_k5 : C :=
 .seq (.reg false [.V 24 (.asg (.c (.int .i64 0)))] [1,5,6,7,8,10,12,13,19,20,22,23,24] [5,6,7,8,10]) (.seq (.reg false [.V 25 (.asg (.c (.int .i64 0)))] [1,5,6,7,8,10,12,13,19,20,22,23,24,25] [5,6,7,8,10]) (.block 2 (.loop laws_FnBooks_k4)))
def laws_FnBooks_k6 : C :=
 .seq (.reg false [.V 184 (.mv (.t 5)),.V 185 (.mv (.t 7)),.V 186 (.mv (.t 13)),.V 187 (.ia 1 (.t 185) (.t 186)),.V 188 (.ld none (.t 187)),.V 189 (.call (.c (.fn 211 [])) [.t 184,.t 188]),.V 183 (.mv (.t 189)),.V 190 (.ext (.t 183) 0),.V 191 (.ext (.t 183) 1),.V 192 (.ext (.t 183) 2),.V 19 (.asg (.t 190)),.V 20 (.asg (.t 191)),.V 21 (.asg (.t 192))] [1,5,6,7,8,10,12,13,19,20,21] [5,6,7,8,10]) (.seq (.reg false [.V 194 (.mv (.t 5)),.V 195 (.mv (.t 7)),.V 196 (.mv (.t 13)),.V 197 (.ia 1 (.t 195) (.t 196)),.V 198 (.ld none (.t 197)),.V 199 (.call (.c (.fn 210 [])) [.t 194,.t 198]),.V 193 (.mv (.t 199)),.V 200 (.ext (.t 193) 0),.V 201 (.ext (.t 193) 1),.V 22 (.asg (.t 200)),.V 23 (.asg (.t 201))] [1,5,6,7,8,10,12,13,19,20,21,22,23] [5,6,7,8,10]) (.seq (.seq (.reg false [.V 202 (.mv (.t 21)),.V 203 (.bin .neq (.t 202) (.c (.int .i64 0))),.V 204 (.mv (.t 203)),.G 205 (.mv (.t 19)) 2 false,.G 206 (.bin .lss (.t 205) (.c (.int .i64 0))) 2 false,.V 207 (.pick (.t 204) (.c (.bool true)) (.t 206)),.V 208 (.mv (.t 207)),.G 209 (.mv (.t 19)) 6 false,.G 210 (.mv (.t 5)) 6 false,.G 211 (.len (.t 210)) 6 false,.G 212 (.bin .geq (.t 209) (.t 211)) 6 false,.V 213 (.pick (.t 208) (.c (.bool true)) (.t 212)),.V 214 (.mv (.t 213)),.G 215 (.mv (.t 23)) 12 false,.G 216 (.bin .eql (.t 215) (.c (.int .i64 0))) 12 false,.G 217 (.mv (.t 20)) 12 false,.G 218 (.bin .lss (.t 217) (.c (.int .i64 0))) 12 false,.G 219 (.eqb true (.t 216) (.t 218)) 12 false,.V 220 (.pick (.t 214) (.c (.bool true)) (.t 219))] [1,5,6,7,8,10,12,13,19,20,22,23,220] [5,6,7,8,10]) (.cond (.t 220) (.seq (.reg false [.V 4 (.asg (.c (.bool false)))] [4] []) .ret) .skip)) (.norm [1,5,6,7,8,10,12,13,19,20,22,23] [5,6,7,8,10] laws_FnBooks_k5)))
def laws_FnBooks_k7 : C :=
 .seq (.seq (.reg true [.V 146 (.mv (.t 15)),.V 147 (.bin .neq (.t 146) (.c (.int .i64 0))),.V 148 (.mv (.t 147)),.G 149 (.mv (.t 14)) 2 false,.G 150 (.mv (.t 8)) 2 false,.G 151 (.mv (.t 13)) 2 false,.G 152 (.ia 1 (.t 150) (.t 151)) 2 false,.G 153 (.ld none (.t 152)) 2 false,.G 154 (.bin .neq (.t 149) (.t 153)) 2 false,.V 155 (.pick (.t 148) (.c (.bool true)) (.t 154)),.V 156 (.mv (.t 155)),.G 157 (.mv (.t 17)) 10 false,.G 158 (.bin .neq (.t 157) (.c (.int .i64 0))) 10 false,.V 159 (.pick (.t 156) (.c (.bool true)) (.t 158)),.V 160 (.mv (.t 159)),.G 161 (.mv (.t 16)) 14 false,.G 162 (.mv (.t 14)) 14 false,.G 163 (.bin .sub (.t 161) (.t 162)) 14 false,.G 164 (.mv (.t 18)) 14 false,.G 165 (.bin .neq (.t 163) (.t 164)) 14 false,.V 166 (.pick (.t 160) (.c (.bool true)) (.t 165)),.V 167 (.mv (.t 166)),.G 168 (.mv (.t 13)) 21 false,.G 169 (.bin .gtr (.t 168) (.c (.int .i64 0))) 21 false,.G 170 (.mv (.t 169)) 21 false,.G 171 (.mv (.t 7)) 24 true,.G 172 (.mv (.t 13)) 24 true,.G 173 (.bin .sub (.t 172) (.c (.int .i64 1))) 24 true,.G 174 (.ia 1 (.t 171) (.t 173)) 24 true,.G 175 (.ld none (.t 174)) 24 true,.G 176 (.mv (.t 7)) 24 true,.G 177 (.mv (.t 13)) 24 true,.G 178 (.ia 1 (.t 176) (.t 177)) 24 true,.G 179 (.ld none (.t 178)) 24 true,.G 180 (.bin .geq (.t 175) (.t 179)) 24 true,.G 181 (.pick (.t 170) (.t 180) (.c (.bool false))) 21 false,.V 182 (.pick (.t 167) (.c (.bool true)) (.t 181))] [1,5,6,7,8,10,12,13,182] [5,6,7,8,10]) (.cond (.t 182) (.seq (.reg false [.V 4 (.asg (.c (.bool false)))] [4] []) .ret) .skip)) (.norm [1,5,6,7,8,10,12,13] [5,6,7,8,10] laws_FnBooks_k6)
def laws_FnBooks_k8 : C :=
 .seq (.seq (.reg true [.V 136 (.fa 2 (.t 6)),.V 137 (.ld none (.t 136)),.V 138 (.mv (.t 7)),.V 139 (.mv (.t 13)),.V 140 (.ia 1 (.t 138) (.t 139)),.V 141 (.ld none (.t 140)),.V 142 (.bin .eql (.t 137) (.t 141))] [1,5,6,7,8,10,12,13,14,15,16,17,18,142] [5,6,7,8,10]) (.cond (.t 142) (.reg false [.V 143 (.fa 3 (.t 6)),.V 144 (.ld none (.t 143)),.V 145 (.un .neg (.t 144)),.V 18 (.asg (.t 145))] [1,5,6,7,8,10,12,13,14,15,16,17,18] [5,6,7,8,10]) .skip)) (.norm [1,5,6,7,8,10,12,13,14,15,16,17,18] [5,6,7,8,10] laws_FnBooks_k7)
def laws_FnBooks_k9 : C :=
 .reg false [.V 101 (.mv (.t 13)),.V 102 (.bin .add (.t 101) (.c (.int .i64 1))),.V 13 (.asg (.t 102))] [1,5,6,7,8,10,12,13] [5,6,7,8,10]
def laws_FnBooks_k10 : C :=
 .seq (.seq (.reg false [.V 97 (.mv (.t 13)),.V 98 (.mv (.t 7)),.V 99 (.len (.t 98)),.V 100 (.bin .lss (.t 97) (.t 99))] [1,5,6,7,8,10,12,13,100] [5,6,7,8,10]) (.cond (.t 100) .skip (.exit 0))) (.seq (.block 1 (.seq (.reg false [.V 103 (.mv (.t 12)),.V 104 (.mv (.t 8)),.V 105 (.mv (.t 13)),.V 106 (.ia 1 (.t 104) (.t 105)),.V 107 (.ld none (.t 106)),.V 108 (.bin .add (.t 103) (.t 107)),.V 12 (.asg (.t 108))] [1,5,6,7,8,10,12,13] [5,6,7,8,10]) (.seq (.reg false [.V 110 (.mv (.t 5)),.V 111 (.mv (.t 7)),.V 112 (.mv (.t 13)),.V 113 (.ia 1 (.t 111) (.t 112)),.V 114 (.ld none (.t 113)),.V 115 (.call (.c (.fn 212 [])) [.t 110,.t 114,.c (.int .i64 100000)]),.V 109 (.mv (.t 115)),.V 116 (.ext (.t 109) 0),.V 117 (.ext (.t 109) 1),.V 14 (.asg (.t 116)),.V 15 (.asg (.t 117))] [1,5,6,7,8,10,12,13,14,15] [5,6,7,8,10]) (.seq (.reg false [.V 119 (.mv (.t 10)),.V 120 (.mv (.t 7)),.V 121 (.mv (.t 13)),.V 122 (.ia 1 (.t 120) (.t 121)),.V 123 (.ld none (.t 122)),.V 124 (.call (.c (.fn 212 [])) [.t 119,.t 123,.c (.int .i64 100000)]),.V 118 (.mv (.t 124)),.V 125 (.ext (.t 118) 0),.V 126 (.ext (.t 118) 1),.V 16 (.asg (.t 125)),.V 17 (.asg (.t 126))] [1,5,6,7,8,10,12,13,14,15,16,17] [5,6,7,8,10]) (.seq (.reg false [.V 18 (.asg (.c (.int .i64 0)))] [1,5,6,7,8,10,12,13,14,15,16,17,18] [5,6,7,8,10]) (.seq (.seq (.reg true [.V 127 (.fa 1 (.t 6)),.V 128 (.ld none (.t 127)),.V 129 (.mv (.t 7)),.V 130 (.mv (.t 13)),.V 131 (.ia 1 (.t 129) (.t 130)),.V 132 (.ld none (.t 131)),.V 133 (.bin .eql (.t 128) (.t 132))] [1,5,6,7,8,10,12,13,14,15,16,17,18,133] [5,6,7,8,10]) (.cond (.t 133) (.reg false [.V 134 (.fa 3 (.t 6)),.V 135 (.ld none (.t 134)),.V 18 (.asg (.t 135))] [1,5,6,7,8,10,12,13,14,15,16,17,18] [5,6,7,8,10]) .skip)) (.norm [1,5,6,7,8,10,12,13,14,15,16,17,18] [5,6,7,8,10] laws_FnBooks_k8))))))) laws_FnBooks_k9)
def laws_FnBooks_k11 : C :=
 .norm [1,5,6,7,8,10,12,13] [5,6,7,8,10] laws_FnBooks_k10
def laws_FnBooks_k12 : C :=
 .seq (.reg false [.V 507 (.mv (.t 34)),.V 508 (.mv (.t 36)),.V 509 (.ia 1 (.t 508) (.c (.int .i64 0))),.V 510 (.ld none (.t 509)),.V 511 (.ia 1 (.t 507) (.t 510)),⟨none,true,.sto 1 (.t 511) (.c (.bool true)),none,false,[]⟩] [1,5,32,34,35,36] [5,32,34,36]) (.reg false [.V 512 (.mv (.t 34)),.V 513 (.mv (.t 36)),.V 514 (.ia 1 (.t 513) (.c (.int .i64 1))),.V 515 (.ld none (.t 514)),.V 516 (.ia 1 (.t 512) (.t 515)),⟨none,true,.sto 1 (.t 516) (.c (.bool true)),none,false,[]⟩] [1,5,32,34,35] [5,32,34])
def laws_FnBooks_k13 : C :=
 .reg false [.V 408 (.mv (.t 35)),.V 409 (.bin .add (.t 408) (.c (.int .i64 1))),.V 35 (.asg (.t 409))] [1,5,32,34,35] [5,32,34]
def laws_FnBooks_k14 : C :=
 .seq (.seq (.reg false [.V 404 (.mv (.t 35)),.V 405 (.mv (.t 32)),.V 406 (.len (.t 405)),.V 407 (.bin .lss (.t 404) (.t 406))] [1,5,32,34,35,407] [5,32,34]) (.cond (.t 407) .skip (.exit 4))) (.seq (.block 5 (.seq (.reg false [.V 410 (.mv (.t 32)),.V 411 (.mv (.t 35)),.V 412 (.ia 1 (.t 410) (.t 411)),.V 413 (.ld none (.t 412)),.W 36 (.asg (.t 413))] [1,5,32,34,35,36] [5,32,34,36]) (.seq (.seq (.reg true [.V 414 (.mv (.t 36)),.V 415 (.len (.t 414)),.V 416 (.bin .neq (.t 415) (.c (.int .i64 2))),.V 417 (.mv (.t 416)),.G 418 (.mv (.t 36)) 3 false,.G 419 (.ia 1 (.t 418) (.c (.int .i64 0))) 3 false,.G 420 (.ld none (.t 419)) 3 false,.G 421 (.bin .lss (.t 420) (.c (.int .i64 0))) 3 false,.V 422 (.pick (.t 417) (.c (.bool true)) (.t 421)),.V 423 (.mv (.t 422)),.G 424 (.mv (.t 36)) 9 false,.G 425 (.ia 1 (.t 424) (.c (.int .i64 0))) 9 false,.G 426 (.ld none (.t 425)) 9 false,.G 427 (.mv (.t 36)) 9 false,.G 428 (.ia 1 (.t 427) (.c (.int .i64 1))) 9 false,.G 429 (.ld none (.t 428)) 9 false,.G 430 (.bin .geq (.t 426) (.t 429)) 9 false,.V 431 (.pick (.t 423) (.c (.bool true)) (.t 430)),.V 432 (.mv (.t 431)),.G 433 (.mv (.t 36)) 18 false,.G 434 (.ia 1 (.t 433) (.c (.int .i64 1))) 18 false,.G 435 (.ld none (.t 434)) 18 false,.G 436 (.mv (.t 5)) 18 false,.G 437 (.len (.t 436)) 18 false,.G 438 (.bin .geq (.t 435) (.t 437)) 18 false,.V 439 (.pick (.t 432) (.c (.bool true)) (.t 438)),.V 440 (.mv (.t 439)),.G 441 (.mv (.t 34)) 26 false,.G 442 (.mv (.t 36)) 26 false,.G 443 (.ia 1 (.t 442) (.c (.int .i64 0))) 26 false,.G 444 (.ld none (.t 443)) 26 false,.G 445 (.ia 1 (.t 441) (.t 444)) 26 false,.G 446 (.ld none (.t 445)) 26 false,.V 447 (.pick (.t 440) (.c (.bool true)) (.t 446)),.V 448 (.mv (.t 447)),.G 449 (.mv (.t 34)) 34 false,.G 450 (.mv (.t 36)) 34 false,.G 451 (.ia 1 (.t 450) (.c (.int .i64 1))) 34 false,.G 452 (.ld none (.t 451)) 34 false,.G 453 (.ia 1 (.t 449) (.t 452)) 34 false,.G 454 (.ld none (.t 453)) 34 false,.V 455 (.pick (.t 448) (.c (.bool true)) (.t 454)),.V 456 (.mv (.t 455)),.G 457 (.mv (.t 5)) 42 false,.G 458 (.mv (.t 36)) 42 false,.G 459 (.ia 1 (.t 458) (.c (.int .i64 0))) 42 false,.G 460 (.ld none (.t 459)) 42 false,.G 461 (.ia 4 (.t 457) (.t 460)) 42 false,.G 462 (.fa 1 (.t 461)) 42 false,.G 463 (.ld none (.t 462)) 42 false,.G 464 (.mv (.t 5)) 42 false,.G 465 (.mv (.t 36)) 42 false,.G 466 (.ia 1 (.t 465) (.c (.int .i64 1))) 42 false,.G 467 (.ld none (.t 466)) 42 false,.G 468 (.ia 4 (.t 464) (.t 467)) 42 false,.G 469 (.fa 2 (.t 468)) 42 false,.G 470 (.ld none (.t 469)) 42 false,.G 471 (.bin .neq (.t 463) (.t 470)) 42 false,.V 472 (.pick (.t 456) (.c (.bool true)) (.t 471)),.V 473 (.mv (.t 472)),.G 474 (.mv (.t 5)) 59 false,.G 475 (.mv (.t 36)) 59 false,.G 476 (.ia 1 (.t 475) (.c (.int .i64 0))) 59 false,.G 477 (.ld none (.t 476)) 59 false,.G 478 (.ia 4 (.t 474) (.t 477)) 59 false,.G 479 (.fa 2 (.t 478)) 59 false,.G 480 (.ld none (.t 479)) 59 false,.G 481 (.mv (.t 5)) 59 false,.G 482 (.mv (.t 36)) 59 false,.G 483 (.ia 1 (.t 482) (.c (.int .i64 1))) 59 false,.G 484 (.ld none (.t 483)) 59 false,.G 485 (.ia 4 (.t 481) (.t 484)) 59 false,.G 486 (.fa 1 (.t 485)) 59 false,.G 487 (.ld none (.t 486)) 59 false,.G 488 (.bin .neq (.t 480) (.t 487)) 59 false,.V 489 (.pick (.t 473) (.c (.bool true)) (.t 488)),.V 490 (.mv (.t 489)),.G 491 (.mv (.t 5)) 76 false,.G 492 (.mv (.t 36)) 76 false,.G 493 (.ia 1 (.t 492) (.c (.int .i64 0))) 76 false,.G 494 (.ld none (.t 493)) 76 false,.G 495 (.ia 4 (.t 491) (.t 494)) 76 false,.G 496 (.fa 3 (.t 495)) 76 false,.G 497 (.ld none (.t 496)) 76 false,.G 498 (.mv (.t 5)) 76 false,.G 499 (.mv (.t 36)) 76 false,.G 500 (.ia 1 (.t 499) (.c (.int .i64 1))) 76 false,.G 501 (.ld none (.t 500)) 76 false,.G 502 (.ia 4 (.t 498) (.t 501)) 76 false,.G 503 (.fa 3 (.t 502)) 76 false,.G 504 (.ld none (.t 503)) 76 false,.G 505 (.bin .neq (.t 497) (.t 504)) 76 false,.V 506 (.pick (.t 490) (.c (.bool true)) (.t 505))] [1,5,32,34,35,36,506] [5,32,34,36]) (.cond (.t 506) (.seq (.reg false [.V 4 (.asg (.c (.bool false)))] [4] []) .ret) .skip)) (.norm [1,5,32,34,35,36] [5,32,34,36] laws_FnBooks_k12)))) laws_FnBooks_k13)
def laws_FnBooks_k15 : C :=
 .norm [1,5,32,34,35] [5,32,34] laws_FnBooks_k14
def laws_FnBooks_k16 : C :=
 .seq (.seq (.reg false [.V 519 (.mv (.t 40)),.V 520 (.bin .lss (.t 519) (.c (.int .i64 3)))] [1,37,38,39,40,520] [37,38]) (.cond (.t 520) .skip (.exit 6))) (.seq (.block 7 (.seq (.reg false [.V 523 (.mv (.t 38)),.V 524 (.mv (.t 1)),.V 525 (.mv (.t 40)),.V 526 (.bin .add (.c (.int .i64 20)) (.t 525)),.V 527 (.call (.c (.fn 151 [])) [.t 524,.t 526,.c (.int .i64 40)]),.V 528 (.bin .mul (.c (.int .i64 10)) (.t 527)),.V 529 (.bin .sub (.t 528) (.c (.int .i64 200))),.V 530 (.bsl 1 (.int .i64 0) 1 [(0,.t 529)]),.W 531 (.app 1 8 (.t 523) (.t 530)),.W 38 (.asg (.t 531))] [1,37,38,39,40] [37,38]) (.reg false [.V 532 (.mv (.t 39)),.V 533 (.mv (.t 38)),.V 534 (.mv (.t 40)),.V 535 (.ia 1 (.t 533) (.t 534)),.V 536 (.ld none (.t 535)),.V 537 (.bin .add (.t 532) (.t 536)),.V 39 (.asg (.t 537))] [1,37,38,39,40] [37,38]))) (.reg false [.V 521 (.mv (.t 40)),.V 522 (.bin .add (.t 521) (.c (.int .i64 1))),.V 40 (.asg (.t 522))] [1,37,38,39,40] [37,38]))
def laws_FnBooks_k17 : C :=
 .norm [1,37,38,39,40] [37,38] laws_FnBooks_k16
def laws_FnBooks_k18 : C :=
 .seq (.reg true [.V 588 (.mv (.t 37)),.V 589 (.mv (.t 45)),.V 590 (.ia 1 (.t 588) (.t 589)),.V 591 (.ld none (.t 590)),.V 592 (.fa 2 (.t 44)),.V 593 (.ld none (.t 592)),.V 594 (.bin .eql (.t 591) (.t 593))] [37,38,41,43,44,45,594] [37,38,41,44]) (.cond (.t 594) (.reg true [.V 595 (.mv (.t 38)),.V 596 (.mv (.t 45)),.V 597 (.ia 1 (.t 595) (.t 596)),.V 598 (.ld none (.t 597)),.V 599 (.fa 3 (.t 44)),.V 600 (.ld none (.t 599)),.V 601 (.bin .sub (.t 598) (.t 600)),.V 602 (.ia 1 (.t 595) (.t 596)),⟨none,true,.sto 1 (.t 602) (.t 601),none,false,[]⟩] [37,38,41,43,44,45] [37,38,41,44]) .skip)
def laws_FnBooks_k19 : C :=
 .reg false [.V 571 (.mv (.t 45)),.V 572 (.bin .add (.t 571) (.c (.int .i64 1))),.V 45 (.asg (.t 572))] [37,38,41,43,44,45] [37,38,41,44]
def laws_FnBooks_k20 : C :=
 .seq (.seq (.reg false [.V 569 (.mv (.t 45)),.V 570 (.bin .lss (.t 569) (.c (.int .i64 4)))] [37,38,41,43,44,45,570] [37,38,41,44]) (.cond (.t 570) .skip (.exit 10))) (.seq (.block 11 (.seq (.seq (.reg true [.V 573 (.mv (.t 37)),.V 574 (.mv (.t 45)),.V 575 (.ia 1 (.t 573) (.t 574)),.V 576 (.ld none (.t 575)),.V 577 (.fa 1 (.t 44)),.V 578 (.ld none (.t 577)),.V 579 (.bin .eql (.t 576) (.t 578))] [37,38,41,43,44,45,579] [37,38,41,44]) (.cond (.t 579) (.reg true [.V 580 (.mv (.t 38)),.V 581 (.mv (.t 45)),.V 582 (.ia 1 (.t 580) (.t 581)),.V 583 (.ld none (.t 582)),.V 584 (.fa 3 (.t 44)),.V 585 (.ld none (.t 584)),.V 586 (.bin .add (.t 583) (.t 585)),.V 587 (.ia 1 (.t 580) (.t 581)),⟨none,true,.sto 1 (.t 587) (.t 586),none,false,[]⟩] [37,38,41,43,44,45] [37,38,41,44]) .skip)) (.norm [37,38,41,43,44,45] [37,38,41,44] laws_FnBooks_k18))) laws_FnBooks_k19)
def laws_FnBooks_k21 : C :=
 .norm [37,38,41,43,44,45] [37,38,41,44] laws_FnBooks_k20
def laws_FnBooks_k22 : C :=
 .reg false [.V 560 (.mv (.t 43)),.V 561 (.bin .add (.t 560) (.c (.int .i64 1))),.V 43 (.asg (.t 561))] [37,38,41,43] [37,38,41]
def laws_FnBooks_k23 : C :=
 .seq (.seq (.reg false [.V 556 (.mv (.t 43)),.V 557 (.mv (.t 41)),.V 558 (.len (.t 557)),.V 559 (.bin .lss (.t 556) (.t 558))] [37,38,41,43,559] [37,38,41]) (.cond (.t 559) .skip (.exit 8))) (.seq (.block 9 (.seq (.reg false [.V 562 (.mv (.t 41)),.V 563 (.mv (.t 43)),.V 564 (.ia 4 (.t 562) (.t 563)),.V 565 (.ld (some 4) (.t 564)),.W 44 (.alloc 4 (.agg [.int .i64 0,.str [],.str [],.int .i64 0])),⟨none,true,.sto 4 (.t 44) (.t 565),none,false,[]⟩] [37,38,41,43,44] [37,38,41,44]) (.seq (.seq (.reg false [.V 566 (.fa 3 (.t 44)),.V 567 (.ld none (.t 566)),.V 568 (.bin .lss (.t 567) (.c (.int .i64 1)))] [37,38,41,43,44,568] [37,38,41,44]) (.cond (.t 568) (.seq (.reg false [.V 4 (.asg (.c (.bool false)))] [4] []) .ret) .skip)) (.seq (.reg false [.V 45 (.asg (.c (.int .i64 0)))] [37,38,41,43,44,45] [37,38,41,44]) (.block 10 (.loop laws_FnBooks_k21)))))) laws_FnBooks_k22)
def laws_FnBooks_k24 : C :=
 .norm [37,38,41,43] [37,38,41] laws_FnBooks_k23
def laws_FnBooks_k25 : C :=
 .seq (.seq (.reg false [.V 603 (.mv (.t 46)),.V 604 (.bin .lss (.t 603) (.c (.int .i64 4)))] [38,46,604] [38]) (.cond (.t 604) .skip (.exit 12))) (.seq (.block 13 (.seq (.reg false [.V 607 (.mv (.t 38)),.V 608 (.mv (.t 46)),.V 609 (.ia 1 (.t 607) (.t 608)),.V 610 (.ld none (.t 609)),.V 611 (.bin .neq (.t 610) (.c (.int .i64 0)))] [38,46,611] [38]) (.cond (.t 611) (.seq (.reg false [.V 4 (.asg (.c (.bool false)))] [4] []) .ret) .skip))) (.reg false [.V 605 (.mv (.t 46)),.V 606 (.bin .add (.t 605) (.c (.int .i64 1))),.V 46 (.asg (.t 606))] [38,46] [38]))
def laws_FnBooks_k26 : C :=
 .norm [38,46] [38] laws_FnBooks_k25
def laws_FnBooks_k27 : C :=
 .seq (.reg false [.V 4 (.asg (.c (.bool true)))] [4] []) .ret
def laws_FnBooks_k28 : C :=
 .seq (.seq (.reg false [.V 46 (.asg (.c (.int .i64 0)))] [38,46] [38]) (.block 12 (.loop laws_FnBooks_k26))) laws_FnBooks_k27
def laws_FnBooks_k29 : C :=
 .seq (.seq (.reg false [.V 43 (.asg (.c (.int .i64 0)))] [37,38,41,43] [37,38,41]) (.block 8 (.loop laws_FnBooks_k24))) laws_FnBooks_k28
def laws_FnBooks_k30 : C :=
 .seq (.reg false [.V 538 (.mv (.t 38)),.V 539 (.mv (.t 39)),.V 540 (.un .neg (.t 539)),.V 541 (.bsl 1 (.int .i64 0) 1 [(0,.t 540)]),.W 542 (.app 1 8 (.t 538) (.t 541)),.W 38 (.asg (.t 542))] [37,38] [37,38]) (.seq (.reg false [.V 544 (.mv (.t 37)),.V 545 (.mv (.t 38)),.V 546 (.call (.c (.fn 204 [])) [.t 544,.t 545]),.V 543 (.mv (.t 546)),.V 547 (.ext (.t 543) 0),.V 548 (.ext (.t 543) 1),.W 41 (.asg (.t 547)),.V 42 (.asg (.t 548))] [37,38,41,42] [37,38,41]) (.seq (.seq (.reg false [.V 549 (.mv (.t 42)),.V 550 (.bin .neq (.t 549) (.c (.int .i64 0))),.V 551 (.mv (.t 550)),.G 552 (.mv (.t 41)) 2 false,.G 553 (.len (.t 552)) 2 false,.G 554 (.bin .gtr (.t 553) (.c (.int .i64 3))) 2 false,.V 555 (.pick (.t 551) (.c (.bool true)) (.t 554))] [37,38,41,555] [37,38,41]) (.cond (.t 555) (.seq (.reg false [.V 4 (.asg (.c (.bool false)))] [4] []) .ret) .skip)) (.norm [37,38,41] [37,38,41] laws_FnBooks_k29)))
def laws_FnBooks_k31 : C :=
 .seq (.reg false [.V 517 (.bsl 1 (.str []) 4 [(0,.c (.str [97,100,97])),(1,.c (.str [98,101,110])),(2,.c (.str [99,108,101,111])),(3,.c (.str [100,111,118]))]),.W 37 (.asg (.t 517))] [1,37] [37]) (.seq (.reg false [.V 518 (.bsl 1 (.int .i64 0) 0 []),.W 38 (.asg (.t 518))] [1,37,38] [37,38]) (.seq (.reg false [.V 39 (.asg (.c (.int .i64 0)))] [1,37,38,39] [37,38]) (.seq (.seq (.reg false [.V 40 (.asg (.c (.int .i64 0)))] [1,37,38,39,40] [37,38]) (.block 6 (.loop laws_FnBooks_k17))) laws_FnBooks_k30)))
def laws_FnBooks_k32 : C :=
 .seq (.reg false [.V 401 (.mv (.t 5)),.V 402 (.len (.t 401)),.V 403 (.mks 1 1 (.bool false) (.t 402) (.t 402)),.W 34 (.asg (.t 403))] [1,5,32,34] [5,32,34]) (.seq (.seq (.reg false [.V 35 (.asg (.c (.int .i64 0)))] [1,5,32,34,35] [5,32,34]) (.block 4 (.loop laws_FnBooks_k15))) laws_FnBooks_k31)
def laws_FnBooks_k33 : C :=
 .seq (.reg false [.V 301 (.mv (.t 10)),.V 302 (.mv (.t 10)),.V 303 (.len (.t 302)),.V 304 (.bin .sub (.t 303) (.c (.int .i64 1))),.V 305 (.call (.c (.fn 209 [])) [.t 301,.t 304,.c (.int .i64 100000)]),.V 300 (.mv (.t 305)),.V 306 (.ext (.t 300) 0),.V 307 (.ext (.t 300) 1),.W 26 (.alloc 4 (.agg [.int .i64 0,.str [],.str [],.int .i64 0])),⟨none,true,.sto 4 (.t 26) (.t 306),none,false,[]⟩,.V 27 (.asg (.t 307))] [1,5,6,10,12,26,27] [5,6,10,26]) (.seq (.reg false [.V 309 (.ld (some 4) (.t 6)),.V 310 (.call (.c (.fn 207 [])) [.t 309]),.V 311 (.call (.c (.fn 208 [])) [.t 310]),.V 308 (.mv (.t 311)),.V 312 (.ext (.t 308) 0),.V 313 (.ext (.t 308) 1),.W 28 (.alloc 4 (.agg [.int .i64 0,.str [],.str [],.int .i64 0])),⟨none,true,.sto 4 (.t 28) (.t 312),none,false,[]⟩,.V 29 (.asg (.t 313))] [1,5,6,10,12,26,27,28,29] [5,6,10,26,28]) (.seq (.reg false [.V 315 (.mv (.t 10)),.V 316 (.fa 2 (.t 6)),.V 317 (.ld none (.t 316)),.V 318 (.fa 1 (.t 6)),.V 319 (.ld none (.t 318)),.V 320 (.call (.c (.fn 206 [])) [.t 315,.t 317,.t 319]),.V 314 (.mv (.t 320)),.V 321 (.ext (.t 314) 0),.V 322 (.ext (.t 314) 1),.V 30 (.asg (.t 321)),.V 31 (.asg (.t 322))] [1,5,6,10,12,26,27,28,29,30,31] [5,6,10,26,28]) (.seq (.reg false [.V 324 (.mv (.t 5)),.W 325 (.call (.c (.fn 205 [])) [.t 324]),.V 323 (.mv (.t 325)),.V 326 (.ext (.t 323) 0),.V 327 (.ext (.t 323) 1),.W 32 (.asg (.t 326)),.V 33 (.asg (.t 327))] [1,5,6,10,12,26,27,28,29,30,31,32,33] [5,6,10,26,28,32]) (.seq (.seq (.reg true [.V 328 (.mv (.t 12)),.V 329 (.bin .neq (.t 328) (.c (.int .i64 0))),.V 330 (.mv (.t 329)),.G 331 (.mv (.t 27)) 2 false,.G 332 (.bin .neq (.t 331) (.c (.int .i64 0))) 2 false,.V 333 (.pick (.t 330) (.c (.bool true)) (.t 332)),.V 334 (.mv (.t 333)),.G 335 (.fa 1 (.t 26)) 6 false,.G 336 (.ld none (.t 335)) 6 false,.G 337 (.mv (.t 10)) 6 false,.G 338 (.mv (.t 10)) 6 false,.G 339 (.len (.t 338)) 6 false,.G 340 (.bin .sub (.t 339) (.c (.int .i64 1))) 6 false,.G 341 (.ia 4 (.t 337) (.t 340)) 6 false,.G 342 (.fa 2 (.t 341)) 6 false,.G 343 (.ld none (.t 342)) 6 false,.G 344 (.bin .neq (.t 336) (.t 343)) 6 false,.V 345 (.pick (.t 334) (.c (.bool true)) (.t 344)),.V 346 (.mv (.t 345)),.G 347 (.fa 2 (.t 26)) 18 false,.G 348 (.ld none (.t 347)) 18 false,.G 349 (.mv (.t 10)) 18 false,.G 350 (.mv (.t 10)) 18 false,.G 351 (.len (.t 350)) 18 false,.G 352 (.bin .sub (.t 351) (.c (.int .i64 1))) 18 false,.G 353 (.ia 4 (.t 349) (.t 352)) 18 false,.G 354 (.fa 1 (.t 353)) 18 false,.G 355 (.ld none (.t 354)) 18 false,.G 356 (.bin .neq (.t 348) (.t 355)) 18 false,.V 357 (.pick (.t 346) (.c (.bool true)) (.t 356)),.V 358 (.mv (.t 357)),.G 359 (.fa 3 (.t 26)) 30 false,.G 360 (.ld none (.t 359)) 30 false,.G 361 (.mv (.t 10)) 30 false,.G 362 (.mv (.t 10)) 30 false,.G 363 (.len (.t 362)) 30 false,.G 364 (.bin .sub (.t 363) (.c (.int .i64 1))) 30 false,.G 365 (.ia 4 (.t 361) (.t 364)) 30 false,.G 366 (.fa 3 (.t 365)) 30 false,.G 367 (.ld none (.t 366)) 30 false,.G 368 (.bin .neq (.t 360) (.t 367)) 30 false,.V 369 (.pick (.t 358) (.c (.bool true)) (.t 368)),.V 370 (.mv (.t 369)),.G 371 (.mv (.t 29)) 42 false,.G 372 (.un .not (.t 371)) 42 false,.V 373 (.pick (.t 370) (.c (.bool true)) (.t 372)),.V 374 (.mv (.t 373)),.G 375 (.ld (some 4) (.t 28)) 46 false,.G 376 (.ld (some 4) (.t 6)) 46 false,.G 377 (.eqs true [.i,.s,.s,.i] (.t 375) (.t 376)) 46 false,.V 378 (.pick (.t 374) (.c (.bool true)) (.t 377)),.V 379 (.mv (.t 378)),.G 380 (.mv (.t 31)) 51 false,.G 381 (.bin .neq (.t 380) (.c (.int .i64 0))) 51 false,.V 382 (.pick (.t 379) (.c (.bool true)) (.t 381)),.V 383 (.mv (.t 382)),.G 384 (.mv (.t 30)) 55 false,.G 385 (.fa 3 (.t 6)) 55 false,.G 386 (.ld none (.t 385)) 55 false,.G 387 (.bin .lss (.t 384) (.t 386)) 55 false,.V 388 (.pick (.t 383) (.c (.bool true)) (.t 387)),.V 389 (.mv (.t 388)),.G 390 (.mv (.t 33)) 61 false,.G 391 (.bin .neq (.t 390) (.c (.int .i64 0))) 61 false,.V 392 (.pick (.t 389) (.c (.bool true)) (.t 391)),.V 393 (.mv (.t 392)),.G 394 (.mv (.t 32)) 65 false,.G 395 (.len (.t 394)) 65 false,.G 396 (.bin .mul (.c (.int .i64 2)) (.t 395)) 65 false,.G 397 (.mv (.t 5)) 65 false,.G 398 (.len (.t 397)) 65 false,.G 399 (.bin .gtr (.t 396) (.t 398)) 65 false,.V 400 (.pick (.t 393) (.c (.bool true)) (.t 399))] [1,5,32,400] [5,32]) (.cond (.t 400) (.seq (.reg false [.V 4 (.asg (.c (.bool false)))] [4] []) .ret) .skip)) (.norm [1,5,32] [5,32] laws_FnBooks_k32)))))
def laws_FnBooks_k34 : C :=
 .seq (.reg false [.V 12 (.asg (.c (.int .i64 0)))] [1,5,6,7,8,10,12] [5,6,7,8,10]) (.seq (.seq (.reg false [.V 13 (.asg (.c (.int .i64 0)))] [1,5,6,7,8,10,12,13] [5,6,7,8,10]) (.block 0 (.loop laws_FnBooks_k11))) laws_FnBooks_k33)
def laws_FnBooks_ir : Fn := { np := 2,io := [],res := [.t 4],own := [false],body :=
 (.seq (.reg false [.V 4 (.asg (.c (.bool false)))] [0,1] []) (.seq (.seq (.reg false [.V 47 (.mv (.t 0)),.V 48 (.mv (.t 1)),.V 49 (.call (.c (.fn 89 [])) [.t 47,.t 48])] [0,1,49] []) (.cond (.t 49) (.seq (.reg false [.V 4 (.asg (.c (.bool true)))] [4] []) .ret) .skip)) (.seq (.reg false [.V 50 (.mv (.t 0)),.V 51 (.call (.c (.fn 217 [])) [.t 50]),.W 5 (.asg (.t 51))] [1,5] [5]) (.seq (.reg false [.V 52 (.mv (.t 1)),.V 53 (.call (.c (.fn 216 [])) [.t 52]),.W 6 (.alloc 4 (.agg [.int .i64 0,.str [],.str [],.int .i64 0])),⟨none,true,.sto 4 (.t 6) (.t 53),none,false,[]⟩] [1,5,6] [5,6]) (.seq (.reg false [.V 55 (.mv (.t 5)),.W 56 (.call (.c (.fn 215 [])) [.t 55]),.V 54 (.mv (.t 56)),.V 57 (.ext (.t 54) 0),.V 58 (.ext (.t 54) 1),.V 59 (.ext (.t 54) 2),.W 7 (.asg (.t 57)),.W 8 (.asg (.t 58)),.V 9 (.asg (.t 59))] [1,5,6,7,8,9] [5,6,7,8]) (.seq (.reg false [.V 61 (.mv (.t 5)),.V 62 (.ld (some 4) (.t 6)),.W 63 (.call (.c (.fn 214 [])) [.t 61,.t 62]),.V 60 (.mv (.t 63)),.V 64 (.ext (.t 60) 0),.V 65 (.ext (.t 60) 1),.W 10 (.asg (.t 64)),.V 11 (.asg (.t 65))] [1,5,6,7,8,9,10,11] [5,6,7,8,10]) (.seq (.seq (.reg false [.V 66 (.mv (.t 9)),.V 67 (.bin .neq (.t 66) (.c (.int .i64 0))),.V 68 (.mv (.t 67)),.G 69 (.mv (.t 7)) 2 false,.G 70 (.len (.t 69)) 2 false,.G 71 (.mv (.t 8)) 2 false,.G 72 (.len (.t 71)) 2 false,.G 73 (.bin .neq (.t 70) (.t 72)) 2 false,.V 74 (.pick (.t 68) (.c (.bool true)) (.t 73)),.V 75 (.mv (.t 74)),.G 76 (.mv (.t 11)) 9 false,.G 77 (.bin .neq (.t 76) (.c (.int .i64 0))) 9 false,.V 78 (.pick (.t 75) (.c (.bool true)) (.t 77)),.V 79 (.mv (.t 78)),.G 80 (.mv (.t 10)) 13 false,.G 81 (.len (.t 80)) 13 false,.G 82 (.mv (.t 5)) 13 false,.G 83 (.len (.t 82)) 13 false,.G 84 (.bin .add (.t 83) (.c (.int .i64 1))) 13 false,.G 85 (.bin .neq (.t 81) (.t 84)) 13 false,.V 86 (.pick (.t 79) (.c (.bool true)) (.t 85)),.V 87 (.mv (.t 86)),.G 88 (.mv (.t 10)) 21 false,.G 89 (.call (.c (.fn 213 [])) [.t 88]) 21 false,.G 90 (.un .not (.t 89)) 21 false,.V 91 (.pick (.t 87) (.c (.bool true)) (.t 90)),.V 92 (.mv (.t 91)),.G 93 (.mv (.t 5)) 26 false,.G 94 (.call (.c (.fn 213 [])) [.t 93]) 26 false,.G 95 (.un .not (.t 94)) 26 false,.V 96 (.pick (.t 92) (.c (.bool true)) (.t 95))] [1,5,6,7,8,10,96] [5,6,7,8,10]) (.cond (.t 96) (.seq (.reg false [.V 4 (.asg (.c (.bool false)))] [4] []) .ret) .skip)) (.norm [1,5,6,7,8,10] [5,6,7,8,10] laws_FnBooks_k34)))))))) }
noncomputable def laws_FnBooks_D : List (Nat × Callee) := [(89,laws_r8Long_c),(151,laws_r8At_c),(204,impl_SettleDebts_c),(205,impl_PairsOf_c),(206,impl_FlowBetween_c),(207,impl_EntryText_c),(208,impl_ReadEntry_c),(209,impl_Reversed_c),(210,impl_FirstBelow_c),(211,impl_LowestOf_c),(212,impl_AccountOf_c),(213,impl_ValidBook_c),(214,impl_AddEntry_c),(215,impl_TrialBalance_c),(216,spec_R8Entry_c),(217,spec_R8Book_c)]
def laws_FnBooks_H : List (Nat × ET) := [(5,T_Entry),(7,(.one .str)),(8,(.one (.int .i64))),(10,T_Entry),(32,(.one (.sl (.one (.int .i64))))),(34,(.one .bool)),(36,(.one (.int .i64))),(37,(.one .str)),(38,(.one (.int .i64))),(41,T_Entry),(47,(.one (.int .u8))),(48,(.one (.int .u8))),(50,(.one (.int .u8))),(51,T_Entry),(52,(.one (.int .u8))),(55,T_Entry),(57,(.one .str)),(58,(.one (.int .i64))),(61,T_Entry),(64,T_Entry),(69,(.one .str)),(71,(.one (.int .i64))),(80,T_Entry),(82,T_Entry),(88,T_Entry),(93,T_Entry),(98,(.one .str)),(104,(.one (.int .i64))),(110,T_Entry),(111,(.one .str)),(119,T_Entry),(120,(.one .str)),(129,(.one .str)),(138,(.one .str)),(150,(.one (.int .i64))),(171,(.one .str)),(176,(.one .str)),(184,T_Entry),(185,(.one .str)),(194,T_Entry),(195,(.one .str)),(210,T_Entry),(222,T_Entry),(227,T_Entry),(232,(.one .str)),(238,T_Entry),(244,T_Entry),(249,(.one .str)),(255,T_Entry),(301,T_Entry),(302,T_Entry),(315,T_Entry),(324,T_Entry),(326,(.one (.sl (.one (.int .i64))))),(337,T_Entry),(338,T_Entry),(349,T_Entry),(350,T_Entry),(361,T_Entry),(362,T_Entry),(394,(.one (.sl (.one (.int .i64))))),(397,T_Entry),(401,T_Entry),(403,(.one .bool)),(405,(.one (.sl (.one (.int .i64))))),(410,(.one (.sl (.one (.int .i64))))),(413,(.one (.int .i64))),(414,(.one (.int .i64))),(418,(.one (.int .i64))),(424,(.one (.int .i64))),(427,(.one (.int .i64))),(433,(.one (.int .i64))),(436,T_Entry),(441,(.one .bool)),(442,(.one (.int .i64))),(449,(.one .bool)),(450,(.one (.int .i64))),(457,T_Entry),(458,(.one (.int .i64))),(464,T_Entry),(465,(.one (.int .i64))),(474,T_Entry),(475,(.one (.int .i64))),(481,T_Entry),(482,(.one (.int .i64))),(491,T_Entry),(492,(.one (.int .i64))),(498,T_Entry),(499,(.one (.int .i64))),(507,(.one .bool)),(508,(.one (.int .i64))),(512,(.one .bool)),(513,(.one (.int .i64))),(517,(.one .str)),(518,(.one (.int .i64))),(523,(.one (.int .i64))),(524,(.one (.int .u8))),(530,(.one (.int .i64))),(531,(.one (.int .i64))),(533,(.one (.int .i64))),(538,(.one (.int .i64))),(541,(.one (.int .i64))),(542,(.one (.int .i64))),(544,(.one .str)),(545,(.one (.int .i64))),(547,T_Entry),(552,T_Entry),(557,T_Entry),(562,T_Entry),(573,(.one .str)),(580,(.one (.int .i64))),(588,(.one .str)),(595,(.one (.int .i64))),(607,(.one (.int .i64)))]
noncomputable def laws_FnBooks_c : Callee := mkCallee laws_FnBooks_D laws_FnBooks_H laws_FnBooks_ir [.d (.one (.sl (.one (.int .u8)))),.d (.one (.sl (.one (.int .u8))))] [.d (.one .bool)] []
noncomputable def laws_FnBooks (a0 : List Int) (a1 : List Int) : Option (Bool) := laws_FnBooks_c.f (a0,a1,())
noncomputable def laws_FnBooks_p0  (v1 : List Int) (v5 : List T_Entry.ty) (v7 : List (List UInt8)) (v10 : List T_Entry.ty) (r6_0 : Int) (r6_1 : List UInt8) (r6_2 : List UInt8) (r6_3 : Int) (r8 : List Int) : Option (Bool) :=
 goL laws_FnBooks_D laws_FnBooks_H (vleave laws_FnBooks_ir [.d (.one (.sl (.one (.int .u8)))),.d (.one (.sl (.one (.int .u8))))] [.d (.one .bool)] [] []) [.c laws_FnBooks_k34]
  ⟨[(1,.sl (.one (.int .u8)) v1),(5,.sl T_Entry v5),(6,.loc 6 0 0),(7,.sl (.one .str) v7),(8,.view 8 0 r8.length),(10,.sl T_Entry v10)],[(5,none),(6,some (.var 4 (.agg [.int .i64 r6_0,.str r6_1,.str r6_2,.int .i64 r6_3]))),(7,none),(8,some (.sl (.one (.int .i64)) r8)),(10,none)]⟩
noncomputable def laws_FnBooks_p1  (v1 : List Int) (v5 : List T_Entry.ty) (v7 : List (List UInt8)) (v10 : List T_Entry.ty) (v12 : Int) (v13 : Int) (r6_0 : Int) (r6_1 : List UInt8) (r6_2 : List UInt8) (r6_3 : Int) (r8 : List Int) : Option (Bool) :=
 goL laws_FnBooks_D laws_FnBooks_H (vleave laws_FnBooks_ir [.d (.one (.sl (.one (.int .u8)))),.d (.one (.sl (.one (.int .u8))))] [.d (.one .bool)] [] []) [.c laws_FnBooks_k10,.l laws_FnBooks_k11,.e 0,.c laws_FnBooks_k33]
  ⟨[(1,.sl (.one (.int .u8)) v1),(5,.sl T_Entry v5),(6,.loc 6 0 0),(7,.sl (.one .str) v7),(8,.view 8 0 r8.length),(10,.sl T_Entry v10),(12,.int .i64 v12),(13,.int .i64 v13)],[(5,none),(6,some (.var 4 (.agg [.int .i64 r6_0,.str r6_1,.str r6_2,.int .i64 r6_3]))),(7,none),(8,some (.sl (.one (.int .i64)) r8)),(10,none)]⟩
noncomputable def laws_FnBooks_p2  (v1 : List Int) (v5 : List T_Entry.ty) (v7 : List (List UInt8)) (v10 : List T_Entry.ty) (v12 : Int) (v13 : Int) (v14 : Int) (v15 : Int) (v16 : Int) (v17 : Int) (v18 : Int) (r6_0 : Int) (r6_1 : List UInt8) (r6_2 : List UInt8) (r6_3 : Int) (r8 : List Int) : Option (Bool) :=
 goL laws_FnBooks_D laws_FnBooks_H (vleave laws_FnBooks_ir [.d (.one (.sl (.one (.int .u8)))),.d (.one (.sl (.one (.int .u8))))] [.d (.one .bool)] [] []) [.c laws_FnBooks_k8,.e 1,.c laws_FnBooks_k9,.l laws_FnBooks_k11,.e 0,.c laws_FnBooks_k33]
  ⟨[(1,.sl (.one (.int .u8)) v1),(5,.sl T_Entry v5),(6,.loc 6 0 0),(7,.sl (.one .str) v7),(8,.view 8 0 r8.length),(10,.sl T_Entry v10),(12,.int .i64 v12),(13,.int .i64 v13),(14,.int .i64 v14),(15,.int .i64 v15),(16,.int .i64 v16),(17,.int .i64 v17),(18,.int .i64 v18)],[(5,none),(6,some (.var 4 (.agg [.int .i64 r6_0,.str r6_1,.str r6_2,.int .i64 r6_3]))),(7,none),(8,some (.sl (.one (.int .i64)) r8)),(10,none)]⟩
noncomputable def laws_FnBooks_p3  (v1 : List Int) (v5 : List T_Entry.ty) (v32 : List (List Int)) : Option (Bool) :=
 goL laws_FnBooks_D laws_FnBooks_H (vleave laws_FnBooks_ir [.d (.one (.sl (.one (.int .u8)))),.d (.one (.sl (.one (.int .u8))))] [.d (.one .bool)] [] []) [.c laws_FnBooks_k32]
  ⟨[(1,.sl (.one (.int .u8)) v1),(5,.sl T_Entry v5),(32,.sl (.one (.sl (.one (.int .i64)))) v32)],[(5,none),(32,none)]⟩
noncomputable def laws_FnBooks_p4  (v1 : List Int) (v5 : List T_Entry.ty) (v7 : List (List UInt8)) (v10 : List T_Entry.ty) (v12 : Int) (v13 : Int) (v14 : Int) (v15 : Int) (v16 : Int) (v17 : Int) (v18 : Int) (r6_0 : Int) (r6_1 : List UInt8) (r6_2 : List UInt8) (r6_3 : Int) (r8 : List Int) : Option (Bool) :=
 goL laws_FnBooks_D laws_FnBooks_H (vleave laws_FnBooks_ir [.d (.one (.sl (.one (.int .u8)))),.d (.one (.sl (.one (.int .u8))))] [.d (.one .bool)] [] []) [.c laws_FnBooks_k7,.e 1,.c laws_FnBooks_k9,.l laws_FnBooks_k11,.e 0,.c laws_FnBooks_k33]
  ⟨[(1,.sl (.one (.int .u8)) v1),(5,.sl T_Entry v5),(6,.loc 6 0 0),(7,.sl (.one .str) v7),(8,.view 8 0 r8.length),(10,.sl T_Entry v10),(12,.int .i64 v12),(13,.int .i64 v13),(14,.int .i64 v14),(15,.int .i64 v15),(16,.int .i64 v16),(17,.int .i64 v17),(18,.int .i64 v18)],[(5,none),(6,some (.var 4 (.agg [.int .i64 r6_0,.str r6_1,.str r6_2,.int .i64 r6_3]))),(7,none),(8,some (.sl (.one (.int .i64)) r8)),(10,none)]⟩
noncomputable def laws_FnBooks_p5  (v1 : List Int) (v5 : List T_Entry.ty) (v32 : List (List Int)) (v34n : Nat) (v35 : Int) (r34 : List Bool) : Option (Bool) :=
 goL laws_FnBooks_D laws_FnBooks_H (vleave laws_FnBooks_ir [.d (.one (.sl (.one (.int .u8)))),.d (.one (.sl (.one (.int .u8))))] [.d (.one .bool)] [] []) [.c laws_FnBooks_k14,.l laws_FnBooks_k15,.e 4,.c laws_FnBooks_k31]
  ⟨[(1,.sl (.one (.int .u8)) v1),(5,.sl T_Entry v5),(32,.sl (.one (.sl (.one (.int .i64)))) v32),(34,.view 34 0 v34n),(35,.int .i64 v35)],[(5,none),(32,none),(34,some (.sl (.one .bool) r34))]⟩
noncomputable def laws_FnBooks_p6  (v1 : List Int) (v5 : List T_Entry.ty) (v7 : List (List UInt8)) (v10 : List T_Entry.ty) (v12 : Int) (v13 : Int) (r6_0 : Int) (r6_1 : List UInt8) (r6_2 : List UInt8) (r6_3 : Int) (r8 : List Int) : Option (Bool) :=
 goL laws_FnBooks_D laws_FnBooks_H (vleave laws_FnBooks_ir [.d (.one (.sl (.one (.int .u8)))),.d (.one (.sl (.one (.int .u8))))] [.d (.one .bool)] [] []) [.c laws_FnBooks_k6,.e 1,.c laws_FnBooks_k9,.l laws_FnBooks_k11,.e 0,.c laws_FnBooks_k33]
  ⟨[(1,.sl (.one (.int .u8)) v1),(5,.sl T_Entry v5),(6,.loc 6 0 0),(7,.sl (.one .str) v7),(8,.view 8 0 r8.length),(10,.sl T_Entry v10),(12,.int .i64 v12),(13,.int .i64 v13)],[(5,none),(6,some (.var 4 (.agg [.int .i64 r6_0,.str r6_1,.str r6_2,.int .i64 r6_3]))),(7,none),(8,some (.sl (.one (.int .i64)) r8)),(10,none)]⟩
noncomputable def laws_FnBooks_p7  (v1 : List Int) (v5 : List T_Entry.ty) (v32 : List (List Int)) (v34n : Nat) (v35 : Int) (v36 : List Int) (r34 : List Bool) : Option (Bool) :=
 goL laws_FnBooks_D laws_FnBooks_H (vleave laws_FnBooks_ir [.d (.one (.sl (.one (.int .u8)))),.d (.one (.sl (.one (.int .u8))))] [.d (.one .bool)] [] []) [.c laws_FnBooks_k12,.e 5,.c laws_FnBooks_k13,.l laws_FnBooks_k15,.e 4,.c laws_FnBooks_k31]
  ⟨[(1,.sl (.one (.int .u8)) v1),(5,.sl T_Entry v5),(32,.sl (.one (.sl (.one (.int .i64)))) v32),(34,.view 34 0 v34n),(35,.int .i64 v35),(36,.sl (.one (.int .i64)) v36)],[(5,none),(32,none),(34,some (.sl (.one .bool) r34)),(36,none)]⟩
noncomputable def laws_FnBooks_p8  (v1 : List Int) (v39 : Int) (v40 : Int) (r37 : List (List UInt8)) (r38 : List Int) : Option (Bool) :=
 goL laws_FnBooks_D laws_FnBooks_H (vleave laws_FnBooks_ir [.d (.one (.sl (.one (.int .u8)))),.d (.one (.sl (.one (.int .u8))))] [.d (.one .bool)] [] []) [.c laws_FnBooks_k16,.l laws_FnBooks_k17,.e 6,.c laws_FnBooks_k30]
  ⟨[(1,.sl (.one (.int .u8)) v1),(37,.view 37 0 r37.length),(38,.view 38 0 r38.length),(39,.int .i64 v39),(40,.int .i64 v40)],[(37,some (.sl (.one .str) r37)),(38,some (.sl (.one (.int .i64)) r38))]⟩
noncomputable def laws_FnBooks_p9  (v1 : List Int) (v5 : List T_Entry.ty) (v7 : List (List UInt8)) (v10 : List T_Entry.ty) (v12 : Int) (v13 : Int) (v19 : Int) (v20 : Int) (v22 : Int) (v23 : Int) (r6_0 : Int) (r6_1 : List UInt8) (r6_2 : List UInt8) (r6_3 : Int) (r8 : List Int) : Option (Bool) :=
 goL laws_FnBooks_D laws_FnBooks_H (vleave laws_FnBooks_ir [.d (.one (.sl (.one (.int .u8)))),.d (.one (.sl (.one (.int .u8))))] [.d (.one .bool)] [] []) [.c laws_FnBooks_k5,.e 1,.c laws_FnBooks_k9,.l laws_FnBooks_k11,.e 0,.c laws_FnBooks_k33]
  ⟨[(1,.sl (.one (.int .u8)) v1),(5,.sl T_Entry v5),(6,.loc 6 0 0),(7,.sl (.one .str) v7),(8,.view 8 0 r8.length),(10,.sl T_Entry v10),(12,.int .i64 v12),(13,.int .i64 v13),(19,.int .i64 v19),(20,.int .i64 v20),(22,.int .i64 v22),(23,.int .i64 v23)],[(5,none),(6,some (.var 4 (.agg [.int .i64 r6_0,.str r6_1,.str r6_2,.int .i64 r6_3]))),(7,none),(8,some (.sl (.one (.int .i64)) r8)),(10,none)]⟩
noncomputable def laws_FnBooks_p10  (r37 : List (List UInt8)) (r38 : List Int) (r41 : List T_Entry.ty) : Option (Bool) :=
 goL laws_FnBooks_D laws_FnBooks_H (vleave laws_FnBooks_ir [.d (.one (.sl (.one (.int .u8)))),.d (.one (.sl (.one (.int .u8))))] [.d (.one .bool)] [] []) [.c laws_FnBooks_k29]
  ⟨[(37,.view 37 0 r37.length),(38,.view 38 0 r38.length),(41,.view 41 0 r41.length)],[(37,some (.sl (.one .str) r37)),(38,some (.sl (.one (.int .i64)) r38)),(41,some (.sl T_Entry r41))]⟩
noncomputable def laws_FnBooks_p11  (v1 : List Int) (v5 : List T_Entry.ty) (v7 : List (List UInt8)) (v10 : List T_Entry.ty) (v12 : Int) (v13 : Int) (v19 : Int) (v20 : Int) (v22 : Int) (v23 : Int) (v24 : Int) (v25 : Int) (r6_0 : Int) (r6_1 : List UInt8) (r6_2 : List UInt8) (r6_3 : Int) (r8 : List Int) : Option (Bool) :=
 goL laws_FnBooks_D laws_FnBooks_H (vleave laws_FnBooks_ir [.d (.one (.sl (.one (.int .u8)))),.d (.one (.sl (.one (.int .u8))))] [.d (.one .bool)] [] []) [.c laws_FnBooks_k3,.l laws_FnBooks_k4,.e 2,.e 1,.c laws_FnBooks_k9,.l laws_FnBooks_k11,.e 0,.c laws_FnBooks_k33]
  ⟨[(1,.sl (.one (.int .u8)) v1),(5,.sl T_Entry v5),(6,.loc 6 0 0),(7,.sl (.one .str) v7),(8,.view 8 0 r8.length),(10,.sl T_Entry v10),(12,.int .i64 v12),(13,.int .i64 v13),(19,.int .i64 v19),(20,.int .i64 v20),(22,.int .i64 v22),(23,.int .i64 v23),(24,.int .i64 v24),(25,.int .i64 v25)],[(5,none),(6,some (.var 4 (.agg [.int .i64 r6_0,.str r6_1,.str r6_2,.int .i64 r6_3]))),(7,none),(8,some (.sl (.one (.int .i64)) r8)),(10,none)]⟩
noncomputable def laws_FnBooks_p12  (v38n : Nat) (v43 : Int) (r37 : List (List UInt8)) (r38 : List Int) (r41 : List T_Entry.ty) : Option (Bool) :=
 goL laws_FnBooks_D laws_FnBooks_H (vleave laws_FnBooks_ir [.d (.one (.sl (.one (.int .u8)))),.d (.one (.sl (.one (.int .u8))))] [.d (.one .bool)] [] []) [.c laws_FnBooks_k23,.l laws_FnBooks_k24,.e 8,.c laws_FnBooks_k28]
  ⟨[(37,.view 37 0 r37.length),(38,.view 38 0 v38n),(41,.view 41 0 r41.length),(43,.int .i64 v43)],[(37,some (.sl (.one .str) r37)),(38,some (.sl (.one (.int .i64)) r38)),(41,some (.sl T_Entry r41))]⟩
noncomputable def laws_FnBooks_p13  (v1 : List Int) (v5 : List T_Entry.ty) (v7 : List (List UInt8)) (v10 : List T_Entry.ty) (v12 : Int) (v13 : Int) (v19 : Int) (v20 : Int) (v22 : Int) (v23 : Int) (v24 : Int) (v25 : Int) (r6_0 : Int) (r6_1 : List UInt8) (r6_2 : List UInt8) (r6_3 : Int) (r8 : List Int) : Option (Bool) :=
 goL laws_FnBooks_D laws_FnBooks_H (vleave laws_FnBooks_ir [.d (.one (.sl (.one (.int .u8)))),.d (.one (.sl (.one (.int .u8))))] [.d (.one .bool)] [] []) [.c laws_FnBooks_k1,.e 3,.c laws_FnBooks_k2,.l laws_FnBooks_k4,.e 2,.e 1,.c laws_FnBooks_k9,.l laws_FnBooks_k11,.e 0,.c laws_FnBooks_k33]
  ⟨[(1,.sl (.one (.int .u8)) v1),(5,.sl T_Entry v5),(6,.loc 6 0 0),(7,.sl (.one .str) v7),(8,.view 8 0 r8.length),(10,.sl T_Entry v10),(12,.int .i64 v12),(13,.int .i64 v13),(19,.int .i64 v19),(20,.int .i64 v20),(22,.int .i64 v22),(23,.int .i64 v23),(24,.int .i64 v24),(25,.int .i64 v25)],[(5,none),(6,some (.var 4 (.agg [.int .i64 r6_0,.str r6_1,.str r6_2,.int .i64 r6_3]))),(7,none),(8,some (.sl (.one (.int .i64)) r8)),(10,none)]⟩
noncomputable def laws_FnBooks_p14  (v38n : Nat) (v43 : Int) (v45 : Int) (r37 : List (List UInt8)) (r38 : List Int) (r41 : List T_Entry.ty) (r44_0 : Int) (r44_1 : List UInt8) (r44_2 : List UInt8) (r44_3 : Int) : Option (Bool) :=
 goL laws_FnBooks_D laws_FnBooks_H (vleave laws_FnBooks_ir [.d (.one (.sl (.one (.int .u8)))),.d (.one (.sl (.one (.int .u8))))] [.d (.one .bool)] [] []) [.c laws_FnBooks_k20,.l laws_FnBooks_k21,.e 10,.e 9,.c laws_FnBooks_k22,.l laws_FnBooks_k24,.e 8,.c laws_FnBooks_k28]
  ⟨[(37,.view 37 0 r37.length),(38,.view 38 0 v38n),(41,.view 41 0 r41.length),(43,.int .i64 v43),(44,.loc 44 0 0),(45,.int .i64 v45)],[(37,some (.sl (.one .str) r37)),(38,some (.sl (.one (.int .i64)) r38)),(41,some (.sl T_Entry r41)),(44,some (.var 4 (.agg [.int .i64 r44_0,.str r44_1,.str r44_2,.int .i64 r44_3])))]⟩
noncomputable def laws_FnBooks_p15  (v38n : Nat) (v46 : Int) (r38 : List Int) : Option (Bool) :=
 goL laws_FnBooks_D laws_FnBooks_H (vleave laws_FnBooks_ir [.d (.one (.sl (.one (.int .u8)))),.d (.one (.sl (.one (.int .u8))))] [.d (.one .bool)] [] []) [.c laws_FnBooks_k25,.l laws_FnBooks_k26,.e 12,.c laws_FnBooks_k27]
  ⟨[(38,.view 38 0 v38n),(46,.int .i64 v46)],[(38,some (.sl (.one (.int .i64)) r38))]⟩
noncomputable def laws_FnBooks_p16  (v1 : List Int) (v5 : List T_Entry.ty) (v7 : List (List UInt8)) (v10 : List T_Entry.ty) (v12 : Int) (v13 : Int) (v19 : Int) (v20 : Int) (v22 : Int) (v23 : Int) (v24 : Int) (v25 : Int) (r6_0 : Int) (r6_1 : List UInt8) (r6_2 : List UInt8) (r6_3 : Int) (r8 : List Int) : Option (Bool) :=
 goL laws_FnBooks_D laws_FnBooks_H (vleave laws_FnBooks_ir [.d (.one (.sl (.one (.int .u8)))),.d (.one (.sl (.one (.int .u8))))] [.d (.one .bool)] [] []) [.c laws_FnBooks_k0,.e 3,.c laws_FnBooks_k2,.l laws_FnBooks_k4,.e 2,.e 1,.c laws_FnBooks_k9,.l laws_FnBooks_k11,.e 0,.c laws_FnBooks_k33]
  ⟨[(1,.sl (.one (.int .u8)) v1),(5,.sl T_Entry v5),(6,.loc 6 0 0),(7,.sl (.one .str) v7),(8,.view 8 0 r8.length),(10,.sl T_Entry v10),(12,.int .i64 v12),(13,.int .i64 v13),(19,.int .i64 v19),(20,.int .i64 v20),(22,.int .i64 v22),(23,.int .i64 v23),(24,.int .i64 v24),(25,.int .i64 v25)],[(5,none),(6,some (.var 4 (.agg [.int .i64 r6_0,.str r6_1,.str r6_2,.int .i64 r6_3]))),(7,none),(8,some (.sl (.one (.int .i64)) r8)),(10,none)]⟩
noncomputable def laws_FnBooks_p17  (v38n : Nat) (v43 : Int) (v45 : Int) (r37 : List (List UInt8)) (r38 : List Int) (r41 : List T_Entry.ty) (r44_0 : Int) (r44_1 : List UInt8) (r44_2 : List UInt8) (r44_3 : Int) : Option (Bool) :=
 goL laws_FnBooks_D laws_FnBooks_H (vleave laws_FnBooks_ir [.d (.one (.sl (.one (.int .u8)))),.d (.one (.sl (.one (.int .u8))))] [.d (.one .bool)] [] []) [.c laws_FnBooks_k18,.e 11,.c laws_FnBooks_k19,.l laws_FnBooks_k21,.e 10,.e 9,.c laws_FnBooks_k22,.l laws_FnBooks_k24,.e 8,.c laws_FnBooks_k28]
  ⟨[(37,.view 37 0 r37.length),(38,.view 38 0 v38n),(41,.view 41 0 r41.length),(43,.int .i64 v43),(44,.loc 44 0 0),(45,.int .i64 v45)],[(37,some (.sl (.one .str) r37)),(38,some (.sl (.one (.int .i64)) r38)),(41,some (.sl T_Entry r41)),(44,some (.var 4 (.agg [.int .i64 r44_0,.str r44_1,.str r44_2,.int .i64 r44_3])))]⟩
theorem laws_FnBooks_eq (a0 : List Int) (a1 : List Int) : laws_FnBooks a0 a1 =
 (laws_r8Long a0 a1).bind fun x1 =>
  if x1 then
   some true
  else
   (spec_R8Book a0).bind fun x2 =>
    (spec_R8Entry a1).bind fun x3 =>
     (impl_TrialBalance (x2.take x2.length)).bind fun x4 =>
      (impl_AddEntry (x2.take x2.length) x3).bind fun x5 =>
       if (x4.2.2 != 0) then
        some false
       else
        if ((x4.1.length : Int) != (x4.2.1.length : Int)) then
         some false
        else
         if (x5.2 != 0) then
          some false
         else
          if ((x5.1.length : Int) != IntKind.i64.wrap (((x2.take x2.length).length : Int) + 1)) then
           some false
          else
           (impl_ValidBook x5.1).bind fun x6 =>
            if (!x6) then
             some false
            else
             (impl_ValidBook (x2.take x2.length)).bind fun x7 =>
              if (!x7) then
               some false
              else
               laws_FnBooks_p0 a1 (x2.take x2.length) x4.1 x5.1 x3.1 x3.2.1 x3.2.2.1 x3.2.2.2.1 x4.2.1 :=
 (mk_f _ _ _ _ _ _ _ 4000).trans (by kernel_rfl)
theorem laws_FnBooks_p0_eq  (v1 : List Int) (v5 : List T_Entry.ty) (v7 : List (List UInt8)) (v10 : List T_Entry.ty) (r6_0 : Int) (r6_1 : List UInt8) (r6_2 : List UInt8) (r6_3 : Int) (r8 : List Int) : laws_FnBooks_p0 v1 v5 v7 v10 r6_0 r6_1 r6_2 r6_3 r8 =
 laws_FnBooks_p1 v1 v5 v7 v10 0 0 r6_0 r6_1 r6_2 r6_3 r8 :=
 (goL_dn _ _ _ 4000 _ _).trans (by kernel_rfl)
theorem laws_FnBooks_p1_eq  (v1 : List Int) (v5 : List T_Entry.ty) (v7 : List (List UInt8)) (v10 : List T_Entry.ty) (v12 : Int) (v13 : Int) (r6_0 : Int) (r6_1 : List UInt8) (r6_2 : List UInt8) (r6_3 : Int) (r8 : List Int) : laws_FnBooks_p1 v1 v5 v7 v10 v12 v13 r6_0 r6_1 r6_2 r6_3 r8 =
 if decide (v13 < (v7.length : Int)) then
  if decide (0 ≤ v13) && decide (v13 < (r8.length : Int)) then
   (r8[v13.toNat]?).bind fun x1 =>
    if decide (0 ≤ v13) then
     (v7[v13.toNat]?).bind fun x2 =>
      (impl_AccountOf v5 x2 100000).bind fun x3 =>
       if decide (0 ≤ v13) then
        (v7[v13.toNat]?).bind fun x4 =>
         (impl_AccountOf v10 x4 100000).bind fun x5 =>
          if decide (0 ≤ v13) then
           (v7[v13.toNat]?).bind fun x6 =>
            if (r6_1 == x6) then
             laws_FnBooks_p2 v1 v5 v7 v10 (IntKind.i64.wrap (v12 + x1)) v13 x3.1 x3.2 x5.1 x5.2 r6_3 r6_0 r6_1 r6_2 r6_3 r8
            else
             laws_FnBooks_p2 v1 v5 v7 v10 (IntKind.i64.wrap (v12 + x1)) v13 x3.1 x3.2 x5.1 x5.2 0 r6_0 r6_1 r6_2 r6_3 r8
          else
           none
       else
        none
    else
     none
  else
   none
 else
  (impl_Reversed v10 (IntKind.i64.wrap ((v10.length : Int) - 1)) 100000).bind fun x7 =>
   (impl_EntryText (r6_0,r6_1,r6_2,r6_3,())).bind fun x8 =>
    (impl_ReadEntry x8).bind fun x9 =>
     (impl_FlowBetween v10 r6_2 r6_1).bind fun x10 =>
      (impl_PairsOf v5).bind fun x11 =>
       if (v12 != 0) then
        some false
       else
        if (x7.2 != 0) then
         some false
        else
         if decide (0 ≤ IntKind.i64.wrap ((v10.length : Int) - 1)) then
          (v10[(IntKind.i64.wrap ((v10.length : Int) - 1)).toNat]?).bind fun x12 =>
           if (!(x7.1.2.1 == x12.2.2.1)) then
            some false
           else
            if decide (0 ≤ IntKind.i64.wrap ((v10.length : Int) - 1)) then
             (v10[(IntKind.i64.wrap ((v10.length : Int) - 1)).toNat]?).bind fun x13 =>
              if (!(x7.1.2.2.1 == x13.2.1)) then
               some false
              else
               if decide (0 ≤ IntKind.i64.wrap ((v10.length : Int) - 1)) then
                (v10[(IntKind.i64.wrap ((v10.length : Int) - 1)).toNat]?).bind fun x14 =>
                 if (x7.1.2.2.2.1 != x14.2.2.2.1) then
                  some false
                 else
                  if (!x9.2) then
                   some false
                  else
                   if (!((x9.1.1 == r6_0) && ((x9.1.2.1 == r6_1) && ((x9.1.2.2.1 == r6_2) && (x9.1.2.2.2.1 == r6_3))))) then
                    some false
                   else
                    if (x10.2 != 0) then
                     some false
                    else
                     if decide (x10.1 < r6_3) then
                      some false
                     else
                      if (x11.2 != 0) then
                       some false
                      else
                       if decide (IntKind.i64.wrap (2 * (x11.1.length : Int)) > (v5.length : Int)) then
                        some false
                       else
                        laws_FnBooks_p3 v1 v5 x11.1
               else
                none
            else
             none
         else
          none :=
 (goL_dn _ _ _ 4000 _ _).trans (by kernel_rfl)
theorem laws_FnBooks_p2_eq  (v1 : List Int) (v5 : List T_Entry.ty) (v7 : List (List UInt8)) (v10 : List T_Entry.ty) (v12 : Int) (v13 : Int) (v14 : Int) (v15 : Int) (v16 : Int) (v17 : Int) (v18 : Int) (r6_0 : Int) (r6_1 : List UInt8) (r6_2 : List UInt8) (r6_3 : Int) (r8 : List Int) : laws_FnBooks_p2 v1 v5 v7 v10 v12 v13 v14 v15 v16 v17 v18 r6_0 r6_1 r6_2 r6_3 r8 =
 if decide (0 ≤ v13) then
  (v7[v13.toNat]?).bind fun x1 =>
   if (r6_2 == x1) then
    laws_FnBooks_p4 v1 v5 v7 v10 v12 v13 v14 v15 v16 v17 (IntKind.i64.wrap (0 - r6_3)) r6_0 r6_1 r6_2 r6_3 r8
   else
    laws_FnBooks_p4 v1 v5 v7 v10 v12 v13 v14 v15 v16 v17 v18 r6_0 r6_1 r6_2 r6_3 r8
 else
  none :=
 (goL_dn _ _ _ 4000 _ _).trans (by kernel_rfl)
theorem laws_FnBooks_p3_eq  (v1 : List Int) (v5 : List T_Entry.ty) (v32 : List (List Int)) : laws_FnBooks_p3 v1 v5 v32 =
 if decide (0 ≤ (v5.length : Int)) && decide ((v5.length : Int) ≤ (v5.length : Int)) && decide ((v5.length : Int).toNat < lim) then
  laws_FnBooks_p5 v1 v5 v32 ((List.replicate ((v5.length : Int).toNat) (false : Bool)).length) 0 (List.replicate ((v5.length : Int).toNat) (false : Bool))
 else
  none :=
 (goL_dn _ _ _ 4000 _ _).trans (by kernel_rfl)
theorem laws_FnBooks_p4_eq  (v1 : List Int) (v5 : List T_Entry.ty) (v7 : List (List UInt8)) (v10 : List T_Entry.ty) (v12 : Int) (v13 : Int) (v14 : Int) (v15 : Int) (v16 : Int) (v17 : Int) (v18 : Int) (r6_0 : Int) (r6_1 : List UInt8) (r6_2 : List UInt8) (r6_3 : Int) (r8 : List Int) : laws_FnBooks_p4 v1 v5 v7 v10 v12 v13 v14 v15 v16 v17 v18 r6_0 r6_1 r6_2 r6_3 r8 =
 if (v15 != 0) then
  some false
 else
  if decide (0 ≤ v13) && decide (v13 < (r8.length : Int)) then
   (r8[v13.toNat]?).bind fun x1 =>
    if (v14 != x1) then
     some false
    else
     if (v17 != 0) then
      some false
     else
      if (IntKind.i64.wrap (v16 - v14) != v18) then
       some false
      else
       if decide (v13 > 0) then
        if decide (0 ≤ IntKind.i64.wrap (v13 - 1)) then
         (v7[(IntKind.i64.wrap (v13 - 1)).toNat]?).bind fun x2 =>
          if decide (0 ≤ v13) then
           (v7[v13.toNat]?).bind fun x3 =>
            if (!Op.bytesLess x2 x3) then
             some false
            else
             laws_FnBooks_p6 v1 v5 v7 v10 v12 v13 r6_0 r6_1 r6_2 r6_3 r8
          else
           none
        else
         none
       else
        laws_FnBooks_p6 v1 v5 v7 v10 v12 v13 r6_0 r6_1 r6_2 r6_3 r8
  else
   none :=
 (goL_dn _ _ _ 4000 _ _).trans (by kernel_rfl)
theorem laws_FnBooks_p5_eq  (v1 : List Int) (v5 : List T_Entry.ty) (v32 : List (List Int)) (v34n : Nat) (v35 : Int) (r34 : List Bool) : laws_FnBooks_p5 v1 v5 v32 v34n v35 r34 =
 if decide (v35 < (v32.length : Int)) then
  if decide (0 ≤ v35) then
   (v32[v35.toNat]?).bind fun x1 =>
    if ((x1.length : Int) != 2) then
     some false
    else
     (x1[0]?).bind fun x2 =>
      if decide (x2 < 0) then
       some false
      else
       (x1[0]?).bind fun x3 =>
        (x1[1]?).bind fun x4 =>
         if decide (x3 ≥ x4) then
          some false
         else
          (x1[1]?).bind fun x5 =>
           if decide (x5 ≥ (v5.length : Int)) then
            some false
           else
            (x1[0]?).bind fun x6 =>
             if decide (0 ≤ x6) && decide (x6 < (v34n : Int)) then
              (r34[x6.toNat]?).bind fun x7 =>
               if x7 then
                some false
               else
                (x1[1]?).bind fun x8 =>
                 if decide (0 ≤ x8) && decide (x8 < (v34n : Int)) then
                  (r34[x8.toNat]?).bind fun x9 =>
                   if x9 then
                    some false
                   else
                    (x1[0]?).bind fun x10 =>
                     if decide (0 ≤ x10) then
                      (v5[x10.toNat]?).bind fun x11 =>
                       (x1[1]?).bind fun x12 =>
                        if decide (0 ≤ x12) then
                         (v5[x12.toNat]?).bind fun x13 =>
                          if (!(x11.2.1 == x13.2.2.1)) then
                           some false
                          else
                           (x1[0]?).bind fun x14 =>
                            if decide (0 ≤ x14) then
                             (v5[x14.toNat]?).bind fun x15 =>
                              (x1[1]?).bind fun x16 =>
                               if decide (0 ≤ x16) then
                                (v5[x16.toNat]?).bind fun x17 =>
                                 if (!(x15.2.2.1 == x17.2.1)) then
                                  some false
                                 else
                                  (x1[0]?).bind fun x18 =>
                                   if decide (0 ≤ x18) then
                                    (v5[x18.toNat]?).bind fun x19 =>
                                     (x1[1]?).bind fun x20 =>
                                      if decide (0 ≤ x20) then
                                       (v5[x20.toNat]?).bind fun x21 =>
                                        if (x19.2.2.2.1 != x21.2.2.2.1) then
                                         some false
                                        else
                                         laws_FnBooks_p7 v1 v5 v32 v34n v35 x1 r34
                                      else
                                       none
                                   else
                                    none
                               else
                                none
                            else
                             none
                        else
                         none
                     else
                      none
                 else
                  none
             else
              none
  else
   none
 else
  laws_FnBooks_p8 v1 0 0 [[97,100,97],[98,101,110],[99,108,101,111],[100,111,118]] [] :=
 (goL_dn _ _ _ 4000 _ _).trans (by kernel_rfl)
theorem laws_FnBooks_p6_eq  (v1 : List Int) (v5 : List T_Entry.ty) (v7 : List (List UInt8)) (v10 : List T_Entry.ty) (v12 : Int) (v13 : Int) (r6_0 : Int) (r6_1 : List UInt8) (r6_2 : List UInt8) (r6_3 : Int) (r8 : List Int) : laws_FnBooks_p6 v1 v5 v7 v10 v12 v13 r6_0 r6_1 r6_2 r6_3 r8 =
 if decide (0 ≤ v13) then
  (v7[v13.toNat]?).bind fun x1 =>
   (impl_LowestOf v5 x1).bind fun x2 =>
    if decide (0 ≤ v13) then
     (v7[v13.toNat]?).bind fun x3 =>
      (impl_FirstBelow v5 x3).bind fun x4 =>
       if (x2.2.2 != 0) then
        some false
       else
        if decide (x2.1 < 0) then
         some false
        else
         if decide (x2.1 ≥ (v5.length : Int)) then
          some false
         else
          if (!((x4.2 == 0) == decide (x2.2.1 < 0))) then
           some false
          else
           laws_FnBooks_p9 v1 v5 v7 v10 v12 v13 x2.1 x2.2.1 x4.1 x4.2 r6_0 r6_1 r6_2 r6_3 r8
    else
     none
 else
  none :=
 (goL_dn _ _ _ 4000 _ _).trans (by kernel_rfl)
theorem laws_FnBooks_p7_eq  (v1 : List Int) (v5 : List T_Entry.ty) (v32 : List (List Int)) (v34n : Nat) (v35 : Int) (v36 : List Int) (r34 : List Bool) : laws_FnBooks_p7 v1 v5 v32 v34n v35 v36 r34 =
 (v36[0]?).bind fun x1 =>
  if decide (0 ≤ x1) && decide (x1 < (v34n : Int)) then
   (r34[x1.toNat]?).bind fun x2 =>
    (v36[1]?).bind fun x3 =>
     if decide (0 ≤ x3) && decide (x3 < (v34n : Int)) then
      ((r34.set x1.toNat true)[x3.toNat]?).bind fun x4 =>
       laws_FnBooks_p5 v1 v5 v32 v34n (IntKind.i64.wrap (v35 + 1)) ((r34.set x1.toNat true).set x3.toNat true)
     else
      none
  else
   none :=
 (goL_dn _ _ _ 4000 _ _).trans (by kernel_rfl)
theorem laws_FnBooks_p8_eq  (v1 : List Int) (v39 : Int) (v40 : Int) (r37 : List (List UInt8)) (r38 : List Int) : laws_FnBooks_p8 v1 v39 v40 r37 r38 =
 if decide (v40 < 3) then
  (laws_r8At v1 (IntKind.i64.wrap (20 + v40)) 40).bind fun x1 =>
   if decide (r38.length + 1 < lim) then
    if decide (0 ≤ v40) && decide (v40 < (((r38.take r38.length) ++ [IntKind.i64.wrap ((IntKind.i64.wrap (10 * x1)) - 200)]).length : Int)) then
     (((r38.take r38.length) ++ [IntKind.i64.wrap ((IntKind.i64.wrap (10 * x1)) - 200)])[v40.toNat]?).bind fun x2 =>
      laws_FnBooks_p8 v1 (IntKind.i64.wrap (v39 + x2)) (IntKind.i64.wrap (v40 + 1)) r37 ((r38.take r38.length) ++ [IntKind.i64.wrap ((IntKind.i64.wrap (10 * x1)) - 200)])
    else
     none
   else
    none
 else
  if decide (r38.length + 1 < lim) then
   (impl_SettleDebts (r37.take r37.length) (((r38.take r38.length) ++ [IntKind.i64.wrap (0 - v39)]).take (((r38.take r38.length) ++ [IntKind.i64.wrap (0 - v39)]).length))).bind fun x3 =>
    if (x3.2 != 0) then
     some false
    else
     if decide ((x3.1.length : Int) > 3) then
      some false
     else
      laws_FnBooks_p10 r37 ((r38.take r38.length) ++ [IntKind.i64.wrap (0 - v39)]) x3.1
  else
   none :=
 (goL_dn _ _ _ 4000 _ _).trans (by kernel_rfl)
theorem laws_FnBooks_p9_eq  (v1 : List Int) (v5 : List T_Entry.ty) (v7 : List (List UInt8)) (v10 : List T_Entry.ty) (v12 : Int) (v13 : Int) (v19 : Int) (v20 : Int) (v22 : Int) (v23 : Int) (r6_0 : Int) (r6_1 : List UInt8) (r6_2 : List UInt8) (r6_3 : Int) (r8 : List Int) : laws_FnBooks_p9 v1 v5 v7 v10 v12 v13 v19 v20 v22 v23 r6_0 r6_1 r6_2 r6_3 r8 =
 laws_FnBooks_p11 v1 v5 v7 v10 v12 v13 v19 v20 v22 v23 0 0 r6_0 r6_1 r6_2 r6_3 r8 :=
 (goL_dn _ _ _ 4000 _ _).trans (by kernel_rfl)
theorem laws_FnBooks_p10_eq  (r37 : List (List UInt8)) (r38 : List Int) (r41 : List T_Entry.ty) : laws_FnBooks_p10 r37 r38 r41 =
 laws_FnBooks_p12 r38.length 0 r37 r38 r41 :=
 (goL_dn _ _ _ 4000 _ _).trans (by kernel_rfl)
theorem laws_FnBooks_p11_eq  (v1 : List Int) (v5 : List T_Entry.ty) (v7 : List (List UInt8)) (v10 : List T_Entry.ty) (v12 : Int) (v13 : Int) (v19 : Int) (v20 : Int) (v22 : Int) (v23 : Int) (v24 : Int) (v25 : Int) (r6_0 : Int) (r6_1 : List UInt8) (r6_2 : List UInt8) (r6_3 : Int) (r8 : List Int) : laws_FnBooks_p11 v1 v5 v7 v10 v12 v13 v19 v20 v22 v23 v24 v25 r6_0 r6_1 r6_2 r6_3 r8 =
 if decide (v25 < (v5.length : Int)) then
  if decide (0 ≤ v25) then
   (v5[v25.toNat]?).bind fun x1 =>
    if decide (0 ≤ v13) then
     (v7[v13.toNat]?).bind fun x2 =>
      if (x1.2.1 == x2) then
       if decide (0 ≤ v25) then
        (v5[v25.toNat]?).bind fun x3 =>
         laws_FnBooks_p13 v1 v5 v7 v10 v12 v13 v19 v20 v22 v23 (IntKind.i64.wrap (v24 + x3.2.2.2.1)) v25 r6_0 r6_1 r6_2 r6_3 r8
       else
        none
      else
       laws_FnBooks_p13 v1 v5 v7 v10 v12 v13 v19 v20 v22 v23 v24 v25 r6_0 r6_1 r6_2 r6_3 r8
    else
     none
  else
   none
 else
  laws_FnBooks_p1 v1 v5 v7 v10 v12 (IntKind.i64.wrap (v13 + 1)) r6_0 r6_1 r6_2 r6_3 r8 :=
 (goL_dn _ _ _ 4000 _ _).trans (by kernel_rfl)
theorem laws_FnBooks_p12_eq  (v38n : Nat) (v43 : Int) (r37 : List (List UInt8)) (r38 : List Int) (r41 : List T_Entry.ty) : laws_FnBooks_p12 v38n v43 r37 r38 r41 =
 if decide (v43 < (r41.length : Int)) then
  if decide (0 ≤ v43) && decide (v43 < (r41.length : Int)) then
   (r41[v43.toNat]?).bind fun x1 =>
    if decide (x1.2.2.2.1 < 1) then
     some false
    else
     laws_FnBooks_p14 v38n v43 0 r37 r38 r41 x1.1 x1.2.1 x1.2.2.1 x1.2.2.2.1
  else
   none
 else
  laws_FnBooks_p15 v38n 0 r38 :=
 (goL_dn _ _ _ 4000 _ _).trans (by kernel_rfl)
theorem laws_FnBooks_p13_eq  (v1 : List Int) (v5 : List T_Entry.ty) (v7 : List (List UInt8)) (v10 : List T_Entry.ty) (v12 : Int) (v13 : Int) (v19 : Int) (v20 : Int) (v22 : Int) (v23 : Int) (v24 : Int) (v25 : Int) (r6_0 : Int) (r6_1 : List UInt8) (r6_2 : List UInt8) (r6_3 : Int) (r8 : List Int) : laws_FnBooks_p13 v1 v5 v7 v10 v12 v13 v19 v20 v22 v23 v24 v25 r6_0 r6_1 r6_2 r6_3 r8 =
 if decide (0 ≤ v25) then
  (v5[v25.toNat]?).bind fun x1 =>
   if decide (0 ≤ v13) then
    (v7[v13.toNat]?).bind fun x2 =>
     if (x1.2.2.1 == x2) then
      if decide (0 ≤ v25) then
       (v5[v25.toNat]?).bind fun x3 =>
        laws_FnBooks_p16 v1 v5 v7 v10 v12 v13 v19 v20 v22 v23 (IntKind.i64.wrap (v24 - x3.2.2.2.1)) v25 r6_0 r6_1 r6_2 r6_3 r8
      else
       none
     else
      laws_FnBooks_p16 v1 v5 v7 v10 v12 v13 v19 v20 v22 v23 v24 v25 r6_0 r6_1 r6_2 r6_3 r8
   else
    none
 else
  none :=
 (goL_dn _ _ _ 4000 _ _).trans (by kernel_rfl)
theorem laws_FnBooks_p14_eq  (v38n : Nat) (v43 : Int) (v45 : Int) (r37 : List (List UInt8)) (r38 : List Int) (r41 : List T_Entry.ty) (r44_0 : Int) (r44_1 : List UInt8) (r44_2 : List UInt8) (r44_3 : Int) : laws_FnBooks_p14 v38n v43 v45 r37 r38 r41 r44_0 r44_1 r44_2 r44_3 =
 if decide (v45 < 4) then
  if decide (0 ≤ v45) && decide (v45 < (r37.length : Int)) then
   (r37[v45.toNat]?).bind fun x1 =>
    if (x1 == r44_1) then
     if decide (0 ≤ v45) && decide (v45 < (v38n : Int)) then
      (r38[v45.toNat]?).bind fun x2 =>
       if decide (0 ≤ v45) && decide (v45 < (v38n : Int)) then
        (r38[v45.toNat]?).bind fun x3 =>
         laws_FnBooks_p17 v38n v43 v45 r37 (r38.set v45.toNat (IntKind.i64.wrap (x2 + r44_3))) r41 r44_0 r44_1 r44_2 r44_3
       else
        none
     else
      none
    else
     laws_FnBooks_p17 v38n v43 v45 r37 r38 r41 r44_0 r44_1 r44_2 r44_3
  else
   none
 else
  laws_FnBooks_p12 v38n (IntKind.i64.wrap (v43 + 1)) r37 r38 r41 :=
 (goL_dn _ _ _ 4000 _ _).trans (by kernel_rfl)
theorem laws_FnBooks_p15_eq  (v38n : Nat) (v46 : Int) (r38 : List Int) : laws_FnBooks_p15 v38n v46 r38 =
 if decide (v46 < 4) then
  if decide (0 ≤ v46) && decide (v46 < (v38n : Int)) then
   (r38[v46.toNat]?).bind fun x1 =>
    if (x1 != 0) then
     some false
    else
     laws_FnBooks_p15 v38n (IntKind.i64.wrap (v46 + 1)) r38
  else
   none
 else
  some true :=
 (goL_dn _ _ _ 4000 _ _).trans (by kernel_rfl)
theorem laws_FnBooks_p16_eq  (v1 : List Int) (v5 : List T_Entry.ty) (v7 : List (List UInt8)) (v10 : List T_Entry.ty) (v12 : Int) (v13 : Int) (v19 : Int) (v20 : Int) (v22 : Int) (v23 : Int) (v24 : Int) (v25 : Int) (r6_0 : Int) (r6_1 : List UInt8) (r6_2 : List UInt8) (r6_3 : Int) (r8 : List Int) : laws_FnBooks_p16 v1 v5 v7 v10 v12 v13 v19 v20 v22 v23 v24 v25 r6_0 r6_1 r6_2 r6_3 r8 =
 if decide (v24 < v20) then
  some false
 else
  if (v25 == v19) then
   if (v24 != v20) then
    some false
   else
    if decide (v24 < 0) then
     if (v23 != 0) then
      some false
     else
      if decide (v22 > v25) then
       some false
      else
       if (v23 == 0) then
        if (v25 == v22) then
         if decide (v24 ≥ 0) then
          some false
         else
          laws_FnBooks_p11 v1 v5 v7 v10 v12 v13 v19 v20 v22 v23 v24 (IntKind.i64.wrap (v25 + 1)) r6_0 r6_1 r6_2 r6_3 r8
        else
         laws_FnBooks_p11 v1 v5 v7 v10 v12 v13 v19 v20 v22 v23 v24 (IntKind.i64.wrap (v25 + 1)) r6_0 r6_1 r6_2 r6_3 r8
       else
        laws_FnBooks_p11 v1 v5 v7 v10 v12 v13 v19 v20 v22 v23 v24 (IntKind.i64.wrap (v25 + 1)) r6_0 r6_1 r6_2 r6_3 r8
    else
     if (v23 == 0) then
      if (v25 == v22) then
       if decide (v24 ≥ 0) then
        some false
       else
        laws_FnBooks_p11 v1 v5 v7 v10 v12 v13 v19 v20 v22 v23 v24 (IntKind.i64.wrap (v25 + 1)) r6_0 r6_1 r6_2 r6_3 r8
      else
       laws_FnBooks_p11 v1 v5 v7 v10 v12 v13 v19 v20 v22 v23 v24 (IntKind.i64.wrap (v25 + 1)) r6_0 r6_1 r6_2 r6_3 r8
     else
      laws_FnBooks_p11 v1 v5 v7 v10 v12 v13 v19 v20 v22 v23 v24 (IntKind.i64.wrap (v25 + 1)) r6_0 r6_1 r6_2 r6_3 r8
  else
   if decide (v24 < 0) then
    if (v23 != 0) then
     some false
    else
     if decide (v22 > v25) then
      some false
     else
      if (v23 == 0) then
       if (v25 == v22) then
        if decide (v24 ≥ 0) then
         some false
        else
         laws_FnBooks_p11 v1 v5 v7 v10 v12 v13 v19 v20 v22 v23 v24 (IntKind.i64.wrap (v25 + 1)) r6_0 r6_1 r6_2 r6_3 r8
       else
        laws_FnBooks_p11 v1 v5 v7 v10 v12 v13 v19 v20 v22 v23 v24 (IntKind.i64.wrap (v25 + 1)) r6_0 r6_1 r6_2 r6_3 r8
      else
       laws_FnBooks_p11 v1 v5 v7 v10 v12 v13 v19 v20 v22 v23 v24 (IntKind.i64.wrap (v25 + 1)) r6_0 r6_1 r6_2 r6_3 r8
   else
    if (v23 == 0) then
     if (v25 == v22) then
      if decide (v24 ≥ 0) then
       some false
      else
       laws_FnBooks_p11 v1 v5 v7 v10 v12 v13 v19 v20 v22 v23 v24 (IntKind.i64.wrap (v25 + 1)) r6_0 r6_1 r6_2 r6_3 r8
     else
      laws_FnBooks_p11 v1 v5 v7 v10 v12 v13 v19 v20 v22 v23 v24 (IntKind.i64.wrap (v25 + 1)) r6_0 r6_1 r6_2 r6_3 r8
    else
     laws_FnBooks_p11 v1 v5 v7 v10 v12 v13 v19 v20 v22 v23 v24 (IntKind.i64.wrap (v25 + 1)) r6_0 r6_1 r6_2 r6_3 r8 :=
 (goL_dn _ _ _ 4000 _ _).trans (by kernel_rfl)
theorem laws_FnBooks_p17_eq  (v38n : Nat) (v43 : Int) (v45 : Int) (r37 : List (List UInt8)) (r38 : List Int) (r41 : List T_Entry.ty) (r44_0 : Int) (r44_1 : List UInt8) (r44_2 : List UInt8) (r44_3 : Int) : laws_FnBooks_p17 v38n v43 v45 r37 r38 r41 r44_0 r44_1 r44_2 r44_3 =
 if decide (0 ≤ v45) && decide (v45 < (r37.length : Int)) then
  (r37[v45.toNat]?).bind fun x1 =>
   if (x1 == r44_2) then
    if decide (0 ≤ v45) && decide (v45 < (v38n : Int)) then
     (r38[v45.toNat]?).bind fun x2 =>
      if decide (0 ≤ v45) && decide (v45 < (v38n : Int)) then
       (r38[v45.toNat]?).bind fun x3 =>
        laws_FnBooks_p14 v38n v43 (IntKind.i64.wrap (v45 + 1)) r37 (r38.set v45.toNat (IntKind.i64.wrap (x2 - r44_3))) r41 r44_0 r44_1 r44_2 r44_3
      else
       none
    else
     none
   else
    laws_FnBooks_p14 v38n v43 (IntKind.i64.wrap (v45 + 1)) r37 r38 r41 r44_0 r44_1 r44_2 r44_3
 else
  none :=
 (goL_dn _ _ _ 4000 _ _).trans (by kernel_rfl)
end Go.Ab.P
