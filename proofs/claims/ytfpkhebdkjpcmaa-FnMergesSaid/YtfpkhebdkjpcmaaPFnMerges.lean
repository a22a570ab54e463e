/- Functions of the program: abstract forms, and what their runs give. Conditions: none. -/
import Derived.Test.YtfpkhebdkjpcmaaLE
import Derived.Test.YtfpkhebdkjpcmaaL8
set_option maxRecDepth 100000
set_option linter.unusedVariables false
namespace Go.Ab.P
open Go.Ab
@[reducible] def T_Setting : ET := .agg (.cons .str (.cons (.int .i64) .nil))
@[reducible] def T_Version : ET := .agg (.cons (.int .i64) (.cons (.int .i64) (.cons .str (.cons (.sl T_Setting) .nil))))
@[reducible] def T_l00Src : ET := .agg (.cons (.sl (.one (.int .u8))) (.cons (.int .i64) (.cons (.int .u64) .nil)))
def laws_r8Long_ir : Fn := { np := 2,io := [],res := [.t 4],own := [false],body :=
 (.seq (.reg false [.V 4 (.asg (.c (.bool false)))] [0,1] []) (.seq (.reg false [.V 5 (.mv (.t 0)),.V 6 (.len (.t 5)),.V 7 (.bin .gtr (.t 6) (.c (.int .i64 1048576))),.V 8 (.mv (.t 7)),.G 9 (.mv (.t 1)) 3 false,.G 10 (.len (.t 9)) 3 false,.G 11 (.bin .gtr (.t 10) (.c (.int .i64 1048576))) 3 false,.V 12 (.pick (.t 8) (.c (.bool true)) (.t 11)),.V 4 (.asg (.t 12))] [4] []) .ret)) }
noncomputable def laws_r8Long_D : List (Nat × Callee) := []
def laws_r8Long_H : List (Nat × ET) := [(5,(.one (.int .u8))),(9,(.one (.int .u8)))]
noncomputable def laws_r8Long_c : Callee := mkCallee laws_r8Long_D laws_r8Long_H laws_r8Long_ir [.d (.one (.sl (.one (.int .u8)))),.d (.one (.sl (.one (.int .u8))))] [.d (.one .bool)] []
noncomputable def laws_r8Long (a0 : List Int) (a1 : List Int) : Option (Bool) := laws_r8Long_c.f (a0,a1,())
theorem laws_r8Long_eq (a0 : List Int) (a1 : List Int) : laws_r8Long a0 a1 =
 if decide ((a0.length : Int) > 1048576) then
  some true
 else
  some (decide ((a1.length : Int) > 1048576)) :=
 (mk_f _ _ _ _ _ _ _ 4000).trans (by kernel_rfl)
def spec_l00From_ir : Fn := { np := 1,io := [],res := [.t 2],own := [true],body :=
 (.seq (.reg false [.V 2 (.asg (.c (.cst (.pointer none))))] [0] []) (.seq (.reg false [.V 3 (.mv (.t 0)),.V 4 (.build [.nils 1,.int .i64 0,.int .u64 0] [(0,1,.t 3)]),.W 5 (.box 3 (.t 4)),.V 2 (.asg (.t 5))] [2] [5,6000]) .ret)) }
noncomputable def spec_l00From_D : List (Nat × Callee) := []
def spec_l00From_H : List (Nat × ET) := [(3,(.one (.int .u8)))]
noncomputable def spec_l00From_c : Callee := mkCallee spec_l00From_D spec_l00From_H spec_l00From_ir [.d (.one (.sl (.one (.int .u8))))] [.box T_l00Src] []
noncomputable def spec_l00From (a0 : List Int) : Option (T_l00Src.ty) := spec_l00From_c.f (a0,())
theorem spec_l00From_eq (a0 : List Int) : spec_l00From a0 =
 some (a0,0,0,()) :=
 (mk_f _ _ _ _ _ _ _ 4000).trans (by kernel_rfl)
def spec_l00Src_next_k0 : C :=
 .seq (.reg false [.V 25 (.mv (.t 0)),.V 26 (.nilck (.t 25)),.V 27 (.fa 1 (.t 26)),.V 28 (.ld none (.t 27)),.V 29 (.bin .add (.t 28) (.c (.int .i64 1))),.V 30 (.nilck (.t 25)),.V 31 (.fa 1 (.t 30)),⟨none,true,.sto 1 (.t 31) (.t 29),none,false,[]⟩] [0,3] [0,1000]) (.seq (.reg false [.V 32 (.mv (.t 0)),.V 33 (.mv (.t 0)),.V 34 (.nilck (.t 33)),.V 35 (.fa 2 (.t 34)),.V 36 (.ld none (.t 35)),.V 37 (.bin .mul (.t 36) (.c (.int .u64 6364136223846793005))),.V 38 (.mv (.t 3)),.V 39 (.conv (.int .u64) (.t 38)),.V 40 (.bin .add (.t 37) (.t 39)),.V 41 (.bin .add (.t 40) (.c (.int .u64 1442695040888963407))),.V 42 (.nilck (.t 32)),.V 43 (.fa 2 (.t 42)),⟨none,true,.sto 1 (.t 43) (.t 41),none,false,[]⟩] [0,3] [0,1000]) (.seq (.seq (.reg true [.V 44 (.mv (.t 0)),.V 45 (.nilck (.t 44)),.V 46 (.fa 1 (.t 45)),.V 47 (.ld none (.t 46)),.V 48 (.mv (.t 0)),.V 49 (.nilck (.t 48)),.V 50 (.fa 0 (.t 49)),.V 51 (.ld none (.t 50)),.V 52 (.len (.t 51)),.V 53 (.bin .leq (.t 47) (.t 52))] [0,3,53] [0,1000]) (.cond (.t 53) (.seq (.reg false [.V 54 (.mv (.t 3)),.V 2 (.asg (.t 54))] [0,2] [0,1000]) .ret) .skip)) (.seq (.reg false [.V 55 (.mv (.t 0)),.V 56 (.nilck (.t 55)),.V 57 (.fa 2 (.t 56)),.V 58 (.ld none (.t 57)),.V 59 (.bin .shr (.t 58) (.c (.int .u64 40))),.V 60 (.bin .and (.t 59) (.c (.int .u64 255))),.V 61 (.conv (.int .i64) (.t 60)),.V 2 (.asg (.t 61))] [0,2] [0,1000]) .ret)))
def spec_l00Src_next_ir : Fn := { np := 1,io := [true],res := [.t 2],own := [false],body :=
 (.seq (.reg false [.V 2 (.asg (.c (.int .i64 0)))] [0] [0,1000]) (.seq (.reg false [.V 3 (.asg (.c (.int .i64 0)))] [0,3] [0,1000]) (.seq (.seq (.reg true [.V 4 (.mv (.t 0)),.V 5 (.nilck (.t 4)),.V 6 (.fa 1 (.t 5)),.V 7 (.ld none (.t 6)),.V 8 (.mv (.t 0)),.V 9 (.nilck (.t 8)),.V 10 (.fa 0 (.t 9)),.V 11 (.ld none (.t 10)),.V 12 (.len (.t 11)),.V 13 (.bin .lss (.t 7) (.t 12))] [0,3,13] [0,1000]) (.cond (.t 13) (.reg true [.V 14 (.mv (.t 0)),.V 15 (.nilck (.t 14)),.V 16 (.fa 0 (.t 15)),.V 17 (.ld none (.t 16)),.V 18 (.mv (.t 0)),.V 19 (.nilck (.t 18)),.V 20 (.fa 1 (.t 19)),.V 21 (.ld none (.t 20)),.V 22 (.ia 1 (.t 17) (.t 21)),.V 23 (.ld none (.t 22)),.V 24 (.conv (.int .i64) (.t 23)),.V 3 (.asg (.t 24))] [0,3] [0,1000]) .skip)) (.norm [0,3] [0,1000] spec_l00Src_next_k0)))) }
noncomputable def spec_l00Src_next_D : List (Nat × Callee) := []
def spec_l00Src_next_H : List (Nat × ET) := [(11,(.one (.int .u8))),(17,(.one (.int .u8))),(51,(.one (.int .u8)))]
noncomputable def spec_l00Src_next_c : Callee := mkCallee spec_l00Src_next_D spec_l00Src_next_H spec_l00Src_next_ir [.box T_l00Src] [.d (.one (.int .i64))] [.box T_l00Src]
noncomputable def spec_l00Src_next (a0 : T_l00Src.ty) : Option (Int × T_l00Src.ty) := spec_l00Src_next_c.f (a0,())
noncomputable def spec_l00Src_next_p0  (v3 : Int) (r0_0 : List Int) (r0_1 : Int) (r0_2 : Int) : Option (Int × T_l00Src.ty) :=
 goL spec_l00Src_next_D spec_l00Src_next_H (vleave spec_l00Src_next_ir [.box T_l00Src] [.d (.one (.int .i64))] [.box T_l00Src] []) [.c spec_l00Src_next_k0]
  ⟨[(0,.loc 0 0 0),(3,.int .i64 v3)],[(0,some (.var 3 (.agg [.sl (.one (.int .u8)) r0_0,.int .i64 r0_1,.int .u64 r0_2]))),(1000,none)]⟩
theorem spec_l00Src_next_eq (a0 : T_l00Src.ty) : spec_l00Src_next a0 =
 if decide (a0.2.1 < (a0.1.length : Int)) then
  if decide (0 ≤ a0.2.1) then
   (a0.1[a0.2.1.toNat]?).bind fun x1 =>
    spec_l00Src_next_p0 (IntKind.i64.wrap x1) a0.1 a0.2.1 a0.2.2.1
  else
   none
 else
  spec_l00Src_next_p0 0 a0.1 a0.2.1 a0.2.2.1 :=
 (mk_f _ _ _ _ _ _ _ 4000).trans (by kernel_rfl)
theorem spec_l00Src_next_p0_eq  (v3 : Int) (r0_0 : List Int) (r0_1 : Int) (r0_2 : Int) : spec_l00Src_next_p0 v3 r0_0 r0_1 r0_2 =
 if decide (IntKind.i64.wrap (r0_1 + 1) ≤ (r0_0.length : Int)) then
  some (v3,(r0_0,IntKind.i64.wrap (r0_1 + 1),IntKind.u64.wrap ((IntKind.u64.wrap ((IntKind.u64.wrap (r0_2 * 6364136223846793005)) + (IntKind.u64.wrap v3))) + 1442695040888963407),()))
 else
  some (IntKind.i64.wrap (IntKind.u64.wrap ((BitVec.ofInt IntKind.u64.bits (Int.fdiv (IntKind.u64.wrap ((IntKind.u64.wrap ((IntKind.u64.wrap (r0_2 * 6364136223846793005)) + (IntKind.u64.wrap v3))) + 1442695040888963407)) (2 ^ (min (40 : Int).toNat IntKind.u64.bits))) &&& BitVec.ofInt IntKind.u64.bits 255).toNat : Int)),(r0_0,IntKind.i64.wrap (r0_1 + 1),IntKind.u64.wrap ((IntKind.u64.wrap ((IntKind.u64.wrap (r0_2 * 6364136223846793005)) + (IntKind.u64.wrap v3))) + 1442695040888963407),())) :=
 (goL_dn _ _ _ 4000 _ _).trans (by kernel_rfl)
def spec_l00Src_pick_ir : Fn := { np := 2,io := [true,false],res := [.t 4],own := [false],body :=
 (.seq (.reg false [.V 4 (.asg (.c (.int .i64 0)))] [0,1] [0,1000]) (.seq (.seq (.reg false [.V 6 (.mv (.t 1)),.V 7 (.bin .leq (.t 6) (.c (.int .i64 1)))] [0,1,7] [0,1000]) (.cond (.t 7) (.seq (.reg false [.V 4 (.asg (.c (.int .i64 0)))] [0,4] [0,1000]) .ret) .skip)) (.seq (.reg false [.V 8 (.mv (.t 0)),.W 9 (.call (.c (.fn 847 [])) [.t 8]),.V 5 (.asg (.t 9))] [0,1,5] [0,1000]) (.seq (.seq (.reg false [.V 10 (.mv (.t 1)),.V 11 (.bin .gtr (.t 10) (.c (.int .i64 200)))] [0,1,5,11] [0,1000]) (.cond (.t 11) (.reg false [.V 12 (.mv (.t 5)),.V 13 (.bin .mul (.t 12) (.c (.int .i64 256))),.V 14 (.mv (.t 0)),.W 15 (.call (.c (.fn 847 [])) [.t 14]),.V 16 (.bin .add (.t 13) (.t 15)),.V 5 (.asg (.t 16))] [0,1,5] [0,1000]) .skip)) (.seq (.reg false [.V 17 (.mv (.t 5)),.V 18 (.mv (.t 1)),.V 19 (.bin .rem (.t 17) (.t 18)),.V 4 (.asg (.t 19))] [0,4] [0,1000]) .ret))))) }
noncomputable def spec_l00Src_pick_D : List (Nat × Callee) := [(847,spec_l00Src_next_c)]
def spec_l00Src_pick_H : List (Nat × ET) := []
noncomputable def spec_l00Src_pick_c : Callee := mkCallee spec_l00Src_pick_D spec_l00Src_pick_H spec_l00Src_pick_ir [.box T_l00Src,.d (.one (.int .i64))] [.d (.one (.int .i64))] [.box T_l00Src]
noncomputable def spec_l00Src_pick (a0 : T_l00Src.ty) (a1 : Int) : Option (Int × T_l00Src.ty) := spec_l00Src_pick_c.f (a0,a1,())
theorem spec_l00Src_pick_eq (a0 : T_l00Src.ty) (a1 : Int) : spec_l00Src_pick a0 a1 =
 if decide (a1 ≤ 1) then
  some (0,a0)
 else
  (spec_l00Src_next a0).bind fun x1 =>
   if decide (a1 > 200) then
    (spec_l00Src_next (x1.2.1,x1.2.2.1,x1.2.2.2.1,())).bind fun x2 =>
     if decide (a1 = 0) then
      none
     else
      some ((IntKind.i64.wrap ((IntKind.i64.wrap (x1.1 * 256)) + x2.1)).tmod a1,(x2.2.1,x2.2.2.1,x2.2.2.2.1,()))
   else
    if decide (a1 = 0) then
     none
    else
     some (x1.1.tmod a1,(x1.2.1,x1.2.2.1,x1.2.2.2.1,())) :=
 (mk_f _ _ _ _ _ _ _ 4000).trans (by kernel_rfl)
def spec_l00Src_one_ir : Fn := { np := 2,io := [true,false],res := [.t 4],own := [false],body :=
 (.seq (.reg false [.V 4 (.asg (.c (.bool false)))] [0,1] [0,1000]) (.seq (.reg false [.V 5 (.mv (.t 0)),.V 6 (.mv (.t 1)),.W 7 (.call (.c (.fn 463 [])) [.t 5,.t 6]),.V 8 (.bin .eql (.t 7) (.c (.int .i64 0))),.V 4 (.asg (.t 8))] [0,4] [0,1000]) .ret)) }
noncomputable def spec_l00Src_one_D : List (Nat × Callee) := [(463,spec_l00Src_pick_c)]
def spec_l00Src_one_H : List (Nat × ET) := []
noncomputable def spec_l00Src_one_c : Callee := mkCallee spec_l00Src_one_D spec_l00Src_one_H spec_l00Src_one_ir [.box T_l00Src,.d (.one (.int .i64))] [.d (.one .bool)] [.box T_l00Src]
noncomputable def spec_l00Src_one (a0 : T_l00Src.ty) (a1 : Int) : Option (Bool × T_l00Src.ty) := spec_l00Src_one_c.f (a0,a1,())
theorem spec_l00Src_one_eq (a0 : T_l00Src.ty) (a1 : Int) : spec_l00Src_one a0 a1 =
 (spec_l00Src_pick a0 a1).bind fun x1 =>
  some ((x1.1 == 0),(x1.2.1,x1.2.2.1,x1.2.2.2.1,())) :=
 (mk_f _ _ _ _ _ _ _ 4000).trans (by kernel_rfl)
def spec_l27DrawState_k0 : C :=
 .seq (.seq (.reg false [.V 8 (.mv (.t 5)),.V 9 (.bin .lss (.t 8) (.c (.int .i64 5)))] [0,3,4,5,9] [0,3,4,1000]) (.cond (.t 9) .skip (.exit 0))) (.seq (.block 1 (.seq (.reg false [.V 12 (.mv (.t 0)),.W 13 (.call (.c (.fn 642 [])) [.t 12,.c (.int .i64 2)])] [0,3,4,5,13] [0,3,4,1000]) (.cond (.t 13) (.reg true [.V 14 (.mv (.t 4)),⟨some 15,false,.mv (.t 3),none,false,[1000000]⟩,⟨some 16,false,.mv (.t 5),none,false,[1000000]⟩,⟨some 17,false,.ia 1 (.t 15) (.t 16),none,false,[1000000]⟩,⟨some 18,false,.ld none (.t 17),none,true,[]⟩,.V 19 (.mv (.t 0)),⟨some 20,true,.call (.c (.fn 463 [])) [.t 19,.c (.int .i64 1001)],none,false,[3,4,5,15,16,17]⟩,.V 21 (.build [.str [],.int .i64 0] [(0,1,.t 18),(1,1,.t 20)]),.V 22 (.bsl 2 (.agg [.str [],.int .i64 0]) 1 [(0,.t 21)]),.W 23 (.app 2 24 (.t 14) (.t 22)),.W 4 (.asg (.t 23))] [0,3,4,5] [0,3,4,1000]) .skip))) (.reg false [.V 10 (.mv (.t 5)),.V 11 (.bin .add (.t 10) (.c (.int .i64 1))),.V 5 (.asg (.t 11))] [0,3,4,5] [0,3,4,1000]))
def spec_l27DrawState_k1 : C :=
 .norm [0,3,4,5] [0,3,4,1000] spec_l27DrawState_k0
def spec_l27DrawState_k2 : C :=
 .seq (.reg false [.V 24 (.mv (.t 4)),.W 2 (.asg (.t 24))] [0,2] [0,2,4,1000]) .ret
def spec_l27DrawState_ir : Fn := { np := 1,io := [true],res := [.t 2],own := [true],body :=
 (.seq (.reg false [.W 2 (.asg (.c (.nils 2)))] [0] [0,1000]) (.seq (.reg false [.V 6 (.bsl 1 (.str []) 5 [(0,.c (.str [97])),(1,.c (.str [98])),(2,.c (.str [99])),(3,.c (.str [100])),(4,.c (.str [101]))]),.W 3 (.asg (.t 6))] [0,3] [0,3,1000]) (.seq (.reg false [.V 7 (.bsl 2 (.agg [.str [],.int .i64 0]) 0 []),.W 4 (.asg (.t 7))] [0,3,4] [0,3,4,1000]) (.seq (.seq (.reg false [.V 5 (.asg (.c (.int .i64 0)))] [0,3,4,5] [0,3,4,1000]) (.block 0 (.loop spec_l27DrawState_k1))) spec_l27DrawState_k2)))) }
noncomputable def spec_l27DrawState_D : List (Nat × Callee) := [(463,spec_l00Src_pick_c),(642,spec_l00Src_one_c)]
def spec_l27DrawState_H : List (Nat × ET) := [(2,T_Setting),(3,(.one .str)),(4,T_Setting),(6,(.one .str)),(7,T_Setting),(14,T_Setting),(15,(.one .str)),(22,T_Setting),(23,T_Setting),(24,T_Setting)]
noncomputable def spec_l27DrawState_c : Callee := mkCallee spec_l27DrawState_D spec_l27DrawState_H spec_l27DrawState_ir [.box T_l00Src] [.tok T_Setting] [.box T_l00Src]
noncomputable def spec_l27DrawState (a0 : T_l00Src.ty) : Option (List T_Setting.ty × T_l00Src.ty) := spec_l27DrawState_c.f (a0,())
noncomputable def spec_l27DrawState_p0  (v5 : Int) (r0_0 : List Int) (r0_1 : Int) (r0_2 : Int) (r3 : List (List UInt8)) (r4 : List T_Setting.ty) : Option (List T_Setting.ty × T_l00Src.ty) :=
 goL spec_l27DrawState_D spec_l27DrawState_H (vleave spec_l27DrawState_ir [.box T_l00Src] [.tok T_Setting] [.box T_l00Src] []) [.c spec_l27DrawState_k0,.l spec_l27DrawState_k1,.e 0,.c spec_l27DrawState_k2]
  ⟨[(0,.loc 0 0 0),(3,.view 3 0 r3.length),(4,.view 4 0 r4.length),(5,.int .i64 v5)],[(0,some (.var 3 (.agg [.sl (.one (.int .u8)) r0_0,.int .i64 r0_1,.int .u64 r0_2]))),(3,some (.sl (.one .str) r3)),(4,some (.sl T_Setting r4)),(1000,none)]⟩
theorem spec_l27DrawState_eq (a0 : T_l00Src.ty) : spec_l27DrawState a0 =
 spec_l27DrawState_p0 0 a0.1 a0.2.1 a0.2.2.1 [[97],[98],[99],[100],[101]] [] :=
 (mk_f _ _ _ _ _ _ _ 4000).trans (by kernel_rfl)
theorem spec_l27DrawState_p0_eq  (v5 : Int) (r0_0 : List Int) (r0_1 : Int) (r0_2 : Int) (r3 : List (List UInt8)) (r4 : List T_Setting.ty) : spec_l27DrawState_p0 v5 r0_0 r0_1 r0_2 r3 r4 =
 if decide (v5 < 5) then
  (spec_l00Src_one (r0_0,r0_1,r0_2,()) 2).bind fun x1 =>
   if x1.1 then
    if decide (0 ≤ v5) && decide (v5 < (r3.length : Int)) then
     (r3[v5.toNat]?).bind fun x2 =>
      (spec_l00Src_pick (x1.2.1,x1.2.2.1,x1.2.2.2.1,()) 1001).bind fun x3 =>
       if decide (r4.length + 1 < lim) then
        spec_l27DrawState_p0 (IntKind.i64.wrap (v5 + 1)) x3.2.1 x3.2.2.1 x3.2.2.2.1 r3 ((r4.take r4.length) ++ [(x2,x3.1,())])
       else
        none
    else
     none
   else
    spec_l27DrawState_p0 (IntKind.i64.wrap (v5 + 1)) x1.2.1 x1.2.2.1 x1.2.2.2.1 r3 r4
 else
  some ((r4.take r4.length),(r0_0,r0_1,r0_2,())) :=
 (goL_dn _ _ _ 4000 _ _).trans (by kernel_rfl)
def spec_R8State_ir : Fn := { np := 1,io := [],res := [.t 2],own := [true],body :=
 (.seq (.reg false [.W 2 (.asg (.c (.nils 2)))] [0] []) (.seq (.reg false [.V 4 (.mv (.t 0)),.W 5 (.call (.c (.fn 441 [])) [.t 4]),.V 3 (.asg (.t 5))] [3] [5,6000]) (.seq (.reg false [.V 6 (.mv (.t 3)),.W 7 (.call (.c (.fn 686 [])) [.t 6]),.W 2 (.asg (.t 7))] [2] [2]) .ret))) }
noncomputable def spec_R8State_D : List (Nat × Callee) := [(441,spec_l00From_c),(686,spec_l27DrawState_c)]
def spec_R8State_H : List (Nat × ET) := [(2,T_Setting),(4,(.one (.int .u8))),(7,T_Setting)]
noncomputable def spec_R8State_c : Callee := mkCallee spec_R8State_D spec_R8State_H spec_R8State_ir [.d (.one (.sl (.one (.int .u8))))] [.tok T_Setting] []
noncomputable def spec_R8State (a0 : List Int) : Option (List T_Setting.ty) := spec_R8State_c.f (a0,())
theorem spec_R8State_eq (a0 : List Int) : spec_R8State a0 =
 (spec_l00From a0).bind fun x1 =>
  (spec_l27DrawState x1).bind fun x2 =>
   some (x2.1.take x2.1.length) :=
 (mk_f _ _ _ _ _ _ _ 4000).trans (by kernel_rfl)
def spec_l27At_k0 : C :=
 .seq (.seq (.reg false [.V 6 (.mv (.t 5)),.V 7 (.mv (.t 0)),.V 8 (.len (.t 7)),.V 9 (.bin .lss (.t 6) (.t 8))] [0,1,5,9] []) (.cond (.t 9) .skip (.exit 0))) (.seq (.block 1 (.seq (.reg false [.V 12 (.mv (.t 0)),.V 13 (.mv (.t 5)),.V 14 (.ia 2 (.t 12) (.t 13)),.V 15 (.fa 0 (.t 14)),.V 16 (.ld none (.t 15)),.V 17 (.mv (.t 1)),.V 18 (.bin .eql (.t 16) (.t 17))] [0,1,5,18] []) (.cond (.t 18) (.seq (.reg false [.V 19 (.mv (.t 5)),.V 4 (.asg (.t 19))] [4] []) .ret) .skip))) (.reg false [.V 10 (.mv (.t 5)),.V 11 (.bin .add (.t 10) (.c (.int .i64 1))),.V 5 (.asg (.t 11))] [0,1,5] []))
def spec_l27At_k1 : C :=
 .norm [0,1,5] [] spec_l27At_k0
def spec_l27At_k2 : C :=
 .seq (.reg false [.V 4 (.asg (.c (.int .i64 (-1))))] [4] []) .ret
def spec_l27At_ir : Fn := { np := 2,io := [],res := [.t 4],own := [false],body :=
 (.seq (.reg false [.V 4 (.asg (.c (.int .i64 0)))] [0,1] []) (.seq (.seq (.reg false [.V 5 (.asg (.c (.int .i64 0)))] [0,1,5] []) (.block 0 (.loop spec_l27At_k1))) spec_l27At_k2)) }
noncomputable def spec_l27At_D : List (Nat × Callee) := []
def spec_l27At_H : List (Nat × ET) := [(7,T_Setting),(12,T_Setting)]
noncomputable def spec_l27At_c : Callee := mkCallee spec_l27At_D spec_l27At_H spec_l27At_ir [.d (.one (.sl T_Setting)),.d (.one .str)] [.d (.one (.int .i64))] []
noncomputable def spec_l27At (a0 : List T_Setting.ty) (a1 : List UInt8) : Option (Int) := spec_l27At_c.f (a0,a1,())
noncomputable def spec_l27At_p0  (v0 : List T_Setting.ty) (v1 : List UInt8) (v5 : Int) : Option (Int) :=
 goL spec_l27At_D spec_l27At_H (vleave spec_l27At_ir [.d (.one (.sl T_Setting)),.d (.one .str)] [.d (.one (.int .i64))] [] []) [.c spec_l27At_k0,.l spec_l27At_k1,.e 0,.c spec_l27At_k2]
  ⟨[(0,.sl T_Setting v0),(1,.str v1),(5,.int .i64 v5)],[]⟩
theorem spec_l27At_eq (a0 : List T_Setting.ty) (a1 : List UInt8) : spec_l27At a0 a1 =
 spec_l27At_p0 a0 a1 0 :=
 (mk_f _ _ _ _ _ _ _ 4000).trans (by kernel_rfl)
theorem spec_l27At_p0_eq  (v0 : List T_Setting.ty) (v1 : List UInt8) (v5 : Int) : spec_l27At_p0 v0 v1 v5 =
 if decide (v5 < (v0.length : Int)) then
  if decide (0 ≤ v5) then
   (v0[v5.toNat]?).bind fun x1 =>
    if (x1.1 == v1) then
     some v5
    else
     spec_l27At_p0 v0 v1 (IntKind.i64.wrap (v5 + 1))
  else
   none
 else
  some (-1) :=
 (goL_dn _ _ _ 4000 _ _).trans (by kernel_rfl)
def spec_l27Set_k0 : C :=
 .seq (.reg true [.V 31 (.mv (.t 0)),.V 32 (.mv (.t 7)),.V 33 (.ia 2 (.t 31) (.t 32)),.V 34 (.fa 0 (.t 33)),.V 35 (.ld none (.t 34)),.V 36 (.fa 0 (.t 3)),.V 37 (.ld none (.t 36)),.V 38 (.bin .neq (.t 35) (.t 37))] [0,3,5,6,7,38] [3,5]) (.cond (.t 38) (.reg false [.V 39 (.mv (.t 5)),.V 40 (.mv (.t 0)),.V 41 (.mv (.t 7)),.V 42 (.ia 2 (.t 40) (.t 41)),.V 43 (.ld (some 2) (.t 42)),.V 44 (.bsl 2 (.agg [.str [],.int .i64 0]) 1 [(0,.t 43)]),.W 45 (.app 2 24 (.t 39) (.t 44)),.W 5 (.asg (.t 45))] [0,3,5,6,7] [3,5]) .skip)
def spec_l27Set_k1 : C :=
 .reg false [.V 13 (.mv (.t 7)),.V 14 (.bin .add (.t 13) (.c (.int .i64 1))),.V 7 (.asg (.t 14))] [0,3,5,6,7] [3,5]
def spec_l27Set_k2 : C :=
 .seq (.seq (.reg false [.V 9 (.mv (.t 7)),.V 10 (.mv (.t 0)),.V 11 (.len (.t 10)),.V 12 (.bin .lss (.t 9) (.t 11))] [0,3,5,6,7,12] [3,5]) (.cond (.t 12) .skip (.exit 0))) (.seq (.block 1 (.seq (.seq (.reg true [.V 15 (.mv (.t 6)),.V 16 (.un .not (.t 15)),.V 17 (.mv (.t 16)),.G 18 (.mv (.t 0)) 2 true,.G 19 (.mv (.t 7)) 2 true,.G 20 (.ia 2 (.t 18) (.t 19)) 2 true,.G 21 (.fa 0 (.t 20)) 2 true,.G 22 (.ld none (.t 21)) 2 true,.G 23 (.fa 0 (.t 3)) 2 true,.G 24 (.ld none (.t 23)) 2 true,.G 25 (.bin .geq (.t 22) (.t 24)) 2 true,.V 26 (.pick (.t 17) (.t 25) (.c (.bool false)))] [0,3,5,6,7,26] [3,5]) (.cond (.t 26) (.seq (.reg false [.V 27 (.mv (.t 5)),.V 28 (.ld (some 2) (.t 3)),.V 29 (.bsl 2 (.agg [.str [],.int .i64 0]) 1 [(0,.t 28)]),.W 30 (.app 2 24 (.t 27) (.t 29)),.W 5 (.asg (.t 30))] [0,3,5,7] [3,5]) (.reg false [.V 6 (.asg (.c (.bool true)))] [0,3,5,6,7] [3,5])) .skip)) (.norm [0,3,5,6,7] [3,5] spec_l27Set_k0))) spec_l27Set_k1)
def spec_l27Set_k3 : C :=
 .norm [0,3,5,6,7] [3,5] spec_l27Set_k2
def spec_l27Set_k4 : C :=
 .seq (.seq (.reg false [.V 46 (.mv (.t 6)),.V 47 (.un .not (.t 46))] [3,5,47] [3,5]) (.cond (.t 47) (.reg false [.V 48 (.mv (.t 5)),.V 49 (.ld (some 2) (.t 3)),.V 50 (.bsl 2 (.agg [.str [],.int .i64 0]) 1 [(0,.t 49)]),.W 51 (.app 2 24 (.t 48) (.t 50)),.W 5 (.asg (.t 51))] [5] [5]) .skip)) (.seq (.reg false [.V 52 (.mv (.t 5)),.W 4 (.asg (.t 52))] [4] [4,5]) .ret)
def spec_l27Set_ir : Fn := { np := 2,io := [],res := [.t 4],own := [true],body :=
 (.seq (.reg false [.W 3 (.box 2 (.t 1)),.W 4 (.asg (.c (.nils 2)))] [0,3] [3]) (.seq (.reg false [.V 8 (.bsl 2 (.agg [.str [],.int .i64 0]) 0 []),.W 5 (.asg (.t 8))] [0,3,5] [3,5]) (.seq (.reg false [.V 6 (.asg (.c (.bool false)))] [0,3,5,6] [3,5]) (.seq (.seq (.reg false [.V 7 (.asg (.c (.int .i64 0)))] [0,3,5,6,7] [3,5]) (.block 0 (.loop spec_l27Set_k3))) spec_l27Set_k4)))) }
noncomputable def spec_l27Set_D : List (Nat × Callee) := []
def spec_l27Set_H : List (Nat × ET) := [(4,T_Setting),(5,T_Setting),(8,T_Setting),(10,T_Setting),(18,T_Setting),(27,T_Setting),(29,T_Setting),(30,T_Setting),(31,T_Setting),(39,T_Setting),(40,T_Setting),(44,T_Setting),(45,T_Setting),(48,T_Setting),(50,T_Setting),(51,T_Setting),(52,T_Setting)]
noncomputable def spec_l27Set_c : Callee := mkCallee spec_l27Set_D spec_l27Set_H spec_l27Set_ir [.d (.one (.sl T_Setting)),.d T_Setting] [.tok T_Setting] []
noncomputable def spec_l27Set (a0 : List T_Setting.ty) (a1 : T_Setting.ty) : Option (List T_Setting.ty) := spec_l27Set_c.f (a0,a1,())
noncomputable def spec_l27Set_p0  (v0 : List T_Setting.ty) (v6 : Bool) (v7 : Int) (r3_0 : List UInt8) (r3_1 : Int) (r5 : List T_Setting.ty) : Option (List T_Setting.ty) :=
 goL spec_l27Set_D spec_l27Set_H (vleave spec_l27Set_ir [.d (.one (.sl T_Setting)),.d T_Setting] [.tok T_Setting] [] []) [.c spec_l27Set_k2,.l spec_l27Set_k3,.e 0,.c spec_l27Set_k4]
  ⟨[(0,.sl T_Setting v0),(3,.loc 3 0 0),(5,.view 5 0 r5.length),(6,.bool v6),(7,.int .i64 v7)],[(3,some (.var 2 (.agg [.str r3_0,.int .i64 r3_1]))),(5,some (.sl T_Setting r5))]⟩
noncomputable def spec_l27Set_p1  (v0 : List T_Setting.ty) (v6 : Bool) (v7 : Int) (r3_0 : List UInt8) (r3_1 : Int) (r5 : List T_Setting.ty) : Option (List T_Setting.ty) :=
 goL spec_l27Set_D spec_l27Set_H (vleave spec_l27Set_ir [.d (.one (.sl T_Setting)),.d T_Setting] [.tok T_Setting] [] []) [.c spec_l27Set_k0,.e 1,.c spec_l27Set_k1,.l spec_l27Set_k3,.e 0,.c spec_l27Set_k4]
  ⟨[(0,.sl T_Setting v0),(3,.loc 3 0 0),(5,.view 5 0 r5.length),(6,.bool v6),(7,.int .i64 v7)],[(3,some (.var 2 (.agg [.str r3_0,.int .i64 r3_1]))),(5,some (.sl T_Setting r5))]⟩
theorem spec_l27Set_eq (a0 : List T_Setting.ty) (a1 : T_Setting.ty) : spec_l27Set a0 a1 =
 spec_l27Set_p0 a0 false 0 a1.1 a1.2.1 [] :=
 (mk_f _ _ _ _ _ _ _ 4000).trans (by kernel_rfl)
theorem spec_l27Set_p0_eq  (v0 : List T_Setting.ty) (v6 : Bool) (v7 : Int) (r3_0 : List UInt8) (r3_1 : Int) (r5 : List T_Setting.ty) : spec_l27Set_p0 v0 v6 v7 r3_0 r3_1 r5 =
 if decide (v7 < (v0.length : Int)) then
  if (!v6) then
   if decide (0 ≤ v7) then
    (v0[v7.toNat]?).bind fun x1 =>
     if (!Op.bytesLess x1.1 r3_0) then
      if decide (r5.length + 1 < lim) then
       spec_l27Set_p1 v0 true v7 r3_0 r3_1 ((r5.take r5.length) ++ [(r3_0,r3_1,())])
      else
       none
     else
      spec_l27Set_p1 v0 v6 v7 r3_0 r3_1 r5
   else
    none
  else
   spec_l27Set_p1 v0 v6 v7 r3_0 r3_1 r5
 else
  if (!v6) then
   if decide (r5.length + 1 < lim) then
    some (((r5.take r5.length) ++ [(r3_0,r3_1,())]).take (((r5.take r5.length) ++ [(r3_0,r3_1,())]).length))
   else
    none
  else
   some (r5.take r5.length) :=
 (goL_dn _ _ _ 4000 _ _).trans (by kernel_rfl)
theorem spec_l27Set_p1_eq  (v0 : List T_Setting.ty) (v6 : Bool) (v7 : Int) (r3_0 : List UInt8) (r3_1 : Int) (r5 : List T_Setting.ty) : spec_l27Set_p1 v0 v6 v7 r3_0 r3_1 r5 =
 if decide (0 ≤ v7) then
  (v0[v7.toNat]?).bind fun x1 =>
   if (!(x1.1 == r3_0)) then
    if decide (0 ≤ v7) then
     (v0[v7.toNat]?).bind fun x2 =>
      if decide (r5.length + 1 < lim) then
       spec_l27Set_p0 v0 v6 (IntKind.i64.wrap (v7 + 1)) r3_0 r3_1 ((r5.take r5.length) ++ [x2])
      else
       none
    else
     none
   else
    spec_l27Set_p0 v0 v6 (IntKind.i64.wrap (v7 + 1)) r3_0 r3_1 r5
 else
  none :=
 (goL_dn _ _ _ 4000 _ _).trans (by kernel_rfl)
def spec_l27Changed_k0 : C :=
 .seq (.reg false [.V 35 (.bsl 2 (.agg [.str [],.int .i64 0]) 0 []),.V 36 (.mv (.t 5)),.V 37 (.mv (.t 9)),.V 38 (.slc 2 (.t 36) none (some (.t 37))),.W 39 (.app 2 24 (.t 35) (.t 38)),.W 10 (.asg (.t 39))] [0,5,6,7,9,10] [0,5,6,10,1000]) (.reg false [.V 40 (.mv (.t 10)),.V 41 (.mv (.t 5)),.V 42 (.mv (.t 9)),.V 43 (.bin .add (.t 42) (.c (.int .i64 1))),.V 44 (.slc 2 (.t 41) (some (.t 43)) none),.W 45 (.app 2 24 (.t 40) (.t 44)),.W 5 (.asg (.t 45))] [0,5,6,7] [0,5,6,1000])
def spec_l27Changed_k1 : C :=
 .reg false [.V 46 (.mv (.t 5)),.V 47 (.mv (.t 8)),.V 48 (.mv (.t 0)),.W 49 (.call (.c (.fn 463 [])) [.t 48,.c (.int .i64 1001)]),.V 50 (.build [.str [],.int .i64 0] [(0,1,.t 47),(1,1,.t 49)]),.V 51 (.call (.c (.fn 925 [])) [.t 46,.t 50]),.W 5 (.asg (.t 51))] [0,5,6,7] [0,5,6,1000]
def spec_l27Changed_k2 : C :=
 .reg false [.V 19 (.mv (.t 7)),.V 20 (.bin .sub (.t 19) (.c (.int .i64 1))),.V 7 (.asg (.t 20))] [0,5,6,7] [0,5,6,1000]
def spec_l27Changed_k3 : C :=
 .seq (.seq (.reg false [.V 17 (.mv (.t 7)),.V 18 (.bin .gtr (.t 17) (.c (.int .i64 0)))] [0,5,6,7,18] [0,5,6,1000]) (.cond (.t 18) .skip (.exit 0))) (.seq (.block 1 (.seq (.reg false [.V 21 (.mv (.t 6)),.V 22 (.mv (.t 0)),.W 23 (.call (.c (.fn 463 [])) [.t 22,.c (.int .i64 6)]),.V 24 (.ia 1 (.t 21) (.t 23)),.V 25 (.ld none (.t 24)),.V 8 (.asg (.t 25))] [0,5,6,7,8] [0,5,6,1000]) (.seq (.reg false [.V 26 (.mv (.t 5)),.V 27 (.mv (.t 8)),.V 28 (.call (.c (.fn 926 [])) [.t 26,.t 27]),.V 9 (.asg (.t 28))] [0,5,6,7,8,9] [0,5,6,1000]) (.seq (.reg false [.V 29 (.mv (.t 9)),.V 30 (.bin .geq (.t 29) (.c (.int .i64 0))),.V 31 (.mv (.t 30)),.G 32 (.mv (.t 0)) 2 true,⟨some 33,true,.call (.c (.fn 642 [])) [.t 32,.c (.int .i64 2)],some (2,true),false,[]⟩,.V 34 (.pick (.t 31) (.t 33) (.c (.bool false)))] [0,5,6,7,8,9,34] [0,5,6,1000]) (.cond (.t 34) (.norm [0,5,6,7,9] [0,5,6,1000] spec_l27Changed_k0) (.norm [0,5,6,7,8] [0,5,6,1000] spec_l27Changed_k1)))))) spec_l27Changed_k2)
def spec_l27Changed_k4 : C :=
 .norm [0,5,6,7] [0,5,6,1000] spec_l27Changed_k3
def spec_l27Changed_k5 : C :=
 .seq (.reg false [.V 52 (.mv (.t 5)),.W 4 (.asg (.t 52))] [0,4] [0,4,5,1000]) .ret
def spec_l27Changed_ir : Fn := { np := 2,io := [true,false],res := [.t 4],own := [true],body :=
 (.seq (.reg false [.W 4 (.asg (.c (.nils 2)))] [0,1] [0,1000]) (.seq (.reg false [.V 11 (.bsl 2 (.agg [.str [],.int .i64 0]) 0 []),.V 12 (.mv (.t 1)),.W 13 (.app 2 24 (.t 11) (.t 12)),.W 5 (.asg (.t 13))] [0,5] [0,5,1000]) (.seq (.reg false [.V 14 (.bsl 1 (.str []) 6 [(0,.c (.str [97])),(1,.c (.str [98])),(2,.c (.str [99])),(3,.c (.str [100])),(4,.c (.str [101])),(5,.c (.str [102]))]),.W 6 (.asg (.t 14))] [0,5,6] [0,5,6,1000]) (.seq (.seq (.reg false [.V 15 (.mv (.t 0)),.W 16 (.call (.c (.fn 463 [])) [.t 15,.c (.int .i64 4)]),.V 7 (.asg (.t 16))] [0,5,6,7] [0,5,6,1000]) (.block 0 (.loop spec_l27Changed_k4))) spec_l27Changed_k5)))) }
noncomputable def spec_l27Changed_D : List (Nat × Callee) := [(463,spec_l00Src_pick_c),(642,spec_l00Src_one_c),(925,spec_l27Set_c),(926,spec_l27At_c)]
def spec_l27Changed_H : List (Nat × ET) := [(4,T_Setting),(5,T_Setting),(6,(.one .str)),(10,T_Setting),(11,T_Setting),(12,T_Setting),(13,T_Setting),(14,(.one .str)),(21,(.one .str)),(26,T_Setting),(35,T_Setting),(36,T_Setting),(38,T_Setting),(39,T_Setting),(40,T_Setting),(41,T_Setting),(44,T_Setting),(45,T_Setting),(46,T_Setting),(51,T_Setting),(52,T_Setting)]
noncomputable def spec_l27Changed_c : Callee := mkCallee spec_l27Changed_D spec_l27Changed_H spec_l27Changed_ir [.box T_l00Src,.d (.one (.sl T_Setting))] [.tok T_Setting] [.box T_l00Src]
noncomputable def spec_l27Changed (a0 : T_l00Src.ty) (a1 : List T_Setting.ty) : Option (List T_Setting.ty × T_l00Src.ty) := spec_l27Changed_c.f (a0,a1,())
noncomputable def spec_l27Changed_p0  (v7 : Int) (r0_0 : List Int) (r0_1 : Int) (r0_2 : Int) (r5 : List T_Setting.ty) (r6 : List (List UInt8)) : Option (List T_Setting.ty × T_l00Src.ty) :=
 goL spec_l27Changed_D spec_l27Changed_H (vleave spec_l27Changed_ir [.box T_l00Src,.d (.one (.sl T_Setting))] [.tok T_Setting] [.box T_l00Src] []) [.c spec_l27Changed_k3,.l spec_l27Changed_k4,.e 0,.c spec_l27Changed_k5]
  ⟨[(0,.loc 0 0 0),(5,.view 5 0 r5.length),(6,.view 6 0 r6.length),(7,.int .i64 v7)],[(0,some (.var 3 (.agg [.sl (.one (.int .u8)) r0_0,.int .i64 r0_1,.int .u64 r0_2]))),(5,some (.sl T_Setting r5)),(6,some (.sl (.one .str) r6)),(1000,none)]⟩
noncomputable def spec_l27Changed_p1  (v7 : Int) (v9 : Int) (r0_0 : List Int) (r0_1 : Int) (r0_2 : Int) (r5 : List T_Setting.ty) (r6 : List (List UInt8)) : Option (List T_Setting.ty × T_l00Src.ty) :=
 goL spec_l27Changed_D spec_l27Changed_H (vleave spec_l27Changed_ir [.box T_l00Src,.d (.one (.sl T_Setting))] [.tok T_Setting] [.box T_l00Src] []) [.c spec_l27Changed_k0,.e 1,.c spec_l27Changed_k2,.l spec_l27Changed_k4,.e 0,.c spec_l27Changed_k5]
  ⟨[(0,.loc 0 0 0),(5,.view 5 0 r5.length),(6,.view 6 0 r6.length),(7,.int .i64 v7),(9,.int .i64 v9)],[(0,some (.var 3 (.agg [.sl (.one (.int .u8)) r0_0,.int .i64 r0_1,.int .u64 r0_2]))),(5,some (.sl T_Setting r5)),(6,some (.sl (.one .str) r6)),(1000,none)]⟩
noncomputable def spec_l27Changed_p2  (v7 : Int) (v8 : List UInt8) (r0_0 : List Int) (r0_1 : Int) (r0_2 : Int) (r5 : List T_Setting.ty) (r6 : List (List UInt8)) : Option (List T_Setting.ty × T_l00Src.ty) :=
 goL spec_l27Changed_D spec_l27Changed_H (vleave spec_l27Changed_ir [.box T_l00Src,.d (.one (.sl T_Setting))] [.tok T_Setting] [.box T_l00Src] []) [.c spec_l27Changed_k1,.e 1,.c spec_l27Changed_k2,.l spec_l27Changed_k4,.e 0,.c spec_l27Changed_k5]
  ⟨[(0,.loc 0 0 0),(5,.view 5 0 r5.length),(6,.view 6 0 r6.length),(7,.int .i64 v7),(8,.str v8)],[(0,some (.var 3 (.agg [.sl (.one (.int .u8)) r0_0,.int .i64 r0_1,.int .u64 r0_2]))),(5,some (.sl T_Setting r5)),(6,some (.sl (.one .str) r6)),(1000,none)]⟩
theorem spec_l27Changed_eq (a0 : T_l00Src.ty) (a1 : List T_Setting.ty) : spec_l27Changed a0 a1 =
 if decide (0 + a1.length < lim) then
  (spec_l00Src_pick a0 4).bind fun x1 =>
   spec_l27Changed_p0 x1.1 x1.2.1 x1.2.2.1 x1.2.2.2.1 ([] ++ a1) [[97],[98],[99],[100],[101],[102]]
 else
  none :=
 (mk_f _ _ _ _ _ _ _ 4000).trans (by kernel_rfl)
theorem spec_l27Changed_p0_eq  (v7 : Int) (r0_0 : List Int) (r0_1 : Int) (r0_2 : Int) (r5 : List T_Setting.ty) (r6 : List (List UInt8)) : spec_l27Changed_p0 v7 r0_0 r0_1 r0_2 r5 r6 =
 if decide (v7 > 0) then
  (spec_l00Src_pick (r0_0,r0_1,r0_2,()) 6).bind fun x1 =>
   if decide (0 ≤ x1.1) && decide (x1.1 < (r6.length : Int)) then
    (r6[x1.1.toNat]?).bind fun x2 =>
     (spec_l27At (r5.take r5.length) x2).bind fun x3 =>
      if decide (x3 ≥ 0) then
       (spec_l00Src_one (x1.2.1,x1.2.2.1,x1.2.2.2.1,()) 2).bind fun x4 =>
        if x4.1 then
         spec_l27Changed_p1 v7 x3 x4.2.1 x4.2.2.1 x4.2.2.2.1 r5 r6
        else
         spec_l27Changed_p2 v7 x2 x4.2.1 x4.2.2.1 x4.2.2.2.1 r5 r6
      else
       spec_l27Changed_p2 v7 x2 x1.2.1 x1.2.2.1 x1.2.2.2.1 r5 r6
   else
    none
 else
  some ((r5.take r5.length),(r0_0,r0_1,r0_2,())) :=
 (goL_dn _ _ _ 4000 _ _).trans (by kernel_rfl)
theorem spec_l27Changed_p1_eq  (v7 : Int) (v9 : Int) (r0_0 : List Int) (r0_1 : Int) (r0_2 : Int) (r5 : List T_Setting.ty) (r6 : List (List UInt8)) : spec_l27Changed_p1 v7 v9 r0_0 r0_1 r0_2 r5 r6 =
 if decide (0 ≤ v9) && decide (v9 ≤ (r5.length : Int)) then
  if decide (0 + (r5.take v9.toNat).length < lim) then
   if decide (0 ≤ IntKind.i64.wrap (v9 + 1)) && decide (IntKind.i64.wrap (v9 + 1) ≤ (r5.length : Int)) then
    if decide (([] ++ (r5.take v9.toNat)).length + ((vdrop ((IntKind.i64.wrap (v9 + 1)).toNat) r5).take (r5.length - (IntKind.i64.wrap (v9 + 1)).toNat)).length < lim) then
     spec_l27Changed_p0 (IntKind.i64.wrap (v7 - 1)) r0_0 r0_1 r0_2 ((([] ++ (r5.take v9.toNat)).take (([] ++ (r5.take v9.toNat)).length)) ++ ((vdrop ((IntKind.i64.wrap (v9 + 1)).toNat) r5).take (r5.length - (IntKind.i64.wrap (v9 + 1)).toNat))) r6
    else
     none
   else
    none
  else
   none
 else
  none :=
 (goL_dn _ _ _ 4000 _ _).trans (by kernel_rfl)
theorem spec_l27Changed_p2_eq  (v7 : Int) (v8 : List UInt8) (r0_0 : List Int) (r0_1 : Int) (r0_2 : Int) (r5 : List T_Setting.ty) (r6 : List (List UInt8)) : spec_l27Changed_p2 v7 v8 r0_0 r0_1 r0_2 r5 r6 =
 (spec_l00Src_pick (r0_0,r0_1,r0_2,()) 1001).bind fun x1 =>
  (spec_l27Set (r5.take r5.length) (v8,x1.1,())).bind fun x2 =>
   spec_l27Changed_p0 (IntKind.i64.wrap (v7 - 1)) x1.2.1 x1.2.2.1 x1.2.2.2.1 x2 r6 :=
 (goL_dn _ _ _ 4000 _ _).trans (by kernel_rfl)
def spec_R8Changed_ir : Fn := { np := 2,io := [],res := [.t 4],own := [true],body :=
 (.seq (.reg false [.W 4 (.asg (.c (.nils 2)))] [0,1] []) (.seq (.reg false [.V 6 (.mv (.t 0)),.W 7 (.call (.c (.fn 441 [])) [.t 6]),.V 5 (.asg (.t 7))] [1,5] [7,8000]) (.seq (.reg false [.V 8 (.mv (.t 5)),.V 9 (.mv (.t 1)),.W 10 (.call (.c (.fn 687 [])) [.t 8,.t 9]),.W 4 (.asg (.t 10))] [4] [4]) .ret))) }
noncomputable def spec_R8Changed_D : List (Nat × Callee) := [(441,spec_l00From_c),(687,spec_l27Changed_c)]
def spec_R8Changed_H : List (Nat × ET) := [(4,T_Setting),(6,(.one (.int .u8))),(9,T_Setting),(10,T_Setting)]
noncomputable def spec_R8Changed_c : Callee := mkCallee spec_R8Changed_D spec_R8Changed_H spec_R8Changed_ir [.d (.one (.sl (.one (.int .u8)))),.d (.one (.sl T_Setting))] [.tok T_Setting] []
noncomputable def spec_R8Changed (a0 : List Int) (a1 : List T_Setting.ty) : Option (List T_Setting.ty) := spec_R8Changed_c.f (a0,a1,())
theorem spec_R8Changed_eq (a0 : List Int) (a1 : List T_Setting.ty) : spec_R8Changed a0 a1 =
 (spec_l00From a0).bind fun x1 =>
  (spec_l27Changed x1 a1).bind fun x2 =>
   some (x2.1.take x2.1.length) :=
 (mk_f _ _ _ _ _ _ _ 4000).trans (by kernel_rfl)
def impl_isDigit_ir : Fn := { np := 1,io := [],res := [.t 2],own := [false],body :=
 (.seq (.reg false [.V 2 (.asg (.c (.bool false)))] [0] []) (.seq (.reg false [.V 3 (.mv (.t 0)),.V 4 (.bin .geq (.t 3) (.c (.int .u8 48))),.V 5 (.mv (.t 4)),.G 6 (.mv (.t 0)) 2 true,.G 7 (.bin .leq (.t 6) (.c (.int .u8 57))) 2 true,.V 8 (.pick (.t 5) (.t 7) (.c (.bool false))),.V 2 (.asg (.t 8))] [2] []) .ret)) }
noncomputable def impl_isDigit_D : List (Nat × Callee) := []
def impl_isDigit_H : List (Nat × ET) := []
noncomputable def impl_isDigit_c : Callee := mkCallee impl_isDigit_D impl_isDigit_H impl_isDigit_ir [.d (.one (.int .u8))] [.d (.one .bool)] []
noncomputable def impl_isDigit (a0 : Int) : Option (Bool) := impl_isDigit_c.f (a0,())
theorem impl_isDigit_eq (a0 : Int) : impl_isDigit a0 =
 if decide (a0 ≥ 48) then
  some (decide (a0 ≤ 57))
 else
  some false :=
 (mk_f _ _ _ _ _ _ _ 4000).trans (by kernel_rfl)
def impl_few_ir : Fn := { np := 2,io := [],res := [.t 4],own := [false],body :=
 (.seq (.reg false [.V 4 (.asg (.c (.bool false)))] [0,1] []) (.seq (.reg false [.V 5 (.mv (.t 0)),.V 6 (.mv (.t 1)),.V 7 (.bin .leq (.t 5) (.t 6)),.V 4 (.asg (.t 7))] [4] []) .ret)) }
noncomputable def impl_few_D : List (Nat × Callee) := []
def impl_few_H : List (Nat × ET) := []
noncomputable def impl_few_c : Callee := mkCallee impl_few_D impl_few_H impl_few_ir [.d (.one (.int .i64)),.d (.one (.int .i64))] [.d (.one .bool)] []
noncomputable def impl_few (a0 : Int) (a1 : Int) : Option (Bool) := impl_few_c.f (a0,a1,())
theorem impl_few_eq (a0 : Int) (a1 : Int) : impl_few a0 a1 =
 some (decide (a0 ≤ a1)) :=
 (mk_f _ _ _ _ _ _ _ 4000).trans (by kernel_rfl)
def impl_IsName_k0 : C :=
 .seq (.reg false [.V 21 (.mv (.t 4)),.V 22 (.un .not (.t 21)),.V 23 (.mv (.t 22)),.G 24 (.mv (.t 3)) 2 true,.G 25 (.bin .eql (.t 24) (.c (.int .i64 0))) 2 true,.G 26 (.mv (.t 25)) 2 true,.G 27 (.mv (.t 0)) 5 false,.G 28 (.mv (.t 3)) 5 false,.G 29 (.ix (.t 27) (.t 28)) 5 false,.G 30 (.call (.c (.fn 22 [])) [.t 29]) 5 false,.G 31 (.un .not (.t 30)) 5 false,.G 32 (.pick (.t 26) (.c (.bool true)) (.t 31)) 2 true,.V 33 (.pick (.t 23) (.t 32) (.c (.bool false)))] [0,3,33] []) (.cond (.t 33) (.seq (.reg false [.V 2 (.asg (.c (.bool false)))] [2] []) .ret) .skip)
def impl_IsName_k1 : C :=
 .reg false [.V 9 (.mv (.t 3)),.V 10 (.bin .add (.t 9) (.c (.int .i64 1))),.V 3 (.asg (.t 10))] [0,3] []
def impl_IsName_k2 : C :=
 .seq (.seq (.reg false [.V 5 (.mv (.t 3)),.V 6 (.mv (.t 0)),.V 7 (.lens (.t 6)),.V 8 (.bin .lss (.t 5) (.t 7))] [0,3,8] []) (.cond (.t 8) .skip (.exit 0))) (.seq (.block 1 (.seq (.reg false [.V 11 (.mv (.t 0)),.V 12 (.mv (.t 3)),.V 13 (.ix (.t 11) (.t 12)),.V 14 (.bin .geq (.t 13) (.c (.int .u8 97))),.V 15 (.mv (.t 14)),.G 16 (.mv (.t 0)) 4 true,.G 17 (.mv (.t 3)) 4 true,.G 18 (.ix (.t 16) (.t 17)) 4 true,.G 19 (.bin .leq (.t 18) (.c (.int .u8 122))) 4 true,.V 20 (.pick (.t 15) (.t 19) (.c (.bool false))),.V 4 (.asg (.t 20))] [0,3,4] []) (.norm [0,3,4] [] impl_IsName_k0))) impl_IsName_k1)
def impl_IsName_k3 : C :=
 .norm [0,3] [] impl_IsName_k2
def impl_IsName_k4 : C :=
 .seq (.reg false [.V 34 (.mv (.t 0)),.V 35 (.bin .neq (.t 34) (.c (.str []))),.V 36 (.mv (.t 35)),.G 37 (.mv (.t 0)) 2 true,.G 38 (.lens (.t 37)) 2 true,.G 39 (.call (.c (.fn 21 [])) [.t 38,.c (.int .i64 10)]) 2 true,.V 40 (.pick (.t 36) (.t 39) (.c (.bool false))),.V 2 (.asg (.t 40))] [2] []) .ret
def impl_IsName_ir : Fn := { np := 1,io := [],res := [.t 2],own := [false],body :=
 (.seq (.reg false [.V 2 (.asg (.c (.bool false)))] [0] []) (.seq (.seq (.reg false [.V 3 (.asg (.c (.int .i64 0)))] [0,3] []) (.block 0 (.loop impl_IsName_k3))) impl_IsName_k4)) }
noncomputable def impl_IsName_D : List (Nat × Callee) := [(21,impl_few_c),(22,impl_isDigit_c)]
def impl_IsName_H : List (Nat × ET) := []
noncomputable def impl_IsName_c : Callee := mkCallee impl_IsName_D impl_IsName_H impl_IsName_ir [.d (.one .str)] [.d (.one .bool)] []
noncomputable def impl_IsName (a0 : List UInt8) : Option (Bool) := impl_IsName_c.f (a0,())
noncomputable def impl_IsName_p0  (v0 : List UInt8) (v3 : Int) : Option (Bool) :=
 goL impl_IsName_D impl_IsName_H (vleave impl_IsName_ir [.d (.one .str)] [.d (.one .bool)] [] []) [.c impl_IsName_k2,.l impl_IsName_k3,.e 0,.c impl_IsName_k4]
  ⟨[(0,.str v0),(3,.int .i64 v3)],[]⟩
noncomputable def impl_IsName_p1  (v0 : List UInt8) (v3 : Int) (v4 : Bool) : Option (Bool) :=
 goL impl_IsName_D impl_IsName_H (vleave impl_IsName_ir [.d (.one .str)] [.d (.one .bool)] [] []) [.c impl_IsName_k0,.e 1,.c impl_IsName_k1,.l impl_IsName_k3,.e 0,.c impl_IsName_k4]
  ⟨[(0,.str v0),(3,.int .i64 v3),(4,.bool v4)],[]⟩
theorem impl_IsName_eq (a0 : List UInt8) : impl_IsName a0 =
 impl_IsName_p0 a0 0 :=
 (mk_f _ _ _ _ _ _ _ 4000).trans (by kernel_rfl)
theorem impl_IsName_p0_eq  (v0 : List UInt8) (v3 : Int) : impl_IsName_p0 v0 v3 =
 if decide (v3 < (v0.length : Int)) then
  if decide (0 ≤ v3) then
   (v0[v3.toNat]?).bind fun x1 =>
    if decide ((x1.toNat : Int) ≥ 97) then
     if decide (0 ≤ v3) then
      (v0[v3.toNat]?).bind fun x2 =>
       impl_IsName_p1 v0 v3 (decide ((x2.toNat : Int) ≤ 122))
     else
      none
    else
     impl_IsName_p1 v0 v3 false
  else
   none
 else
  if (!(v0 == [])) then
   (impl_few (v0.length : Int) 10).bind fun x3 =>
    some x3
  else
   some false :=
 (goL_dn _ _ _ 4000 _ _).trans (by kernel_rfl)
theorem impl_IsName_p1_eq  (v0 : List UInt8) (v3 : Int) (v4 : Bool) : impl_IsName_p1 v0 v3 v4 =
 if (!v4) then
  if (v3 == 0) then
   some false
  else
   if decide (0 ≤ v3) then
    (v0[v3.toNat]?).bind fun x1 =>
     (impl_isDigit (x1.toNat : Int)).bind fun x2 =>
      if (!x2) then
       some false
      else
       impl_IsName_p0 v0 (IntKind.i64.wrap (v3 + 1))
   else
    none
 else
  impl_IsName_p0 v0 (IntKind.i64.wrap (v3 + 1)) :=
 (goL_dn _ _ _ 4000 _ _).trans (by kernel_rfl)
def impl_within_ir : Fn := { np := 3,io := [],res := [.t 6],own := [false],body :=
 (.seq (.reg false [.V 6 (.asg (.c (.bool false)))] [0,1,2] []) (.seq (.reg false [.V 7 (.mv (.t 1)),.V 8 (.mv (.t 0)),.V 9 (.bin .leq (.t 7) (.t 8)),.V 10 (.mv (.t 9)),.G 11 (.mv (.t 0)) 3 true,.G 12 (.mv (.t 2)) 3 true,.G 13 (.bin .leq (.t 11) (.t 12)) 3 true,.V 14 (.pick (.t 10) (.t 13) (.c (.bool false))),.V 6 (.asg (.t 14))] [6] []) .ret)) }
noncomputable def impl_within_D : List (Nat × Callee) := []
def impl_within_H : List (Nat × ET) := []
noncomputable def impl_within_c : Callee := mkCallee impl_within_D impl_within_H impl_within_ir [.d (.one (.int .i64)),.d (.one (.int .i64)),.d (.one (.int .i64))] [.d (.one .bool)] []
noncomputable def impl_within (a0 : Int) (a1 : Int) (a2 : Int) : Option (Bool) := impl_within_c.f (a0,a1,a2,())
theorem impl_within_eq (a0 : Int) (a1 : Int) (a2 : Int) : impl_within a0 a1 a2 =
 if decide (a1 ≤ a0) then
  some (decide (a0 ≤ a2))
 else
  some false :=
 (mk_f _ _ _ _ _ _ _ 4000).trans (by kernel_rfl)
def impl_Setting_valid_ir : Fn := { np := 1,io := [],res := [.t 2],own := [false],body :=
 (.seq (.reg false [.W 1 (.box 2 (.t 0)),.V 2 (.asg (.c (.bool false)))] [1] [1]) (.seq (.reg false [.V 3 (.fa 0 (.t 1)),.V 4 (.ld none (.t 3)),.V 5 (.call (.c (.fn 24 [])) [.t 4]),.V 6 (.mv (.t 5)),.G 7 (.fa 1 (.t 1)) 3 true,.G 8 (.ld none (.t 7)) 3 true,.G 9 (.call (.c (.fn 23 [])) [.t 8,.c (.int .i64 0),.c (.int .i64 1000)]) 3 true,.V 10 (.pick (.t 6) (.t 9) (.c (.bool false))),.V 2 (.asg (.t 10))] [2] []) .ret)) }
noncomputable def impl_Setting_valid_D : List (Nat × Callee) := [(23,impl_within_c),(24,impl_IsName_c)]
def impl_Setting_valid_H : List (Nat × ET) := []
noncomputable def impl_Setting_valid_c : Callee := mkCallee impl_Setting_valid_D impl_Setting_valid_H impl_Setting_valid_ir [.d T_Setting] [.d (.one .bool)] []
noncomputable def impl_Setting_valid (a0 : T_Setting.ty) : Option (Bool) := impl_Setting_valid_c.f (a0,())
theorem impl_Setting_valid_eq (a0 : T_Setting.ty) : impl_Setting_valid a0 =
 (impl_IsName a0.1).bind fun x1 =>
  if x1 then
   (impl_within a0.2.1 0 1000).bind fun x2 =>
    some x2
  else
   some false :=
 (mk_f _ _ _ _ _ _ _ 4000).trans (by kernel_rfl)
def impl_ValidState_k0 : C :=
 .seq (.reg false [.V 8 (.bin .lss (.t 7) (.t 6))] [0,5,6,7,8] []) (.seq (.cond (.t 8) .skip (.exit 0)) (.seq (.block 1 (.seq (.reg false [.V 9 (.mv (.t 7)),.V 10 (.ia 2 (.t 5) (.t 7)),.V 11 (.ld (some 2) (.t 10)),.W 4 (.alloc 2 (.agg [.str [],.int .i64 0])),.V 3 (.asg (.t 9)),⟨none,true,.sto 2 (.t 4) (.t 11),none,false,[]⟩] [0,3,4,5,6,7] [4]) (.seq (.reg true [.V 12 (.ld (some 2) (.t 4)),.V 13 (.call (.c (.fn 692 [])) [.t 12]),.V 14 (.un .not (.t 13)),.V 15 (.mv (.t 14)),.G 16 (.mv (.t 3)) 3 false,.G 17 (.bin .gtr (.t 16) (.c (.int .i64 0))) 3 false,.G 18 (.mv (.t 17)) 3 false,.G 19 (.mv (.t 0)) 6 true,.G 20 (.mv (.t 3)) 6 true,.G 21 (.bin .sub (.t 20) (.c (.int .i64 1))) 6 true,.G 22 (.ia 2 (.t 19) (.t 21)) 6 true,.G 23 (.fa 0 (.t 22)) 6 true,.G 24 (.ld none (.t 23)) 6 true,.G 25 (.fa 0 (.t 4)) 6 true,.G 26 (.ld none (.t 25)) 6 true,.G 27 (.bin .geq (.t 24) (.t 26)) 6 true,.G 28 (.pick (.t 18) (.t 27) (.c (.bool false))) 3 false,.V 29 (.pick (.t 15) (.c (.bool true)) (.t 28))] [0,5,6,7,29] []) (.cond (.t 29) (.seq (.reg false [.V 2 (.asg (.c (.bool false)))] [2] []) .ret) .skip)))) (.reg false [.V 30 (.bin .add (.t 7) (.c (.int .i64 1))),.V 7 (.mv (.t 30))] [0,5,6,7] [])))
def impl_ValidState_k1 : C :=
 .norm [0,5,6,7] [] impl_ValidState_k0
def impl_ValidState_k2 : C :=
 .seq (.reg false [.V 31 (.mv (.t 0)),.V 32 (.len (.t 31)),.V 33 (.call (.c (.fn 21 [])) [.t 32,.c (.int .i64 24)]),.V 2 (.asg (.t 33))] [2] []) .ret
def impl_ValidState_ir : Fn := { np := 1,io := [],res := [.t 2],own := [false],body :=
 (.seq (.reg false [.V 2 (.asg (.c (.bool false)))] [0] []) (.seq (.seq (.reg false [.V 5 (.mv (.t 0)),.V 6 (.len (.t 5)),.V 7 (.mv (.c (.int .i64 0)))] [0,5,6,7] []) (.block 0 (.loop impl_ValidState_k1))) impl_ValidState_k2)) }
noncomputable def impl_ValidState_D : List (Nat × Callee) := [(21,impl_few_c),(692,impl_Setting_valid_c)]
def impl_ValidState_H : List (Nat × ET) := [(5,T_Setting),(19,T_Setting),(31,T_Setting)]
noncomputable def impl_ValidState_c : Callee := mkCallee impl_ValidState_D impl_ValidState_H impl_ValidState_ir [.d (.one (.sl T_Setting))] [.d (.one .bool)] []
noncomputable def impl_ValidState (a0 : List T_Setting.ty) : Option (Bool) := impl_ValidState_c.f (a0,())
noncomputable def impl_ValidState_p0  (v0 : List T_Setting.ty) (v5 : List T_Setting.ty) (v6 : Int) (v7 : Int) : Option (Bool) :=
 goL impl_ValidState_D impl_ValidState_H (vleave impl_ValidState_ir [.d (.one (.sl T_Setting))] [.d (.one .bool)] [] []) [.c impl_ValidState_k0,.l impl_ValidState_k1,.e 0,.c impl_ValidState_k2]
  ⟨[(0,.sl T_Setting v0),(5,.sl T_Setting v5),(6,.int .i64 v6),(7,.int .i64 v7)],[]⟩
theorem impl_ValidState_eq (a0 : List T_Setting.ty) : impl_ValidState a0 =
 impl_ValidState_p0 a0 a0 (a0.length : Int) 0 :=
 (mk_f _ _ _ _ _ _ _ 4000).trans (by kernel_rfl)
theorem impl_ValidState_p0_eq  (v0 : List T_Setting.ty) (v5 : List T_Setting.ty) (v6 : Int) (v7 : Int) : impl_ValidState_p0 v0 v5 v6 v7 =
 if decide (v7 < v6) then
  if decide (0 ≤ v7) then
   (v5[v7.toNat]?).bind fun x1 =>
    (impl_Setting_valid x1).bind fun x2 =>
     if (!x2) then
      some false
     else
      if decide (v7 > 0) then
       if decide (0 ≤ IntKind.i64.wrap (v7 - 1)) then
        (v0[(IntKind.i64.wrap (v7 - 1)).toNat]?).bind fun x3 =>
         if (!Op.bytesLess x3.1 x1.1) then
          some false
         else
          impl_ValidState_p0 v0 v5 v6 (IntKind.i64.wrap (v7 + 1))
       else
        none
      else
       impl_ValidState_p0 v0 v5 v6 (IntKind.i64.wrap (v7 + 1))
  else
   none
 else
  (impl_few (v0.length : Int) 24).bind fun x4 =>
   some x4 :=
 (goL_dn _ _ _ 4000 _ _).trans (by kernel_rfl)
noncomputable def slices_Sort___string_string__c : Callee := sortSC
noncomputable def slices_Sort___string_string_ (a0 : List (List UInt8)) : Option (List (List UInt8)) := slices_Sort___string_string__c.f (a0,())
theorem slices_Sort___string_string__eq (a0 : List (List UInt8)) : slices_Sort___string_string_ a0 = if decide (a0.length < 4611686018427387904) then some (a0.mergeSort fun a b => decide (a ≤ b)) else none := rfl
noncomputable def slices_Compact___string_string__c : Callee := compactSC
noncomputable def slices_Compact___string_string_ (a0 : List (List UInt8)) : Option (List (List UInt8) × Unit) := slices_Compact___string_string__c.f (a0,())
theorem slices_Compact___string_string__eq (a0 : List (List UInt8)) : slices_Compact___string_string_ a0 = if decide (a0.length ≤ 9223372036854775807) then some (Lib.compact a0,()) else none := rfl
def impl_sortedSet_ir : Fn := { np := 1,io := [true],res := [.t 2],own := [true],body :=
 (.seq (.reg false [.W 2 (.asg (.c (.nils 1)))] [0] [0]) (.seq (.reg false [.V 3 (.mv (.t 0)),.W 4 (.call (.c (.fn 823 [])) [.t 3])] [0] [0]) (.seq (.reg false [.V 5 (.mv (.t 0)),.W 6 (.call (.c (.fn 861 [])) [.t 5]),.W 2 (.asg (.t 6))] [0,2] [0,2]) .ret))),gone := [0] }
noncomputable def impl_sortedSet_D : List (Nat × Callee) := [(823,slices_Sort___string_string__c),(861,slices_Compact___string_string__c)]
def impl_sortedSet_H : List (Nat × ET) := [(2,(.one .str)),(3,(.one .str)),(5,(.one .str)),(6,(.one .str))]
noncomputable def impl_sortedSet_c : Callee := mkCallee impl_sortedSet_D impl_sortedSet_H impl_sortedSet_ir [.ios (.one .str)] [.tok (.one .str)] [.gone]
noncomputable def impl_sortedSet (a0 : List (List UInt8)) : Option (List (List UInt8) × Unit) := impl_sortedSet_c.f (a0,())
theorem impl_sortedSet_eq (a0 : List (List UInt8)) : impl_sortedSet a0 =
 if decide (a0.length = a0.length) then
  (slices_Sort___string_string_ a0).bind fun x1 =>
   if decide (a0.length = x1.length) then
    (slices_Compact___string_string_ x1).bind fun x2 =>
     some ((x2.1.take x2.1.length),())
   else
    none
 else
  none :=
 (mk_f _ _ _ _ _ _ _ 4000).trans (by kernel_rfl)
def impl_namesOf_k0 : C :=
 .seq (.reg false [.V 18 (.bin .lss (.t 17) (.t 16))] [3,9,10,11,15,16,17,18] [3,5]) (.seq (.cond (.t 18) .skip (.exit 2)) (.seq (.block 3 (.seq (.reg false [.V 19 (.ia 2 (.t 15) (.t 17)),.V 20 (.ld (some 2) (.t 19)),.W 7 (.alloc 2 (.agg [.str [],.int .i64 0])),⟨none,true,.sto 2 (.t 7) (.t 20),none,false,[]⟩] [3,7,9,10,11,15,16,17] [3,5,7]) (.reg false [.V 21 (.mv (.t 3)),.V 22 (.fa 0 (.t 7)),.V 23 (.ld none (.t 22)),.V 24 (.bsl 1 (.str []) 1 [(0,.t 23)]),.W 25 (.app 1 16 (.t 21) (.t 24)),.W 3 (.asg (.t 25))] [3,9,10,11,15,16,17] [3,5]))) (.reg false [.V 26 (.bin .add (.t 17) (.c (.int .i64 1))),.V 17 (.mv (.t 26))] [3,9,10,11,15,16,17] [3,5])))
def impl_namesOf_k1 : C :=
 .norm [3,9,10,11,15,16,17] [3,5] impl_namesOf_k0
def impl_namesOf_k2 : C :=
 .reg false [.V 27 (.bin .add (.t 11) (.c (.int .i64 1))),.V 11 (.mv (.t 27))] [3,9,10,11] [3]
def impl_namesOf_k3 : C :=
 .seq (.reg false [.V 12 (.bin .lss (.t 11) (.t 10))] [3,9,10,11,12] [3]) (.seq (.cond (.t 12) .skip (.exit 0)) (.seq (.block 1 (.seq (.reg false [.V 13 (.ia 1 (.t 9) (.t 11)),.V 14 (.ld none (.t 13)),.W 5 (.asg (.t 14))] [3,5,9,10,11] [3,5]) (.seq (.reg false [.V 15 (.mv (.t 5)),.V 16 (.len (.t 15)),.V 17 (.mv (.c (.int .i64 0)))] [3,9,10,11,15,16,17] [3,5]) (.block 2 (.loop impl_namesOf_k1))))) impl_namesOf_k2))
def impl_namesOf_k4 : C :=
 .norm [3,9,10,11] [3] impl_namesOf_k3
def impl_namesOf_k5 : C :=
 .seq (.reg false [.V 28 (.mv (.t 3)),.W 29 (.call (.c (.fn 520 [])) [.t 28]),.W 2 (.asg (.t 29))] [2] [2]) .ret
def impl_namesOf_ir : Fn := { np := 1,io := [],res := [.t 2],own := [true],body :=
 (.seq (.reg false [.W 2 (.asg (.c (.nils 1)))] [0] []) (.seq (.reg false [.V 8 (.bsl 1 (.str []) 0 []),.W 3 (.asg (.t 8))] [0,3] [3]) (.seq (.seq (.reg false [.V 9 (.mv (.t 0)),.V 10 (.len (.t 9)),.V 11 (.mv (.c (.int .i64 0)))] [3,9,10,11] [3]) (.block 0 (.loop impl_namesOf_k4))) impl_namesOf_k5))) }
noncomputable def impl_namesOf_D : List (Nat × Callee) := [(520,impl_sortedSet_c)]
def impl_namesOf_H : List (Nat × ET) := [(2,(.one .str)),(3,(.one .str)),(5,T_Setting),(8,(.one .str)),(9,(.one (.sl T_Setting))),(14,T_Setting),(15,T_Setting),(21,(.one .str)),(24,(.one .str)),(25,(.one .str)),(28,(.one .str)),(29,(.one .str))]
noncomputable def impl_namesOf_c : Callee := mkCallee impl_namesOf_D impl_namesOf_H impl_namesOf_ir [.d (.one (.sl (.one (.sl T_Setting))))] [.tok (.one .str)] []
noncomputable def impl_namesOf (a0 : List (List T_Setting.ty)) : Option (List (List UInt8)) := impl_namesOf_c.f (a0,())
noncomputable def impl_namesOf_p0  (v9 : List (List T_Setting.ty)) (v10 : Int) (v11 : Int) (r3 : List (List UInt8)) : Option (List (List UInt8)) :=
 goL impl_namesOf_D impl_namesOf_H (vleave impl_namesOf_ir [.d (.one (.sl (.one (.sl T_Setting))))] [.tok (.one .str)] [] []) [.c impl_namesOf_k3,.l impl_namesOf_k4,.e 0,.c impl_namesOf_k5]
  ⟨[(3,.view 3 0 r3.length),(9,.sl (.one (.sl T_Setting)) v9),(10,.int .i64 v10),(11,.int .i64 v11)],[(3,some (.sl (.one .str) r3))]⟩
noncomputable def impl_namesOf_p1  (v9 : List (List T_Setting.ty)) (v10 : Int) (v11 : Int) (v15 : List T_Setting.ty) (v16 : Int) (v17 : Int) (r3 : List (List UInt8)) : Option (List (List UInt8)) :=
 goL impl_namesOf_D impl_namesOf_H (vleave impl_namesOf_ir [.d (.one (.sl (.one (.sl T_Setting))))] [.tok (.one .str)] [] []) [.c impl_namesOf_k0,.l impl_namesOf_k1,.e 2,.e 1,.c impl_namesOf_k2,.l impl_namesOf_k4,.e 0,.c impl_namesOf_k5]
  ⟨[(3,.view 3 0 r3.length),(9,.sl (.one (.sl T_Setting)) v9),(10,.int .i64 v10),(11,.int .i64 v11),(15,.sl T_Setting v15),(16,.int .i64 v16),(17,.int .i64 v17)],[(3,some (.sl (.one .str) r3)),(5,none)]⟩
theorem impl_namesOf_eq (a0 : List (List T_Setting.ty)) : impl_namesOf a0 =
 impl_namesOf_p0 a0 (a0.length : Int) 0 [] :=
 (mk_f _ _ _ _ _ _ _ 4000).trans (by kernel_rfl)
theorem impl_namesOf_p0_eq  (v9 : List (List T_Setting.ty)) (v10 : Int) (v11 : Int) (r3 : List (List UInt8)) : impl_namesOf_p0 v9 v10 v11 r3 =
 if decide (v11 < v10) then
  if decide (0 ≤ v11) then
   (v9[v11.toNat]?).bind fun x1 =>
    impl_namesOf_p1 v9 v10 v11 x1 (x1.length : Int) 0 r3
  else
   none
 else
  if decide (r3.length = r3.length) then
   (impl_sortedSet r3).bind fun x2 =>
    some (x2.1.take x2.1.length)
  else
   none :=
 (goL_dn _ _ _ 4000 _ _).trans (by kernel_rfl)
theorem impl_namesOf_p1_eq  (v9 : List (List T_Setting.ty)) (v10 : Int) (v11 : Int) (v15 : List T_Setting.ty) (v16 : Int) (v17 : Int) (r3 : List (List UInt8)) : impl_namesOf_p1 v9 v10 v11 v15 v16 v17 r3 =
 if decide (v17 < v16) then
  if decide (0 ≤ v17) then
   (v15[v17.toNat]?).bind fun x1 =>
    if decide (r3.length + 1 < lim) then
     impl_namesOf_p1 v9 v10 v11 v15 v16 (IntKind.i64.wrap (v17 + 1)) ((r3.take r3.length) ++ [x1.1])
    else
     none
  else
   none
 else
  impl_namesOf_p0 v9 v10 (IntKind.i64.wrap (v11 + 1)) r3 :=
 (goL_dn _ _ _ 4000 _ _).trans (by kernel_rfl)
def impl_find_k0 : C :=
 .seq (.seq (.reg false [.V 7 (.mv (.t 6)),.V 8 (.mv (.t 0)),.V 9 (.len (.t 8)),.V 10 (.bin .lss (.t 7) (.t 9)),.V 11 (.mv (.t 10)),.G 12 (.mv (.t 0)) 4 true,.G 13 (.mv (.t 6)) 4 true,.G 14 (.ia 2 (.t 12) (.t 13)) 4 true,.G 15 (.fa 0 (.t 14)) 4 true,.G 16 (.ld none (.t 15)) 4 true,.G 17 (.mv (.t 1)) 4 true,.G 18 (.bin .lss (.t 16) (.t 17)) 4 true,.V 19 (.pick (.t 11) (.t 18) (.c (.bool false)))] [0,1,6,19] []) (.cond (.t 19) .skip (.exit 0))) (.block 1 (.reg false [.V 20 (.mv (.t 6)),.V 21 (.bin .add (.t 20) (.c (.int .i64 1))),.V 6 (.asg (.t 21))] [0,1,6] []))
def impl_find_k1 : C :=
 .norm [0,1,6] [] impl_find_k0
def impl_find_k2 : C :=
 .seq (.reg true [.V 22 (.mv (.t 6)),.V 23 (.mv (.t 6)),.V 24 (.mv (.t 0)),.V 25 (.len (.t 24)),.V 26 (.bin .lss (.t 23) (.t 25)),.V 27 (.mv (.t 26)),.G 28 (.mv (.t 0)) 5 true,.G 29 (.mv (.t 6)) 5 true,.G 30 (.ia 2 (.t 28) (.t 29)) 5 true,.G 31 (.fa 0 (.t 30)) 5 true,.G 32 (.ld none (.t 31)) 5 true,.G 33 (.mv (.t 1)) 5 true,.G 34 (.bin .eql (.t 32) (.t 33)) 5 true,.V 35 (.pick (.t 27) (.t 34) (.c (.bool false))),.V 4 (.asg (.t 22)),.V 5 (.asg (.t 35))] [4,5] []) .ret
def impl_find_k3 : C :=
 .norm [0,1,6] [] impl_find_k2
def impl_find_ir : Fn := { np := 2,io := [],res := [.t 4,.t 5],own := [false,false],body :=
 (.seq (.reg false [.V 4 (.asg (.c (.int .i64 0))),.V 5 (.asg (.c (.bool false)))] [0,1] []) (.seq (.reg false [.V 6 (.asg (.c (.int .i64 0)))] [0,1,6] []) (.seq (.block 0 (.loop impl_find_k1)) impl_find_k3))) }
noncomputable def impl_find_D : List (Nat × Callee) := []
def impl_find_H : List (Nat × ET) := [(8,T_Setting),(12,T_Setting),(24,T_Setting),(28,T_Setting)]
noncomputable def impl_find_c : Callee := mkCallee impl_find_D impl_find_H impl_find_ir [.d (.one (.sl T_Setting)),.d (.one .str)] [.d (.one (.int .i64)),.d (.one .bool)] []
noncomputable def impl_find (a0 : List T_Setting.ty) (a1 : List UInt8) : Option (Int × Bool) := impl_find_c.f (a0,a1,())
noncomputable def impl_find_p0  (v0 : List T_Setting.ty) (v1 : List UInt8) (v6 : Int) : Option (Int × Bool) :=
 goL impl_find_D impl_find_H (vleave impl_find_ir [.d (.one (.sl T_Setting)),.d (.one .str)] [.d (.one (.int .i64)),.d (.one .bool)] [] []) [.c impl_find_k0,.l impl_find_k1,.e 0,.c impl_find_k3]
  ⟨[(0,.sl T_Setting v0),(1,.str v1),(6,.int .i64 v6)],[]⟩
noncomputable def impl_find_p1  (v0 : List T_Setting.ty) (v1 : List UInt8) (v6 : Int) : Option (Int × Bool) :=
 goL impl_find_D impl_find_H (vleave impl_find_ir [.d (.one (.sl T_Setting)),.d (.one .str)] [.d (.one (.int .i64)),.d (.one .bool)] [] []) [.c impl_find_k2]
  ⟨[(0,.sl T_Setting v0),(1,.str v1),(6,.int .i64 v6)],[]⟩
theorem impl_find_eq (a0 : List T_Setting.ty) (a1 : List UInt8) : impl_find a0 a1 =
 impl_find_p0 a0 a1 0 :=
 (mk_f _ _ _ _ _ _ _ 4000).trans (by kernel_rfl)
theorem impl_find_p0_eq  (v0 : List T_Setting.ty) (v1 : List UInt8) (v6 : Int) : impl_find_p0 v0 v1 v6 =
 if decide (v6 < (v0.length : Int)) then
  if decide (0 ≤ v6) then
   (v0[v6.toNat]?).bind fun x1 =>
    if Op.bytesLess x1.1 v1 then
     impl_find_p0 v0 v1 (IntKind.i64.wrap (v6 + 1))
    else
     impl_find_p1 v0 v1 v6
  else
   none
 else
  impl_find_p1 v0 v1 v6 :=
 (goL_dn _ _ _ 4000 _ _).trans (by kernel_rfl)
theorem impl_find_p1_eq  (v0 : List T_Setting.ty) (v1 : List UInt8) (v6 : Int) : impl_find_p1 v0 v1 v6 =
 if decide (v6 < (v0.length : Int)) then
  if decide (0 ≤ v6) then
   (v0[v6.toNat]?).bind fun x1 =>
    some (v6,(x1.1 == v1))
  else
   none
 else
  some (v6,false) :=
 (goL_dn _ _ _ 4000 _ _).trans (by kernel_rfl)
def impl_value_ir : Fn := { np := 2,io := [],res := [.t 4],own := [false],body :=
 (.seq (.reg false [.V 4 (.asg (.c (.int .i64 0)))] [0,1] []) (.seq (.seq (.reg false [.V 8 (.mv (.t 0)),.V 9 (.mv (.t 1)),.V 10 (.call (.c (.fn 927 [])) [.t 8,.t 9]),.V 7 (.mv (.t 10)),.V 11 (.ext (.t 7) 0),.V 12 (.ext (.t 7) 1),.V 5 (.asg (.t 11)),.V 6 (.asg (.t 12))] [0,5,6] []) (.seq (.reg false [.V 13 (.mv (.t 6))] [0,5,13] []) (.cond (.t 13) (.seq (.reg false [.V 14 (.mv (.t 0)),.V 15 (.mv (.t 5)),.V 16 (.ia 2 (.t 14) (.t 15)),.V 17 (.fa 1 (.t 16)),.V 18 (.ld none (.t 17)),.V 4 (.asg (.t 18))] [4] []) .ret) .skip))) (.seq (.reg false [.V 4 (.asg (.c (.int .i64 (-1))))] [4] []) .ret))) }
noncomputable def impl_value_D : List (Nat × Callee) := [(927,impl_find_c)]
def impl_value_H : List (Nat × ET) := [(8,T_Setting),(14,T_Setting)]
noncomputable def impl_value_c : Callee := mkCallee impl_value_D impl_value_H impl_value_ir [.d (.one (.sl T_Setting)),.d (.one .str)] [.d (.one (.int .i64))] []
noncomputable def impl_value (a0 : List T_Setting.ty) (a1 : List UInt8) : Option (Int) := impl_value_c.f (a0,a1,())
theorem impl_value_eq (a0 : List T_Setting.ty) (a1 : List UInt8) : impl_value a0 a1 =
 (impl_find a0 a1).bind fun x1 =>
  if x1.2 then
   if decide (0 ≤ x1.1) then
    (a0[x1.1.toNat]?).bind fun x2 =>
     some x2.2.1
   else
    none
  else
   some (-1) :=
 (mk_f _ _ _ _ _ _ _ 4000).trans (by kernel_rfl)
noncomputable def impl_conflicts_c : Callee := conflictsC impl_namesOf impl_value
noncomputable def impl_conflicts (a0 : List T_Setting.ty) (a1 : List T_Setting.ty) (a2 : List T_Setting.ty) : Option (List (List UInt8)) := impl_conflicts_c.f (a0,a1,a2,())
theorem impl_conflicts_eq (a0 : List T_Setting.ty) (a1 : List T_Setting.ty) (a2 : List T_Setting.ty) : impl_conflicts a0 a1 a2 = (impl_namesOf [a0,a1,a2]).bind (confF impl_value a0 a1 a2) := rfl
def impl_MergeStates_k0 : C :=
 .seq (.reg false [.V 52 (.mv (.t 11)),.V 53 (.bin .geq (.t 52) (.c (.int .i64 0)))] [0,1,2,8,10,11,35,36,37,53] [8]) (.cond (.t 53) (.reg false [.V 54 (.mv (.t 8)),.V 55 (.mv (.t 10)),.V 56 (.mv (.t 11)),.V 57 (.build [.str [],.int .i64 0] [(0,1,.t 55),(1,1,.t 56)]),.V 58 (.bsl 2 (.agg [.str [],.int .i64 0]) 1 [(0,.t 57)]),.W 59 (.app 2 24 (.t 54) (.t 58)),.W 8 (.asg (.t 59))] [0,1,2,8,35,36,37] [8]) .skip)
def impl_MergeStates_k1 : C :=
 .reg false [.V 60 (.bin .add (.t 37) (.c (.int .i64 1))),.V 37 (.mv (.t 60))] [0,1,2,8,35,36,37] [8]
def impl_MergeStates_k2 : C :=
 .seq (.reg false [.V 38 (.bin .lss (.t 37) (.t 36))] [0,1,2,8,35,36,37,38] [8]) (.seq (.cond (.t 38) .skip (.exit 0)) (.seq (.block 1 (.seq (.reg false [.V 39 (.ia 1 (.t 35) (.t 37)),.V 40 (.ld none (.t 39)),.V 10 (.asg (.t 40))] [0,1,2,8,10,35,36,37] [8]) (.seq (.reg false [.V 41 (.mv (.t 1)),.V 42 (.mv (.t 10)),.V 43 (.call (.c (.fn 688 [])) [.t 41,.t 42]),.V 11 (.asg (.t 43))] [0,1,2,8,10,11,35,36,37] [8]) (.seq (.seq (.reg false [.V 44 (.mv (.t 11)),.V 45 (.mv (.t 0)),.V 46 (.mv (.t 10)),.V 47 (.call (.c (.fn 688 [])) [.t 45,.t 46]),.V 48 (.bin .eql (.t 44) (.t 47))] [0,1,2,8,10,11,35,36,37,48] [8]) (.cond (.t 48) (.reg false [.V 49 (.mv (.t 2)),.V 50 (.mv (.t 10)),.V 51 (.call (.c (.fn 688 [])) [.t 49,.t 50]),.V 11 (.asg (.t 51))] [0,1,2,8,10,11,35,36,37] [8]) .skip)) (.norm [0,1,2,8,10,11,35,36,37] [8] impl_MergeStates_k0))))) impl_MergeStates_k1))
def impl_MergeStates_k3 : C :=
 .norm [0,1,2,8,35,36,37] [8] impl_MergeStates_k2
def impl_MergeStates_k4 : C :=
 .seq (.seq (.reg false [.V 61 (.mv (.t 8)),.V 62 (.len (.t 61)),.V 63 (.call (.c (.fn 21 [])) [.t 62,.c (.int .i64 24)]),.V 64 (.un .not (.t 63))] [8,64] [8]) (.cond (.t 64) (.seq (.reg false [.W 6 (.asg (.c (.nils 2))),.V 7 (.asg (.c (.int .i64 5)))] [6,7] [6,8]) .ret) .skip)) (.seq (.reg false [.V 65 (.mv (.t 8)),.W 6 (.asg (.t 65)),.V 7 (.asg (.c (.int .i64 0)))] [6,7] [6,8]) .ret)
def impl_MergeStates_k5 : C :=
 .seq (.seq (.reg false [.V 25 (.mv (.t 0)),.V 26 (.mv (.t 1)),.V 27 (.mv (.t 2)),.V 28 (.call (.c (.fn 705 [])) [.t 25,.t 26,.t 27]),.V 29 (.len (.t 28)),.V 30 (.bin .gtr (.t 29) (.c (.int .i64 0)))] [0,1,2,30] []) (.cond (.t 30) (.seq (.reg false [.W 6 (.asg (.c (.nils 2))),.V 7 (.asg (.c (.int .i64 6)))] [6,7] [6,8]) .ret) .skip)) (.seq (.reg false [.V 31 (.bsl 2 (.agg [.str [],.int .i64 0]) 0 []),.W 8 (.asg (.t 31))] [0,1,2,8] [8]) (.seq (.seq (.reg false [.V 32 (.mv (.t 1)),.V 33 (.mv (.t 2)),.V 34 (.bsl 1 (.sl 2 []) 2 [(0,.t 32),(1,.t 33)]),.V 35 (.call (.c (.fn 704 [])) [.t 34]),.V 36 (.len (.t 35)),.V 37 (.mv (.c (.int .i64 0)))] [0,1,2,8,35,36,37] [8]) (.block 0 (.loop impl_MergeStates_k3))) impl_MergeStates_k4))
def impl_MergeStates_ir : Fn := { np := 3,io := [],res := [.t 6,.t 7],own := [true,false],body :=
 (.seq (.reg false [.W 6 (.asg (.c (.nils 2))),.V 7 (.asg (.c (.int .i64 0)))] [0,1,2] []) (.seq (.seq (.reg false [.V 12 (.mv (.t 0)),.V 13 (.call (.c (.fn 689 [])) [.t 12]),.V 14 (.un .not (.t 13)),.V 15 (.mv (.t 14)),.G 16 (.mv (.t 1)) 3 false,.G 17 (.call (.c (.fn 689 [])) [.t 16]) 3 false,.G 18 (.un .not (.t 17)) 3 false,.V 19 (.pick (.t 15) (.c (.bool true)) (.t 18)),.V 20 (.mv (.t 19)),.G 21 (.mv (.t 2)) 8 false,.G 22 (.call (.c (.fn 689 [])) [.t 21]) 8 false,.G 23 (.un .not (.t 22)) 8 false,.V 24 (.pick (.t 20) (.c (.bool true)) (.t 23))] [0,1,2,24] []) (.cond (.t 24) (.seq (.reg false [.W 6 (.asg (.c (.nils 2))),.V 7 (.asg (.c (.int .i64 1)))] [6,7] [6,8]) .ret) .skip)) (.norm [0,1,2] [] impl_MergeStates_k5))) }
noncomputable def impl_MergeStates_D : List (Nat × Callee) := [(21,impl_few_c),(688,impl_value_c),(689,impl_ValidState_c),(704,impl_namesOf_c),(705,impl_conflicts_c)]
def impl_MergeStates_H : List (Nat × ET) := [(6,T_Setting),(8,T_Setting),(12,T_Setting),(16,T_Setting),(21,T_Setting),(25,T_Setting),(26,T_Setting),(27,T_Setting),(28,(.one .str)),(31,T_Setting),(32,T_Setting),(33,T_Setting),(34,(.one (.sl T_Setting))),(35,(.one .str)),(41,T_Setting),(45,T_Setting),(49,T_Setting),(54,T_Setting),(58,T_Setting),(59,T_Setting),(61,T_Setting),(65,T_Setting)]
noncomputable def impl_MergeStates_c : Callee := mkCallee impl_MergeStates_D impl_MergeStates_H impl_MergeStates_ir [.d (.one (.sl T_Setting)),.d (.one (.sl T_Setting)),.d (.one (.sl T_Setting))] [.tok T_Setting,.d (.one (.int .i64))] []
noncomputable def impl_MergeStates (a0 : List T_Setting.ty) (a1 : List T_Setting.ty) (a2 : List T_Setting.ty) : Option (List T_Setting.ty × Int) := impl_MergeStates_c.f (a0,a1,a2,())
noncomputable def impl_MergeStates_p0  (v0 : List T_Setting.ty) (v1 : List T_Setting.ty) (v2 : List T_Setting.ty) : Option (List T_Setting.ty × Int) :=
 goL impl_MergeStates_D impl_MergeStates_H (vleave impl_MergeStates_ir [.d (.one (.sl T_Setting)),.d (.one (.sl T_Setting)),.d (.one (.sl T_Setting))] [.tok T_Setting,.d (.one (.int .i64))] [] []) [.c impl_MergeStates_k5]
  ⟨[(0,.sl T_Setting v0),(1,.sl T_Setting v1),(2,.sl T_Setting v2)],[]⟩
noncomputable def impl_MergeStates_p1  (v0 : List T_Setting.ty) (v1 : List T_Setting.ty) (v2 : List T_Setting.ty) (v35 : List (List UInt8)) (v36 : Int) (v37 : Int) (r8 : List T_Setting.ty) : Option (List T_Setting.ty × Int) :=
 goL impl_MergeStates_D impl_MergeStates_H (vleave impl_MergeStates_ir [.d (.one (.sl T_Setting)),.d (.one (.sl T_Setting)),.d (.one (.sl T_Setting))] [.tok T_Setting,.d (.one (.int .i64))] [] []) [.c impl_MergeStates_k2,.l impl_MergeStates_k3,.e 0,.c impl_MergeStates_k4]
  ⟨[(0,.sl T_Setting v0),(1,.sl T_Setting v1),(2,.sl T_Setting v2),(8,.view 8 0 r8.length),(35,.sl (.one .str) v35),(36,.int .i64 v36),(37,.int .i64 v37)],[(8,some (.sl T_Setting r8))]⟩
noncomputable def impl_MergeStates_p2  (v0 : List T_Setting.ty) (v1 : List T_Setting.ty) (v2 : List T_Setting.ty) (v10 : List UInt8) (v11 : Int) (v35 : List (List UInt8)) (v36 : Int) (v37 : Int) (r8 : List T_Setting.ty) : Option (List T_Setting.ty × Int) :=
 goL impl_MergeStates_D impl_MergeStates_H (vleave impl_MergeStates_ir [.d (.one (.sl T_Setting)),.d (.one (.sl T_Setting)),.d (.one (.sl T_Setting))] [.tok T_Setting,.d (.one (.int .i64))] [] []) [.c impl_MergeStates_k0,.e 1,.c impl_MergeStates_k1,.l impl_MergeStates_k3,.e 0,.c impl_MergeStates_k4]
  ⟨[(0,.sl T_Setting v0),(1,.sl T_Setting v1),(2,.sl T_Setting v2),(8,.view 8 0 r8.length),(10,.str v10),(11,.int .i64 v11),(35,.sl (.one .str) v35),(36,.int .i64 v36),(37,.int .i64 v37)],[(8,some (.sl T_Setting r8))]⟩
theorem impl_MergeStates_eq (a0 : List T_Setting.ty) (a1 : List T_Setting.ty) (a2 : List T_Setting.ty) : impl_MergeStates a0 a1 a2 =
 (impl_ValidState a0).bind fun x1 =>
  if (!x1) then
   some ([],1)
  else
   (impl_ValidState a1).bind fun x2 =>
    if (!x2) then
     some ([],1)
    else
     (impl_ValidState a2).bind fun x3 =>
      if (!x3) then
       some ([],1)
      else
       impl_MergeStates_p0 a0 a1 a2 :=
 (mk_f _ _ _ _ _ _ _ 4000).trans (by kernel_rfl)
theorem impl_MergeStates_p0_eq  (v0 : List T_Setting.ty) (v1 : List T_Setting.ty) (v2 : List T_Setting.ty) : impl_MergeStates_p0 v0 v1 v2 =
 (impl_conflicts v0 v1 v2).bind fun x1 =>
  if decide ((x1.length : Int) > 0) then
   some ([],6)
  else
   (impl_namesOf [v1,v2]).bind fun x2 =>
    impl_MergeStates_p1 v0 v1 v2 x2 (x2.length : Int) 0 [] :=
 (goL_dn _ _ _ 4000 _ _).trans (by kernel_rfl)
theorem impl_MergeStates_p1_eq  (v0 : List T_Setting.ty) (v1 : List T_Setting.ty) (v2 : List T_Setting.ty) (v35 : List (List UInt8)) (v36 : Int) (v37 : Int) (r8 : List T_Setting.ty) : impl_MergeStates_p1 v0 v1 v2 v35 v36 v37 r8 =
 if decide (v37 < v36) then
  if decide (0 ≤ v37) then
   (v35[v37.toNat]?).bind fun x1 =>
    (impl_value v1 x1).bind fun x2 =>
     (impl_value v0 x1).bind fun x3 =>
      if (x2 == x3) then
       (impl_value v2 x1).bind fun x4 =>
        impl_MergeStates_p2 v0 v1 v2 x1 x4 v35 v36 v37 r8
      else
       impl_MergeStates_p2 v0 v1 v2 x1 x2 v35 v36 v37 r8
  else
   none
 else
  (impl_few (r8.length : Int) 24).bind fun x5 =>
   if (!x5) then
    some ([],5)
   else
    some ((r8.take r8.length),0) :=
 (goL_dn _ _ _ 4000 _ _).trans (by kernel_rfl)
theorem impl_MergeStates_p2_eq  (v0 : List T_Setting.ty) (v1 : List T_Setting.ty) (v2 : List T_Setting.ty) (v10 : List UInt8) (v11 : Int) (v35 : List (List UInt8)) (v36 : Int) (v37 : Int) (r8 : List T_Setting.ty) : impl_MergeStates_p2 v0 v1 v2 v10 v11 v35 v36 v37 r8 =
 if decide (v11 ≥ 0) then
  if decide (r8.length + 1 < lim) then
   impl_MergeStates_p1 v0 v1 v2 v35 v36 (IntKind.i64.wrap (v37 + 1)) ((r8.take r8.length) ++ [(v10,v11,())])
  else
   none
 else
  impl_MergeStates_p1 v0 v1 v2 v35 v36 (IntKind.i64.wrap (v37 + 1)) r8 :=
 (goL_dn _ _ _ 4000 _ _).trans (by kernel_rfl)
def spec_l27Same_k0 : C :=
 .seq (.seq (.reg false [.V 11 (.mv (.t 5)),.V 12 (.mv (.t 0)),.V 13 (.len (.t 12)),.V 14 (.bin .lss (.t 11) (.t 13))] [0,1,5,14] []) (.cond (.t 14) .skip (.exit 0))) (.seq (.block 1 (.seq (.reg true [.V 17 (.mv (.t 0)),.V 18 (.mv (.t 5)),.V 19 (.ia 2 (.t 17) (.t 18)),.V 20 (.ld (some 2) (.t 19)),.V 21 (.mv (.t 1)),.V 22 (.mv (.t 5)),.V 23 (.ia 2 (.t 21) (.t 22)),.V 24 (.ld (some 2) (.t 23)),.V 25 (.eqs true [.s,.i] (.t 20) (.t 24))] [0,1,5,25] []) (.cond (.t 25) (.seq (.reg false [.V 4 (.asg (.c (.bool false)))] [4] []) .ret) .skip))) (.reg false [.V 15 (.mv (.t 5)),.V 16 (.bin .add (.t 15) (.c (.int .i64 1))),.V 5 (.asg (.t 16))] [0,1,5] []))
def spec_l27Same_k1 : C :=
 .norm [0,1,5] [] spec_l27Same_k0
def spec_l27Same_k2 : C :=
 .seq (.reg false [.V 4 (.asg (.c (.bool true)))] [4] []) .ret
def spec_l27Same_ir : Fn := { np := 2,io := [],res := [.t 4],own := [false],body :=
 (.seq (.reg false [.V 4 (.asg (.c (.bool false)))] [0,1] []) (.seq (.seq (.reg false [.V 6 (.mv (.t 0)),.V 7 (.len (.t 6)),.V 8 (.mv (.t 1)),.V 9 (.len (.t 8)),.V 10 (.bin .neq (.t 7) (.t 9))] [0,1,10] []) (.cond (.t 10) (.seq (.reg false [.V 4 (.asg (.c (.bool false)))] [4] []) .ret) .skip)) (.seq (.seq (.reg false [.V 5 (.asg (.c (.int .i64 0)))] [0,1,5] []) (.block 0 (.loop spec_l27Same_k1))) spec_l27Same_k2))) }
noncomputable def spec_l27Same_D : List (Nat × Callee) := []
def spec_l27Same_H : List (Nat × ET) := [(6,T_Setting),(8,T_Setting),(12,T_Setting),(17,T_Setting),(21,T_Setting)]
noncomputable def spec_l27Same_c : Callee := mkCallee spec_l27Same_D spec_l27Same_H spec_l27Same_ir [.d (.one (.sl T_Setting)),.d (.one (.sl T_Setting))] [.d (.one .bool)] []
noncomputable def spec_l27Same (a0 : List T_Setting.ty) (a1 : List T_Setting.ty) : Option (Bool) := spec_l27Same_c.f (a0,a1,())
noncomputable def spec_l27Same_p0  (v0 : List T_Setting.ty) (v1 : List T_Setting.ty) (v5 : Int) : Option (Bool) :=
 goL spec_l27Same_D spec_l27Same_H (vleave spec_l27Same_ir [.d (.one (.sl T_Setting)),.d (.one (.sl T_Setting))] [.d (.one .bool)] [] []) [.c spec_l27Same_k0,.l spec_l27Same_k1,.e 0,.c spec_l27Same_k2]
  ⟨[(0,.sl T_Setting v0),(1,.sl T_Setting v1),(5,.int .i64 v5)],[]⟩
theorem spec_l27Same_eq (a0 : List T_Setting.ty) (a1 : List T_Setting.ty) : spec_l27Same a0 a1 =
 if ((a0.length : Int) != (a1.length : Int)) then
  some false
 else
  spec_l27Same_p0 a0 a1 0 :=
 (mk_f _ _ _ _ _ _ _ 4000).trans (by kernel_rfl)
theorem spec_l27Same_p0_eq  (v0 : List T_Setting.ty) (v1 : List T_Setting.ty) (v5 : Int) : spec_l27Same_p0 v0 v1 v5 =
 if decide (v5 < (v0.length : Int)) then
  if decide (0 ≤ v5) then
   (v0[v5.toNat]?).bind fun x1 =>
    if decide (0 ≤ v5) then
     (v1[v5.toNat]?).bind fun x2 =>
      if (!((x1.1 == x2.1) && (x1.2.1 == x2.2.1))) then
       some false
      else
       spec_l27Same_p0 v0 v1 (IntKind.i64.wrap (v5 + 1))
    else
     none
  else
   none
 else
  some true :=
 (goL_dn _ _ _ 4000 _ _).trans (by kernel_rfl)
def spec_SameState_ir : Fn := { np := 2,io := [],res := [.t 4],own := [false],body :=
 (.seq (.reg false [.V 4 (.asg (.c (.bool false)))] [0,1] []) (.seq (.reg false [.V 5 (.mv (.t 0)),.V 6 (.mv (.t 1)),.V 7 (.call (.c (.fn 693 [])) [.t 5,.t 6]),.V 4 (.asg (.t 7))] [4] []) .ret)) }
noncomputable def spec_SameState_D : List (Nat × Callee) := [(693,spec_l27Same_c)]
def spec_SameState_H : List (Nat × ET) := [(5,T_Setting),(6,T_Setting)]
noncomputable def spec_SameState_c : Callee := mkCallee spec_SameState_D spec_SameState_H spec_SameState_ir [.d (.one (.sl T_Setting)),.d (.one (.sl T_Setting))] [.d (.one .bool)] []
noncomputable def spec_SameState (a0 : List T_Setting.ty) (a1 : List T_Setting.ty) : Option (Bool) := spec_SameState_c.f (a0,a1,())
theorem spec_SameState_eq (a0 : List T_Setting.ty) (a1 : List T_Setting.ty) : spec_SameState a0 a1 =
 (spec_l27Same a0 a1).bind fun x1 =>
  some x1 :=
 (mk_f _ _ _ _ _ _ _ 4000).trans (by kernel_rfl)
def impl_ConflictsOf_k0 : C :=
 .seq (.reg false [.V 21 (.mv (.t 0)),.V 22 (.mv (.t 1)),.V 23 (.mv (.t 2)),.V 24 (.call (.c (.fn 705 [])) [.t 21,.t 22,.t 23]),.W 6 (.asg (.t 24)),.V 7 (.asg (.c (.int .i64 0)))] [6,7] [6]) .ret
def impl_ConflictsOf_ir : Fn := { np := 3,io := [],res := [.t 6,.t 7],own := [false,false],body :=
 (.seq (.reg false [.W 6 (.asg (.c (.nils 1))),.V 7 (.asg (.c (.int .i64 0)))] [0,1,2] []) (.seq (.seq (.reg false [.V 8 (.mv (.t 0)),.V 9 (.call (.c (.fn 689 [])) [.t 8]),.V 10 (.un .not (.t 9)),.V 11 (.mv (.t 10)),.G 12 (.mv (.t 1)) 3 false,.G 13 (.call (.c (.fn 689 [])) [.t 12]) 3 false,.G 14 (.un .not (.t 13)) 3 false,.V 15 (.pick (.t 11) (.c (.bool true)) (.t 14)),.V 16 (.mv (.t 15)),.G 17 (.mv (.t 2)) 8 false,.G 18 (.call (.c (.fn 689 [])) [.t 17]) 8 false,.G 19 (.un .not (.t 18)) 8 false,.V 20 (.pick (.t 16) (.c (.bool true)) (.t 19))] [0,1,2,20] []) (.cond (.t 20) (.seq (.reg false [.W 6 (.asg (.c (.nils 1))),.V 7 (.asg (.c (.int .i64 1)))] [6,7] [6]) .ret) .skip)) (.norm [0,1,2] [] impl_ConflictsOf_k0))) }
noncomputable def impl_ConflictsOf_D : List (Nat × Callee) := [(689,impl_ValidState_c),(705,impl_conflicts_c)]
def impl_ConflictsOf_H : List (Nat × ET) := [(6,(.one .str)),(8,T_Setting),(12,T_Setting),(17,T_Setting),(21,T_Setting),(22,T_Setting),(23,T_Setting),(24,(.one .str))]
noncomputable def impl_ConflictsOf_c : Callee := mkCallee impl_ConflictsOf_D impl_ConflictsOf_H impl_ConflictsOf_ir [.d (.one (.sl T_Setting)),.d (.one (.sl T_Setting)),.d (.one (.sl T_Setting))] [.d (.one (.sl (.one .str))),.d (.one (.int .i64))] []
noncomputable def impl_ConflictsOf (a0 : List T_Setting.ty) (a1 : List T_Setting.ty) (a2 : List T_Setting.ty) : Option (List (List UInt8) × Int) := impl_ConflictsOf_c.f (a0,a1,a2,())
noncomputable def impl_ConflictsOf_p0  (v0 : List T_Setting.ty) (v1 : List T_Setting.ty) (v2 : List T_Setting.ty) : Option (List (List UInt8) × Int) :=
 goL impl_ConflictsOf_D impl_ConflictsOf_H (vleave impl_ConflictsOf_ir [.d (.one (.sl T_Setting)),.d (.one (.sl T_Setting)),.d (.one (.sl T_Setting))] [.d (.one (.sl (.one .str))),.d (.one (.int .i64))] [] []) [.c impl_ConflictsOf_k0]
  ⟨[(0,.sl T_Setting v0),(1,.sl T_Setting v1),(2,.sl T_Setting v2)],[]⟩
theorem impl_ConflictsOf_eq (a0 : List T_Setting.ty) (a1 : List T_Setting.ty) (a2 : List T_Setting.ty) : impl_ConflictsOf a0 a1 a2 =
 (impl_ValidState a0).bind fun x1 =>
  if (!x1) then
   some ([],1)
  else
   (impl_ValidState a1).bind fun x2 =>
    if (!x2) then
     some ([],1)
    else
     (impl_ValidState a2).bind fun x3 =>
      if (!x3) then
       some ([],1)
      else
       impl_ConflictsOf_p0 a0 a1 a2 :=
 (mk_f _ _ _ _ _ _ _ 4000).trans (by kernel_rfl)
theorem impl_ConflictsOf_p0_eq  (v0 : List T_Setting.ty) (v1 : List T_Setting.ty) (v2 : List T_Setting.ty) : impl_ConflictsOf_p0 v0 v1 v2 =
 (impl_conflicts v0 v1 v2).bind fun x1 =>
  some (x1,0) :=
 (goL_dn _ _ _ 4000 _ _).trans (by kernel_rfl)
def spec_l01Small_ir : Fn := { np := 1,io := [],res := [.t 2],own := [false],body :=
 (.seq (.reg false [.V 2 (.asg (.c (.bool false)))] [0] []) (.seq (.reg false [.V 3 (.mv (.t 0)),.V 4 (.bin .geq (.t 3) (.c (.int .u8 97))),.V 5 (.mv (.t 4)),.G 6 (.mv (.t 0)) 2 true,.G 7 (.bin .leq (.t 6) (.c (.int .u8 122))) 2 true,.V 8 (.pick (.t 5) (.t 7) (.c (.bool false))),.V 2 (.asg (.t 8))] [2] []) .ret)) }
noncomputable def spec_l01Small_D : List (Nat × Callee) := []
def spec_l01Small_H : List (Nat × ET) := []
noncomputable def spec_l01Small_c : Callee := mkCallee spec_l01Small_D spec_l01Small_H spec_l01Small_ir [.d (.one (.int .u8))] [.d (.one .bool)] []
noncomputable def spec_l01Small (a0 : Int) : Option (Bool) := spec_l01Small_c.f (a0,())
theorem spec_l01Small_eq (a0 : Int) : spec_l01Small a0 =
 if decide (a0 ≥ 97) then
  some (decide (a0 ≤ 122))
 else
  some false :=
 (mk_f _ _ _ _ _ _ _ 4000).trans (by kernel_rfl)
def spec_l01Digit_ir : Fn := { np := 1,io := [],res := [.t 2],own := [false],body :=
 (.seq (.reg false [.V 2 (.asg (.c (.bool false)))] [0] []) (.seq (.reg false [.V 3 (.mv (.t 0)),.V 4 (.bin .geq (.t 3) (.c (.int .u8 48))),.V 5 (.mv (.t 4)),.G 6 (.mv (.t 0)) 2 true,.G 7 (.bin .leq (.t 6) (.c (.int .u8 57))) 2 true,.V 8 (.pick (.t 5) (.t 7) (.c (.bool false))),.V 2 (.asg (.t 8))] [2] []) .ret)) }
noncomputable def spec_l01Digit_D : List (Nat × Callee) := []
def spec_l01Digit_H : List (Nat × ET) := []
noncomputable def spec_l01Digit_c : Callee := mkCallee spec_l01Digit_D spec_l01Digit_H spec_l01Digit_ir [.d (.one (.int .u8))] [.d (.one .bool)] []
noncomputable def spec_l01Digit (a0 : Int) : Option (Bool) := spec_l01Digit_c.f (a0,())
theorem spec_l01Digit_eq (a0 : Int) : spec_l01Digit a0 =
 if decide (a0 ≥ 48) then
  some (decide (a0 ≤ 57))
 else
  some false :=
 (mk_f _ _ _ _ _ _ _ 4000).trans (by kernel_rfl)
def spec_l01Name_k0 : C :=
 .seq (.seq (.reg false [.V 17 (.mv (.t 3)),.V 18 (.mv (.t 0)),.V 19 (.lens (.t 18)),.V 20 (.bin .lss (.t 17) (.t 19))] [0,3,20] []) (.cond (.t 20) .skip (.exit 0))) (.seq (.block 1 (.seq (.reg false [.V 23 (.mv (.t 0)),.V 24 (.mv (.t 3)),.V 25 (.ix (.t 23) (.t 24)),.V 26 (.call (.c (.fn 11 [])) [.t 25]),.V 27 (.un .not (.t 26)),.V 28 (.mv (.t 27)),.G 29 (.mv (.t 0)) 5 true,.G 30 (.mv (.t 3)) 5 true,.G 31 (.ix (.t 29) (.t 30)) 5 true,.G 32 (.call (.c (.fn 12 [])) [.t 31]) 5 true,.G 33 (.un .not (.t 32)) 5 true,.V 34 (.pick (.t 28) (.t 33) (.c (.bool false)))] [0,3,34] []) (.cond (.t 34) (.seq (.reg false [.V 2 (.asg (.c (.bool false)))] [2] []) .ret) .skip))) (.reg false [.V 21 (.mv (.t 3)),.V 22 (.bin .add (.t 21) (.c (.int .i64 1))),.V 3 (.asg (.t 22))] [0,3] []))
def spec_l01Name_k1 : C :=
 .norm [0,3] [] spec_l01Name_k0
def spec_l01Name_k2 : C :=
 .seq (.reg false [.V 2 (.asg (.c (.bool true)))] [2] []) .ret
def spec_l01Name_k3 : C :=
 .seq (.seq (.reg false [.V 3 (.asg (.c (.int .i64 0)))] [0,3] []) (.block 0 (.loop spec_l01Name_k1))) spec_l01Name_k2
def spec_l01Name_ir : Fn := { np := 1,io := [],res := [.t 2],own := [false],body :=
 (.seq (.reg false [.V 2 (.asg (.c (.bool false)))] [0] []) (.seq (.seq (.reg false [.V 4 (.mv (.t 0)),.V 5 (.bin .eql (.t 4) (.c (.str []))),.V 6 (.mv (.t 5)),.G 7 (.mv (.t 0)) 2 false,.G 8 (.lens (.t 7)) 2 false,.G 9 (.bin .gtr (.t 8) (.c (.int .i64 10))) 2 false,.V 10 (.pick (.t 6) (.c (.bool true)) (.t 9)),.V 11 (.mv (.t 10)),.G 12 (.mv (.t 0)) 7 false,.G 13 (.ix (.t 12) (.c (.int .i64 0))) 7 false,.G 14 (.call (.c (.fn 11 [])) [.t 13]) 7 false,.G 15 (.un .not (.t 14)) 7 false,.V 16 (.pick (.t 11) (.c (.bool true)) (.t 15))] [0,16] []) (.cond (.t 16) (.seq (.reg false [.V 2 (.asg (.c (.bool false)))] [2] []) .ret) .skip)) (.norm [0] [] spec_l01Name_k3))) }
noncomputable def spec_l01Name_D : List (Nat × Callee) := [(11,spec_l01Small_c),(12,spec_l01Digit_c)]
def spec_l01Name_H : List (Nat × ET) := []
noncomputable def spec_l01Name_c : Callee := mkCallee spec_l01Name_D spec_l01Name_H spec_l01Name_ir [.d (.one .str)] [.d (.one .bool)] []
noncomputable def spec_l01Name (a0 : List UInt8) : Option (Bool) := spec_l01Name_c.f (a0,())
noncomputable def spec_l01Name_p0  (v0 : List UInt8) : Option (Bool) :=
 goL spec_l01Name_D spec_l01Name_H (vleave spec_l01Name_ir [.d (.one .str)] [.d (.one .bool)] [] []) [.c spec_l01Name_k3]
  ⟨[(0,.str v0)],[]⟩
noncomputable def spec_l01Name_p1  (v0 : List UInt8) (v3 : Int) : Option (Bool) :=
 goL spec_l01Name_D spec_l01Name_H (vleave spec_l01Name_ir [.d (.one .str)] [.d (.one .bool)] [] []) [.c spec_l01Name_k0,.l spec_l01Name_k1,.e 0,.c spec_l01Name_k2]
  ⟨[(0,.str v0),(3,.int .i64 v3)],[]⟩
theorem spec_l01Name_eq (a0 : List UInt8) : spec_l01Name a0 =
 if (a0 == []) then
  some false
 else
  if decide ((a0.length : Int) > 10) then
   some false
  else
   (a0[0]?).bind fun x1 =>
    (spec_l01Small (x1.toNat : Int)).bind fun x2 =>
     if (!x2) then
      some false
     else
      spec_l01Name_p0 a0 :=
 (mk_f _ _ _ _ _ _ _ 4000).trans (by kernel_rfl)
theorem spec_l01Name_p0_eq  (v0 : List UInt8) : spec_l01Name_p0 v0 =
 spec_l01Name_p1 v0 0 :=
 (goL_dn _ _ _ 4000 _ _).trans (by kernel_rfl)
theorem spec_l01Name_p1_eq  (v0 : List UInt8) (v3 : Int) : spec_l01Name_p1 v0 v3 =
 if decide (v3 < (v0.length : Int)) then
  if decide (0 ≤ v3) then
   (v0[v3.toNat]?).bind fun x1 =>
    (spec_l01Small (x1.toNat : Int)).bind fun x2 =>
     if (!x2) then
      if decide (0 ≤ v3) then
       (v0[v3.toNat]?).bind fun x3 =>
        (spec_l01Digit (x3.toNat : Int)).bind fun x4 =>
         if (!x4) then
          some false
         else
          spec_l01Name_p1 v0 (IntKind.i64.wrap (v3 + 1))
      else
       none
     else
      spec_l01Name_p1 v0 (IntKind.i64.wrap (v3 + 1))
  else
   none
 else
  some true :=
 (goL_dn _ _ _ 4000 _ _).trans (by kernel_rfl)
def spec_l00In_ir : Fn := { np := 3,io := [],res := [.t 6],own := [false],body :=
 (.seq (.reg false [.V 6 (.asg (.c (.bool false)))] [0,1,2] []) (.seq (.reg false [.V 7 (.mv (.t 0)),.V 8 (.mv (.t 1)),.V 9 (.bin .geq (.t 7) (.t 8)),.V 10 (.mv (.t 9)),.G 11 (.mv (.t 0)) 3 true,.G 12 (.mv (.t 2)) 3 true,.G 13 (.bin .leq (.t 11) (.t 12)) 3 true,.V 14 (.pick (.t 10) (.t 13) (.c (.bool false))),.V 6 (.asg (.t 14))] [6] []) .ret)) }
noncomputable def spec_l00In_D : List (Nat × Callee) := []
def spec_l00In_H : List (Nat × ET) := []
noncomputable def spec_l00In_c : Callee := mkCallee spec_l00In_D spec_l00In_H spec_l00In_ir [.d (.one (.int .i64)),.d (.one (.int .i64)),.d (.one (.int .i64))] [.d (.one .bool)] []
noncomputable def spec_l00In (a0 : Int) (a1 : Int) (a2 : Int) : Option (Bool) := spec_l00In_c.f (a0,a1,a2,())
theorem spec_l00In_eq (a0 : Int) (a1 : Int) (a2 : Int) : spec_l00In a0 a1 a2 =
 if decide (a0 ≥ a1) then
  some (decide (a0 ≤ a2))
 else
  some false :=
 (mk_f _ _ _ _ _ _ _ 4000).trans (by kernel_rfl)
def spec_l27Setting_ir : Fn := { np := 1,io := [],res := [.t 2],own := [false],body :=
 (.seq (.reg false [.V 2 (.asg (.c (.bool false)))] [0] []) (.seq (.reg false [.V 3 (.mv (.t 0)),.V 4 (.nilck (.t 3)),.V 5 (.fa 0 (.t 4)),.V 6 (.ld none (.t 5)),.V 7 (.call (.c (.fn 13 [])) [.t 6]),.V 8 (.mv (.t 7)),.G 9 (.mv (.t 0)) 5 true,.G 10 (.nilck (.t 9)) 5 true,.G 11 (.fa 1 (.t 10)) 5 true,.G 12 (.ld none (.t 11)) 5 true,.G 13 (.call (.c (.fn 1 [])) [.t 12,.c (.int .i64 0),.c (.int .i64 1000)]) 5 true,.V 14 (.pick (.t 8) (.t 13) (.c (.bool false))),.V 2 (.asg (.t 14))] [2] []) .ret)) }
noncomputable def spec_l27Setting_D : List (Nat × Callee) := [(1,spec_l00In_c),(13,spec_l01Name_c)]
def spec_l27Setting_H : List (Nat × ET) := []
noncomputable def spec_l27Setting_c : Callee := mkCallee spec_l27Setting_D spec_l27Setting_H spec_l27Setting_ir [.p T_Setting] [.d (.one .bool)] []
noncomputable def spec_l27Setting (a0 : T_Setting.ty) : Option (Bool) := spec_l27Setting_c.f (a0,())
theorem spec_l27Setting_eq (a0 : T_Setting.ty) : spec_l27Setting a0 =
 (spec_l01Name a0.1).bind fun x1 =>
  if x1 then
   (spec_l00In a0.2.1 0 1000).bind fun x2 =>
    some x2
  else
   some false :=
 (mk_f _ _ _ _ _ _ _ 4000).trans (by kernel_rfl)
def spec_l27State_k0 : C :=
 .seq (.seq (.reg false [.V 4 (.mv (.t 3)),.V 5 (.mv (.t 0)),.V 6 (.len (.t 5)),.V 7 (.bin .lss (.t 4) (.t 6))] [0,3,7] []) (.cond (.t 7) .skip (.exit 0))) (.seq (.block 1 (.seq (.reg true [.V 10 (.mv (.t 0)),.V 11 (.mv (.t 3)),.V 12 (.ia 2 (.t 10) (.t 11)),.V 13 (.call (.c (.fn 936 [])) [.t 12]),.V 14 (.un .not (.t 13)),.V 15 (.mv (.t 14)),.G 16 (.mv (.t 3)) 5 false,.G 17 (.bin .gtr (.t 16) (.c (.int .i64 0))) 5 false,.G 18 (.mv (.t 17)) 5 false,.G 19 (.mv (.t 0)) 8 true,.G 20 (.mv (.t 3)) 8 true,.G 21 (.bin .sub (.t 20) (.c (.int .i64 1))) 8 true,.G 22 (.ia 2 (.t 19) (.t 21)) 8 true,.G 23 (.fa 0 (.t 22)) 8 true,.G 24 (.ld none (.t 23)) 8 true,.G 25 (.mv (.t 0)) 8 true,.G 26 (.mv (.t 3)) 8 true,.G 27 (.ia 2 (.t 25) (.t 26)) 8 true,.G 28 (.fa 0 (.t 27)) 8 true,.G 29 (.ld none (.t 28)) 8 true,.G 30 (.bin .geq (.t 24) (.t 29)) 8 true,.G 31 (.pick (.t 18) (.t 30) (.c (.bool false))) 5 false,.V 32 (.pick (.t 15) (.c (.bool true)) (.t 31))] [0,3,32] []) (.cond (.t 32) (.seq (.reg false [.V 2 (.asg (.c (.bool false)))] [2] []) .ret) .skip))) (.reg false [.V 8 (.mv (.t 3)),.V 9 (.bin .add (.t 8) (.c (.int .i64 1))),.V 3 (.asg (.t 9))] [0,3] []))
def spec_l27State_k1 : C :=
 .norm [0,3] [] spec_l27State_k0
def spec_l27State_k2 : C :=
 .seq (.reg false [.V 33 (.mv (.t 0)),.V 34 (.len (.t 33)),.V 35 (.bin .leq (.t 34) (.c (.int .i64 24))),.V 2 (.asg (.t 35))] [2] []) .ret
def spec_l27State_ir : Fn := { np := 1,io := [],res := [.t 2],own := [false],body :=
 (.seq (.reg false [.V 2 (.asg (.c (.bool false)))] [0] []) (.seq (.seq (.reg false [.V 3 (.asg (.c (.int .i64 0)))] [0,3] []) (.block 0 (.loop spec_l27State_k1))) spec_l27State_k2)) }
noncomputable def spec_l27State_D : List (Nat × Callee) := [(936,spec_l27Setting_c)]
def spec_l27State_H : List (Nat × ET) := [(5,T_Setting),(10,T_Setting),(19,T_Setting),(25,T_Setting),(33,T_Setting)]
noncomputable def spec_l27State_c : Callee := mkCallee spec_l27State_D spec_l27State_H spec_l27State_ir [.d (.one (.sl T_Setting))] [.d (.one .bool)] []
noncomputable def spec_l27State (a0 : List T_Setting.ty) : Option (Bool) := spec_l27State_c.f (a0,())
noncomputable def spec_l27State_p0  (v0 : List T_Setting.ty) (v3 : Int) : Option (Bool) :=
 goL spec_l27State_D spec_l27State_H (vleave spec_l27State_ir [.d (.one (.sl T_Setting))] [.d (.one .bool)] [] []) [.c spec_l27State_k0,.l spec_l27State_k1,.e 0,.c spec_l27State_k2]
  ⟨[(0,.sl T_Setting v0),(3,.int .i64 v3)],[]⟩
theorem spec_l27State_eq (a0 : List T_Setting.ty) : spec_l27State a0 =
 spec_l27State_p0 a0 0 :=
 (mk_f _ _ _ _ _ _ _ 4000).trans (by kernel_rfl)
theorem spec_l27State_p0_eq  (v0 : List T_Setting.ty) (v3 : Int) : spec_l27State_p0 v0 v3 =
 if decide (v3 < (v0.length : Int)) then
  if decide (0 ≤ v3) then
   (v0[v3.toNat]?).bind fun x1 =>
    (spec_l27Setting x1).bind fun x2 =>
     if (!x2) then
      some false
     else
      if decide (v3 > 0) then
       if decide (0 ≤ IntKind.i64.wrap (v3 - 1)) then
        (v0[(IntKind.i64.wrap (v3 - 1)).toNat]?).bind fun x3 =>
         if decide (0 ≤ v3) then
          (v0[v3.toNat]?).bind fun x4 =>
           if (!Op.bytesLess x3.1 x4.1) then
            some false
           else
            spec_l27State_p0 v0 (IntKind.i64.wrap (v3 + 1))
         else
          none
       else
        none
      else
       spec_l27State_p0 v0 (IntKind.i64.wrap (v3 + 1))
  else
   none
 else
  some (decide ((v0.length : Int) ≤ 24)) :=
 (goL_dn _ _ _ 4000 _ _).trans (by kernel_rfl)
def spec_ValidState_ir : Fn := { np := 1,io := [],res := [.t 2],own := [false],body :=
 (.seq (.reg false [.V 2 (.asg (.c (.bool false)))] [0] []) (.seq (.reg false [.V 3 (.mv (.t 0)),.V 4 (.call (.c (.fn 706 [])) [.t 3]),.V 2 (.asg (.t 4))] [2] []) .ret)) }
noncomputable def spec_ValidState_D : List (Nat × Callee) := [(706,spec_l27State_c)]
def spec_ValidState_H : List (Nat × ET) := [(3,T_Setting)]
noncomputable def spec_ValidState_c : Callee := mkCallee spec_ValidState_D spec_ValidState_H spec_ValidState_ir [.d (.one (.sl T_Setting))] [.d (.one .bool)] []
noncomputable def spec_ValidState (a0 : List T_Setting.ty) : Option (Bool) := spec_ValidState_c.f (a0,())
theorem spec_ValidState_eq (a0 : List T_Setting.ty) : spec_ValidState a0 =
 (spec_l27State a0).bind fun x1 =>
  some x1 :=
 (mk_f _ _ _ _ _ _ _ 4000).trans (by kernel_rfl)
def spec_l00Src_text_ir : Fn := { np := 2,io := [true,false],res := [.t 4],own := [false],body :=
 (.seq (.reg false [.V 4 (.asg (.c (.str [])))] [0,1] [0,1000]) (.seq (.reg false [.V 5 (.mv (.t 1)),.V 6 (.mv (.t 0)),.V 7 (.mv (.t 1)),.V 8 (.len (.t 7)),.W 9 (.call (.c (.fn 463 [])) [.t 6,.t 8]),.V 10 (.ia 1 (.t 5) (.t 9)),.V 11 (.ld none (.t 10)),.V 4 (.asg (.t 11))] [0,4] [0,1000]) .ret)) }
noncomputable def spec_l00Src_text_D : List (Nat × Callee) := [(463,spec_l00Src_pick_c)]
def spec_l00Src_text_H : List (Nat × ET) := [(5,(.one .str)),(7,(.one .str))]
noncomputable def spec_l00Src_text_c : Callee := mkCallee spec_l00Src_text_D spec_l00Src_text_H spec_l00Src_text_ir [.box T_l00Src,.d (.one (.sl (.one .str)))] [.d (.one .str)] [.box T_l00Src]
noncomputable def spec_l00Src_text (a0 : T_l00Src.ty) (a1 : List (List UInt8)) : Option (List UInt8 × T_l00Src.ty) := spec_l00Src_text_c.f (a0,a1,())
theorem spec_l00Src_text_eq (a0 : T_l00Src.ty) (a1 : List (List UInt8)) : spec_l00Src_text a0 a1 =
 (spec_l00Src_pick a0 (a1.length : Int)).bind fun x1 =>
  if decide (0 ≤ x1.1) then
   (a1[x1.1.toNat]?).bind fun x2 =>
    some (x2,(x1.2.1,x1.2.2.1,x1.2.2.2.1,()))
  else
   none :=
 (mk_f _ _ _ _ _ _ _ 4000).trans (by kernel_rfl)
def spec_l27Draw_k0 : C :=
 .seq (.reg false [.V 34 (.mv (.t 5)),.V 35 (.bin .add (.t 34) (.c (.int .i64 1))),.V 36 (.mv (.t 6)),.V 37 (.mv (.t 7)),.V 38 (.build [.int .i64 0,.int .i64 0,.str [],.nils 2] [(0,1,.t 35),(1,1,.t 36),(3,1,.t 37)]),.W 8 (.alloc 4 (.agg [.int .i64 0,.int .i64 0,.str [],.nils 2])),⟨none,true,.sto 4 (.t 8) (.t 38),none,false,[]⟩] [0,3,4,8] [0,3,8,1000,9003]) (.seq (.reg false [.V 39 (.mv (.t 0)),.V 40 (.bsl 1 (.str []) 3 [(0,.c (.str [])),(1,.c (.str [110,101,119])),(2,.c (.str [97,32,98]))]),.W 41 (.call (.c (.fn 557 [])) [.t 39,.t 40]),.V 42 (.fa 2 (.t 8)),⟨none,true,.sto 1 (.t 42) (.t 41),none,false,[]⟩] [0,3,4,8] [0,3,8,1000,9003]) (.reg false [.V 43 (.mv (.t 3)),.V 44 (.ld (some 4) (.t 8)),.V 45 (.bsl 4 (.agg [.int .i64 0,.int .i64 0,.str [],.sl 2 []]) 1 [(0,.t 44)]),.W 46 (.app 4 56 (.t 43) (.t 45)),.W 3 (.asg (.t 46))] [0,3,4] [0,3,1000]))
def spec_l27Draw_k1 : C :=
 .reg false [.V 14 (.mv (.t 4)),.V 15 (.bin .sub (.t 14) (.c (.int .i64 1))),.V 4 (.asg (.t 15))] [0,3,4] [0,3,1000]
def spec_l27Draw_k2 : C :=
 .seq (.seq (.reg false [.V 12 (.mv (.t 4)),.V 13 (.bin .gtr (.t 12) (.c (.int .i64 0)))] [0,3,4,13] [0,3,1000]) (.cond (.t 13) .skip (.exit 0))) (.seq (.block 1 (.seq (.reg false [.V 16 (.mv (.t 3)),.V 17 (.len (.t 16)),.V 5 (.asg (.t 17))] [0,3,4,5] [0,3,1000]) (.seq (.reg false [.V 18 (.mv (.t 0)),.V 19 (.mv (.t 5)),.V 20 (.bin .add (.t 19) (.c (.int .i64 1))),.W 21 (.call (.c (.fn 463 [])) [.t 18,.t 20]),.V 6 (.asg (.t 21))] [0,3,4,5,6] [0,3,1000]) (.seq (.reg false [.V 22 (.mv (.t 0)),.W 23 (.call (.c (.fn 686 [])) [.t 22]),.W 7 (.asg (.t 23))] [0,3,4,5,6,7] [0,3,7,1000]) (.seq (.seq (.reg false [.V 24 (.mv (.t 6)),.V 25 (.bin .gtr (.t 24) (.c (.int .i64 0)))] [0,3,4,5,6,7,25] [0,3,7,1000]) (.cond (.t 25) (.reg false [.V 26 (.mv (.t 0)),.V 27 (.mv (.t 3)),.V 28 (.mv (.t 6)),.V 29 (.bin .sub (.t 28) (.c (.int .i64 1))),.V 30 (.ia 4 (.t 27) (.t 29)),.V 31 (.fa 3 (.t 30)),.V 32 (.ld none (.t 31)),.W 33 (.call (.c (.fn 687 [])) [.t 26,.t 32]),.W 7 (.asg (.t 33))] [0,3,4,5,6,7] [0,3,7,1000]) .skip)) (.norm [0,3,4,5,6,7] [0,3,7,1000] spec_l27Draw_k0)))))) spec_l27Draw_k1)
def spec_l27Draw_k3 : C :=
 .norm [0,3,4] [0,3,1000] spec_l27Draw_k2
def spec_l27Draw_k4 : C :=
 .seq (.reg false [.V 47 (.mv (.t 3)),.W 2 (.asg (.t 47))] [0,2] [0,2,3,1000]) .ret
def spec_l27Draw_ir : Fn := { np := 1,io := [true],res := [.t 2],own := [false],body :=
 (.seq (.reg false [.W 2 (.asg (.c (.nils 4)))] [0] [0,1000]) (.seq (.reg false [.V 9 (.bsl 4 (.agg [.int .i64 0,.int .i64 0,.str [],.sl 2 []]) 0 []),.W 3 (.asg (.t 9))] [0,3] [0,3,1000]) (.seq (.seq (.reg false [.V 10 (.mv (.t 0)),.W 11 (.call (.c (.fn 463 [])) [.t 10,.c (.int .i64 6)]),.V 4 (.asg (.t 11))] [0,3,4] [0,3,1000]) (.block 0 (.loop spec_l27Draw_k3))) spec_l27Draw_k4))) }
noncomputable def spec_l27Draw_D : List (Nat × Callee) := [(463,spec_l00Src_pick_c),(557,spec_l00Src_text_c),(686,spec_l27DrawState_c),(687,spec_l27Changed_c)]
def spec_l27Draw_H : List (Nat × ET) := [(2,T_Version),(3,T_Version),(7,T_Setting),(9,T_Version),(16,T_Version),(23,T_Setting),(27,T_Version),(32,T_Setting),(33,T_Setting),(37,T_Setting),(40,(.one .str)),(43,T_Version),(45,T_Version),(46,T_Version),(47,T_Version)]
noncomputable def spec_l27Draw_c : Callee := mkCallee spec_l27Draw_D spec_l27Draw_H spec_l27Draw_ir [.box T_l00Src] [.d (.one (.sl T_Version))] [.box T_l00Src]
noncomputable def spec_l27Draw (a0 : T_l00Src.ty) : Option (List T_Version.ty × T_l00Src.ty) := spec_l27Draw_c.f (a0,())
noncomputable def spec_l27Draw_p0  (v4 : Int) (r0_0 : List Int) (r0_1 : Int) (r0_2 : Int) (r3 : List T_Version.ty) : Option (List T_Version.ty × T_l00Src.ty) :=
 goL spec_l27Draw_D spec_l27Draw_H (vleave spec_l27Draw_ir [.box T_l00Src] [.d (.one (.sl T_Version))] [.box T_l00Src] []) [.c spec_l27Draw_k2,.l spec_l27Draw_k3,.e 0,.c spec_l27Draw_k4]
  ⟨[(0,.loc 0 0 0),(3,.view 3 0 r3.length),(4,.int .i64 v4)],[(0,some (.var 3 (.agg [.sl (.one (.int .u8)) r0_0,.int .i64 r0_1,.int .u64 r0_2]))),(3,some (.sl T_Version r3)),(1000,none)]⟩
noncomputable def spec_l27Draw_p1  (v4 : Int) (v5 : Int) (v6 : Int) (r0_0 : List Int) (r0_1 : Int) (r0_2 : Int) (r3 : List T_Version.ty) (r7 : List T_Setting.ty) : Option (List T_Version.ty × T_l00Src.ty) :=
 goL spec_l27Draw_D spec_l27Draw_H (vleave spec_l27Draw_ir [.box T_l00Src] [.d (.one (.sl T_Version))] [.box T_l00Src] []) [.c spec_l27Draw_k0,.e 1,.c spec_l27Draw_k1,.l spec_l27Draw_k3,.e 0,.c spec_l27Draw_k4]
  ⟨[(0,.loc 0 0 0),(3,.view 3 0 r3.length),(4,.int .i64 v4),(5,.int .i64 v5),(6,.int .i64 v6),(7,.view 7 0 r7.length)],[(0,some (.var 3 (.agg [.sl (.one (.int .u8)) r0_0,.int .i64 r0_1,.int .u64 r0_2]))),(3,some (.sl T_Version r3)),(7,some (.sl T_Setting r7)),(1000,none)]⟩
theorem spec_l27Draw_eq (a0 : T_l00Src.ty) : spec_l27Draw a0 =
 (spec_l00Src_pick a0 6).bind fun x1 =>
  spec_l27Draw_p0 x1.1 x1.2.1 x1.2.2.1 x1.2.2.2.1 [] :=
 (mk_f _ _ _ _ _ _ _ 4000).trans (by kernel_rfl)
theorem spec_l27Draw_p0_eq  (v4 : Int) (r0_0 : List Int) (r0_1 : Int) (r0_2 : Int) (r3 : List T_Version.ty) : spec_l27Draw_p0 v4 r0_0 r0_1 r0_2 r3 =
 if decide (v4 > 0) then
  (spec_l00Src_pick (r0_0,r0_1,r0_2,()) (IntKind.i64.wrap ((r3.length : Int) + 1))).bind fun x1 =>
   (spec_l27DrawState (x1.2.1,x1.2.2.1,x1.2.2.2.1,())).bind fun x2 =>
    if decide (x1.1 > 0) then
     if decide (0 ≤ IntKind.i64.wrap (x1.1 - 1)) && decide (IntKind.i64.wrap (x1.1 - 1) < (r3.length : Int)) then
      (r3[(IntKind.i64.wrap (x1.1 - 1)).toNat]?).bind fun x3 =>
       (spec_l27Changed (x2.2.1,x2.2.2.1,x2.2.2.2.1,()) x3.2.2.2.1).bind fun x4 =>
        spec_l27Draw_p1 v4 (r3.length : Int) x1.1 x4.2.1 x4.2.2.1 x4.2.2.2.1 r3 x4.1
     else
      none
    else
     spec_l27Draw_p1 v4 (r3.length : Int) x1.1 x2.2.1 x2.2.2.1 x2.2.2.2.1 r3 x2.1
 else
  some ((r3.take r3.length),(r0_0,r0_1,r0_2,())) :=
 (goL_dn _ _ _ 4000 _ _).trans (by kernel_rfl)
theorem spec_l27Draw_p1_eq  (v4 : Int) (v5 : Int) (v6 : Int) (r0_0 : List Int) (r0_1 : Int) (r0_2 : Int) (r3 : List T_Version.ty) (r7 : List T_Setting.ty) : spec_l27Draw_p1 v4 v5 v6 r0_0 r0_1 r0_2 r3 r7 =
 (spec_l00Src_text (r0_0,r0_1,r0_2,()) [[],[110,101,119],[97,32,98]]).bind fun x1 =>
  if decide (r3.length + 1 < lim) then
   spec_l27Draw_p0 (IntKind.i64.wrap (v4 - 1)) x1.2.1 x1.2.2.1 x1.2.2.2.1 ((r3.take r3.length) ++ [(IntKind.i64.wrap (v5 + 1),v6,x1.1,(r7.take r7.length),())])
  else
   none :=
 (goL_dn _ _ _ 4000 _ _).trans (by kernel_rfl)
def spec_R8History_ir : Fn := { np := 1,io := [],res := [.t 2],own := [false],body :=
 (.seq (.reg false [.W 2 (.asg (.c (.nils 4)))] [0] []) (.seq (.reg false [.V 4 (.mv (.t 0)),.W 5 (.call (.c (.fn 441 [])) [.t 4]),.V 3 (.asg (.t 5))] [3] [5,6000]) (.seq (.reg false [.V 6 (.mv (.t 3)),.W 7 (.call (.c (.fn 685 [])) [.t 6]),.W 2 (.asg (.t 7))] [2] [2]) .ret))) }
noncomputable def spec_R8History_D : List (Nat × Callee) := [(441,spec_l00From_c),(685,spec_l27Draw_c)]
def spec_R8History_H : List (Nat × ET) := [(2,T_Version),(4,(.one (.int .u8))),(7,T_Version)]
noncomputable def spec_R8History_c : Callee := mkCallee spec_R8History_D spec_R8History_H spec_R8History_ir [.d (.one (.sl (.one (.int .u8))))] [.d (.one (.sl T_Version))] []
noncomputable def spec_R8History (a0 : List Int) : Option (List T_Version.ty) := spec_R8History_c.f (a0,())
theorem spec_R8History_eq (a0 : List Int) : spec_R8History a0 =
 (spec_l00From a0).bind fun x1 =>
  (spec_l27Draw x1).bind fun x2 =>
   some x2.1 :=
 (mk_f _ _ _ _ _ _ _ 4000).trans (by kernel_rfl)
def laws_r8At_k0 : C :=
 .seq (.reg false [.V 15 (.mv (.t 0)),.V 16 (.mv (.t 1)),.V 17 (.ia 1 (.t 15) (.t 16)),.V 18 (.ld none (.t 17)),.V 19 (.conv (.int .i64) (.t 18)),.V 20 (.mv (.t 2)),.V 21 (.bin .rem (.t 19) (.t 20)),.V 6 (.asg (.t 21))] [6] []) .ret
def laws_r8At_ir : Fn := { np := 3,io := [],res := [.t 6],own := [false],body :=
 (.seq (.reg false [.V 6 (.asg (.c (.int .i64 0)))] [0,1,2] []) (.seq (.seq (.reg false [.V 7 (.mv (.t 2)),.V 8 (.bin .leq (.t 7) (.c (.int .i64 1))),.V 9 (.mv (.t 8)),.G 10 (.mv (.t 1)) 2 false,.G 11 (.mv (.t 0)) 2 false,.G 12 (.len (.t 11)) 2 false,.G 13 (.bin .geq (.t 10) (.t 12)) 2 false,.V 14 (.pick (.t 9) (.c (.bool true)) (.t 13))] [0,1,2,14] []) (.cond (.t 14) (.seq (.reg false [.V 6 (.asg (.c (.int .i64 0)))] [6] []) .ret) .skip)) (.norm [0,1,2] [] laws_r8At_k0))) }
noncomputable def laws_r8At_D : List (Nat × Callee) := []
def laws_r8At_H : List (Nat × ET) := [(11,(.one (.int .u8))),(15,(.one (.int .u8)))]
noncomputable def laws_r8At_c : Callee := mkCallee laws_r8At_D laws_r8At_H laws_r8At_ir [.d (.one (.sl (.one (.int .u8)))),.d (.one (.int .i64)),.d (.one (.int .i64))] [.d (.one (.int .i64))] []
noncomputable def laws_r8At (a0 : List Int) (a1 : Int) (a2 : Int) : Option (Int) := laws_r8At_c.f (a0,a1,a2,())
noncomputable def laws_r8At_p0  (v0 : List Int) (v1 : Int) (v2 : Int) : Option (Int) :=
 goL laws_r8At_D laws_r8At_H (vleave laws_r8At_ir [.d (.one (.sl (.one (.int .u8)))),.d (.one (.int .i64)),.d (.one (.int .i64))] [.d (.one (.int .i64))] [] []) [.c laws_r8At_k0]
  ⟨[(0,.sl (.one (.int .u8)) v0),(1,.int .i64 v1),(2,.int .i64 v2)],[]⟩
theorem laws_r8At_eq (a0 : List Int) (a1 : Int) (a2 : Int) : laws_r8At a0 a1 a2 =
 if decide (a2 ≤ 1) then
  some 0
 else
  if decide (a1 ≥ (a0.length : Int)) then
   some 0
  else
   laws_r8At_p0 a0 a1 a2 :=
 (mk_f _ _ _ _ _ _ _ 4000).trans (by kernel_rfl)
theorem laws_r8At_p0_eq  (v0 : List Int) (v1 : Int) (v2 : Int) : laws_r8At_p0 v0 v1 v2 =
 if decide (0 ≤ v1) then
  (v0[v1.toNat]?).bind fun x1 =>
   if decide (v2 = 0) then
    none
   else
    some ((IntKind.i64.wrap x1).tmod v2)
 else
  none :=
 (goL_dn _ _ _ 4000 _ _).trans (by kernel_rfl)
def impl_isMemo_k0 : C :=
 .seq (.seq (.reg false [.V 4 (.mv (.t 3)),.V 5 (.mv (.t 0)),.V 6 (.lens (.t 5)),.V 7 (.bin .lss (.t 4) (.t 6))] [0,3,7] []) (.cond (.t 7) .skip (.exit 0))) (.seq (.block 1 (.seq (.reg false [.V 10 (.mv (.t 0)),.V 11 (.mv (.t 3)),.V 12 (.ix (.t 10) (.t 11)),.V 13 (.conv (.int .i64) (.t 12)),.V 14 (.call (.c (.fn 23 [])) [.t 13,.c (.int .i64 32),.c (.int .i64 126)]),.V 15 (.un .not (.t 14))] [0,3,15] []) (.cond (.t 15) (.seq (.reg false [.V 2 (.asg (.c (.bool false)))] [2] []) .ret) .skip))) (.reg false [.V 8 (.mv (.t 3)),.V 9 (.bin .add (.t 8) (.c (.int .i64 1))),.V 3 (.asg (.t 9))] [0,3] []))
def impl_isMemo_k1 : C :=
 .norm [0,3] [] impl_isMemo_k0
def impl_isMemo_k2 : C :=
 .seq (.reg false [.V 16 (.mv (.t 0)),.V 17 (.lens (.t 16)),.V 18 (.call (.c (.fn 21 [])) [.t 17,.c (.int .i64 20)]),.V 2 (.asg (.t 18))] [2] []) .ret
def impl_isMemo_ir : Fn := { np := 1,io := [],res := [.t 2],own := [false],body :=
 (.seq (.reg false [.V 2 (.asg (.c (.bool false)))] [0] []) (.seq (.seq (.reg false [.V 3 (.asg (.c (.int .i64 0)))] [0,3] []) (.block 0 (.loop impl_isMemo_k1))) impl_isMemo_k2)) }
noncomputable def impl_isMemo_D : List (Nat × Callee) := [(21,impl_few_c),(23,impl_within_c)]
def impl_isMemo_H : List (Nat × ET) := []
noncomputable def impl_isMemo_c : Callee := mkCallee impl_isMemo_D impl_isMemo_H impl_isMemo_ir [.d (.one .str)] [.d (.one .bool)] []
noncomputable def impl_isMemo (a0 : List UInt8) : Option (Bool) := impl_isMemo_c.f (a0,())
noncomputable def impl_isMemo_p0  (v0 : List UInt8) (v3 : Int) : Option (Bool) :=
 goL impl_isMemo_D impl_isMemo_H (vleave impl_isMemo_ir [.d (.one .str)] [.d (.one .bool)] [] []) [.c impl_isMemo_k0,.l impl_isMemo_k1,.e 0,.c impl_isMemo_k2]
  ⟨[(0,.str v0),(3,.int .i64 v3)],[]⟩
theorem impl_isMemo_eq (a0 : List UInt8) : impl_isMemo a0 =
 impl_isMemo_p0 a0 0 :=
 (mk_f _ _ _ _ _ _ _ 4000).trans (by kernel_rfl)
theorem impl_isMemo_p0_eq  (v0 : List UInt8) (v3 : Int) : impl_isMemo_p0 v0 v3 =
 if decide (v3 < (v0.length : Int)) then
  if decide (0 ≤ v3) then
   (v0[v3.toNat]?).bind fun x1 =>
    (impl_within (IntKind.i64.wrap (x1.toNat : Int)) 32 126).bind fun x2 =>
     if (!x2) then
      some false
     else
      impl_isMemo_p0 v0 (IntKind.i64.wrap (v3 + 1))
  else
   none
 else
  (impl_few (v0.length : Int) 20).bind fun x3 =>
   some x3 :=
 (goL_dn _ _ _ 4000 _ _).trans (by kernel_rfl)
def impl_ValidHistory_k0 : C :=
 .seq (.reg false [.V 8 (.bin .lss (.t 7) (.t 6))] [0,5,6,7,8] []) (.seq (.cond (.t 8) .skip (.exit 0)) (.seq (.block 1 (.seq (.reg false [.V 9 (.mv (.t 7)),.V 10 (.ia 4 (.t 5) (.t 7)),.V 11 (.ld (some 4) (.t 10)),.W 4 (.alloc 4 (.agg [.int .i64 0,.int .i64 0,.str [],.nils 2])),.V 3 (.asg (.t 9)),⟨none,true,.sto 4 (.t 4) (.t 11),none,false,[]⟩] [0,3,4,5,6,7] [4,5003]) (.seq (.reg false [.V 12 (.fa 0 (.t 4)),.V 13 (.ld none (.t 12)),.V 14 (.mv (.t 3)),.V 15 (.bin .add (.t 14) (.c (.int .i64 1))),.V 16 (.bin .neq (.t 13) (.t 15)),.V 17 (.mv (.t 16)),.G 18 (.fa 1 (.t 4)) 5 false,.G 19 (.ld none (.t 18)) 5 false,.G 20 (.mv (.t 3)) 5 false,.G 21 (.call (.c (.fn 23 [])) [.t 19,.c (.int .i64 0),.t 20]) 5 false,.G 22 (.un .not (.t 21)) 5 false,.V 23 (.pick (.t 17) (.c (.bool true)) (.t 22)),.V 24 (.mv (.t 23)),.G 25 (.fa 2 (.t 4)) 12 false,.G 26 (.ld none (.t 25)) 12 false,.G 27 (.call (.c (.fn 697 [])) [.t 26]) 12 false,.G 28 (.un .not (.t 27)) 12 false,.V 29 (.pick (.t 24) (.c (.bool true)) (.t 28)),.V 30 (.mv (.t 29)),.G 31 (.fa 3 (.t 4)) 18 false,.G 32 (.ld none (.t 31)) 18 false,.G 33 (.call (.c (.fn 689 [])) [.t 32]) 18 false,.G 34 (.un .not (.t 33)) 18 false,.V 35 (.pick (.t 30) (.c (.bool true)) (.t 34))] [0,5,6,7,35] []) (.cond (.t 35) (.seq (.reg false [.V 2 (.asg (.c (.bool false)))] [2] []) .ret) .skip)))) (.reg false [.V 36 (.bin .add (.t 7) (.c (.int .i64 1))),.V 7 (.mv (.t 36))] [0,5,6,7] [])))
def impl_ValidHistory_k1 : C :=
 .norm [0,5,6,7] [] impl_ValidHistory_k0
def impl_ValidHistory_k2 : C :=
 .seq (.reg false [.V 37 (.mv (.t 0)),.V 38 (.len (.t 37)),.V 39 (.call (.c (.fn 21 [])) [.t 38,.c (.int .i64 32)]),.V 2 (.asg (.t 39))] [2] []) .ret
def impl_ValidHistory_ir : Fn := { np := 1,io := [],res := [.t 2],own := [false],body :=
 (.seq (.reg false [.V 2 (.asg (.c (.bool false)))] [0] []) (.seq (.seq (.reg false [.V 5 (.mv (.t 0)),.V 6 (.len (.t 5)),.V 7 (.mv (.c (.int .i64 0)))] [0,5,6,7] []) (.block 0 (.loop impl_ValidHistory_k1))) impl_ValidHistory_k2)) }
noncomputable def impl_ValidHistory_D : List (Nat × Callee) := [(21,impl_few_c),(23,impl_within_c),(689,impl_ValidState_c),(697,impl_isMemo_c)]
def impl_ValidHistory_H : List (Nat × ET) := [(5,T_Version),(32,T_Setting),(37,T_Version)]
noncomputable def impl_ValidHistory_c : Callee := mkCallee impl_ValidHistory_D impl_ValidHistory_H impl_ValidHistory_ir [.d (.one (.sl T_Version))] [.d (.one .bool)] []
noncomputable def impl_ValidHistory (a0 : List T_Version.ty) : Option (Bool) := impl_ValidHistory_c.f (a0,())
noncomputable def impl_ValidHistory_p0  (v0 : List T_Version.ty) (v5 : List T_Version.ty) (v6 : Int) (v7 : Int) : Option (Bool) :=
 goL impl_ValidHistory_D impl_ValidHistory_H (vleave impl_ValidHistory_ir [.d (.one (.sl T_Version))] [.d (.one .bool)] [] []) [.c impl_ValidHistory_k0,.l impl_ValidHistory_k1,.e 0,.c impl_ValidHistory_k2]
  ⟨[(0,.sl T_Version v0),(5,.sl T_Version v5),(6,.int .i64 v6),(7,.int .i64 v7)],[]⟩
theorem impl_ValidHistory_eq (a0 : List T_Version.ty) : impl_ValidHistory a0 =
 impl_ValidHistory_p0 a0 a0 (a0.length : Int) 0 :=
 (mk_f _ _ _ _ _ _ _ 4000).trans (by kernel_rfl)
theorem impl_ValidHistory_p0_eq  (v0 : List T_Version.ty) (v5 : List T_Version.ty) (v6 : Int) (v7 : Int) : impl_ValidHistory_p0 v0 v5 v6 v7 =
 if decide (v7 < v6) then
  if decide (0 ≤ v7) then
   (v5[v7.toNat]?).bind fun x1 =>
    if (x1.1 != IntKind.i64.wrap (v7 + 1)) then
     some false
    else
     (impl_within x1.2.1 0 v7).bind fun x2 =>
      if (!x2) then
       some false
      else
       (impl_isMemo x1.2.2.1).bind fun x3 =>
        if (!x3) then
         some false
        else
         (impl_ValidState x1.2.2.2.1).bind fun x4 =>
          if (!x4) then
           some false
          else
           impl_ValidHistory_p0 v0 v5 v6 (IntKind.i64.wrap (v7 + 1))
  else
   none
 else
  (impl_few (v0.length : Int) 32).bind fun x5 =>
   some x5 :=
 (goL_dn _ _ _ 4000 _ _).trans (by kernel_rfl)
def impl_at_ir : Fn := { np := 2,io := [],res := [.t 4],own := [false],body :=
 (.seq (.reg false [.V 4 (.asg (.c (.bool false)))] [0,1] []) (.seq (.reg false [.V 5 (.mv (.t 0)),.V 6 (.bin .geq (.t 5) (.c (.int .i64 0))),.V 7 (.mv (.t 6)),.G 8 (.mv (.t 0)) 2 true,.G 9 (.mv (.t 1)) 2 true,.G 10 (.bin .lss (.t 8) (.t 9)) 2 true,.V 11 (.pick (.t 7) (.t 10) (.c (.bool false))),.V 4 (.asg (.t 11))] [4] []) .ret)) }
noncomputable def impl_at_D : List (Nat × Callee) := []
def impl_at_H : List (Nat × ET) := []
noncomputable def impl_at_c : Callee := mkCallee impl_at_D impl_at_H impl_at_ir [.d (.one (.int .i64)),.d (.one (.int .i64))] [.d (.one .bool)] []
noncomputable def impl_at (a0 : Int) (a1 : Int) : Option (Bool) := impl_at_c.f (a0,a1,())
theorem impl_at_eq (a0 : Int) (a1 : Int) : impl_at a0 a1 =
 if decide (a0 ≥ 0) then
  some (decide (a0 < a1))
 else
  some false :=
 (mk_f _ _ _ _ _ _ _ 4000).trans (by kernel_rfl)
def impl_isVersion_ir : Fn := { np := 2,io := [],res := [.t 4],own := [false],body :=
 (.seq (.reg false [.V 4 (.asg (.c (.bool false)))] [0,1] []) (.seq (.reg false [.V 5 (.mv (.t 1)),.V 6 (.bin .sub (.t 5) (.c (.int .i64 1))),.V 7 (.mv (.t 0)),.V 8 (.len (.t 7)),.V 9 (.call (.c (.fn 4 [])) [.t 6,.t 8]),.V 4 (.asg (.t 9))] [4] []) .ret)) }
noncomputable def impl_isVersion_D : List (Nat × Callee) := [(4,impl_at_c)]
def impl_isVersion_H : List (Nat × ET) := [(7,T_Version)]
noncomputable def impl_isVersion_c : Callee := mkCallee impl_isVersion_D impl_isVersion_H impl_isVersion_ir [.d (.one (.sl T_Version)),.d (.one (.int .i64))] [.d (.one .bool)] []
noncomputable def impl_isVersion (a0 : List T_Version.ty) (a1 : Int) : Option (Bool) := impl_isVersion_c.f (a0,a1,())
theorem impl_isVersion_eq (a0 : List T_Version.ty) (a1 : Int) : impl_isVersion a0 a1 =
 (impl_at (IntKind.i64.wrap (a1 - 1)) (a0.length : Int)).bind fun x1 =>
  some x1 :=
 (mk_f _ _ _ _ _ _ _ 4000).trans (by kernel_rfl)
def impl_ancestors_k0 : C :=
 .seq (.seq (.reg false [.V 14 (.mv (.t 6)),.V 15 (.bin .gtr (.t 14) (.c (.int .i64 0)))] [0,5,6,15] [5]) (.cond (.t 15) .skip (.exit 0))) (.seq (.block 1 (.reg false [.V 22 (.mv (.t 5)),.V 23 (.mv (.t 6)),.V 24 (.bsl 1 (.int .i64 0) 1 [(0,.t 23)]),.W 25 (.app 1 8 (.t 22) (.t 24)),.W 5 (.asg (.t 25))] [0,5,6] [5])) (.reg false [.V 16 (.mv (.t 0)),.V 17 (.mv (.t 6)),.V 18 (.bin .sub (.t 17) (.c (.int .i64 1))),.V 19 (.ia 4 (.t 16) (.t 18)),.V 20 (.fa 1 (.t 19)),.V 21 (.ld none (.t 20)),.V 6 (.asg (.t 21))] [0,5,6] [5]))
def impl_ancestors_k1 : C :=
 .norm [0,5,6] [5] impl_ancestors_k0
def impl_ancestors_k2 : C :=
 .seq (.reg false [.V 26 (.mv (.t 5)),.W 4 (.asg (.t 26))] [4] [4,5]) .ret
def impl_ancestors_ir : Fn := { np := 2,io := [],res := [.t 4],own := [true],body :=
 (.seq (.reg false [.W 4 (.asg (.c (.nils 1)))] [0,1] []) (.seq (.reg false [.V 7 (.bsl 1 (.int .i64 0) 0 []),.W 5 (.asg (.t 7))] [0,1,5] [5]) (.seq (.seq (.reg false [.V 8 (.mv (.t 0)),.V 9 (.mv (.t 1)),.V 10 (.bin .sub (.t 9) (.c (.int .i64 1))),.V 11 (.ia 4 (.t 8) (.t 10)),.V 12 (.fa 1 (.t 11)),.V 13 (.ld none (.t 12)),.V 6 (.asg (.t 13))] [0,5,6] [5]) (.block 0 (.loop impl_ancestors_k1))) impl_ancestors_k2))) }
noncomputable def impl_ancestors_D : List (Nat × Callee) := []
def impl_ancestors_H : List (Nat × ET) := [(4,(.one (.int .i64))),(5,(.one (.int .i64))),(7,(.one (.int .i64))),(8,T_Version),(16,T_Version),(22,(.one (.int .i64))),(24,(.one (.int .i64))),(25,(.one (.int .i64))),(26,(.one (.int .i64)))]
noncomputable def impl_ancestors_c : Callee := mkCallee impl_ancestors_D impl_ancestors_H impl_ancestors_ir [.d (.one (.sl T_Version)),.d (.one (.int .i64))] [.tok (.one (.int .i64))] []
noncomputable def impl_ancestors (a0 : List T_Version.ty) (a1 : Int) : Option (List Int) := impl_ancestors_c.f (a0,a1,())
noncomputable def impl_ancestors_p0  (v0 : List T_Version.ty) (v6 : Int) (r5 : List Int) : Option (List Int) :=
 goL impl_ancestors_D impl_ancestors_H (vleave impl_ancestors_ir [.d (.one (.sl T_Version)),.d (.one (.int .i64))] [.tok (.one (.int .i64))] [] []) [.c impl_ancestors_k0,.l impl_ancestors_k1,.e 0,.c impl_ancestors_k2]
  ⟨[(0,.sl T_Version v0),(5,.view 5 0 r5.length),(6,.int .i64 v6)],[(5,some (.sl (.one (.int .i64)) r5))]⟩
theorem impl_ancestors_eq (a0 : List T_Version.ty) (a1 : Int) : impl_ancestors a0 a1 =
 if decide (0 ≤ IntKind.i64.wrap (a1 - 1)) then
  (a0[(IntKind.i64.wrap (a1 - 1)).toNat]?).bind fun x1 =>
   impl_ancestors_p0 a0 x1.2.1 []
 else
  none :=
 (mk_f _ _ _ _ _ _ _ 4000).trans (by kernel_rfl)
theorem impl_ancestors_p0_eq  (v0 : List T_Version.ty) (v6 : Int) (r5 : List Int) : impl_ancestors_p0 v0 v6 r5 =
 if decide (v6 > 0) then
  if decide (r5.length + 1 < lim) then
   if decide (0 ≤ IntKind.i64.wrap (v6 - 1)) then
    (v0[(IntKind.i64.wrap (v6 - 1)).toNat]?).bind fun x1 =>
     impl_ancestors_p0 v0 x1.2.1 ((r5.take r5.length) ++ [v6])
   else
    none
  else
   none
 else
  some (r5.take r5.length) :=
 (goL_dn _ _ _ 4000 _ _).trans (by kernel_rfl)
def slices_Index___int64_int64__k0 : C :=
 .seq (.reg false [.V 9 (.bin .lss (.t 8) (.t 7))] [0,1,7,8,9] []) (.seq (.cond (.t 9) .skip (.exit 0)) (.seq (.block 1 (.seq (.reg false [.V 10 (.mv (.t 8)),.V 5 (.asg (.t 10))] [0,1,5,7,8] []) (.seq (.reg false [.V 11 (.mv (.t 1)),.V 12 (.mv (.t 0)),.V 13 (.mv (.t 5)),.V 14 (.ia 1 (.t 12) (.t 13)),.V 15 (.ld none (.t 14)),.V 16 (.bin .eql (.t 11) (.t 15))] [0,1,5,7,8,16] []) (.cond (.t 16) (.seq (.reg false [.V 17 (.mv (.t 5)),.V 4 (.asg (.t 17))] [4] []) .ret) .skip)))) (.reg false [.V 18 (.bin .add (.t 8) (.c (.int .i64 1))),.V 8 (.mv (.t 18))] [0,1,7,8] [])))
def slices_Index___int64_int64__k1 : C :=
 .norm [0,1,7,8] [] slices_Index___int64_int64__k0
def slices_Index___int64_int64__k2 : C :=
 .seq (.reg false [.V 4 (.asg (.c (.int .i64 (-1))))] [4] []) .ret
def slices_Index___int64_int64__ir : Fn := { np := 2,io := [],res := [.t 4],own := [false],body :=
 (.seq (.reg false [.V 4 (.asg (.c (.int .i64 0)))] [0,1] []) (.seq (.seq (.reg false [.V 6 (.mv (.t 0)),.V 7 (.len (.t 6)),.V 8 (.mv (.c (.int .i64 0)))] [0,1,7,8] []) (.block 0 (.loop slices_Index___int64_int64__k1))) slices_Index___int64_int64__k2)) }
noncomputable def slices_Index___int64_int64__D : List (Nat × Callee) := []
def slices_Index___int64_int64__H : List (Nat × ET) := [(6,(.one (.int .i64))),(12,(.one (.int .i64)))]
noncomputable def slices_Index___int64_int64__c : Callee := mkCallee slices_Index___int64_int64__D slices_Index___int64_int64__H slices_Index___int64_int64__ir [.d (.one (.sl (.one (.int .i64)))),.d (.one (.int .i64))] [.d (.one (.int .i64))] []
noncomputable def slices_Index___int64_int64_ (a0 : List Int) (a1 : Int) : Option (Int) := slices_Index___int64_int64__c.f (a0,a1,())
noncomputable def slices_Index___int64_int64__p0  (v0 : List Int) (v1 : Int) (v7 : Int) (v8 : Int) : Option (Int) :=
 goL slices_Index___int64_int64__D slices_Index___int64_int64__H (vleave slices_Index___int64_int64__ir [.d (.one (.sl (.one (.int .i64)))),.d (.one (.int .i64))] [.d (.one (.int .i64))] [] []) [.c slices_Index___int64_int64__k0,.l slices_Index___int64_int64__k1,.e 0,.c slices_Index___int64_int64__k2]
  ⟨[(0,.sl (.one (.int .i64)) v0),(1,.int .i64 v1),(7,.int .i64 v7),(8,.int .i64 v8)],[]⟩
theorem slices_Index___int64_int64__eq (a0 : List Int) (a1 : Int) : slices_Index___int64_int64_ a0 a1 =
 slices_Index___int64_int64__p0 a0 a1 (a0.length : Int) 0 :=
 (mk_f _ _ _ _ _ _ _ 4000).trans (by kernel_rfl)
theorem slices_Index___int64_int64__p0_eq  (v0 : List Int) (v1 : Int) (v7 : Int) (v8 : Int) : slices_Index___int64_int64__p0 v0 v1 v7 v8 =
 if decide (v8 < v7) then
  if decide (0 ≤ v8) then
   (v0[v8.toNat]?).bind fun x1 =>
    if (v1 == x1) then
     some v8
    else
     slices_Index___int64_int64__p0 v0 v1 v7 (IntKind.i64.wrap (v8 + 1))
  else
   none
 else
  some (-1) :=
 (goL_dn _ _ _ 4000 _ _).trans (by kernel_rfl)
def slices_Contains___int64_int64__ir : Fn := { np := 2,io := [],res := [.t 4],own := [false],body :=
 (.seq (.reg false [.V 4 (.asg (.c (.bool false)))] [0,1] []) (.seq (.reg false [.V 5 (.mv (.t 0)),.V 6 (.mv (.t 1)),.V 7 (.call (.c (.fn 1043 [])) [.t 5,.t 6]),.V 8 (.bin .geq (.t 7) (.c (.int .i64 0))),.V 4 (.asg (.t 8))] [4] []) .ret)) }
noncomputable def slices_Contains___int64_int64__D : List (Nat × Callee) := [(1043,slices_Index___int64_int64__c)]
def slices_Contains___int64_int64__H : List (Nat × ET) := [(5,(.one (.int .i64)))]
noncomputable def slices_Contains___int64_int64__c : Callee := mkCallee slices_Contains___int64_int64__D slices_Contains___int64_int64__H slices_Contains___int64_int64__ir [.d (.one (.sl (.one (.int .i64)))),.d (.one (.int .i64))] [.d (.one .bool)] []
noncomputable def slices_Contains___int64_int64_ (a0 : List Int) (a1 : Int) : Option (Bool) := slices_Contains___int64_int64__c.f (a0,a1,())
theorem slices_Contains___int64_int64__eq (a0 : List Int) (a1 : Int) : slices_Contains___int64_int64_ a0 a1 =
 (slices_Index___int64_int64_ a0 a1).bind fun x1 =>
  some (decide (x1 ≥ 0)) :=
 (mk_f _ _ _ _ _ _ _ 4000).trans (by kernel_rfl)
def impl_common_k0 : C :=
 .seq (.reg false [.V 24 (.bin .lss (.t 23) (.t 22))] [7,21,22,23,24] [7]) (.seq (.cond (.t 24) .skip (.exit 0)) (.seq (.block 1 (.seq (.reg false [.V 25 (.ia 1 (.t 21) (.t 23)),.V 26 (.ld none (.t 25)),.V 9 (.asg (.t 26))] [7,9,21,22,23] [7]) (.seq (.reg false [.V 27 (.mv (.t 7)),.V 28 (.mv (.t 9)),.V 29 (.call (.c (.fn 932 [])) [.t 27,.t 28])] [7,9,21,22,23,29] [7]) (.cond (.t 29) (.seq (.reg false [.V 30 (.mv (.t 9)),.V 6 (.asg (.t 30))] [6] []) .ret) .skip)))) (.reg false [.V 31 (.bin .add (.t 23) (.c (.int .i64 1))),.V 23 (.mv (.t 31))] [7,21,22,23] [7])))
def impl_common_k1 : C :=
 .norm [7,21,22,23] [7] impl_common_k0
def impl_common_k2 : C :=
 .seq (.reg false [.V 6 (.asg (.c (.int .i64 0)))] [6] []) .ret
def impl_common_ir : Fn := { np := 3,io := [],res := [.t 6],own := [false],body :=
 (.seq (.reg false [.V 6 (.asg (.c (.int .i64 0)))] [0,1,2] []) (.seq (.reg false [.V 10 (.mv (.t 0)),.V 11 (.mv (.t 2)),.V 12 (.call (.c (.fn 699 [])) [.t 10,.t 11]),.V 13 (.mv (.t 2)),.V 14 (.bsl 1 (.int .i64 0) 1 [(0,.t 13)]),.W 15 (.app 1 8 (.t 12) (.t 14)),.W 7 (.asg (.t 15))] [0,1,7] [7]) (.seq (.seq (.reg false [.V 16 (.mv (.t 1)),.V 17 (.bsl 1 (.int .i64 0) 1 [(0,.t 16)]),.V 18 (.mv (.t 0)),.V 19 (.mv (.t 1)),.V 20 (.call (.c (.fn 699 [])) [.t 18,.t 19]),.W 21 (.app 1 8 (.t 17) (.t 20)),.V 22 (.len (.t 21)),.V 23 (.mv (.c (.int .i64 0)))] [7,21,22,23] [7]) (.block 0 (.loop impl_common_k1))) impl_common_k2))) }
noncomputable def impl_common_D : List (Nat × Callee) := [(699,impl_ancestors_c),(932,slices_Contains___int64_int64__c)]
def impl_common_H : List (Nat × ET) := [(7,(.one (.int .i64))),(10,T_Version),(12,(.one (.int .i64))),(14,(.one (.int .i64))),(15,(.one (.int .i64))),(17,(.one (.int .i64))),(18,T_Version),(20,(.one (.int .i64))),(21,(.one (.int .i64))),(27,(.one (.int .i64)))]
noncomputable def impl_common_c : Callee := mkCallee impl_common_D impl_common_H impl_common_ir [.d (.one (.sl T_Version)),.d (.one (.int .i64)),.d (.one (.int .i64))] [.d (.one (.int .i64))] []
noncomputable def impl_common (a0 : List T_Version.ty) (a1 : Int) (a2 : Int) : Option (Int) := impl_common_c.f (a0,a1,a2,())
noncomputable def impl_common_p0  (v21 : List Int) (v22 : Int) (v23 : Int) (r7 : List Int) : Option (Int) :=
 goL impl_common_D impl_common_H (vleave impl_common_ir [.d (.one (.sl T_Version)),.d (.one (.int .i64)),.d (.one (.int .i64))] [.d (.one (.int .i64))] [] []) [.c impl_common_k0,.l impl_common_k1,.e 0,.c impl_common_k2]
  ⟨[(7,.view 7 0 r7.length),(21,.sl (.one (.int .i64)) v21),(22,.int .i64 v22),(23,.int .i64 v23)],[(7,some (.sl (.one (.int .i64)) r7))]⟩
theorem impl_common_eq (a0 : List T_Version.ty) (a1 : Int) (a2 : Int) : impl_common a0 a1 a2 =
 (impl_ancestors a0 a2).bind fun x1 =>
  if decide (x1.length + 1 < lim) then
   (impl_ancestors a0 a1).bind fun x2 =>
    if decide (1 + x2.length < lim) then
     impl_common_p0 ([a1] ++ x2) (([a1] ++ x2).length : Int) 0 (x1 ++ [a2])
    else
     none
  else
   none :=
 (mk_f _ _ _ _ _ _ _ 4000).trans (by kernel_rfl)
theorem impl_common_p0_eq  (v21 : List Int) (v22 : Int) (v23 : Int) (r7 : List Int) : impl_common_p0 v21 v22 v23 r7 =
 if decide (v23 < v22) then
  if decide (0 ≤ v23) then
   (v21[v23.toNat]?).bind fun x1 =>
    (slices_Contains___int64_int64_ (r7.take r7.length) x1).bind fun x2 =>
     if x2 then
      some x1
     else
      impl_common_p0 v21 v22 (IntKind.i64.wrap (v23 + 1)) r7
  else
   none
 else
  some 0 :=
 (goL_dn _ _ _ 4000 _ _).trans (by kernel_rfl)
def impl_CommonAncestor_k0 : C :=
 .seq (.reg false [.V 21 (.mv (.t 0)),.V 22 (.mv (.t 1)),.V 23 (.mv (.t 2)),.V 24 (.call (.c (.fn 702 [])) [.t 21,.t 22,.t 23]),.V 6 (.asg (.t 24)),.V 7 (.asg (.c (.int .i64 0)))] [6,7] []) .ret
def impl_CommonAncestor_ir : Fn := { np := 3,io := [],res := [.t 6,.t 7],own := [false,false],body :=
 (.seq (.reg false [.V 6 (.asg (.c (.int .i64 0))),.V 7 (.asg (.c (.int .i64 0)))] [0,1,2] []) (.seq (.seq (.reg false [.V 8 (.mv (.t 0)),.V 9 (.call (.c (.fn 696 [])) [.t 8]),.V 10 (.un .not (.t 9))] [0,1,2,10] []) (.cond (.t 10) (.seq (.reg false [.V 6 (.asg (.c (.int .i64 0))),.V 7 (.asg (.c (.int .i64 1)))] [6,7] []) .ret) .skip)) (.seq (.seq (.reg false [.V 11 (.mv (.t 0)),.V 12 (.mv (.t 1)),.V 13 (.call (.c (.fn 695 [])) [.t 11,.t 12]),.V 14 (.un .not (.t 13)),.V 15 (.mv (.t 14)),.G 16 (.mv (.t 0)) 4 false,.G 17 (.mv (.t 2)) 4 false,.G 18 (.call (.c (.fn 695 [])) [.t 16,.t 17]) 4 false,.G 19 (.un .not (.t 18)) 4 false,.V 20 (.pick (.t 15) (.c (.bool true)) (.t 19))] [0,1,2,20] []) (.cond (.t 20) (.seq (.reg false [.V 6 (.asg (.c (.int .i64 0))),.V 7 (.asg (.c (.int .i64 3)))] [6,7] []) .ret) .skip)) (.norm [0,1,2] [] impl_CommonAncestor_k0)))) }
noncomputable def impl_CommonAncestor_D : List (Nat × Callee) := [(695,impl_isVersion_c),(696,impl_ValidHistory_c),(702,impl_common_c)]
def impl_CommonAncestor_H : List (Nat × ET) := [(8,T_Version),(11,T_Version),(16,T_Version),(21,T_Version)]
noncomputable def impl_CommonAncestor_c : Callee := mkCallee impl_CommonAncestor_D impl_CommonAncestor_H impl_CommonAncestor_ir [.d (.one (.sl T_Version)),.d (.one (.int .i64)),.d (.one (.int .i64))] [.d (.one (.int .i64)),.d (.one (.int .i64))] []
noncomputable def impl_CommonAncestor (a0 : List T_Version.ty) (a1 : Int) (a2 : Int) : Option (Int × Int) := impl_CommonAncestor_c.f (a0,a1,a2,())
noncomputable def impl_CommonAncestor_p0  (v0 : List T_Version.ty) (v1 : Int) (v2 : Int) : Option (Int × Int) :=
 goL impl_CommonAncestor_D impl_CommonAncestor_H (vleave impl_CommonAncestor_ir [.d (.one (.sl T_Version)),.d (.one (.int .i64)),.d (.one (.int .i64))] [.d (.one (.int .i64)),.d (.one (.int .i64))] [] []) [.c impl_CommonAncestor_k0]
  ⟨[(0,.sl T_Version v0),(1,.int .i64 v1),(2,.int .i64 v2)],[]⟩
theorem impl_CommonAncestor_eq (a0 : List T_Version.ty) (a1 : Int) (a2 : Int) : impl_CommonAncestor a0 a1 a2 =
 (impl_ValidHistory a0).bind fun x1 =>
  if (!x1) then
   some (0,1)
  else
   (impl_isVersion a0 a1).bind fun x2 =>
    if (!x2) then
     some (0,3)
    else
     (impl_isVersion a0 a2).bind fun x3 =>
      if (!x3) then
       some (0,3)
      else
       impl_CommonAncestor_p0 a0 a1 a2 :=
 (mk_f _ _ _ _ _ _ _ 4000).trans (by kernel_rfl)
theorem impl_CommonAncestor_p0_eq  (v0 : List T_Version.ty) (v1 : Int) (v2 : Int) : impl_CommonAncestor_p0 v0 v1 v2 =
 (impl_common v0 v1 v2).bind fun x1 =>
  some (x1,0) :=
 (goL_dn _ _ _ 4000 _ _).trans (by kernel_rfl)
def impl_stateOf_ir : Fn := { np := 2,io := [],res := [.t 4],own := [false],body :=
 (.seq (.reg false [.W 4 (.asg (.c (.nils 2)))] [0,1] []) (.seq (.seq (.reg false [.V 5 (.mv (.t 1)),.V 6 (.bin .eql (.t 5) (.c (.int .i64 0)))] [0,1,6] []) (.cond (.t 6) (.seq (.reg false [.W 4 (.asg (.c (.nils 2)))] [4] [4]) .ret) .skip)) (.seq (.reg false [.V 7 (.mv (.t 0)),.V 8 (.mv (.t 1)),.V 9 (.bin .sub (.t 8) (.c (.int .i64 1))),.V 10 (.ia 4 (.t 7) (.t 9)),.V 11 (.fa 3 (.t 10)),.V 12 (.ld none (.t 11)),.W 4 (.asg (.t 12))] [4] [4]) .ret))) }
noncomputable def impl_stateOf_D : List (Nat × Callee) := []
def impl_stateOf_H : List (Nat × ET) := [(4,T_Setting),(7,T_Version),(12,T_Setting)]
noncomputable def impl_stateOf_c : Callee := mkCallee impl_stateOf_D impl_stateOf_H impl_stateOf_ir [.d (.one (.sl T_Version)),.d (.one (.int .i64))] [.d (.one (.sl T_Setting))] []
noncomputable def impl_stateOf (a0 : List T_Version.ty) (a1 : Int) : Option (List T_Setting.ty) := impl_stateOf_c.f (a0,a1,())
theorem impl_stateOf_eq (a0 : List T_Version.ty) (a1 : Int) : impl_stateOf a0 a1 =
 if (a1 == 0) then
  some []
 else
  if decide (0 ≤ IntKind.i64.wrap (a1 - 1)) then
   (a0[(IntKind.i64.wrap (a1 - 1)).toNat]?).bind fun x1 =>
    some x1.2.2.2.1
  else
   none :=
 (mk_f _ _ _ _ _ _ _ 4000).trans (by kernel_rfl)
def impl_clone_impl_Setting__ir : Fn := { np := 1,io := [],res := [.t 2],own := [true],body :=
 (.seq (.reg false [.W 2 (.asg (.c (.nils 2)))] [0] []) (.seq (.reg false [.V 3 (.mv (.t 0)),.V 4 (.len (.t 3)),.V 5 (.mks 2 24 (.agg [.str [],.int .i64 0]) (.c (.int .i64 0)) (.t 4)),.V 6 (.mv (.t 0)),.W 7 (.app 2 24 (.t 5) (.t 6)),.W 2 (.asg (.t 7))] [2] [2]) .ret)) }
noncomputable def impl_clone_impl_Setting__D : List (Nat × Callee) := []
def impl_clone_impl_Setting__H : List (Nat × ET) := [(2,T_Setting),(3,T_Setting),(5,T_Setting),(6,T_Setting),(7,T_Setting)]
noncomputable def impl_clone_impl_Setting__c : Callee := mkCallee impl_clone_impl_Setting__D impl_clone_impl_Setting__H impl_clone_impl_Setting__ir [.d (.one (.sl T_Setting))] [.tok T_Setting] []
noncomputable def impl_clone_impl_Setting_ (a0 : List T_Setting.ty) : Option (List T_Setting.ty) := impl_clone_impl_Setting__c.f (a0,())
theorem impl_clone_impl_Setting__eq (a0 : List T_Setting.ty) : impl_clone_impl_Setting_ a0 =
 if decide (0 ≤ (a0.length : Int)) && decide ((a0.length : Int).toNat < lim) then
  if decide (0 + a0.length < lim) then
   some (([] ++ a0).take (([] ++ a0).length))
  else
   none
 else
  none :=
 (mk_f _ _ _ _ _ _ _ 4000).trans (by kernel_rfl)
def impl_copyHistory_k0 : C :=
 .seq (.reg false [.V 13 (.bin .lss (.t 12) (.t 11))] [3,10,11,12,13] [3]) (.seq (.cond (.t 13) .skip (.exit 0)) (.seq (.block 1 (.seq (.reg false [.V 14 (.ia 4 (.t 10) (.t 12)),.V 15 (.ld (some 4) (.t 14)),.W 5 (.alloc 4 (.agg [.int .i64 0,.int .i64 0,.str [],.nils 2])),⟨none,true,.sto 4 (.t 5) (.t 15),none,false,[]⟩] [3,5,10,11,12] [3,5,6003]) (.seq (.reg false [.V 16 (.fa 3 (.t 5)),.V 17 (.ld none (.t 16)),.V 18 (.call (.c (.fn 691 [])) [.t 17]),.V 19 (.fa 3 (.t 5)),⟨none,true,.sto 1 (.t 19) (.t 18),none,false,[]⟩] [3,5,10,11,12] [3,5,6003]) (.reg false [.V 20 (.mv (.t 3)),.V 21 (.ld (some 4) (.t 5)),.W 22 (.bsl 4 (.agg [.int .i64 0,.int .i64 0,.str [],.sl 2 []]) 1 [(0,.t 21)]),.W 23 (.app 4 56 (.t 20) (.t 22)),.W 3 (.asg (.t 23))] [3,10,11,12] [3])))) (.reg false [.V 24 (.bin .add (.t 12) (.c (.int .i64 1))),.V 12 (.mv (.t 24))] [3,10,11,12] [3])))
def impl_copyHistory_k1 : C :=
 .norm [3,10,11,12] [3] impl_copyHistory_k0
def impl_copyHistory_k2 : C :=
 .seq (.reg false [.V 25 (.mv (.t 3)),.W 2 (.asg (.t 25))] [2] [2,3]) .ret
def impl_copyHistory_ir : Fn := { np := 1,io := [],res := [.t 2],own := [true],body :=
 (.seq (.reg false [.W 2 (.asg (.c (.nils 4)))] [0] []) (.seq (.reg false [.V 6 (.mv (.t 0)),.V 7 (.len (.t 6)),.V 8 (.bin .add (.t 7) (.c (.int .i64 1))),.V 9 (.mks 4 56 (.agg [.int .i64 0,.int .i64 0,.str [],.sl 2 []]) (.c (.int .i64 0)) (.t 8)),.W 3 (.asg (.t 9))] [0,3] [3]) (.seq (.seq (.reg false [.V 10 (.mv (.t 0)),.V 11 (.len (.t 10)),.V 12 (.mv (.c (.int .i64 0)))] [3,10,11,12] [3]) (.block 0 (.loop impl_copyHistory_k1))) impl_copyHistory_k2))) }
noncomputable def impl_copyHistory_D : List (Nat × Callee) := [(691,impl_clone_impl_Setting__c)]
def impl_copyHistory_H : List (Nat × ET) := [(2,T_Version),(3,T_Version),(6,T_Version),(9,T_Version),(10,T_Version),(17,T_Setting),(18,T_Setting),(20,T_Version),(22,T_Version),(23,T_Version),(25,T_Version)]
noncomputable def impl_copyHistory_c : Callee := mkCallee impl_copyHistory_D impl_copyHistory_H impl_copyHistory_ir [.d (.one (.sl T_Version))] [.tok T_Version] []
noncomputable def impl_copyHistory (a0 : List T_Version.ty) : Option (List T_Version.ty) := impl_copyHistory_c.f (a0,())
noncomputable def impl_copyHistory_p0  (v10 : List T_Version.ty) (v11 : Int) (v12 : Int) (r3 : List T_Version.ty) : Option (List T_Version.ty) :=
 goL impl_copyHistory_D impl_copyHistory_H (vleave impl_copyHistory_ir [.d (.one (.sl T_Version))] [.tok T_Version] [] []) [.c impl_copyHistory_k0,.l impl_copyHistory_k1,.e 0,.c impl_copyHistory_k2]
  ⟨[(3,.view 3 0 r3.length),(10,.sl T_Version v10),(11,.int .i64 v11),(12,.int .i64 v12)],[(3,some (.sl T_Version r3))]⟩
theorem impl_copyHistory_eq (a0 : List T_Version.ty) : impl_copyHistory a0 =
 if decide (0 ≤ IntKind.i64.wrap ((a0.length : Int) + 1)) && decide ((IntKind.i64.wrap ((a0.length : Int) + 1)).toNat < lim) then
  impl_copyHistory_p0 a0 (a0.length : Int) 0 []
 else
  none :=
 (mk_f _ _ _ _ _ _ _ 4000).trans (by kernel_rfl)
theorem impl_copyHistory_p0_eq  (v10 : List T_Version.ty) (v11 : Int) (v12 : Int) (r3 : List T_Version.ty) : impl_copyHistory_p0 v10 v11 v12 r3 =
 if decide (v12 < v11) then
  if decide (0 ≤ v12) then
   (v10[v12.toNat]?).bind fun x1 =>
    (impl_clone_impl_Setting_ x1.2.2.2.1).bind fun x2 =>
     if decide (r3.length + 1 < lim) then
      impl_copyHistory_p0 v10 v11 (IntKind.i64.wrap (v12 + 1)) ((r3.take r3.length) ++ [(x1.1,x1.2.1,x1.2.2.1,(x2.take x2.length),())])
     else
      none
  else
   none
 else
  some (r3.take r3.length) :=
 (goL_dn _ _ _ 4000 _ _).trans (by kernel_rfl)
def impl_commit_ir : Fn := { np := 4,io := [],res := [.t 8,.t 9],own := [false,false],body :=
 (.seq (.reg false [.W 8 (.asg (.c (.nils 4))),.V 9 (.asg (.c (.int .i64 0)))] [0,1,2,3] []) (.seq (.seq (.reg false [.V 10 (.mv (.t 0)),.V 11 (.len (.t 10)),.V 12 (.bin .eql (.t 11) (.c (.int .i64 32)))] [0,1,2,3,12] []) (.cond (.t 12) (.seq (.reg false [.W 8 (.asg (.c (.nils 4))),.V 9 (.asg (.c (.int .i64 5)))] [8,9] [8]) .ret) .skip)) (.seq (.reg false [.V 13 (.mv (.t 0)),.V 14 (.call (.c (.fn 930 [])) [.t 13]),.V 15 (.mv (.t 0)),.V 16 (.len (.t 15)),.V 17 (.bin .add (.t 16) (.c (.int .i64 1))),.V 18 (.mv (.t 1)),.V 19 (.mv (.t 2)),.V 20 (.mv (.t 3)),.V 21 (.call (.c (.fn 691 [])) [.t 20]),.V 22 (.build [.int .i64 0,.int .i64 0,.str [],.nils 2] [(0,1,.t 17),(1,1,.t 18),(2,1,.t 19),(3,1,.t 21)]),.W 23 (.bsl 4 (.agg [.int .i64 0,.int .i64 0,.str [],.sl 2 []]) 1 [(0,.t 22)]),.W 24 (.app 4 56 (.t 14) (.t 23)),.W 8 (.asg (.t 24)),.V 9 (.asg (.c (.int .i64 0)))] [8,9] [8]) .ret))) }
noncomputable def impl_commit_D : List (Nat × Callee) := [(691,impl_clone_impl_Setting__c),(930,impl_copyHistory_c)]
def impl_commit_H : List (Nat × ET) := [(8,T_Version),(10,T_Version),(13,T_Version),(14,T_Version),(15,T_Version),(20,T_Setting),(21,T_Setting),(23,T_Version),(24,T_Version)]
noncomputable def impl_commit_c : Callee := mkCallee impl_commit_D impl_commit_H impl_commit_ir [.d (.one (.sl T_Version)),.d (.one (.int .i64)),.d (.one .str),.d (.one (.sl T_Setting))] [.d (.one (.sl T_Version)),.d (.one (.int .i64))] []
noncomputable def impl_commit (a0 : List T_Version.ty) (a1 : Int) (a2 : List UInt8) (a3 : List T_Setting.ty) : Option (List T_Version.ty × Int) := impl_commit_c.f (a0,a1,a2,a3,())
theorem impl_commit_eq (a0 : List T_Version.ty) (a1 : Int) (a2 : List UInt8) (a3 : List T_Setting.ty) : impl_commit a0 a1 a2 a3 =
 if ((a0.length : Int) == 32) then
  some ([],5)
 else
  (impl_copyHistory a0).bind fun x1 =>
   (impl_clone_impl_Setting_ a3).bind fun x2 =>
    if decide (x1.length + 1 < lim) then
     some (((x1 ++ [(IntKind.i64.wrap ((a0.length : Int) + 1),a1,a2,x2,())]).take ((x1 ++ [(IntKind.i64.wrap ((a0.length : Int) + 1),a1,a2,x2,())]).length)),0)
    else
     none :=
 (mk_f _ _ _ _ _ _ _ 4000).trans (by kernel_rfl)
def impl_MergeVersions_k0 : C :=
 .seq (.reg false [.V 31 (.mv (.t 0)),.V 32 (.mv (.t 0)),.V 33 (.mv (.t 1)),.V 34 (.mv (.t 2)),.V 35 (.call (.c (.fn 702 [])) [.t 32,.t 33,.t 34]),.V 36 (.call (.c (.fn 698 [])) [.t 31,.t 35]),.V 37 (.mv (.t 0)),.V 38 (.mv (.t 1)),.V 39 (.call (.c (.fn 698 [])) [.t 37,.t 38]),.V 40 (.mv (.t 0)),.V 41 (.mv (.t 2)),.V 42 (.call (.c (.fn 698 [])) [.t 40,.t 41]),.V 43 (.call (.c (.fn 280 [])) [.t 36,.t 39,.t 42]),.V 30 (.mv (.t 43)),.V 44 (.ext (.t 30) 0),.V 45 (.ext (.t 30) 1),.W 10 (.asg (.t 44)),.V 11 (.asg (.t 45))] [0,1,3,10,11] [10]) (.seq (.seq (.reg false [.V 46 (.mv (.t 11)),.V 47 (.bin .neq (.t 46) (.c (.int .i64 0)))] [0,1,3,10,11,47] [10]) (.cond (.t 47) (.seq (.reg false [.V 48 (.mv (.t 11)),.W 8 (.asg (.c (.nils 4))),.V 9 (.asg (.t 48))] [8,9] [8]) .ret) .skip)) (.seq (.reg false [.V 49 (.mv (.t 0)),.V 50 (.mv (.t 1)),.V 51 (.mv (.t 3)),.V 52 (.mv (.t 10)),.W 53 (.call (.c (.fn 694 [])) [.t 49,.t 50,.t 51,.t 52]),.V 54 (.ext (.t 53) 0),.V 55 (.ext (.t 53) 1),.W 8 (.asg (.t 54)),.V 9 (.asg (.t 55))] [8,9] [8]) .ret))
def impl_MergeVersions_k1 : C :=
 .seq (.seq (.reg false [.V 20 (.mv (.t 0)),.V 21 (.mv (.t 1)),.V 22 (.call (.c (.fn 695 [])) [.t 20,.t 21]),.V 23 (.un .not (.t 22)),.V 24 (.mv (.t 23)),.G 25 (.mv (.t 0)) 4 false,.G 26 (.mv (.t 2)) 4 false,.G 27 (.call (.c (.fn 695 [])) [.t 25,.t 26]) 4 false,.G 28 (.un .not (.t 27)) 4 false,.V 29 (.pick (.t 24) (.c (.bool true)) (.t 28))] [0,1,2,3,29] []) (.cond (.t 29) (.seq (.reg false [.W 8 (.asg (.c (.nils 4))),.V 9 (.asg (.c (.int .i64 3)))] [8,9] [8]) .ret) .skip)) (.norm [0,1,2,3] [] impl_MergeVersions_k0)
def impl_MergeVersions_ir : Fn := { np := 4,io := [],res := [.t 8,.t 9],own := [false,false],body :=
 (.seq (.reg false [.W 8 (.asg (.c (.nils 4))),.V 9 (.asg (.c (.int .i64 0)))] [0,1,2,3] []) (.seq (.seq (.reg false [.V 12 (.mv (.t 0)),.V 13 (.call (.c (.fn 696 [])) [.t 12]),.V 14 (.un .not (.t 13)),.V 15 (.mv (.t 14)),.G 16 (.mv (.t 3)) 3 false,.G 17 (.call (.c (.fn 697 [])) [.t 16]) 3 false,.G 18 (.un .not (.t 17)) 3 false,.V 19 (.pick (.t 15) (.c (.bool true)) (.t 18))] [0,1,2,3,19] []) (.cond (.t 19) (.seq (.reg false [.W 8 (.asg (.c (.nils 4))),.V 9 (.asg (.c (.int .i64 1)))] [8,9] [8]) .ret) .skip)) (.norm [0,1,2,3] [] impl_MergeVersions_k1))) }
noncomputable def impl_MergeVersions_D : List (Nat × Callee) := [(280,impl_MergeStates_c),(694,impl_commit_c),(695,impl_isVersion_c),(696,impl_ValidHistory_c),(697,impl_isMemo_c),(698,impl_stateOf_c),(702,impl_common_c)]
def impl_MergeVersions_H : List (Nat × ET) := [(8,T_Version),(10,T_Setting),(12,T_Version),(20,T_Version),(25,T_Version),(31,T_Version),(32,T_Version),(36,T_Setting),(37,T_Version),(39,T_Setting),(40,T_Version),(42,T_Setting),(44,T_Setting),(49,T_Version),(52,T_Setting),(54,T_Version)]
noncomputable def impl_MergeVersions_c : Callee := mkCallee impl_MergeVersions_D impl_MergeVersions_H impl_MergeVersions_ir [.d (.one (.sl T_Version)),.d (.one (.int .i64)),.d (.one (.int .i64)),.d (.one .str)] [.d (.one (.sl T_Version)),.d (.one (.int .i64))] []
noncomputable def impl_MergeVersions (a0 : List T_Version.ty) (a1 : Int) (a2 : Int) (a3 : List UInt8) : Option (List T_Version.ty × Int) := impl_MergeVersions_c.f (a0,a1,a2,a3,())
noncomputable def impl_MergeVersions_p0  (v0 : List T_Version.ty) (v1 : Int) (v2 : Int) (v3 : List UInt8) : Option (List T_Version.ty × Int) :=
 goL impl_MergeVersions_D impl_MergeVersions_H (vleave impl_MergeVersions_ir [.d (.one (.sl T_Version)),.d (.one (.int .i64)),.d (.one (.int .i64)),.d (.one .str)] [.d (.one (.sl T_Version)),.d (.one (.int .i64))] [] []) [.c impl_MergeVersions_k1]
  ⟨[(0,.sl T_Version v0),(1,.int .i64 v1),(2,.int .i64 v2),(3,.str v3)],[]⟩
noncomputable def impl_MergeVersions_p1  (v0 : List T_Version.ty) (v1 : Int) (v2 : Int) (v3 : List UInt8) : Option (List T_Version.ty × Int) :=
 goL impl_MergeVersions_D impl_MergeVersions_H (vleave impl_MergeVersions_ir [.d (.one (.sl T_Version)),.d (.one (.int .i64)),.d (.one (.int .i64)),.d (.one .str)] [.d (.one (.sl T_Version)),.d (.one (.int .i64))] [] []) [.c impl_MergeVersions_k0]
  ⟨[(0,.sl T_Version v0),(1,.int .i64 v1),(2,.int .i64 v2),(3,.str v3)],[]⟩
theorem impl_MergeVersions_eq (a0 : List T_Version.ty) (a1 : Int) (a2 : Int) (a3 : List UInt8) : impl_MergeVersions a0 a1 a2 a3 =
 (impl_ValidHistory a0).bind fun x1 =>
  if (!x1) then
   some ([],1)
  else
   (impl_isMemo a3).bind fun x2 =>
    if (!x2) then
     some ([],1)
    else
     impl_MergeVersions_p0 a0 a1 a2 a3 :=
 (mk_f _ _ _ _ _ _ _ 4000).trans (by kernel_rfl)
theorem impl_MergeVersions_p0_eq  (v0 : List T_Version.ty) (v1 : Int) (v2 : Int) (v3 : List UInt8) : impl_MergeVersions_p0 v0 v1 v2 v3 =
 (impl_isVersion v0 v1).bind fun x1 =>
  if (!x1) then
   some ([],3)
  else
   (impl_isVersion v0 v2).bind fun x2 =>
    if (!x2) then
     some ([],3)
    else
     impl_MergeVersions_p1 v0 v1 v2 v3 :=
 (goL_dn _ _ _ 4000 _ _).trans (by kernel_rfl)
theorem impl_MergeVersions_p1_eq  (v0 : List T_Version.ty) (v1 : Int) (v2 : Int) (v3 : List UInt8) : impl_MergeVersions_p1 v0 v1 v2 v3 =
 (impl_common v0 v1 v2).bind fun x1 =>
  (impl_stateOf v0 x1).bind fun x2 =>
   (impl_stateOf v0 v1).bind fun x3 =>
    (impl_stateOf v0 v2).bind fun x4 =>
     (impl_MergeStates x2 x3 x4).bind fun x5 =>
      if (x5.2 != 0) then
       some ([],x5.2)
      else
       (impl_commit v0 v1 v3 (x5.1.take x5.1.length)).bind fun x6 =>
        some (x6.1,x6.2) :=
 (goL_dn _ _ _ 4000 _ _).trans (by kernel_rfl)
def spec_l27Memo_k0 : C :=
 .seq (.seq (.reg false [.V 4 (.mv (.t 3)),.V 5 (.mv (.t 0)),.V 6 (.lens (.t 5)),.V 7 (.bin .lss (.t 4) (.t 6))] [0,3,7] []) (.cond (.t 7) .skip (.exit 0))) (.seq (.block 1 (.seq (.reg false [.V 10 (.mv (.t 0)),.V 11 (.mv (.t 3)),.V 12 (.ix (.t 10) (.t 11)),.V 13 (.bin .lss (.t 12) (.c (.int .u8 32))),.V 14 (.mv (.t 13)),.G 15 (.mv (.t 0)) 4 false,.G 16 (.mv (.t 3)) 4 false,.G 17 (.ix (.t 15) (.t 16)) 4 false,.G 18 (.bin .gtr (.t 17) (.c (.int .u8 126))) 4 false,.V 19 (.pick (.t 14) (.c (.bool true)) (.t 18))] [0,3,19] []) (.cond (.t 19) (.seq (.reg false [.V 2 (.asg (.c (.bool false)))] [2] []) .ret) .skip))) (.reg false [.V 8 (.mv (.t 3)),.V 9 (.bin .add (.t 8) (.c (.int .i64 1))),.V 3 (.asg (.t 9))] [0,3] []))
def spec_l27Memo_k1 : C :=
 .norm [0,3] [] spec_l27Memo_k0
def spec_l27Memo_k2 : C :=
 .seq (.reg false [.V 20 (.mv (.t 0)),.V 21 (.lens (.t 20)),.V 22 (.bin .leq (.t 21) (.c (.int .i64 20))),.V 2 (.asg (.t 22))] [2] []) .ret
def spec_l27Memo_ir : Fn := { np := 1,io := [],res := [.t 2],own := [false],body :=
 (.seq (.reg false [.V 2 (.asg (.c (.bool false)))] [0] []) (.seq (.seq (.reg false [.V 3 (.asg (.c (.int .i64 0)))] [0,3] []) (.block 0 (.loop spec_l27Memo_k1))) spec_l27Memo_k2)) }
noncomputable def spec_l27Memo_D : List (Nat × Callee) := []
def spec_l27Memo_H : List (Nat × ET) := []
noncomputable def spec_l27Memo_c : Callee := mkCallee spec_l27Memo_D spec_l27Memo_H spec_l27Memo_ir [.d (.one .str)] [.d (.one .bool)] []
noncomputable def spec_l27Memo (a0 : List UInt8) : Option (Bool) := spec_l27Memo_c.f (a0,())
noncomputable def spec_l27Memo_p0  (v0 : List UInt8) (v3 : Int) : Option (Bool) :=
 goL spec_l27Memo_D spec_l27Memo_H (vleave spec_l27Memo_ir [.d (.one .str)] [.d (.one .bool)] [] []) [.c spec_l27Memo_k0,.l spec_l27Memo_k1,.e 0,.c spec_l27Memo_k2]
  ⟨[(0,.str v0),(3,.int .i64 v3)],[]⟩
theorem spec_l27Memo_eq (a0 : List UInt8) : spec_l27Memo a0 =
 spec_l27Memo_p0 a0 0 :=
 (mk_f _ _ _ _ _ _ _ 4000).trans (by kernel_rfl)
theorem spec_l27Memo_p0_eq  (v0 : List UInt8) (v3 : Int) : spec_l27Memo_p0 v0 v3 =
 if decide (v3 < (v0.length : Int)) then
  if decide (0 ≤ v3) then
   (v0[v3.toNat]?).bind fun x1 =>
    if decide ((x1.toNat : Int) < 32) then
     some false
    else
     if decide (0 ≤ v3) then
      (v0[v3.toNat]?).bind fun x2 =>
       if decide ((x2.toNat : Int) > 126) then
        some false
       else
        spec_l27Memo_p0 v0 (IntKind.i64.wrap (v3 + 1))
     else
      none
  else
   none
 else
  some (decide ((v0.length : Int) ≤ 20)) :=
 (goL_dn _ _ _ 4000 _ _).trans (by kernel_rfl)
def spec_l27Ok_k0 : C :=
 .seq (.seq (.reg false [.V 5 (.mv (.t 3)),.V 6 (.mv (.t 0)),.V 7 (.len (.t 6)),.V 8 (.bin .lss (.t 5) (.t 7))] [0,3,8] []) (.cond (.t 8) .skip (.exit 0))) (.seq (.block 1 (.seq (.reg false [.V 11 (.mv (.t 0)),.V 12 (.mv (.t 3)),.V 13 (.ia 4 (.t 11) (.t 12)),.V 14 (.ld (some 4) (.t 13)),.W 4 (.alloc 4 (.agg [.int .i64 0,.int .i64 0,.str [],.nils 2])),⟨none,true,.sto 4 (.t 4) (.t 14),none,false,[]⟩] [0,3,4] [4,5003]) (.seq (.reg false [.V 15 (.fa 0 (.t 4)),.V 16 (.ld none (.t 15)),.V 17 (.mv (.t 3)),.V 18 (.bin .add (.t 17) (.c (.int .i64 1))),.V 19 (.bin .neq (.t 16) (.t 18)),.V 20 (.mv (.t 19)),.G 21 (.fa 1 (.t 4)) 5 false,.G 22 (.ld none (.t 21)) 5 false,.G 23 (.mv (.t 3)) 5 false,.G 24 (.call (.c (.fn 1 [])) [.t 22,.c (.int .i64 0),.t 23]) 5 false,.G 25 (.un .not (.t 24)) 5 false,.V 26 (.pick (.t 20) (.c (.bool true)) (.t 25)),.V 27 (.mv (.t 26)),.G 28 (.fa 2 (.t 4)) 12 false,.G 29 (.ld none (.t 28)) 12 false,.G 30 (.call (.c (.fn 933 [])) [.t 29]) 12 false,.G 31 (.un .not (.t 30)) 12 false,.V 32 (.pick (.t 27) (.c (.bool true)) (.t 31)),.V 33 (.mv (.t 32)),.G 34 (.fa 3 (.t 4)) 18 false,.G 35 (.ld none (.t 34)) 18 false,.G 36 (.call (.c (.fn 706 [])) [.t 35]) 18 false,.G 37 (.un .not (.t 36)) 18 false,.V 38 (.pick (.t 33) (.c (.bool true)) (.t 37))] [0,3,38] []) (.cond (.t 38) (.seq (.reg false [.V 2 (.asg (.c (.bool false)))] [2] []) .ret) .skip)))) (.reg false [.V 9 (.mv (.t 3)),.V 10 (.bin .add (.t 9) (.c (.int .i64 1))),.V 3 (.asg (.t 10))] [0,3] []))
def spec_l27Ok_k1 : C :=
 .norm [0,3] [] spec_l27Ok_k0
def spec_l27Ok_k2 : C :=
 .seq (.reg false [.V 39 (.mv (.t 0)),.V 40 (.len (.t 39)),.V 41 (.bin .leq (.t 40) (.c (.int .i64 32))),.V 2 (.asg (.t 41))] [2] []) .ret
def spec_l27Ok_ir : Fn := { np := 1,io := [],res := [.t 2],own := [false],body :=
 (.seq (.reg false [.V 2 (.asg (.c (.bool false)))] [0] []) (.seq (.seq (.reg false [.V 3 (.asg (.c (.int .i64 0)))] [0,3] []) (.block 0 (.loop spec_l27Ok_k1))) spec_l27Ok_k2)) }
noncomputable def spec_l27Ok_D : List (Nat × Callee) := [(1,spec_l00In_c),(706,spec_l27State_c),(933,spec_l27Memo_c)]
def spec_l27Ok_H : List (Nat × ET) := [(6,T_Version),(11,T_Version),(35,T_Setting),(39,T_Version)]
noncomputable def spec_l27Ok_c : Callee := mkCallee spec_l27Ok_D spec_l27Ok_H spec_l27Ok_ir [.d (.one (.sl T_Version))] [.d (.one .bool)] []
noncomputable def spec_l27Ok (a0 : List T_Version.ty) : Option (Bool) := spec_l27Ok_c.f (a0,())
noncomputable def spec_l27Ok_p0  (v0 : List T_Version.ty) (v3 : Int) : Option (Bool) :=
 goL spec_l27Ok_D spec_l27Ok_H (vleave spec_l27Ok_ir [.d (.one (.sl T_Version))] [.d (.one .bool)] [] []) [.c spec_l27Ok_k0,.l spec_l27Ok_k1,.e 0,.c spec_l27Ok_k2]
  ⟨[(0,.sl T_Version v0),(3,.int .i64 v3)],[]⟩
theorem spec_l27Ok_eq (a0 : List T_Version.ty) : spec_l27Ok a0 =
 spec_l27Ok_p0 a0 0 :=
 (mk_f _ _ _ _ _ _ _ 4000).trans (by kernel_rfl)
theorem spec_l27Ok_p0_eq  (v0 : List T_Version.ty) (v3 : Int) : spec_l27Ok_p0 v0 v3 =
 if decide (v3 < (v0.length : Int)) then
  if decide (0 ≤ v3) then
   (v0[v3.toNat]?).bind fun x1 =>
    if (x1.1 != IntKind.i64.wrap (v3 + 1)) then
     some false
    else
     (spec_l00In x1.2.1 0 v3).bind fun x2 =>
      if (!x2) then
       some false
      else
       (spec_l27Memo x1.2.2.1).bind fun x3 =>
        if (!x3) then
         some false
        else
         (spec_l27State x1.2.2.2.1).bind fun x4 =>
          if (!x4) then
           some false
          else
           spec_l27Ok_p0 v0 (IntKind.i64.wrap (v3 + 1))
  else
   none
 else
  some (decide ((v0.length : Int) ≤ 32)) :=
 (goL_dn _ _ _ 4000 _ _).trans (by kernel_rfl)
def spec_ValidHistory_ir : Fn := { np := 1,io := [],res := [.t 2],own := [false],body :=
 (.seq (.reg false [.V 2 (.asg (.c (.bool false)))] [0] []) (.seq (.reg false [.V 3 (.mv (.t 0)),.V 4 (.call (.c (.fn 703 [])) [.t 3]),.V 2 (.asg (.t 4))] [2] []) .ret)) }
noncomputable def spec_ValidHistory_D : List (Nat × Callee) := [(703,spec_l27Ok_c)]
def spec_ValidHistory_H : List (Nat × ET) := [(3,T_Version)]
noncomputable def spec_ValidHistory_c : Callee := mkCallee spec_ValidHistory_D spec_ValidHistory_H spec_ValidHistory_ir [.d (.one (.sl T_Version))] [.d (.one .bool)] []
noncomputable def spec_ValidHistory (a0 : List T_Version.ty) : Option (Bool) := spec_ValidHistory_c.f (a0,())
theorem spec_ValidHistory_eq (a0 : List T_Version.ty) : spec_ValidHistory a0 =
 (spec_l27Ok a0).bind fun x1 =>
  some x1 :=
 (mk_f _ _ _ _ _ _ _ 4000).trans (by kernel_rfl)
def laws_FnMerges_k0 : C :=
 .seq (.reg false [.V 218 (.mv (.t 31)),.V 219 (.bin .neq (.t 218) (.c (.int .i64 0))),.V 220 (.mv (.t 219)),.G 221 (.mv (.t 30)) 2 false,.G 222 (.len (.t 221)) 2 false,.G 223 (.mv (.t 23)) 2 false,.G 224 (.bin .add (.t 223) (.c (.int .i64 1))) 2 false,.G 225 (.bin .eql (.t 222) (.t 224)) 2 false,.G 226 (.mv (.t 225)) 2 false,.G 227 (.mv (.t 30)) 8 true,.G 228 (.call (.c (.fn 267 [])) [.t 227]) 8 true,.G 229 (.pick (.t 226) (.t 228) (.c (.bool false))) 2 false,.V 230 (.pick (.t 220) (.c (.bool true)) (.t 229)),.V 4 (.asg (.t 230))] [4] []) .ret
def laws_FnMerges_k1 : C :=
 .seq (.reg false [.V 161 (.mv (.t 1)),.V 162 (.call (.c (.fn 277 [])) [.t 161]),.W 22 (.asg (.t 162))] [1,22] [22]) (.seq (.reg false [.V 163 (.mv (.t 22)),.V 164 (.len (.t 163)),.V 23 (.asg (.t 164))] [1,22,23] [22]) (.seq (.seq (.reg false [.V 165 (.mv (.t 23)),.V 166 (.bin .eql (.t 165) (.c (.int .i64 0)))] [1,22,23,166] [22]) (.cond (.t 166) (.seq (.reg false [.V 4 (.asg (.c (.bool true)))] [4] []) .ret) .skip)) (.seq (.reg false [.V 167 (.mv (.t 1)),.V 168 (.mv (.t 23)),.V 169 (.call (.c (.fn 151 [])) [.t 167,.c (.int .i64 0),.t 168]),.V 170 (.bin .add (.c (.int .i64 1)) (.t 169)),.V 24 (.asg (.t 170))] [1,22,23,24] [22]) (.seq (.reg false [.V 171 (.mv (.t 1)),.V 172 (.mv (.t 23)),.V 173 (.call (.c (.fn 151 [])) [.t 171,.c (.int .i64 1),.t 172]),.V 174 (.bin .add (.c (.int .i64 1)) (.t 173)),.V 25 (.asg (.t 174))] [22,23,24,25] [22]) (.seq (.reg false [.V 176 (.mv (.t 22)),.V 177 (.mv (.t 24)),.V 178 (.mv (.t 25)),.V 179 (.call (.c (.fn 268 [])) [.t 176,.t 177,.t 178]),.V 175 (.mv (.t 179)),.V 180 (.ext (.t 175) 0),.V 181 (.ext (.t 175) 1),.V 26 (.asg (.t 180)),.V 27 (.asg (.t 181))] [22,23,24,25,26,27] [22]) (.seq (.reg false [.V 183 (.mv (.t 22)),.V 184 (.mv (.t 25)),.V 185 (.mv (.t 24)),.V 186 (.call (.c (.fn 268 [])) [.t 183,.t 184,.t 185]),.V 182 (.mv (.t 186)),.V 187 (.ext (.t 182) 0),.V 188 (.ext (.t 182) 1),.V 28 (.asg (.t 187)),.V 29 (.asg (.t 188))] [22,23,24,25,26,27,28,29] [22]) (.seq (.reg false [.V 190 (.mv (.t 22)),.V 191 (.mv (.t 24)),.V 192 (.mv (.t 25)),.W 193 (.call (.c (.fn 278 [])) [.t 190,.t 191,.t 192,.c (.str [98,111,116,104])]),.V 189 (.mv (.t 193)),.V 194 (.ext (.t 189) 0),.V 195 (.ext (.t 189) 1),.W 30 (.asg (.t 194)),.V 31 (.asg (.t 195))] [23,24,25,26,27,28,29,30,31] [30]) (.seq (.seq (.reg false [.V 196 (.mv (.t 27)),.V 197 (.bin .neq (.t 196) (.c (.int .i64 0))),.V 198 (.mv (.t 197)),.G 199 (.mv (.t 29)) 2 false,.G 200 (.bin .neq (.t 199) (.c (.int .i64 0))) 2 false,.V 201 (.pick (.t 198) (.c (.bool true)) (.t 200)),.V 202 (.mv (.t 201)),.G 203 (.mv (.t 26)) 6 false,.G 204 (.mv (.t 28)) 6 false,.G 205 (.bin .neq (.t 203) (.t 204)) 6 false,.V 206 (.pick (.t 202) (.c (.bool true)) (.t 205)),.V 207 (.mv (.t 206)),.G 208 (.mv (.t 26)) 11 false,.G 209 (.bin .lss (.t 208) (.c (.int .i64 0))) 11 false,.V 210 (.pick (.t 207) (.c (.bool true)) (.t 209)),.V 211 (.mv (.t 210)),.G 212 (.mv (.t 26)) 15 false,.G 213 (.mv (.t 24)) 15 false,.G 214 (.mv (.t 25)) 15 false,.G 215 (.min [.t 213,.t 214]) 15 false,.G 216 (.bin .gtr (.t 212) (.t 215)) 15 false,.V 217 (.pick (.t 211) (.c (.bool true)) (.t 216))] [23,30,31,217] [30]) (.cond (.t 217) (.seq (.reg false [.V 4 (.asg (.c (.bool false)))] [4] []) .ret) .skip)) (.norm [23,30,31] [30] laws_FnMerges_k0)))))))))
def laws_FnMerges_k2 : C :=
 .seq (.reg false [.V 93 (.mv (.t 5)),.V 94 (.mv (.t 6)),.V 95 (.mv (.t 7)),.W 96 (.call (.c (.fn 281 [])) [.t 93,.t 94,.t 95]),.V 92 (.mv (.t 96)),.V 97 (.ext (.t 92) 0),.V 98 (.ext (.t 92) 1),.W 14 (.asg (.t 97)),.V 15 (.asg (.t 98))] [1,5,6,7,14,15] [5,6,7,14]) (.seq (.reg false [.V 100 (.mv (.t 5)),.V 101 (.mv (.t 7)),.V 102 (.mv (.t 6)),.W 103 (.call (.c (.fn 281 [])) [.t 100,.t 101,.t 102]),.V 99 (.mv (.t 103)),.V 104 (.ext (.t 99) 0),.V 105 (.ext (.t 99) 1),.W 16 (.asg (.t 104)),.V 17 (.asg (.t 105))] [1,5,6,7,14,15,16,17] [5,6,7,14,16]) (.seq (.reg false [.V 107 (.mv (.t 5)),.V 108 (.mv (.t 6)),.V 109 (.mv (.t 7)),.V 110 (.call (.c (.fn 280 [])) [.t 107,.t 108,.t 109]),.V 106 (.mv (.t 110)),.V 111 (.ext (.t 106) 0),.V 112 (.ext (.t 106) 1),.W 18 (.asg (.t 111)),.V 19 (.asg (.t 112))] [1,5,6,7,14,15,16,17,18,19] [5,6,7,14,16,18]) (.seq (.reg false [.V 114 (.mv (.t 5)),.V 115 (.mv (.t 7)),.V 116 (.mv (.t 6)),.V 117 (.call (.c (.fn 280 [])) [.t 114,.t 115,.t 116]),.V 113 (.mv (.t 117)),.V 118 (.ext (.t 113) 0),.V 119 (.ext (.t 113) 1),.W 20 (.asg (.t 118)),.V 21 (.asg (.t 119))] [1,14,15,16,17,18,19,20,21] [14,16,18,20]) (.seq (.seq (.reg false [.V 120 (.mv (.t 15)),.V 121 (.bin .neq (.t 120) (.c (.int .i64 0))),.V 122 (.mv (.t 121)),.G 123 (.mv (.t 17)) 2 false,.G 124 (.bin .neq (.t 123) (.c (.int .i64 0))) 2 false,.V 125 (.pick (.t 122) (.c (.bool true)) (.t 124)),.V 126 (.mv (.t 125)),.G 127 (.mv (.t 14)) 6 false,.G 128 (.len (.t 127)) 6 false,.G 129 (.mv (.t 16)) 6 false,.G 130 (.len (.t 129)) 6 false,.G 131 (.bin .neq (.t 128) (.t 130)) 6 false,.V 132 (.pick (.t 126) (.c (.bool true)) (.t 131)),.V 133 (.mv (.t 132)),.G 134 (.mv (.t 19)) 13 false,.G 135 (.mv (.t 21)) 13 false,.G 136 (.bin .neq (.t 134) (.t 135)) 13 false,.V 137 (.pick (.t 133) (.c (.bool true)) (.t 136)),.V 138 (.mv (.t 137)),.G 139 (.mv (.t 19)) 18 false,.G 140 (.bin .eql (.t 139) (.c (.int .i64 6))) 18 false,.G 141 (.mv (.t 14)) 18 false,.G 142 (.len (.t 141)) 18 false,.G 143 (.bin .gtr (.t 142) (.c (.int .i64 0))) 18 false,.G 144 (.eqb true (.t 140) (.t 143)) 18 false,.V 145 (.pick (.t 138) (.c (.bool true)) (.t 144)),.V 146 (.mv (.t 145)),.G 147 (.mv (.t 19)) 26 false,.G 148 (.bin .eql (.t 147) (.c (.int .i64 0))) 26 false,.G 149 (.mv (.t 148)) 26 false,.G 150 (.mv (.t 18)) 29 true,.G 151 (.mv (.t 20)) 29 true,.G 152 (.call (.c (.fn 266 [])) [.t 150,.t 151]) 29 true,.G 153 (.un .not (.t 152)) 29 true,.G 154 (.mv (.t 153)) 29 true,.G 155 (.mv (.t 18)) 34 false,.G 156 (.call (.c (.fn 279 [])) [.t 155]) 34 false,.G 157 (.un .not (.t 156)) 34 false,.G 158 (.pick (.t 154) (.c (.bool true)) (.t 157)) 29 true,.G 159 (.pick (.t 149) (.t 158) (.c (.bool false))) 26 false,.V 160 (.pick (.t 146) (.c (.bool true)) (.t 159))] [1,160] []) (.cond (.t 160) (.seq (.reg false [.V 4 (.asg (.c (.bool false)))] [4] []) .ret) .skip)) (.norm [1] [] laws_FnMerges_k1)))))
def laws_FnMerges_ir : Fn := { np := 2,io := [],res := [.t 4],own := [false],body :=
 (.seq (.reg false [.V 4 (.asg (.c (.bool false)))] [0,1] []) (.seq (.seq (.reg false [.V 32 (.mv (.t 0)),.V 33 (.mv (.t 1)),.V 34 (.call (.c (.fn 89 [])) [.t 32,.t 33])] [0,1,34] []) (.cond (.t 34) (.seq (.reg false [.V 4 (.asg (.c (.bool true)))] [4] []) .ret) .skip)) (.seq (.reg false [.V 35 (.mv (.t 0)),.V 36 (.call (.c (.fn 276 [])) [.t 35]),.W 5 (.asg (.t 36))] [0,1,5] [5]) (.seq (.reg false [.V 37 (.mv (.t 1)),.V 38 (.mv (.t 5)),.V 39 (.call (.c (.fn 275 [])) [.t 37,.t 38]),.W 6 (.asg (.t 39))] [0,1,5,6] [5,6]) (.seq (.reg false [.V 40 (.mv (.t 0)),.V 41 (.mv (.t 5)),.V 42 (.call (.c (.fn 275 [])) [.t 40,.t 41]),.W 7 (.asg (.t 42))] [1,5,6,7] [5,6,7]) (.seq (.reg false [.V 44 (.mv (.t 5)),.V 45 (.mv (.t 6)),.V 46 (.mv (.t 5)),.V 47 (.call (.c (.fn 280 [])) [.t 44,.t 45,.t 46]),.V 43 (.mv (.t 47)),.V 48 (.ext (.t 43) 0),.V 49 (.ext (.t 43) 1),.W 8 (.asg (.t 48)),.V 9 (.asg (.t 49))] [1,5,6,7,8,9] [5,6,7,8]) (.seq (.reg false [.V 51 (.mv (.t 5)),.V 52 (.mv (.t 5)),.V 53 (.mv (.t 6)),.V 54 (.call (.c (.fn 280 [])) [.t 51,.t 52,.t 53]),.V 50 (.mv (.t 54)),.V 55 (.ext (.t 50) 0),.V 56 (.ext (.t 50) 1),.W 10 (.asg (.t 55)),.V 11 (.asg (.t 56))] [1,5,6,7,8,9,10,11] [5,6,7,8,10]) (.seq (.reg false [.V 58 (.mv (.t 5)),.V 59 (.mv (.t 6)),.V 60 (.mv (.t 6)),.V 61 (.call (.c (.fn 280 [])) [.t 58,.t 59,.t 60]),.V 57 (.mv (.t 61)),.V 62 (.ext (.t 57) 0),.V 63 (.ext (.t 57) 1),.W 12 (.asg (.t 62)),.V 13 (.asg (.t 63))] [1,5,6,7,8,9,10,11,12,13] [5,6,7,8,10,12]) (.seq (.seq (.reg false [.V 64 (.mv (.t 9)),.V 65 (.bin .neq (.t 64) (.c (.int .i64 0))),.V 66 (.mv (.t 65)),.G 67 (.mv (.t 11)) 2 false,.G 68 (.bin .neq (.t 67) (.c (.int .i64 0))) 2 false,.V 69 (.pick (.t 66) (.c (.bool true)) (.t 68)),.V 70 (.mv (.t 69)),.G 71 (.mv (.t 13)) 6 false,.G 72 (.bin .neq (.t 71) (.c (.int .i64 0))) 6 false,.V 73 (.pick (.t 70) (.c (.bool true)) (.t 72)),.V 74 (.mv (.t 73)),.G 75 (.mv (.t 8)) 10 false,.G 76 (.mv (.t 6)) 10 false,.G 77 (.call (.c (.fn 266 [])) [.t 75,.t 76]) 10 false,.G 78 (.un .not (.t 77)) 10 false,.V 79 (.pick (.t 74) (.c (.bool true)) (.t 78)),.V 80 (.mv (.t 79)),.G 81 (.mv (.t 10)) 16 false,.G 82 (.mv (.t 6)) 16 false,.G 83 (.call (.c (.fn 266 [])) [.t 81,.t 82]) 16 false,.G 84 (.un .not (.t 83)) 16 false,.V 85 (.pick (.t 80) (.c (.bool true)) (.t 84)),.V 86 (.mv (.t 85)),.G 87 (.mv (.t 12)) 22 false,.G 88 (.mv (.t 6)) 22 false,.G 89 (.call (.c (.fn 266 [])) [.t 87,.t 88]) 22 false,.G 90 (.un .not (.t 89)) 22 false,.V 91 (.pick (.t 86) (.c (.bool true)) (.t 90))] [1,5,6,7,91] [5,6,7]) (.cond (.t 91) (.seq (.reg false [.V 4 (.asg (.c (.bool false)))] [4] []) .ret) .skip)) (.norm [1,5,6,7] [5,6,7] laws_FnMerges_k2)))))))))) }
noncomputable def laws_FnMerges_D : List (Nat × Callee) := [(89,laws_r8Long_c),(151,laws_r8At_c),(266,spec_SameState_c),(267,spec_ValidHistory_c),(268,impl_CommonAncestor_c),(275,spec_R8Changed_c),(276,spec_R8State_c),(277,spec_R8History_c),(278,impl_MergeVersions_c),(279,spec_ValidState_c),(280,impl_MergeStates_c),(281,impl_ConflictsOf_c)]
def laws_FnMerges_H : List (Nat × ET) := [(5,T_Setting),(6,T_Setting),(7,T_Setting),(8,T_Setting),(10,T_Setting),(12,T_Setting),(14,(.one .str)),(16,(.one .str)),(18,T_Setting),(20,T_Setting),(22,T_Version),(30,T_Version),(32,(.one (.int .u8))),(33,(.one (.int .u8))),(35,(.one (.int .u8))),(36,T_Setting),(37,(.one (.int .u8))),(38,T_Setting),(39,T_Setting),(40,(.one (.int .u8))),(41,T_Setting),(42,T_Setting),(44,T_Setting),(45,T_Setting),(46,T_Setting),(48,T_Setting),(51,T_Setting),(52,T_Setting),(53,T_Setting),(55,T_Setting),(58,T_Setting),(59,T_Setting),(60,T_Setting),(62,T_Setting),(75,T_Setting),(76,T_Setting),(81,T_Setting),(82,T_Setting),(87,T_Setting),(88,T_Setting),(93,T_Setting),(94,T_Setting),(95,T_Setting),(97,(.one .str)),(100,T_Setting),(101,T_Setting),(102,T_Setting),(104,(.one .str)),(107,T_Setting),(108,T_Setting),(109,T_Setting),(111,T_Setting),(114,T_Setting),(115,T_Setting),(116,T_Setting),(118,T_Setting),(127,(.one .str)),(129,(.one .str)),(141,(.one .str)),(150,T_Setting),(151,T_Setting),(155,T_Setting),(161,(.one (.int .u8))),(162,T_Version),(163,T_Version),(167,(.one (.int .u8))),(171,(.one (.int .u8))),(176,T_Version),(183,T_Version),(190,T_Version),(194,T_Version),(221,T_Version),(227,T_Version)]
noncomputable def laws_FnMerges_c : Callee := mkCallee laws_FnMerges_D laws_FnMerges_H laws_FnMerges_ir [.d (.one (.sl (.one (.int .u8)))),.d (.one (.sl (.one (.int .u8))))] [.d (.one .bool)] []
noncomputable def laws_FnMerges (a0 : List Int) (a1 : List Int) : Option (Bool) := laws_FnMerges_c.f (a0,a1,())
noncomputable def laws_FnMerges_p0  (v1 : List Int) (r5 : List T_Setting.ty) (r6 : List T_Setting.ty) (r7 : List T_Setting.ty) : Option (Bool) :=
 goL laws_FnMerges_D laws_FnMerges_H (vleave laws_FnMerges_ir [.d (.one (.sl (.one (.int .u8)))),.d (.one (.sl (.one (.int .u8))))] [.d (.one .bool)] [] []) [.c laws_FnMerges_k2]
  ⟨[(1,.sl (.one (.int .u8)) v1),(5,.view 5 0 r5.length),(6,.view 6 0 r6.length),(7,.view 7 0 r7.length)],[(5,some (.sl T_Setting r5)),(6,some (.sl T_Setting r6)),(7,some (.sl T_Setting r7))]⟩
noncomputable def laws_FnMerges_p1  (v1 : List Int) : Option (Bool) :=
 goL laws_FnMerges_D laws_FnMerges_H (vleave laws_FnMerges_ir [.d (.one (.sl (.one (.int .u8)))),.d (.one (.sl (.one (.int .u8))))] [.d (.one .bool)] [] []) [.c laws_FnMerges_k1]
  ⟨[(1,.sl (.one (.int .u8)) v1)],[]⟩
noncomputable def laws_FnMerges_p2  (v23 : Int) (v30 : List T_Version.ty) (v31 : Int) : Option (Bool) :=
 goL laws_FnMerges_D laws_FnMerges_H (vleave laws_FnMerges_ir [.d (.one (.sl (.one (.int .u8)))),.d (.one (.sl (.one (.int .u8))))] [.d (.one .bool)] [] []) [.c laws_FnMerges_k0]
  ⟨[(23,.int .i64 v23),(30,.sl T_Version v30),(31,.int .i64 v31)],[(30,none)]⟩
theorem laws_FnMerges_eq (a0 : List Int) (a1 : List Int) : laws_FnMerges a0 a1 =
 (laws_r8Long a0 a1).bind fun x1 =>
  if x1 then
   some true
  else
   (spec_R8State a0).bind fun x2 =>
    (spec_R8Changed a1 (x2.take x2.length)).bind fun x3 =>
     (spec_R8Changed a0 (x2.take x2.length)).bind fun x4 =>
      (impl_MergeStates (x2.take x2.length) (x3.take x3.length) (x2.take x2.length)).bind fun x5 =>
       (impl_MergeStates (x2.take x2.length) (x2.take x2.length) (x3.take x3.length)).bind fun x6 =>
        (impl_MergeStates (x2.take x2.length) (x3.take x3.length) (x3.take x3.length)).bind fun x7 =>
         if (x5.2 != 0) then
          some false
         else
          if (x6.2 != 0) then
           some false
          else
           if (x7.2 != 0) then
            some false
           else
            (spec_SameState (x5.1.take x5.1.length) (x3.take x3.length)).bind fun x8 =>
             if (!x8) then
              some false
             else
              (spec_SameState (x6.1.take x6.1.length) (x3.take x3.length)).bind fun x9 =>
               if (!x9) then
                some false
               else
                (spec_SameState (x7.1.take x7.1.length) (x3.take x3.length)).bind fun x10 =>
                 if (!x10) then
                  some false
                 else
                  laws_FnMerges_p0 a1 x2 x3 x4 :=
 (mk_f _ _ _ _ _ _ _ 4000).trans (by kernel_rfl)
theorem laws_FnMerges_p0_eq  (v1 : List Int) (r5 : List T_Setting.ty) (r6 : List T_Setting.ty) (r7 : List T_Setting.ty) : laws_FnMerges_p0 v1 r5 r6 r7 =
 (impl_ConflictsOf (r5.take r5.length) (r6.take r6.length) (r7.take r7.length)).bind fun x1 =>
  (impl_ConflictsOf (r5.take r5.length) (r7.take r7.length) (r6.take r6.length)).bind fun x2 =>
   (impl_MergeStates (r5.take r5.length) (r6.take r6.length) (r7.take r7.length)).bind fun x3 =>
    (impl_MergeStates (r5.take r5.length) (r7.take r7.length) (r6.take r6.length)).bind fun x4 =>
     if (x1.2 != 0) then
      some false
     else
      if (x2.2 != 0) then
       some false
      else
       if ((x1.1.length : Int) != (x2.1.length : Int)) then
        some false
       else
        if (x3.2 != x4.2) then
         some false
        else
         if (!((x3.2 == 6) == decide ((x1.1.length : Int) > 0))) then
          some false
         else
          if (x3.2 == 0) then
           (spec_SameState (x3.1.take x3.1.length) (x4.1.take x4.1.length)).bind fun x5 =>
            if (!x5) then
             some false
            else
             (spec_ValidState (x3.1.take x3.1.length)).bind fun x6 =>
              if (!x6) then
               some false
              else
               laws_FnMerges_p1 v1
          else
           laws_FnMerges_p1 v1 :=
 (goL_dn _ _ _ 4000 _ _).trans (by kernel_rfl)
theorem laws_FnMerges_p1_eq  (v1 : List Int) : laws_FnMerges_p1 v1 =
 (spec_R8History v1).bind fun x1 =>
  if ((x1.length : Int) == 0) then
   some true
  else
   (laws_r8At v1 0 (x1.length : Int)).bind fun x2 =>
    (laws_r8At v1 1 (x1.length : Int)).bind fun x3 =>
     (impl_CommonAncestor x1 (IntKind.i64.wrap (1 + x2)) (IntKind.i64.wrap (1 + x3))).bind fun x4 =>
      (impl_CommonAncestor x1 (IntKind.i64.wrap (1 + x3)) (IntKind.i64.wrap (1 + x2))).bind fun x5 =>
       (impl_MergeVersions x1 (IntKind.i64.wrap (1 + x2)) (IntKind.i64.wrap (1 + x3)) [98,111,116,104]).bind fun x6 =>
        if (x4.2 != 0) then
         some false
        else
         if (x5.2 != 0) then
          some false
         else
          if (x4.1 != x5.1) then
           some false
          else
           if decide (x4.1 < 0) then
            some false
           else
            if decide (x4.1 > (if IntKind.i64.wrap (1 + x3) < IntKind.i64.wrap (1 + x2) then IntKind.i64.wrap (1 + x3) else IntKind.i64.wrap (1 + x2))) then
             some false
            else
             laws_FnMerges_p2 (x1.length : Int) x6.1 x6.2 :=
 (goL_dn _ _ _ 4000 _ _).trans (by kernel_rfl)
theorem laws_FnMerges_p2_eq  (v23 : Int) (v30 : List T_Version.ty) (v31 : Int) : laws_FnMerges_p2 v23 v30 v31 =
 if (v31 != 0) then
  some true
 else
  if ((v30.length : Int) == IntKind.i64.wrap (v23 + 1)) then
   (spec_ValidHistory v30).bind fun x1 =>
    some x1
  else
   some false :=
 (goL_dn _ _ _ 4000 _ _).trans (by kernel_rfl)
end Go.Ab.P
