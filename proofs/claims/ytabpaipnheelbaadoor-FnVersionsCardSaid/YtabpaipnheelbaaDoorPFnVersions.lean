/- Functions of the program: abstract forms, and what their runs give. Conditions: none. -/
import Derived.Test.YtabpaipnheelbaaDoorLD
set_option maxRecDepth 100000
set_option linter.unusedVariables false
namespace Go.Ab.P
open Go.Ab
@[reducible] def T_Setting : ET := .agg (.cons .str (.cons (.int .i64) .nil))
@[reducible] def T_Version : ET := .agg (.cons (.int .i64) (.cons (.int .i64) (.cons .str (.cons (.sl T_Setting) .nil))))
@[reducible] def T_Change : ET := .agg (.cons (.int .i64) (.cons .str (.cons (.int .i64) .nil)))
@[reducible] def T_l00Src : ET := .agg (.cons (.sl (.one (.int .u8))) (.cons (.int .i64) (.cons (.int .u64) .nil)))
def laws_r8Long_ir : Fn := { np := 2,io := [],res := [.t 4],own := [false],body :=
 (.seq (.reg false [.V 4 (.asg (.c (.bool false)))] [0,1] []) (.seq (.reg false [.V 5 (.mv (.t 0)),.V 6 (.len (.t 5)),.V 7 (.bin .gtr (.t 6) (.c (.int .i64 1048576))),.V 8 (.mv (.t 7)),.G 9 (.mv (.t 1)) 3 false,.G 10 (.len (.t 9)) 3 false,.G 11 (.bin .gtr (.t 10) (.c (.int .i64 1048576))) 3 false,.V 12 (.pick (.t 8) (.c (.bool true)) (.t 11)),.V 4 (.asg (.t 12))] [4] []) .ret)) }
noncomputable def laws_r8Long_D : List (Nat × Callee) := []
def laws_r8Long_H : List (Nat × ET) := [(5,(.one (.int .u8))),(9,(.one (.int .u8)))]
noncomputable def laws_r8Long_c : Callee := mkCallee laws_r8Long_D laws_r8Long_H laws_r8Long_ir [.d (.one (.sl (.one (.int .u8)))),.d (.one (.sl (.one (.int .u8))))] [.d (.one .bool)] []
noncomputable def laws_r8Long (a0 : List Int) (a1 : List Int) : Option (Bool) := laws_r8Long_c.f (a0,a1,())
theorem laws_r8Long_eq (a0 : List Int) (a1 : List Int) : laws_r8Long a0 a1 =
 if decide ((a0.length : Int) > 1048576) then
  some true
 else
  some (decide ((a1.length : Int) > 1048576)) :=
 (mk_f _ _ _ _ _ _ _ 4000).trans (by kernel_rfl)
def spec_l00From_ir : Fn := { np := 1,io := [],res := [.t 2],own := [true],body :=
 (.seq (.reg false [.V 2 (.asg (.c (.cst (.pointer none))))] [0] []) (.seq (.reg false [.V 3 (.mv (.t 0)),.V 4 (.build [.nils 1,.int .i64 0,.int .u64 0] [(0,1,.t 3)]),.W 5 (.box 3 (.t 4)),.V 2 (.asg (.t 5))] [2] [5,6000]) .ret)) }
noncomputable def spec_l00From_D : List (Nat × Callee) := []
def spec_l00From_H : List (Nat × ET) := [(3,(.one (.int .u8)))]
noncomputable def spec_l00From_c : Callee := mkCallee spec_l00From_D spec_l00From_H spec_l00From_ir [.d (.one (.sl (.one (.int .u8))))] [.box T_l00Src] []
noncomputable def spec_l00From (a0 : List Int) : Option (T_l00Src.ty) := spec_l00From_c.f (a0,())
theorem spec_l00From_eq (a0 : List Int) : spec_l00From a0 =
 some (a0,0,0,()) :=
 (mk_f _ _ _ _ _ _ _ 4000).trans (by kernel_rfl)
def spec_l00Src_next_k0 : C :=
 .seq (.reg false [.V 25 (.mv (.t 0)),.V 26 (.nilck (.t 25)),.V 27 (.fa 1 (.t 26)),.V 28 (.ld none (.t 27)),.V 29 (.bin .add (.t 28) (.c (.int .i64 1))),.V 30 (.nilck (.t 25)),.V 31 (.fa 1 (.t 30)),⟨none,true,.sto 1 (.t 31) (.t 29),none,false,[]⟩] [0,3] [0,1000]) (.seq (.reg false [.V 32 (.mv (.t 0)),.V 33 (.mv (.t 0)),.V 34 (.nilck (.t 33)),.V 35 (.fa 2 (.t 34)),.V 36 (.ld none (.t 35)),.V 37 (.bin .mul (.t 36) (.c (.int .u64 6364136223846793005))),.V 38 (.mv (.t 3)),.V 39 (.conv (.int .u64) (.t 38)),.V 40 (.bin .add (.t 37) (.t 39)),.V 41 (.bin .add (.t 40) (.c (.int .u64 1442695040888963407))),.V 42 (.nilck (.t 32)),.V 43 (.fa 2 (.t 42)),⟨none,true,.sto 1 (.t 43) (.t 41),none,false,[]⟩] [0,3] [0,1000]) (.seq (.seq (.reg true [.V 44 (.mv (.t 0)),.V 45 (.nilck (.t 44)),.V 46 (.fa 1 (.t 45)),.V 47 (.ld none (.t 46)),.V 48 (.mv (.t 0)),.V 49 (.nilck (.t 48)),.V 50 (.fa 0 (.t 49)),.V 51 (.ld none (.t 50)),.V 52 (.len (.t 51)),.V 53 (.bin .leq (.t 47) (.t 52))] [0,3,53] [0,1000]) (.cond (.t 53) (.seq (.reg false [.V 54 (.mv (.t 3)),.V 2 (.asg (.t 54))] [0,2] [0,1000]) .ret) .skip)) (.seq (.reg false [.V 55 (.mv (.t 0)),.V 56 (.nilck (.t 55)),.V 57 (.fa 2 (.t 56)),.V 58 (.ld none (.t 57)),.V 59 (.bin .shr (.t 58) (.c (.int .u64 40))),.V 60 (.bin .and (.t 59) (.c (.int .u64 255))),.V 61 (.conv (.int .i64) (.t 60)),.V 2 (.asg (.t 61))] [0,2] [0,1000]) .ret)))
def spec_l00Src_next_ir : Fn := { np := 1,io := [true],res := [.t 2],own := [false],body :=
 (.seq (.reg false [.V 2 (.asg (.c (.int .i64 0)))] [0] [0,1000]) (.seq (.reg false [.V 3 (.asg (.c (.int .i64 0)))] [0,3] [0,1000]) (.seq (.seq (.reg true [.V 4 (.mv (.t 0)),.V 5 (.nilck (.t 4)),.V 6 (.fa 1 (.t 5)),.V 7 (.ld none (.t 6)),.V 8 (.mv (.t 0)),.V 9 (.nilck (.t 8)),.V 10 (.fa 0 (.t 9)),.V 11 (.ld none (.t 10)),.V 12 (.len (.t 11)),.V 13 (.bin .lss (.t 7) (.t 12))] [0,3,13] [0,1000]) (.cond (.t 13) (.reg true [.V 14 (.mv (.t 0)),.V 15 (.nilck (.t 14)),.V 16 (.fa 0 (.t 15)),.V 17 (.ld none (.t 16)),.V 18 (.mv (.t 0)),.V 19 (.nilck (.t 18)),.V 20 (.fa 1 (.t 19)),.V 21 (.ld none (.t 20)),.V 22 (.ia 1 (.t 17) (.t 21)),.V 23 (.ld none (.t 22)),.V 24 (.conv (.int .i64) (.t 23)),.V 3 (.asg (.t 24))] [0,3] [0,1000]) .skip)) (.norm [0,3] [0,1000] spec_l00Src_next_k0)))) }
noncomputable def spec_l00Src_next_D : List (Nat × Callee) := []
def spec_l00Src_next_H : List (Nat × ET) := [(11,(.one (.int .u8))),(17,(.one (.int .u8))),(51,(.one (.int .u8)))]
noncomputable def spec_l00Src_next_c : Callee := mkCallee spec_l00Src_next_D spec_l00Src_next_H spec_l00Src_next_ir [.box T_l00Src] [.d (.one (.int .i64))] [.box T_l00Src]
noncomputable def spec_l00Src_next (a0 : T_l00Src.ty) : Option (Int × T_l00Src.ty) := spec_l00Src_next_c.f (a0,())
noncomputable def spec_l00Src_next_p0  (v3 : Int) (r0_0 : List Int) (r0_1 : Int) (r0_2 : Int) : Option (Int × T_l00Src.ty) :=
 goL spec_l00Src_next_D spec_l00Src_next_H (vleave spec_l00Src_next_ir [.box T_l00Src] [.d (.one (.int .i64))] [.box T_l00Src] []) [.c spec_l00Src_next_k0]
  ⟨[(0,.loc 0 0 0),(3,.int .i64 v3)],[(0,some (.var 3 (.agg [.sl (.one (.int .u8)) r0_0,.int .i64 r0_1,.int .u64 r0_2]))),(1000,none)]⟩
theorem spec_l00Src_next_eq (a0 : T_l00Src.ty) : spec_l00Src_next a0 =
 if decide (a0.2.1 < (a0.1.length : Int)) then
  if decide (0 ≤ a0.2.1) then
   (a0.1[a0.2.1.toNat]?).bind fun x1 =>
    spec_l00Src_next_p0 (IntKind.i64.wrap x1) a0.1 a0.2.1 a0.2.2.1
  else
   none
 else
  spec_l00Src_next_p0 0 a0.1 a0.2.1 a0.2.2.1 :=
 (mk_f _ _ _ _ _ _ _ 4000).trans (by kernel_rfl)
theorem spec_l00Src_next_p0_eq  (v3 : Int) (r0_0 : List Int) (r0_1 : Int) (r0_2 : Int) : spec_l00Src_next_p0 v3 r0_0 r0_1 r0_2 =
 if decide (IntKind.i64.wrap (r0_1 + 1) ≤ (r0_0.length : Int)) then
  some (v3,(r0_0,IntKind.i64.wrap (r0_1 + 1),IntKind.u64.wrap ((IntKind.u64.wrap ((IntKind.u64.wrap (r0_2 * 6364136223846793005)) + (IntKind.u64.wrap v3))) + 1442695040888963407),()))
 else
  some (IntKind.i64.wrap (IntKind.u64.wrap ((BitVec.ofInt IntKind.u64.bits (Int.fdiv (IntKind.u64.wrap ((IntKind.u64.wrap ((IntKind.u64.wrap (r0_2 * 6364136223846793005)) + (IntKind.u64.wrap v3))) + 1442695040888963407)) (2 ^ (min (40 : Int).toNat IntKind.u64.bits))) &&& BitVec.ofInt IntKind.u64.bits 255).toNat : Int)),(r0_0,IntKind.i64.wrap (r0_1 + 1),IntKind.u64.wrap ((IntKind.u64.wrap ((IntKind.u64.wrap (r0_2 * 6364136223846793005)) + (IntKind.u64.wrap v3))) + 1442695040888963407),())) :=
 (goL_dn _ _ _ 4000 _ _).trans (by kernel_rfl)
def spec_l00Src_pick_ir : Fn := { np := 2,io := [true,false],res := [.t 4],own := [false],body :=
 (.seq (.reg false [.V 4 (.asg (.c (.int .i64 0)))] [0,1] [0,1000]) (.seq (.seq (.reg false [.V 6 (.mv (.t 1)),.V 7 (.bin .leq (.t 6) (.c (.int .i64 1)))] [0,1,7] [0,1000]) (.cond (.t 7) (.seq (.reg false [.V 4 (.asg (.c (.int .i64 0)))] [0,4] [0,1000]) .ret) .skip)) (.seq (.reg false [.V 8 (.mv (.t 0)),.W 9 (.call (.c (.fn 847 [])) [.t 8]),.V 5 (.asg (.t 9))] [0,1,5] [0,1000]) (.seq (.seq (.reg false [.V 10 (.mv (.t 1)),.V 11 (.bin .gtr (.t 10) (.c (.int .i64 200)))] [0,1,5,11] [0,1000]) (.cond (.t 11) (.reg false [.V 12 (.mv (.t 5)),.V 13 (.bin .mul (.t 12) (.c (.int .i64 256))),.V 14 (.mv (.t 0)),.W 15 (.call (.c (.fn 847 [])) [.t 14]),.V 16 (.bin .add (.t 13) (.t 15)),.V 5 (.asg (.t 16))] [0,1,5] [0,1000]) .skip)) (.seq (.reg false [.V 17 (.mv (.t 5)),.V 18 (.mv (.t 1)),.V 19 (.bin .rem (.t 17) (.t 18)),.V 4 (.asg (.t 19))] [0,4] [0,1000]) .ret))))) }
noncomputable def spec_l00Src_pick_D : List (Nat × Callee) := [(847,spec_l00Src_next_c)]
def spec_l00Src_pick_H : List (Nat × ET) := []
noncomputable def spec_l00Src_pick_c : Callee := mkCallee spec_l00Src_pick_D spec_l00Src_pick_H spec_l00Src_pick_ir [.box T_l00Src,.d (.one (.int .i64))] [.d (.one (.int .i64))] [.box T_l00Src]
noncomputable def spec_l00Src_pick (a0 : T_l00Src.ty) (a1 : Int) : Option (Int × T_l00Src.ty) := spec_l00Src_pick_c.f (a0,a1,())
theorem spec_l00Src_pick_eq (a0 : T_l00Src.ty) (a1 : Int) : spec_l00Src_pick a0 a1 =
 if decide (a1 ≤ 1) then
  some (0,a0)
 else
  (spec_l00Src_next a0).bind fun x1 =>
   if decide (a1 > 200) then
    (spec_l00Src_next (x1.2.1,x1.2.2.1,x1.2.2.2.1,())).bind fun x2 =>
     if decide (a1 = 0) then
      none
     else
      some ((IntKind.i64.wrap ((IntKind.i64.wrap (x1.1 * 256)) + x2.1)).tmod a1,(x2.2.1,x2.2.2.1,x2.2.2.2.1,()))
   else
    if decide (a1 = 0) then
     none
    else
     some (x1.1.tmod a1,(x1.2.1,x1.2.2.1,x1.2.2.2.1,())) :=
 (mk_f _ _ _ _ _ _ _ 4000).trans (by kernel_rfl)
def spec_l00Src_one_ir : Fn := { np := 2,io := [true,false],res := [.t 4],own := [false],body :=
 (.seq (.reg false [.V 4 (.asg (.c (.bool false)))] [0,1] [0,1000]) (.seq (.reg false [.V 5 (.mv (.t 0)),.V 6 (.mv (.t 1)),.W 7 (.call (.c (.fn 463 [])) [.t 5,.t 6]),.V 8 (.bin .eql (.t 7) (.c (.int .i64 0))),.V 4 (.asg (.t 8))] [0,4] [0,1000]) .ret)) }
noncomputable def spec_l00Src_one_D : List (Nat × Callee) := [(463,spec_l00Src_pick_c)]
def spec_l00Src_one_H : List (Nat × ET) := []
noncomputable def spec_l00Src_one_c : Callee := mkCallee spec_l00Src_one_D spec_l00Src_one_H spec_l00Src_one_ir [.box T_l00Src,.d (.one (.int .i64))] [.d (.one .bool)] [.box T_l00Src]
noncomputable def spec_l00Src_one (a0 : T_l00Src.ty) (a1 : Int) : Option (Bool × T_l00Src.ty) := spec_l00Src_one_c.f (a0,a1,())
theorem spec_l00Src_one_eq (a0 : T_l00Src.ty) (a1 : Int) : spec_l00Src_one a0 a1 =
 (spec_l00Src_pick a0 a1).bind fun x1 =>
  some ((x1.1 == 0),(x1.2.1,x1.2.2.1,x1.2.2.2.1,())) :=
 (mk_f _ _ _ _ _ _ _ 4000).trans (by kernel_rfl)
def spec_l27DrawState_k0 : C :=
 .seq (.seq (.reg false [.V 8 (.mv (.t 5)),.V 9 (.bin .lss (.t 8) (.c (.int .i64 5)))] [0,3,4,5,9] [0,3,4,1000]) (.cond (.t 9) .skip (.exit 0))) (.seq (.block 1 (.seq (.reg false [.V 12 (.mv (.t 0)),.W 13 (.call (.c (.fn 642 [])) [.t 12,.c (.int .i64 2)])] [0,3,4,5,13] [0,3,4,1000]) (.cond (.t 13) (.reg true [.V 14 (.mv (.t 4)),⟨some 15,false,.mv (.t 3),none,false,[1000000]⟩,⟨some 16,false,.mv (.t 5),none,false,[1000000]⟩,⟨some 17,false,.ia 1 (.t 15) (.t 16),none,false,[1000000]⟩,⟨some 18,false,.ld none (.t 17),none,true,[]⟩,.V 19 (.mv (.t 0)),⟨some 20,true,.call (.c (.fn 463 [])) [.t 19,.c (.int .i64 1001)],none,false,[3,4,5,15,16,17]⟩,.V 21 (.build [.str [],.int .i64 0] [(0,1,.t 18),(1,1,.t 20)]),.V 22 (.bsl 2 (.agg [.str [],.int .i64 0]) 1 [(0,.t 21)]),.W 23 (.app 2 24 (.t 14) (.t 22)),.W 4 (.asg (.t 23))] [0,3,4,5] [0,3,4,1000]) .skip))) (.reg false [.V 10 (.mv (.t 5)),.V 11 (.bin .add (.t 10) (.c (.int .i64 1))),.V 5 (.asg (.t 11))] [0,3,4,5] [0,3,4,1000]))
def spec_l27DrawState_k1 : C :=
 .norm [0,3,4,5] [0,3,4,1000] spec_l27DrawState_k0
def spec_l27DrawState_k2 : C :=
 .seq (.reg false [.V 24 (.mv (.t 4)),.W 2 (.asg (.t 24))] [0,2] [0,2,4,1000]) .ret
def spec_l27DrawState_ir : Fn := { np := 1,io := [true],res := [.t 2],own := [true],body :=
 (.seq (.reg false [.W 2 (.asg (.c (.nils 2)))] [0] [0,1000]) (.seq (.reg false [.V 6 (.bsl 1 (.str []) 5 [(0,.c (.str [97])),(1,.c (.str [98])),(2,.c (.str [99])),(3,.c (.str [100])),(4,.c (.str [101]))]),.W 3 (.asg (.t 6))] [0,3] [0,3,1000]) (.seq (.reg false [.V 7 (.bsl 2 (.agg [.str [],.int .i64 0]) 0 []),.W 4 (.asg (.t 7))] [0,3,4] [0,3,4,1000]) (.seq (.seq (.reg false [.V 5 (.asg (.c (.int .i64 0)))] [0,3,4,5] [0,3,4,1000]) (.block 0 (.loop spec_l27DrawState_k1))) spec_l27DrawState_k2)))) }
noncomputable def spec_l27DrawState_D : List (Nat × Callee) := [(463,spec_l00Src_pick_c),(642,spec_l00Src_one_c)]
def spec_l27DrawState_H : List (Nat × ET) := [(2,T_Setting),(3,(.one .str)),(4,T_Setting),(6,(.one .str)),(7,T_Setting),(14,T_Setting),(15,(.one .str)),(22,T_Setting),(23,T_Setting),(24,T_Setting)]
noncomputable def spec_l27DrawState_c : Callee := mkCallee spec_l27DrawState_D spec_l27DrawState_H spec_l27DrawState_ir [.box T_l00Src] [.tok T_Setting] [.box T_l00Src]
noncomputable def spec_l27DrawState (a0 : T_l00Src.ty) : Option (List T_Setting.ty × T_l00Src.ty) := spec_l27DrawState_c.f (a0,())
noncomputable def spec_l27DrawState_p0  (v5 : Int) (r0_0 : List Int) (r0_1 : Int) (r0_2 : Int) (r3 : List (List UInt8)) (r4 : List T_Setting.ty) : Option (List T_Setting.ty × T_l00Src.ty) :=
 goL spec_l27DrawState_D spec_l27DrawState_H (vleave spec_l27DrawState_ir [.box T_l00Src] [.tok T_Setting] [.box T_l00Src] []) [.c spec_l27DrawState_k0,.l spec_l27DrawState_k1,.e 0,.c spec_l27DrawState_k2]
  ⟨[(0,.loc 0 0 0),(3,.view 3 0 r3.length),(4,.view 4 0 r4.length),(5,.int .i64 v5)],[(0,some (.var 3 (.agg [.sl (.one (.int .u8)) r0_0,.int .i64 r0_1,.int .u64 r0_2]))),(3,some (.sl (.one .str) r3)),(4,some (.sl T_Setting r4)),(1000,none)]⟩
theorem spec_l27DrawState_eq (a0 : T_l00Src.ty) : spec_l27DrawState a0 =
 spec_l27DrawState_p0 0 a0.1 a0.2.1 a0.2.2.1 [[97],[98],[99],[100],[101]] [] :=
 (mk_f _ _ _ _ _ _ _ 4000).trans (by kernel_rfl)
theorem spec_l27DrawState_p0_eq  (v5 : Int) (r0_0 : List Int) (r0_1 : Int) (r0_2 : Int) (r3 : List (List UInt8)) (r4 : List T_Setting.ty) : spec_l27DrawState_p0 v5 r0_0 r0_1 r0_2 r3 r4 =
 if decide (v5 < 5) then
  (spec_l00Src_one (r0_0,r0_1,r0_2,()) 2).bind fun x1 =>
   if x1.1 then
    if decide (0 ≤ v5) && decide (v5 < (r3.length : Int)) then
     (r3[v5.toNat]?).bind fun x2 =>
      (spec_l00Src_pick (x1.2.1,x1.2.2.1,x1.2.2.2.1,()) 1001).bind fun x3 =>
       if decide (r4.length + 1 < lim) then
        spec_l27DrawState_p0 (IntKind.i64.wrap (v5 + 1)) x3.2.1 x3.2.2.1 x3.2.2.2.1 r3 ((r4.take r4.length) ++ [(x2,x3.1,())])
       else
        none
    else
     none
   else
    spec_l27DrawState_p0 (IntKind.i64.wrap (v5 + 1)) x1.2.1 x1.2.2.1 x1.2.2.2.1 r3 r4
 else
  some ((r4.take r4.length),(r0_0,r0_1,r0_2,())) :=
 (goL_dn _ _ _ 4000 _ _).trans (by kernel_rfl)
def spec_l27At_k0 : C :=
 .seq (.seq (.reg false [.V 6 (.mv (.t 5)),.V 7 (.mv (.t 0)),.V 8 (.len (.t 7)),.V 9 (.bin .lss (.t 6) (.t 8))] [0,1,5,9] []) (.cond (.t 9) .skip (.exit 0))) (.seq (.block 1 (.seq (.reg false [.V 12 (.mv (.t 0)),.V 13 (.mv (.t 5)),.V 14 (.ia 2 (.t 12) (.t 13)),.V 15 (.fa 0 (.t 14)),.V 16 (.ld none (.t 15)),.V 17 (.mv (.t 1)),.V 18 (.bin .eql (.t 16) (.t 17))] [0,1,5,18] []) (.cond (.t 18) (.seq (.reg false [.V 19 (.mv (.t 5)),.V 4 (.asg (.t 19))] [4] []) .ret) .skip))) (.reg false [.V 10 (.mv (.t 5)),.V 11 (.bin .add (.t 10) (.c (.int .i64 1))),.V 5 (.asg (.t 11))] [0,1,5] []))
def spec_l27At_k1 : C :=
 .norm [0,1,5] [] spec_l27At_k0
def spec_l27At_k2 : C :=
 .seq (.reg false [.V 4 (.asg (.c (.int .i64 (-1))))] [4] []) .ret
def spec_l27At_ir : Fn := { np := 2,io := [],res := [.t 4],own := [false],body :=
 (.seq (.reg false [.V 4 (.asg (.c (.int .i64 0)))] [0,1] []) (.seq (.seq (.reg false [.V 5 (.asg (.c (.int .i64 0)))] [0,1,5] []) (.block 0 (.loop spec_l27At_k1))) spec_l27At_k2)) }
noncomputable def spec_l27At_D : List (Nat × Callee) := []
def spec_l27At_H : List (Nat × ET) := [(7,T_Setting),(12,T_Setting)]
noncomputable def spec_l27At_c : Callee := mkCallee spec_l27At_D spec_l27At_H spec_l27At_ir [.d (.one (.sl T_Setting)),.d (.one .str)] [.d (.one (.int .i64))] []
noncomputable def spec_l27At (a0 : List T_Setting.ty) (a1 : List UInt8) : Option (Int) := spec_l27At_c.f (a0,a1,())
noncomputable def spec_l27At_p0  (v0 : List T_Setting.ty) (v1 : List UInt8) (v5 : Int) : Option (Int) :=
 goL spec_l27At_D spec_l27At_H (vleave spec_l27At_ir [.d (.one (.sl T_Setting)),.d (.one .str)] [.d (.one (.int .i64))] [] []) [.c spec_l27At_k0,.l spec_l27At_k1,.e 0,.c spec_l27At_k2]
  ⟨[(0,.sl T_Setting v0),(1,.str v1),(5,.int .i64 v5)],[]⟩
theorem spec_l27At_eq (a0 : List T_Setting.ty) (a1 : List UInt8) : spec_l27At a0 a1 =
 spec_l27At_p0 a0 a1 0 :=
 (mk_f _ _ _ _ _ _ _ 4000).trans (by kernel_rfl)
theorem spec_l27At_p0_eq  (v0 : List T_Setting.ty) (v1 : List UInt8) (v5 : Int) : spec_l27At_p0 v0 v1 v5 =
 if decide (v5 < (v0.length : Int)) then
  if decide (0 ≤ v5) then
   (v0[v5.toNat]?).bind fun x1 =>
    if (x1.1 == v1) then
     some v5
    else
     spec_l27At_p0 v0 v1 (IntKind.i64.wrap (v5 + 1))
  else
   none
 else
  some (-1) :=
 (goL_dn _ _ _ 4000 _ _).trans (by kernel_rfl)
def spec_l27Set_k0 : C :=
 .seq (.reg true [.V 31 (.mv (.t 0)),.V 32 (.mv (.t 7)),.V 33 (.ia 2 (.t 31) (.t 32)),.V 34 (.fa 0 (.t 33)),.V 35 (.ld none (.t 34)),.V 36 (.fa 0 (.t 3)),.V 37 (.ld none (.t 36)),.V 38 (.bin .neq (.t 35) (.t 37))] [0,3,5,6,7,38] [3,5]) (.cond (.t 38) (.reg false [.V 39 (.mv (.t 5)),.V 40 (.mv (.t 0)),.V 41 (.mv (.t 7)),.V 42 (.ia 2 (.t 40) (.t 41)),.V 43 (.ld (some 2) (.t 42)),.V 44 (.bsl 2 (.agg [.str [],.int .i64 0]) 1 [(0,.t 43)]),.W 45 (.app 2 24 (.t 39) (.t 44)),.W 5 (.asg (.t 45))] [0,3,5,6,7] [3,5]) .skip)
def spec_l27Set_k1 : C :=
 .reg false [.V 13 (.mv (.t 7)),.V 14 (.bin .add (.t 13) (.c (.int .i64 1))),.V 7 (.asg (.t 14))] [0,3,5,6,7] [3,5]
def spec_l27Set_k2 : C :=
 .seq (.seq (.reg false [.V 9 (.mv (.t 7)),.V 10 (.mv (.t 0)),.V 11 (.len (.t 10)),.V 12 (.bin .lss (.t 9) (.t 11))] [0,3,5,6,7,12] [3,5]) (.cond (.t 12) .skip (.exit 0))) (.seq (.block 1 (.seq (.seq (.reg true [.V 15 (.mv (.t 6)),.V 16 (.un .not (.t 15)),.V 17 (.mv (.t 16)),.G 18 (.mv (.t 0)) 2 true,.G 19 (.mv (.t 7)) 2 true,.G 20 (.ia 2 (.t 18) (.t 19)) 2 true,.G 21 (.fa 0 (.t 20)) 2 true,.G 22 (.ld none (.t 21)) 2 true,.G 23 (.fa 0 (.t 3)) 2 true,.G 24 (.ld none (.t 23)) 2 true,.G 25 (.bin .geq (.t 22) (.t 24)) 2 true,.V 26 (.pick (.t 17) (.t 25) (.c (.bool false)))] [0,3,5,6,7,26] [3,5]) (.cond (.t 26) (.seq (.reg false [.V 27 (.mv (.t 5)),.V 28 (.ld (some 2) (.t 3)),.V 29 (.bsl 2 (.agg [.str [],.int .i64 0]) 1 [(0,.t 28)]),.W 30 (.app 2 24 (.t 27) (.t 29)),.W 5 (.asg (.t 30))] [0,3,5,7] [3,5]) (.reg false [.V 6 (.asg (.c (.bool true)))] [0,3,5,6,7] [3,5])) .skip)) (.norm [0,3,5,6,7] [3,5] spec_l27Set_k0))) spec_l27Set_k1)
def spec_l27Set_k3 : C :=
 .norm [0,3,5,6,7] [3,5] spec_l27Set_k2
def spec_l27Set_k4 : C :=
 .seq (.seq (.reg false [.V 46 (.mv (.t 6)),.V 47 (.un .not (.t 46))] [3,5,47] [3,5]) (.cond (.t 47) (.reg false [.V 48 (.mv (.t 5)),.V 49 (.ld (some 2) (.t 3)),.V 50 (.bsl 2 (.agg [.str [],.int .i64 0]) 1 [(0,.t 49)]),.W 51 (.app 2 24 (.t 48) (.t 50)),.W 5 (.asg (.t 51))] [5] [5]) .skip)) (.seq (.reg false [.V 52 (.mv (.t 5)),.W 4 (.asg (.t 52))] [4] [4,5]) .ret)
def spec_l27Set_ir : Fn := { np := 2,io := [],res := [.t 4],own := [true],body :=
 (.seq (.reg false [.W 3 (.box 2 (.t 1)),.W 4 (.asg (.c (.nils 2)))] [0,3] [3]) (.seq (.reg false [.V 8 (.bsl 2 (.agg [.str [],.int .i64 0]) 0 []),.W 5 (.asg (.t 8))] [0,3,5] [3,5]) (.seq (.reg false [.V 6 (.asg (.c (.bool false)))] [0,3,5,6] [3,5]) (.seq (.seq (.reg false [.V 7 (.asg (.c (.int .i64 0)))] [0,3,5,6,7] [3,5]) (.block 0 (.loop spec_l27Set_k3))) spec_l27Set_k4)))) }
noncomputable def spec_l27Set_D : List (Nat × Callee) := []
def spec_l27Set_H : List (Nat × ET) := [(4,T_Setting),(5,T_Setting),(8,T_Setting),(10,T_Setting),(18,T_Setting),(27,T_Setting),(29,T_Setting),(30,T_Setting),(31,T_Setting),(39,T_Setting),(40,T_Setting),(44,T_Setting),(45,T_Setting),(48,T_Setting),(50,T_Setting),(51,T_Setting),(52,T_Setting)]
noncomputable def spec_l27Set_c : Callee := mkCallee spec_l27Set_D spec_l27Set_H spec_l27Set_ir [.d (.one (.sl T_Setting)),.d T_Setting] [.tok T_Setting] []
noncomputable def spec_l27Set (a0 : List T_Setting.ty) (a1 : T_Setting.ty) : Option (List T_Setting.ty) := spec_l27Set_c.f (a0,a1,())
noncomputable def spec_l27Set_p0  (v0 : List T_Setting.ty) (v6 : Bool) (v7 : Int) (r3_0 : List UInt8) (r3_1 : Int) (r5 : List T_Setting.ty) : Option (List T_Setting.ty) :=
 goL spec_l27Set_D spec_l27Set_H (vleave spec_l27Set_ir [.d (.one (.sl T_Setting)),.d T_Setting] [.tok T_Setting] [] []) [.c spec_l27Set_k2,.l spec_l27Set_k3,.e 0,.c spec_l27Set_k4]
  ⟨[(0,.sl T_Setting v0),(3,.loc 3 0 0),(5,.view 5 0 r5.length),(6,.bool v6),(7,.int .i64 v7)],[(3,some (.var 2 (.agg [.str r3_0,.int .i64 r3_1]))),(5,some (.sl T_Setting r5))]⟩
noncomputable def spec_l27Set_p1  (v0 : List T_Setting.ty) (v6 : Bool) (v7 : Int) (r3_0 : List UInt8) (r3_1 : Int) (r5 : List T_Setting.ty) : Option (List T_Setting.ty) :=
 goL spec_l27Set_D spec_l27Set_H (vleave spec_l27Set_ir [.d (.one (.sl T_Setting)),.d T_Setting] [.tok T_Setting] [] []) [.c spec_l27Set_k0,.e 1,.c spec_l27Set_k1,.l spec_l27Set_k3,.e 0,.c spec_l27Set_k4]
  ⟨[(0,.sl T_Setting v0),(3,.loc 3 0 0),(5,.view 5 0 r5.length),(6,.bool v6),(7,.int .i64 v7)],[(3,some (.var 2 (.agg [.str r3_0,.int .i64 r3_1]))),(5,some (.sl T_Setting r5))]⟩
theorem spec_l27Set_eq (a0 : List T_Setting.ty) (a1 : T_Setting.ty) : spec_l27Set a0 a1 =
 spec_l27Set_p0 a0 false 0 a1.1 a1.2.1 [] :=
 (mk_f _ _ _ _ _ _ _ 4000).trans (by kernel_rfl)
theorem spec_l27Set_p0_eq  (v0 : List T_Setting.ty) (v6 : Bool) (v7 : Int) (r3_0 : List UInt8) (r3_1 : Int) (r5 : List T_Setting.ty) : spec_l27Set_p0 v0 v6 v7 r3_0 r3_1 r5 =
 if decide (v7 < (v0.length : Int)) then
  if (!v6) then
   if decide (0 ≤ v7) then
    (v0[v7.toNat]?).bind fun x1 =>
     if (!Op.bytesLess x1.1 r3_0) then
      if decide (r5.length + 1 < lim) then
       spec_l27Set_p1 v0 true v7 r3_0 r3_1 ((r5.take r5.length) ++ [(r3_0,r3_1,())])
      else
       none
     else
      spec_l27Set_p1 v0 v6 v7 r3_0 r3_1 r5
   else
    none
  else
   spec_l27Set_p1 v0 v6 v7 r3_0 r3_1 r5
 else
  if (!v6) then
   if decide (r5.length + 1 < lim) then
    some (((r5.take r5.length) ++ [(r3_0,r3_1,())]).take (((r5.take r5.length) ++ [(r3_0,r3_1,())]).length))
   else
    none
  else
   some (r5.take r5.length) :=
 (goL_dn _ _ _ 4000 _ _).trans (by kernel_rfl)
theorem spec_l27Set_p1_eq  (v0 : List T_Setting.ty) (v6 : Bool) (v7 : Int) (r3_0 : List UInt8) (r3_1 : Int) (r5 : List T_Setting.ty) : spec_l27Set_p1 v0 v6 v7 r3_0 r3_1 r5 =
 if decide (0 ≤ v7) then
  (v0[v7.toNat]?).bind fun x1 =>
   if (!(x1.1 == r3_0)) then
    if decide (0 ≤ v7) then
     (v0[v7.toNat]?).bind fun x2 =>
      if decide (r5.length + 1 < lim) then
       spec_l27Set_p0 v0 v6 (IntKind.i64.wrap (v7 + 1)) r3_0 r3_1 ((r5.take r5.length) ++ [x2])
      else
       none
    else
     none
   else
    spec_l27Set_p0 v0 v6 (IntKind.i64.wrap (v7 + 1)) r3_0 r3_1 r5
 else
  none :=
 (goL_dn _ _ _ 4000 _ _).trans (by kernel_rfl)
def spec_l27Changed_k0 : C :=
 .seq (.reg false [.V 35 (.bsl 2 (.agg [.str [],.int .i64 0]) 0 []),.V 36 (.mv (.t 5)),.V 37 (.mv (.t 9)),.V 38 (.slc 2 (.t 36) none (some (.t 37))),.W 39 (.app 2 24 (.t 35) (.t 38)),.W 10 (.asg (.t 39))] [0,5,6,7,9,10] [0,5,6,10,1000]) (.reg false [.V 40 (.mv (.t 10)),.V 41 (.mv (.t 5)),.V 42 (.mv (.t 9)),.V 43 (.bin .add (.t 42) (.c (.int .i64 1))),.V 44 (.slc 2 (.t 41) (some (.t 43)) none),.W 45 (.app 2 24 (.t 40) (.t 44)),.W 5 (.asg (.t 45))] [0,5,6,7] [0,5,6,1000])
def spec_l27Changed_k1 : C :=
 .reg false [.V 46 (.mv (.t 5)),.V 47 (.mv (.t 8)),.V 48 (.mv (.t 0)),.W 49 (.call (.c (.fn 463 [])) [.t 48,.c (.int .i64 1001)]),.V 50 (.build [.str [],.int .i64 0] [(0,1,.t 47),(1,1,.t 49)]),.V 51 (.call (.c (.fn 925 [])) [.t 46,.t 50]),.W 5 (.asg (.t 51))] [0,5,6,7] [0,5,6,1000]
def spec_l27Changed_k2 : C :=
 .reg false [.V 19 (.mv (.t 7)),.V 20 (.bin .sub (.t 19) (.c (.int .i64 1))),.V 7 (.asg (.t 20))] [0,5,6,7] [0,5,6,1000]
def spec_l27Changed_k3 : C :=
 .seq (.seq (.reg false [.V 17 (.mv (.t 7)),.V 18 (.bin .gtr (.t 17) (.c (.int .i64 0)))] [0,5,6,7,18] [0,5,6,1000]) (.cond (.t 18) .skip (.exit 0))) (.seq (.block 1 (.seq (.reg false [.V 21 (.mv (.t 6)),.V 22 (.mv (.t 0)),.W 23 (.call (.c (.fn 463 [])) [.t 22,.c (.int .i64 6)]),.V 24 (.ia 1 (.t 21) (.t 23)),.V 25 (.ld none (.t 24)),.V 8 (.asg (.t 25))] [0,5,6,7,8] [0,5,6,1000]) (.seq (.reg false [.V 26 (.mv (.t 5)),.V 27 (.mv (.t 8)),.V 28 (.call (.c (.fn 926 [])) [.t 26,.t 27]),.V 9 (.asg (.t 28))] [0,5,6,7,8,9] [0,5,6,1000]) (.seq (.reg false [.V 29 (.mv (.t 9)),.V 30 (.bin .geq (.t 29) (.c (.int .i64 0))),.V 31 (.mv (.t 30)),.G 32 (.mv (.t 0)) 2 true,⟨some 33,true,.call (.c (.fn 642 [])) [.t 32,.c (.int .i64 2)],some (2,true),false,[]⟩,.V 34 (.pick (.t 31) (.t 33) (.c (.bool false)))] [0,5,6,7,8,9,34] [0,5,6,1000]) (.cond (.t 34) (.norm [0,5,6,7,9] [0,5,6,1000] spec_l27Changed_k0) (.norm [0,5,6,7,8] [0,5,6,1000] spec_l27Changed_k1)))))) spec_l27Changed_k2)
def spec_l27Changed_k4 : C :=
 .norm [0,5,6,7] [0,5,6,1000] spec_l27Changed_k3
def spec_l27Changed_k5 : C :=
 .seq (.reg false [.V 52 (.mv (.t 5)),.W 4 (.asg (.t 52))] [0,4] [0,4,5,1000]) .ret
def spec_l27Changed_ir : Fn := { np := 2,io := [true,false],res := [.t 4],own := [true],body :=
 (.seq (.reg false [.W 4 (.asg (.c (.nils 2)))] [0,1] [0,1000]) (.seq (.reg false [.V 11 (.bsl 2 (.agg [.str [],.int .i64 0]) 0 []),.V 12 (.mv (.t 1)),.W 13 (.app 2 24 (.t 11) (.t 12)),.W 5 (.asg (.t 13))] [0,5] [0,5,1000]) (.seq (.reg false [.V 14 (.bsl 1 (.str []) 6 [(0,.c (.str [97])),(1,.c (.str [98])),(2,.c (.str [99])),(3,.c (.str [100])),(4,.c (.str [101])),(5,.c (.str [102]))]),.W 6 (.asg (.t 14))] [0,5,6] [0,5,6,1000]) (.seq (.seq (.reg false [.V 15 (.mv (.t 0)),.W 16 (.call (.c (.fn 463 [])) [.t 15,.c (.int .i64 4)]),.V 7 (.asg (.t 16))] [0,5,6,7] [0,5,6,1000]) (.block 0 (.loop spec_l27Changed_k4))) spec_l27Changed_k5)))) }
noncomputable def spec_l27Changed_D : List (Nat × Callee) := [(463,spec_l00Src_pick_c),(642,spec_l00Src_one_c),(925,spec_l27Set_c),(926,spec_l27At_c)]
def spec_l27Changed_H : List (Nat × ET) := [(4,T_Setting),(5,T_Setting),(6,(.one .str)),(10,T_Setting),(11,T_Setting),(12,T_Setting),(13,T_Setting),(14,(.one .str)),(21,(.one .str)),(26,T_Setting),(35,T_Setting),(36,T_Setting),(38,T_Setting),(39,T_Setting),(40,T_Setting),(41,T_Setting),(44,T_Setting),(45,T_Setting),(46,T_Setting),(51,T_Setting),(52,T_Setting)]
noncomputable def spec_l27Changed_c : Callee := mkCallee spec_l27Changed_D spec_l27Changed_H spec_l27Changed_ir [.box T_l00Src,.d (.one (.sl T_Setting))] [.tok T_Setting] [.box T_l00Src]
noncomputable def spec_l27Changed (a0 : T_l00Src.ty) (a1 : List T_Setting.ty) : Option (List T_Setting.ty × T_l00Src.ty) := spec_l27Changed_c.f (a0,a1,())
noncomputable def spec_l27Changed_p0  (v7 : Int) (r0_0 : List Int) (r0_1 : Int) (r0_2 : Int) (r5 : List T_Setting.ty) (r6 : List (List UInt8)) : Option (List T_Setting.ty × T_l00Src.ty) :=
 goL spec_l27Changed_D spec_l27Changed_H (vleave spec_l27Changed_ir [.box T_l00Src,.d (.one (.sl T_Setting))] [.tok T_Setting] [.box T_l00Src] []) [.c spec_l27Changed_k3,.l spec_l27Changed_k4,.e 0,.c spec_l27Changed_k5]
  ⟨[(0,.loc 0 0 0),(5,.view 5 0 r5.length),(6,.view 6 0 r6.length),(7,.int .i64 v7)],[(0,some (.var 3 (.agg [.sl (.one (.int .u8)) r0_0,.int .i64 r0_1,.int .u64 r0_2]))),(5,some (.sl T_Setting r5)),(6,some (.sl (.one .str) r6)),(1000,none)]⟩
noncomputable def spec_l27Changed_p1  (v7 : Int) (v9 : Int) (r0_0 : List Int) (r0_1 : Int) (r0_2 : Int) (r5 : List T_Setting.ty) (r6 : List (List UInt8)) : Option (List T_Setting.ty × T_l00Src.ty) :=
 goL spec_l27Changed_D spec_l27Changed_H (vleave spec_l27Changed_ir [.box T_l00Src,.d (.one (.sl T_Setting))] [.tok T_Setting] [.box T_l00Src] []) [.c spec_l27Changed_k0,.e 1,.c spec_l27Changed_k2,.l spec_l27Changed_k4,.e 0,.c spec_l27Changed_k5]
  ⟨[(0,.loc 0 0 0),(5,.view 5 0 r5.length),(6,.view 6 0 r6.length),(7,.int .i64 v7),(9,.int .i64 v9)],[(0,some (.var 3 (.agg [.sl (.one (.int .u8)) r0_0,.int .i64 r0_1,.int .u64 r0_2]))),(5,some (.sl T_Setting r5)),(6,some (.sl (.one .str) r6)),(1000,none)]⟩
noncomputable def spec_l27Changed_p2  (v7 : Int) (v8 : List UInt8) (r0_0 : List Int) (r0_1 : Int) (r0_2 : Int) (r5 : List T_Setting.ty) (r6 : List (List UInt8)) : Option (List T_Setting.ty × T_l00Src.ty) :=
 goL spec_l27Changed_D spec_l27Changed_H (vleave spec_l27Changed_ir [.box T_l00Src,.d (.one (.sl T_Setting))] [.tok T_Setting] [.box T_l00Src] []) [.c spec_l27Changed_k1,.e 1,.c spec_l27Changed_k2,.l spec_l27Changed_k4,.e 0,.c spec_l27Changed_k5]
  ⟨[(0,.loc 0 0 0),(5,.view 5 0 r5.length),(6,.view 6 0 r6.length),(7,.int .i64 v7),(8,.str v8)],[(0,some (.var 3 (.agg [.sl (.one (.int .u8)) r0_0,.int .i64 r0_1,.int .u64 r0_2]))),(5,some (.sl T_Setting r5)),(6,some (.sl (.one .str) r6)),(1000,none)]⟩
theorem spec_l27Changed_eq (a0 : T_l00Src.ty) (a1 : List T_Setting.ty) : spec_l27Changed a0 a1 =
 if decide (0 + a1.length < lim) then
  (spec_l00Src_pick a0 4).bind fun x1 =>
   spec_l27Changed_p0 x1.1 x1.2.1 x1.2.2.1 x1.2.2.2.1 ([] ++ a1) [[97],[98],[99],[100],[101],[102]]
 else
  none :=
 (mk_f _ _ _ _ _ _ _ 4000).trans (by kernel_rfl)
theorem spec_l27Changed_p0_eq  (v7 : Int) (r0_0 : List Int) (r0_1 : Int) (r0_2 : Int) (r5 : List T_Setting.ty) (r6 : List (List UInt8)) : spec_l27Changed_p0 v7 r0_0 r0_1 r0_2 r5 r6 =
 if decide (v7 > 0) then
  (spec_l00Src_pick (r0_0,r0_1,r0_2,()) 6).bind fun x1 =>
   if decide (0 ≤ x1.1) && decide (x1.1 < (r6.length : Int)) then
    (r6[x1.1.toNat]?).bind fun x2 =>
     (spec_l27At (r5.take r5.length) x2).bind fun x3 =>
      if decide (x3 ≥ 0) then
       (spec_l00Src_one (x1.2.1,x1.2.2.1,x1.2.2.2.1,()) 2).bind fun x4 =>
        if x4.1 then
         spec_l27Changed_p1 v7 x3 x4.2.1 x4.2.2.1 x4.2.2.2.1 r5 r6
        else
         spec_l27Changed_p2 v7 x2 x4.2.1 x4.2.2.1 x4.2.2.2.1 r5 r6
      else
       spec_l27Changed_p2 v7 x2 x1.2.1 x1.2.2.1 x1.2.2.2.1 r5 r6
   else
    none
 else
  some ((r5.take r5.length),(r0_0,r0_1,r0_2,())) :=
 (goL_dn _ _ _ 4000 _ _).trans (by kernel_rfl)
theorem spec_l27Changed_p1_eq  (v7 : Int) (v9 : Int) (r0_0 : List Int) (r0_1 : Int) (r0_2 : Int) (r5 : List T_Setting.ty) (r6 : List (List UInt8)) : spec_l27Changed_p1 v7 v9 r0_0 r0_1 r0_2 r5 r6 =
 if decide (0 ≤ v9) && decide (v9 ≤ (r5.length : Int)) then
  if decide (0 + (r5.take v9.toNat).length < lim) then
   if decide (0 ≤ IntKind.i64.wrap (v9 + 1)) && decide (IntKind.i64.wrap (v9 + 1) ≤ (r5.length : Int)) then
    if decide (([] ++ (r5.take v9.toNat)).length + ((vdrop ((IntKind.i64.wrap (v9 + 1)).toNat) r5).take (r5.length - (IntKind.i64.wrap (v9 + 1)).toNat)).length < lim) then
     spec_l27Changed_p0 (IntKind.i64.wrap (v7 - 1)) r0_0 r0_1 r0_2 ((([] ++ (r5.take v9.toNat)).take (([] ++ (r5.take v9.toNat)).length)) ++ ((vdrop ((IntKind.i64.wrap (v9 + 1)).toNat) r5).take (r5.length - (IntKind.i64.wrap (v9 + 1)).toNat))) r6
    else
     none
   else
    none
  else
   none
 else
  none :=
 (goL_dn _ _ _ 4000 _ _).trans (by kernel_rfl)
theorem spec_l27Changed_p2_eq  (v7 : Int) (v8 : List UInt8) (r0_0 : List Int) (r0_1 : Int) (r0_2 : Int) (r5 : List T_Setting.ty) (r6 : List (List UInt8)) : spec_l27Changed_p2 v7 v8 r0_0 r0_1 r0_2 r5 r6 =
 (spec_l00Src_pick (r0_0,r0_1,r0_2,()) 1001).bind fun x1 =>
  (spec_l27Set (r5.take r5.length) (v8,x1.1,())).bind fun x2 =>
   spec_l27Changed_p0 (IntKind.i64.wrap (v7 - 1)) x1.2.1 x1.2.2.1 x1.2.2.2.1 x2 r6 :=
 (goL_dn _ _ _ 4000 _ _).trans (by kernel_rfl)
def spec_l00Src_text_ir : Fn := { np := 2,io := [true,false],res := [.t 4],own := [false],body :=
 (.seq (.reg false [.V 4 (.asg (.c (.str [])))] [0,1] [0,1000]) (.seq (.reg false [.V 5 (.mv (.t 1)),.V 6 (.mv (.t 0)),.V 7 (.mv (.t 1)),.V 8 (.len (.t 7)),.W 9 (.call (.c (.fn 463 [])) [.t 6,.t 8]),.V 10 (.ia 1 (.t 5) (.t 9)),.V 11 (.ld none (.t 10)),.V 4 (.asg (.t 11))] [0,4] [0,1000]) .ret)) }
noncomputable def spec_l00Src_text_D : List (Nat × Callee) := [(463,spec_l00Src_pick_c)]
def spec_l00Src_text_H : List (Nat × ET) := [(5,(.one .str)),(7,(.one .str))]
noncomputable def spec_l00Src_text_c : Callee := mkCallee spec_l00Src_text_D spec_l00Src_text_H spec_l00Src_text_ir [.box T_l00Src,.d (.one (.sl (.one .str)))] [.d (.one .str)] [.box T_l00Src]
noncomputable def spec_l00Src_text (a0 : T_l00Src.ty) (a1 : List (List UInt8)) : Option (List UInt8 × T_l00Src.ty) := spec_l00Src_text_c.f (a0,a1,())
theorem spec_l00Src_text_eq (a0 : T_l00Src.ty) (a1 : List (List UInt8)) : spec_l00Src_text a0 a1 =
 (spec_l00Src_pick a0 (a1.length : Int)).bind fun x1 =>
  if decide (0 ≤ x1.1) then
   (a1[x1.1.toNat]?).bind fun x2 =>
    some (x2,(x1.2.1,x1.2.2.1,x1.2.2.2.1,()))
  else
   none :=
 (mk_f _ _ _ _ _ _ _ 4000).trans (by kernel_rfl)
def spec_l27Draw_k0 : C :=
 .seq (.reg false [.V 34 (.mv (.t 5)),.V 35 (.bin .add (.t 34) (.c (.int .i64 1))),.V 36 (.mv (.t 6)),.V 37 (.mv (.t 7)),.V 38 (.build [.int .i64 0,.int .i64 0,.str [],.nils 2] [(0,1,.t 35),(1,1,.t 36),(3,1,.t 37)]),.W 8 (.alloc 4 (.agg [.int .i64 0,.int .i64 0,.str [],.nils 2])),⟨none,true,.sto 4 (.t 8) (.t 38),none,false,[]⟩] [0,3,4,8] [0,3,8,1000,9003]) (.seq (.reg false [.V 39 (.mv (.t 0)),.V 40 (.bsl 1 (.str []) 3 [(0,.c (.str [])),(1,.c (.str [110,101,119])),(2,.c (.str [97,32,98]))]),.W 41 (.call (.c (.fn 557 [])) [.t 39,.t 40]),.V 42 (.fa 2 (.t 8)),⟨none,true,.sto 1 (.t 42) (.t 41),none,false,[]⟩] [0,3,4,8] [0,3,8,1000,9003]) (.reg false [.V 43 (.mv (.t 3)),.V 44 (.ld (some 4) (.t 8)),.V 45 (.bsl 4 (.agg [.int .i64 0,.int .i64 0,.str [],.sl 2 []]) 1 [(0,.t 44)]),.W 46 (.app 4 56 (.t 43) (.t 45)),.W 3 (.asg (.t 46))] [0,3,4] [0,3,1000]))
def spec_l27Draw_k1 : C :=
 .reg false [.V 14 (.mv (.t 4)),.V 15 (.bin .sub (.t 14) (.c (.int .i64 1))),.V 4 (.asg (.t 15))] [0,3,4] [0,3,1000]
def spec_l27Draw_k2 : C :=
 .seq (.seq (.reg false [.V 12 (.mv (.t 4)),.V 13 (.bin .gtr (.t 12) (.c (.int .i64 0)))] [0,3,4,13] [0,3,1000]) (.cond (.t 13) .skip (.exit 0))) (.seq (.block 1 (.seq (.reg false [.V 16 (.mv (.t 3)),.V 17 (.len (.t 16)),.V 5 (.asg (.t 17))] [0,3,4,5] [0,3,1000]) (.seq (.reg false [.V 18 (.mv (.t 0)),.V 19 (.mv (.t 5)),.V 20 (.bin .add (.t 19) (.c (.int .i64 1))),.W 21 (.call (.c (.fn 463 [])) [.t 18,.t 20]),.V 6 (.asg (.t 21))] [0,3,4,5,6] [0,3,1000]) (.seq (.reg false [.V 22 (.mv (.t 0)),.W 23 (.call (.c (.fn 686 [])) [.t 22]),.W 7 (.asg (.t 23))] [0,3,4,5,6,7] [0,3,7,1000]) (.seq (.seq (.reg false [.V 24 (.mv (.t 6)),.V 25 (.bin .gtr (.t 24) (.c (.int .i64 0)))] [0,3,4,5,6,7,25] [0,3,7,1000]) (.cond (.t 25) (.reg false [.V 26 (.mv (.t 0)),.V 27 (.mv (.t 3)),.V 28 (.mv (.t 6)),.V 29 (.bin .sub (.t 28) (.c (.int .i64 1))),.V 30 (.ia 4 (.t 27) (.t 29)),.V 31 (.fa 3 (.t 30)),.V 32 (.ld none (.t 31)),.W 33 (.call (.c (.fn 687 [])) [.t 26,.t 32]),.W 7 (.asg (.t 33))] [0,3,4,5,6,7] [0,3,7,1000]) .skip)) (.norm [0,3,4,5,6,7] [0,3,7,1000] spec_l27Draw_k0)))))) spec_l27Draw_k1)
def spec_l27Draw_k3 : C :=
 .norm [0,3,4] [0,3,1000] spec_l27Draw_k2
def spec_l27Draw_k4 : C :=
 .seq (.reg false [.V 47 (.mv (.t 3)),.W 2 (.asg (.t 47))] [0,2] [0,2,3,1000]) .ret
def spec_l27Draw_ir : Fn := { np := 1,io := [true],res := [.t 2],own := [false],body :=
 (.seq (.reg false [.W 2 (.asg (.c (.nils 4)))] [0] [0,1000]) (.seq (.reg false [.V 9 (.bsl 4 (.agg [.int .i64 0,.int .i64 0,.str [],.sl 2 []]) 0 []),.W 3 (.asg (.t 9))] [0,3] [0,3,1000]) (.seq (.seq (.reg false [.V 10 (.mv (.t 0)),.W 11 (.call (.c (.fn 463 [])) [.t 10,.c (.int .i64 6)]),.V 4 (.asg (.t 11))] [0,3,4] [0,3,1000]) (.block 0 (.loop spec_l27Draw_k3))) spec_l27Draw_k4))) }
noncomputable def spec_l27Draw_D : List (Nat × Callee) := [(463,spec_l00Src_pick_c),(557,spec_l00Src_text_c),(686,spec_l27DrawState_c),(687,spec_l27Changed_c)]
def spec_l27Draw_H : List (Nat × ET) := [(2,T_Version),(3,T_Version),(7,T_Setting),(9,T_Version),(16,T_Version),(23,T_Setting),(27,T_Version),(32,T_Setting),(33,T_Setting),(37,T_Setting),(40,(.one .str)),(43,T_Version),(45,T_Version),(46,T_Version),(47,T_Version)]
noncomputable def spec_l27Draw_c : Callee := mkCallee spec_l27Draw_D spec_l27Draw_H spec_l27Draw_ir [.box T_l00Src] [.d (.one (.sl T_Version))] [.box T_l00Src]
noncomputable def spec_l27Draw (a0 : T_l00Src.ty) : Option (List T_Version.ty × T_l00Src.ty) := spec_l27Draw_c.f (a0,())
noncomputable def spec_l27Draw_p0  (v4 : Int) (r0_0 : List Int) (r0_1 : Int) (r0_2 : Int) (r3 : List T_Version.ty) : Option (List T_Version.ty × T_l00Src.ty) :=
 goL spec_l27Draw_D spec_l27Draw_H (vleave spec_l27Draw_ir [.box T_l00Src] [.d (.one (.sl T_Version))] [.box T_l00Src] []) [.c spec_l27Draw_k2,.l spec_l27Draw_k3,.e 0,.c spec_l27Draw_k4]
  ⟨[(0,.loc 0 0 0),(3,.view 3 0 r3.length),(4,.int .i64 v4)],[(0,some (.var 3 (.agg [.sl (.one (.int .u8)) r0_0,.int .i64 r0_1,.int .u64 r0_2]))),(3,some (.sl T_Version r3)),(1000,none)]⟩
noncomputable def spec_l27Draw_p1  (v4 : Int) (v5 : Int) (v6 : Int) (r0_0 : List Int) (r0_1 : Int) (r0_2 : Int) (r3 : List T_Version.ty) (r7 : List T_Setting.ty) : Option (List T_Version.ty × T_l00Src.ty) :=
 goL spec_l27Draw_D spec_l27Draw_H (vleave spec_l27Draw_ir [.box T_l00Src] [.d (.one (.sl T_Version))] [.box T_l00Src] []) [.c spec_l27Draw_k0,.e 1,.c spec_l27Draw_k1,.l spec_l27Draw_k3,.e 0,.c spec_l27Draw_k4]
  ⟨[(0,.loc 0 0 0),(3,.view 3 0 r3.length),(4,.int .i64 v4),(5,.int .i64 v5),(6,.int .i64 v6),(7,.view 7 0 r7.length)],[(0,some (.var 3 (.agg [.sl (.one (.int .u8)) r0_0,.int .i64 r0_1,.int .u64 r0_2]))),(3,some (.sl T_Version r3)),(7,some (.sl T_Setting r7)),(1000,none)]⟩
theorem spec_l27Draw_eq (a0 : T_l00Src.ty) : spec_l27Draw a0 =
 (spec_l00Src_pick a0 6).bind fun x1 =>
  spec_l27Draw_p0 x1.1 x1.2.1 x1.2.2.1 x1.2.2.2.1 [] :=
 (mk_f _ _ _ _ _ _ _ 4000).trans (by kernel_rfl)
theorem spec_l27Draw_p0_eq  (v4 : Int) (r0_0 : List Int) (r0_1 : Int) (r0_2 : Int) (r3 : List T_Version.ty) : spec_l27Draw_p0 v4 r0_0 r0_1 r0_2 r3 =
 if decide (v4 > 0) then
  (spec_l00Src_pick (r0_0,r0_1,r0_2,()) (IntKind.i64.wrap ((r3.length : Int) + 1))).bind fun x1 =>
   (spec_l27DrawState (x1.2.1,x1.2.2.1,x1.2.2.2.1,())).bind fun x2 =>
    if decide (x1.1 > 0) then
     if decide (0 ≤ IntKind.i64.wrap (x1.1 - 1)) && decide (IntKind.i64.wrap (x1.1 - 1) < (r3.length : Int)) then
      (r3[(IntKind.i64.wrap (x1.1 - 1)).toNat]?).bind fun x3 =>
       (spec_l27Changed (x2.2.1,x2.2.2.1,x2.2.2.2.1,()) x3.2.2.2.1).bind fun x4 =>
        spec_l27Draw_p1 v4 (r3.length : Int) x1.1 x4.2.1 x4.2.2.1 x4.2.2.2.1 r3 x4.1
     else
      none
    else
     spec_l27Draw_p1 v4 (r3.length : Int) x1.1 x2.2.1 x2.2.2.1 x2.2.2.2.1 r3 x2.1
 else
  some ((r3.take r3.length),(r0_0,r0_1,r0_2,())) :=
 (goL_dn _ _ _ 4000 _ _).trans (by kernel_rfl)
theorem spec_l27Draw_p1_eq  (v4 : Int) (v5 : Int) (v6 : Int) (r0_0 : List Int) (r0_1 : Int) (r0_2 : Int) (r3 : List T_Version.ty) (r7 : List T_Setting.ty) : spec_l27Draw_p1 v4 v5 v6 r0_0 r0_1 r0_2 r3 r7 =
 (spec_l00Src_text (r0_0,r0_1,r0_2,()) [[],[110,101,119],[97,32,98]]).bind fun x1 =>
  if decide (r3.length + 1 < lim) then
   spec_l27Draw_p0 (IntKind.i64.wrap (v4 - 1)) x1.2.1 x1.2.2.1 x1.2.2.2.1 ((r3.take r3.length) ++ [(IntKind.i64.wrap (v5 + 1),v6,x1.1,(r7.take r7.length),())])
  else
   none :=
 (goL_dn _ _ _ 4000 _ _).trans (by kernel_rfl)
def spec_R8History_ir : Fn := { np := 1,io := [],res := [.t 2],own := [false],body :=
 (.seq (.reg false [.W 2 (.asg (.c (.nils 4)))] [0] []) (.seq (.reg false [.V 4 (.mv (.t 0)),.W 5 (.call (.c (.fn 441 [])) [.t 4]),.V 3 (.asg (.t 5))] [3] [5,6000]) (.seq (.reg false [.V 6 (.mv (.t 3)),.W 7 (.call (.c (.fn 685 [])) [.t 6]),.W 2 (.asg (.t 7))] [2] [2]) .ret))) }
noncomputable def spec_R8History_D : List (Nat × Callee) := [(441,spec_l00From_c),(685,spec_l27Draw_c)]
def spec_R8History_H : List (Nat × ET) := [(2,T_Version),(4,(.one (.int .u8))),(7,T_Version)]
noncomputable def spec_R8History_c : Callee := mkCallee spec_R8History_D spec_R8History_H spec_R8History_ir [.d (.one (.sl (.one (.int .u8))))] [.d (.one (.sl T_Version))] []
noncomputable def spec_R8History (a0 : List Int) : Option (List T_Version.ty) := spec_R8History_c.f (a0,())
theorem spec_R8History_eq (a0 : List Int) : spec_R8History a0 =
 (spec_l00From a0).bind fun x1 =>
  (spec_l27Draw x1).bind fun x2 =>
   some x2.1 :=
 (mk_f _ _ _ _ _ _ _ 4000).trans (by kernel_rfl)
def spec_R8State_ir : Fn := { np := 1,io := [],res := [.t 2],own := [true],body :=
 (.seq (.reg false [.W 2 (.asg (.c (.nils 2)))] [0] []) (.seq (.reg false [.V 4 (.mv (.t 0)),.W 5 (.call (.c (.fn 441 [])) [.t 4]),.V 3 (.asg (.t 5))] [3] [5,6000]) (.seq (.reg false [.V 6 (.mv (.t 3)),.W 7 (.call (.c (.fn 686 [])) [.t 6]),.W 2 (.asg (.t 7))] [2] [2]) .ret))) }
noncomputable def spec_R8State_D : List (Nat × Callee) := [(441,spec_l00From_c),(686,spec_l27DrawState_c)]
def spec_R8State_H : List (Nat × ET) := [(2,T_Setting),(4,(.one (.int .u8))),(7,T_Setting)]
noncomputable def spec_R8State_c : Callee := mkCallee spec_R8State_D spec_R8State_H spec_R8State_ir [.d (.one (.sl (.one (.int .u8))))] [.tok T_Setting] []
noncomputable def spec_R8State (a0 : List Int) : Option (List T_Setting.ty) := spec_R8State_c.f (a0,())
theorem spec_R8State_eq (a0 : List Int) : spec_R8State a0 =
 (spec_l00From a0).bind fun x1 =>
  (spec_l27DrawState x1).bind fun x2 =>
   some (x2.1.take x2.1.length) :=
 (mk_f _ _ _ _ _ _ _ 4000).trans (by kernel_rfl)
def spec_R8Changed_ir : Fn := { np := 2,io := [],res := [.t 4],own := [true],body :=
 (.seq (.reg false [.W 4 (.asg (.c (.nils 2)))] [0,1] []) (.seq (.reg false [.V 6 (.mv (.t 0)),.W 7 (.call (.c (.fn 441 [])) [.t 6]),.V 5 (.asg (.t 7))] [1,5] [7,8000]) (.seq (.reg false [.V 8 (.mv (.t 5)),.V 9 (.mv (.t 1)),.W 10 (.call (.c (.fn 687 [])) [.t 8,.t 9]),.W 4 (.asg (.t 10))] [4] [4]) .ret))) }
noncomputable def spec_R8Changed_D : List (Nat × Callee) := [(441,spec_l00From_c),(687,spec_l27Changed_c)]
def spec_R8Changed_H : List (Nat × ET) := [(4,T_Setting),(6,(.one (.int .u8))),(9,T_Setting),(10,T_Setting)]
noncomputable def spec_R8Changed_c : Callee := mkCallee spec_R8Changed_D spec_R8Changed_H spec_R8Changed_ir [.d (.one (.sl (.one (.int .u8)))),.d (.one (.sl T_Setting))] [.tok T_Setting] []
noncomputable def spec_R8Changed (a0 : List Int) (a1 : List T_Setting.ty) : Option (List T_Setting.ty) := spec_R8Changed_c.f (a0,a1,())
theorem spec_R8Changed_eq (a0 : List Int) (a1 : List T_Setting.ty) : spec_R8Changed a0 a1 =
 (spec_l00From a0).bind fun x1 =>
  (spec_l27Changed x1 a1).bind fun x2 =>
   some (x2.1.take x2.1.length) :=
 (mk_f _ _ _ _ _ _ _ 4000).trans (by kernel_rfl)
def impl_isDigit_ir : Fn := { np := 1,io := [],res := [.t 2],own := [false],body :=
 (.seq (.reg false [.V 2 (.asg (.c (.bool false)))] [0] []) (.seq (.reg false [.V 3 (.mv (.t 0)),.V 4 (.bin .geq (.t 3) (.c (.int .u8 48))),.V 5 (.mv (.t 4)),.G 6 (.mv (.t 0)) 2 true,.G 7 (.bin .leq (.t 6) (.c (.int .u8 57))) 2 true,.V 8 (.pick (.t 5) (.t 7) (.c (.bool false))),.V 2 (.asg (.t 8))] [2] []) .ret)) }
noncomputable def impl_isDigit_D : List (Nat × Callee) := []
def impl_isDigit_H : List (Nat × ET) := []
noncomputable def impl_isDigit_c : Callee := mkCallee impl_isDigit_D impl_isDigit_H impl_isDigit_ir [.d (.one (.int .u8))] [.d (.one .bool)] []
noncomputable def impl_isDigit (a0 : Int) : Option (Bool) := impl_isDigit_c.f (a0,())
theorem impl_isDigit_eq (a0 : Int) : impl_isDigit a0 =
 if decide (a0 ≥ 48) then
  some (decide (a0 ≤ 57))
 else
  some false :=
 (mk_f _ _ _ _ _ _ _ 4000).trans (by kernel_rfl)
def impl_few_ir : Fn := { np := 2,io := [],res := [.t 4],own := [false],body :=
 (.seq (.reg false [.V 4 (.asg (.c (.bool false)))] [0,1] []) (.seq (.reg false [.V 5 (.mv (.t 0)),.V 6 (.mv (.t 1)),.V 7 (.bin .leq (.t 5) (.t 6)),.V 4 (.asg (.t 7))] [4] []) .ret)) }
noncomputable def impl_few_D : List (Nat × Callee) := []
def impl_few_H : List (Nat × ET) := []
noncomputable def impl_few_c : Callee := mkCallee impl_few_D impl_few_H impl_few_ir [.d (.one (.int .i64)),.d (.one (.int .i64))] [.d (.one .bool)] []
noncomputable def impl_few (a0 : Int) (a1 : Int) : Option (Bool) := impl_few_c.f (a0,a1,())
theorem impl_few_eq (a0 : Int) (a1 : Int) : impl_few a0 a1 =
 some (decide (a0 ≤ a1)) :=
 (mk_f _ _ _ _ _ _ _ 4000).trans (by kernel_rfl)
def impl_IsName_k0 : C :=
 .seq (.reg false [.V 21 (.mv (.t 4)),.V 22 (.un .not (.t 21)),.V 23 (.mv (.t 22)),.G 24 (.mv (.t 3)) 2 true,.G 25 (.bin .eql (.t 24) (.c (.int .i64 0))) 2 true,.G 26 (.mv (.t 25)) 2 true,.G 27 (.mv (.t 0)) 5 false,.G 28 (.mv (.t 3)) 5 false,.G 29 (.ix (.t 27) (.t 28)) 5 false,.G 30 (.call (.c (.fn 22 [])) [.t 29]) 5 false,.G 31 (.un .not (.t 30)) 5 false,.G 32 (.pick (.t 26) (.c (.bool true)) (.t 31)) 2 true,.V 33 (.pick (.t 23) (.t 32) (.c (.bool false)))] [0,3,33] []) (.cond (.t 33) (.seq (.reg false [.V 2 (.asg (.c (.bool false)))] [2] []) .ret) .skip)
def impl_IsName_k1 : C :=
 .reg false [.V 9 (.mv (.t 3)),.V 10 (.bin .add (.t 9) (.c (.int .i64 1))),.V 3 (.asg (.t 10))] [0,3] []
def impl_IsName_k2 : C :=
 .seq (.seq (.reg false [.V 5 (.mv (.t 3)),.V 6 (.mv (.t 0)),.V 7 (.lens (.t 6)),.V 8 (.bin .lss (.t 5) (.t 7))] [0,3,8] []) (.cond (.t 8) .skip (.exit 0))) (.seq (.block 1 (.seq (.reg false [.V 11 (.mv (.t 0)),.V 12 (.mv (.t 3)),.V 13 (.ix (.t 11) (.t 12)),.V 14 (.bin .geq (.t 13) (.c (.int .u8 97))),.V 15 (.mv (.t 14)),.G 16 (.mv (.t 0)) 4 true,.G 17 (.mv (.t 3)) 4 true,.G 18 (.ix (.t 16) (.t 17)) 4 true,.G 19 (.bin .leq (.t 18) (.c (.int .u8 122))) 4 true,.V 20 (.pick (.t 15) (.t 19) (.c (.bool false))),.V 4 (.asg (.t 20))] [0,3,4] []) (.norm [0,3,4] [] impl_IsName_k0))) impl_IsName_k1)
def impl_IsName_k3 : C :=
 .norm [0,3] [] impl_IsName_k2
def impl_IsName_k4 : C :=
 .seq (.reg false [.V 34 (.mv (.t 0)),.V 35 (.bin .neq (.t 34) (.c (.str []))),.V 36 (.mv (.t 35)),.G 37 (.mv (.t 0)) 2 true,.G 38 (.lens (.t 37)) 2 true,.G 39 (.call (.c (.fn 21 [])) [.t 38,.c (.int .i64 10)]) 2 true,.V 40 (.pick (.t 36) (.t 39) (.c (.bool false))),.V 2 (.asg (.t 40))] [2] []) .ret
def impl_IsName_ir : Fn := { np := 1,io := [],res := [.t 2],own := [false],body :=
 (.seq (.reg false [.V 2 (.asg (.c (.bool false)))] [0] []) (.seq (.seq (.reg false [.V 3 (.asg (.c (.int .i64 0)))] [0,3] []) (.block 0 (.loop impl_IsName_k3))) impl_IsName_k4)) }
noncomputable def impl_IsName_D : List (Nat × Callee) := [(21,impl_few_c),(22,impl_isDigit_c)]
def impl_IsName_H : List (Nat × ET) := []
noncomputable def impl_IsName_c : Callee := mkCallee impl_IsName_D impl_IsName_H impl_IsName_ir [.d (.one .str)] [.d (.one .bool)] []
noncomputable def impl_IsName (a0 : List UInt8) : Option (Bool) := impl_IsName_c.f (a0,())
noncomputable def impl_IsName_p0  (v0 : List UInt8) (v3 : Int) : Option (Bool) :=
 goL impl_IsName_D impl_IsName_H (vleave impl_IsName_ir [.d (.one .str)] [.d (.one .bool)] [] []) [.c impl_IsName_k2,.l impl_IsName_k3,.e 0,.c impl_IsName_k4]
  ⟨[(0,.str v0),(3,.int .i64 v3)],[]⟩
noncomputable def impl_IsName_p1  (v0 : List UInt8) (v3 : Int) (v4 : Bool) : Option (Bool) :=
 goL impl_IsName_D impl_IsName_H (vleave impl_IsName_ir [.d (.one .str)] [.d (.one .bool)] [] []) [.c impl_IsName_k0,.e 1,.c impl_IsName_k1,.l impl_IsName_k3,.e 0,.c impl_IsName_k4]
  ⟨[(0,.str v0),(3,.int .i64 v3),(4,.bool v4)],[]⟩
theorem impl_IsName_eq (a0 : List UInt8) : impl_IsName a0 =
 impl_IsName_p0 a0 0 :=
 (mk_f _ _ _ _ _ _ _ 4000).trans (by kernel_rfl)
theorem impl_IsName_p0_eq  (v0 : List UInt8) (v3 : Int) : impl_IsName_p0 v0 v3 =
 if decide (v3 < (v0.length : Int)) then
  if decide (0 ≤ v3) then
   (v0[v3.toNat]?).bind fun x1 =>
    if decide ((x1.toNat : Int) ≥ 97) then
     if decide (0 ≤ v3) then
      (v0[v3.toNat]?).bind fun x2 =>
       impl_IsName_p1 v0 v3 (decide ((x2.toNat : Int) ≤ 122))
     else
      none
    else
     impl_IsName_p1 v0 v3 false
  else
   none
 else
  if (!(v0 == [])) then
   (impl_few (v0.length : Int) 10).bind fun x3 =>
    some x3
  else
   some false :=
 (goL_dn _ _ _ 4000 _ _).trans (by kernel_rfl)
theorem impl_IsName_p1_eq  (v0 : List UInt8) (v3 : Int) (v4 : Bool) : impl_IsName_p1 v0 v3 v4 =
 if (!v4) then
  if (v3 == 0) then
   some false
  else
   if decide (0 ≤ v3) then
    (v0[v3.toNat]?).bind fun x1 =>
     (impl_isDigit (x1.toNat : Int)).bind fun x2 =>
      if (!x2) then
       some false
      else
       impl_IsName_p0 v0 (IntKind.i64.wrap (v3 + 1))
   else
    none
 else
  impl_IsName_p0 v0 (IntKind.i64.wrap (v3 + 1)) :=
 (goL_dn _ _ _ 4000 _ _).trans (by kernel_rfl)
def impl_within_ir : Fn := { np := 3,io := [],res := [.t 6],own := [false],body :=
 (.seq (.reg false [.V 6 (.asg (.c (.bool false)))] [0,1,2] []) (.seq (.reg false [.V 7 (.mv (.t 1)),.V 8 (.mv (.t 0)),.V 9 (.bin .leq (.t 7) (.t 8)),.V 10 (.mv (.t 9)),.G 11 (.mv (.t 0)) 3 true,.G 12 (.mv (.t 2)) 3 true,.G 13 (.bin .leq (.t 11) (.t 12)) 3 true,.V 14 (.pick (.t 10) (.t 13) (.c (.bool false))),.V 6 (.asg (.t 14))] [6] []) .ret)) }
noncomputable def impl_within_D : List (Nat × Callee) := []
def impl_within_H : List (Nat × ET) := []
noncomputable def impl_within_c : Callee := mkCallee impl_within_D impl_within_H impl_within_ir [.d (.one (.int .i64)),.d (.one (.int .i64)),.d (.one (.int .i64))] [.d (.one .bool)] []
noncomputable def impl_within (a0 : Int) (a1 : Int) (a2 : Int) : Option (Bool) := impl_within_c.f (a0,a1,a2,())
theorem impl_within_eq (a0 : Int) (a1 : Int) (a2 : Int) : impl_within a0 a1 a2 =
 if decide (a1 ≤ a0) then
  some (decide (a0 ≤ a2))
 else
  some false :=
 (mk_f _ _ _ _ _ _ _ 4000).trans (by kernel_rfl)
def impl_Setting_valid_ir : Fn := { np := 1,io := [],res := [.t 2],own := [false],body :=
 (.seq (.reg false [.W 1 (.box 2 (.t 0)),.V 2 (.asg (.c (.bool false)))] [1] [1]) (.seq (.reg false [.V 3 (.fa 0 (.t 1)),.V 4 (.ld none (.t 3)),.V 5 (.call (.c (.fn 24 [])) [.t 4]),.V 6 (.mv (.t 5)),.G 7 (.fa 1 (.t 1)) 3 true,.G 8 (.ld none (.t 7)) 3 true,.G 9 (.call (.c (.fn 23 [])) [.t 8,.c (.int .i64 0),.c (.int .i64 1000)]) 3 true,.V 10 (.pick (.t 6) (.t 9) (.c (.bool false))),.V 2 (.asg (.t 10))] [2] []) .ret)) }
noncomputable def impl_Setting_valid_D : List (Nat × Callee) := [(23,impl_within_c),(24,impl_IsName_c)]
def impl_Setting_valid_H : List (Nat × ET) := []
noncomputable def impl_Setting_valid_c : Callee := mkCallee impl_Setting_valid_D impl_Setting_valid_H impl_Setting_valid_ir [.d T_Setting] [.d (.one .bool)] []
noncomputable def impl_Setting_valid (a0 : T_Setting.ty) : Option (Bool) := impl_Setting_valid_c.f (a0,())
theorem impl_Setting_valid_eq (a0 : T_Setting.ty) : impl_Setting_valid a0 =
 (impl_IsName a0.1).bind fun x1 =>
  if x1 then
   (impl_within a0.2.1 0 1000).bind fun x2 =>
    some x2
  else
   some false :=
 (mk_f _ _ _ _ _ _ _ 4000).trans (by kernel_rfl)
def impl_ValidState_k0 : C :=
 .seq (.reg false [.V 8 (.bin .lss (.t 7) (.t 6))] [0,5,6,7,8] []) (.seq (.cond (.t 8) .skip (.exit 0)) (.seq (.block 1 (.seq (.reg false [.V 9 (.mv (.t 7)),.V 10 (.ia 2 (.t 5) (.t 7)),.V 11 (.ld (some 2) (.t 10)),.W 4 (.alloc 2 (.agg [.str [],.int .i64 0])),.V 3 (.asg (.t 9)),⟨none,true,.sto 2 (.t 4) (.t 11),none,false,[]⟩] [0,3,4,5,6,7] [4]) (.seq (.reg true [.V 12 (.ld (some 2) (.t 4)),.V 13 (.call (.c (.fn 692 [])) [.t 12]),.V 14 (.un .not (.t 13)),.V 15 (.mv (.t 14)),.G 16 (.mv (.t 3)) 3 false,.G 17 (.bin .gtr (.t 16) (.c (.int .i64 0))) 3 false,.G 18 (.mv (.t 17)) 3 false,.G 19 (.mv (.t 0)) 6 true,.G 20 (.mv (.t 3)) 6 true,.G 21 (.bin .sub (.t 20) (.c (.int .i64 1))) 6 true,.G 22 (.ia 2 (.t 19) (.t 21)) 6 true,.G 23 (.fa 0 (.t 22)) 6 true,.G 24 (.ld none (.t 23)) 6 true,.G 25 (.fa 0 (.t 4)) 6 true,.G 26 (.ld none (.t 25)) 6 true,.G 27 (.bin .geq (.t 24) (.t 26)) 6 true,.G 28 (.pick (.t 18) (.t 27) (.c (.bool false))) 3 false,.V 29 (.pick (.t 15) (.c (.bool true)) (.t 28))] [0,5,6,7,29] []) (.cond (.t 29) (.seq (.reg false [.V 2 (.asg (.c (.bool false)))] [2] []) .ret) .skip)))) (.reg false [.V 30 (.bin .add (.t 7) (.c (.int .i64 1))),.V 7 (.mv (.t 30))] [0,5,6,7] [])))
def impl_ValidState_k1 : C :=
 .norm [0,5,6,7] [] impl_ValidState_k0
def impl_ValidState_k2 : C :=
 .seq (.reg false [.V 31 (.mv (.t 0)),.V 32 (.len (.t 31)),.V 33 (.call (.c (.fn 21 [])) [.t 32,.c (.int .i64 24)]),.V 2 (.asg (.t 33))] [2] []) .ret
def impl_ValidState_ir : Fn := { np := 1,io := [],res := [.t 2],own := [false],body :=
 (.seq (.reg false [.V 2 (.asg (.c (.bool false)))] [0] []) (.seq (.seq (.reg false [.V 5 (.mv (.t 0)),.V 6 (.len (.t 5)),.V 7 (.mv (.c (.int .i64 0)))] [0,5,6,7] []) (.block 0 (.loop impl_ValidState_k1))) impl_ValidState_k2)) }
noncomputable def impl_ValidState_D : List (Nat × Callee) := [(21,impl_few_c),(692,impl_Setting_valid_c)]
def impl_ValidState_H : List (Nat × ET) := [(5,T_Setting),(19,T_Setting),(31,T_Setting)]
noncomputable def impl_ValidState_c : Callee := mkCallee impl_ValidState_D impl_ValidState_H impl_ValidState_ir [.d (.one (.sl T_Setting))] [.d (.one .bool)] []
noncomputable def impl_ValidState (a0 : List T_Setting.ty) : Option (Bool) := impl_ValidState_c.f (a0,())
noncomputable def impl_ValidState_p0  (v0 : List T_Setting.ty) (v5 : List T_Setting.ty) (v6 : Int) (v7 : Int) : Option (Bool) :=
 goL impl_ValidState_D impl_ValidState_H (vleave impl_ValidState_ir [.d (.one (.sl T_Setting))] [.d (.one .bool)] [] []) [.c impl_ValidState_k0,.l impl_ValidState_k1,.e 0,.c impl_ValidState_k2]
  ⟨[(0,.sl T_Setting v0),(5,.sl T_Setting v5),(6,.int .i64 v6),(7,.int .i64 v7)],[]⟩
theorem impl_ValidState_eq (a0 : List T_Setting.ty) : impl_ValidState a0 =
 impl_ValidState_p0 a0 a0 (a0.length : Int) 0 :=
 (mk_f _ _ _ _ _ _ _ 4000).trans (by kernel_rfl)
theorem impl_ValidState_p0_eq  (v0 : List T_Setting.ty) (v5 : List T_Setting.ty) (v6 : Int) (v7 : Int) : impl_ValidState_p0 v0 v5 v6 v7 =
 if decide (v7 < v6) then
  if decide (0 ≤ v7) then
   (v5[v7.toNat]?).bind fun x1 =>
    (impl_Setting_valid x1).bind fun x2 =>
     if (!x2) then
      some false
     else
      if decide (v7 > 0) then
       if decide (0 ≤ IntKind.i64.wrap (v7 - 1)) then
        (v0[(IntKind.i64.wrap (v7 - 1)).toNat]?).bind fun x3 =>
         if (!Op.bytesLess x3.1 x1.1) then
          some false
         else
          impl_ValidState_p0 v0 v5 v6 (IntKind.i64.wrap (v7 + 1))
       else
        none
      else
       impl_ValidState_p0 v0 v5 v6 (IntKind.i64.wrap (v7 + 1))
  else
   none
 else
  (impl_few (v0.length : Int) 24).bind fun x4 =>
   some x4 :=
 (goL_dn _ _ _ 4000 _ _).trans (by kernel_rfl)
def impl_find_k0 : C :=
 .seq (.seq (.reg false [.V 7 (.mv (.t 6)),.V 8 (.mv (.t 0)),.V 9 (.len (.t 8)),.V 10 (.bin .lss (.t 7) (.t 9)),.V 11 (.mv (.t 10)),.G 12 (.mv (.t 0)) 4 true,.G 13 (.mv (.t 6)) 4 true,.G 14 (.ia 2 (.t 12) (.t 13)) 4 true,.G 15 (.fa 0 (.t 14)) 4 true,.G 16 (.ld none (.t 15)) 4 true,.G 17 (.mv (.t 1)) 4 true,.G 18 (.bin .lss (.t 16) (.t 17)) 4 true,.V 19 (.pick (.t 11) (.t 18) (.c (.bool false)))] [0,1,6,19] []) (.cond (.t 19) .skip (.exit 0))) (.block 1 (.reg false [.V 20 (.mv (.t 6)),.V 21 (.bin .add (.t 20) (.c (.int .i64 1))),.V 6 (.asg (.t 21))] [0,1,6] []))
def impl_find_k1 : C :=
 .norm [0,1,6] [] impl_find_k0
def impl_find_k2 : C :=
 .seq (.reg true [.V 22 (.mv (.t 6)),.V 23 (.mv (.t 6)),.V 24 (.mv (.t 0)),.V 25 (.len (.t 24)),.V 26 (.bin .lss (.t 23) (.t 25)),.V 27 (.mv (.t 26)),.G 28 (.mv (.t 0)) 5 true,.G 29 (.mv (.t 6)) 5 true,.G 30 (.ia 2 (.t 28) (.t 29)) 5 true,.G 31 (.fa 0 (.t 30)) 5 true,.G 32 (.ld none (.t 31)) 5 true,.G 33 (.mv (.t 1)) 5 true,.G 34 (.bin .eql (.t 32) (.t 33)) 5 true,.V 35 (.pick (.t 27) (.t 34) (.c (.bool false))),.V 4 (.asg (.t 22)),.V 5 (.asg (.t 35))] [4,5] []) .ret
def impl_find_k3 : C :=
 .norm [0,1,6] [] impl_find_k2
def impl_find_ir : Fn := { np := 2,io := [],res := [.t 4,.t 5],own := [false,false],body :=
 (.seq (.reg false [.V 4 (.asg (.c (.int .i64 0))),.V 5 (.asg (.c (.bool false)))] [0,1] []) (.seq (.reg false [.V 6 (.asg (.c (.int .i64 0)))] [0,1,6] []) (.seq (.block 0 (.loop impl_find_k1)) impl_find_k3))) }
noncomputable def impl_find_D : List (Nat × Callee) := []
def impl_find_H : List (Nat × ET) := [(8,T_Setting),(12,T_Setting),(24,T_Setting),(28,T_Setting)]
noncomputable def impl_find_c : Callee := mkCallee impl_find_D impl_find_H impl_find_ir [.d (.one (.sl T_Setting)),.d (.one .str)] [.d (.one (.int .i64)),.d (.one .bool)] []
noncomputable def impl_find (a0 : List T_Setting.ty) (a1 : List UInt8) : Option (Int × Bool) := impl_find_c.f (a0,a1,())
noncomputable def impl_find_p0  (v0 : List T_Setting.ty) (v1 : List UInt8) (v6 : Int) : Option (Int × Bool) :=
 goL impl_find_D impl_find_H (vleave impl_find_ir [.d (.one (.sl T_Setting)),.d (.one .str)] [.d (.one (.int .i64)),.d (.one .bool)] [] []) [.c impl_find_k0,.l impl_find_k1,.e 0,.c impl_find_k3]
  ⟨[(0,.sl T_Setting v0),(1,.str v1),(6,.int .i64 v6)],[]⟩
noncomputable def impl_find_p1  (v0 : List T_Setting.ty) (v1 : List UInt8) (v6 : Int) : Option (Int × Bool) :=
 goL impl_find_D impl_find_H (vleave impl_find_ir [.d (.one (.sl T_Setting)),.d (.one .str)] [.d (.one (.int .i64)),.d (.one .bool)] [] []) [.c impl_find_k2]
  ⟨[(0,.sl T_Setting v0),(1,.str v1),(6,.int .i64 v6)],[]⟩
theorem impl_find_eq (a0 : List T_Setting.ty) (a1 : List UInt8) : impl_find a0 a1 =
 impl_find_p0 a0 a1 0 :=
 (mk_f _ _ _ _ _ _ _ 4000).trans (by kernel_rfl)
theorem impl_find_p0_eq  (v0 : List T_Setting.ty) (v1 : List UInt8) (v6 : Int) : impl_find_p0 v0 v1 v6 =
 if decide (v6 < (v0.length : Int)) then
  if decide (0 ≤ v6) then
   (v0[v6.toNat]?).bind fun x1 =>
    if Op.bytesLess x1.1 v1 then
     impl_find_p0 v0 v1 (IntKind.i64.wrap (v6 + 1))
    else
     impl_find_p1 v0 v1 v6
  else
   none
 else
  impl_find_p1 v0 v1 v6 :=
 (goL_dn _ _ _ 4000 _ _).trans (by kernel_rfl)
theorem impl_find_p1_eq  (v0 : List T_Setting.ty) (v1 : List UInt8) (v6 : Int) : impl_find_p1 v0 v1 v6 =
 if decide (v6 < (v0.length : Int)) then
  if decide (0 ≤ v6) then
   (v0[v6.toNat]?).bind fun x1 =>
    some (v6,(x1.1 == v1))
  else
   none
 else
  some (v6,false) :=
 (goL_dn _ _ _ 4000 _ _).trans (by kernel_rfl)
def impl_value_ir : Fn := { np := 2,io := [],res := [.t 4],own := [false],body :=
 (.seq (.reg false [.V 4 (.asg (.c (.int .i64 0)))] [0,1] []) (.seq (.seq (.reg false [.V 8 (.mv (.t 0)),.V 9 (.mv (.t 1)),.V 10 (.call (.c (.fn 927 [])) [.t 8,.t 9]),.V 7 (.mv (.t 10)),.V 11 (.ext (.t 7) 0),.V 12 (.ext (.t 7) 1),.V 5 (.asg (.t 11)),.V 6 (.asg (.t 12))] [0,5,6] []) (.seq (.reg false [.V 13 (.mv (.t 6))] [0,5,13] []) (.cond (.t 13) (.seq (.reg false [.V 14 (.mv (.t 0)),.V 15 (.mv (.t 5)),.V 16 (.ia 2 (.t 14) (.t 15)),.V 17 (.fa 1 (.t 16)),.V 18 (.ld none (.t 17)),.V 4 (.asg (.t 18))] [4] []) .ret) .skip))) (.seq (.reg false [.V 4 (.asg (.c (.int .i64 (-1))))] [4] []) .ret))) }
noncomputable def impl_value_D : List (Nat × Callee) := [(927,impl_find_c)]
def impl_value_H : List (Nat × ET) := [(8,T_Setting),(14,T_Setting)]
noncomputable def impl_value_c : Callee := mkCallee impl_value_D impl_value_H impl_value_ir [.d (.one (.sl T_Setting)),.d (.one .str)] [.d (.one (.int .i64))] []
noncomputable def impl_value (a0 : List T_Setting.ty) (a1 : List UInt8) : Option (Int) := impl_value_c.f (a0,a1,())
theorem impl_value_eq (a0 : List T_Setting.ty) (a1 : List UInt8) : impl_value a0 a1 =
 (impl_find a0 a1).bind fun x1 =>
  if x1.2 then
   if decide (0 ≤ x1.1) then
    (a0[x1.1.toNat]?).bind fun x2 =>
     some x2.2.1
   else
    none
  else
   some (-1) :=
 (mk_f _ _ _ _ _ _ _ 4000).trans (by kernel_rfl)
def impl_DiffStates_k0 : C :=
 .seq (.reg false [.V 23 (.bin .lss (.t 22) (.t 21))] [0,1,6,20,21,22,23] [6]) (.seq (.cond (.t 23) .skip (.exit 0)) (.seq (.block 1 (.seq (.reg false [.V 24 (.ia 2 (.t 20) (.t 22)),.V 25 (.ld (some 2) (.t 24)),.W 8 (.alloc 2 (.agg [.str [],.int .i64 0])),⟨none,true,.sto 2 (.t 8) (.t 25),none,false,[]⟩] [0,1,6,8,20,21,22] [6,8]) (.seq (.reg false [.V 26 (.mv (.t 1)),.V 27 (.fa 0 (.t 8)),.V 28 (.ld none (.t 27)),.V 29 (.call (.c (.fn 688 [])) [.t 26,.t 28]),.V 30 (.bin .lss (.t 29) (.c (.int .i64 0)))] [0,1,6,8,20,21,22,30] [6,8]) (.cond (.t 30) (.reg false [.V 31 (.mv (.t 6)),.V 32 (.ld (some 2) (.t 8)),.V 33 (.build [.int .i64 0,.str [],.int .i64 0] [(0,1,.c (.int .i64 2)),(1,2,.t 32)]),.V 34 (.bsl 3 (.agg [.int .i64 0,.str [],.int .i64 0]) 1 [(0,.t 33)]),.W 35 (.app 3 32 (.t 31) (.t 34)),.W 6 (.asg (.t 35))] [0,1,6,20,21,22] [6]) .skip)))) (.reg false [.V 36 (.bin .add (.t 22) (.c (.int .i64 1))),.V 22 (.mv (.t 36))] [0,1,6,20,21,22] [6])))
def impl_DiffStates_k1 : C :=
 .norm [0,1,6,20,21,22] [6] impl_DiffStates_k0
def impl_DiffStates_k2 : C :=
 .seq (.reg false [.V 40 (.bin .lss (.t 39) (.t 38))] [0,6,37,38,39,40] [6]) (.seq (.cond (.t 40) .skip (.exit 2)) (.seq (.block 3 (.seq (.reg false [.V 41 (.ia 2 (.t 37) (.t 39)),.V 42 (.ld (some 2) (.t 41)),.W 10 (.alloc 2 (.agg [.str [],.int .i64 0])),⟨none,true,.sto 2 (.t 10) (.t 42),none,false,[]⟩] [0,6,10,37,38,39] [6,10]) (.seq (.reg true [.V 43 (.mv (.t 0)),.V 44 (.fa 0 (.t 10)),.V 45 (.ld none (.t 44)),.V 46 (.call (.c (.fn 688 [])) [.t 43,.t 45]),.V 47 (.fa 1 (.t 10)),.V 48 (.ld none (.t 47)),.V 49 (.bin .neq (.t 46) (.t 48))] [0,6,10,37,38,39,49] [6,10]) (.cond (.t 49) (.reg false [.V 50 (.mv (.t 6)),.V 51 (.ld (some 2) (.t 10)),.V 52 (.build [.int .i64 0,.str [],.int .i64 0] [(0,1,.c (.int .i64 1)),(1,2,.t 51)]),.V 53 (.bsl 3 (.agg [.int .i64 0,.str [],.int .i64 0]) 1 [(0,.t 52)]),.W 54 (.app 3 32 (.t 50) (.t 53)),.W 6 (.asg (.t 54))] [0,6,37,38,39] [6]) .skip)))) (.reg false [.V 55 (.bin .add (.t 39) (.c (.int .i64 1))),.V 39 (.mv (.t 55))] [0,6,37,38,39] [6])))
def impl_DiffStates_k3 : C :=
 .norm [0,6,37,38,39] [6] impl_DiffStates_k2
def impl_DiffStates_k4 : C :=
 .seq (.reg false [.V 56 (.mv (.t 6)),.W 4 (.asg (.t 56)),.V 5 (.asg (.c (.int .i64 0)))] [4,5] [4,6]) .ret
def impl_DiffStates_k5 : C :=
 .seq (.seq (.reg false [.V 37 (.mv (.t 1)),.V 38 (.len (.t 37)),.V 39 (.mv (.c (.int .i64 0)))] [0,6,37,38,39] [6]) (.block 2 (.loop impl_DiffStates_k3))) impl_DiffStates_k4
def impl_DiffStates_k6 : C :=
 .seq (.reg false [.V 19 (.bsl 3 (.agg [.int .i64 0,.str [],.int .i64 0]) 0 []),.W 6 (.asg (.t 19))] [0,1,6] [6]) (.seq (.seq (.reg false [.V 20 (.mv (.t 0)),.V 21 (.len (.t 20)),.V 22 (.mv (.c (.int .i64 0)))] [0,1,6,20,21,22] [6]) (.block 0 (.loop impl_DiffStates_k1))) impl_DiffStates_k5)
def impl_DiffStates_ir : Fn := { np := 2,io := [],res := [.t 4,.t 5],own := [true,false],body :=
 (.seq (.reg false [.W 4 (.asg (.c (.nils 3))),.V 5 (.asg (.c (.int .i64 0)))] [0,1] []) (.seq (.seq (.reg false [.V 11 (.mv (.t 0)),.V 12 (.call (.c (.fn 689 [])) [.t 11]),.V 13 (.un .not (.t 12)),.V 14 (.mv (.t 13)),.G 15 (.mv (.t 1)) 3 false,.G 16 (.call (.c (.fn 689 [])) [.t 15]) 3 false,.G 17 (.un .not (.t 16)) 3 false,.V 18 (.pick (.t 14) (.c (.bool true)) (.t 17))] [0,1,18] []) (.cond (.t 18) (.seq (.reg false [.W 4 (.asg (.c (.nils 3))),.V 5 (.asg (.c (.int .i64 1)))] [4,5] [4,6]) .ret) .skip)) (.norm [0,1] [] impl_DiffStates_k6))) }
noncomputable def impl_DiffStates_D : List (Nat × Callee) := [(688,impl_value_c),(689,impl_ValidState_c)]
def impl_DiffStates_H : List (Nat × ET) := [(4,T_Change),(6,T_Change),(11,T_Setting),(15,T_Setting),(19,T_Change),(20,T_Setting),(26,T_Setting),(31,T_Change),(34,T_Change),(35,T_Change),(37,T_Setting),(43,T_Setting),(50,T_Change),(53,T_Change),(54,T_Change),(56,T_Change)]
noncomputable def impl_DiffStates_c : Callee := mkCallee impl_DiffStates_D impl_DiffStates_H impl_DiffStates_ir [.d (.one (.sl T_Setting)),.d (.one (.sl T_Setting))] [.tok T_Change,.d (.one (.int .i64))] []
noncomputable def impl_DiffStates (a0 : List T_Setting.ty) (a1 : List T_Setting.ty) : Option (List T_Change.ty × Int) := impl_DiffStates_c.f (a0,a1,())
noncomputable def impl_DiffStates_p0  (v0 : List T_Setting.ty) (v1 : List T_Setting.ty) : Option (List T_Change.ty × Int) :=
 goL impl_DiffStates_D impl_DiffStates_H (vleave impl_DiffStates_ir [.d (.one (.sl T_Setting)),.d (.one (.sl T_Setting))] [.tok T_Change,.d (.one (.int .i64))] [] []) [.c impl_DiffStates_k6]
  ⟨[(0,.sl T_Setting v0),(1,.sl T_Setting v1)],[]⟩
noncomputable def impl_DiffStates_p1  (v0 : List T_Setting.ty) (v1 : List T_Setting.ty) (v20 : List T_Setting.ty) (v21 : Int) (v22 : Int) (r6 : List T_Change.ty) : Option (List T_Change.ty × Int) :=
 goL impl_DiffStates_D impl_DiffStates_H (vleave impl_DiffStates_ir [.d (.one (.sl T_Setting)),.d (.one (.sl T_Setting))] [.tok T_Change,.d (.one (.int .i64))] [] []) [.c impl_DiffStates_k0,.l impl_DiffStates_k1,.e 0,.c impl_DiffStates_k5]
  ⟨[(0,.sl T_Setting v0),(1,.sl T_Setting v1),(6,.view 6 0 r6.length),(20,.sl T_Setting v20),(21,.int .i64 v21),(22,.int .i64 v22)],[(6,some (.sl T_Change r6))]⟩
noncomputable def impl_DiffStates_p2  (v0 : List T_Setting.ty) (v37 : List T_Setting.ty) (v38 : Int) (v39 : Int) (r6 : List T_Change.ty) : Option (List T_Change.ty × Int) :=
 goL impl_DiffStates_D impl_DiffStates_H (vleave impl_DiffStates_ir [.d (.one (.sl T_Setting)),.d (.one (.sl T_Setting))] [.tok T_Change,.d (.one (.int .i64))] [] []) [.c impl_DiffStates_k2,.l impl_DiffStates_k3,.e 2,.c impl_DiffStates_k4]
  ⟨[(0,.sl T_Setting v0),(6,.view 6 0 r6.length),(37,.sl T_Setting v37),(38,.int .i64 v38),(39,.int .i64 v39)],[(6,some (.sl T_Change r6))]⟩
theorem impl_DiffStates_eq (a0 : List T_Setting.ty) (a1 : List T_Setting.ty) : impl_DiffStates a0 a1 =
 (impl_ValidState a0).bind fun x1 =>
  if (!x1) then
   some ([],1)
  else
   (impl_ValidState a1).bind fun x2 =>
    if (!x2) then
     some ([],1)
    else
     impl_DiffStates_p0 a0 a1 :=
 (mk_f _ _ _ _ _ _ _ 4000).trans (by kernel_rfl)
theorem impl_DiffStates_p0_eq  (v0 : List T_Setting.ty) (v1 : List T_Setting.ty) : impl_DiffStates_p0 v0 v1 =
 impl_DiffStates_p1 v0 v1 v0 (v0.length : Int) 0 [] :=
 (goL_dn _ _ _ 4000 _ _).trans (by kernel_rfl)
theorem impl_DiffStates_p1_eq  (v0 : List T_Setting.ty) (v1 : List T_Setting.ty) (v20 : List T_Setting.ty) (v21 : Int) (v22 : Int) (r6 : List T_Change.ty) : impl_DiffStates_p1 v0 v1 v20 v21 v22 r6 =
 if decide (v22 < v21) then
  if decide (0 ≤ v22) then
   (v20[v22.toNat]?).bind fun x1 =>
    (impl_value v1 x1.1).bind fun x2 =>
     if decide (x2 < 0) then
      if decide (r6.length + 1 < lim) then
       impl_DiffStates_p1 v0 v1 v20 v21 (IntKind.i64.wrap (v22 + 1)) ((r6.take r6.length) ++ [(2,x1.1,x1.2.1,())])
      else
       none
     else
      impl_DiffStates_p1 v0 v1 v20 v21 (IntKind.i64.wrap (v22 + 1)) r6
  else
   none
 else
  impl_DiffStates_p2 v0 v1 (v1.length : Int) 0 r6 :=
 (goL_dn _ _ _ 4000 _ _).trans (by kernel_rfl)
theorem impl_DiffStates_p2_eq  (v0 : List T_Setting.ty) (v37 : List T_Setting.ty) (v38 : Int) (v39 : Int) (r6 : List T_Change.ty) : impl_DiffStates_p2 v0 v37 v38 v39 r6 =
 if decide (v39 < v38) then
  if decide (0 ≤ v39) then
   (v37[v39.toNat]?).bind fun x1 =>
    (impl_value v0 x1.1).bind fun x2 =>
     if (x2 != x1.2.1) then
      if decide (r6.length + 1 < lim) then
       impl_DiffStates_p2 v0 v37 v38 (IntKind.i64.wrap (v39 + 1)) ((r6.take r6.length) ++ [(1,x1.1,x1.2.1,())])
      else
       none
     else
      impl_DiffStates_p2 v0 v37 v38 (IntKind.i64.wrap (v39 + 1)) r6
  else
   none
 else
  some ((r6.take r6.length),0) :=
 (goL_dn _ _ _ 4000 _ _).trans (by kernel_rfl)
def impl_clone_impl_Setting__ir : Fn := { np := 1,io := [],res := [.t 2],own := [true],body :=
 (.seq (.reg false [.W 2 (.asg (.c (.nils 2)))] [0] []) (.seq (.reg false [.V 3 (.mv (.t 0)),.V 4 (.len (.t 3)),.V 5 (.mks 2 24 (.agg [.str [],.int .i64 0]) (.c (.int .i64 0)) (.t 4)),.V 6 (.mv (.t 0)),.W 7 (.app 2 24 (.t 5) (.t 6)),.W 2 (.asg (.t 7))] [2] [2]) .ret)) }
noncomputable def impl_clone_impl_Setting__D : List (Nat × Callee) := []
def impl_clone_impl_Setting__H : List (Nat × ET) := [(2,T_Setting),(3,T_Setting),(5,T_Setting),(6,T_Setting),(7,T_Setting)]
noncomputable def impl_clone_impl_Setting__c : Callee := mkCallee impl_clone_impl_Setting__D impl_clone_impl_Setting__H impl_clone_impl_Setting__ir [.d (.one (.sl T_Setting))] [.tok T_Setting] []
noncomputable def impl_clone_impl_Setting_ (a0 : List T_Setting.ty) : Option (List T_Setting.ty) := impl_clone_impl_Setting__c.f (a0,())
theorem impl_clone_impl_Setting__eq (a0 : List T_Setting.ty) : impl_clone_impl_Setting_ a0 =
 if decide (0 ≤ (a0.length : Int)) && decide ((a0.length : Int).toNat < lim) then
  if decide (0 + a0.length < lim) then
   some (([] ++ a0).take (([] ++ a0).length))
  else
   none
 else
  none :=
 (mk_f _ _ _ _ _ _ _ 4000).trans (by kernel_rfl)
noncomputable def slices_Insert___impl_Setting_impl_Setting__c : Callee := insertC T_Setting
noncomputable def slices_Insert___impl_Setting_impl_Setting_ (a0 : List T_Setting.ty) (a1 : Int) (a2 : List T_Setting.ty) : Option (List T_Setting.ty × Unit) := slices_Insert___impl_Setting_impl_Setting__c.f (a0,a1,a2,())
theorem slices_Insert___impl_Setting_impl_Setting__eq (a0 : List T_Setting.ty) (a1 : Int) (a2 : List T_Setting.ty) : slices_Insert___impl_Setting_impl_Setting_ a0 a1 a2 = if decide (a2.length = 1) && (decide (0 ≤ a1) && (decide (a1 ≤ (a0.length : Int)) && decide (a0.length + 1 < 1099511627776))) then some (a0.take a1.toNat ++ a2 ++ a0.drop a1.toNat,()) else none := rfl
noncomputable def slices_Delete___impl_Setting_impl_Setting__c : Callee := deleteC T_Setting
noncomputable def slices_Delete___impl_Setting_impl_Setting_ (a0 : List T_Setting.ty) (a1 : Int) (a2 : Int) : Option (List T_Setting.ty × Unit) := slices_Delete___impl_Setting_impl_Setting__c.f (a0,a1,a2,())
theorem slices_Delete___impl_Setting_impl_Setting__eq (a0 : List T_Setting.ty) (a1 : Int) (a2 : Int) : slices_Delete___impl_Setting_impl_Setting_ a0 a1 a2 = if decide (0 ≤ a1) && (decide (a1 < a2) && (decide (a2 ≤ (a0.length : Int)) && decide (a0.length < 1099511627776))) then some (a0.take a1.toNat ++ a0.drop a2.toNat,()) else none := rfl
def impl_apply_k0 : C :=
 .seq (.reg false [.V 43 (.fa 0 (.t 3)),.V 44 (.ld none (.t 43)),.V 45 (.bin .eql (.t 44) (.c (.int .i64 1))),.V 42 (.asg (.t 45))] [0,3,6,7,42] [0,3]) (.cond (.t 42) (.reg false [.V 46 (.mv (.t 0)),.V 47 (.mv (.t 6)),.V 48 (.fa 1 (.t 3)),.V 49 (.ld (some 2) (.t 48)),.V 50 (.bsl 2 (.agg [.str [],.int .i64 0]) 1 [(0,.t 49)]),.W 51 (.call (.c (.fn 928 [])) [.t 46,.t 47,.t 50]),.W 0 (.asg (.t 51))] [0] [0]) (.seq (.reg false [.V 53 (.mv (.t 7)),.V 54 (.un .not (.t 53)),.V 52 (.asg (.t 54))] [0,3,6,52] [0,3]) (.cond (.t 52) (.seq (.reg false [.W 4 (.asg (.c (.nils 2))),.V 5 (.asg (.c (.int .i64 3)))] [0,4,5] [0,4]) .ret) (.seq (.reg true [.V 56 (.mv (.t 0)),.V 57 (.mv (.t 6)),.V 58 (.ia 2 (.t 56) (.t 57)),.V 59 (.ld (some 2) (.t 58)),.V 60 (.fa 1 (.t 3)),.V 61 (.ld (some 2) (.t 60)),.V 62 (.eqs true [.s,.i] (.t 59) (.t 61)),.V 55 (.asg (.t 62))] [0,6,55] [0]) (.cond (.t 55) (.seq (.reg false [.W 4 (.asg (.c (.nils 2))),.V 5 (.asg (.c (.int .i64 6)))] [0,4,5] [0,4]) .ret) (.reg false [.V 16 (.mv (.t 0)),.V 17 (.mv (.t 6)),.V 18 (.mv (.t 6)),.V 19 (.bin .add (.t 18) (.c (.int .i64 1))),.W 20 (.call (.c (.fn 929 [])) [.t 16,.t 17,.t 19]),.W 0 (.asg (.t 20))] [0] [0]))))))
def impl_apply_k1 : C :=
 .seq (.reg false [.V 34 (.fa 0 (.t 3)),.V 35 (.ld none (.t 34)),.V 36 (.bin .eql (.t 35) (.c (.int .i64 1))),.V 37 (.mv (.t 36)),.G 38 (.mv (.t 0)) 3 true,.G 39 (.len (.t 38)) 3 true,.G 40 (.bin .eql (.t 39) (.c (.int .i64 24))) 3 true,.V 41 (.pick (.t 37) (.t 40) (.c (.bool false))),.V 33 (.asg (.t 41))] [0,3,6,7,33] [0,3]) (.cond (.t 33) (.seq (.reg false [.W 4 (.asg (.c (.nils 2))),.V 5 (.asg (.c (.int .i64 5)))] [0,4,5] [0,4]) .ret) (.norm [0,3,6,7] [0,3] impl_apply_k0))
def impl_apply_k2 : C :=
 .seq (.reg false [.V 63 (.mv (.t 0)),.W 4 (.asg (.t 63)),.V 5 (.asg (.c (.int .i64 0)))] [0,4,5] [0,4]) .ret
def impl_apply_ir : Fn := { np := 2,io := [true,false],res := [.t 4,.t 5],own := [true,false],body :=
 (.seq (.reg false [.W 3 (.box 3 (.t 1)),.W 4 (.asg (.c (.nils 2))),.V 5 (.asg (.c (.int .i64 0)))] [0,3] [0,3]) (.seq (.reg false [.V 9 (.mv (.t 0)),.V 10 (.fa 1 (.t 3)),.V 11 (.fa 0 (.t 10)),.V 12 (.ld none (.t 11)),.V 13 (.call (.c (.fn 927 [])) [.t 9,.t 12]),.V 8 (.mv (.t 13)),.V 14 (.ext (.t 8) 0),.V 15 (.ext (.t 8) 1),.V 6 (.asg (.t 14)),.V 7 (.asg (.t 15))] [0,3,6,7] [0,3]) (.seq (.block 0 (.seq (.reg false [.V 22 (.fa 0 (.t 3)),.V 23 (.ld none (.t 22)),.V 24 (.bin .eql (.t 23) (.c (.int .i64 1))),.V 25 (.mv (.t 24)),.G 26 (.mv (.t 7)) 3 true,.V 27 (.pick (.t 25) (.t 26) (.c (.bool false))),.V 21 (.asg (.t 27))] [0,3,6,7,21] [0,3]) (.cond (.t 21) (.reg false [.V 28 (.mv (.t 0)),.V 29 (.mv (.t 6)),.V 30 (.fa 1 (.t 3)),.V 31 (.ld (some 2) (.t 30)),.V 32 (.ia 2 (.t 28) (.t 29)),⟨none,true,.sto 2 (.t 32) (.t 31),none,false,[]⟩] [0] [0]) (.norm [0,3,6,7] [0,3] impl_apply_k1)))) impl_apply_k2))),gone := [0] }
noncomputable def impl_apply_D : List (Nat × Callee) := [(927,impl_find_c),(928,slices_Insert___impl_Setting_impl_Setting__c),(929,slices_Delete___impl_Setting_impl_Setting__c)]
def impl_apply_H : List (Nat × ET) := [(0,T_Setting),(4,T_Setting),(9,T_Setting),(16,T_Setting),(20,T_Setting),(28,T_Setting),(38,T_Setting),(46,T_Setting),(50,T_Setting),(51,T_Setting),(56,T_Setting),(63,T_Setting)]
noncomputable def impl_apply_c : Callee := mkCallee impl_apply_D impl_apply_H impl_apply_ir [.ios T_Setting,.d T_Change] [.tok T_Setting,.d (.one (.int .i64))] [.gone]
noncomputable def impl_apply (a0 : List T_Setting.ty) (a1 : T_Change.ty) : Option (List T_Setting.ty × Int × Unit) := impl_apply_c.f (a0,a1,())
noncomputable def impl_apply_p0 (l0 : Nat) (v6 : Int) (v7 : Bool) (r0 : List T_Setting.ty) (r3_0 : Int) (r3_1 : List UInt8) (r3_2 : Int) : Option (List T_Setting.ty × Int × Unit) :=
 goL impl_apply_D impl_apply_H (vleave impl_apply_ir [.ios T_Setting,.d T_Change] [.tok T_Setting,.d (.one (.int .i64))] [.gone] [l0]) [.c impl_apply_k1,.e 0,.c impl_apply_k2]
  ⟨[(0,.view 0 0 r0.length),(3,.loc 3 0 0),(6,.int .i64 v6),(7,.bool v7)],[(0,some (.sl T_Setting r0)),(3,some (.var 3 (.agg [.int .i64 r3_0,.str r3_1,.int .i64 r3_2])))]⟩
noncomputable def impl_apply_p1 (l0 : Nat) (v6 : Int) (v7 : Bool) (r0 : List T_Setting.ty) (r3_0 : Int) (r3_1 : List UInt8) (r3_2 : Int) : Option (List T_Setting.ty × Int × Unit) :=
 goL impl_apply_D impl_apply_H (vleave impl_apply_ir [.ios T_Setting,.d T_Change] [.tok T_Setting,.d (.one (.int .i64))] [.gone] [l0]) [.c impl_apply_k0,.e 0,.c impl_apply_k2]
  ⟨[(0,.view 0 0 r0.length),(3,.loc 3 0 0),(6,.int .i64 v6),(7,.bool v7)],[(0,some (.sl T_Setting r0)),(3,some (.var 3 (.agg [.int .i64 r3_0,.str r3_1,.int .i64 r3_2])))]⟩
theorem impl_apply_eq (a0 : List T_Setting.ty) (a1 : T_Change.ty) : impl_apply a0 a1 =
 (impl_find (a0.take a0.length) a1.2.1).bind fun x1 =>
  if (a1.1 == 1) then
   if x1.2 then
    if decide (0 ≤ x1.1) && decide (x1.1 < (a0.length : Int)) then
     (a0[x1.1.toNat]?).bind fun x2 =>
      some (((a0.set x1.1.toNat (a1.2.1,a1.2.2.1,())).take a0.length),0,())
    else
     none
   else
    impl_apply_p0 a0.length x1.1 x1.2 a0 a1.1 a1.2.1 a1.2.2.1
  else
   impl_apply_p0 a0.length x1.1 x1.2 a0 a1.1 a1.2.1 a1.2.2.1 :=
 (mk_f _ _ _ _ _ _ _ 4000).trans (by kernel_rfl)
theorem impl_apply_p0_eq (l0 : Nat) (v6 : Int) (v7 : Bool) (r0 : List T_Setting.ty) (r3_0 : Int) (r3_1 : List UInt8) (r3_2 : Int) : impl_apply_p0 l0 v6 v7 r0 r3_0 r3_1 r3_2 =
 if (r3_0 == 1) then
  if ((r0.length : Int) == 24) then
   some ([],5,())
  else
   impl_apply_p1 l0 v6 v7 r0 r3_0 r3_1 r3_2
 else
  impl_apply_p1 l0 v6 v7 r0 r3_0 r3_1 r3_2 :=
 (goL_dn _ _ _ 4000 _ _).trans (by kernel_rfl)
theorem impl_apply_p1_eq (l0 : Nat) (v6 : Int) (v7 : Bool) (r0 : List T_Setting.ty) (r3_0 : Int) (r3_1 : List UInt8) (r3_2 : Int) : impl_apply_p1 l0 v6 v7 r0 r3_0 r3_1 r3_2 =
 if (r3_0 == 1) then
  if decide (r0.length = r0.length) then
   (slices_Insert___impl_Setting_impl_Setting_ r0 v6 [(r3_1,r3_2,())]).bind fun x1 =>
    some ((x1.1.take x1.1.length),0,())
  else
   none
 else
  if (!v7) then
   some ([],3,())
  else
   if decide (0 ≤ v6) && decide (v6 < (r0.length : Int)) then
    (r0[v6.toNat]?).bind fun x2 =>
     if (!((x2.1 == r3_1) && (x2.2.1 == r3_2))) then
      some ([],6,())
     else
      if decide (r0.length = r0.length) then
       (slices_Delete___impl_Setting_impl_Setting_ r0 v6 (IntKind.i64.wrap (v6 + 1))).bind fun x3 =>
        some ((x3.1.take x3.1.length),0,())
      else
       none
   else
    none :=
 (goL_dn _ _ _ 4000 _ _).trans (by kernel_rfl)
def impl_ApplyChanges_k0 : C :=
 .seq (.reg false [.V 19 (.bin .lss (.t 18) (.t 17))] [0,1,16,17,18,19] []) (.seq (.cond (.t 19) .skip (.exit 0)) (.seq (.block 1 (.seq (.reg false [.V 20 (.ia 3 (.t 16) (.t 18)),.V 21 (.ld (some 3) (.t 20)),.W 7 (.alloc 3 (.agg [.int .i64 0,.str [],.int .i64 0])),⟨none,true,.sto 3 (.t 7) (.t 21),none,false,[]⟩] [0,1,7,16,17,18] [7]) (.seq (.reg false [.V 22 (.fa 0 (.t 7)),.V 23 (.ld none (.t 22)),.V 24 (.call (.c (.fn 23 [])) [.t 23,.c (.int .i64 1),.c (.int .i64 2)]),.V 25 (.un .not (.t 24)),.V 26 (.mv (.t 25)),.G 27 (.fa 1 (.t 7)) 4 false,.G 28 (.ld (some 2) (.t 27)) 4 false,.G 29 (.call (.c (.fn 692 [])) [.t 28]) 4 false,.G 30 (.un .not (.t 29)) 4 false,.V 31 (.pick (.t 26) (.c (.bool true)) (.t 30))] [0,1,16,17,18,31] []) (.cond (.t 31) (.seq (.reg false [.W 4 (.asg (.c (.nils 2))),.V 5 (.asg (.c (.int .i64 1)))] [4,5] [4,8,11,4000008]) .ret) .skip)))) (.reg false [.V 32 (.bin .add (.t 18) (.c (.int .i64 1))),.V 18 (.mv (.t 32))] [0,1,16,17,18] [])))
def impl_ApplyChanges_k1 : C :=
 .norm [0,1,16,17,18] [] impl_ApplyChanges_k0
def impl_ApplyChanges_k2 : C :=
 .seq (.reg false [.V 38 (.bin .lss (.t 37) (.t 36))] [8,35,36,37,38] [8,11,4000008]) (.seq (.cond (.t 38) .skip (.exit 2)) (.seq (.block 3 (.seq (.reg false [.V 39 (.ia 3 (.t 35) (.t 37)),.V 40 (.ld (some 3) (.t 39)),.W 10 (.alloc 3 (.agg [.int .i64 0,.str [],.int .i64 0])),⟨none,true,.sto 3 (.t 10) (.t 40),none,false,[]⟩] [8,10,35,36,37] [8,10,11,4000008]) (.seq (.reg false [.V 42 (.mv (.t 8)),.V 43 (.ld (some 3) (.t 10)),.W 44 (.call (.c (.fn 690 [])) [.t 42,.t 43]),.V 41 (.mv (.t 44)),.V 45 (.ext (.t 41) 0),.V 46 (.ext (.t 41) 1),.W 11 (.asg (.t 45)),.V 12 (.asg (.t 46))] [11,12,35,36,37] [11]) (.seq (.seq (.reg false [.V 47 (.mv (.t 12)),.V 48 (.bin .neq (.t 47) (.c (.int .i64 0)))] [11,12,35,36,37,48] [11]) (.cond (.t 48) (.seq (.reg false [.V 49 (.mv (.t 12)),.W 4 (.asg (.c (.nils 2))),.V 5 (.asg (.t 49))] [4,5] [4,8,11,4000008]) .ret) .skip)) (.reg false [.V 50 (.mv (.t 11)),.W 8 (.asg (.t 50))] [8,35,36,37] [8,11,4000008]))))) (.reg false [.V 51 (.bin .add (.t 37) (.c (.int .i64 1))),.V 37 (.mv (.t 51))] [8,35,36,37] [8,11,4000008])))
def impl_ApplyChanges_k3 : C :=
 .opn 7000008 (.norm [8,35,36,37] [8,11,4000008] impl_ApplyChanges_k2)
def impl_ApplyChanges_k4 : C :=
 .seq (.reg false [.V 52 (.mv (.t 8)),.W 4 (.asg (.t 52)),.V 5 (.asg (.c (.int .i64 0)))] [4,5] [4,8,11,4000008]) .ret
def impl_ApplyChanges_k5 : C :=
 .seq (.reg false [.V 33 (.mv (.t 0)),.V 34 (.call (.c (.fn 691 [])) [.t 33]),.W 8 (.asg (.t 34))] [1,8] [8,11,4000008]) (.seq (.seq (.reg false [.V 35 (.mv (.t 1)),.V 36 (.len (.t 35)),.V 37 (.mv (.c (.int .i64 0)))] [8,35,36,37] [8,11,4000008]) (.block 2 (.loop impl_ApplyChanges_k3))) impl_ApplyChanges_k4)
def impl_ApplyChanges_ir : Fn := { np := 2,io := [],res := [.t 4,.t 5],own := [true,false],body :=
 (.seq (.reg false [.W 4 (.asg (.c (.nils 2))),.V 5 (.asg (.c (.int .i64 0)))] [0,1] []) (.seq (.seq (.reg false [.V 13 (.mv (.t 0)),.V 14 (.call (.c (.fn 689 [])) [.t 13]),.V 15 (.un .not (.t 14))] [0,1,15] []) (.cond (.t 15) (.seq (.reg false [.W 4 (.asg (.c (.nils 2))),.V 5 (.asg (.c (.int .i64 1)))] [4,5] [4,8,11,4000008]) .ret) .skip)) (.seq (.seq (.reg false [.V 16 (.mv (.t 1)),.V 17 (.len (.t 16)),.V 18 (.mv (.c (.int .i64 0)))] [0,1,16,17,18] []) (.block 0 (.loop impl_ApplyChanges_k1))) impl_ApplyChanges_k5))) }
noncomputable def impl_ApplyChanges_D : List (Nat × Callee) := [(23,impl_within_c),(689,impl_ValidState_c),(690,impl_apply_c),(691,impl_clone_impl_Setting__c),(692,impl_Setting_valid_c)]
def impl_ApplyChanges_H : List (Nat × ET) := [(4,T_Setting),(8,T_Setting),(11,T_Setting),(13,T_Setting),(16,T_Change),(33,T_Setting),(34,T_Setting),(35,T_Change),(42,T_Setting),(45,T_Setting),(50,T_Setting),(52,T_Setting)]
noncomputable def impl_ApplyChanges_c : Callee := mkCallee impl_ApplyChanges_D impl_ApplyChanges_H impl_ApplyChanges_ir [.d (.one (.sl T_Setting)),.d (.one (.sl T_Change))] [.tok T_Setting,.d (.one (.int .i64))] []
noncomputable def impl_ApplyChanges (a0 : List T_Setting.ty) (a1 : List T_Change.ty) : Option (List T_Setting.ty × Int) := impl_ApplyChanges_c.f (a0,a1,())
noncomputable def impl_ApplyChanges_p0  (v0 : List T_Setting.ty) (v1 : List T_Change.ty) (v16 : List T_Change.ty) (v17 : Int) (v18 : Int) : Option (List T_Setting.ty × Int) :=
 goL impl_ApplyChanges_D impl_ApplyChanges_H (vleave impl_ApplyChanges_ir [.d (.one (.sl T_Setting)),.d (.one (.sl T_Change))] [.tok T_Setting,.d (.one (.int .i64))] [] []) [.c impl_ApplyChanges_k0,.l impl_ApplyChanges_k1,.e 0,.c impl_ApplyChanges_k5]
  ⟨[(0,.sl T_Setting v0),(1,.sl T_Change v1),(16,.sl T_Change v16),(17,.int .i64 v17),(18,.int .i64 v18)],[]⟩
noncomputable def impl_ApplyChanges_p1  (v35 : List T_Change.ty) (v36 : Int) (v37 : Int) (r4000008 : List T_Setting.ty) : Option (List T_Setting.ty × Int) :=
 goL impl_ApplyChanges_D impl_ApplyChanges_H (vleave impl_ApplyChanges_ir [.d (.one (.sl T_Setting)),.d (.one (.sl T_Change))] [.tok T_Setting,.d (.one (.int .i64))] [] []) [.c impl_ApplyChanges_k2,.l impl_ApplyChanges_k3,.e 2,.c impl_ApplyChanges_k4]
  ⟨[(8,.view 4000008 0 r4000008.length),(35,.sl T_Change v35),(36,.int .i64 v36),(37,.int .i64 v37)],[(8,none),(11,none),(4000008,some (.sl T_Setting r4000008))]⟩
theorem impl_ApplyChanges_eq (a0 : List T_Setting.ty) (a1 : List T_Change.ty) : impl_ApplyChanges a0 a1 =
 (impl_ValidState a0).bind fun x1 =>
  if (!x1) then
   some ([],1)
  else
   impl_ApplyChanges_p0 a0 a1 a1 (a1.length : Int) 0 :=
 (mk_f _ _ _ _ _ _ _ 4000).trans (by kernel_rfl)
theorem impl_ApplyChanges_p0_eq  (v0 : List T_Setting.ty) (v1 : List T_Change.ty) (v16 : List T_Change.ty) (v17 : Int) (v18 : Int) : impl_ApplyChanges_p0 v0 v1 v16 v17 v18 =
 if decide (v18 < v17) then
  if decide (0 ≤ v18) then
   (v16[v18.toNat]?).bind fun x1 =>
    (impl_within x1.1 1 2).bind fun x2 =>
     if (!x2) then
      some ([],1)
     else
      (impl_Setting_valid (x1.2.1,x1.2.2.1,())).bind fun x3 =>
       if (!x3) then
        some ([],1)
       else
        impl_ApplyChanges_p0 v0 v1 v16 v17 (IntKind.i64.wrap (v18 + 1))
  else
   none
 else
  (impl_clone_impl_Setting_ v0).bind fun x4 =>
   impl_ApplyChanges_p1 v1 (v1.length : Int) 0 x4 :=
 (goL_dn _ _ _ 4000 _ _).trans (by kernel_rfl)
theorem impl_ApplyChanges_p1_eq  (v35 : List T_Change.ty) (v36 : Int) (v37 : Int) (r4000008 : List T_Setting.ty) : impl_ApplyChanges_p1 v35 v36 v37 r4000008 =
 if decide (v37 < v36) then
  if decide (0 ≤ v37) then
   (v35[v37.toNat]?).bind fun x1 =>
    if decide (r4000008.length = r4000008.length) then
     (impl_apply r4000008 x1).bind fun x2 =>
      if (x2.2.1 != 0) then
       some ([],x2.2.1)
      else
       impl_ApplyChanges_p1 v35 v36 (IntKind.i64.wrap (v37 + 1)) x2.1
    else
     none
  else
   none
 else
  some ((r4000008.take r4000008.length),0) :=
 (goL_dn _ _ _ 4000 _ _).trans (by kernel_rfl)
def spec_l27Same_k0 : C :=
 .seq (.seq (.reg false [.V 11 (.mv (.t 5)),.V 12 (.mv (.t 0)),.V 13 (.len (.t 12)),.V 14 (.bin .lss (.t 11) (.t 13))] [0,1,5,14] []) (.cond (.t 14) .skip (.exit 0))) (.seq (.block 1 (.seq (.reg true [.V 17 (.mv (.t 0)),.V 18 (.mv (.t 5)),.V 19 (.ia 2 (.t 17) (.t 18)),.V 20 (.ld (some 2) (.t 19)),.V 21 (.mv (.t 1)),.V 22 (.mv (.t 5)),.V 23 (.ia 2 (.t 21) (.t 22)),.V 24 (.ld (some 2) (.t 23)),.V 25 (.eqs true [.s,.i] (.t 20) (.t 24))] [0,1,5,25] []) (.cond (.t 25) (.seq (.reg false [.V 4 (.asg (.c (.bool false)))] [4] []) .ret) .skip))) (.reg false [.V 15 (.mv (.t 5)),.V 16 (.bin .add (.t 15) (.c (.int .i64 1))),.V 5 (.asg (.t 16))] [0,1,5] []))
def spec_l27Same_k1 : C :=
 .norm [0,1,5] [] spec_l27Same_k0
def spec_l27Same_k2 : C :=
 .seq (.reg false [.V 4 (.asg (.c (.bool true)))] [4] []) .ret
def spec_l27Same_ir : Fn := { np := 2,io := [],res := [.t 4],own := [false],body :=
 (.seq (.reg false [.V 4 (.asg (.c (.bool false)))] [0,1] []) (.seq (.seq (.reg false [.V 6 (.mv (.t 0)),.V 7 (.len (.t 6)),.V 8 (.mv (.t 1)),.V 9 (.len (.t 8)),.V 10 (.bin .neq (.t 7) (.t 9))] [0,1,10] []) (.cond (.t 10) (.seq (.reg false [.V 4 (.asg (.c (.bool false)))] [4] []) .ret) .skip)) (.seq (.seq (.reg false [.V 5 (.asg (.c (.int .i64 0)))] [0,1,5] []) (.block 0 (.loop spec_l27Same_k1))) spec_l27Same_k2))) }
noncomputable def spec_l27Same_D : List (Nat × Callee) := []
def spec_l27Same_H : List (Nat × ET) := [(6,T_Setting),(8,T_Setting),(12,T_Setting),(17,T_Setting),(21,T_Setting)]
noncomputable def spec_l27Same_c : Callee := mkCallee spec_l27Same_D spec_l27Same_H spec_l27Same_ir [.d (.one (.sl T_Setting)),.d (.one (.sl T_Setting))] [.d (.one .bool)] []
noncomputable def spec_l27Same (a0 : List T_Setting.ty) (a1 : List T_Setting.ty) : Option (Bool) := spec_l27Same_c.f (a0,a1,())
noncomputable def spec_l27Same_p0  (v0 : List T_Setting.ty) (v1 : List T_Setting.ty) (v5 : Int) : Option (Bool) :=
 goL spec_l27Same_D spec_l27Same_H (vleave spec_l27Same_ir [.d (.one (.sl T_Setting)),.d (.one (.sl T_Setting))] [.d (.one .bool)] [] []) [.c spec_l27Same_k0,.l spec_l27Same_k1,.e 0,.c spec_l27Same_k2]
  ⟨[(0,.sl T_Setting v0),(1,.sl T_Setting v1),(5,.int .i64 v5)],[]⟩
theorem spec_l27Same_eq (a0 : List T_Setting.ty) (a1 : List T_Setting.ty) : spec_l27Same a0 a1 =
 if ((a0.length : Int) != (a1.length : Int)) then
  some false
 else
  spec_l27Same_p0 a0 a1 0 :=
 (mk_f _ _ _ _ _ _ _ 4000).trans (by kernel_rfl)
theorem spec_l27Same_p0_eq  (v0 : List T_Setting.ty) (v1 : List T_Setting.ty) (v5 : Int) : spec_l27Same_p0 v0 v1 v5 =
 if decide (v5 < (v0.length : Int)) then
  if decide (0 ≤ v5) then
   (v0[v5.toNat]?).bind fun x1 =>
    if decide (0 ≤ v5) then
     (v1[v5.toNat]?).bind fun x2 =>
      if (!((x1.1 == x2.1) && (x1.2.1 == x2.2.1))) then
       some false
      else
       spec_l27Same_p0 v0 v1 (IntKind.i64.wrap (v5 + 1))
    else
     none
  else
   none
 else
  some true :=
 (goL_dn _ _ _ 4000 _ _).trans (by kernel_rfl)
def spec_SameState_ir : Fn := { np := 2,io := [],res := [.t 4],own := [false],body :=
 (.seq (.reg false [.V 4 (.asg (.c (.bool false)))] [0,1] []) (.seq (.reg false [.V 5 (.mv (.t 0)),.V 6 (.mv (.t 1)),.V 7 (.call (.c (.fn 693 [])) [.t 5,.t 6]),.V 4 (.asg (.t 7))] [4] []) .ret)) }
noncomputable def spec_SameState_D : List (Nat × Callee) := [(693,spec_l27Same_c)]
def spec_SameState_H : List (Nat × ET) := [(5,T_Setting),(6,T_Setting)]
noncomputable def spec_SameState_c : Callee := mkCallee spec_SameState_D spec_SameState_H spec_SameState_ir [.d (.one (.sl T_Setting)),.d (.one (.sl T_Setting))] [.d (.one .bool)] []
noncomputable def spec_SameState (a0 : List T_Setting.ty) (a1 : List T_Setting.ty) : Option (Bool) := spec_SameState_c.f (a0,a1,())
theorem spec_SameState_eq (a0 : List T_Setting.ty) (a1 : List T_Setting.ty) : spec_SameState a0 a1 =
 (spec_l27Same a0 a1).bind fun x1 =>
  some x1 :=
 (mk_f _ _ _ _ _ _ _ 4000).trans (by kernel_rfl)
def laws_r8At_k0 : C :=
 .seq (.reg false [.V 15 (.mv (.t 0)),.V 16 (.mv (.t 1)),.V 17 (.ia 1 (.t 15) (.t 16)),.V 18 (.ld none (.t 17)),.V 19 (.conv (.int .i64) (.t 18)),.V 20 (.mv (.t 2)),.V 21 (.bin .rem (.t 19) (.t 20)),.V 6 (.asg (.t 21))] [6] []) .ret
def laws_r8At_ir : Fn := { np := 3,io := [],res := [.t 6],own := [false],body :=
 (.seq (.reg false [.V 6 (.asg (.c (.int .i64 0)))] [0,1,2] []) (.seq (.seq (.reg false [.V 7 (.mv (.t 2)),.V 8 (.bin .leq (.t 7) (.c (.int .i64 1))),.V 9 (.mv (.t 8)),.G 10 (.mv (.t 1)) 2 false,.G 11 (.mv (.t 0)) 2 false,.G 12 (.len (.t 11)) 2 false,.G 13 (.bin .geq (.t 10) (.t 12)) 2 false,.V 14 (.pick (.t 9) (.c (.bool true)) (.t 13))] [0,1,2,14] []) (.cond (.t 14) (.seq (.reg false [.V 6 (.asg (.c (.int .i64 0)))] [6] []) .ret) .skip)) (.norm [0,1,2] [] laws_r8At_k0))) }
noncomputable def laws_r8At_D : List (Nat × Callee) := []
def laws_r8At_H : List (Nat × ET) := [(11,(.one (.int .u8))),(15,(.one (.int .u8)))]
noncomputable def laws_r8At_c : Callee := mkCallee laws_r8At_D laws_r8At_H laws_r8At_ir [.d (.one (.sl (.one (.int .u8)))),.d (.one (.int .i64)),.d (.one (.int .i64))] [.d (.one (.int .i64))] []
noncomputable def laws_r8At (a0 : List Int) (a1 : Int) (a2 : Int) : Option (Int) := laws_r8At_c.f (a0,a1,a2,())
noncomputable def laws_r8At_p0  (v0 : List Int) (v1 : Int) (v2 : Int) : Option (Int) :=
 goL laws_r8At_D laws_r8At_H (vleave laws_r8At_ir [.d (.one (.sl (.one (.int .u8)))),.d (.one (.int .i64)),.d (.one (.int .i64))] [.d (.one (.int .i64))] [] []) [.c laws_r8At_k0]
  ⟨[(0,.sl (.one (.int .u8)) v0),(1,.int .i64 v1),(2,.int .i64 v2)],[]⟩
theorem laws_r8At_eq (a0 : List Int) (a1 : Int) (a2 : Int) : laws_r8At a0 a1 a2 =
 if decide (a2 ≤ 1) then
  some 0
 else
  if decide (a1 ≥ (a0.length : Int)) then
   some 0
  else
   laws_r8At_p0 a0 a1 a2 :=
 (mk_f _ _ _ _ _ _ _ 4000).trans (by kernel_rfl)
theorem laws_r8At_p0_eq  (v0 : List Int) (v1 : Int) (v2 : Int) : laws_r8At_p0 v0 v1 v2 =
 if decide (0 ≤ v1) then
  (v0[v1.toNat]?).bind fun x1 =>
   if decide (v2 = 0) then
    none
   else
    some ((IntKind.i64.wrap x1).tmod v2)
 else
  none :=
 (goL_dn _ _ _ 4000 _ _).trans (by kernel_rfl)
def impl_isMemo_k0 : C :=
 .seq (.seq (.reg false [.V 4 (.mv (.t 3)),.V 5 (.mv (.t 0)),.V 6 (.lens (.t 5)),.V 7 (.bin .lss (.t 4) (.t 6))] [0,3,7] []) (.cond (.t 7) .skip (.exit 0))) (.seq (.block 1 (.seq (.reg false [.V 10 (.mv (.t 0)),.V 11 (.mv (.t 3)),.V 12 (.ix (.t 10) (.t 11)),.V 13 (.conv (.int .i64) (.t 12)),.V 14 (.call (.c (.fn 23 [])) [.t 13,.c (.int .i64 32),.c (.int .i64 126)]),.V 15 (.un .not (.t 14))] [0,3,15] []) (.cond (.t 15) (.seq (.reg false [.V 2 (.asg (.c (.bool false)))] [2] []) .ret) .skip))) (.reg false [.V 8 (.mv (.t 3)),.V 9 (.bin .add (.t 8) (.c (.int .i64 1))),.V 3 (.asg (.t 9))] [0,3] []))
def impl_isMemo_k1 : C :=
 .norm [0,3] [] impl_isMemo_k0
def impl_isMemo_k2 : C :=
 .seq (.reg false [.V 16 (.mv (.t 0)),.V 17 (.lens (.t 16)),.V 18 (.call (.c (.fn 21 [])) [.t 17,.c (.int .i64 20)]),.V 2 (.asg (.t 18))] [2] []) .ret
def impl_isMemo_ir : Fn := { np := 1,io := [],res := [.t 2],own := [false],body :=
 (.seq (.reg false [.V 2 (.asg (.c (.bool false)))] [0] []) (.seq (.seq (.reg false [.V 3 (.asg (.c (.int .i64 0)))] [0,3] []) (.block 0 (.loop impl_isMemo_k1))) impl_isMemo_k2)) }
noncomputable def impl_isMemo_D : List (Nat × Callee) := [(21,impl_few_c),(23,impl_within_c)]
def impl_isMemo_H : List (Nat × ET) := []
noncomputable def impl_isMemo_c : Callee := mkCallee impl_isMemo_D impl_isMemo_H impl_isMemo_ir [.d (.one .str)] [.d (.one .bool)] []
noncomputable def impl_isMemo (a0 : List UInt8) : Option (Bool) := impl_isMemo_c.f (a0,())
noncomputable def impl_isMemo_p0  (v0 : List UInt8) (v3 : Int) : Option (Bool) :=
 goL impl_isMemo_D impl_isMemo_H (vleave impl_isMemo_ir [.d (.one .str)] [.d (.one .bool)] [] []) [.c impl_isMemo_k0,.l impl_isMemo_k1,.e 0,.c impl_isMemo_k2]
  ⟨[(0,.str v0),(3,.int .i64 v3)],[]⟩
theorem impl_isMemo_eq (a0 : List UInt8) : impl_isMemo a0 =
 impl_isMemo_p0 a0 0 :=
 (mk_f _ _ _ _ _ _ _ 4000).trans (by kernel_rfl)
theorem impl_isMemo_p0_eq  (v0 : List UInt8) (v3 : Int) : impl_isMemo_p0 v0 v3 =
 if decide (v3 < (v0.length : Int)) then
  if decide (0 ≤ v3) then
   (v0[v3.toNat]?).bind fun x1 =>
    (impl_within (IntKind.i64.wrap (x1.toNat : Int)) 32 126).bind fun x2 =>
     if (!x2) then
      some false
     else
      impl_isMemo_p0 v0 (IntKind.i64.wrap (v3 + 1))
  else
   none
 else
  (impl_few (v0.length : Int) 20).bind fun x3 =>
   some x3 :=
 (goL_dn _ _ _ 4000 _ _).trans (by kernel_rfl)
def impl_ValidHistory_k0 : C :=
 .seq (.reg false [.V 8 (.bin .lss (.t 7) (.t 6))] [0,5,6,7,8] []) (.seq (.cond (.t 8) .skip (.exit 0)) (.seq (.block 1 (.seq (.reg false [.V 9 (.mv (.t 7)),.V 10 (.ia 4 (.t 5) (.t 7)),.V 11 (.ld (some 4) (.t 10)),.W 4 (.alloc 4 (.agg [.int .i64 0,.int .i64 0,.str [],.nils 2])),.V 3 (.asg (.t 9)),⟨none,true,.sto 4 (.t 4) (.t 11),none,false,[]⟩] [0,3,4,5,6,7] [4,5003]) (.seq (.reg false [.V 12 (.fa 0 (.t 4)),.V 13 (.ld none (.t 12)),.V 14 (.mv (.t 3)),.V 15 (.bin .add (.t 14) (.c (.int .i64 1))),.V 16 (.bin .neq (.t 13) (.t 15)),.V 17 (.mv (.t 16)),.G 18 (.fa 1 (.t 4)) 5 false,.G 19 (.ld none (.t 18)) 5 false,.G 20 (.mv (.t 3)) 5 false,.G 21 (.call (.c (.fn 23 [])) [.t 19,.c (.int .i64 0),.t 20]) 5 false,.G 22 (.un .not (.t 21)) 5 false,.V 23 (.pick (.t 17) (.c (.bool true)) (.t 22)),.V 24 (.mv (.t 23)),.G 25 (.fa 2 (.t 4)) 12 false,.G 26 (.ld none (.t 25)) 12 false,.G 27 (.call (.c (.fn 697 [])) [.t 26]) 12 false,.G 28 (.un .not (.t 27)) 12 false,.V 29 (.pick (.t 24) (.c (.bool true)) (.t 28)),.V 30 (.mv (.t 29)),.G 31 (.fa 3 (.t 4)) 18 false,.G 32 (.ld none (.t 31)) 18 false,.G 33 (.call (.c (.fn 689 [])) [.t 32]) 18 false,.G 34 (.un .not (.t 33)) 18 false,.V 35 (.pick (.t 30) (.c (.bool true)) (.t 34))] [0,5,6,7,35] []) (.cond (.t 35) (.seq (.reg false [.V 2 (.asg (.c (.bool false)))] [2] []) .ret) .skip)))) (.reg false [.V 36 (.bin .add (.t 7) (.c (.int .i64 1))),.V 7 (.mv (.t 36))] [0,5,6,7] [])))
def impl_ValidHistory_k1 : C :=
 .norm [0,5,6,7] [] impl_ValidHistory_k0
def impl_ValidHistory_k2 : C :=
 .seq (.reg false [.V 37 (.mv (.t 0)),.V 38 (.len (.t 37)),.V 39 (.call (.c (.fn 21 [])) [.t 38,.c (.int .i64 32)]),.V 2 (.asg (.t 39))] [2] []) .ret
def impl_ValidHistory_ir : Fn := { np := 1,io := [],res := [.t 2],own := [false],body :=
 (.seq (.reg false [.V 2 (.asg (.c (.bool false)))] [0] []) (.seq (.seq (.reg false [.V 5 (.mv (.t 0)),.V 6 (.len (.t 5)),.V 7 (.mv (.c (.int .i64 0)))] [0,5,6,7] []) (.block 0 (.loop impl_ValidHistory_k1))) impl_ValidHistory_k2)) }
noncomputable def impl_ValidHistory_D : List (Nat × Callee) := [(21,impl_few_c),(23,impl_within_c),(689,impl_ValidState_c),(697,impl_isMemo_c)]
def impl_ValidHistory_H : List (Nat × ET) := [(5,T_Version),(32,T_Setting),(37,T_Version)]
noncomputable def impl_ValidHistory_c : Callee := mkCallee impl_ValidHistory_D impl_ValidHistory_H impl_ValidHistory_ir [.d (.one (.sl T_Version))] [.d (.one .bool)] []
noncomputable def impl_ValidHistory (a0 : List T_Version.ty) : Option (Bool) := impl_ValidHistory_c.f (a0,())
noncomputable def impl_ValidHistory_p0  (v0 : List T_Version.ty) (v5 : List T_Version.ty) (v6 : Int) (v7 : Int) : Option (Bool) :=
 goL impl_ValidHistory_D impl_ValidHistory_H (vleave impl_ValidHistory_ir [.d (.one (.sl T_Version))] [.d (.one .bool)] [] []) [.c impl_ValidHistory_k0,.l impl_ValidHistory_k1,.e 0,.c impl_ValidHistory_k2]
  ⟨[(0,.sl T_Version v0),(5,.sl T_Version v5),(6,.int .i64 v6),(7,.int .i64 v7)],[]⟩
theorem impl_ValidHistory_eq (a0 : List T_Version.ty) : impl_ValidHistory a0 =
 impl_ValidHistory_p0 a0 a0 (a0.length : Int) 0 :=
 (mk_f _ _ _ _ _ _ _ 4000).trans (by kernel_rfl)
theorem impl_ValidHistory_p0_eq  (v0 : List T_Version.ty) (v5 : List T_Version.ty) (v6 : Int) (v7 : Int) : impl_ValidHistory_p0 v0 v5 v6 v7 =
 if decide (v7 < v6) then
  if decide (0 ≤ v7) then
   (v5[v7.toNat]?).bind fun x1 =>
    if (x1.1 != IntKind.i64.wrap (v7 + 1)) then
     some false
    else
     (impl_within x1.2.1 0 v7).bind fun x2 =>
      if (!x2) then
       some false
      else
       (impl_isMemo x1.2.2.1).bind fun x3 =>
        if (!x3) then
         some false
        else
         (impl_ValidState x1.2.2.2.1).bind fun x4 =>
          if (!x4) then
           some false
          else
           impl_ValidHistory_p0 v0 v5 v6 (IntKind.i64.wrap (v7 + 1))
  else
   none
 else
  (impl_few (v0.length : Int) 32).bind fun x5 =>
   some x5 :=
 (goL_dn _ _ _ 4000 _ _).trans (by kernel_rfl)
def impl_at_ir : Fn := { np := 2,io := [],res := [.t 4],own := [false],body :=
 (.seq (.reg false [.V 4 (.asg (.c (.bool false)))] [0,1] []) (.seq (.reg false [.V 5 (.mv (.t 0)),.V 6 (.bin .geq (.t 5) (.c (.int .i64 0))),.V 7 (.mv (.t 6)),.G 8 (.mv (.t 0)) 2 true,.G 9 (.mv (.t 1)) 2 true,.G 10 (.bin .lss (.t 8) (.t 9)) 2 true,.V 11 (.pick (.t 7) (.t 10) (.c (.bool false))),.V 4 (.asg (.t 11))] [4] []) .ret)) }
noncomputable def impl_at_D : List (Nat × Callee) := []
def impl_at_H : List (Nat × ET) := []
noncomputable def impl_at_c : Callee := mkCallee impl_at_D impl_at_H impl_at_ir [.d (.one (.int .i64)),.d (.one (.int .i64))] [.d (.one .bool)] []
noncomputable def impl_at (a0 : Int) (a1 : Int) : Option (Bool) := impl_at_c.f (a0,a1,())
theorem impl_at_eq (a0 : Int) (a1 : Int) : impl_at a0 a1 =
 if decide (a0 ≥ 0) then
  some (decide (a0 < a1))
 else
  some false :=
 (mk_f _ _ _ _ _ _ _ 4000).trans (by kernel_rfl)
def impl_isVersion_ir : Fn := { np := 2,io := [],res := [.t 4],own := [false],body :=
 (.seq (.reg false [.V 4 (.asg (.c (.bool false)))] [0,1] []) (.seq (.reg false [.V 5 (.mv (.t 1)),.V 6 (.bin .sub (.t 5) (.c (.int .i64 1))),.V 7 (.mv (.t 0)),.V 8 (.len (.t 7)),.V 9 (.call (.c (.fn 4 [])) [.t 6,.t 8]),.V 4 (.asg (.t 9))] [4] []) .ret)) }
noncomputable def impl_isVersion_D : List (Nat × Callee) := [(4,impl_at_c)]
def impl_isVersion_H : List (Nat × ET) := [(7,T_Version)]
noncomputable def impl_isVersion_c : Callee := mkCallee impl_isVersion_D impl_isVersion_H impl_isVersion_ir [.d (.one (.sl T_Version)),.d (.one (.int .i64))] [.d (.one .bool)] []
noncomputable def impl_isVersion (a0 : List T_Version.ty) (a1 : Int) : Option (Bool) := impl_isVersion_c.f (a0,a1,())
theorem impl_isVersion_eq (a0 : List T_Version.ty) (a1 : Int) : impl_isVersion a0 a1 =
 (impl_at (IntKind.i64.wrap (a1 - 1)) (a0.length : Int)).bind fun x1 =>
  some x1 :=
 (mk_f _ _ _ _ _ _ _ 4000).trans (by kernel_rfl)
def impl_copyHistory_k0 : C :=
 .seq (.reg false [.V 13 (.bin .lss (.t 12) (.t 11))] [3,10,11,12,13] [3]) (.seq (.cond (.t 13) .skip (.exit 0)) (.seq (.block 1 (.seq (.reg false [.V 14 (.ia 4 (.t 10) (.t 12)),.V 15 (.ld (some 4) (.t 14)),.W 5 (.alloc 4 (.agg [.int .i64 0,.int .i64 0,.str [],.nils 2])),⟨none,true,.sto 4 (.t 5) (.t 15),none,false,[]⟩] [3,5,10,11,12] [3,5,6003]) (.seq (.reg false [.V 16 (.fa 3 (.t 5)),.V 17 (.ld none (.t 16)),.V 18 (.call (.c (.fn 691 [])) [.t 17]),.V 19 (.fa 3 (.t 5)),⟨none,true,.sto 1 (.t 19) (.t 18),none,false,[]⟩] [3,5,10,11,12] [3,5,6003]) (.reg false [.V 20 (.mv (.t 3)),.V 21 (.ld (some 4) (.t 5)),.W 22 (.bsl 4 (.agg [.int .i64 0,.int .i64 0,.str [],.sl 2 []]) 1 [(0,.t 21)]),.W 23 (.app 4 56 (.t 20) (.t 22)),.W 3 (.asg (.t 23))] [3,10,11,12] [3])))) (.reg false [.V 24 (.bin .add (.t 12) (.c (.int .i64 1))),.V 12 (.mv (.t 24))] [3,10,11,12] [3])))
def impl_copyHistory_k1 : C :=
 .norm [3,10,11,12] [3] impl_copyHistory_k0
def impl_copyHistory_k2 : C :=
 .seq (.reg false [.V 25 (.mv (.t 3)),.W 2 (.asg (.t 25))] [2] [2,3]) .ret
def impl_copyHistory_ir : Fn := { np := 1,io := [],res := [.t 2],own := [true],body :=
 (.seq (.reg false [.W 2 (.asg (.c (.nils 4)))] [0] []) (.seq (.reg false [.V 6 (.mv (.t 0)),.V 7 (.len (.t 6)),.V 8 (.bin .add (.t 7) (.c (.int .i64 1))),.V 9 (.mks 4 56 (.agg [.int .i64 0,.int .i64 0,.str [],.sl 2 []]) (.c (.int .i64 0)) (.t 8)),.W 3 (.asg (.t 9))] [0,3] [3]) (.seq (.seq (.reg false [.V 10 (.mv (.t 0)),.V 11 (.len (.t 10)),.V 12 (.mv (.c (.int .i64 0)))] [3,10,11,12] [3]) (.block 0 (.loop impl_copyHistory_k1))) impl_copyHistory_k2))) }
noncomputable def impl_copyHistory_D : List (Nat × Callee) := [(691,impl_clone_impl_Setting__c)]
def impl_copyHistory_H : List (Nat × ET) := [(2,T_Version),(3,T_Version),(6,T_Version),(9,T_Version),(10,T_Version),(17,T_Setting),(18,T_Setting),(20,T_Version),(22,T_Version),(23,T_Version),(25,T_Version)]
noncomputable def impl_copyHistory_c : Callee := mkCallee impl_copyHistory_D impl_copyHistory_H impl_copyHistory_ir [.d (.one (.sl T_Version))] [.tok T_Version] []
noncomputable def impl_copyHistory (a0 : List T_Version.ty) : Option (List T_Version.ty) := impl_copyHistory_c.f (a0,())
noncomputable def impl_copyHistory_p0  (v10 : List T_Version.ty) (v11 : Int) (v12 : Int) (r3 : List T_Version.ty) : Option (List T_Version.ty) :=
 goL impl_copyHistory_D impl_copyHistory_H (vleave impl_copyHistory_ir [.d (.one (.sl T_Version))] [.tok T_Version] [] []) [.c impl_copyHistory_k0,.l impl_copyHistory_k1,.e 0,.c impl_copyHistory_k2]
  ⟨[(3,.view 3 0 r3.length),(10,.sl T_Version v10),(11,.int .i64 v11),(12,.int .i64 v12)],[(3,some (.sl T_Version r3))]⟩
theorem impl_copyHistory_eq (a0 : List T_Version.ty) : impl_copyHistory a0 =
 if decide (0 ≤ IntKind.i64.wrap ((a0.length : Int) + 1)) && decide ((IntKind.i64.wrap ((a0.length : Int) + 1)).toNat < lim) then
  impl_copyHistory_p0 a0 (a0.length : Int) 0 []
 else
  none :=
 (mk_f _ _ _ _ _ _ _ 4000).trans (by kernel_rfl)
theorem impl_copyHistory_p0_eq  (v10 : List T_Version.ty) (v11 : Int) (v12 : Int) (r3 : List T_Version.ty) : impl_copyHistory_p0 v10 v11 v12 r3 =
 if decide (v12 < v11) then
  if decide (0 ≤ v12) then
   (v10[v12.toNat]?).bind fun x1 =>
    (impl_clone_impl_Setting_ x1.2.2.2.1).bind fun x2 =>
     if decide (r3.length + 1 < lim) then
      impl_copyHistory_p0 v10 v11 (IntKind.i64.wrap (v12 + 1)) ((r3.take r3.length) ++ [(x1.1,x1.2.1,x1.2.2.1,(x2.take x2.length),())])
     else
      none
  else
   none
 else
  some (r3.take r3.length) :=
 (goL_dn _ _ _ 4000 _ _).trans (by kernel_rfl)
def impl_commit_ir : Fn := { np := 4,io := [],res := [.t 8,.t 9],own := [false,false],body :=
 (.seq (.reg false [.W 8 (.asg (.c (.nils 4))),.V 9 (.asg (.c (.int .i64 0)))] [0,1,2,3] []) (.seq (.seq (.reg false [.V 10 (.mv (.t 0)),.V 11 (.len (.t 10)),.V 12 (.bin .eql (.t 11) (.c (.int .i64 32)))] [0,1,2,3,12] []) (.cond (.t 12) (.seq (.reg false [.W 8 (.asg (.c (.nils 4))),.V 9 (.asg (.c (.int .i64 5)))] [8,9] [8]) .ret) .skip)) (.seq (.reg false [.V 13 (.mv (.t 0)),.V 14 (.call (.c (.fn 930 [])) [.t 13]),.V 15 (.mv (.t 0)),.V 16 (.len (.t 15)),.V 17 (.bin .add (.t 16) (.c (.int .i64 1))),.V 18 (.mv (.t 1)),.V 19 (.mv (.t 2)),.V 20 (.mv (.t 3)),.V 21 (.call (.c (.fn 691 [])) [.t 20]),.V 22 (.build [.int .i64 0,.int .i64 0,.str [],.nils 2] [(0,1,.t 17),(1,1,.t 18),(2,1,.t 19),(3,1,.t 21)]),.W 23 (.bsl 4 (.agg [.int .i64 0,.int .i64 0,.str [],.sl 2 []]) 1 [(0,.t 22)]),.W 24 (.app 4 56 (.t 14) (.t 23)),.W 8 (.asg (.t 24)),.V 9 (.asg (.c (.int .i64 0)))] [8,9] [8]) .ret))) }
noncomputable def impl_commit_D : List (Nat × Callee) := [(691,impl_clone_impl_Setting__c),(930,impl_copyHistory_c)]
def impl_commit_H : List (Nat × ET) := [(8,T_Version),(10,T_Version),(13,T_Version),(14,T_Version),(15,T_Version),(20,T_Setting),(21,T_Setting),(23,T_Version),(24,T_Version)]
noncomputable def impl_commit_c : Callee := mkCallee impl_commit_D impl_commit_H impl_commit_ir [.d (.one (.sl T_Version)),.d (.one (.int .i64)),.d (.one .str),.d (.one (.sl T_Setting))] [.d (.one (.sl T_Version)),.d (.one (.int .i64))] []
noncomputable def impl_commit (a0 : List T_Version.ty) (a1 : Int) (a2 : List UInt8) (a3 : List T_Setting.ty) : Option (List T_Version.ty × Int) := impl_commit_c.f (a0,a1,a2,a3,())
theorem impl_commit_eq (a0 : List T_Version.ty) (a1 : Int) (a2 : List UInt8) (a3 : List T_Setting.ty) : impl_commit a0 a1 a2 a3 =
 if ((a0.length : Int) == 32) then
  some ([],5)
 else
  (impl_copyHistory a0).bind fun x1 =>
   (impl_clone_impl_Setting_ a3).bind fun x2 =>
    if decide (x1.length + 1 < lim) then
     some (((x1 ++ [(IntKind.i64.wrap ((a0.length : Int) + 1),a1,a2,x2,())]).take ((x1 ++ [(IntKind.i64.wrap ((a0.length : Int) + 1),a1,a2,x2,())]).length)),0)
    else
     none :=
 (mk_f _ _ _ _ _ _ _ 4000).trans (by kernel_rfl)
def impl_CommitState_k0 : C :=
 .seq (.reg false [.V 31 (.mv (.t 0)),.V 32 (.mv (.t 1)),.V 33 (.mv (.t 2)),.V 34 (.mv (.t 3)),.V 35 (.call (.c (.fn 694 [])) [.t 31,.t 32,.t 33,.t 34]),.V 36 (.ext (.t 35) 0),.V 37 (.ext (.t 35) 1),.W 8 (.asg (.t 36)),.V 9 (.asg (.t 37))] [8,9] [8]) .ret
def impl_CommitState_k1 : C :=
 .seq (.seq (.reg false [.V 23 (.mv (.t 1)),.V 24 (.bin .neq (.t 23) (.c (.int .i64 0))),.V 25 (.mv (.t 24)),.G 26 (.mv (.t 0)) 2 true,.G 27 (.mv (.t 1)) 2 true,.G 28 (.call (.c (.fn 695 [])) [.t 26,.t 27]) 2 true,.G 29 (.un .not (.t 28)) 2 true,.V 30 (.pick (.t 25) (.t 29) (.c (.bool false)))] [0,1,2,3,30] []) (.cond (.t 30) (.seq (.reg false [.W 8 (.asg (.c (.nils 4))),.V 9 (.asg (.c (.int .i64 3)))] [8,9] [8]) .ret) .skip)) (.norm [0,1,2,3] [] impl_CommitState_k0)
def impl_CommitState_ir : Fn := { np := 4,io := [],res := [.t 8,.t 9],own := [false,false],body :=
 (.seq (.reg false [.W 8 (.asg (.c (.nils 4))),.V 9 (.asg (.c (.int .i64 0)))] [0,1,2,3] []) (.seq (.seq (.reg false [.V 10 (.mv (.t 0)),.V 11 (.call (.c (.fn 696 [])) [.t 10]),.V 12 (.un .not (.t 11)),.V 13 (.mv (.t 12)),.G 14 (.mv (.t 2)) 3 false,.G 15 (.call (.c (.fn 697 [])) [.t 14]) 3 false,.G 16 (.un .not (.t 15)) 3 false,.V 17 (.pick (.t 13) (.c (.bool true)) (.t 16)),.V 18 (.mv (.t 17)),.G 19 (.mv (.t 3)) 8 false,.G 20 (.call (.c (.fn 689 [])) [.t 19]) 8 false,.G 21 (.un .not (.t 20)) 8 false,.V 22 (.pick (.t 18) (.c (.bool true)) (.t 21))] [0,1,2,3,22] []) (.cond (.t 22) (.seq (.reg false [.W 8 (.asg (.c (.nils 4))),.V 9 (.asg (.c (.int .i64 1)))] [8,9] [8]) .ret) .skip)) (.norm [0,1,2,3] [] impl_CommitState_k1))) }
noncomputable def impl_CommitState_D : List (Nat × Callee) := [(689,impl_ValidState_c),(694,impl_commit_c),(695,impl_isVersion_c),(696,impl_ValidHistory_c),(697,impl_isMemo_c)]
def impl_CommitState_H : List (Nat × ET) := [(8,T_Version),(10,T_Version),(19,T_Setting),(26,T_Version),(31,T_Version),(34,T_Setting),(36,T_Version)]
noncomputable def impl_CommitState_c : Callee := mkCallee impl_CommitState_D impl_CommitState_H impl_CommitState_ir [.d (.one (.sl T_Version)),.d (.one (.int .i64)),.d (.one .str),.d (.one (.sl T_Setting))] [.d (.one (.sl T_Version)),.d (.one (.int .i64))] []
noncomputable def impl_CommitState (a0 : List T_Version.ty) (a1 : Int) (a2 : List UInt8) (a3 : List T_Setting.ty) : Option (List T_Version.ty × Int) := impl_CommitState_c.f (a0,a1,a2,a3,())
noncomputable def impl_CommitState_p0  (v0 : List T_Version.ty) (v1 : Int) (v2 : List UInt8) (v3 : List T_Setting.ty) : Option (List T_Version.ty × Int) :=
 goL impl_CommitState_D impl_CommitState_H (vleave impl_CommitState_ir [.d (.one (.sl T_Version)),.d (.one (.int .i64)),.d (.one .str),.d (.one (.sl T_Setting))] [.d (.one (.sl T_Version)),.d (.one (.int .i64))] [] []) [.c impl_CommitState_k1]
  ⟨[(0,.sl T_Version v0),(1,.int .i64 v1),(2,.str v2),(3,.sl T_Setting v3)],[]⟩
noncomputable def impl_CommitState_p1  (v0 : List T_Version.ty) (v1 : Int) (v2 : List UInt8) (v3 : List T_Setting.ty) : Option (List T_Version.ty × Int) :=
 goL impl_CommitState_D impl_CommitState_H (vleave impl_CommitState_ir [.d (.one (.sl T_Version)),.d (.one (.int .i64)),.d (.one .str),.d (.one (.sl T_Setting))] [.d (.one (.sl T_Version)),.d (.one (.int .i64))] [] []) [.c impl_CommitState_k0]
  ⟨[(0,.sl T_Version v0),(1,.int .i64 v1),(2,.str v2),(3,.sl T_Setting v3)],[]⟩
theorem impl_CommitState_eq (a0 : List T_Version.ty) (a1 : Int) (a2 : List UInt8) (a3 : List T_Setting.ty) : impl_CommitState a0 a1 a2 a3 =
 (impl_ValidHistory a0).bind fun x1 =>
  if (!x1) then
   some ([],1)
  else
   (impl_isMemo a2).bind fun x2 =>
    if (!x2) then
     some ([],1)
    else
     (impl_ValidState a3).bind fun x3 =>
      if (!x3) then
       some ([],1)
      else
       impl_CommitState_p0 a0 a1 a2 a3 :=
 (mk_f _ _ _ _ _ _ _ 4000).trans (by kernel_rfl)
theorem impl_CommitState_p0_eq  (v0 : List T_Version.ty) (v1 : Int) (v2 : List UInt8) (v3 : List T_Setting.ty) : impl_CommitState_p0 v0 v1 v2 v3 =
 if (v1 != 0) then
  (impl_isVersion v0 v1).bind fun x1 =>
   if (!x1) then
    some ([],3)
   else
    impl_CommitState_p1 v0 v1 v2 v3
 else
  impl_CommitState_p1 v0 v1 v2 v3 :=
 (goL_dn _ _ _ 4000 _ _).trans (by kernel_rfl)
theorem impl_CommitState_p1_eq  (v0 : List T_Version.ty) (v1 : Int) (v2 : List UInt8) (v3 : List T_Setting.ty) : impl_CommitState_p1 v0 v1 v2 v3 =
 (impl_commit v0 v1 v2 v3).bind fun x1 =>
  some (x1.1,x1.2) :=
 (goL_dn _ _ _ 4000 _ _).trans (by kernel_rfl)
noncomputable def strconv_FormatInt_c : Callee := formatIntC
noncomputable def strconv_FormatInt (a0 : Int) (a1 : Int) : Option (List UInt8) := strconv_FormatInt_c.f (a0,a1,())
theorem strconv_FormatInt_eq (a0 : Int) (a1 : Int) : strconv_FormatInt a0 a1 = if decide (a1 = 10) && (decide (-9223372036854775808 ≤ a0) && decide (a0 ≤ 9223372036854775807)) then some (Lib.itoa a0) else none := rfl
def impl_Decimal_ir : Fn := { np := 1,io := [],res := [.t 2],own := [false],body :=
 (.seq (.reg false [.V 2 (.asg (.c (.str [])))] [0] []) (.seq (.reg false [.V 3 (.mv (.t 0)),.V 4 (.call (.c (.fn 864 [])) [.t 3,.c (.int .i64 10)]),.V 2 (.asg (.t 4))] [2] []) .ret)) }
noncomputable def impl_Decimal_D : List (Nat × Callee) := [(864,strconv_FormatInt_c)]
def impl_Decimal_H : List (Nat × ET) := []
noncomputable def impl_Decimal_c : Callee := mkCallee impl_Decimal_D impl_Decimal_H impl_Decimal_ir [.d (.one (.int .i64))] [.d (.one .str)] []
noncomputable def impl_Decimal (a0 : Int) : Option (List UInt8) := impl_Decimal_c.f (a0,())
theorem impl_Decimal_eq (a0 : Int) : impl_Decimal a0 =
 (strconv_FormatInt a0 10).bind fun x1 =>
  some x1 :=
 (mk_f _ _ _ _ _ _ _ 4000).trans (by kernel_rfl)
def impl_stateOf_ir : Fn := { np := 2,io := [],res := [.t 4],own := [false],body :=
 (.seq (.reg false [.W 4 (.asg (.c (.nils 2)))] [0,1] []) (.seq (.seq (.reg false [.V 5 (.mv (.t 1)),.V 6 (.bin .eql (.t 5) (.c (.int .i64 0)))] [0,1,6] []) (.cond (.t 6) (.seq (.reg false [.W 4 (.asg (.c (.nils 2)))] [4] [4]) .ret) .skip)) (.seq (.reg false [.V 7 (.mv (.t 0)),.V 8 (.mv (.t 1)),.V 9 (.bin .sub (.t 8) (.c (.int .i64 1))),.V 10 (.ia 4 (.t 7) (.t 9)),.V 11 (.fa 3 (.t 10)),.V 12 (.ld none (.t 11)),.W 4 (.asg (.t 12))] [4] [4]) .ret))) }
noncomputable def impl_stateOf_D : List (Nat × Callee) := []
def impl_stateOf_H : List (Nat × ET) := [(4,T_Setting),(7,T_Version),(12,T_Setting)]
noncomputable def impl_stateOf_c : Callee := mkCallee impl_stateOf_D impl_stateOf_H impl_stateOf_ir [.d (.one (.sl T_Version)),.d (.one (.int .i64))] [.d (.one (.sl T_Setting))] []
noncomputable def impl_stateOf (a0 : List T_Version.ty) (a1 : Int) : Option (List T_Setting.ty) := impl_stateOf_c.f (a0,a1,())
theorem impl_stateOf_eq (a0 : List T_Version.ty) (a1 : Int) : impl_stateOf a0 a1 =
 if (a1 == 0) then
  some []
 else
  if decide (0 ≤ IntKind.i64.wrap (a1 - 1)) then
   (a0[(IntKind.i64.wrap (a1 - 1)).toNat]?).bind fun x1 =>
    some x1.2.2.2.1
  else
   none :=
 (mk_f _ _ _ _ _ _ _ 4000).trans (by kernel_rfl)
def impl_UndoVersion_ir : Fn := { np := 2,io := [],res := [.t 4,.t 5],own := [false,false],body :=
 (.seq (.reg false [.W 4 (.asg (.c (.nils 4))),.V 5 (.asg (.c (.int .i64 0)))] [0,1] []) (.seq (.seq (.reg false [.V 6 (.mv (.t 0)),.V 7 (.call (.c (.fn 696 [])) [.t 6]),.V 8 (.un .not (.t 7))] [0,1,8] []) (.cond (.t 8) (.seq (.reg false [.W 4 (.asg (.c (.nils 4))),.V 5 (.asg (.c (.int .i64 1)))] [4,5] [4]) .ret) .skip)) (.seq (.seq (.reg false [.V 9 (.mv (.t 0)),.V 10 (.mv (.t 1)),.V 11 (.call (.c (.fn 695 [])) [.t 9,.t 10]),.V 12 (.un .not (.t 11))] [0,1,12] []) (.cond (.t 12) (.seq (.reg false [.W 4 (.asg (.c (.nils 4))),.V 5 (.asg (.c (.int .i64 3)))] [4,5] [4]) .ret) .skip)) (.seq (.reg true [.V 13 (.mv (.t 0)),.V 14 (.mv (.t 1)),.V 15 (.mv (.t 1)),.V 16 (.call (.c (.fn 524 [])) [.t 15]),.V 17 (.bin .add (.c (.str [117,110,100,111,32])) (.t 16)),.V 18 (.mv (.t 0)),.V 19 (.mv (.t 0)),.V 20 (.mv (.t 1)),.V 21 (.bin .sub (.t 20) (.c (.int .i64 1))),.V 22 (.ia 4 (.t 19) (.t 21)),.V 23 (.fa 1 (.t 22)),.V 24 (.ld none (.t 23)),.V 25 (.call (.c (.fn 698 [])) [.t 18,.t 24]),.V 26 (.call (.c (.fn 694 [])) [.t 13,.t 14,.t 17,.t 25]),.V 27 (.ext (.t 26) 0),.V 28 (.ext (.t 26) 1),.W 4 (.asg (.t 27)),.V 5 (.asg (.t 28))] [4,5] [4]) .ret)))) }
noncomputable def impl_UndoVersion_D : List (Nat × Callee) := [(524,impl_Decimal_c),(694,impl_commit_c),(695,impl_isVersion_c),(696,impl_ValidHistory_c),(698,impl_stateOf_c)]
def impl_UndoVersion_H : List (Nat × ET) := [(4,T_Version),(6,T_Version),(9,T_Version),(13,T_Version),(18,T_Version),(19,T_Version),(25,T_Setting),(27,T_Version)]
noncomputable def impl_UndoVersion_c : Callee := mkCallee impl_UndoVersion_D impl_UndoVersion_H impl_UndoVersion_ir [.d (.one (.sl T_Version)),.d (.one (.int .i64))] [.d (.one (.sl T_Version)),.d (.one (.int .i64))] []
noncomputable def impl_UndoVersion (a0 : List T_Version.ty) (a1 : Int) : Option (List T_Version.ty × Int) := impl_UndoVersion_c.f (a0,a1,())
theorem impl_UndoVersion_eq (a0 : List T_Version.ty) (a1 : Int) : impl_UndoVersion a0 a1 =
 (impl_ValidHistory a0).bind fun x1 =>
  if (!x1) then
   some ([],1)
  else
   (impl_isVersion a0 a1).bind fun x2 =>
    if (!x2) then
     some ([],3)
    else
     (impl_Decimal a1).bind fun x3 =>
      if decide ([117,110,100,111,32].length + x3.length ≤ strMax) then
       if decide (0 ≤ IntKind.i64.wrap (a1 - 1)) then
        (a0[(IntKind.i64.wrap (a1 - 1)).toNat]?).bind fun x4 =>
         (impl_stateOf a0 x4.2.1).bind fun x5 =>
          (impl_commit a0 a1 ([117,110,100,111,32] ++ x3) x5).bind fun x6 =>
           some (x6.1,x6.2)
       else
        none
      else
       none :=
 (mk_f _ _ _ _ _ _ _ 4000).trans (by kernel_rfl)
def impl_ancestors_k0 : C :=
 .seq (.seq (.reg false [.V 14 (.mv (.t 6)),.V 15 (.bin .gtr (.t 14) (.c (.int .i64 0)))] [0,5,6,15] [5]) (.cond (.t 15) .skip (.exit 0))) (.seq (.block 1 (.reg false [.V 22 (.mv (.t 5)),.V 23 (.mv (.t 6)),.V 24 (.bsl 1 (.int .i64 0) 1 [(0,.t 23)]),.W 25 (.app 1 8 (.t 22) (.t 24)),.W 5 (.asg (.t 25))] [0,5,6] [5])) (.reg false [.V 16 (.mv (.t 0)),.V 17 (.mv (.t 6)),.V 18 (.bin .sub (.t 17) (.c (.int .i64 1))),.V 19 (.ia 4 (.t 16) (.t 18)),.V 20 (.fa 1 (.t 19)),.V 21 (.ld none (.t 20)),.V 6 (.asg (.t 21))] [0,5,6] [5]))
def impl_ancestors_k1 : C :=
 .norm [0,5,6] [5] impl_ancestors_k0
def impl_ancestors_k2 : C :=
 .seq (.reg false [.V 26 (.mv (.t 5)),.W 4 (.asg (.t 26))] [4] [4,5]) .ret
def impl_ancestors_ir : Fn := { np := 2,io := [],res := [.t 4],own := [true],body :=
 (.seq (.reg false [.W 4 (.asg (.c (.nils 1)))] [0,1] []) (.seq (.reg false [.V 7 (.bsl 1 (.int .i64 0) 0 []),.W 5 (.asg (.t 7))] [0,1,5] [5]) (.seq (.seq (.reg false [.V 8 (.mv (.t 0)),.V 9 (.mv (.t 1)),.V 10 (.bin .sub (.t 9) (.c (.int .i64 1))),.V 11 (.ia 4 (.t 8) (.t 10)),.V 12 (.fa 1 (.t 11)),.V 13 (.ld none (.t 12)),.V 6 (.asg (.t 13))] [0,5,6] [5]) (.block 0 (.loop impl_ancestors_k1))) impl_ancestors_k2))) }
noncomputable def impl_ancestors_D : List (Nat × Callee) := []
def impl_ancestors_H : List (Nat × ET) := [(4,(.one (.int .i64))),(5,(.one (.int .i64))),(7,(.one (.int .i64))),(8,T_Version),(16,T_Version),(22,(.one (.int .i64))),(24,(.one (.int .i64))),(25,(.one (.int .i64))),(26,(.one (.int .i64)))]
noncomputable def impl_ancestors_c : Callee := mkCallee impl_ancestors_D impl_ancestors_H impl_ancestors_ir [.d (.one (.sl T_Version)),.d (.one (.int .i64))] [.tok (.one (.int .i64))] []
noncomputable def impl_ancestors (a0 : List T_Version.ty) (a1 : Int) : Option (List Int) := impl_ancestors_c.f (a0,a1,())
noncomputable def impl_ancestors_p0  (v0 : List T_Version.ty) (v6 : Int) (r5 : List Int) : Option (List Int) :=
 goL impl_ancestors_D impl_ancestors_H (vleave impl_ancestors_ir [.d (.one (.sl T_Version)),.d (.one (.int .i64))] [.tok (.one (.int .i64))] [] []) [.c impl_ancestors_k0,.l impl_ancestors_k1,.e 0,.c impl_ancestors_k2]
  ⟨[(0,.sl T_Version v0),(5,.view 5 0 r5.length),(6,.int .i64 v6)],[(5,some (.sl (.one (.int .i64)) r5))]⟩
theorem impl_ancestors_eq (a0 : List T_Version.ty) (a1 : Int) : impl_ancestors a0 a1 =
 if decide (0 ≤ IntKind.i64.wrap (a1 - 1)) then
  (a0[(IntKind.i64.wrap (a1 - 1)).toNat]?).bind fun x1 =>
   impl_ancestors_p0 a0 x1.2.1 []
 else
  none :=
 (mk_f _ _ _ _ _ _ _ 4000).trans (by kernel_rfl)
theorem impl_ancestors_p0_eq  (v0 : List T_Version.ty) (v6 : Int) (r5 : List Int) : impl_ancestors_p0 v0 v6 r5 =
 if decide (v6 > 0) then
  if decide (r5.length + 1 < lim) then
   if decide (0 ≤ IntKind.i64.wrap (v6 - 1)) then
    (v0[(IntKind.i64.wrap (v6 - 1)).toNat]?).bind fun x1 =>
     impl_ancestors_p0 v0 x1.2.1 ((r5.take r5.length) ++ [v6])
   else
    none
  else
   none
 else
  some (r5.take r5.length) :=
 (goL_dn _ _ _ 4000 _ _).trans (by kernel_rfl)
def impl_AncestorsOf_ir : Fn := { np := 2,io := [],res := [.t 4,.t 5],own := [true,false],body :=
 (.seq (.reg false [.W 4 (.asg (.c (.nils 1))),.V 5 (.asg (.c (.int .i64 0)))] [0,1] []) (.seq (.seq (.reg false [.V 6 (.mv (.t 0)),.V 7 (.call (.c (.fn 696 [])) [.t 6]),.V 8 (.un .not (.t 7))] [0,1,8] []) (.cond (.t 8) (.seq (.reg false [.W 4 (.asg (.c (.nils 1))),.V 5 (.asg (.c (.int .i64 1)))] [4,5] [4]) .ret) .skip)) (.seq (.seq (.reg false [.V 9 (.mv (.t 0)),.V 10 (.mv (.t 1)),.V 11 (.call (.c (.fn 695 [])) [.t 9,.t 10]),.V 12 (.un .not (.t 11))] [0,1,12] []) (.cond (.t 12) (.seq (.reg false [.W 4 (.asg (.c (.nils 1))),.V 5 (.asg (.c (.int .i64 3)))] [4,5] [4]) .ret) .skip)) (.seq (.reg false [.V 13 (.mv (.t 0)),.V 14 (.mv (.t 1)),.V 15 (.call (.c (.fn 699 [])) [.t 13,.t 14]),.W 4 (.asg (.t 15)),.V 5 (.asg (.c (.int .i64 0)))] [4,5] [4]) .ret)))) }
noncomputable def impl_AncestorsOf_D : List (Nat × Callee) := [(695,impl_isVersion_c),(696,impl_ValidHistory_c),(699,impl_ancestors_c)]
def impl_AncestorsOf_H : List (Nat × ET) := [(4,(.one (.int .i64))),(6,T_Version),(9,T_Version),(13,T_Version),(15,(.one (.int .i64)))]
noncomputable def impl_AncestorsOf_c : Callee := mkCallee impl_AncestorsOf_D impl_AncestorsOf_H impl_AncestorsOf_ir [.d (.one (.sl T_Version)),.d (.one (.int .i64))] [.tok (.one (.int .i64)),.d (.one (.int .i64))] []
noncomputable def impl_AncestorsOf (a0 : List T_Version.ty) (a1 : Int) : Option (List Int × Int) := impl_AncestorsOf_c.f (a0,a1,())
theorem impl_AncestorsOf_eq (a0 : List T_Version.ty) (a1 : Int) : impl_AncestorsOf a0 a1 =
 (impl_ValidHistory a0).bind fun x1 =>
  if (!x1) then
   some ([],1)
  else
   (impl_isVersion a0 a1).bind fun x2 =>
    if (!x2) then
     some ([],3)
    else
     (impl_ancestors a0 a1).bind fun x3 =>
      some ((x3.take x3.length),0) :=
 (mk_f _ _ _ _ _ _ _ 4000).trans (by kernel_rfl)
def impl_HeadsOf_1_ir : Fn := { np := 2,io := [],res := [.t 3],own := [false],body :=
 (.seq (.reg false [.W 2 (.box 4 (.t 0)),.V 3 (.asg (.c (.bool false)))] [1,2] [2,3003]) (.seq (.reg false [.V 4 (.fa 1 (.t 2)),.V 5 (.ld none (.t 4)),.V 6 (.fa 0 (.t 1)),.V 7 (.ld none (.t 6)),.V 8 (.bin .eql (.t 5) (.t 7)),.V 3 (.asg (.t 8))] [3] []) .ret)) }
noncomputable def impl_HeadsOf_1_D : List (Nat × Callee) := []
def impl_HeadsOf_1_H : List (Nat × ET) := []
noncomputable def impl_HeadsOf_1_c : Callee := mkCallee impl_HeadsOf_1_D impl_HeadsOf_1_H impl_HeadsOf_1_ir [.d T_Version,.p T_Version] [.d (.one .bool)] []
noncomputable def impl_HeadsOf_1 (a0 : T_Version.ty) (a1 : T_Version.ty) : Option (Bool) := impl_HeadsOf_1_c.f (a0,a1,())
theorem impl_HeadsOf_1_eq (a0 : T_Version.ty) (a1 : T_Version.ty) : impl_HeadsOf_1 a0 a1 =
 some (a0.2.1 == a1.1) :=
 (mk_f _ _ _ _ _ _ _ 4000).trans (by kernel_rfl)
def slices_IndexFunc___impl_Version_impl_Version__impl_HeadsOf_1_k0 : C :=
 .seq (.reg false [.V 9 (.bin .lss (.t 8) (.t 7))] [0,1,7,8,9] []) (.seq (.cond (.t 9) .skip (.exit 0)) (.seq (.block 1 (.seq (.reg false [.V 10 (.mv (.t 8)),.V 5 (.asg (.t 10))] [0,1,5,7,8] []) (.seq (.reg false [.V 11 (.mv (.t 1)),.V 12 (.mv (.t 0)),.V 13 (.mv (.t 5)),.V 14 (.ia 4 (.t 12) (.t 13)),.V 15 (.ld (some 4) (.t 14)),.V 16 (.call (.t 11) [.t 15])] [0,1,5,7,8,16] []) (.cond (.t 16) (.seq (.reg false [.V 17 (.mv (.t 5)),.V 4 (.asg (.t 17))] [4] []) .ret) .skip)))) (.reg false [.V 18 (.bin .add (.t 8) (.c (.int .i64 1))),.V 8 (.mv (.t 18))] [0,1,7,8] [])))
def slices_IndexFunc___impl_Version_impl_Version__impl_HeadsOf_1_k1 : C :=
 .norm [0,1,7,8] [] slices_IndexFunc___impl_Version_impl_Version__impl_HeadsOf_1_k0
def slices_IndexFunc___impl_Version_impl_Version__impl_HeadsOf_1_k2 : C :=
 .seq (.reg false [.V 4 (.asg (.c (.int .i64 (-1))))] [4] []) .ret
def slices_IndexFunc___impl_Version_impl_Version__impl_HeadsOf_1_ir : Fn := { np := 2,io := [],res := [.t 4],own := [false],body :=
 (.seq (.reg false [.V 4 (.asg (.c (.int .i64 0)))] [0,1] []) (.seq (.seq (.reg false [.V 6 (.mv (.t 0)),.V 7 (.len (.t 6)),.V 8 (.mv (.c (.int .i64 0)))] [0,1,7,8] []) (.block 0 (.loop slices_IndexFunc___impl_Version_impl_Version__impl_HeadsOf_1_k1))) slices_IndexFunc___impl_Version_impl_Version__impl_HeadsOf_1_k2)) }
noncomputable def slices_IndexFunc___impl_Version_impl_Version__impl_HeadsOf_1_D : List (Nat × Callee) := [(700,impl_HeadsOf_1_c)]
def slices_IndexFunc___impl_Version_impl_Version__impl_HeadsOf_1_H : List (Nat × ET) := [(6,T_Version),(12,T_Version)]
noncomputable def slices_IndexFunc___impl_Version_impl_Version__impl_HeadsOf_1_c : Callee := mkCallee slices_IndexFunc___impl_Version_impl_Version__impl_HeadsOf_1_D slices_IndexFunc___impl_Version_impl_Version__impl_HeadsOf_1_H slices_IndexFunc___impl_Version_impl_Version__impl_HeadsOf_1_ir [.d (.one (.sl T_Version)),.fn 700 [T_Version]] [.d (.one (.int .i64))] []
noncomputable def slices_IndexFunc___impl_Version_impl_Version__impl_HeadsOf_1 (a0 : List T_Version.ty) (a1 : T_Version.ty × Unit) : Option (Int) := slices_IndexFunc___impl_Version_impl_Version__impl_HeadsOf_1_c.f (a0,a1,())
noncomputable def slices_IndexFunc___impl_Version_impl_Version__impl_HeadsOf_1_p0  (v0 : List T_Version.ty) (v1_0_0 : Int) (v1_0_1 : Int) (v1_0_2 : List UInt8) (v1_0_3 : List T_Setting.ty) (v7 : Int) (v8 : Int) : Option (Int) :=
 goL slices_IndexFunc___impl_Version_impl_Version__impl_HeadsOf_1_D slices_IndexFunc___impl_Version_impl_Version__impl_HeadsOf_1_H (vleave slices_IndexFunc___impl_Version_impl_Version__impl_HeadsOf_1_ir [.d (.one (.sl T_Version)),.fn 700 [T_Version]] [.d (.one (.int .i64))] [] []) [.c slices_IndexFunc___impl_Version_impl_Version__impl_HeadsOf_1_k0,.l slices_IndexFunc___impl_Version_impl_Version__impl_HeadsOf_1_k1,.e 0,.c slices_IndexFunc___impl_Version_impl_Version__impl_HeadsOf_1_k2]
  ⟨[(0,.sl T_Version v0),(1,.fn 700 [.ptr [.int .i64 v1_0_0,.int .i64 v1_0_1,.str v1_0_2,.sl T_Setting v1_0_3] 0]),(7,.int .i64 v7),(8,.int .i64 v8)],[]⟩
theorem slices_IndexFunc___impl_Version_impl_Version__impl_HeadsOf_1_eq (a0 : List T_Version.ty) (a1 : T_Version.ty × Unit) : slices_IndexFunc___impl_Version_impl_Version__impl_HeadsOf_1 a0 a1 =
 slices_IndexFunc___impl_Version_impl_Version__impl_HeadsOf_1_p0 a0 a1.1.1 a1.1.2.1 a1.1.2.2.1 a1.1.2.2.2.1 (a0.length : Int) 0 :=
 (mk_f _ _ _ _ _ _ _ 4000).trans (by kernel_rfl)
theorem slices_IndexFunc___impl_Version_impl_Version__impl_HeadsOf_1_p0_eq  (v0 : List T_Version.ty) (v1_0_0 : Int) (v1_0_1 : Int) (v1_0_2 : List UInt8) (v1_0_3 : List T_Setting.ty) (v7 : Int) (v8 : Int) : slices_IndexFunc___impl_Version_impl_Version__impl_HeadsOf_1_p0 v0 v1_0_0 v1_0_1 v1_0_2 v1_0_3 v7 v8 =
 if decide (v8 < v7) then
  if decide (0 ≤ v8) then
   (v0[v8.toNat]?).bind fun x1 =>
    (impl_HeadsOf_1 x1 (v1_0_0,v1_0_1,v1_0_2,v1_0_3,())).bind fun x2 =>
     if x2 then
      some v8
     else
      slices_IndexFunc___impl_Version_impl_Version__impl_HeadsOf_1_p0 v0 v1_0_0 v1_0_1 v1_0_2 v1_0_3 v7 (IntKind.i64.wrap (v8 + 1))
  else
   none
 else
  some (-1) :=
 (goL_dn _ _ _ 4000 _ _).trans (by kernel_rfl)
def slices_ContainsFunc___impl_Version_impl_Version__impl_HeadsOf_1_ir : Fn := { np := 2,io := [],res := [.t 4],own := [false],body :=
 (.seq (.reg false [.V 4 (.asg (.c (.bool false)))] [0,1] []) (.seq (.reg false [.V 5 (.mv (.t 0)),.V 6 (.mv (.t 1)),.V 7 (.call (.c (.fn 1267 [])) [.t 5,.t 6]),.V 8 (.bin .geq (.t 7) (.c (.int .i64 0))),.V 4 (.asg (.t 8))] [4] []) .ret)) }
noncomputable def slices_ContainsFunc___impl_Version_impl_Version__impl_HeadsOf_1_D : List (Nat × Callee) := [(700,impl_HeadsOf_1_c),(1267,slices_IndexFunc___impl_Version_impl_Version__impl_HeadsOf_1_c)]
def slices_ContainsFunc___impl_Version_impl_Version__impl_HeadsOf_1_H : List (Nat × ET) := [(5,T_Version)]
noncomputable def slices_ContainsFunc___impl_Version_impl_Version__impl_HeadsOf_1_c : Callee := mkCallee slices_ContainsFunc___impl_Version_impl_Version__impl_HeadsOf_1_D slices_ContainsFunc___impl_Version_impl_Version__impl_HeadsOf_1_H slices_ContainsFunc___impl_Version_impl_Version__impl_HeadsOf_1_ir [.d (.one (.sl T_Version)),.fn 700 [T_Version]] [.d (.one .bool)] []
noncomputable def slices_ContainsFunc___impl_Version_impl_Version__impl_HeadsOf_1 (a0 : List T_Version.ty) (a1 : T_Version.ty × Unit) : Option (Bool) := slices_ContainsFunc___impl_Version_impl_Version__impl_HeadsOf_1_c.f (a0,a1,())
theorem slices_ContainsFunc___impl_Version_impl_Version__impl_HeadsOf_1_eq (a0 : List T_Version.ty) (a1 : T_Version.ty × Unit) : slices_ContainsFunc___impl_Version_impl_Version__impl_HeadsOf_1 a0 a1 =
 (slices_IndexFunc___impl_Version_impl_Version__impl_HeadsOf_1 a0 ((a1.1.1,a1.1.2.1,a1.1.2.2.1,a1.1.2.2.2.1,()),())).bind fun x1 =>
  some (decide (x1 ≥ 0)) :=
 (mk_f _ _ _ _ _ _ _ 4000).trans (by kernel_rfl)
def impl_HeadsOf_k0 : C :=
 .seq (.reg false [.V 14 (.bin .lss (.t 13) (.t 12))] [0,4,11,12,13,14] [4]) (.seq (.cond (.t 14) .skip (.exit 0)) (.seq (.block 1 (.seq (.reg false [.V 15 (.ia 4 (.t 11) (.t 13)),.V 16 (.ld (some 4) (.t 15)),.W 6 (.alloc 4 (.agg [.int .i64 0,.int .i64 0,.str [],.nils 2])),⟨none,true,.sto 4 (.t 6) (.t 16),none,false,[]⟩] [0,4,6,11,12,13] [4,6,7003]) (.seq (.reg false [.V 17 (.mv (.t 0)),.V 18 (.mkf 700 [.t 6]),.V 19 (.call (.c (.fn 1268 [])) [.t 17,.t 18]),.V 20 (.un .not (.t 19))] [0,4,6,11,12,13,20] [4,6,7003]) (.cond (.t 20) (.reg false [.V 21 (.mv (.t 4)),.V 22 (.fa 0 (.t 6)),.V 23 (.ld none (.t 22)),.V 24 (.bsl 1 (.int .i64 0) 1 [(0,.t 23)]),.W 25 (.app 1 8 (.t 21) (.t 24)),.W 4 (.asg (.t 25))] [0,4,11,12,13] [4]) .skip)))) (.reg false [.V 26 (.bin .add (.t 13) (.c (.int .i64 1))),.V 13 (.mv (.t 26))] [0,4,11,12,13] [4])))
def impl_HeadsOf_k1 : C :=
 .norm [0,4,11,12,13] [4] impl_HeadsOf_k0
def impl_HeadsOf_k2 : C :=
 .seq (.reg false [.V 27 (.mv (.t 4)),.W 2 (.asg (.t 27)),.V 3 (.asg (.c (.int .i64 0)))] [2,3] [2,4]) .ret
def impl_HeadsOf_ir : Fn := { np := 1,io := [],res := [.t 2,.t 3],own := [true,false],body :=
 (.seq (.reg false [.W 2 (.asg (.c (.nils 1))),.V 3 (.asg (.c (.int .i64 0)))] [0] []) (.seq (.seq (.reg false [.V 7 (.mv (.t 0)),.V 8 (.call (.c (.fn 696 [])) [.t 7]),.V 9 (.un .not (.t 8))] [0,9] []) (.cond (.t 9) (.seq (.reg false [.W 2 (.asg (.c (.nils 1))),.V 3 (.asg (.c (.int .i64 1)))] [2,3] [2,4]) .ret) .skip)) (.seq (.reg false [.V 10 (.bsl 1 (.int .i64 0) 0 []),.W 4 (.asg (.t 10))] [0,4] [4]) (.seq (.seq (.reg false [.V 11 (.mv (.t 0)),.V 12 (.len (.t 11)),.V 13 (.mv (.c (.int .i64 0)))] [0,4,11,12,13] [4]) (.block 0 (.loop impl_HeadsOf_k1))) impl_HeadsOf_k2)))) }
noncomputable def impl_HeadsOf_D : List (Nat × Callee) := [(696,impl_ValidHistory_c),(1268,slices_ContainsFunc___impl_Version_impl_Version__impl_HeadsOf_1_c)]
def impl_HeadsOf_H : List (Nat × ET) := [(2,(.one (.int .i64))),(4,(.one (.int .i64))),(7,T_Version),(10,(.one (.int .i64))),(11,T_Version),(17,T_Version),(21,(.one (.int .i64))),(24,(.one (.int .i64))),(25,(.one (.int .i64))),(27,(.one (.int .i64)))]
noncomputable def impl_HeadsOf_c : Callee := mkCallee impl_HeadsOf_D impl_HeadsOf_H impl_HeadsOf_ir [.d (.one (.sl T_Version))] [.tok (.one (.int .i64)),.d (.one (.int .i64))] []
noncomputable def impl_HeadsOf (a0 : List T_Version.ty) : Option (List Int × Int) := impl_HeadsOf_c.f (a0,())
noncomputable def impl_HeadsOf_p0  (v0 : List T_Version.ty) (v11 : List T_Version.ty) (v12 : Int) (v13 : Int) (r4 : List Int) : Option (List Int × Int) :=
 goL impl_HeadsOf_D impl_HeadsOf_H (vleave impl_HeadsOf_ir [.d (.one (.sl T_Version))] [.tok (.one (.int .i64)),.d (.one (.int .i64))] [] []) [.c impl_HeadsOf_k0,.l impl_HeadsOf_k1,.e 0,.c impl_HeadsOf_k2]
  ⟨[(0,.sl T_Version v0),(4,.view 4 0 r4.length),(11,.sl T_Version v11),(12,.int .i64 v12),(13,.int .i64 v13)],[(4,some (.sl (.one (.int .i64)) r4))]⟩
theorem impl_HeadsOf_eq (a0 : List T_Version.ty) : impl_HeadsOf a0 =
 (impl_ValidHistory a0).bind fun x1 =>
  if (!x1) then
   some ([],1)
  else
   impl_HeadsOf_p0 a0 a0 (a0.length : Int) 0 [] :=
 (mk_f _ _ _ _ _ _ _ 4000).trans (by kernel_rfl)
theorem impl_HeadsOf_p0_eq  (v0 : List T_Version.ty) (v11 : List T_Version.ty) (v12 : Int) (v13 : Int) (r4 : List Int) : impl_HeadsOf_p0 v0 v11 v12 v13 r4 =
 if decide (v13 < v12) then
  if decide (0 ≤ v13) then
   (v11[v13.toNat]?).bind fun x1 =>
    (slices_ContainsFunc___impl_Version_impl_Version__impl_HeadsOf_1 v0 (x1,())).bind fun x2 =>
     if (!x2) then
      if decide (r4.length + 1 < lim) then
       impl_HeadsOf_p0 v0 v11 v12 (IntKind.i64.wrap (v13 + 1)) ((r4.take r4.length) ++ [x1.1])
      else
       none
     else
      impl_HeadsOf_p0 v0 v11 v12 (IntKind.i64.wrap (v13 + 1)) r4
  else
   none
 else
  some ((r4.take r4.length),0) :=
 (goL_dn _ _ _ 4000 _ _).trans (by kernel_rfl)
def slices_Index___int64_int64__k0 : C :=
 .seq (.reg false [.V 9 (.bin .lss (.t 8) (.t 7))] [0,1,7,8,9] []) (.seq (.cond (.t 9) .skip (.exit 0)) (.seq (.block 1 (.seq (.reg false [.V 10 (.mv (.t 8)),.V 5 (.asg (.t 10))] [0,1,5,7,8] []) (.seq (.reg false [.V 11 (.mv (.t 1)),.V 12 (.mv (.t 0)),.V 13 (.mv (.t 5)),.V 14 (.ia 1 (.t 12) (.t 13)),.V 15 (.ld none (.t 14)),.V 16 (.bin .eql (.t 11) (.t 15))] [0,1,5,7,8,16] []) (.cond (.t 16) (.seq (.reg false [.V 17 (.mv (.t 5)),.V 4 (.asg (.t 17))] [4] []) .ret) .skip)))) (.reg false [.V 18 (.bin .add (.t 8) (.c (.int .i64 1))),.V 8 (.mv (.t 18))] [0,1,7,8] [])))
def slices_Index___int64_int64__k1 : C :=
 .norm [0,1,7,8] [] slices_Index___int64_int64__k0
def slices_Index___int64_int64__k2 : C :=
 .seq (.reg false [.V 4 (.asg (.c (.int .i64 (-1))))] [4] []) .ret
def slices_Index___int64_int64__ir : Fn := { np := 2,io := [],res := [.t 4],own := [false],body :=
 (.seq (.reg false [.V 4 (.asg (.c (.int .i64 0)))] [0,1] []) (.seq (.seq (.reg false [.V 6 (.mv (.t 0)),.V 7 (.len (.t 6)),.V 8 (.mv (.c (.int .i64 0)))] [0,1,7,8] []) (.block 0 (.loop slices_Index___int64_int64__k1))) slices_Index___int64_int64__k2)) }
noncomputable def slices_Index___int64_int64__D : List (Nat × Callee) := []
def slices_Index___int64_int64__H : List (Nat × ET) := [(6,(.one (.int .i64))),(12,(.one (.int .i64)))]
noncomputable def slices_Index___int64_int64__c : Callee := mkCallee slices_Index___int64_int64__D slices_Index___int64_int64__H slices_Index___int64_int64__ir [.d (.one (.sl (.one (.int .i64)))),.d (.one (.int .i64))] [.d (.one (.int .i64))] []
noncomputable def slices_Index___int64_int64_ (a0 : List Int) (a1 : Int) : Option (Int) := slices_Index___int64_int64__c.f (a0,a1,())
noncomputable def slices_Index___int64_int64__p0  (v0 : List Int) (v1 : Int) (v7 : Int) (v8 : Int) : Option (Int) :=
 goL slices_Index___int64_int64__D slices_Index___int64_int64__H (vleave slices_Index___int64_int64__ir [.d (.one (.sl (.one (.int .i64)))),.d (.one (.int .i64))] [.d (.one (.int .i64))] [] []) [.c slices_Index___int64_int64__k0,.l slices_Index___int64_int64__k1,.e 0,.c slices_Index___int64_int64__k2]
  ⟨[(0,.sl (.one (.int .i64)) v0),(1,.int .i64 v1),(7,.int .i64 v7),(8,.int .i64 v8)],[]⟩
theorem slices_Index___int64_int64__eq (a0 : List Int) (a1 : Int) : slices_Index___int64_int64_ a0 a1 =
 slices_Index___int64_int64__p0 a0 a1 (a0.length : Int) 0 :=
 (mk_f _ _ _ _ _ _ _ 4000).trans (by kernel_rfl)
theorem slices_Index___int64_int64__p0_eq  (v0 : List Int) (v1 : Int) (v7 : Int) (v8 : Int) : slices_Index___int64_int64__p0 v0 v1 v7 v8 =
 if decide (v8 < v7) then
  if decide (0 ≤ v8) then
   (v0[v8.toNat]?).bind fun x1 =>
    if (v1 == x1) then
     some v8
    else
     slices_Index___int64_int64__p0 v0 v1 v7 (IntKind.i64.wrap (v8 + 1))
  else
   none
 else
  some (-1) :=
 (goL_dn _ _ _ 4000 _ _).trans (by kernel_rfl)
def slices_Contains___int64_int64__ir : Fn := { np := 2,io := [],res := [.t 4],own := [false],body :=
 (.seq (.reg false [.V 4 (.asg (.c (.bool false)))] [0,1] []) (.seq (.reg false [.V 5 (.mv (.t 0)),.V 6 (.mv (.t 1)),.V 7 (.call (.c (.fn 1043 [])) [.t 5,.t 6]),.V 8 (.bin .geq (.t 7) (.c (.int .i64 0))),.V 4 (.asg (.t 8))] [4] []) .ret)) }
noncomputable def slices_Contains___int64_int64__D : List (Nat × Callee) := [(1043,slices_Index___int64_int64__c)]
def slices_Contains___int64_int64__H : List (Nat × ET) := [(5,(.one (.int .i64)))]
noncomputable def slices_Contains___int64_int64__c : Callee := mkCallee slices_Contains___int64_int64__D slices_Contains___int64_int64__H slices_Contains___int64_int64__ir [.d (.one (.sl (.one (.int .i64)))),.d (.one (.int .i64))] [.d (.one .bool)] []
noncomputable def slices_Contains___int64_int64_ (a0 : List Int) (a1 : Int) : Option (Bool) := slices_Contains___int64_int64__c.f (a0,a1,())
theorem slices_Contains___int64_int64__eq (a0 : List Int) (a1 : Int) : slices_Contains___int64_int64_ a0 a1 =
 (slices_Index___int64_int64_ a0 a1).bind fun x1 =>
  some (decide (x1 ≥ 0)) :=
 (mk_f _ _ _ _ _ _ _ 4000).trans (by kernel_rfl)
def impl_common_k0 : C :=
 .seq (.reg false [.V 24 (.bin .lss (.t 23) (.t 22))] [7,21,22,23,24] [7]) (.seq (.cond (.t 24) .skip (.exit 0)) (.seq (.block 1 (.seq (.reg false [.V 25 (.ia 1 (.t 21) (.t 23)),.V 26 (.ld none (.t 25)),.V 9 (.asg (.t 26))] [7,9,21,22,23] [7]) (.seq (.reg false [.V 27 (.mv (.t 7)),.V 28 (.mv (.t 9)),.V 29 (.call (.c (.fn 932 [])) [.t 27,.t 28])] [7,9,21,22,23,29] [7]) (.cond (.t 29) (.seq (.reg false [.V 30 (.mv (.t 9)),.V 6 (.asg (.t 30))] [6] []) .ret) .skip)))) (.reg false [.V 31 (.bin .add (.t 23) (.c (.int .i64 1))),.V 23 (.mv (.t 31))] [7,21,22,23] [7])))
def impl_common_k1 : C :=
 .norm [7,21,22,23] [7] impl_common_k0
def impl_common_k2 : C :=
 .seq (.reg false [.V 6 (.asg (.c (.int .i64 0)))] [6] []) .ret
def impl_common_ir : Fn := { np := 3,io := [],res := [.t 6],own := [false],body :=
 (.seq (.reg false [.V 6 (.asg (.c (.int .i64 0)))] [0,1,2] []) (.seq (.reg false [.V 10 (.mv (.t 0)),.V 11 (.mv (.t 2)),.V 12 (.call (.c (.fn 699 [])) [.t 10,.t 11]),.V 13 (.mv (.t 2)),.V 14 (.bsl 1 (.int .i64 0) 1 [(0,.t 13)]),.W 15 (.app 1 8 (.t 12) (.t 14)),.W 7 (.asg (.t 15))] [0,1,7] [7]) (.seq (.seq (.reg false [.V 16 (.mv (.t 1)),.V 17 (.bsl 1 (.int .i64 0) 1 [(0,.t 16)]),.V 18 (.mv (.t 0)),.V 19 (.mv (.t 1)),.V 20 (.call (.c (.fn 699 [])) [.t 18,.t 19]),.W 21 (.app 1 8 (.t 17) (.t 20)),.V 22 (.len (.t 21)),.V 23 (.mv (.c (.int .i64 0)))] [7,21,22,23] [7]) (.block 0 (.loop impl_common_k1))) impl_common_k2))) }
noncomputable def impl_common_D : List (Nat × Callee) := [(699,impl_ancestors_c),(932,slices_Contains___int64_int64__c)]
def impl_common_H : List (Nat × ET) := [(7,(.one (.int .i64))),(10,T_Version),(12,(.one (.int .i64))),(14,(.one (.int .i64))),(15,(.one (.int .i64))),(17,(.one (.int .i64))),(18,T_Version),(20,(.one (.int .i64))),(21,(.one (.int .i64))),(27,(.one (.int .i64)))]
noncomputable def impl_common_c : Callee := mkCallee impl_common_D impl_common_H impl_common_ir [.d (.one (.sl T_Version)),.d (.one (.int .i64)),.d (.one (.int .i64))] [.d (.one (.int .i64))] []
noncomputable def impl_common (a0 : List T_Version.ty) (a1 : Int) (a2 : Int) : Option (Int) := impl_common_c.f (a0,a1,a2,())
noncomputable def impl_common_p0  (v21 : List Int) (v22 : Int) (v23 : Int) (r7 : List Int) : Option (Int) :=
 goL impl_common_D impl_common_H (vleave impl_common_ir [.d (.one (.sl T_Version)),.d (.one (.int .i64)),.d (.one (.int .i64))] [.d (.one (.int .i64))] [] []) [.c impl_common_k0,.l impl_common_k1,.e 0,.c impl_common_k2]
  ⟨[(7,.view 7 0 r7.length),(21,.sl (.one (.int .i64)) v21),(22,.int .i64 v22),(23,.int .i64 v23)],[(7,some (.sl (.one (.int .i64)) r7))]⟩
theorem impl_common_eq (a0 : List T_Version.ty) (a1 : Int) (a2 : Int) : impl_common a0 a1 a2 =
 (impl_ancestors a0 a2).bind fun x1 =>
  if decide (x1.length + 1 < lim) then
   (impl_ancestors a0 a1).bind fun x2 =>
    if decide (1 + x2.length < lim) then
     impl_common_p0 ([a1] ++ x2) (([a1] ++ x2).length : Int) 0 (x1 ++ [a2])
    else
     none
  else
   none :=
 (mk_f _ _ _ _ _ _ _ 4000).trans (by kernel_rfl)
theorem impl_common_p0_eq  (v21 : List Int) (v22 : Int) (v23 : Int) (r7 : List Int) : impl_common_p0 v21 v22 v23 r7 =
 if decide (v23 < v22) then
  if decide (0 ≤ v23) then
   (v21[v23.toNat]?).bind fun x1 =>
    (slices_Contains___int64_int64_ (r7.take r7.length) x1).bind fun x2 =>
     if x2 then
      some x1
     else
      impl_common_p0 v21 v22 (IntKind.i64.wrap (v23 + 1)) r7
  else
   none
 else
  some 0 :=
 (goL_dn _ _ _ 4000 _ _).trans (by kernel_rfl)
def impl_CommonAncestor_k0 : C :=
 .seq (.reg false [.V 21 (.mv (.t 0)),.V 22 (.mv (.t 1)),.V 23 (.mv (.t 2)),.V 24 (.call (.c (.fn 702 [])) [.t 21,.t 22,.t 23]),.V 6 (.asg (.t 24)),.V 7 (.asg (.c (.int .i64 0)))] [6,7] []) .ret
def impl_CommonAncestor_ir : Fn := { np := 3,io := [],res := [.t 6,.t 7],own := [false,false],body :=
 (.seq (.reg false [.V 6 (.asg (.c (.int .i64 0))),.V 7 (.asg (.c (.int .i64 0)))] [0,1,2] []) (.seq (.seq (.reg false [.V 8 (.mv (.t 0)),.V 9 (.call (.c (.fn 696 [])) [.t 8]),.V 10 (.un .not (.t 9))] [0,1,2,10] []) (.cond (.t 10) (.seq (.reg false [.V 6 (.asg (.c (.int .i64 0))),.V 7 (.asg (.c (.int .i64 1)))] [6,7] []) .ret) .skip)) (.seq (.seq (.reg false [.V 11 (.mv (.t 0)),.V 12 (.mv (.t 1)),.V 13 (.call (.c (.fn 695 [])) [.t 11,.t 12]),.V 14 (.un .not (.t 13)),.V 15 (.mv (.t 14)),.G 16 (.mv (.t 0)) 4 false,.G 17 (.mv (.t 2)) 4 false,.G 18 (.call (.c (.fn 695 [])) [.t 16,.t 17]) 4 false,.G 19 (.un .not (.t 18)) 4 false,.V 20 (.pick (.t 15) (.c (.bool true)) (.t 19))] [0,1,2,20] []) (.cond (.t 20) (.seq (.reg false [.V 6 (.asg (.c (.int .i64 0))),.V 7 (.asg (.c (.int .i64 3)))] [6,7] []) .ret) .skip)) (.norm [0,1,2] [] impl_CommonAncestor_k0)))) }
noncomputable def impl_CommonAncestor_D : List (Nat × Callee) := [(695,impl_isVersion_c),(696,impl_ValidHistory_c),(702,impl_common_c)]
def impl_CommonAncestor_H : List (Nat × ET) := [(8,T_Version),(11,T_Version),(16,T_Version),(21,T_Version)]
noncomputable def impl_CommonAncestor_c : Callee := mkCallee impl_CommonAncestor_D impl_CommonAncestor_H impl_CommonAncestor_ir [.d (.one (.sl T_Version)),.d (.one (.int .i64)),.d (.one (.int .i64))] [.d (.one (.int .i64)),.d (.one (.int .i64))] []
noncomputable def impl_CommonAncestor (a0 : List T_Version.ty) (a1 : Int) (a2 : Int) : Option (Int × Int) := impl_CommonAncestor_c.f (a0,a1,a2,())
noncomputable def impl_CommonAncestor_p0  (v0 : List T_Version.ty) (v1 : Int) (v2 : Int) : Option (Int × Int) :=
 goL impl_CommonAncestor_D impl_CommonAncestor_H (vleave impl_CommonAncestor_ir [.d (.one (.sl T_Version)),.d (.one (.int .i64)),.d (.one (.int .i64))] [.d (.one (.int .i64)),.d (.one (.int .i64))] [] []) [.c impl_CommonAncestor_k0]
  ⟨[(0,.sl T_Version v0),(1,.int .i64 v1),(2,.int .i64 v2)],[]⟩
theorem impl_CommonAncestor_eq (a0 : List T_Version.ty) (a1 : Int) (a2 : Int) : impl_CommonAncestor a0 a1 a2 =
 (impl_ValidHistory a0).bind fun x1 =>
  if (!x1) then
   some (0,1)
  else
   (impl_isVersion a0 a1).bind fun x2 =>
    if (!x2) then
     some (0,3)
    else
     (impl_isVersion a0 a2).bind fun x3 =>
      if (!x3) then
       some (0,3)
      else
       impl_CommonAncestor_p0 a0 a1 a2 :=
 (mk_f _ _ _ _ _ _ _ 4000).trans (by kernel_rfl)
theorem impl_CommonAncestor_p0_eq  (v0 : List T_Version.ty) (v1 : Int) (v2 : Int) : impl_CommonAncestor_p0 v0 v1 v2 =
 (impl_common v0 v1 v2).bind fun x1 =>
  some (x1,0) :=
 (goL_dn _ _ _ 4000 _ _).trans (by kernel_rfl)
def laws_r8Has_k0 : C :=
 .seq (.seq (.reg false [.V 6 (.mv (.t 5)),.V 7 (.mv (.t 0)),.V 8 (.len (.t 7)),.V 9 (.bin .lss (.t 6) (.t 8))] [0,1,5,9] []) (.cond (.t 9) .skip (.exit 0))) (.seq (.block 1 (.seq (.reg false [.V 12 (.mv (.t 0)),.V 13 (.mv (.t 5)),.V 14 (.ia 1 (.t 12) (.t 13)),.V 15 (.ld none (.t 14)),.V 16 (.mv (.t 1)),.V 17 (.bin .eql (.t 15) (.t 16))] [0,1,5,17] []) (.cond (.t 17) (.seq (.reg false [.V 4 (.asg (.c (.bool true)))] [4] []) .ret) .skip))) (.reg false [.V 10 (.mv (.t 5)),.V 11 (.bin .add (.t 10) (.c (.int .i64 1))),.V 5 (.asg (.t 11))] [0,1,5] []))
def laws_r8Has_k1 : C :=
 .norm [0,1,5] [] laws_r8Has_k0
def laws_r8Has_k2 : C :=
 .seq (.reg false [.V 4 (.asg (.c (.bool false)))] [4] []) .ret
def laws_r8Has_ir : Fn := { np := 2,io := [],res := [.t 4],own := [false],body :=
 (.seq (.reg false [.V 4 (.asg (.c (.bool false)))] [0,1] []) (.seq (.seq (.reg false [.V 5 (.asg (.c (.int .i64 0)))] [0,1,5] []) (.block 0 (.loop laws_r8Has_k1))) laws_r8Has_k2)) }
noncomputable def laws_r8Has_D : List (Nat × Callee) := []
def laws_r8Has_H : List (Nat × ET) := [(7,(.one (.int .i64))),(12,(.one (.int .i64)))]
noncomputable def laws_r8Has_c : Callee := mkCallee laws_r8Has_D laws_r8Has_H laws_r8Has_ir [.d (.one (.sl (.one (.int .i64)))),.d (.one (.int .i64))] [.d (.one .bool)] []
noncomputable def laws_r8Has (a0 : List Int) (a1 : Int) : Option (Bool) := laws_r8Has_c.f (a0,a1,())
noncomputable def laws_r8Has_p0  (v0 : List Int) (v1 : Int) (v5 : Int) : Option (Bool) :=
 goL laws_r8Has_D laws_r8Has_H (vleave laws_r8Has_ir [.d (.one (.sl (.one (.int .i64)))),.d (.one (.int .i64))] [.d (.one .bool)] [] []) [.c laws_r8Has_k0,.l laws_r8Has_k1,.e 0,.c laws_r8Has_k2]
  ⟨[(0,.sl (.one (.int .i64)) v0),(1,.int .i64 v1),(5,.int .i64 v5)],[]⟩
theorem laws_r8Has_eq (a0 : List Int) (a1 : Int) : laws_r8Has a0 a1 =
 laws_r8Has_p0 a0 a1 0 :=
 (mk_f _ _ _ _ _ _ _ 4000).trans (by kernel_rfl)
theorem laws_r8Has_p0_eq  (v0 : List Int) (v1 : Int) (v5 : Int) : laws_r8Has_p0 v0 v1 v5 =
 if decide (v5 < (v0.length : Int)) then
  if decide (0 ≤ v5) then
   (v0[v5.toNat]?).bind fun x1 =>
    if (x1 == v1) then
     some true
    else
     laws_r8Has_p0 v0 v1 (IntKind.i64.wrap (v5 + 1))
  else
   none
 else
  some false :=
 (goL_dn _ _ _ 4000 _ _).trans (by kernel_rfl)
def spec_l00In_ir : Fn := { np := 3,io := [],res := [.t 6],own := [false],body :=
 (.seq (.reg false [.V 6 (.asg (.c (.bool false)))] [0,1,2] []) (.seq (.reg false [.V 7 (.mv (.t 0)),.V 8 (.mv (.t 1)),.V 9 (.bin .geq (.t 7) (.t 8)),.V 10 (.mv (.t 9)),.G 11 (.mv (.t 0)) 3 true,.G 12 (.mv (.t 2)) 3 true,.G 13 (.bin .leq (.t 11) (.t 12)) 3 true,.V 14 (.pick (.t 10) (.t 13) (.c (.bool false))),.V 6 (.asg (.t 14))] [6] []) .ret)) }
noncomputable def spec_l00In_D : List (Nat × Callee) := []
def spec_l00In_H : List (Nat × ET) := []
noncomputable def spec_l00In_c : Callee := mkCallee spec_l00In_D spec_l00In_H spec_l00In_ir [.d (.one (.int .i64)),.d (.one (.int .i64)),.d (.one (.int .i64))] [.d (.one .bool)] []
noncomputable def spec_l00In (a0 : Int) (a1 : Int) (a2 : Int) : Option (Bool) := spec_l00In_c.f (a0,a1,a2,())
theorem spec_l00In_eq (a0 : Int) (a1 : Int) (a2 : Int) : spec_l00In a0 a1 a2 =
 if decide (a0 ≥ a1) then
  some (decide (a0 ≤ a2))
 else
  some false :=
 (mk_f _ _ _ _ _ _ _ 4000).trans (by kernel_rfl)
def spec_l27Memo_k0 : C :=
 .seq (.seq (.reg false [.V 4 (.mv (.t 3)),.V 5 (.mv (.t 0)),.V 6 (.lens (.t 5)),.V 7 (.bin .lss (.t 4) (.t 6))] [0,3,7] []) (.cond (.t 7) .skip (.exit 0))) (.seq (.block 1 (.seq (.reg false [.V 10 (.mv (.t 0)),.V 11 (.mv (.t 3)),.V 12 (.ix (.t 10) (.t 11)),.V 13 (.bin .lss (.t 12) (.c (.int .u8 32))),.V 14 (.mv (.t 13)),.G 15 (.mv (.t 0)) 4 false,.G 16 (.mv (.t 3)) 4 false,.G 17 (.ix (.t 15) (.t 16)) 4 false,.G 18 (.bin .gtr (.t 17) (.c (.int .u8 126))) 4 false,.V 19 (.pick (.t 14) (.c (.bool true)) (.t 18))] [0,3,19] []) (.cond (.t 19) (.seq (.reg false [.V 2 (.asg (.c (.bool false)))] [2] []) .ret) .skip))) (.reg false [.V 8 (.mv (.t 3)),.V 9 (.bin .add (.t 8) (.c (.int .i64 1))),.V 3 (.asg (.t 9))] [0,3] []))
def spec_l27Memo_k1 : C :=
 .norm [0,3] [] spec_l27Memo_k0
def spec_l27Memo_k2 : C :=
 .seq (.reg false [.V 20 (.mv (.t 0)),.V 21 (.lens (.t 20)),.V 22 (.bin .leq (.t 21) (.c (.int .i64 20))),.V 2 (.asg (.t 22))] [2] []) .ret
def spec_l27Memo_ir : Fn := { np := 1,io := [],res := [.t 2],own := [false],body :=
 (.seq (.reg false [.V 2 (.asg (.c (.bool false)))] [0] []) (.seq (.seq (.reg false [.V 3 (.asg (.c (.int .i64 0)))] [0,3] []) (.block 0 (.loop spec_l27Memo_k1))) spec_l27Memo_k2)) }
noncomputable def spec_l27Memo_D : List (Nat × Callee) := []
def spec_l27Memo_H : List (Nat × ET) := []
noncomputable def spec_l27Memo_c : Callee := mkCallee spec_l27Memo_D spec_l27Memo_H spec_l27Memo_ir [.d (.one .str)] [.d (.one .bool)] []
noncomputable def spec_l27Memo (a0 : List UInt8) : Option (Bool) := spec_l27Memo_c.f (a0,())
noncomputable def spec_l27Memo_p0  (v0 : List UInt8) (v3 : Int) : Option (Bool) :=
 goL spec_l27Memo_D spec_l27Memo_H (vleave spec_l27Memo_ir [.d (.one .str)] [.d (.one .bool)] [] []) [.c spec_l27Memo_k0,.l spec_l27Memo_k1,.e 0,.c spec_l27Memo_k2]
  ⟨[(0,.str v0),(3,.int .i64 v3)],[]⟩
theorem spec_l27Memo_eq (a0 : List UInt8) : spec_l27Memo a0 =
 spec_l27Memo_p0 a0 0 :=
 (mk_f _ _ _ _ _ _ _ 4000).trans (by kernel_rfl)
theorem spec_l27Memo_p0_eq  (v0 : List UInt8) (v3 : Int) : spec_l27Memo_p0 v0 v3 =
 if decide (v3 < (v0.length : Int)) then
  if decide (0 ≤ v3) then
   (v0[v3.toNat]?).bind fun x1 =>
    if decide ((x1.toNat : Int) < 32) then
     some false
    else
     if decide (0 ≤ v3) then
      (v0[v3.toNat]?).bind fun x2 =>
       if decide ((x2.toNat : Int) > 126) then
        some false
       else
        spec_l27Memo_p0 v0 (IntKind.i64.wrap (v3 + 1))
     else
      none
  else
   none
 else
  some (decide ((v0.length : Int) ≤ 20)) :=
 (goL_dn _ _ _ 4000 _ _).trans (by kernel_rfl)
def spec_l01Small_ir : Fn := { np := 1,io := [],res := [.t 2],own := [false],body :=
 (.seq (.reg false [.V 2 (.asg (.c (.bool false)))] [0] []) (.seq (.reg false [.V 3 (.mv (.t 0)),.V 4 (.bin .geq (.t 3) (.c (.int .u8 97))),.V 5 (.mv (.t 4)),.G 6 (.mv (.t 0)) 2 true,.G 7 (.bin .leq (.t 6) (.c (.int .u8 122))) 2 true,.V 8 (.pick (.t 5) (.t 7) (.c (.bool false))),.V 2 (.asg (.t 8))] [2] []) .ret)) }
noncomputable def spec_l01Small_D : List (Nat × Callee) := []
def spec_l01Small_H : List (Nat × ET) := []
noncomputable def spec_l01Small_c : Callee := mkCallee spec_l01Small_D spec_l01Small_H spec_l01Small_ir [.d (.one (.int .u8))] [.d (.one .bool)] []
noncomputable def spec_l01Small (a0 : Int) : Option (Bool) := spec_l01Small_c.f (a0,())
theorem spec_l01Small_eq (a0 : Int) : spec_l01Small a0 =
 if decide (a0 ≥ 97) then
  some (decide (a0 ≤ 122))
 else
  some false :=
 (mk_f _ _ _ _ _ _ _ 4000).trans (by kernel_rfl)
def spec_l01Digit_ir : Fn := { np := 1,io := [],res := [.t 2],own := [false],body :=
 (.seq (.reg false [.V 2 (.asg (.c (.bool false)))] [0] []) (.seq (.reg false [.V 3 (.mv (.t 0)),.V 4 (.bin .geq (.t 3) (.c (.int .u8 48))),.V 5 (.mv (.t 4)),.G 6 (.mv (.t 0)) 2 true,.G 7 (.bin .leq (.t 6) (.c (.int .u8 57))) 2 true,.V 8 (.pick (.t 5) (.t 7) (.c (.bool false))),.V 2 (.asg (.t 8))] [2] []) .ret)) }
noncomputable def spec_l01Digit_D : List (Nat × Callee) := []
def spec_l01Digit_H : List (Nat × ET) := []
noncomputable def spec_l01Digit_c : Callee := mkCallee spec_l01Digit_D spec_l01Digit_H spec_l01Digit_ir [.d (.one (.int .u8))] [.d (.one .bool)] []
noncomputable def spec_l01Digit (a0 : Int) : Option (Bool) := spec_l01Digit_c.f (a0,())
theorem spec_l01Digit_eq (a0 : Int) : spec_l01Digit a0 =
 if decide (a0 ≥ 48) then
  some (decide (a0 ≤ 57))
 else
  some false :=
 (mk_f _ _ _ _ _ _ _ 4000).trans (by kernel_rfl)
def spec_l01Name_k0 : C :=
 .seq (.seq (.reg false [.V 17 (.mv (.t 3)),.V 18 (.mv (.t 0)),.V 19 (.lens (.t 18)),.V 20 (.bin .lss (.t 17) (.t 19))] [0,3,20] []) (.cond (.t 20) .skip (.exit 0))) (.seq (.block 1 (.seq (.reg false [.V 23 (.mv (.t 0)),.V 24 (.mv (.t 3)),.V 25 (.ix (.t 23) (.t 24)),.V 26 (.call (.c (.fn 11 [])) [.t 25]),.V 27 (.un .not (.t 26)),.V 28 (.mv (.t 27)),.G 29 (.mv (.t 0)) 5 true,.G 30 (.mv (.t 3)) 5 true,.G 31 (.ix (.t 29) (.t 30)) 5 true,.G 32 (.call (.c (.fn 12 [])) [.t 31]) 5 true,.G 33 (.un .not (.t 32)) 5 true,.V 34 (.pick (.t 28) (.t 33) (.c (.bool false)))] [0,3,34] []) (.cond (.t 34) (.seq (.reg false [.V 2 (.asg (.c (.bool false)))] [2] []) .ret) .skip))) (.reg false [.V 21 (.mv (.t 3)),.V 22 (.bin .add (.t 21) (.c (.int .i64 1))),.V 3 (.asg (.t 22))] [0,3] []))
def spec_l01Name_k1 : C :=
 .norm [0,3] [] spec_l01Name_k0
def spec_l01Name_k2 : C :=
 .seq (.reg false [.V 2 (.asg (.c (.bool true)))] [2] []) .ret
def spec_l01Name_k3 : C :=
 .seq (.seq (.reg false [.V 3 (.asg (.c (.int .i64 0)))] [0,3] []) (.block 0 (.loop spec_l01Name_k1))) spec_l01Name_k2
def spec_l01Name_ir : Fn := { np := 1,io := [],res := [.t 2],own := [false],body :=
 (.seq (.reg false [.V 2 (.asg (.c (.bool false)))] [0] []) (.seq (.seq (.reg false [.V 4 (.mv (.t 0)),.V 5 (.bin .eql (.t 4) (.c (.str []))),.V 6 (.mv (.t 5)),.G 7 (.mv (.t 0)) 2 false,.G 8 (.lens (.t 7)) 2 false,.G 9 (.bin .gtr (.t 8) (.c (.int .i64 10))) 2 false,.V 10 (.pick (.t 6) (.c (.bool true)) (.t 9)),.V 11 (.mv (.t 10)),.G 12 (.mv (.t 0)) 7 false,.G 13 (.ix (.t 12) (.c (.int .i64 0))) 7 false,.G 14 (.call (.c (.fn 11 [])) [.t 13]) 7 false,.G 15 (.un .not (.t 14)) 7 false,.V 16 (.pick (.t 11) (.c (.bool true)) (.t 15))] [0,16] []) (.cond (.t 16) (.seq (.reg false [.V 2 (.asg (.c (.bool false)))] [2] []) .ret) .skip)) (.norm [0] [] spec_l01Name_k3))) }
noncomputable def spec_l01Name_D : List (Nat × Callee) := [(11,spec_l01Small_c),(12,spec_l01Digit_c)]
def spec_l01Name_H : List (Nat × ET) := []
noncomputable def spec_l01Name_c : Callee := mkCallee spec_l01Name_D spec_l01Name_H spec_l01Name_ir [.d (.one .str)] [.d (.one .bool)] []
noncomputable def spec_l01Name (a0 : List UInt8) : Option (Bool) := spec_l01Name_c.f (a0,())
noncomputable def spec_l01Name_p0  (v0 : List UInt8) : Option (Bool) :=
 goL spec_l01Name_D spec_l01Name_H (vleave spec_l01Name_ir [.d (.one .str)] [.d (.one .bool)] [] []) [.c spec_l01Name_k3]
  ⟨[(0,.str v0)],[]⟩
noncomputable def spec_l01Name_p1  (v0 : List UInt8) (v3 : Int) : Option (Bool) :=
 goL spec_l01Name_D spec_l01Name_H (vleave spec_l01Name_ir [.d (.one .str)] [.d (.one .bool)] [] []) [.c spec_l01Name_k0,.l spec_l01Name_k1,.e 0,.c spec_l01Name_k2]
  ⟨[(0,.str v0),(3,.int .i64 v3)],[]⟩
theorem spec_l01Name_eq (a0 : List UInt8) : spec_l01Name a0 =
 if (a0 == []) then
  some false
 else
  if decide ((a0.length : Int) > 10) then
   some false
  else
   (a0[0]?).bind fun x1 =>
    (spec_l01Small (x1.toNat : Int)).bind fun x2 =>
     if (!x2) then
      some false
     else
      spec_l01Name_p0 a0 :=
 (mk_f _ _ _ _ _ _ _ 4000).trans (by kernel_rfl)
theorem spec_l01Name_p0_eq  (v0 : List UInt8) : spec_l01Name_p0 v0 =
 spec_l01Name_p1 v0 0 :=
 (goL_dn _ _ _ 4000 _ _).trans (by kernel_rfl)
theorem spec_l01Name_p1_eq  (v0 : List UInt8) (v3 : Int) : spec_l01Name_p1 v0 v3 =
 if decide (v3 < (v0.length : Int)) then
  if decide (0 ≤ v3) then
   (v0[v3.toNat]?).bind fun x1 =>
    (spec_l01Small (x1.toNat : Int)).bind fun x2 =>
     if (!x2) then
      if decide (0 ≤ v3) then
       (v0[v3.toNat]?).bind fun x3 =>
        (spec_l01Digit (x3.toNat : Int)).bind fun x4 =>
         if (!x4) then
          some false
         else
          spec_l01Name_p1 v0 (IntKind.i64.wrap (v3 + 1))
      else
       none
     else
      spec_l01Name_p1 v0 (IntKind.i64.wrap (v3 + 1))
  else
   none
 else
  some true :=
 (goL_dn _ _ _ 4000 _ _).trans (by kernel_rfl)
def spec_l27Setting_ir : Fn := { np := 1,io := [],res := [.t 2],own := [false],body :=
 (.seq (.reg false [.V 2 (.asg (.c (.bool false)))] [0] []) (.seq (.reg false [.V 3 (.mv (.t 0)),.V 4 (.nilck (.t 3)),.V 5 (.fa 0 (.t 4)),.V 6 (.ld none (.t 5)),.V 7 (.call (.c (.fn 13 [])) [.t 6]),.V 8 (.mv (.t 7)),.G 9 (.mv (.t 0)) 5 true,.G 10 (.nilck (.t 9)) 5 true,.G 11 (.fa 1 (.t 10)) 5 true,.G 12 (.ld none (.t 11)) 5 true,.G 13 (.call (.c (.fn 1 [])) [.t 12,.c (.int .i64 0),.c (.int .i64 1000)]) 5 true,.V 14 (.pick (.t 8) (.t 13) (.c (.bool false))),.V 2 (.asg (.t 14))] [2] []) .ret)) }
noncomputable def spec_l27Setting_D : List (Nat × Callee) := [(1,spec_l00In_c),(13,spec_l01Name_c)]
def spec_l27Setting_H : List (Nat × ET) := []
noncomputable def spec_l27Setting_c : Callee := mkCallee spec_l27Setting_D spec_l27Setting_H spec_l27Setting_ir [.p T_Setting] [.d (.one .bool)] []
noncomputable def spec_l27Setting (a0 : T_Setting.ty) : Option (Bool) := spec_l27Setting_c.f (a0,())
theorem spec_l27Setting_eq (a0 : T_Setting.ty) : spec_l27Setting a0 =
 (spec_l01Name a0.1).bind fun x1 =>
  if x1 then
   (spec_l00In a0.2.1 0 1000).bind fun x2 =>
    some x2
  else
   some false :=
 (mk_f _ _ _ _ _ _ _ 4000).trans (by kernel_rfl)
def spec_l27State_k0 : C :=
 .seq (.seq (.reg false [.V 4 (.mv (.t 3)),.V 5 (.mv (.t 0)),.V 6 (.len (.t 5)),.V 7 (.bin .lss (.t 4) (.t 6))] [0,3,7] []) (.cond (.t 7) .skip (.exit 0))) (.seq (.block 1 (.seq (.reg true [.V 10 (.mv (.t 0)),.V 11 (.mv (.t 3)),.V 12 (.ia 2 (.t 10) (.t 11)),.V 13 (.call (.c (.fn 936 [])) [.t 12]),.V 14 (.un .not (.t 13)),.V 15 (.mv (.t 14)),.G 16 (.mv (.t 3)) 5 false,.G 17 (.bin .gtr (.t 16) (.c (.int .i64 0))) 5 false,.G 18 (.mv (.t 17)) 5 false,.G 19 (.mv (.t 0)) 8 true,.G 20 (.mv (.t 3)) 8 true,.G 21 (.bin .sub (.t 20) (.c (.int .i64 1))) 8 true,.G 22 (.ia 2 (.t 19) (.t 21)) 8 true,.G 23 (.fa 0 (.t 22)) 8 true,.G 24 (.ld none (.t 23)) 8 true,.G 25 (.mv (.t 0)) 8 true,.G 26 (.mv (.t 3)) 8 true,.G 27 (.ia 2 (.t 25) (.t 26)) 8 true,.G 28 (.fa 0 (.t 27)) 8 true,.G 29 (.ld none (.t 28)) 8 true,.G 30 (.bin .geq (.t 24) (.t 29)) 8 true,.G 31 (.pick (.t 18) (.t 30) (.c (.bool false))) 5 false,.V 32 (.pick (.t 15) (.c (.bool true)) (.t 31))] [0,3,32] []) (.cond (.t 32) (.seq (.reg false [.V 2 (.asg (.c (.bool false)))] [2] []) .ret) .skip))) (.reg false [.V 8 (.mv (.t 3)),.V 9 (.bin .add (.t 8) (.c (.int .i64 1))),.V 3 (.asg (.t 9))] [0,3] []))
def spec_l27State_k1 : C :=
 .norm [0,3] [] spec_l27State_k0
def spec_l27State_k2 : C :=
 .seq (.reg false [.V 33 (.mv (.t 0)),.V 34 (.len (.t 33)),.V 35 (.bin .leq (.t 34) (.c (.int .i64 24))),.V 2 (.asg (.t 35))] [2] []) .ret
def spec_l27State_ir : Fn := { np := 1,io := [],res := [.t 2],own := [false],body :=
 (.seq (.reg false [.V 2 (.asg (.c (.bool false)))] [0] []) (.seq (.seq (.reg false [.V 3 (.asg (.c (.int .i64 0)))] [0,3] []) (.block 0 (.loop spec_l27State_k1))) spec_l27State_k2)) }
noncomputable def spec_l27State_D : List (Nat × Callee) := [(936,spec_l27Setting_c)]
def spec_l27State_H : List (Nat × ET) := [(5,T_Setting),(10,T_Setting),(19,T_Setting),(25,T_Setting),(33,T_Setting)]
noncomputable def spec_l27State_c : Callee := mkCallee spec_l27State_D spec_l27State_H spec_l27State_ir [.d (.one (.sl T_Setting))] [.d (.one .bool)] []
noncomputable def spec_l27State (a0 : List T_Setting.ty) : Option (Bool) := spec_l27State_c.f (a0,())
noncomputable def spec_l27State_p0  (v0 : List T_Setting.ty) (v3 : Int) : Option (Bool) :=
 goL spec_l27State_D spec_l27State_H (vleave spec_l27State_ir [.d (.one (.sl T_Setting))] [.d (.one .bool)] [] []) [.c spec_l27State_k0,.l spec_l27State_k1,.e 0,.c spec_l27State_k2]
  ⟨[(0,.sl T_Setting v0),(3,.int .i64 v3)],[]⟩
theorem spec_l27State_eq (a0 : List T_Setting.ty) : spec_l27State a0 =
 spec_l27State_p0 a0 0 :=
 (mk_f _ _ _ _ _ _ _ 4000).trans (by kernel_rfl)
theorem spec_l27State_p0_eq  (v0 : List T_Setting.ty) (v3 : Int) : spec_l27State_p0 v0 v3 =
 if decide (v3 < (v0.length : Int)) then
  if decide (0 ≤ v3) then
   (v0[v3.toNat]?).bind fun x1 =>
    (spec_l27Setting x1).bind fun x2 =>
     if (!x2) then
      some false
     else
      if decide (v3 > 0) then
       if decide (0 ≤ IntKind.i64.wrap (v3 - 1)) then
        (v0[(IntKind.i64.wrap (v3 - 1)).toNat]?).bind fun x3 =>
         if decide (0 ≤ v3) then
          (v0[v3.toNat]?).bind fun x4 =>
           if (!Op.bytesLess x3.1 x4.1) then
            some false
           else
            spec_l27State_p0 v0 (IntKind.i64.wrap (v3 + 1))
         else
          none
       else
        none
      else
       spec_l27State_p0 v0 (IntKind.i64.wrap (v3 + 1))
  else
   none
 else
  some (decide ((v0.length : Int) ≤ 24)) :=
 (goL_dn _ _ _ 4000 _ _).trans (by kernel_rfl)
def spec_l27Ok_k0 : C :=
 .seq (.seq (.reg false [.V 5 (.mv (.t 3)),.V 6 (.mv (.t 0)),.V 7 (.len (.t 6)),.V 8 (.bin .lss (.t 5) (.t 7))] [0,3,8] []) (.cond (.t 8) .skip (.exit 0))) (.seq (.block 1 (.seq (.reg false [.V 11 (.mv (.t 0)),.V 12 (.mv (.t 3)),.V 13 (.ia 4 (.t 11) (.t 12)),.V 14 (.ld (some 4) (.t 13)),.W 4 (.alloc 4 (.agg [.int .i64 0,.int .i64 0,.str [],.nils 2])),⟨none,true,.sto 4 (.t 4) (.t 14),none,false,[]⟩] [0,3,4] [4,5003]) (.seq (.reg false [.V 15 (.fa 0 (.t 4)),.V 16 (.ld none (.t 15)),.V 17 (.mv (.t 3)),.V 18 (.bin .add (.t 17) (.c (.int .i64 1))),.V 19 (.bin .neq (.t 16) (.t 18)),.V 20 (.mv (.t 19)),.G 21 (.fa 1 (.t 4)) 5 false,.G 22 (.ld none (.t 21)) 5 false,.G 23 (.mv (.t 3)) 5 false,.G 24 (.call (.c (.fn 1 [])) [.t 22,.c (.int .i64 0),.t 23]) 5 false,.G 25 (.un .not (.t 24)) 5 false,.V 26 (.pick (.t 20) (.c (.bool true)) (.t 25)),.V 27 (.mv (.t 26)),.G 28 (.fa 2 (.t 4)) 12 false,.G 29 (.ld none (.t 28)) 12 false,.G 30 (.call (.c (.fn 933 [])) [.t 29]) 12 false,.G 31 (.un .not (.t 30)) 12 false,.V 32 (.pick (.t 27) (.c (.bool true)) (.t 31)),.V 33 (.mv (.t 32)),.G 34 (.fa 3 (.t 4)) 18 false,.G 35 (.ld none (.t 34)) 18 false,.G 36 (.call (.c (.fn 706 [])) [.t 35]) 18 false,.G 37 (.un .not (.t 36)) 18 false,.V 38 (.pick (.t 33) (.c (.bool true)) (.t 37))] [0,3,38] []) (.cond (.t 38) (.seq (.reg false [.V 2 (.asg (.c (.bool false)))] [2] []) .ret) .skip)))) (.reg false [.V 9 (.mv (.t 3)),.V 10 (.bin .add (.t 9) (.c (.int .i64 1))),.V 3 (.asg (.t 10))] [0,3] []))
def spec_l27Ok_k1 : C :=
 .norm [0,3] [] spec_l27Ok_k0
def spec_l27Ok_k2 : C :=
 .seq (.reg false [.V 39 (.mv (.t 0)),.V 40 (.len (.t 39)),.V 41 (.bin .leq (.t 40) (.c (.int .i64 32))),.V 2 (.asg (.t 41))] [2] []) .ret
def spec_l27Ok_ir : Fn := { np := 1,io := [],res := [.t 2],own := [false],body :=
 (.seq (.reg false [.V 2 (.asg (.c (.bool false)))] [0] []) (.seq (.seq (.reg false [.V 3 (.asg (.c (.int .i64 0)))] [0,3] []) (.block 0 (.loop spec_l27Ok_k1))) spec_l27Ok_k2)) }
noncomputable def spec_l27Ok_D : List (Nat × Callee) := [(1,spec_l00In_c),(706,spec_l27State_c),(933,spec_l27Memo_c)]
def spec_l27Ok_H : List (Nat × ET) := [(6,T_Version),(11,T_Version),(35,T_Setting),(39,T_Version)]
noncomputable def spec_l27Ok_c : Callee := mkCallee spec_l27Ok_D spec_l27Ok_H spec_l27Ok_ir [.d (.one (.sl T_Version))] [.d (.one .bool)] []
noncomputable def spec_l27Ok (a0 : List T_Version.ty) : Option (Bool) := spec_l27Ok_c.f (a0,())
noncomputable def spec_l27Ok_p0  (v0 : List T_Version.ty) (v3 : Int) : Option (Bool) :=
 goL spec_l27Ok_D spec_l27Ok_H (vleave spec_l27Ok_ir [.d (.one (.sl T_Version))] [.d (.one .bool)] [] []) [.c spec_l27Ok_k0,.l spec_l27Ok_k1,.e 0,.c spec_l27Ok_k2]
  ⟨[(0,.sl T_Version v0),(3,.int .i64 v3)],[]⟩
theorem spec_l27Ok_eq (a0 : List T_Version.ty) : spec_l27Ok a0 =
 spec_l27Ok_p0 a0 0 :=
 (mk_f _ _ _ _ _ _ _ 4000).trans (by kernel_rfl)
theorem spec_l27Ok_p0_eq  (v0 : List T_Version.ty) (v3 : Int) : spec_l27Ok_p0 v0 v3 =
 if decide (v3 < (v0.length : Int)) then
  if decide (0 ≤ v3) then
   (v0[v3.toNat]?).bind fun x1 =>
    if (x1.1 != IntKind.i64.wrap (v3 + 1)) then
     some false
    else
     (spec_l00In x1.2.1 0 v3).bind fun x2 =>
      if (!x2) then
       some false
      else
       (spec_l27Memo x1.2.2.1).bind fun x3 =>
        if (!x3) then
         some false
        else
         (spec_l27State x1.2.2.2.1).bind fun x4 =>
          if (!x4) then
           some false
          else
           spec_l27Ok_p0 v0 (IntKind.i64.wrap (v3 + 1))
  else
   none
 else
  some (decide ((v0.length : Int) ≤ 32)) :=
 (goL_dn _ _ _ 4000 _ _).trans (by kernel_rfl)
def spec_ValidHistory_ir : Fn := { np := 1,io := [],res := [.t 2],own := [false],body :=
 (.seq (.reg false [.V 2 (.asg (.c (.bool false)))] [0] []) (.seq (.reg false [.V 3 (.mv (.t 0)),.V 4 (.call (.c (.fn 703 [])) [.t 3]),.V 2 (.asg (.t 4))] [2] []) .ret)) }
noncomputable def spec_ValidHistory_D : List (Nat × Callee) := [(703,spec_l27Ok_c)]
def spec_ValidHistory_H : List (Nat × ET) := [(3,T_Version)]
noncomputable def spec_ValidHistory_c : Callee := mkCallee spec_ValidHistory_D spec_ValidHistory_H spec_ValidHistory_ir [.d (.one (.sl T_Version))] [.d (.one .bool)] []
noncomputable def spec_ValidHistory (a0 : List T_Version.ty) : Option (Bool) := spec_ValidHistory_c.f (a0,())
theorem spec_ValidHistory_eq (a0 : List T_Version.ty) : spec_ValidHistory a0 =
 (spec_l27Ok a0).bind fun x1 =>
  some x1 :=
 (mk_f _ _ _ _ _ _ _ 4000).trans (by kernel_rfl)
def impl_VersionText_k0 : C :=
 .seq (.reg false [.V 43 (.bin .lss (.t 42) (.t 41))] [1,3,40,41,42,43] [1,2003]) (.seq (.cond (.t 43) .skip (.exit 0)) (.seq (.block 1 (.seq (.reg false [.V 44 (.ia 2 (.t 40) (.t 42)),.V 45 (.ld (some 2) (.t 44)),.W 5 (.alloc 2 (.agg [.str [],.int .i64 0])),⟨none,true,.sto 2 (.t 5) (.t 45),none,false,[]⟩] [1,3,5,40,41,42] [1,5,2003]) (.reg true [.V 46 (.mv (.t 3)),.V 47 (.fa 0 (.t 5)),.V 48 (.ld none (.t 47)),.V 49 (.bin .add (.c (.str [32])) (.t 48)),.V 50 (.bin .add (.t 49) (.c (.str [61]))),.V 51 (.fa 1 (.t 5)),.V 52 (.ld none (.t 51)),.V 53 (.call (.c (.fn 524 [])) [.t 52]),.V 54 (.bin .add (.t 50) (.t 53)),.V 55 (.bin .add (.t 46) (.t 54)),.V 3 (.asg (.t 55))] [1,3,40,41,42] [1,2003]))) (.reg false [.V 56 (.bin .add (.t 42) (.c (.int .i64 1))),.V 42 (.mv (.t 56))] [1,3,40,41,42] [1,2003])))
def impl_VersionText_k1 : C :=
 .norm [1,3,40,41,42] [1,2003] impl_VersionText_k0
def impl_VersionText_k2 : C :=
 .seq (.seq (.reg false [.V 57 (.fa 2 (.t 1)),.V 58 (.ld none (.t 57)),.V 59 (.bin .neq (.t 58) (.c (.str [])))] [1,3,59] [1,2003]) (.cond (.t 59) (.reg false [.V 60 (.mv (.t 3)),.V 61 (.fa 2 (.t 1)),.V 62 (.ld none (.t 61)),.V 63 (.bin .add (.c (.str [32,35,32])) (.t 62)),.V 64 (.bin .add (.t 60) (.t 63)),.V 3 (.asg (.t 64))] [3] []) .skip)) (.seq (.reg false [.V 65 (.mv (.t 3)),.V 2 (.asg (.t 65))] [2] []) .ret)
def impl_VersionText_k3 : C :=
 .seq (.reg true [.V 31 (.fa 0 (.t 1)),.V 32 (.ld none (.t 31)),.V 33 (.call (.c (.fn 524 [])) [.t 32]),.V 34 (.bin .add (.t 33) (.c (.str [60]))),.V 35 (.fa 1 (.t 1)),.V 36 (.ld none (.t 35)),.V 37 (.call (.c (.fn 524 [])) [.t 36]),.V 38 (.bin .add (.t 34) (.t 37)),.V 3 (.asg (.t 38))] [1,3] [1,2003]) (.seq (.seq (.reg false [.V 39 (.fa 3 (.t 1)),.V 40 (.ld none (.t 39)),.V 41 (.len (.t 40)),.V 42 (.mv (.c (.int .i64 0)))] [1,3,40,41,42] [1,2003]) (.block 0 (.loop impl_VersionText_k1))) impl_VersionText_k2)
def impl_VersionText_ir : Fn := { np := 1,io := [],res := [.t 2],own := [false],body :=
 (.seq (.reg false [.W 1 (.box 4 (.t 0)),.V 2 (.asg (.c (.str [])))] [1] [1,2003]) (.seq (.seq (.reg false [.V 6 (.fa 0 (.t 1)),.V 7 (.ld none (.t 6)),.V 8 (.call (.c (.fn 23 [])) [.t 7,.c (.int .i64 1),.c (.int .i64 32)]),.V 9 (.un .not (.t 8)),.V 10 (.mv (.t 9)),.G 11 (.fa 1 (.t 1)) 4 false,.G 12 (.ld none (.t 11)) 4 false,.G 13 (.fa 0 (.t 1)) 4 false,.G 14 (.ld none (.t 13)) 4 false,.G 15 (.bin .sub (.t 14) (.c (.int .i64 1))) 4 false,.G 16 (.call (.c (.fn 23 [])) [.t 12,.c (.int .i64 0),.t 15]) 4 false,.G 17 (.un .not (.t 16)) 4 false,.V 18 (.pick (.t 10) (.c (.bool true)) (.t 17)),.V 19 (.mv (.t 18)),.G 20 (.fa 2 (.t 1)) 13 false,.G 21 (.ld none (.t 20)) 13 false,.G 22 (.call (.c (.fn 697 [])) [.t 21]) 13 false,.G 23 (.un .not (.t 22)) 13 false,.V 24 (.pick (.t 19) (.c (.bool true)) (.t 23)),.V 25 (.mv (.t 24)),.G 26 (.fa 3 (.t 1)) 19 false,.G 27 (.ld none (.t 26)) 19 false,.G 28 (.call (.c (.fn 689 [])) [.t 27]) 19 false,.G 29 (.un .not (.t 28)) 19 false,.V 30 (.pick (.t 25) (.c (.bool true)) (.t 29))] [1,30] [1,2003]) (.cond (.t 30) (.seq (.reg false [.V 2 (.asg (.c (.str [])))] [2] []) .ret) .skip)) (.norm [1] [1,2003] impl_VersionText_k3))) }
noncomputable def impl_VersionText_D : List (Nat × Callee) := [(23,impl_within_c),(524,impl_Decimal_c),(689,impl_ValidState_c),(697,impl_isMemo_c)]
def impl_VersionText_H : List (Nat × ET) := [(27,T_Setting),(40,T_Setting)]
noncomputable def impl_VersionText_c : Callee := mkCallee impl_VersionText_D impl_VersionText_H impl_VersionText_ir [.d T_Version] [.d (.one .str)] []
noncomputable def impl_VersionText (a0 : T_Version.ty) : Option (List UInt8) := impl_VersionText_c.f (a0,())
noncomputable def impl_VersionText_p0  (r1_0 : Int) (r1_1 : Int) (r1_2 : List UInt8) (r1_3 : List T_Setting.ty) : Option (List UInt8) :=
 goL impl_VersionText_D impl_VersionText_H (vleave impl_VersionText_ir [.d T_Version] [.d (.one .str)] [] []) [.c impl_VersionText_k3]
  ⟨[(1,.loc 1 0 0)],[(1,some (.var 4 (.agg [.int .i64 r1_0,.int .i64 r1_1,.str r1_2,.sl T_Setting r1_3]))),(2003,none)]⟩
noncomputable def impl_VersionText_p1  (v3 : List UInt8) (v40 : List T_Setting.ty) (v41 : Int) (v42 : Int) (r1_0 : Int) (r1_1 : Int) (r1_2 : List UInt8) (r1_3 : List T_Setting.ty) : Option (List UInt8) :=
 goL impl_VersionText_D impl_VersionText_H (vleave impl_VersionText_ir [.d T_Version] [.d (.one .str)] [] []) [.c impl_VersionText_k0,.l impl_VersionText_k1,.e 0,.c impl_VersionText_k2]
  ⟨[(1,.loc 1 0 0),(3,.str v3),(40,.sl T_Setting v40),(41,.int .i64 v41),(42,.int .i64 v42)],[(1,some (.var 4 (.agg [.int .i64 r1_0,.int .i64 r1_1,.str r1_2,.sl T_Setting r1_3]))),(2003,none)]⟩
theorem impl_VersionText_eq (a0 : T_Version.ty) : impl_VersionText a0 =
 (impl_within a0.1 1 32).bind fun x1 =>
  if (!x1) then
   some []
  else
   (impl_within a0.2.1 0 (IntKind.i64.wrap (a0.1 - 1))).bind fun x2 =>
    if (!x2) then
     some []
    else
     (impl_isMemo a0.2.2.1).bind fun x3 =>
      if (!x3) then
       some []
      else
       (impl_ValidState a0.2.2.2.1).bind fun x4 =>
        if (!x4) then
         some []
        else
         impl_VersionText_p0 a0.1 a0.2.1 a0.2.2.1 a0.2.2.2.1 :=
 (mk_f _ _ _ _ _ _ _ 4000).trans (by kernel_rfl)
theorem impl_VersionText_p0_eq  (r1_0 : Int) (r1_1 : Int) (r1_2 : List UInt8) (r1_3 : List T_Setting.ty) : impl_VersionText_p0 r1_0 r1_1 r1_2 r1_3 =
 (impl_Decimal r1_0).bind fun x1 =>
  if decide (x1.length + [60].length ≤ strMax) then
   (impl_Decimal r1_1).bind fun x2 =>
    if decide ((x1 ++ [60]).length + x2.length ≤ strMax) then
     impl_VersionText_p1 ((x1 ++ [60]) ++ x2) r1_3 (r1_3.length : Int) 0 r1_0 r1_1 r1_2 r1_3
    else
     none
  else
   none :=
 (goL_dn _ _ _ 4000 _ _).trans (by kernel_rfl)
theorem impl_VersionText_p1_eq  (v3 : List UInt8) (v40 : List T_Setting.ty) (v41 : Int) (v42 : Int) (r1_0 : Int) (r1_1 : Int) (r1_2 : List UInt8) (r1_3 : List T_Setting.ty) : impl_VersionText_p1 v3 v40 v41 v42 r1_0 r1_1 r1_2 r1_3 =
 if decide (v42 < v41) then
  if decide (0 ≤ v42) then
   (v40[v42.toNat]?).bind fun x1 =>
    if decide ([32].length + x1.1.length ≤ strMax) then
     if decide (([32] ++ x1.1).length + [61].length ≤ strMax) then
      (impl_Decimal x1.2.1).bind fun x2 =>
       if decide ((([32] ++ x1.1) ++ [61]).length + x2.length ≤ strMax) then
        if decide (v3.length + ((([32] ++ x1.1) ++ [61]) ++ x2).length ≤ strMax) then
         impl_VersionText_p1 (v3 ++ ((([32] ++ x1.1) ++ [61]) ++ x2)) v40 v41 (IntKind.i64.wrap (v42 + 1)) r1_0 r1_1 r1_2 r1_3
        else
         none
       else
        none
     else
      none
    else
     none
  else
   none
 else
  if (!(r1_2 == [])) then
   if decide ([32,35,32].length + r1_2.length ≤ strMax) then
    if decide (v3.length + ([32,35,32] ++ r1_2).length ≤ strMax) then
     some (v3 ++ ([32,35,32] ++ r1_2))
    else
     none
   else
    none
  else
   some v3 :=
 (goL_dn _ _ _ 4000 _ _).trans (by kernel_rfl)
def laws_FnVersions_k0 : C :=
 .seq (.seq (.reg false [.V 171 (.mv (.t 25)),.V 172 (.mv (.t 18)),.V 173 (.len (.t 172)),.V 174 (.bin .lss (.t 171) (.t 173))] [13,15,18,25,174] [13,18]) (.cond (.t 174) .skip (.exit 0))) (.seq (.block 1 (.seq (.reg true [.V 177 (.mv (.t 18)),.V 178 (.mv (.t 25)),.V 179 (.ia 1 (.t 177) (.t 178)),.V 180 (.ld none (.t 179)),.V 181 (.bin .lss (.t 180) (.c (.int .i64 1))),.V 182 (.mv (.t 181)),.G 183 (.mv (.t 18)) 5 false,.G 184 (.mv (.t 25)) 5 false,.G 185 (.ia 1 (.t 183) (.t 184)) 5 false,.G 186 (.ld none (.t 185)) 5 false,.G 187 (.mv (.t 15)) 5 false,.G 188 (.bin .geq (.t 186) (.t 187)) 5 false,.V 189 (.pick (.t 182) (.c (.bool true)) (.t 188)),.V 190 (.mv (.t 189)),.G 191 (.mv (.t 25)) 13 false,.G 192 (.bin .gtr (.t 191) (.c (.int .i64 0))) 13 false,.G 193 (.mv (.t 192)) 13 false,.G 194 (.mv (.t 18)) 16 true,.G 195 (.mv (.t 25)) 16 true,.G 196 (.ia 1 (.t 194) (.t 195)) 16 true,.G 197 (.ld none (.t 196)) 16 true,.G 198 (.mv (.t 18)) 16 true,.G 199 (.mv (.t 25)) 16 true,.G 200 (.bin .sub (.t 199) (.c (.int .i64 1))) 16 true,.G 201 (.ia 1 (.t 198) (.t 200)) 16 true,.G 202 (.ld none (.t 201)) 16 true,.G 203 (.bin .geq (.t 197) (.t 202)) 16 true,.G 204 (.pick (.t 193) (.t 203) (.c (.bool false))) 13 false,.V 205 (.pick (.t 190) (.c (.bool true)) (.t 204))] [13,15,18,25,205] [13,18]) (.cond (.t 205) (.seq (.reg false [.V 4 (.asg (.c (.bool false)))] [4] []) .ret) .skip))) (.reg false [.V 175 (.mv (.t 25)),.V 176 (.bin .add (.t 175) (.c (.int .i64 1))),.V 25 (.asg (.t 176))] [13,15,18,25] [13,18]))
def laws_FnVersions_k1 : C :=
 .norm [13,15,18,25] [13,18] laws_FnVersions_k0
def laws_FnVersions_k2 : C :=
 .seq (.reg false [.V 206 (.mv (.t 13)),.V 207 (.mv (.t 15)),.V 208 (.bin .sub (.t 207) (.c (.int .i64 1))),.V 209 (.ia 4 (.t 206) (.t 208)),.V 210 (.ld (some 4) (.t 209)),.V 211 (.call (.c (.fn 265 [])) [.t 210]),.V 212 (.bin .neq (.t 211) (.c (.str []))),.V 4 (.asg (.t 212))] [4] []) .ret
def laws_FnVersions_k3 : C :=
 .seq (.seq (.reg false [.V 25 (.asg (.c (.int .i64 0)))] [13,15,18,25] [13,18]) (.block 0 (.loop laws_FnVersions_k1))) laws_FnVersions_k2
def laws_FnVersions_k4 : C :=
 .seq (.seq (.reg false [.V 155 (.mv (.t 16)),.V 156 (.mv (.t 15)),.V 157 (.ia 4 (.t 155) (.t 156)),.V 158 (.fa 3 (.t 157)),.V 159 (.ld none (.t 158)),.V 160 (.mv (.t 24)),.V 161 (.call (.c (.fn 266 [])) [.t 159,.t 160]),.V 162 (.un .not (.t 161)),.V 163 (.mv (.t 162)),.G 164 (.mv (.t 12)) 8 false,.G 165 (.bin .gtr (.t 164) (.c (.int .i64 0))) 8 false,.G 166 (.mv (.t 18)) 8 false,.G 167 (.mv (.t 12)) 8 false,.G 168 (.call (.c (.fn 77 [])) [.t 166,.t 167]) 8 false,.G 169 (.eqb true (.t 165) (.t 168)) 8 false,.V 170 (.pick (.t 163) (.c (.bool true)) (.t 169))] [13,15,18,170] [13,18]) (.cond (.t 170) (.seq (.reg false [.V 4 (.asg (.c (.bool false)))] [4] []) .ret) .skip)) (.norm [13,15,18] [13,18] laws_FnVersions_k3)
def laws_FnVersions_k5 : C :=
 .seq (.reg false [.V 146 (.bsl 2 (.agg [.str [],.int .i64 0]) 0 []),.W 24 (.asg (.t 146))] [5,12,13,15,16,18,24] [5,13,16,18,24]) (.seq (.seq (.reg false [.V 147 (.mv (.t 12)),.V 148 (.bin .gtr (.t 147) (.c (.int .i64 0)))] [5,12,13,15,16,18,24,148] [5,13,16,18,24]) (.cond (.t 148) (.reg false [.V 149 (.mv (.t 5)),.V 150 (.mv (.t 12)),.V 151 (.bin .sub (.t 150) (.c (.int .i64 1))),.V 152 (.ia 4 (.t 149) (.t 151)),.V 153 (.fa 3 (.t 152)),.V 154 (.ld none (.t 153)),.W 24 (.asg (.t 154))] [12,13,15,16,18,24] [13,16,18,24]) .skip)) (.opn 5000024 (.norm [12,13,15,16,18,24] [13,16,18] laws_FnVersions_k4)))
def laws_FnVersions_k6 : C :=
 .seq (.reg false [.V 60 (.mv (.t 1)),.V 61 (.mv (.t 5)),.V 62 (.len (.t 61)),.V 63 (.bin .add (.t 62) (.c (.int .i64 1))),.V 64 (.call (.c (.fn 151 [])) [.t 60,.c (.int .i64 0),.t 63]),.V 12 (.asg (.t 64))] [5,6,12] [5,6]) (.seq (.reg false [.V 66 (.mv (.t 5)),.V 67 (.mv (.t 12)),.V 68 (.mv (.t 6)),.W 69 (.call (.c (.fn 272 [])) [.t 66,.t 67,.c (.str [110,101,120,116]),.t 68]),.V 65 (.mv (.t 69)),.V 70 (.ext (.t 65) 0),.V 71 (.ext (.t 65) 1),.W 13 (.asg (.t 70)),.V 14 (.asg (.t 71))] [5,12,13,14] [5,13]) (.seq (.reg false [.V 72 (.mv (.t 5)),.V 73 (.len (.t 72)),.V 74 (.bin .add (.t 73) (.c (.int .i64 1))),.V 15 (.asg (.t 74))] [5,12,13,14,15] [5,13]) (.seq (.reg false [.V 76 (.mv (.t 13)),.V 77 (.mv (.t 15)),.W 78 (.call (.c (.fn 271 [])) [.t 76,.t 77]),.V 75 (.mv (.t 78)),.V 79 (.ext (.t 75) 0),.V 80 (.ext (.t 75) 1),.W 16 (.asg (.t 79)),.V 17 (.asg (.t 80))] [5,12,13,14,15,16,17] [5,13,16]) (.seq (.reg false [.V 82 (.mv (.t 13)),.V 83 (.mv (.t 15)),.V 84 (.call (.c (.fn 270 [])) [.t 82,.t 83]),.V 81 (.mv (.t 84)),.V 85 (.ext (.t 81) 0),.V 86 (.ext (.t 81) 1),.W 18 (.asg (.t 85)),.V 19 (.asg (.t 86))] [5,12,13,14,15,16,17,18,19] [5,13,16,18]) (.seq (.reg false [.V 88 (.mv (.t 13)),.V 89 (.call (.c (.fn 269 [])) [.t 88]),.V 87 (.mv (.t 89)),.V 90 (.ext (.t 87) 0),.V 91 (.ext (.t 87) 1),.W 20 (.asg (.t 90)),.V 21 (.asg (.t 91))] [5,12,13,14,15,16,17,18,19,20,21] [5,13,16,18,20]) (.seq (.reg false [.V 93 (.mv (.t 13)),.V 94 (.mv (.t 15)),.V 95 (.mv (.t 15)),.V 96 (.call (.c (.fn 268 [])) [.t 93,.t 94,.t 95]),.V 92 (.mv (.t 96)),.V 97 (.ext (.t 92) 0),.V 98 (.ext (.t 92) 1),.V 22 (.asg (.t 97)),.V 23 (.asg (.t 98))] [5,12,13,14,15,16,17,18,19,20,21,22,23] [5,13,16,18,20]) (.seq (.seq (.reg false [.V 99 (.mv (.t 14)),.V 100 (.bin .neq (.t 99) (.c (.int .i64 0))),.V 101 (.mv (.t 100)),.G 102 (.mv (.t 13)) 2 false,.G 103 (.len (.t 102)) 2 false,.G 104 (.mv (.t 15)) 2 false,.G 105 (.bin .neq (.t 103) (.t 104)) 2 false,.V 106 (.pick (.t 101) (.c (.bool true)) (.t 105)),.V 107 (.mv (.t 106)),.G 108 (.mv (.t 17)) 8 false,.G 109 (.bin .neq (.t 108) (.c (.int .i64 0))) 8 false,.V 110 (.pick (.t 107) (.c (.bool true)) (.t 109)),.V 111 (.mv (.t 110)),.G 112 (.mv (.t 16)) 12 false,.G 113 (.len (.t 112)) 12 false,.G 114 (.mv (.t 15)) 12 false,.G 115 (.bin .add (.t 114) (.c (.int .i64 1))) 12 false,.G 116 (.bin .neq (.t 113) (.t 115)) 12 false,.V 117 (.pick (.t 111) (.c (.bool true)) (.t 116)),.V 118 (.mv (.t 117)),.G 119 (.mv (.t 19)) 19 false,.G 120 (.bin .neq (.t 119) (.c (.int .i64 0))) 19 false,.V 121 (.pick (.t 118) (.c (.bool true)) (.t 120)),.V 122 (.mv (.t 121)),.G 123 (.mv (.t 21)) 23 false,.G 124 (.bin .neq (.t 123) (.c (.int .i64 0))) 23 false,.V 125 (.pick (.t 122) (.c (.bool true)) (.t 124)),.V 126 (.mv (.t 125)),.G 127 (.mv (.t 20)) 27 false,.G 128 (.mv (.t 15)) 27 false,.G 129 (.call (.c (.fn 77 [])) [.t 127,.t 128]) 27 false,.G 130 (.un .not (.t 129)) 27 false,.V 131 (.pick (.t 126) (.c (.bool true)) (.t 130)),.V 132 (.mv (.t 131)),.G 133 (.mv (.t 23)) 33 false,.G 134 (.bin .neq (.t 133) (.c (.int .i64 0))) 33 false,.V 135 (.pick (.t 132) (.c (.bool true)) (.t 134)),.V 136 (.mv (.t 135)),.G 137 (.mv (.t 22)) 37 false,.G 138 (.mv (.t 15)) 37 false,.G 139 (.bin .neq (.t 137) (.t 138)) 37 false,.V 140 (.pick (.t 136) (.c (.bool true)) (.t 139)),.V 141 (.mv (.t 140)),.G 142 (.mv (.t 16)) 42 false,.G 143 (.call (.c (.fn 267 [])) [.t 142]) 42 false,.G 144 (.un .not (.t 143)) 42 false,.V 145 (.pick (.t 141) (.c (.bool true)) (.t 144))] [5,12,13,15,16,18,145] [5,13,16,18]) (.cond (.t 145) (.seq (.reg false [.V 4 (.asg (.c (.bool false)))] [4] []) .ret) .skip)) (.norm [5,12,13,15,16,18] [5,13,16,18] laws_FnVersions_k5))))))))
def laws_FnVersions_ir : Fn := { np := 2,io := [],res := [.t 4],own := [false],body :=
 (.seq (.reg false [.V 4 (.asg (.c (.bool false)))] [0,1] []) (.seq (.seq (.reg false [.V 26 (.mv (.t 0)),.V 27 (.mv (.t 1)),.V 28 (.call (.c (.fn 89 [])) [.t 26,.t 27])] [0,1,28] []) (.cond (.t 28) (.seq (.reg false [.V 4 (.asg (.c (.bool true)))] [4] []) .ret) .skip)) (.seq (.reg false [.V 29 (.mv (.t 0)),.V 30 (.call (.c (.fn 277 [])) [.t 29]),.W 5 (.asg (.t 30))] [0,1,5] [5]) (.seq (.reg false [.V 31 (.mv (.t 1)),.V 32 (.call (.c (.fn 276 [])) [.t 31]),.W 6 (.asg (.t 32))] [0,1,5,6] [5,6]) (.seq (.reg false [.V 33 (.mv (.t 0)),.V 34 (.mv (.t 6)),.V 35 (.call (.c (.fn 275 [])) [.t 33,.t 34]),.W 7 (.asg (.t 35))] [1,5,6,7] [5,6,7]) (.seq (.reg false [.V 37 (.mv (.t 6)),.V 38 (.mv (.t 7)),.V 39 (.call (.c (.fn 274 [])) [.t 37,.t 38]),.V 36 (.mv (.t 39)),.V 40 (.ext (.t 36) 0),.V 41 (.ext (.t 36) 1),.W 8 (.asg (.t 40)),.V 9 (.asg (.t 41))] [1,5,6,7,8,9] [5,6,7,8]) (.seq (.reg false [.V 43 (.mv (.t 6)),.V 44 (.mv (.t 8)),.V 45 (.call (.c (.fn 273 [])) [.t 43,.t 44]),.V 42 (.mv (.t 45)),.V 46 (.ext (.t 42) 0),.V 47 (.ext (.t 42) 1),.W 10 (.asg (.t 46)),.V 11 (.asg (.t 47))] [1,5,6,7,9,10,11] [5,6,7,10]) (.seq (.seq (.reg false [.V 48 (.mv (.t 9)),.V 49 (.bin .neq (.t 48) (.c (.int .i64 0))),.V 50 (.mv (.t 49)),.G 51 (.mv (.t 11)) 2 false,.G 52 (.bin .neq (.t 51) (.c (.int .i64 0))) 2 false,.V 53 (.pick (.t 50) (.c (.bool true)) (.t 52)),.V 54 (.mv (.t 53)),.G 55 (.mv (.t 10)) 6 false,.G 56 (.mv (.t 7)) 6 false,.G 57 (.call (.c (.fn 266 [])) [.t 55,.t 56]) 6 false,.G 58 (.un .not (.t 57)) 6 false,.V 59 (.pick (.t 54) (.c (.bool true)) (.t 58))] [1,5,6,59] [5,6]) (.cond (.t 59) (.seq (.reg false [.V 4 (.asg (.c (.bool false)))] [4] []) .ret) .skip)) (.norm [1,5,6] [5,6] laws_FnVersions_k6))))))))) }
noncomputable def laws_FnVersions_D : List (Nat × Callee) := [(77,laws_r8Has_c),(89,laws_r8Long_c),(151,laws_r8At_c),(265,impl_VersionText_c),(266,spec_SameState_c),(267,spec_ValidHistory_c),(268,impl_CommonAncestor_c),(269,impl_HeadsOf_c),(270,impl_AncestorsOf_c),(271,impl_UndoVersion_c),(272,impl_CommitState_c),(273,impl_ApplyChanges_c),(274,impl_DiffStates_c),(275,spec_R8Changed_c),(276,spec_R8State_c),(277,spec_R8History_c)]
def laws_FnVersions_H : List (Nat × ET) := [(5,T_Version),(6,T_Setting),(7,T_Setting),(8,T_Change),(10,T_Setting),(13,T_Version),(16,T_Version),(18,(.one (.int .i64))),(20,(.one (.int .i64))),(24,T_Setting),(26,(.one (.int .u8))),(27,(.one (.int .u8))),(29,(.one (.int .u8))),(30,T_Version),(31,(.one (.int .u8))),(32,T_Setting),(33,(.one (.int .u8))),(34,T_Setting),(35,T_Setting),(37,T_Setting),(38,T_Setting),(40,T_Change),(43,T_Setting),(44,T_Change),(46,T_Setting),(55,T_Setting),(56,T_Setting),(60,(.one (.int .u8))),(61,T_Version),(66,T_Version),(68,T_Setting),(70,T_Version),(72,T_Version),(76,T_Version),(79,T_Version),(82,T_Version),(85,(.one (.int .i64))),(88,T_Version),(90,(.one (.int .i64))),(93,T_Version),(102,T_Version),(112,T_Version),(127,(.one (.int .i64))),(142,T_Version),(146,T_Setting),(149,T_Version),(154,T_Setting),(155,T_Version),(159,T_Setting),(160,T_Setting),(166,(.one (.int .i64))),(172,(.one (.int .i64))),(177,(.one (.int .i64))),(183,(.one (.int .i64))),(194,(.one (.int .i64))),(198,(.one (.int .i64))),(206,T_Version)]
noncomputable def laws_FnVersions_c : Callee := mkCallee laws_FnVersions_D laws_FnVersions_H laws_FnVersions_ir [.d (.one (.sl (.one (.int .u8)))),.d (.one (.sl (.one (.int .u8))))] [.d (.one .bool)] []
noncomputable def laws_FnVersions (a0 : List Int) (a1 : List Int) : Option (Bool) := laws_FnVersions_c.f (a0,a1,())
noncomputable def laws_FnVersions_p0  (v1 : List Int) (v5 : List T_Version.ty) (r6 : List T_Setting.ty) : Option (Bool) :=
 goL laws_FnVersions_D laws_FnVersions_H (vleave laws_FnVersions_ir [.d (.one (.sl (.one (.int .u8)))),.d (.one (.sl (.one (.int .u8))))] [.d (.one .bool)] [] []) [.c laws_FnVersions_k6]
  ⟨[(1,.sl (.one (.int .u8)) v1),(5,.sl T_Version v5),(6,.view 6 0 r6.length)],[(5,none),(6,some (.sl T_Setting r6))]⟩
noncomputable def laws_FnVersions_p1  (v5 : List T_Version.ty) (v12 : Int) (v13 : List T_Version.ty) (v15 : Int) (v16 : List T_Version.ty) (r18 : List Int) : Option (Bool) :=
 goL laws_FnVersions_D laws_FnVersions_H (vleave laws_FnVersions_ir [.d (.one (.sl (.one (.int .u8)))),.d (.one (.sl (.one (.int .u8))))] [.d (.one .bool)] [] []) [.c laws_FnVersions_k5]
  ⟨[(5,.sl T_Version v5),(12,.int .i64 v12),(13,.sl T_Version v13),(15,.int .i64 v15),(16,.sl T_Version v16),(18,.view 18 0 r18.length)],[(5,none),(13,none),(16,none),(18,some (.sl (.one (.int .i64)) r18))]⟩
noncomputable def laws_FnVersions_p2  (v12 : Int) (v13 : List T_Version.ty) (v15 : Int) (v16 : List T_Version.ty) (v24 : List T_Setting.ty) (r18 : List Int) : Option (Bool) :=
 goL laws_FnVersions_D laws_FnVersions_H (vleave laws_FnVersions_ir [.d (.one (.sl (.one (.int .u8)))),.d (.one (.sl (.one (.int .u8))))] [.d (.one .bool)] [] []) [.c laws_FnVersions_k4]
  ⟨[(12,.int .i64 v12),(13,.sl T_Version v13),(15,.int .i64 v15),(16,.sl T_Version v16),(18,.view 18 0 r18.length),(24,.sl T_Setting v24)],[(13,none),(16,none),(18,some (.sl (.one (.int .i64)) r18))]⟩
noncomputable def laws_FnVersions_p3  (v13 : List T_Version.ty) (v15 : Int) (r18 : List Int) : Option (Bool) :=
 goL laws_FnVersions_D laws_FnVersions_H (vleave laws_FnVersions_ir [.d (.one (.sl (.one (.int .u8)))),.d (.one (.sl (.one (.int .u8))))] [.d (.one .bool)] [] []) [.c laws_FnVersions_k3]
  ⟨[(13,.sl T_Version v13),(15,.int .i64 v15),(18,.view 18 0 r18.length)],[(13,none),(18,some (.sl (.one (.int .i64)) r18))]⟩
noncomputable def laws_FnVersions_p4  (v13 : List T_Version.ty) (v15 : Int) (v25 : Int) (r18 : List Int) : Option (Bool) :=
 goL laws_FnVersions_D laws_FnVersions_H (vleave laws_FnVersions_ir [.d (.one (.sl (.one (.int .u8)))),.d (.one (.sl (.one (.int .u8))))] [.d (.one .bool)] [] []) [.c laws_FnVersions_k0,.l laws_FnVersions_k1,.e 0,.c laws_FnVersions_k2]
  ⟨[(13,.sl T_Version v13),(15,.int .i64 v15),(18,.view 18 0 r18.length),(25,.int .i64 v25)],[(13,none),(18,some (.sl (.one (.int .i64)) r18))]⟩
theorem laws_FnVersions_eq (a0 : List Int) (a1 : List Int) : laws_FnVersions a0 a1 =
 (laws_r8Long a0 a1).bind fun x1 =>
  if x1 then
   some true
  else
   (spec_R8History a0).bind fun x2 =>
    (spec_R8State a1).bind fun x3 =>
     (spec_R8Changed a0 (x3.take x3.length)).bind fun x4 =>
      (impl_DiffStates (x3.take x3.length) (x4.take x4.length)).bind fun x5 =>
       (impl_ApplyChanges (x3.take x3.length) (x5.1.take x5.1.length)).bind fun x6 =>
        if (x5.2 != 0) then
         some false
        else
         if (x6.2 != 0) then
          some false
         else
          (spec_SameState (x6.1.take x6.1.length) (x4.take x4.length)).bind fun x7 =>
           if (!x7) then
            some false
           else
            laws_FnVersions_p0 a1 x2 x3 :=
 (mk_f _ _ _ _ _ _ _ 4000).trans (by kernel_rfl)
theorem laws_FnVersions_p0_eq  (v1 : List Int) (v5 : List T_Version.ty) (r6 : List T_Setting.ty) : laws_FnVersions_p0 v1 v5 r6 =
 (laws_r8At v1 0 (IntKind.i64.wrap ((v5.length : Int) + 1))).bind fun x1 =>
  (impl_CommitState v5 x1 [110,101,120,116] (r6.take r6.length)).bind fun x2 =>
   (impl_UndoVersion x2.1 (IntKind.i64.wrap ((v5.length : Int) + 1))).bind fun x3 =>
    (impl_AncestorsOf x2.1 (IntKind.i64.wrap ((v5.length : Int) + 1))).bind fun x4 =>
     (impl_HeadsOf x2.1).bind fun x5 =>
      (impl_CommonAncestor x2.1 (IntKind.i64.wrap ((v5.length : Int) + 1)) (IntKind.i64.wrap ((v5.length : Int) + 1))).bind fun x6 =>
       if (x2.2 != 0) then
        some false
       else
        if ((x2.1.length : Int) != IntKind.i64.wrap ((v5.length : Int) + 1)) then
         some false
        else
         if (x3.2 != 0) then
          some false
         else
          if ((x3.1.length : Int) != IntKind.i64.wrap ((IntKind.i64.wrap ((v5.length : Int) + 1)) + 1)) then
           some false
          else
           if (x4.2 != 0) then
            some false
           else
            if (x5.2 != 0) then
             some false
            else
             (laws_r8Has (x5.1.take x5.1.length) (IntKind.i64.wrap ((v5.length : Int) + 1))).bind fun x7 =>
              if (!x7) then
               some false
              else
               if (x6.2 != 0) then
                some false
               else
                if (x6.1 != IntKind.i64.wrap ((v5.length : Int) + 1)) then
                 some false
                else
                 (spec_ValidHistory x3.1).bind fun x8 =>
                  if (!x8) then
                   some false
                  else
                   laws_FnVersions_p1 v5 x1 x2.1 (IntKind.i64.wrap ((v5.length : Int) + 1)) x3.1 x4.1 :=
 (goL_dn _ _ _ 4000 _ _).trans (by kernel_rfl)
theorem laws_FnVersions_p1_eq  (v5 : List T_Version.ty) (v12 : Int) (v13 : List T_Version.ty) (v15 : Int) (v16 : List T_Version.ty) (r18 : List Int) : laws_FnVersions_p1 v5 v12 v13 v15 v16 r18 =
 if decide (v12 > 0) then
  if decide (0 ≤ IntKind.i64.wrap (v12 - 1)) then
   (v5[(IntKind.i64.wrap (v12 - 1)).toNat]?).bind fun x1 =>
    laws_FnVersions_p2 v12 v13 v15 v16 x1.2.2.2.1 r18
  else
   none
 else
  laws_FnVersions_p2 v12 v13 v15 v16 [] r18 :=
 (goL_dn _ _ _ 4000 _ _).trans (by kernel_rfl)
theorem laws_FnVersions_p2_eq  (v12 : Int) (v13 : List T_Version.ty) (v15 : Int) (v16 : List T_Version.ty) (v24 : List T_Setting.ty) (r18 : List Int) : laws_FnVersions_p2 v12 v13 v15 v16 v24 r18 =
 if decide (0 ≤ v15) then
  (v16[v15.toNat]?).bind fun x1 =>
   (spec_SameState x1.2.2.2.1 v24).bind fun x2 =>
    if (!x2) then
     some false
    else
     (laws_r8Has (r18.take r18.length) v12).bind fun x3 =>
      if (!(decide (v12 > 0) == x3)) then
       some false
      else
       laws_FnVersions_p3 v13 v15 r18
 else
  none :=
 (goL_dn _ _ _ 4000 _ _).trans (by kernel_rfl)
theorem laws_FnVersions_p3_eq  (v13 : List T_Version.ty) (v15 : Int) (r18 : List Int) : laws_FnVersions_p3 v13 v15 r18 =
 laws_FnVersions_p4 v13 v15 0 r18 :=
 (goL_dn _ _ _ 4000 _ _).trans (by kernel_rfl)
theorem laws_FnVersions_p4_eq  (v13 : List T_Version.ty) (v15 : Int) (v25 : Int) (r18 : List Int) : laws_FnVersions_p4 v13 v15 v25 r18 =
 if decide (v25 < (r18.length : Int)) then
  if decide (0 ≤ v25) && decide (v25 < (r18.length : Int)) then
   (r18[v25.toNat]?).bind fun x1 =>
    if decide (x1 < 1) then
     some false
    else
     if decide (0 ≤ v25) && decide (v25 < (r18.length : Int)) then
      (r18[v25.toNat]?).bind fun x2 =>
       if decide (x2 ≥ v15) then
        some false
       else
        if decide (v25 > 0) then
         if decide (0 ≤ v25) && decide (v25 < (r18.length : Int)) then
          (r18[v25.toNat]?).bind fun x3 =>
           if decide (0 ≤ IntKind.i64.wrap (v25 - 1)) && decide (IntKind.i64.wrap (v25 - 1) < (r18.length : Int)) then
            (r18[(IntKind.i64.wrap (v25 - 1)).toNat]?).bind fun x4 =>
             if decide (x3 ≥ x4) then
              some false
             else
              laws_FnVersions_p4 v13 v15 (IntKind.i64.wrap (v25 + 1)) r18
           else
            none
         else
          none
        else
         laws_FnVersions_p4 v13 v15 (IntKind.i64.wrap (v25 + 1)) r18
     else
      none
  else
   none
 else
  if decide (0 ≤ IntKind.i64.wrap (v15 - 1)) then
   (v13[(IntKind.i64.wrap (v15 - 1)).toNat]?).bind fun x5 =>
    (impl_VersionText x5).bind fun x6 =>
     some (!(x6 == []))
  else
   none :=
 (goL_dn _ _ _ 4000 _ _).trans (by kernel_rfl)
end Go.Ab.P
