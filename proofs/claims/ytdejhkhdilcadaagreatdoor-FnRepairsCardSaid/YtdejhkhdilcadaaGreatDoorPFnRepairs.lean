/- Functions of the program: abstract forms, and what their runs give. Conditions: none. -/
import Derived.Test.YtdejhkhdilcadaaGreatDoorL4
set_option maxRecDepth 100000
set_option linter.unusedVariables false
namespace Go.Ab.P
open Go.Ab
@[reducible] def T_Step : ET := .agg (.cons .str (.cons (.int .i64) (.cons (.int .i64) (.cons (.sl (.one (.int .i64))) .nil))))
@[reducible] def T_l00Src : ET := .agg (.cons (.sl (.one (.int .u8))) (.cons (.int .i64) (.cons (.int .u64) .nil)))
def laws_r8Long_ir : Fn := { np := 2,io := [],res := [.t 4],own := [false],body :=
 (.seq (.reg false [.V 4 (.asg (.c (.bool false)))] [0,1] []) (.seq (.reg false [.V 5 (.mv (.t 0)),.V 6 (.len (.t 5)),.V 7 (.bin .gtr (.t 6) (.c (.int .i64 1048576))),.V 8 (.mv (.t 7)),.G 9 (.mv (.t 1)) 3 false,.G 10 (.len (.t 9)) 3 false,.G 11 (.bin .gtr (.t 10) (.c (.int .i64 1048576))) 3 false,.V 12 (.pick (.t 8) (.c (.bool true)) (.t 11)),.V 4 (.asg (.t 12))] [4] []) .ret)) }
noncomputable def laws_r8Long_D : List (Nat × Callee) := []
def laws_r8Long_H : List (Nat × ET) := [(5,(.one (.int .u8))),(9,(.one (.int .u8)))]
noncomputable def laws_r8Long_c : Callee := mkCallee laws_r8Long_D laws_r8Long_H laws_r8Long_ir [.d (.one (.sl (.one (.int .u8)))),.d (.one (.sl (.one (.int .u8))))] [.d (.one .bool)] []
noncomputable def laws_r8Long (a0 : List Int) (a1 : List Int) : Option (Bool) := laws_r8Long_c.f (a0,a1,())
theorem laws_r8Long_eq (a0 : List Int) (a1 : List Int) : laws_r8Long a0 a1 =
 if decide ((a0.length : Int) > 1048576) then
  some true
 else
  some (decide ((a1.length : Int) > 1048576)) :=
 (mk_f _ _ _ _ _ _ _ 4000).trans (by kernel_rfl)
def spec_l00From_ir : Fn := { np := 1,io := [],res := [.t 2],own := [true],body :=
 (.seq (.reg false [.V 2 (.asg (.c (.cst (.pointer none))))] [0] []) (.seq (.reg false [.V 3 (.mv (.t 0)),.V 4 (.build [.nils 1,.int .i64 0,.int .u64 0] [(0,1,.t 3)]),.W 5 (.box 3 (.t 4)),.V 2 (.asg (.t 5))] [2] [5,6000]) .ret)) }
noncomputable def spec_l00From_D : List (Nat × Callee) := []
def spec_l00From_H : List (Nat × ET) := [(3,(.one (.int .u8)))]
noncomputable def spec_l00From_c : Callee := mkCallee spec_l00From_D spec_l00From_H spec_l00From_ir [.d (.one (.sl (.one (.int .u8))))] [.box T_l00Src] []
noncomputable def spec_l00From (a0 : List Int) : Option (T_l00Src.ty) := spec_l00From_c.f (a0,())
theorem spec_l00From_eq (a0 : List Int) : spec_l00From a0 =
 some (a0,0,0,()) :=
 (mk_f _ _ _ _ _ _ _ 4000).trans (by kernel_rfl)
def spec_l00Src_next_k0 : C :=
 .seq (.reg false [.V 25 (.mv (.t 0)),.V 26 (.nilck (.t 25)),.V 27 (.fa 1 (.t 26)),.V 28 (.ld none (.t 27)),.V 29 (.bin .add (.t 28) (.c (.int .i64 1))),.V 30 (.nilck (.t 25)),.V 31 (.fa 1 (.t 30)),⟨none,true,.sto 1 (.t 31) (.t 29),none,false,[]⟩] [0,3] [0,1000]) (.seq (.reg false [.V 32 (.mv (.t 0)),.V 33 (.mv (.t 0)),.V 34 (.nilck (.t 33)),.V 35 (.fa 2 (.t 34)),.V 36 (.ld none (.t 35)),.V 37 (.bin .mul (.t 36) (.c (.int .u64 6364136223846793005))),.V 38 (.mv (.t 3)),.V 39 (.conv (.int .u64) (.t 38)),.V 40 (.bin .add (.t 37) (.t 39)),.V 41 (.bin .add (.t 40) (.c (.int .u64 1442695040888963407))),.V 42 (.nilck (.t 32)),.V 43 (.fa 2 (.t 42)),⟨none,true,.sto 1 (.t 43) (.t 41),none,false,[]⟩] [0,3] [0,1000]) (.seq (.seq (.reg true [.V 44 (.mv (.t 0)),.V 45 (.nilck (.t 44)),.V 46 (.fa 1 (.t 45)),.V 47 (.ld none (.t 46)),.V 48 (.mv (.t 0)),.V 49 (.nilck (.t 48)),.V 50 (.fa 0 (.t 49)),.V 51 (.ld none (.t 50)),.V 52 (.len (.t 51)),.V 53 (.bin .leq (.t 47) (.t 52))] [0,3,53] [0,1000]) (.cond (.t 53) (.seq (.reg false [.V 54 (.mv (.t 3)),.V 2 (.asg (.t 54))] [0,2] [0,1000]) .ret) .skip)) (.seq (.reg false [.V 55 (.mv (.t 0)),.V 56 (.nilck (.t 55)),.V 57 (.fa 2 (.t 56)),.V 58 (.ld none (.t 57)),.V 59 (.bin .shr (.t 58) (.c (.int .u64 40))),.V 60 (.bin .and (.t 59) (.c (.int .u64 255))),.V 61 (.conv (.int .i64) (.t 60)),.V 2 (.asg (.t 61))] [0,2] [0,1000]) .ret)))
def spec_l00Src_next_ir : Fn := { np := 1,io := [true],res := [.t 2],own := [false],body :=
 (.seq (.reg false [.V 2 (.asg (.c (.int .i64 0)))] [0] [0,1000]) (.seq (.reg false [.V 3 (.asg (.c (.int .i64 0)))] [0,3] [0,1000]) (.seq (.seq (.reg true [.V 4 (.mv (.t 0)),.V 5 (.nilck (.t 4)),.V 6 (.fa 1 (.t 5)),.V 7 (.ld none (.t 6)),.V 8 (.mv (.t 0)),.V 9 (.nilck (.t 8)),.V 10 (.fa 0 (.t 9)),.V 11 (.ld none (.t 10)),.V 12 (.len (.t 11)),.V 13 (.bin .lss (.t 7) (.t 12))] [0,3,13] [0,1000]) (.cond (.t 13) (.reg true [.V 14 (.mv (.t 0)),.V 15 (.nilck (.t 14)),.V 16 (.fa 0 (.t 15)),.V 17 (.ld none (.t 16)),.V 18 (.mv (.t 0)),.V 19 (.nilck (.t 18)),.V 20 (.fa 1 (.t 19)),.V 21 (.ld none (.t 20)),.V 22 (.ia 1 (.t 17) (.t 21)),.V 23 (.ld none (.t 22)),.V 24 (.conv (.int .i64) (.t 23)),.V 3 (.asg (.t 24))] [0,3] [0,1000]) .skip)) (.norm [0,3] [0,1000] spec_l00Src_next_k0)))) }
noncomputable def spec_l00Src_next_D : List (Nat × Callee) := []
def spec_l00Src_next_H : List (Nat × ET) := [(11,(.one (.int .u8))),(17,(.one (.int .u8))),(51,(.one (.int .u8)))]
noncomputable def spec_l00Src_next_c : Callee := mkCallee spec_l00Src_next_D spec_l00Src_next_H spec_l00Src_next_ir [.box T_l00Src] [.d (.one (.int .i64))] [.box T_l00Src]
noncomputable def spec_l00Src_next (a0 : T_l00Src.ty) : Option (Int × T_l00Src.ty) := spec_l00Src_next_c.f (a0,())
noncomputable def spec_l00Src_next_p0  (v3 : Int) (r0_0 : List Int) (r0_1 : Int) (r0_2 : Int) : Option (Int × T_l00Src.ty) :=
 goL spec_l00Src_next_D spec_l00Src_next_H (vleave spec_l00Src_next_ir [.box T_l00Src] [.d (.one (.int .i64))] [.box T_l00Src] []) [.c spec_l00Src_next_k0]
  ⟨[(0,.loc 0 0 0),(3,.int .i64 v3)],[(0,some (.var 3 (.agg [.sl (.one (.int .u8)) r0_0,.int .i64 r0_1,.int .u64 r0_2]))),(1000,none)]⟩
theorem spec_l00Src_next_eq (a0 : T_l00Src.ty) : spec_l00Src_next a0 =
 if decide (a0.2.1 < (a0.1.length : Int)) then
  if decide (0 ≤ a0.2.1) then
   (a0.1[a0.2.1.toNat]?).bind fun x1 =>
    spec_l00Src_next_p0 (IntKind.i64.wrap x1) a0.1 a0.2.1 a0.2.2.1
  else
   none
 else
  spec_l00Src_next_p0 0 a0.1 a0.2.1 a0.2.2.1 :=
 (mk_f _ _ _ _ _ _ _ 4000).trans (by kernel_rfl)
theorem spec_l00Src_next_p0_eq  (v3 : Int) (r0_0 : List Int) (r0_1 : Int) (r0_2 : Int) : spec_l00Src_next_p0 v3 r0_0 r0_1 r0_2 =
 if decide (IntKind.i64.wrap (r0_1 + 1) ≤ (r0_0.length : Int)) then
  some (v3,(r0_0,IntKind.i64.wrap (r0_1 + 1),IntKind.u64.wrap ((IntKind.u64.wrap ((IntKind.u64.wrap (r0_2 * 6364136223846793005)) + (IntKind.u64.wrap v3))) + 1442695040888963407),()))
 else
  some (IntKind.i64.wrap (IntKind.u64.wrap ((BitVec.ofInt IntKind.u64.bits (Int.fdiv (IntKind.u64.wrap ((IntKind.u64.wrap ((IntKind.u64.wrap (r0_2 * 6364136223846793005)) + (IntKind.u64.wrap v3))) + 1442695040888963407)) (2 ^ (min (40 : Int).toNat IntKind.u64.bits))) &&& BitVec.ofInt IntKind.u64.bits 255).toNat : Int)),(r0_0,IntKind.i64.wrap (r0_1 + 1),IntKind.u64.wrap ((IntKind.u64.wrap ((IntKind.u64.wrap (r0_2 * 6364136223846793005)) + (IntKind.u64.wrap v3))) + 1442695040888963407),())) :=
 (goL_dn _ _ _ 4000 _ _).trans (by kernel_rfl)
def spec_l00Src_pick_ir : Fn := { np := 2,io := [true,false],res := [.t 4],own := [false],body :=
 (.seq (.reg false [.V 4 (.asg (.c (.int .i64 0)))] [0,1] [0,1000]) (.seq (.seq (.reg false [.V 6 (.mv (.t 1)),.V 7 (.bin .leq (.t 6) (.c (.int .i64 1)))] [0,1,7] [0,1000]) (.cond (.t 7) (.seq (.reg false [.V 4 (.asg (.c (.int .i64 0)))] [0,4] [0,1000]) .ret) .skip)) (.seq (.reg false [.V 8 (.mv (.t 0)),.W 9 (.call (.c (.fn 847 [])) [.t 8]),.V 5 (.asg (.t 9))] [0,1,5] [0,1000]) (.seq (.seq (.reg false [.V 10 (.mv (.t 1)),.V 11 (.bin .gtr (.t 10) (.c (.int .i64 200)))] [0,1,5,11] [0,1000]) (.cond (.t 11) (.reg false [.V 12 (.mv (.t 5)),.V 13 (.bin .mul (.t 12) (.c (.int .i64 256))),.V 14 (.mv (.t 0)),.W 15 (.call (.c (.fn 847 [])) [.t 14]),.V 16 (.bin .add (.t 13) (.t 15)),.V 5 (.asg (.t 16))] [0,1,5] [0,1000]) .skip)) (.seq (.reg false [.V 17 (.mv (.t 5)),.V 18 (.mv (.t 1)),.V 19 (.bin .rem (.t 17) (.t 18)),.V 4 (.asg (.t 19))] [0,4] [0,1000]) .ret))))) }
noncomputable def spec_l00Src_pick_D : List (Nat × Callee) := [(847,spec_l00Src_next_c)]
def spec_l00Src_pick_H : List (Nat × ET) := []
noncomputable def spec_l00Src_pick_c : Callee := mkCallee spec_l00Src_pick_D spec_l00Src_pick_H spec_l00Src_pick_ir [.box T_l00Src,.d (.one (.int .i64))] [.d (.one (.int .i64))] [.box T_l00Src]
noncomputable def spec_l00Src_pick (a0 : T_l00Src.ty) (a1 : Int) : Option (Int × T_l00Src.ty) := spec_l00Src_pick_c.f (a0,a1,())
theorem spec_l00Src_pick_eq (a0 : T_l00Src.ty) (a1 : Int) : spec_l00Src_pick a0 a1 =
 if decide (a1 ≤ 1) then
  some (0,a0)
 else
  (spec_l00Src_next a0).bind fun x1 =>
   if decide (a1 > 200) then
    (spec_l00Src_next (x1.2.1,x1.2.2.1,x1.2.2.2.1,())).bind fun x2 =>
     if decide (a1 = 0) then
      none
     else
      some ((IntKind.i64.wrap ((IntKind.i64.wrap (x1.1 * 256)) + x2.1)).tmod a1,(x2.2.1,x2.2.2.1,x2.2.2.2.1,()))
   else
    if decide (a1 = 0) then
     none
    else
     some (x1.1.tmod a1,(x1.2.1,x1.2.2.1,x1.2.2.2.1,())) :=
 (mk_f _ _ _ _ _ _ _ 4000).trans (by kernel_rfl)
def spec_l00Src_one_ir : Fn := { np := 2,io := [true,false],res := [.t 4],own := [false],body :=
 (.seq (.reg false [.V 4 (.asg (.c (.bool false)))] [0,1] [0,1000]) (.seq (.reg false [.V 5 (.mv (.t 0)),.V 6 (.mv (.t 1)),.W 7 (.call (.c (.fn 463 [])) [.t 5,.t 6]),.V 8 (.bin .eql (.t 7) (.c (.int .i64 0))),.V 4 (.asg (.t 8))] [0,4] [0,1000]) .ret)) }
noncomputable def spec_l00Src_one_D : List (Nat × Callee) := [(463,spec_l00Src_pick_c)]
def spec_l00Src_one_H : List (Nat × ET) := []
noncomputable def spec_l00Src_one_c : Callee := mkCallee spec_l00Src_one_D spec_l00Src_one_H spec_l00Src_one_ir [.box T_l00Src,.d (.one (.int .i64))] [.d (.one .bool)] [.box T_l00Src]
noncomputable def spec_l00Src_one (a0 : T_l00Src.ty) (a1 : Int) : Option (Bool × T_l00Src.ty) := spec_l00Src_one_c.f (a0,a1,())
theorem spec_l00Src_one_eq (a0 : T_l00Src.ty) (a1 : Int) : spec_l00Src_one a0 a1 =
 (spec_l00Src_pick a0 a1).bind fun x1 =>
  some ((x1.1 == 0),(x1.2.1,x1.2.2.1,x1.2.2.2.1,())) :=
 (mk_f _ _ _ _ _ _ _ 4000).trans (by kernel_rfl)
def spec_l17DrawOne_k0 : C :=
 .seq (.seq (.reg false [.V 17 (.mv (.t 8)),.V 18 (.mv (.t 2)),.V 19 (.bin .lss (.t 17) (.t 18))] [0,2,6,7,8,19] [0,6,7,1000,7003,8003]) (.cond (.t 19) .skip (.exit 0))) (.seq (.block 1 (.seq (.reg false [.V 22 (.mv (.t 0)),.W 23 (.call (.c (.fn 642 [])) [.t 22,.c (.int .i64 3)])] [0,2,6,7,8,23] [0,6,7,1000,7003,8003]) (.cond (.t 23) (.reg false [.V 24 (.fa 3 (.t 7)),.V 25 (.ld none (.t 24)),.V 26 (.mv (.t 8)),.V 27 (.bsl 1 (.int .i64 0) 1 [(0,.t 26)]),.W 28 (.app 1 8 (.t 25) (.t 27)),.V 29 (.fa 3 (.t 7)),⟨none,true,.sto 1 (.t 29) (.t 28),none,false,[]⟩] [0,2,6,7,8] [0,6,7,1000,7003,8003]) .skip))) (.reg false [.V 20 (.mv (.t 8)),.V 21 (.bin .add (.t 20) (.c (.int .i64 1))),.V 8 (.asg (.t 21))] [0,2,6,7,8] [0,6,7,1000,7003,8003]))
def spec_l17DrawOne_k1 : C :=
 .norm [0,2,6,7,8] [0,6,7,1000,7003,8003] spec_l17DrawOne_k0
def spec_l17DrawOne_k2 : C :=
 .seq (.reg false [.V 30 (.ld (some 4) (.t 7)),⟨none,true,.sto 4 (.t 6) (.t 30),none,false,[]⟩] [0,6] [0,6,1000,7003]) .ret
def spec_l17DrawOne_ir : Fn := { np := 3,io := [true,false,false],res := [.cell 6 (some 4)],own := [false],body :=
 (.seq (.reg false [.W 6 (.alloc 4 (.agg [.str [],.int .i64 0,.int .i64 0,.nils 1]))] [0,1,2,6] [0,6,1000,7003]) (.seq (.reg false [.V 9 (.mv (.t 1)),.V 10 (.mv (.t 0)),.W 11 (.call (.c (.fn 463 [])) [.t 10,.c (.int .i64 12)]),.V 12 (.bin .add (.c (.int .i64 1)) (.t 11)),.V 13 (.mv (.t 0)),.W 14 (.call (.c (.fn 463 [])) [.t 13,.c (.int .i64 7)]),.V 15 (.bsl 1 (.int .i64 0) 0 []),.V 16 (.build [.str [],.int .i64 0,.int .i64 0,.nils 1] [(0,1,.t 9),(1,1,.t 12),(2,1,.t 14),(3,1,.t 15)]),.W 7 (.alloc 4 (.agg [.str [],.int .i64 0,.int .i64 0,.nils 1])),⟨none,true,.sto 4 (.t 7) (.t 16),none,false,[]⟩] [0,2,6,7] [0,6,7,1000,7003,8003]) (.seq (.seq (.reg false [.V 8 (.asg (.c (.int .i64 0)))] [0,2,6,7,8] [0,6,7,1000,7003,8003]) (.block 0 (.loop spec_l17DrawOne_k1))) spec_l17DrawOne_k2))) }
noncomputable def spec_l17DrawOne_D : List (Nat × Callee) := [(463,spec_l00Src_pick_c),(642,spec_l00Src_one_c)]
def spec_l17DrawOne_H : List (Nat × ET) := [(15,(.one (.int .i64))),(25,(.one (.int .i64))),(27,(.one (.int .i64))),(28,(.one (.int .i64)))]
noncomputable def spec_l17DrawOne_c : Callee := mkCallee spec_l17DrawOne_D spec_l17DrawOne_H spec_l17DrawOne_ir [.box T_l00Src,.d (.one .str),.d (.one (.int .i64))] [.d T_Step] [.box T_l00Src]
noncomputable def spec_l17DrawOne (a0 : T_l00Src.ty) (a1 : List UInt8) (a2 : Int) : Option (T_Step.ty × T_l00Src.ty) := spec_l17DrawOne_c.f (a0,a1,a2,())
noncomputable def spec_l17DrawOne_p0  (v2 : Int) (v8 : Int) (r0_0 : List Int) (r0_1 : Int) (r0_2 : Int) (r6_0 : List UInt8) (r6_1 : Int) (r6_2 : Int) (r7_0 : List UInt8) (r7_1 : Int) (r7_2 : Int) (r8003 : List Int) : Option (T_Step.ty × T_l00Src.ty) :=
 goL spec_l17DrawOne_D spec_l17DrawOne_H (vleave spec_l17DrawOne_ir [.box T_l00Src,.d (.one .str),.d (.one (.int .i64))] [.d T_Step] [.box T_l00Src] []) [.c spec_l17DrawOne_k0,.l spec_l17DrawOne_k1,.e 0,.c spec_l17DrawOne_k2]
  ⟨[(0,.loc 0 0 0),(2,.int .i64 v2),(6,.loc 6 0 0),(7,.loc 7 0 0),(8,.int .i64 v8)],[(0,some (.var 3 (.agg [.sl (.one (.int .u8)) r0_0,.int .i64 r0_1,.int .u64 r0_2]))),(6,some (.var 4 (.agg [.str r6_0,.int .i64 r6_1,.int .i64 r6_2,.nils 1]))),(7,some (.var 4 (.agg [.str r7_0,.int .i64 r7_1,.int .i64 r7_2,.view 8003 0 r8003.length]))),(1000,none),(7003,none),(8003,some (.sl (.one (.int .i64)) r8003))]⟩
theorem spec_l17DrawOne_eq (a0 : T_l00Src.ty) (a1 : List UInt8) (a2 : Int) : spec_l17DrawOne a0 a1 a2 =
 (spec_l00Src_pick a0 12).bind fun x1 =>
  (spec_l00Src_pick (x1.2.1,x1.2.2.1,x1.2.2.2.1,()) 7).bind fun x2 =>
   spec_l17DrawOne_p0 a2 0 x2.2.1 x2.2.2.1 x2.2.2.2.1 [] 0 0 a1 (IntKind.i64.wrap (1 + x1.1)) x2.1 [] :=
 (mk_f _ _ _ _ _ _ _ 4000).trans (by kernel_rfl)
theorem spec_l17DrawOne_p0_eq  (v2 : Int) (v8 : Int) (r0_0 : List Int) (r0_1 : Int) (r0_2 : Int) (r6_0 : List UInt8) (r6_1 : Int) (r6_2 : Int) (r7_0 : List UInt8) (r7_1 : Int) (r7_2 : Int) (r8003 : List Int) : spec_l17DrawOne_p0 v2 v8 r0_0 r0_1 r0_2 r6_0 r6_1 r6_2 r7_0 r7_1 r7_2 r8003 =
 if decide (v8 < v2) then
  (spec_l00Src_one (r0_0,r0_1,r0_2,()) 3).bind fun x1 =>
   if x1.1 then
    if decide (r8003.length + 1 < lim) then
     spec_l17DrawOne_p0 v2 (IntKind.i64.wrap (v8 + 1)) x1.2.1 x1.2.2.1 x1.2.2.2.1 r6_0 r6_1 r6_2 r7_0 r7_1 r7_2 ((r8003.take r8003.length) ++ [v8])
    else
     none
   else
    spec_l17DrawOne_p0 v2 (IntKind.i64.wrap (v8 + 1)) x1.2.1 x1.2.2.1 x1.2.2.2.1 r6_0 r6_1 r6_2 r7_0 r7_1 r7_2 r8003
 else
  some ((r7_0,r7_1,r7_2,(r8003.take r8003.length),()),(r0_0,r0_1,r0_2,())) :=
 (goL_dn _ _ _ 4000 _ _).trans (by kernel_rfl)
def spec_l17Draw_k0 : C :=
 .seq (.seq (.reg false [.V 8 (.mv (.t 5)),.V 9 (.mv (.t 3)),.V 10 (.len (.t 9)),.V 11 (.bin .lss (.t 8) (.t 10))] [0,3,4,5,11] [0,3,4,1000]) (.cond (.t 11) .skip (.exit 0))) (.seq (.block 1 (.seq (.reg false [.V 14 (.mv (.t 0)),.W 15 (.call (.c (.fn 463 [])) [.t 14,.c (.int .i64 3)]),.V 16 (.bin .gtr (.t 15) (.c (.int .i64 0)))] [0,3,4,5,16] [0,3,4,1000]) (.cond (.t 16) (.reg false [.V 17 (.mv (.t 4)),.V 18 (.mv (.t 0)),.V 19 (.mv (.t 3)),.V 20 (.mv (.t 5)),.V 21 (.ia 1 (.t 19) (.t 20)),.V 22 (.ld none (.t 21)),.V 23 (.mv (.t 4)),.V 24 (.len (.t 23)),.W 25 (.call (.c (.fn 845 [])) [.t 18,.t 22,.t 24]),.V 26 (.bsl 4 (.agg [.str [],.int .i64 0,.int .i64 0,.sl 1 []]) 1 [(0,.t 25)]),.W 27 (.app 4 56 (.t 17) (.t 26)),.W 4 (.asg (.t 27))] [0,3,4,5] [0,3,4,1000]) .skip))) (.reg false [.V 12 (.mv (.t 5)),.V 13 (.bin .add (.t 12) (.c (.int .i64 1))),.V 5 (.asg (.t 13))] [0,3,4,5] [0,3,4,1000]))
def spec_l17Draw_k1 : C :=
 .norm [0,3,4,5] [0,3,4,1000] spec_l17Draw_k0
def spec_l17Draw_k2 : C :=
 .seq (.reg false [.V 28 (.mv (.t 4)),.W 2 (.asg (.t 28))] [0,2] [0,2,4,1000]) .ret
def spec_l17Draw_ir : Fn := { np := 1,io := [true],res := [.t 2],own := [false],body :=
 (.seq (.reg false [.W 2 (.asg (.c (.nils 4)))] [0] [0,1000]) (.seq (.reg false [.V 6 (.bsl 1 (.str []) 6 [(0,.c (.str [111,112,101,110])),(1,.c (.str [99,108,101,97,110])),(2,.c (.str [103,108,117,101])),(3,.c (.str [112,97,116,99,104])),(4,.c (.str [99,108,111,115,101])),(5,.c (.str [112,111,108,105,115,104]))]),.W 3 (.asg (.t 6))] [0,3] [0,3,1000]) (.seq (.reg false [.V 7 (.bsl 4 (.agg [.str [],.int .i64 0,.int .i64 0,.sl 1 []]) 0 []),.W 4 (.asg (.t 7))] [0,3,4] [0,3,4,1000]) (.seq (.seq (.reg false [.V 5 (.asg (.c (.int .i64 0)))] [0,3,4,5] [0,3,4,1000]) (.block 0 (.loop spec_l17Draw_k1))) spec_l17Draw_k2)))) }
noncomputable def spec_l17Draw_D : List (Nat × Callee) := [(463,spec_l00Src_pick_c),(845,spec_l17DrawOne_c)]
def spec_l17Draw_H : List (Nat × ET) := [(2,T_Step),(3,(.one .str)),(4,T_Step),(6,(.one .str)),(7,T_Step),(9,(.one .str)),(17,T_Step),(19,(.one .str)),(23,T_Step),(26,T_Step),(27,T_Step),(28,T_Step)]
noncomputable def spec_l17Draw_c : Callee := mkCallee spec_l17Draw_D spec_l17Draw_H spec_l17Draw_ir [.box T_l00Src] [.d (.one (.sl T_Step))] [.box T_l00Src]
noncomputable def spec_l17Draw (a0 : T_l00Src.ty) : Option (List T_Step.ty × T_l00Src.ty) := spec_l17Draw_c.f (a0,())
noncomputable def spec_l17Draw_p0  (v5 : Int) (r0_0 : List Int) (r0_1 : Int) (r0_2 : Int) (r3 : List (List UInt8)) (r4 : List T_Step.ty) : Option (List T_Step.ty × T_l00Src.ty) :=
 goL spec_l17Draw_D spec_l17Draw_H (vleave spec_l17Draw_ir [.box T_l00Src] [.d (.one (.sl T_Step))] [.box T_l00Src] []) [.c spec_l17Draw_k0,.l spec_l17Draw_k1,.e 0,.c spec_l17Draw_k2]
  ⟨[(0,.loc 0 0 0),(3,.view 3 0 r3.length),(4,.view 4 0 r4.length),(5,.int .i64 v5)],[(0,some (.var 3 (.agg [.sl (.one (.int .u8)) r0_0,.int .i64 r0_1,.int .u64 r0_2]))),(3,some (.sl (.one .str) r3)),(4,some (.sl T_Step r4)),(1000,none)]⟩
theorem spec_l17Draw_eq (a0 : T_l00Src.ty) : spec_l17Draw a0 =
 spec_l17Draw_p0 0 a0.1 a0.2.1 a0.2.2.1 [[111,112,101,110],[99,108,101,97,110],[103,108,117,101],[112,97,116,99,104],[99,108,111,115,101],[112,111,108,105,115,104]] [] :=
 (mk_f _ _ _ _ _ _ _ 4000).trans (by kernel_rfl)
theorem spec_l17Draw_p0_eq  (v5 : Int) (r0_0 : List Int) (r0_1 : Int) (r0_2 : Int) (r3 : List (List UInt8)) (r4 : List T_Step.ty) : spec_l17Draw_p0 v5 r0_0 r0_1 r0_2 r3 r4 =
 if decide (v5 < (r3.length : Int)) then
  (spec_l00Src_pick (r0_0,r0_1,r0_2,()) 3).bind fun x1 =>
   if decide (x1.1 > 0) then
    if decide (0 ≤ v5) && decide (v5 < (r3.length : Int)) then
     (r3[v5.toNat]?).bind fun x2 =>
      (spec_l17DrawOne (x1.2.1,x1.2.2.1,x1.2.2.2.1,()) x2 (r4.length : Int)).bind fun x3 =>
       if decide (r4.length + 1 < lim) then
        spec_l17Draw_p0 (IntKind.i64.wrap (v5 + 1)) x3.2.1 x3.2.2.1 x3.2.2.2.1 r3 ((r4.take r4.length) ++ [(x3.1.1,x3.1.2.1,x3.1.2.2.1,x3.1.2.2.2.1,())])
       else
        none
    else
     none
   else
    spec_l17Draw_p0 (IntKind.i64.wrap (v5 + 1)) x1.2.1 x1.2.2.1 x1.2.2.2.1 r3 r4
 else
  some ((r4.take r4.length),(r0_0,r0_1,r0_2,())) :=
 (goL_dn _ _ _ 4000 _ _).trans (by kernel_rfl)
def spec_R8Steps_ir : Fn := { np := 1,io := [],res := [.t 2],own := [false],body :=
 (.seq (.reg false [.W 2 (.asg (.c (.nils 4)))] [0] []) (.seq (.reg false [.V 4 (.mv (.t 0)),.W 5 (.call (.c (.fn 441 [])) [.t 4]),.V 3 (.asg (.t 5))] [3] [5,6000]) (.seq (.reg false [.V 6 (.mv (.t 3)),.W 7 (.call (.c (.fn 453 [])) [.t 6]),.W 2 (.asg (.t 7))] [2] [2]) .ret))) }
noncomputable def spec_R8Steps_D : List (Nat × Callee) := [(441,spec_l00From_c),(453,spec_l17Draw_c)]
def spec_R8Steps_H : List (Nat × ET) := [(2,T_Step),(4,(.one (.int .u8))),(7,T_Step)]
noncomputable def spec_R8Steps_c : Callee := mkCallee spec_R8Steps_D spec_R8Steps_H spec_R8Steps_ir [.d (.one (.sl (.one (.int .u8))))] [.d (.one (.sl T_Step))] []
noncomputable def spec_R8Steps (a0 : List Int) : Option (List T_Step.ty) := spec_R8Steps_c.f (a0,())
theorem spec_R8Steps_eq (a0 : List Int) : spec_R8Steps a0 =
 (spec_l00From a0).bind fun x1 =>
  (spec_l17Draw x1).bind fun x2 =>
   some x2.1 :=
 (mk_f _ _ _ _ _ _ _ 4000).trans (by kernel_rfl)
def impl_within_ir : Fn := { np := 3,io := [],res := [.t 6],own := [false],body :=
 (.seq (.reg false [.V 6 (.asg (.c (.bool false)))] [0,1,2] []) (.seq (.reg false [.V 7 (.mv (.t 1)),.V 8 (.mv (.t 0)),.V 9 (.bin .leq (.t 7) (.t 8)),.V 10 (.mv (.t 9)),.G 11 (.mv (.t 0)) 3 true,.G 12 (.mv (.t 2)) 3 true,.G 13 (.bin .leq (.t 11) (.t 12)) 3 true,.V 14 (.pick (.t 10) (.t 13) (.c (.bool false))),.V 6 (.asg (.t 14))] [6] []) .ret)) }
noncomputable def impl_within_D : List (Nat × Callee) := []
def impl_within_H : List (Nat × ET) := []
noncomputable def impl_within_c : Callee := mkCallee impl_within_D impl_within_H impl_within_ir [.d (.one (.int .i64)),.d (.one (.int .i64)),.d (.one (.int .i64))] [.d (.one .bool)] []
noncomputable def impl_within (a0 : Int) (a1 : Int) (a2 : Int) : Option (Bool) := impl_within_c.f (a0,a1,a2,())
theorem impl_within_eq (a0 : Int) (a1 : Int) (a2 : Int) : impl_within a0 a1 a2 =
 if decide (a1 ≤ a0) then
  some (decide (a0 ≤ a2))
 else
  some false :=
 (mk_f _ _ _ _ _ _ _ 4000).trans (by kernel_rfl)
def impl_isDigit_ir : Fn := { np := 1,io := [],res := [.t 2],own := [false],body :=
 (.seq (.reg false [.V 2 (.asg (.c (.bool false)))] [0] []) (.seq (.reg false [.V 3 (.mv (.t 0)),.V 4 (.bin .geq (.t 3) (.c (.int .u8 48))),.V 5 (.mv (.t 4)),.G 6 (.mv (.t 0)) 2 true,.G 7 (.bin .leq (.t 6) (.c (.int .u8 57))) 2 true,.V 8 (.pick (.t 5) (.t 7) (.c (.bool false))),.V 2 (.asg (.t 8))] [2] []) .ret)) }
noncomputable def impl_isDigit_D : List (Nat × Callee) := []
def impl_isDigit_H : List (Nat × ET) := []
noncomputable def impl_isDigit_c : Callee := mkCallee impl_isDigit_D impl_isDigit_H impl_isDigit_ir [.d (.one (.int .u8))] [.d (.one .bool)] []
noncomputable def impl_isDigit (a0 : Int) : Option (Bool) := impl_isDigit_c.f (a0,())
theorem impl_isDigit_eq (a0 : Int) : impl_isDigit a0 =
 if decide (a0 ≥ 48) then
  some (decide (a0 ≤ 57))
 else
  some false :=
 (mk_f _ _ _ _ _ _ _ 4000).trans (by kernel_rfl)
def impl_few_ir : Fn := { np := 2,io := [],res := [.t 4],own := [false],body :=
 (.seq (.reg false [.V 4 (.asg (.c (.bool false)))] [0,1] []) (.seq (.reg false [.V 5 (.mv (.t 0)),.V 6 (.mv (.t 1)),.V 7 (.bin .leq (.t 5) (.t 6)),.V 4 (.asg (.t 7))] [4] []) .ret)) }
noncomputable def impl_few_D : List (Nat × Callee) := []
def impl_few_H : List (Nat × ET) := []
noncomputable def impl_few_c : Callee := mkCallee impl_few_D impl_few_H impl_few_ir [.d (.one (.int .i64)),.d (.one (.int .i64))] [.d (.one .bool)] []
noncomputable def impl_few (a0 : Int) (a1 : Int) : Option (Bool) := impl_few_c.f (a0,a1,())
theorem impl_few_eq (a0 : Int) (a1 : Int) : impl_few a0 a1 =
 some (decide (a0 ≤ a1)) :=
 (mk_f _ _ _ _ _ _ _ 4000).trans (by kernel_rfl)
def impl_IsName_k0 : C :=
 .seq (.reg false [.V 21 (.mv (.t 4)),.V 22 (.un .not (.t 21)),.V 23 (.mv (.t 22)),.G 24 (.mv (.t 3)) 2 true,.G 25 (.bin .eql (.t 24) (.c (.int .i64 0))) 2 true,.G 26 (.mv (.t 25)) 2 true,.G 27 (.mv (.t 0)) 5 false,.G 28 (.mv (.t 3)) 5 false,.G 29 (.ix (.t 27) (.t 28)) 5 false,.G 30 (.call (.c (.fn 22 [])) [.t 29]) 5 false,.G 31 (.un .not (.t 30)) 5 false,.G 32 (.pick (.t 26) (.c (.bool true)) (.t 31)) 2 true,.V 33 (.pick (.t 23) (.t 32) (.c (.bool false)))] [0,3,33] []) (.cond (.t 33) (.seq (.reg false [.V 2 (.asg (.c (.bool false)))] [2] []) .ret) .skip)
def impl_IsName_k1 : C :=
 .reg false [.V 9 (.mv (.t 3)),.V 10 (.bin .add (.t 9) (.c (.int .i64 1))),.V 3 (.asg (.t 10))] [0,3] []
def impl_IsName_k2 : C :=
 .seq (.seq (.reg false [.V 5 (.mv (.t 3)),.V 6 (.mv (.t 0)),.V 7 (.lens (.t 6)),.V 8 (.bin .lss (.t 5) (.t 7))] [0,3,8] []) (.cond (.t 8) .skip (.exit 0))) (.seq (.block 1 (.seq (.reg false [.V 11 (.mv (.t 0)),.V 12 (.mv (.t 3)),.V 13 (.ix (.t 11) (.t 12)),.V 14 (.bin .geq (.t 13) (.c (.int .u8 97))),.V 15 (.mv (.t 14)),.G 16 (.mv (.t 0)) 4 true,.G 17 (.mv (.t 3)) 4 true,.G 18 (.ix (.t 16) (.t 17)) 4 true,.G 19 (.bin .leq (.t 18) (.c (.int .u8 122))) 4 true,.V 20 (.pick (.t 15) (.t 19) (.c (.bool false))),.V 4 (.asg (.t 20))] [0,3,4] []) (.norm [0,3,4] [] impl_IsName_k0))) impl_IsName_k1)
def impl_IsName_k3 : C :=
 .norm [0,3] [] impl_IsName_k2
def impl_IsName_k4 : C :=
 .seq (.reg false [.V 34 (.mv (.t 0)),.V 35 (.bin .neq (.t 34) (.c (.str []))),.V 36 (.mv (.t 35)),.G 37 (.mv (.t 0)) 2 true,.G 38 (.lens (.t 37)) 2 true,.G 39 (.call (.c (.fn 21 [])) [.t 38,.c (.int .i64 10)]) 2 true,.V 40 (.pick (.t 36) (.t 39) (.c (.bool false))),.V 2 (.asg (.t 40))] [2] []) .ret
def impl_IsName_ir : Fn := { np := 1,io := [],res := [.t 2],own := [false],body :=
 (.seq (.reg false [.V 2 (.asg (.c (.bool false)))] [0] []) (.seq (.seq (.reg false [.V 3 (.asg (.c (.int .i64 0)))] [0,3] []) (.block 0 (.loop impl_IsName_k3))) impl_IsName_k4)) }
noncomputable def impl_IsName_D : List (Nat × Callee) := [(21,impl_few_c),(22,impl_isDigit_c)]
def impl_IsName_H : List (Nat × ET) := []
noncomputable def impl_IsName_c : Callee := mkCallee impl_IsName_D impl_IsName_H impl_IsName_ir [.d (.one .str)] [.d (.one .bool)] []
noncomputable def impl_IsName (a0 : List UInt8) : Option (Bool) := impl_IsName_c.f (a0,())
noncomputable def impl_IsName_p0  (v0 : List UInt8) (v3 : Int) : Option (Bool) :=
 goL impl_IsName_D impl_IsName_H (vleave impl_IsName_ir [.d (.one .str)] [.d (.one .bool)] [] []) [.c impl_IsName_k2,.l impl_IsName_k3,.e 0,.c impl_IsName_k4]
  ⟨[(0,.str v0),(3,.int .i64 v3)],[]⟩
noncomputable def impl_IsName_p1  (v0 : List UInt8) (v3 : Int) (v4 : Bool) : Option (Bool) :=
 goL impl_IsName_D impl_IsName_H (vleave impl_IsName_ir [.d (.one .str)] [.d (.one .bool)] [] []) [.c impl_IsName_k0,.e 1,.c impl_IsName_k1,.l impl_IsName_k3,.e 0,.c impl_IsName_k4]
  ⟨[(0,.str v0),(3,.int .i64 v3),(4,.bool v4)],[]⟩
theorem impl_IsName_eq (a0 : List UInt8) : impl_IsName a0 =
 impl_IsName_p0 a0 0 :=
 (mk_f _ _ _ _ _ _ _ 4000).trans (by kernel_rfl)
theorem impl_IsName_p0_eq  (v0 : List UInt8) (v3 : Int) : impl_IsName_p0 v0 v3 =
 if decide (v3 < (v0.length : Int)) then
  if decide (0 ≤ v3) then
   (v0[v3.toNat]?).bind fun x1 =>
    if decide ((x1.toNat : Int) ≥ 97) then
     if decide (0 ≤ v3) then
      (v0[v3.toNat]?).bind fun x2 =>
       impl_IsName_p1 v0 v3 (decide ((x2.toNat : Int) ≤ 122))
     else
      none
    else
     impl_IsName_p1 v0 v3 false
  else
   none
 else
  if (!(v0 == [])) then
   (impl_few (v0.length : Int) 10).bind fun x3 =>
    some x3
  else
   some false :=
 (goL_dn _ _ _ 4000 _ _).trans (by kernel_rfl)
theorem impl_IsName_p1_eq  (v0 : List UInt8) (v3 : Int) (v4 : Bool) : impl_IsName_p1 v0 v3 v4 =
 if (!v4) then
  if (v3 == 0) then
   some false
  else
   if decide (0 ≤ v3) then
    (v0[v3.toNat]?).bind fun x1 =>
     (impl_isDigit (x1.toNat : Int)).bind fun x2 =>
      if (!x2) then
       some false
      else
       impl_IsName_p0 v0 (IntKind.i64.wrap (v3 + 1))
   else
    none
 else
  impl_IsName_p0 v0 (IntKind.i64.wrap (v3 + 1)) :=
 (goL_dn _ _ _ 4000 _ _).trans (by kernel_rfl)
def impl_Step_valid_k0 : C :=
 .seq (.reg false [.V 9 (.bin .lss (.t 8) (.t 7))] [1,6,7,8,9] [1,2003]) (.seq (.cond (.t 9) .skip (.exit 0)) (.seq (.block 1 (.seq (.reg false [.V 10 (.mv (.t 8)),.V 11 (.ia 1 (.t 6) (.t 8)),.V 12 (.ld none (.t 11)),.V 3 (.asg (.t 10)),.V 4 (.asg (.t 12))] [1,3,4,6,7,8] [1,2003]) (.seq (.reg false [.V 13 (.mv (.t 4)),.V 14 (.call (.c (.fn 23 [])) [.t 13,.c (.int .i64 0),.c (.int .i64 11)]),.V 15 (.un .not (.t 14)),.V 16 (.mv (.t 15)),.G 17 (.mv (.t 3)) 3 false,.G 18 (.bin .gtr (.t 17) (.c (.int .i64 0))) 3 false,.G 19 (.mv (.t 18)) 3 false,.G 20 (.fa 3 (.t 1)) 6 true,.G 21 (.ld none (.t 20)) 6 true,.G 22 (.mv (.t 3)) 6 true,.G 23 (.bin .sub (.t 22) (.c (.int .i64 1))) 6 true,.G 24 (.ia 1 (.t 21) (.t 23)) 6 true,.G 25 (.ld none (.t 24)) 6 true,.G 26 (.mv (.t 4)) 6 true,.G 27 (.bin .geq (.t 25) (.t 26)) 6 true,.G 28 (.pick (.t 19) (.t 27) (.c (.bool false))) 3 false,.V 29 (.pick (.t 16) (.c (.bool true)) (.t 28))] [1,6,7,8,29] [1,2003]) (.cond (.t 29) (.seq (.reg false [.V 2 (.asg (.c (.bool false)))] [2] []) .ret) .skip)))) (.reg false [.V 30 (.bin .add (.t 8) (.c (.int .i64 1))),.V 8 (.mv (.t 30))] [1,6,7,8] [1,2003])))
def impl_Step_valid_k1 : C :=
 .norm [1,6,7,8] [1,2003] impl_Step_valid_k0
def impl_Step_valid_k2 : C :=
 .seq (.reg false [.V 31 (.fa 0 (.t 1)),.V 32 (.ld none (.t 31)),.V 33 (.call (.c (.fn 24 [])) [.t 32]),.V 34 (.mv (.t 33)),.G 35 (.fa 1 (.t 1)) 3 true,.G 36 (.ld none (.t 35)) 3 true,.G 37 (.call (.c (.fn 23 [])) [.t 36,.c (.int .i64 1),.c (.int .i64 200)]) 3 true,.V 38 (.pick (.t 34) (.t 37) (.c (.bool false))),.V 39 (.mv (.t 38)),.G 40 (.fa 2 (.t 1)) 8 true,.G 41 (.ld none (.t 40)) 8 true,.G 42 (.call (.c (.fn 23 [])) [.t 41,.c (.int .i64 0),.c (.int .i64 20)]) 8 true,.V 43 (.pick (.t 39) (.t 42) (.c (.bool false))),.V 2 (.asg (.t 43))] [2] []) .ret
def impl_Step_valid_ir : Fn := { np := 1,io := [],res := [.t 2],own := [false],body :=
 (.seq (.reg false [.W 1 (.box 4 (.t 0)),.V 2 (.asg (.c (.bool false)))] [1] [1,2003]) (.seq (.seq (.reg false [.V 5 (.fa 3 (.t 1)),.V 6 (.ld none (.t 5)),.V 7 (.len (.t 6)),.V 8 (.mv (.c (.int .i64 0)))] [1,6,7,8] [1,2003]) (.block 0 (.loop impl_Step_valid_k1))) impl_Step_valid_k2)) }
noncomputable def impl_Step_valid_D : List (Nat × Callee) := [(23,impl_within_c),(24,impl_IsName_c)]
def impl_Step_valid_H : List (Nat × ET) := [(6,(.one (.int .i64))),(21,(.one (.int .i64)))]
noncomputable def impl_Step_valid_c : Callee := mkCallee impl_Step_valid_D impl_Step_valid_H impl_Step_valid_ir [.d T_Step] [.d (.one .bool)] []
noncomputable def impl_Step_valid (a0 : T_Step.ty) : Option (Bool) := impl_Step_valid_c.f (a0,())
noncomputable def impl_Step_valid_p0  (v6 : List Int) (v7 : Int) (v8 : Int) (r1_0 : List UInt8) (r1_1 : Int) (r1_2 : Int) (r1_3 : List Int) : Option (Bool) :=
 goL impl_Step_valid_D impl_Step_valid_H (vleave impl_Step_valid_ir [.d T_Step] [.d (.one .bool)] [] []) [.c impl_Step_valid_k0,.l impl_Step_valid_k1,.e 0,.c impl_Step_valid_k2]
  ⟨[(1,.loc 1 0 0),(6,.sl (.one (.int .i64)) v6),(7,.int .i64 v7),(8,.int .i64 v8)],[(1,some (.var 4 (.agg [.str r1_0,.int .i64 r1_1,.int .i64 r1_2,.sl (.one (.int .i64)) r1_3]))),(2003,none)]⟩
theorem impl_Step_valid_eq (a0 : T_Step.ty) : impl_Step_valid a0 =
 impl_Step_valid_p0 a0.2.2.2.1 (a0.2.2.2.1.length : Int) 0 a0.1 a0.2.1 a0.2.2.1 a0.2.2.2.1 :=
 (mk_f _ _ _ _ _ _ _ 4000).trans (by kernel_rfl)
theorem impl_Step_valid_p0_eq  (v6 : List Int) (v7 : Int) (v8 : Int) (r1_0 : List UInt8) (r1_1 : Int) (r1_2 : Int) (r1_3 : List Int) : impl_Step_valid_p0 v6 v7 v8 r1_0 r1_1 r1_2 r1_3 =
 if decide (v8 < v7) then
  if decide (0 ≤ v8) then
   (v6[v8.toNat]?).bind fun x1 =>
    (impl_within x1 0 11).bind fun x2 =>
     if (!x2) then
      some false
     else
      if decide (v8 > 0) then
       if decide (0 ≤ IntKind.i64.wrap (v8 - 1)) then
        (r1_3[(IntKind.i64.wrap (v8 - 1)).toNat]?).bind fun x3 =>
         if decide (x3 ≥ x1) then
          some false
         else
          impl_Step_valid_p0 v6 v7 (IntKind.i64.wrap (v8 + 1)) r1_0 r1_1 r1_2 r1_3
       else
        none
      else
       impl_Step_valid_p0 v6 v7 (IntKind.i64.wrap (v8 + 1)) r1_0 r1_1 r1_2 r1_3
  else
   none
 else
  (impl_IsName r1_0).bind fun x4 =>
   if x4 then
    (impl_within r1_1 1 200).bind fun x5 =>
     if x5 then
      (impl_within r1_2 0 20).bind fun x6 =>
       some x6
     else
      some false
   else
    some false :=
 (goL_dn _ _ _ 4000 _ _).trans (by kernel_rfl)
noncomputable def impl_ValidSteps_c : Callee := validStepsC impl_Step_valid impl_few
noncomputable def impl_ValidSteps (a0 : List T_Step.ty) : Option (Bool) := impl_ValidSteps_c.f (a0,())
theorem impl_ValidSteps_eq (a0 : List T_Step.ty) : impl_ValidSteps a0 = vsF impl_Step_valid impl_few a0 := rfl
def impl_ready_k0 : C :=
 .seq (.reg false [.V 17 (.bin .lss (.t 16) (.t 15))] [0,1,7,14,15,16,17] []) (.seq (.cond (.t 17) .skip (.exit 0)) (.seq (.block 1 (.seq (.reg false [.V 18 (.ia 1 (.t 14) (.t 16)),.V 19 (.ld none (.t 18)),.V 9 (.asg (.t 19))] [0,1,7,9,14,15,16] []) (.reg true [.V 20 (.mv (.t 7)),.V 21 (.mv (.t 1)),.V 22 (.mv (.t 9)),.V 23 (.ia 1 (.t 21) (.t 22)),.V 24 (.ld none (.t 23)),.V 25 (.mv (.t 0)),.V 26 (.mv (.t 9)),.V 27 (.ia 4 (.t 25) (.t 26)),.V 28 (.fa 1 (.t 27)),.V 29 (.ld none (.t 28)),.V 30 (.bin .add (.t 24) (.t 29)),.V 31 (.max [.t 20,.t 30]),.V 7 (.asg (.t 31))] [0,1,7,14,15,16] []))) (.reg false [.V 32 (.bin .add (.t 16) (.c (.int .i64 1))),.V 16 (.mv (.t 32))] [0,1,7,14,15,16] [])))
def impl_ready_k1 : C :=
 .norm [0,1,7,14,15,16] [] impl_ready_k0
def impl_ready_k2 : C :=
 .seq (.reg false [.V 33 (.mv (.t 7)),.V 6 (.asg (.t 33))] [6] []) .ret
def impl_ready_ir : Fn := { np := 3,io := [],res := [.t 6],own := [false],body :=
 (.seq (.reg false [.V 6 (.asg (.c (.int .i64 0)))] [0,1,2] []) (.seq (.reg false [.V 7 (.asg (.c (.int .i64 0)))] [0,1,2,7] []) (.seq (.seq (.reg false [.V 10 (.mv (.t 0)),.V 11 (.mv (.t 2)),.V 12 (.ia 4 (.t 10) (.t 11)),.V 13 (.fa 3 (.t 12)),.V 14 (.ld none (.t 13)),.V 15 (.len (.t 14)),.V 16 (.mv (.c (.int .i64 0)))] [0,1,7,14,15,16] []) (.block 0 (.loop impl_ready_k1))) impl_ready_k2))) }
noncomputable def impl_ready_D : List (Nat × Callee) := []
def impl_ready_H : List (Nat × ET) := [(10,T_Step),(14,(.one (.int .i64))),(21,(.one (.int .i64))),(25,T_Step)]
noncomputable def impl_ready_c : Callee := mkCallee impl_ready_D impl_ready_H impl_ready_ir [.d (.one (.sl T_Step)),.d (.one (.sl (.one (.int .i64)))),.d (.one (.int .i64))] [.d (.one (.int .i64))] []
noncomputable def impl_ready (a0 : List T_Step.ty) (a1 : List Int) (a2 : Int) : Option (Int) := impl_ready_c.f (a0,a1,a2,())
noncomputable def impl_ready_p0  (v0 : List T_Step.ty) (v1 : List Int) (v7 : Int) (v14 : List Int) (v15 : Int) (v16 : Int) : Option (Int) :=
 goL impl_ready_D impl_ready_H (vleave impl_ready_ir [.d (.one (.sl T_Step)),.d (.one (.sl (.one (.int .i64)))),.d (.one (.int .i64))] [.d (.one (.int .i64))] [] []) [.c impl_ready_k0,.l impl_ready_k1,.e 0,.c impl_ready_k2]
  ⟨[(0,.sl T_Step v0),(1,.sl (.one (.int .i64)) v1),(7,.int .i64 v7),(14,.sl (.one (.int .i64)) v14),(15,.int .i64 v15),(16,.int .i64 v16)],[]⟩
theorem impl_ready_eq (a0 : List T_Step.ty) (a1 : List Int) (a2 : Int) : impl_ready a0 a1 a2 =
 if decide (0 ≤ a2) then
  (a0[a2.toNat]?).bind fun x1 =>
   impl_ready_p0 a0 a1 0 x1.2.2.2.1 (x1.2.2.2.1.length : Int) 0
 else
  none :=
 (mk_f _ _ _ _ _ _ _ 4000).trans (by kernel_rfl)
theorem impl_ready_p0_eq  (v0 : List T_Step.ty) (v1 : List Int) (v7 : Int) (v14 : List Int) (v15 : Int) (v16 : Int) : impl_ready_p0 v0 v1 v7 v14 v15 v16 =
 if decide (v16 < v15) then
  if decide (0 ≤ v16) then
   (v14[v16.toNat]?).bind fun x1 =>
    if decide (0 ≤ x1) then
     (v1[x1.toNat]?).bind fun x2 =>
      if decide (0 ≤ x1) then
       (v0[x1.toNat]?).bind fun x3 =>
        impl_ready_p0 v0 v1 (if IntKind.i64.wrap (x2 + x3.2.1) > v7 then IntKind.i64.wrap (x2 + x3.2.1) else v7) v14 v15 (IntKind.i64.wrap (v16 + 1))
      else
       none
    else
     none
  else
   none
 else
  some v7 :=
 (goL_dn _ _ _ 4000 _ _).trans (by kernel_rfl)
def impl_earliest_k0 : C :=
 .seq (.reg false [.V 9 (.bin .lss (.t 8) (.t 7))] [0,3,7,8,9] [3]) (.seq (.cond (.t 9) .skip (.exit 0)) (.seq (.block 1 (.seq (.reg false [.V 10 (.mv (.t 8)),.V 4 (.asg (.t 10))] [0,3,4,7,8] [3]) (.reg false [.V 11 (.mv (.t 3)),.V 12 (.mv (.t 0)),.V 13 (.mv (.t 3)),.V 14 (.mv (.t 4)),.V 15 (.call (.c (.fn 539 [])) [.t 12,.t 13,.t 14]),.V 16 (.bsl 1 (.int .i64 0) 1 [(0,.t 15)]),.W 17 (.app 1 8 (.t 11) (.t 16)),.W 3 (.asg (.t 17))] [0,3,7,8] [3]))) (.reg false [.V 18 (.bin .add (.t 8) (.c (.int .i64 1))),.V 8 (.mv (.t 18))] [0,3,7,8] [3])))
def impl_earliest_k1 : C :=
 .norm [0,3,7,8] [3] impl_earliest_k0
def impl_earliest_k2 : C :=
 .seq (.reg false [.V 19 (.mv (.t 3)),.W 2 (.asg (.t 19))] [2] [2,3]) .ret
def impl_earliest_ir : Fn := { np := 1,io := [],res := [.t 2],own := [true],body :=
 (.seq (.reg false [.W 2 (.asg (.c (.nils 1)))] [0] []) (.seq (.reg false [.V 5 (.bsl 1 (.int .i64 0) 0 []),.W 3 (.asg (.t 5))] [0,3] [3]) (.seq (.seq (.reg false [.V 6 (.mv (.t 0)),.V 7 (.len (.t 6)),.V 8 (.mv (.c (.int .i64 0)))] [0,3,7,8] [3]) (.block 0 (.loop impl_earliest_k1))) impl_earliest_k2))) }
noncomputable def impl_earliest_D : List (Nat × Callee) := [(539,impl_ready_c)]
def impl_earliest_H : List (Nat × ET) := [(2,(.one (.int .i64))),(3,(.one (.int .i64))),(5,(.one (.int .i64))),(6,T_Step),(11,(.one (.int .i64))),(12,T_Step),(13,(.one (.int .i64))),(16,(.one (.int .i64))),(17,(.one (.int .i64))),(19,(.one (.int .i64)))]
noncomputable def impl_earliest_c : Callee := mkCallee impl_earliest_D impl_earliest_H impl_earliest_ir [.d (.one (.sl T_Step))] [.tok (.one (.int .i64))] []
noncomputable def impl_earliest (a0 : List T_Step.ty) : Option (List Int) := impl_earliest_c.f (a0,())
noncomputable def impl_earliest_p0  (v0 : List T_Step.ty) (v7 : Int) (v8 : Int) (r3 : List Int) : Option (List Int) :=
 goL impl_earliest_D impl_earliest_H (vleave impl_earliest_ir [.d (.one (.sl T_Step))] [.tok (.one (.int .i64))] [] []) [.c impl_earliest_k0,.l impl_earliest_k1,.e 0,.c impl_earliest_k2]
  ⟨[(0,.sl T_Step v0),(3,.view 3 0 r3.length),(7,.int .i64 v7),(8,.int .i64 v8)],[(3,some (.sl (.one (.int .i64)) r3))]⟩
theorem impl_earliest_eq (a0 : List T_Step.ty) : impl_earliest a0 =
 impl_earliest_p0 a0 (a0.length : Int) 0 [] :=
 (mk_f _ _ _ _ _ _ _ 4000).trans (by kernel_rfl)
theorem impl_earliest_p0_eq  (v0 : List T_Step.ty) (v7 : Int) (v8 : Int) (r3 : List Int) : impl_earliest_p0 v0 v7 v8 r3 =
 if decide (v8 < v7) then
  (impl_ready v0 (r3.take r3.length) v8).bind fun x1 =>
   if decide (r3.length + 1 < lim) then
    impl_earliest_p0 v0 v7 (IntKind.i64.wrap (v8 + 1)) ((r3.take r3.length) ++ [x1])
   else
    none
 else
  some (r3.take r3.length) :=
 (goL_dn _ _ _ 4000 _ _).trans (by kernel_rfl)
def impl_EarliestStarts_ir : Fn := { np := 1,io := [],res := [.t 2,.t 3],own := [true,false],body :=
 (.seq (.reg false [.W 2 (.asg (.c (.nils 1))),.V 3 (.asg (.c (.int .i64 0)))] [0] []) (.seq (.seq (.reg false [.V 4 (.mv (.t 0)),.V 5 (.call (.c (.fn 83 [])) [.t 4]),.V 6 (.un .not (.t 5))] [0,6] []) (.cond (.t 6) (.seq (.reg false [.W 2 (.asg (.c (.nils 1))),.V 3 (.asg (.c (.int .i64 1)))] [2,3] [2]) .ret) .skip)) (.seq (.reg false [.V 7 (.mv (.t 0)),.V 8 (.call (.c (.fn 454 [])) [.t 7]),.W 2 (.asg (.t 8)),.V 3 (.asg (.c (.int .i64 0)))] [2,3] [2]) .ret))) }
noncomputable def impl_EarliestStarts_D : List (Nat × Callee) := [(83,impl_ValidSteps_c),(454,impl_earliest_c)]
def impl_EarliestStarts_H : List (Nat × ET) := [(2,(.one (.int .i64))),(4,T_Step),(7,T_Step),(8,(.one (.int .i64)))]
noncomputable def impl_EarliestStarts_c : Callee := mkCallee impl_EarliestStarts_D impl_EarliestStarts_H impl_EarliestStarts_ir [.d (.one (.sl T_Step))] [.tok (.one (.int .i64)),.d (.one (.int .i64))] []
noncomputable def impl_EarliestStarts (a0 : List T_Step.ty) : Option (List Int × Int) := impl_EarliestStarts_c.f (a0,())
theorem impl_EarliestStarts_eq (a0 : List T_Step.ty) : impl_EarliestStarts a0 =
 (impl_ValidSteps a0).bind fun x1 =>
  if (!x1) then
   some ([],1)
  else
   (impl_earliest a0).bind fun x2 =>
    some ((x2.take x2.length),0) :=
 (mk_f _ _ _ _ _ _ _ 4000).trans (by kernel_rfl)
def impl_ended_k0 : C :=
 .seq (.reg false [.V 11 (.bin .lss (.t 10) (.t 9))] [1,5,8,9,10,11] []) (.seq (.cond (.t 11) .skip (.exit 0)) (.seq (.block 1 (.seq (.reg false [.V 12 (.mv (.t 10)),.V 13 (.ia 4 (.t 8) (.t 10)),.V 14 (.ld (some 4) (.t 13)),.W 7 (.alloc 4 (.agg [.str [],.int .i64 0,.int .i64 0,.nils 1])),.V 6 (.asg (.t 12)),⟨none,true,.sto 4 (.t 7) (.t 14),none,false,[]⟩] [1,5,6,7,8,9,10] [7,8003]) (.reg true [.V 15 (.mv (.t 5)),.V 16 (.mv (.t 1)),.V 17 (.mv (.t 6)),.V 18 (.ia 1 (.t 16) (.t 17)),.V 19 (.ld none (.t 18)),.V 20 (.fa 1 (.t 7)),.V 21 (.ld none (.t 20)),.V 22 (.bin .add (.t 19) (.t 21)),.V 23 (.max [.t 15,.t 22]),.V 5 (.asg (.t 23))] [1,5,8,9,10] []))) (.reg false [.V 24 (.bin .add (.t 10) (.c (.int .i64 1))),.V 10 (.mv (.t 24))] [1,5,8,9,10] [])))
def impl_ended_k1 : C :=
 .norm [1,5,8,9,10] [] impl_ended_k0
def impl_ended_k2 : C :=
 .seq (.reg false [.V 25 (.mv (.t 5)),.V 4 (.asg (.t 25))] [4] []) .ret
def impl_ended_ir : Fn := { np := 2,io := [],res := [.t 4],own := [false],body :=
 (.seq (.reg false [.V 4 (.asg (.c (.int .i64 0)))] [0,1] []) (.seq (.reg false [.V 5 (.asg (.c (.int .i64 0)))] [0,1,5] []) (.seq (.seq (.reg false [.V 8 (.mv (.t 0)),.V 9 (.len (.t 8)),.V 10 (.mv (.c (.int .i64 0)))] [1,5,8,9,10] []) (.block 0 (.loop impl_ended_k1))) impl_ended_k2))) }
noncomputable def impl_ended_D : List (Nat × Callee) := []
def impl_ended_H : List (Nat × ET) := [(8,T_Step),(16,(.one (.int .i64)))]
noncomputable def impl_ended_c : Callee := mkCallee impl_ended_D impl_ended_H impl_ended_ir [.d (.one (.sl T_Step)),.d (.one (.sl (.one (.int .i64))))] [.d (.one (.int .i64))] []
noncomputable def impl_ended (a0 : List T_Step.ty) (a1 : List Int) : Option (Int) := impl_ended_c.f (a0,a1,())
noncomputable def impl_ended_p0  (v1 : List Int) (v5 : Int) (v8 : List T_Step.ty) (v9 : Int) (v10 : Int) : Option (Int) :=
 goL impl_ended_D impl_ended_H (vleave impl_ended_ir [.d (.one (.sl T_Step)),.d (.one (.sl (.one (.int .i64))))] [.d (.one (.int .i64))] [] []) [.c impl_ended_k0,.l impl_ended_k1,.e 0,.c impl_ended_k2]
  ⟨[(1,.sl (.one (.int .i64)) v1),(5,.int .i64 v5),(8,.sl T_Step v8),(9,.int .i64 v9),(10,.int .i64 v10)],[]⟩
theorem impl_ended_eq (a0 : List T_Step.ty) (a1 : List Int) : impl_ended a0 a1 =
 impl_ended_p0 a1 0 a0 (a0.length : Int) 0 :=
 (mk_f _ _ _ _ _ _ _ 4000).trans (by kernel_rfl)
theorem impl_ended_p0_eq  (v1 : List Int) (v5 : Int) (v8 : List T_Step.ty) (v9 : Int) (v10 : Int) : impl_ended_p0 v1 v5 v8 v9 v10 =
 if decide (v10 < v9) then
  if decide (0 ≤ v10) then
   (v8[v10.toNat]?).bind fun x1 =>
    if decide (0 ≤ v10) then
     (v1[v10.toNat]?).bind fun x2 =>
      impl_ended_p0 v1 (if IntKind.i64.wrap (x2 + x1.2.1) > v5 then IntKind.i64.wrap (x2 + x1.2.1) else v5) v8 v9 (IntKind.i64.wrap (v10 + 1))
    else
     none
  else
   none
 else
  some v5 :=
 (goL_dn _ _ _ 4000 _ _).trans (by kernel_rfl)
def impl_latest_k0 : C :=
 .seq (.reg false [.V 19 (.bin .lss (.t 18) (.t 17))] [0,3,4,17,18,19] [3]) (.seq (.cond (.t 19) .skip (.exit 0)) (.seq (.block 1 (.seq (.reg false [.V 20 (.mv (.t 18)),.V 5 (.asg (.t 20))] [0,3,4,5,17,18] [3]) (.reg false [.V 21 (.mv (.t 3)),.V 22 (.mv (.t 5)),.V 23 (.mv (.t 4)),.V 24 (.ia 1 (.t 21) (.t 22)),⟨none,true,.sto 1 (.t 24) (.t 23),none,false,[]⟩] [0,3,4,17,18] [3]))) (.reg false [.V 25 (.bin .add (.t 18) (.c (.int .i64 1))),.V 18 (.mv (.t 25))] [0,3,4,17,18] [3])))
def impl_latest_k1 : C :=
 .norm [0,3,4,17,18] [3] impl_latest_k0
def impl_latest_k2 : C :=
 .seq (.reg false [.V 51 (.bin .lss (.t 50) (.t 49))] [0,3,6,48,49,50,51] [3]) (.seq (.cond (.t 51) .skip (.exit 4)) (.seq (.block 5 (.seq (.reg false [.V 52 (.ia 1 (.t 48) (.t 50)),.V 53 (.ld none (.t 52)),.V 8 (.asg (.t 53))] [0,3,6,8,48,49,50] [3]) (.reg true [.V 54 (.mv (.t 3)),.V 55 (.mv (.t 8)),.V 56 (.mv (.t 3)),.V 57 (.mv (.t 8)),.V 58 (.ia 1 (.t 56) (.t 57)),.V 59 (.ld none (.t 58)),.V 60 (.mv (.t 3)),.V 61 (.mv (.t 6)),.V 62 (.ia 1 (.t 60) (.t 61)),.V 63 (.ld none (.t 62)),.V 64 (.min [.t 59,.t 63]),.V 65 (.ia 1 (.t 54) (.t 55)),⟨none,true,.sto 1 (.t 65) (.t 64),none,false,[]⟩] [0,3,6,48,49,50] [3]))) (.reg false [.V 66 (.bin .add (.t 50) (.c (.int .i64 1))),.V 50 (.mv (.t 66))] [0,3,6,48,49,50] [3])))
def impl_latest_k3 : C :=
 .norm [0,3,6,48,49,50] [3] impl_latest_k2
def impl_latest_k4 : C :=
 .reg false [.V 31 (.mv (.t 6)),.V 32 (.bin .sub (.t 31) (.c (.int .i64 1))),.V 6 (.asg (.t 32))] [0,3,6] [3]
def impl_latest_k5 : C :=
 .seq (.seq (.reg false [.V 29 (.mv (.t 6)),.V 30 (.bin .geq (.t 29) (.c (.int .i64 0)))] [0,3,6,30] [3]) (.cond (.t 30) .skip (.exit 2))) (.seq (.block 3 (.seq (.reg true [.V 33 (.mv (.t 3)),.V 34 (.mv (.t 6)),.V 35 (.ia 1 (.t 33) (.t 34)),.V 36 (.ld none (.t 35)),.V 37 (.mv (.t 0)),.V 38 (.mv (.t 6)),.V 39 (.ia 4 (.t 37) (.t 38)),.V 40 (.fa 1 (.t 39)),.V 41 (.ld none (.t 40)),.V 42 (.bin .sub (.t 36) (.t 41)),.V 43 (.ia 1 (.t 33) (.t 34)),⟨none,true,.sto 1 (.t 43) (.t 42),none,false,[]⟩] [0,3,6] [3]) (.seq (.reg false [.V 44 (.mv (.t 0)),.V 45 (.mv (.t 6)),.V 46 (.ia 4 (.t 44) (.t 45)),.V 47 (.fa 3 (.t 46)),.V 48 (.ld none (.t 47)),.V 49 (.len (.t 48)),.V 50 (.mv (.c (.int .i64 0)))] [0,3,6,48,49,50] [3]) (.block 4 (.loop impl_latest_k3))))) impl_latest_k4)
def impl_latest_k6 : C :=
 .norm [0,3,6] [3] impl_latest_k5
def impl_latest_k7 : C :=
 .seq (.reg false [.V 67 (.mv (.t 3)),.W 2 (.asg (.t 67))] [2] [2,3]) .ret
def impl_latest_k8 : C :=
 .seq (.seq (.reg false [.V 26 (.mv (.t 0)),.V 27 (.len (.t 26)),.V 28 (.bin .sub (.t 27) (.c (.int .i64 1))),.V 6 (.asg (.t 28))] [0,3,6] [3]) (.block 2 (.loop impl_latest_k6))) impl_latest_k7
def impl_latest_ir : Fn := { np := 1,io := [],res := [.t 2],own := [true],body :=
 (.seq (.reg false [.W 2 (.asg (.c (.nils 1)))] [0] []) (.seq (.reg false [.V 9 (.mv (.t 0)),.V 10 (.len (.t 9)),.V 11 (.mks 1 8 (.int .i64 0) (.t 10) (.t 10)),.W 3 (.asg (.t 11))] [0,3] [3]) (.seq (.reg false [.V 12 (.mv (.t 0)),.V 13 (.mv (.t 0)),.V 14 (.call (.c (.fn 454 [])) [.t 13]),.V 15 (.call (.c (.fn 456 [])) [.t 12,.t 14]),.V 4 (.asg (.t 15))] [0,3,4] [3]) (.seq (.seq (.reg false [.V 16 (.mv (.t 3)),.V 17 (.len (.t 16)),.V 18 (.mv (.c (.int .i64 0)))] [0,3,4,17,18] [3]) (.block 0 (.loop impl_latest_k1))) impl_latest_k8)))) }
noncomputable def impl_latest_D : List (Nat × Callee) := [(454,impl_earliest_c),(456,impl_ended_c)]
def impl_latest_H : List (Nat × ET) := [(2,(.one (.int .i64))),(3,(.one (.int .i64))),(9,T_Step),(11,(.one (.int .i64))),(12,T_Step),(13,T_Step),(14,(.one (.int .i64))),(16,(.one (.int .i64))),(21,(.one (.int .i64))),(26,T_Step),(33,(.one (.int .i64))),(37,T_Step),(44,T_Step),(48,(.one (.int .i64))),(54,(.one (.int .i64))),(56,(.one (.int .i64))),(60,(.one (.int .i64))),(67,(.one (.int .i64)))]
noncomputable def impl_latest_c : Callee := mkCallee impl_latest_D impl_latest_H impl_latest_ir [.d (.one (.sl T_Step))] [.tok (.one (.int .i64))] []
noncomputable def impl_latest (a0 : List T_Step.ty) : Option (List Int) := impl_latest_c.f (a0,())
noncomputable def impl_latest_p0  (v0 : List T_Step.ty) (v3n : Nat) (v4 : Int) (v17 : Int) (v18 : Int) (r3 : List Int) : Option (List Int) :=
 goL impl_latest_D impl_latest_H (vleave impl_latest_ir [.d (.one (.sl T_Step))] [.tok (.one (.int .i64))] [] []) [.c impl_latest_k0,.l impl_latest_k1,.e 0,.c impl_latest_k8]
  ⟨[(0,.sl T_Step v0),(3,.view 3 0 v3n),(4,.int .i64 v4),(17,.int .i64 v17),(18,.int .i64 v18)],[(3,some (.sl (.one (.int .i64)) r3))]⟩
noncomputable def impl_latest_p1  (v0 : List T_Step.ty) (v3n : Nat) (v6 : Int) (r3 : List Int) : Option (List Int) :=
 goL impl_latest_D impl_latest_H (vleave impl_latest_ir [.d (.one (.sl T_Step))] [.tok (.one (.int .i64))] [] []) [.c impl_latest_k5,.l impl_latest_k6,.e 2,.c impl_latest_k7]
  ⟨[(0,.sl T_Step v0),(3,.view 3 0 v3n),(6,.int .i64 v6)],[(3,some (.sl (.one (.int .i64)) r3))]⟩
noncomputable def impl_latest_p2  (v0 : List T_Step.ty) (v3n : Nat) (v6 : Int) (v48 : List Int) (v49 : Int) (v50 : Int) (r3 : List Int) : Option (List Int) :=
 goL impl_latest_D impl_latest_H (vleave impl_latest_ir [.d (.one (.sl T_Step))] [.tok (.one (.int .i64))] [] []) [.c impl_latest_k2,.l impl_latest_k3,.e 4,.e 3,.c impl_latest_k4,.l impl_latest_k6,.e 2,.c impl_latest_k7]
  ⟨[(0,.sl T_Step v0),(3,.view 3 0 v3n),(6,.int .i64 v6),(48,.sl (.one (.int .i64)) v48),(49,.int .i64 v49),(50,.int .i64 v50)],[(3,some (.sl (.one (.int .i64)) r3))]⟩
theorem impl_latest_eq (a0 : List T_Step.ty) : impl_latest a0 =
 if decide (0 ≤ (a0.length : Int)) && decide ((a0.length : Int) ≤ (a0.length : Int)) && decide ((a0.length : Int).toNat < lim) then
  (impl_earliest a0).bind fun x1 =>
   (impl_ended a0 x1).bind fun x2 =>
    impl_latest_p0 a0 ((List.replicate ((a0.length : Int).toNat) (0 : Int)).length) x2 ((List.replicate ((a0.length : Int).toNat) (0 : Int)).length : Int) 0 (List.replicate ((a0.length : Int).toNat) (0 : Int))
 else
  none :=
 (mk_f _ _ _ _ _ _ _ 4000).trans (by kernel_rfl)
theorem impl_latest_p0_eq  (v0 : List T_Step.ty) (v3n : Nat) (v4 : Int) (v17 : Int) (v18 : Int) (r3 : List Int) : impl_latest_p0 v0 v3n v4 v17 v18 r3 =
 if decide (v18 < v17) then
  if decide (0 ≤ v18) && decide (v18 < (v3n : Int)) then
   (r3[v18.toNat]?).bind fun x1 =>
    impl_latest_p0 v0 v3n v4 v17 (IntKind.i64.wrap (v18 + 1)) (r3.set v18.toNat v4)
  else
   none
 else
  impl_latest_p1 v0 v3n (IntKind.i64.wrap ((v0.length : Int) - 1)) r3 :=
 (goL_dn _ _ _ 4000 _ _).trans (by kernel_rfl)
theorem impl_latest_p1_eq  (v0 : List T_Step.ty) (v3n : Nat) (v6 : Int) (r3 : List Int) : impl_latest_p1 v0 v3n v6 r3 =
 if decide (v6 ≥ 0) then
  if decide (0 ≤ v6) && decide (v6 < (v3n : Int)) then
   (r3[v6.toNat]?).bind fun x1 =>
    if decide (0 ≤ v6) then
     (v0[v6.toNat]?).bind fun x2 =>
      if decide (0 ≤ v6) && decide (v6 < (v3n : Int)) then
       (r3[v6.toNat]?).bind fun x3 =>
        if decide (0 ≤ v6) then
         (v0[v6.toNat]?).bind fun x4 =>
          impl_latest_p2 v0 v3n v6 x4.2.2.2.1 (x4.2.2.2.1.length : Int) 0 (r3.set v6.toNat (IntKind.i64.wrap (x1 - x2.2.1)))
        else
         none
      else
       none
    else
     none
  else
   none
 else
  some (r3.take v3n) :=
 (goL_dn _ _ _ 4000 _ _).trans (by kernel_rfl)
theorem impl_latest_p2_eq  (v0 : List T_Step.ty) (v3n : Nat) (v6 : Int) (v48 : List Int) (v49 : Int) (v50 : Int) (r3 : List Int) : impl_latest_p2 v0 v3n v6 v48 v49 v50 r3 =
 if decide (v50 < v49) then
  if decide (0 ≤ v50) then
   (v48[v50.toNat]?).bind fun x1 =>
    if decide (0 ≤ x1) && decide (x1 < (v3n : Int)) then
     (r3[x1.toNat]?).bind fun x2 =>
      if decide (0 ≤ v6) && decide (v6 < (v3n : Int)) then
       (r3[v6.toNat]?).bind fun x3 =>
        if decide (0 ≤ x1) && decide (x1 < (v3n : Int)) then
         (r3[x1.toNat]?).bind fun x4 =>
          impl_latest_p2 v0 v3n v6 v48 v49 (IntKind.i64.wrap (v50 + 1)) (r3.set x1.toNat (if x3 < x2 then x3 else x2))
        else
         none
      else
       none
    else
     none
  else
   none
 else
  impl_latest_p1 v0 v3n (IntKind.i64.wrap (v6 - 1)) r3 :=
 (goL_dn _ _ _ 4000 _ _).trans (by kernel_rfl)
def impl_LatestStarts_ir : Fn := { np := 1,io := [],res := [.t 2,.t 3],own := [true,false],body :=
 (.seq (.reg false [.W 2 (.asg (.c (.nils 1))),.V 3 (.asg (.c (.int .i64 0)))] [0] []) (.seq (.seq (.reg false [.V 4 (.mv (.t 0)),.V 5 (.call (.c (.fn 83 [])) [.t 4]),.V 6 (.un .not (.t 5))] [0,6] []) (.cond (.t 6) (.seq (.reg false [.W 2 (.asg (.c (.nils 1))),.V 3 (.asg (.c (.int .i64 1)))] [2,3] [2]) .ret) .skip)) (.seq (.reg false [.V 7 (.mv (.t 0)),.V 8 (.call (.c (.fn 455 [])) [.t 7]),.W 2 (.asg (.t 8)),.V 3 (.asg (.c (.int .i64 0)))] [2,3] [2]) .ret))) }
noncomputable def impl_LatestStarts_D : List (Nat × Callee) := [(83,impl_ValidSteps_c),(455,impl_latest_c)]
def impl_LatestStarts_H : List (Nat × ET) := [(2,(.one (.int .i64))),(4,T_Step),(7,T_Step),(8,(.one (.int .i64)))]
noncomputable def impl_LatestStarts_c : Callee := mkCallee impl_LatestStarts_D impl_LatestStarts_H impl_LatestStarts_ir [.d (.one (.sl T_Step))] [.tok (.one (.int .i64)),.d (.one (.int .i64))] []
noncomputable def impl_LatestStarts (a0 : List T_Step.ty) : Option (List Int × Int) := impl_LatestStarts_c.f (a0,())
theorem impl_LatestStarts_eq (a0 : List T_Step.ty) : impl_LatestStarts a0 =
 (impl_ValidSteps a0).bind fun x1 =>
  if (!x1) then
   some ([],1)
  else
   (impl_latest a0).bind fun x2 =>
    some ((x2.take x2.length),0) :=
 (mk_f _ _ _ _ _ _ _ 4000).trans (by kernel_rfl)
def impl_TotalHours_ir : Fn := { np := 1,io := [],res := [.t 2,.t 3],own := [false,false],body :=
 (.seq (.reg false [.V 2 (.asg (.c (.int .i64 0))),.V 3 (.asg (.c (.int .i64 0)))] [0] []) (.seq (.seq (.reg false [.V 4 (.mv (.t 0)),.V 5 (.call (.c (.fn 83 [])) [.t 4]),.V 6 (.un .not (.t 5))] [0,6] []) (.cond (.t 6) (.seq (.reg false [.V 2 (.asg (.c (.int .i64 0))),.V 3 (.asg (.c (.int .i64 1)))] [2,3] []) .ret) .skip)) (.seq (.reg false [.V 7 (.mv (.t 0)),.V 8 (.mv (.t 0)),.V 9 (.call (.c (.fn 454 [])) [.t 8]),.V 10 (.call (.c (.fn 456 [])) [.t 7,.t 9]),.V 2 (.asg (.t 10)),.V 3 (.asg (.c (.int .i64 0)))] [2,3] []) .ret))) }
noncomputable def impl_TotalHours_D : List (Nat × Callee) := [(83,impl_ValidSteps_c),(454,impl_earliest_c),(456,impl_ended_c)]
def impl_TotalHours_H : List (Nat × ET) := [(4,T_Step),(7,T_Step),(8,T_Step),(9,(.one (.int .i64)))]
noncomputable def impl_TotalHours_c : Callee := mkCallee impl_TotalHours_D impl_TotalHours_H impl_TotalHours_ir [.d (.one (.sl T_Step))] [.d (.one (.int .i64)),.d (.one (.int .i64))] []
noncomputable def impl_TotalHours (a0 : List T_Step.ty) : Option (Int × Int) := impl_TotalHours_c.f (a0,())
theorem impl_TotalHours_eq (a0 : List T_Step.ty) : impl_TotalHours a0 =
 (impl_ValidSteps a0).bind fun x1 =>
  if (!x1) then
   some (0,1)
  else
   (impl_earliest a0).bind fun x2 =>
    (impl_ended a0 x2).bind fun x3 =>
     some (x3,0) :=
 (mk_f _ _ _ _ _ _ _ 4000).trans (by kernel_rfl)
def impl_CriticalSteps_k0 : C :=
 .seq (.reg false [.V 19 (.bin .lss (.t 18) (.t 17))] [4,5,6,17,18,19] [4,5,6]) (.seq (.cond (.t 19) .skip (.exit 0)) (.seq (.block 1 (.seq (.reg false [.V 20 (.mv (.t 18)),.V 7 (.asg (.t 20))] [4,5,6,7,17,18] [4,5,6]) (.seq (.reg true [.V 21 (.mv (.t 4)),.V 22 (.mv (.t 7)),.V 23 (.ia 1 (.t 21) (.t 22)),.V 24 (.ld none (.t 23)),.V 25 (.mv (.t 5)),.V 26 (.mv (.t 7)),.V 27 (.ia 1 (.t 25) (.t 26)),.V 28 (.ld none (.t 27)),.V 29 (.bin .eql (.t 24) (.t 28))] [4,5,6,7,17,18,29] [4,5,6]) (.cond (.t 29) (.reg false [.V 30 (.mv (.t 6)),.V 31 (.mv (.t 7)),.V 32 (.bsl 1 (.int .i64 0) 1 [(0,.t 31)]),.W 33 (.app 1 8 (.t 30) (.t 32)),.W 6 (.asg (.t 33))] [4,5,6,17,18] [4,5,6]) .skip)))) (.reg false [.V 34 (.bin .add (.t 18) (.c (.int .i64 1))),.V 18 (.mv (.t 34))] [4,5,6,17,18] [4,5,6])))
def impl_CriticalSteps_k1 : C :=
 .norm [4,5,6,17,18] [4,5,6] impl_CriticalSteps_k0
def impl_CriticalSteps_k2 : C :=
 .seq (.reg false [.V 35 (.mv (.t 6)),.W 2 (.asg (.t 35)),.V 3 (.asg (.c (.int .i64 0)))] [2,3] [2,6]) .ret
def impl_CriticalSteps_ir : Fn := { np := 1,io := [],res := [.t 2,.t 3],own := [true,false],body :=
 (.seq (.reg false [.W 2 (.asg (.c (.nils 1))),.V 3 (.asg (.c (.int .i64 0)))] [0] []) (.seq (.seq (.reg false [.V 8 (.mv (.t 0)),.V 9 (.call (.c (.fn 83 [])) [.t 8]),.V 10 (.un .not (.t 9))] [0,10] []) (.cond (.t 10) (.seq (.reg false [.W 2 (.asg (.c (.nils 1))),.V 3 (.asg (.c (.int .i64 1)))] [2,3] [2,6]) .ret) .skip)) (.seq (.reg false [.V 11 (.mv (.t 0)),.V 12 (.call (.c (.fn 454 [])) [.t 11]),.V 13 (.mv (.t 0)),.V 14 (.call (.c (.fn 455 [])) [.t 13]),.W 4 (.asg (.t 12)),.W 5 (.asg (.t 14))] [0,4,5] [4,5]) (.seq (.reg false [.V 15 (.bsl 1 (.int .i64 0) 0 []),.W 6 (.asg (.t 15))] [0,4,5,6] [4,5,6]) (.seq (.seq (.reg false [.V 16 (.mv (.t 0)),.V 17 (.len (.t 16)),.V 18 (.mv (.c (.int .i64 0)))] [4,5,6,17,18] [4,5,6]) (.block 0 (.loop impl_CriticalSteps_k1))) impl_CriticalSteps_k2))))) }
noncomputable def impl_CriticalSteps_D : List (Nat × Callee) := [(83,impl_ValidSteps_c),(454,impl_earliest_c),(455,impl_latest_c)]
def impl_CriticalSteps_H : List (Nat × ET) := [(2,(.one (.int .i64))),(4,(.one (.int .i64))),(5,(.one (.int .i64))),(6,(.one (.int .i64))),(8,T_Step),(11,T_Step),(12,(.one (.int .i64))),(13,T_Step),(14,(.one (.int .i64))),(15,(.one (.int .i64))),(16,T_Step),(21,(.one (.int .i64))),(25,(.one (.int .i64))),(30,(.one (.int .i64))),(32,(.one (.int .i64))),(33,(.one (.int .i64))),(35,(.one (.int .i64)))]
noncomputable def impl_CriticalSteps_c : Callee := mkCallee impl_CriticalSteps_D impl_CriticalSteps_H impl_CriticalSteps_ir [.d (.one (.sl T_Step))] [.tok (.one (.int .i64)),.d (.one (.int .i64))] []
noncomputable def impl_CriticalSteps (a0 : List T_Step.ty) : Option (List Int × Int) := impl_CriticalSteps_c.f (a0,())
noncomputable def impl_CriticalSteps_p0  (v17 : Int) (v18 : Int) (r4 : List Int) (r5 : List Int) (r6 : List Int) : Option (List Int × Int) :=
 goL impl_CriticalSteps_D impl_CriticalSteps_H (vleave impl_CriticalSteps_ir [.d (.one (.sl T_Step))] [.tok (.one (.int .i64)),.d (.one (.int .i64))] [] []) [.c impl_CriticalSteps_k0,.l impl_CriticalSteps_k1,.e 0,.c impl_CriticalSteps_k2]
  ⟨[(4,.view 4 0 r4.length),(5,.view 5 0 r5.length),(6,.view 6 0 r6.length),(17,.int .i64 v17),(18,.int .i64 v18)],[(4,some (.sl (.one (.int .i64)) r4)),(5,some (.sl (.one (.int .i64)) r5)),(6,some (.sl (.one (.int .i64)) r6))]⟩
theorem impl_CriticalSteps_eq (a0 : List T_Step.ty) : impl_CriticalSteps a0 =
 (impl_ValidSteps a0).bind fun x1 =>
  if (!x1) then
   some ([],1)
  else
   (impl_earliest a0).bind fun x2 =>
    (impl_latest a0).bind fun x3 =>
     impl_CriticalSteps_p0 (a0.length : Int) 0 x2 x3 [] :=
 (mk_f _ _ _ _ _ _ _ 4000).trans (by kernel_rfl)
theorem impl_CriticalSteps_p0_eq  (v17 : Int) (v18 : Int) (r4 : List Int) (r5 : List Int) (r6 : List Int) : impl_CriticalSteps_p0 v17 v18 r4 r5 r6 =
 if decide (v18 < v17) then
  if decide (0 ≤ v18) && decide (v18 < (r4.length : Int)) then
   (r4[v18.toNat]?).bind fun x1 =>
    if decide (0 ≤ v18) && decide (v18 < (r5.length : Int)) then
     (r5[v18.toNat]?).bind fun x2 =>
      if (x1 == x2) then
       if decide (r6.length + 1 < lim) then
        impl_CriticalSteps_p0 v17 (IntKind.i64.wrap (v18 + 1)) r4 r5 ((r6.take r6.length) ++ [v18])
       else
        none
      else
       impl_CriticalSteps_p0 v17 (IntKind.i64.wrap (v18 + 1)) r4 r5 r6
    else
     none
  else
   none
 else
  some ((r6.take r6.length),0) :=
 (goL_dn _ _ _ 4000 _ _).trans (by kernel_rfl)
noncomputable def strconv_FormatInt_c : Callee := formatIntC
noncomputable def strconv_FormatInt (a0 : Int) (a1 : Int) : Option (List UInt8) := strconv_FormatInt_c.f (a0,a1,())
theorem strconv_FormatInt_eq (a0 : Int) (a1 : Int) : strconv_FormatInt a0 a1 = if decide (a1 = 10) && (decide (-9223372036854775808 ≤ a0) && decide (a0 ≤ 9223372036854775807)) then some (Lib.itoa a0) else none := rfl
def impl_Decimal_ir : Fn := { np := 1,io := [],res := [.t 2],own := [false],body :=
 (.seq (.reg false [.V 2 (.asg (.c (.str [])))] [0] []) (.seq (.reg false [.V 3 (.mv (.t 0)),.V 4 (.call (.c (.fn 864 [])) [.t 3,.c (.int .i64 10)]),.V 2 (.asg (.t 4))] [2] []) .ret)) }
noncomputable def impl_Decimal_D : List (Nat × Callee) := [(864,strconv_FormatInt_c)]
def impl_Decimal_H : List (Nat × ET) := []
noncomputable def impl_Decimal_c : Callee := mkCallee impl_Decimal_D impl_Decimal_H impl_Decimal_ir [.d (.one (.int .i64))] [.d (.one .str)] []
noncomputable def impl_Decimal (a0 : Int) : Option (List UInt8) := impl_Decimal_c.f (a0,())
theorem impl_Decimal_eq (a0 : Int) : impl_Decimal a0 =
 (strconv_FormatInt a0 10).bind fun x1 =>
  some x1 :=
 (mk_f _ _ _ _ _ _ _ 4000).trans (by kernel_rfl)
noncomputable def strings_Join_c : Callee := joinC
noncomputable def strings_Join (a0 : List (List UInt8)) (a1 : List UInt8) : Option (List UInt8) := strings_Join_c.f (a0,a1,())
theorem strings_Join_eq (a0 : List (List UInt8)) (a1 : List UInt8) : strings_Join a0 a1 = if decide (a0.length ≤ 140737488355328) && decide ((Lib.join a0 a1).length ≤ 140737488355328) then some (Lib.join a0 a1) else none := rfl
def impl_ListText_k0 : C :=
 .seq (.reg false [.V 17 (.bin .lss (.t 16) (.t 15))] [3,14,15,16,17] [3]) (.seq (.cond (.t 17) .skip (.exit 0)) (.seq (.block 1 (.seq (.reg false [.V 18 (.ia 1 (.t 14) (.t 16)),.V 19 (.ld none (.t 18)),.V 5 (.asg (.t 19))] [3,5,14,15,16] [3]) (.seq (.seq (.reg false [.V 20 (.mv (.t 5)),.V 21 (.call (.c (.fn 23 [])) [.t 20,.c (.int .i64 (-1000000000000)),.c (.int .i64 1000000000000)]),.V 22 (.un .not (.t 21))] [3,5,14,15,16,22] [3]) (.cond (.t 22) (.seq (.reg false [.V 2 (.asg (.c (.str [])))] [2] []) .ret) .skip)) (.reg false [.V 23 (.mv (.t 3)),.V 24 (.mv (.t 5)),.V 25 (.call (.c (.fn 524 [])) [.t 24]),.V 26 (.bsl 1 (.str []) 1 [(0,.t 25)]),.W 27 (.app 1 16 (.t 23) (.t 26)),.W 3 (.asg (.t 27))] [3,14,15,16] [3])))) (.reg false [.V 28 (.bin .add (.t 16) (.c (.int .i64 1))),.V 16 (.mv (.t 28))] [3,14,15,16] [3])))
def impl_ListText_k1 : C :=
 .norm [3,14,15,16] [3] impl_ListText_k0
def impl_ListText_k2 : C :=
 .seq (.reg false [.V 29 (.mv (.t 3)),.V 30 (.call (.c (.fn 630 [])) [.t 29,.c (.str [44])]),.V 2 (.asg (.t 30))] [2] []) .ret
def impl_ListText_ir : Fn := { np := 1,io := [],res := [.t 2],own := [false],body :=
 (.seq (.reg false [.V 2 (.asg (.c (.str [])))] [0] []) (.seq (.seq (.reg false [.V 6 (.mv (.t 0)),.V 7 (.len (.t 6)),.V 8 (.call (.c (.fn 21 [])) [.t 7,.c (.int .i64 64)]),.V 9 (.un .not (.t 8))] [0,9] []) (.cond (.t 9) (.seq (.reg false [.V 2 (.asg (.c (.str [])))] [2] []) .ret) .skip)) (.seq (.seq (.reg false [.V 10 (.mv (.t 0)),.V 11 (.len (.t 10)),.V 12 (.bin .eql (.t 11) (.c (.int .i64 0)))] [0,12] []) (.cond (.t 12) (.seq (.reg false [.V 2 (.asg (.c (.str [45])))] [2] []) .ret) .skip)) (.seq (.reg false [.V 13 (.bsl 1 (.str []) 0 []),.W 3 (.asg (.t 13))] [0,3] [3]) (.seq (.seq (.reg false [.V 14 (.mv (.t 0)),.V 15 (.len (.t 14)),.V 16 (.mv (.c (.int .i64 0)))] [3,14,15,16] [3]) (.block 0 (.loop impl_ListText_k1))) impl_ListText_k2))))) }
noncomputable def impl_ListText_D : List (Nat × Callee) := [(21,impl_few_c),(23,impl_within_c),(524,impl_Decimal_c),(630,strings_Join_c)]
def impl_ListText_H : List (Nat × ET) := [(3,(.one .str)),(6,(.one (.int .i64))),(10,(.one (.int .i64))),(13,(.one .str)),(14,(.one (.int .i64))),(23,(.one .str)),(26,(.one .str)),(27,(.one .str)),(29,(.one .str))]
noncomputable def impl_ListText_c : Callee := mkCallee impl_ListText_D impl_ListText_H impl_ListText_ir [.d (.one (.sl (.one (.int .i64))))] [.d (.one .str)] []
noncomputable def impl_ListText (a0 : List Int) : Option (List UInt8) := impl_ListText_c.f (a0,())
noncomputable def impl_ListText_p0  (v14 : List Int) (v15 : Int) (v16 : Int) (r3 : List (List UInt8)) : Option (List UInt8) :=
 goL impl_ListText_D impl_ListText_H (vleave impl_ListText_ir [.d (.one (.sl (.one (.int .i64))))] [.d (.one .str)] [] []) [.c impl_ListText_k0,.l impl_ListText_k1,.e 0,.c impl_ListText_k2]
  ⟨[(3,.view 3 0 r3.length),(14,.sl (.one (.int .i64)) v14),(15,.int .i64 v15),(16,.int .i64 v16)],[(3,some (.sl (.one .str) r3))]⟩
theorem impl_ListText_eq (a0 : List Int) : impl_ListText a0 =
 (impl_few (a0.length : Int) 64).bind fun x1 =>
  if (!x1) then
   some []
  else
   if ((a0.length : Int) == 0) then
    some [45]
   else
    impl_ListText_p0 a0 (a0.length : Int) 0 [] :=
 (mk_f _ _ _ _ _ _ _ 4000).trans (by kernel_rfl)
theorem impl_ListText_p0_eq  (v14 : List Int) (v15 : Int) (v16 : Int) (r3 : List (List UInt8)) : impl_ListText_p0 v14 v15 v16 r3 =
 if decide (v16 < v15) then
  if decide (0 ≤ v16) then
   (v14[v16.toNat]?).bind fun x1 =>
    (impl_within x1 (-1000000000000) 1000000000000).bind fun x2 =>
     if (!x2) then
      some []
     else
      (impl_Decimal x1).bind fun x3 =>
       if decide (r3.length + 1 < lim) then
        impl_ListText_p0 v14 v15 (IntKind.i64.wrap (v16 + 1)) ((r3.take r3.length) ++ [x3])
       else
        none
  else
   none
 else
  (strings_Join (r3.take r3.length) [44]).bind fun x4 =>
   some x4 :=
 (goL_dn _ _ _ 4000 _ _).trans (by kernel_rfl)
def impl_named_ir : Fn := { np := 2,io := [],res := [.t 4],own := [false],body :=
 (.seq (.reg false [.V 4 (.asg (.c (.str [])))] [0,1] []) (.seq (.reg false [.V 5 (.mv (.t 0)),.V 6 (.bin .add (.t 5) (.c (.str [32]))),.V 7 (.mv (.t 1)),.V 8 (.call (.c (.fn 460 [])) [.t 7]),.V 9 (.bin .add (.t 6) (.t 8)),.V 4 (.asg (.t 9))] [4] []) .ret)) }
noncomputable def impl_named_D : List (Nat × Callee) := [(460,impl_ListText_c)]
def impl_named_H : List (Nat × ET) := [(7,(.one (.int .i64)))]
noncomputable def impl_named_c : Callee := mkCallee impl_named_D impl_named_H impl_named_ir [.d (.one .str),.d (.one (.sl (.one (.int .i64))))] [.d (.one .str)] []
noncomputable def impl_named (a0 : List UInt8) (a1 : List Int) : Option (List UInt8) := impl_named_c.f (a0,a1,())
theorem impl_named_eq (a0 : List UInt8) (a1 : List Int) : impl_named a0 a1 =
 if decide (a0.length + [32].length ≤ strMax) then
  (impl_ListText a1).bind fun x1 =>
   if decide ((a0 ++ [32]).length + x1.length ≤ strMax) then
    some ((a0 ++ [32]) ++ x1)
   else
    none
 else
  none :=
 (mk_f _ _ _ _ _ _ _ 4000).trans (by kernel_rfl)
def impl_StepText_ir : Fn := { np := 1,io := [],res := [.t 2],own := [false],body :=
 (.seq (.reg false [.W 1 (.box 4 (.t 0)),.V 2 (.asg (.c (.str [])))] [1] [1,2003]) (.seq (.seq (.reg false [.V 3 (.ld (some 4) (.t 1)),.V 4 (.call (.c (.fn 461 [])) [.t 3]),.V 5 (.un .not (.t 4))] [1,5] [1,2003]) (.cond (.t 5) (.seq (.reg false [.V 2 (.asg (.c (.str [])))] [2] []) .ret) .skip)) (.seq (.reg true [.V 6 (.fa 0 (.t 1)),.V 7 (.ld none (.t 6)),.V 8 (.fa 1 (.t 1)),.V 9 (.ld none (.t 8)),.V 10 (.fa 2 (.t 1)),.V 11 (.ld none (.t 10)),.V 12 (.bsl 1 (.int .i64 0) 2 [(0,.t 9),(1,.t 11)]),.V 13 (.call (.c (.fn 459 [])) [.t 7,.t 12]),.V 14 (.bin .add (.t 13) (.c (.str [32]))),.V 15 (.fa 3 (.t 1)),.V 16 (.ld none (.t 15)),.V 17 (.call (.c (.fn 460 [])) [.t 16]),.V 18 (.bin .add (.t 14) (.t 17)),.V 2 (.asg (.t 18))] [2] []) .ret))) }
noncomputable def impl_StepText_D : List (Nat × Callee) := [(459,impl_named_c),(460,impl_ListText_c),(461,impl_Step_valid_c)]
def impl_StepText_H : List (Nat × ET) := [(12,(.one (.int .i64))),(16,(.one (.int .i64)))]
noncomputable def impl_StepText_c : Callee := mkCallee impl_StepText_D impl_StepText_H impl_StepText_ir [.d T_Step] [.d (.one .str)] []
noncomputable def impl_StepText (a0 : T_Step.ty) : Option (List UInt8) := impl_StepText_c.f (a0,())
theorem impl_StepText_eq (a0 : T_Step.ty) : impl_StepText a0 =
 (impl_Step_valid a0).bind fun x1 =>
  if (!x1) then
   some []
  else
   (impl_named a0.1 [a0.2.1,a0.2.2.1]).bind fun x2 =>
    if decide (x2.length + [32].length ≤ strMax) then
     (impl_ListText a0.2.2.2.1).bind fun x3 =>
      if decide ((x2 ++ [32]).length + x3.length ≤ strMax) then
       some ((x2 ++ [32]) ++ x3)
      else
       none
    else
     none :=
 (mk_f _ _ _ _ _ _ _ 4000).trans (by kernel_rfl)
noncomputable def strings_Split_c : Callee := splitC
noncomputable def strings_Split (a0 : List UInt8) (a1 : List UInt8) : Option (List (List UInt8)) := strings_Split_c.f (a0,a1,())
theorem strings_Split_eq (a0 : List UInt8) (a1 : List UInt8) : strings_Split a0 a1 = if decide (a0.length < 4294967281) && decide (1 ≤ a1.length) then some (Lib.splitK a1 0 (Lib.count a0 a1) a0) else none := rfl
def impl_SplitWords_k0 : C :=
 .seq (.reg false [.V 11 (.bin .lss (.t 10) (.t 9))] [3,8,9,10,11] [3]) (.seq (.cond (.t 11) .skip (.exit 0)) (.seq (.block 1 (.seq (.reg false [.V 12 (.ia 1 (.t 8) (.t 10)),.V 13 (.ld none (.t 12)),.V 5 (.asg (.t 13))] [3,5,8,9,10] [3]) (.seq (.reg false [.V 14 (.mv (.t 5)),.V 15 (.bin .neq (.t 14) (.c (.str [])))] [3,5,8,9,10,15] [3]) (.cond (.t 15) (.reg false [.V 16 (.mv (.t 3)),.V 17 (.mv (.t 5)),.V 18 (.bsl 1 (.str []) 1 [(0,.t 17)]),.W 19 (.app 1 16 (.t 16) (.t 18)),.W 3 (.asg (.t 19))] [3,8,9,10] [3]) .skip)))) (.reg false [.V 20 (.bin .add (.t 10) (.c (.int .i64 1))),.V 10 (.mv (.t 20))] [3,8,9,10] [3])))
def impl_SplitWords_k1 : C :=
 .norm [3,8,9,10] [3] impl_SplitWords_k0
def impl_SplitWords_k2 : C :=
 .seq (.reg false [.V 21 (.mv (.t 3)),.W 2 (.asg (.t 21))] [2] [2,3]) .ret
def impl_SplitWords_ir : Fn := { np := 1,io := [],res := [.t 2],own := [true],body :=
 (.seq (.reg false [.W 2 (.asg (.c (.nils 1)))] [0] []) (.seq (.reg false [.V 6 (.bsl 1 (.str []) 0 []),.W 3 (.asg (.t 6))] [0,3] [3]) (.seq (.seq (.reg false [.V 7 (.mv (.t 0)),.V 8 (.call (.c (.fn 683 [])) [.t 7,.c (.str [32])]),.V 9 (.len (.t 8)),.V 10 (.mv (.c (.int .i64 0)))] [3,8,9,10] [3]) (.block 0 (.loop impl_SplitWords_k1))) impl_SplitWords_k2))) }
noncomputable def impl_SplitWords_D : List (Nat × Callee) := [(683,strings_Split_c)]
def impl_SplitWords_H : List (Nat × ET) := [(2,(.one .str)),(3,(.one .str)),(6,(.one .str)),(8,(.one .str)),(16,(.one .str)),(18,(.one .str)),(19,(.one .str)),(21,(.one .str))]
noncomputable def impl_SplitWords_c : Callee := mkCallee impl_SplitWords_D impl_SplitWords_H impl_SplitWords_ir [.d (.one .str)] [.tok (.one .str)] []
noncomputable def impl_SplitWords (a0 : List UInt8) : Option (List (List UInt8)) := impl_SplitWords_c.f (a0,())
noncomputable def impl_SplitWords_p0  (v8 : List (List UInt8)) (v9 : Int) (v10 : Int) (r3 : List (List UInt8)) : Option (List (List UInt8)) :=
 goL impl_SplitWords_D impl_SplitWords_H (vleave impl_SplitWords_ir [.d (.one .str)] [.tok (.one .str)] [] []) [.c impl_SplitWords_k0,.l impl_SplitWords_k1,.e 0,.c impl_SplitWords_k2]
  ⟨[(3,.view 3 0 r3.length),(8,.sl (.one .str) v8),(9,.int .i64 v9),(10,.int .i64 v10)],[(3,some (.sl (.one .str) r3))]⟩
theorem impl_SplitWords_eq (a0 : List UInt8) : impl_SplitWords a0 =
 (strings_Split a0 [32]).bind fun x1 =>
  impl_SplitWords_p0 x1 (x1.length : Int) 0 [] :=
 (mk_f _ _ _ _ _ _ _ 4000).trans (by kernel_rfl)
theorem impl_SplitWords_p0_eq  (v8 : List (List UInt8)) (v9 : Int) (v10 : Int) (r3 : List (List UInt8)) : impl_SplitWords_p0 v8 v9 v10 r3 =
 if decide (v10 < v9) then
  if decide (0 ≤ v10) then
   (v8[v10.toNat]?).bind fun x1 =>
    if (!(x1 == [])) then
     if decide (r3.length + 1 < lim) then
      impl_SplitWords_p0 v8 v9 (IntKind.i64.wrap (v10 + 1)) ((r3.take r3.length) ++ [x1])
     else
      none
    else
     impl_SplitWords_p0 v8 v9 (IntKind.i64.wrap (v10 + 1)) r3
  else
   none
 else
  some (r3.take r3.length) :=
 (goL_dn _ _ _ 4000 _ _).trans (by kernel_rfl)
noncomputable def impl_ReadDecimal_c : Callee := readDecC
noncomputable def impl_ReadDecimal (a0 : List UInt8) : Option (Int × Bool) := impl_ReadDecimal_c.f (a0,())
theorem impl_ReadDecimal_eq (a0 : List UInt8) : impl_ReadDecimal a0 = some (readDecP a0) := rfl
def impl_ReadList_k0 : C :=
 .seq (.reg false [.V 16 (.bin .lss (.t 15) (.t 14))] [4,13,14,15,16] [4]) (.seq (.cond (.t 16) .skip (.exit 0)) (.seq (.block 1 (.seq (.reg false [.V 17 (.ia 1 (.t 13) (.t 15)),.V 18 (.ld none (.t 17)),.V 6 (.asg (.t 18))] [4,6,13,14,15] [4]) (.seq (.reg false [.V 20 (.mv (.t 6)),.V 21 (.call (.c (.fn 522 [])) [.t 20]),.V 19 (.mv (.t 21)),.V 22 (.ext (.t 19) 0),.V 23 (.ext (.t 19) 1),.V 7 (.asg (.t 22)),.V 8 (.asg (.t 23))] [4,7,8,13,14,15] [4]) (.seq (.seq (.reg false [.V 24 (.mv (.t 8)),.V 25 (.un .not (.t 24)),.V 26 (.mv (.t 25)),.G 27 (.mv (.t 7)) 2 false,.G 28 (.call (.c (.fn 23 [])) [.t 27,.c (.int .i64 (-1000000000000)),.c (.int .i64 1000000000000)]) 2 false,.G 29 (.un .not (.t 28)) 2 false,.V 30 (.pick (.t 26) (.c (.bool true)) (.t 29)),.V 31 (.mv (.t 30)),.G 32 (.mv (.t 4)) 7 false,.G 33 (.len (.t 32)) 7 false,.G 34 (.bin .eql (.t 33) (.c (.int .i64 64))) 7 false,.V 35 (.pick (.t 31) (.c (.bool true)) (.t 34))] [4,7,13,14,15,35] [4]) (.cond (.t 35) (.seq (.reg false [.W 2 (.asg (.c (.nils 1))),.V 3 (.asg (.c (.bool false)))] [2,3] [2,4]) .ret) .skip)) (.reg false [.V 36 (.mv (.t 4)),.V 37 (.mv (.t 7)),.V 38 (.bsl 1 (.int .i64 0) 1 [(0,.t 37)]),.W 39 (.app 1 8 (.t 36) (.t 38)),.W 4 (.asg (.t 39))] [4,13,14,15] [4]))))) (.reg false [.V 40 (.bin .add (.t 15) (.c (.int .i64 1))),.V 15 (.mv (.t 40))] [4,13,14,15] [4])))
def impl_ReadList_k1 : C :=
 .norm [4,13,14,15] [4] impl_ReadList_k0
def impl_ReadList_k2 : C :=
 .seq (.reg false [.V 41 (.mv (.t 4)),.W 2 (.asg (.t 41)),.V 3 (.asg (.c (.bool true)))] [2,3] [2,4]) .ret
def impl_ReadList_ir : Fn := { np := 1,io := [],res := [.t 2,.t 3],own := [true,false],body :=
 (.seq (.reg false [.W 2 (.asg (.c (.nils 1))),.V 3 (.asg (.c (.bool false)))] [0] []) (.seq (.seq (.reg false [.V 9 (.mv (.t 0)),.V 10 (.bin .eql (.t 9) (.c (.str [45])))] [0,10] []) (.cond (.t 10) (.seq (.reg false [.W 2 (.asg (.c (.nils 1))),.V 3 (.asg (.c (.bool true)))] [2,3] [2,4]) .ret) .skip)) (.seq (.reg false [.V 11 (.bsl 1 (.int .i64 0) 0 []),.W 4 (.asg (.t 11))] [0,4] [4]) (.seq (.seq (.reg false [.V 12 (.mv (.t 0)),.V 13 (.call (.c (.fn 683 [])) [.t 12,.c (.str [44])]),.V 14 (.len (.t 13)),.V 15 (.mv (.c (.int .i64 0)))] [4,13,14,15] [4]) (.block 0 (.loop impl_ReadList_k1))) impl_ReadList_k2)))) }
noncomputable def impl_ReadList_D : List (Nat × Callee) := [(23,impl_within_c),(522,impl_ReadDecimal_c),(683,strings_Split_c)]
def impl_ReadList_H : List (Nat × ET) := [(2,(.one (.int .i64))),(4,(.one (.int .i64))),(11,(.one (.int .i64))),(13,(.one .str)),(32,(.one (.int .i64))),(36,(.one (.int .i64))),(38,(.one (.int .i64))),(39,(.one (.int .i64))),(41,(.one (.int .i64)))]
noncomputable def impl_ReadList_c : Callee := mkCallee impl_ReadList_D impl_ReadList_H impl_ReadList_ir [.d (.one .str)] [.tok (.one (.int .i64)),.d (.one .bool)] []
noncomputable def impl_ReadList (a0 : List UInt8) : Option (List Int × Bool) := impl_ReadList_c.f (a0,())
noncomputable def impl_ReadList_p0  (v13 : List (List UInt8)) (v14 : Int) (v15 : Int) (r4 : List Int) : Option (List Int × Bool) :=
 goL impl_ReadList_D impl_ReadList_H (vleave impl_ReadList_ir [.d (.one .str)] [.tok (.one (.int .i64)),.d (.one .bool)] [] []) [.c impl_ReadList_k0,.l impl_ReadList_k1,.e 0,.c impl_ReadList_k2]
  ⟨[(4,.view 4 0 r4.length),(13,.sl (.one .str) v13),(14,.int .i64 v14),(15,.int .i64 v15)],[(4,some (.sl (.one (.int .i64)) r4))]⟩
theorem impl_ReadList_eq (a0 : List UInt8) : impl_ReadList a0 =
 if (a0 == [45]) then
  some ([],true)
 else
  (strings_Split a0 [44]).bind fun x1 =>
   impl_ReadList_p0 x1 (x1.length : Int) 0 [] :=
 (mk_f _ _ _ _ _ _ _ 4000).trans (by kernel_rfl)
theorem impl_ReadList_p0_eq  (v13 : List (List UInt8)) (v14 : Int) (v15 : Int) (r4 : List Int) : impl_ReadList_p0 v13 v14 v15 r4 =
 if decide (v15 < v14) then
  if decide (0 ≤ v15) then
   (v13[v15.toNat]?).bind fun x1 =>
    (impl_ReadDecimal x1).bind fun x2 =>
     if (!x2.2) then
      some ([],false)
     else
      (impl_within x2.1 (-1000000000000) 1000000000000).bind fun x3 =>
       if (!x3) then
        some ([],false)
       else
        if ((r4.length : Int) == 64) then
         some ([],false)
        else
         if decide (r4.length + 1 < lim) then
          impl_ReadList_p0 v13 v14 (IntKind.i64.wrap (v15 + 1)) ((r4.take r4.length) ++ [x2.1])
         else
          none
  else
   none
 else
  some ((r4.take r4.length),true) :=
 (goL_dn _ _ _ 4000 _ _).trans (by kernel_rfl)
def impl_ReadStep_k0 : C :=
 .seq (.reg true [⟨some 42,false,.mv (.t 4),none,false,[9]⟩,⟨some 43,false,.ia 1 (.t 42) (.c (.int .i64 0)),none,false,[9]⟩,⟨some 44,false,.ld none (.t 43),none,false,[9]⟩,⟨some 45,false,.mv (.t 5),none,false,[9]⟩,⟨some 46,false,.ia 1 (.t 45) (.c (.int .i64 0)),none,false,[9]⟩,⟨some 47,false,.ld none (.t 46),none,false,[9]⟩,⟨some 48,false,.mv (.t 5),none,false,[9]⟩,⟨some 49,false,.ia 1 (.t 48) (.c (.int .i64 1)),none,false,[9]⟩,⟨some 50,false,.ld none (.t 49),none,false,[9]⟩,⟨some 51,false,.mv (.t 7),none,false,[9]⟩,⟨some 52,false,.build [.str [],.int .i64 0,.int .i64 0,.nils 1] [(0,1,.t 44),(1,1,.t 47),(2,1,.t 50),(3,1,.t 51)],none,false,[9]⟩,.W 9 (.alloc 4 (.agg [.str [],.int .i64 0,.int .i64 0,.nils 1])),⟨none,true,.sto 4 (.t 9) (.t 52),none,false,[]⟩] [0,2,9] [2,9,3003,10003]) (.seq (.seq (.reg false [.V 53 (.ld (some 4) (.t 9)),.V 54 (.call (.c (.fn 81 [])) [.t 53]),.V 55 (.mv (.t 0)),.V 56 (.bin .neq (.t 54) (.t 55))] [2,9,56] [2,9,3003,10003]) (.cond (.t 56) (.seq (.reg false [.V 57 (.build [.str [],.int .i64 0,.int .i64 0,.nils 1] []),⟨none,true,.sto 4 (.t 2) (.t 57),none,false,[]⟩,.V 3 (.asg (.c (.bool false)))] [2,3] [2,3003]) .ret) .skip)) (.seq (.reg false [.V 58 (.ld (some 4) (.t 9)),⟨none,true,.sto 4 (.t 2) (.t 58),none,false,[]⟩,.V 3 (.asg (.c (.bool true)))] [2,3] [2,3003]) .ret))
def impl_ReadStep_ir : Fn := { np := 1,io := [],res := [.cell 2 (some 4),.t 3],own := [false,false],body :=
 (.seq (.reg false [.W 2 (.alloc 4 (.agg [.str [],.int .i64 0,.int .i64 0,.nils 1])),.V 3 (.asg (.c (.bool false)))] [0,2] [2,3003]) (.seq (.reg false [.V 10 (.mv (.t 0)),.V 11 (.call (.c (.fn 458 [])) [.t 10]),.W 4 (.asg (.t 11))] [0,2,4] [2,4,3003]) (.seq (.seq (.reg false [.V 12 (.mv (.t 4)),.V 13 (.len (.t 12)),.V 14 (.bin .neq (.t 13) (.c (.int .i64 3)))] [0,2,4,14] [2,4,3003]) (.cond (.t 14) (.seq (.reg false [.V 15 (.build [.str [],.int .i64 0,.int .i64 0,.nils 1] []),⟨none,true,.sto 4 (.t 2) (.t 15),none,false,[]⟩,.V 3 (.asg (.c (.bool false)))] [2,3] [2,3003]) .ret) .skip)) (.seq (.reg false [.V 17 (.mv (.t 4)),.V 18 (.ia 1 (.t 17) (.c (.int .i64 1))),.V 19 (.ld none (.t 18)),.V 20 (.call (.c (.fn 457 [])) [.t 19]),.V 16 (.mv (.t 20)),.V 21 (.ext (.t 16) 0),.V 22 (.ext (.t 16) 1),.W 5 (.asg (.t 21)),.V 6 (.asg (.t 22))] [0,2,4,5,6] [2,4,5,3003]) (.seq (.reg false [.V 24 (.mv (.t 4)),.V 25 (.ia 1 (.t 24) (.c (.int .i64 2))),.V 26 (.ld none (.t 25)),.V 27 (.call (.c (.fn 457 [])) [.t 26]),.V 23 (.mv (.t 27)),.V 28 (.ext (.t 23) 0),.V 29 (.ext (.t 23) 1),.W 7 (.asg (.t 28)),.V 8 (.asg (.t 29))] [0,2,4,5,6,7,8] [2,4,5,7,3003]) (.seq (.seq (.reg false [.V 30 (.mv (.t 6)),.V 31 (.un .not (.t 30)),.V 32 (.mv (.t 31)),.G 33 (.mv (.t 8)) 2 false,.G 34 (.un .not (.t 33)) 2 false,.V 35 (.pick (.t 32) (.c (.bool true)) (.t 34)),.V 36 (.mv (.t 35)),.G 37 (.mv (.t 5)) 6 false,.G 38 (.len (.t 37)) 6 false,.G 39 (.bin .neq (.t 38) (.c (.int .i64 2))) 6 false,.V 40 (.pick (.t 36) (.c (.bool true)) (.t 39))] [0,2,4,5,7,40] [2,4,5,7,3003]) (.cond (.t 40) (.seq (.reg false [.V 41 (.build [.str [],.int .i64 0,.int .i64 0,.nils 1] []),⟨none,true,.sto 4 (.t 2) (.t 41),none,false,[]⟩,.V 3 (.asg (.c (.bool false)))] [2,3] [2,3003]) .ret) .skip)) (.norm [0,2,4,5,7] [2,4,5,7,3003] impl_ReadStep_k0))))))) }
noncomputable def impl_ReadStep_D : List (Nat × Callee) := [(81,impl_StepText_c),(457,impl_ReadList_c),(458,impl_SplitWords_c)]
def impl_ReadStep_H : List (Nat × ET) := [(4,(.one .str)),(5,(.one (.int .i64))),(7,(.one (.int .i64))),(11,(.one .str)),(12,(.one .str)),(17,(.one .str)),(21,(.one (.int .i64))),(24,(.one .str)),(28,(.one (.int .i64))),(37,(.one (.int .i64))),(42,(.one .str)),(45,(.one (.int .i64))),(48,(.one (.int .i64))),(51,(.one (.int .i64)))]
noncomputable def impl_ReadStep_c : Callee := mkCallee impl_ReadStep_D impl_ReadStep_H impl_ReadStep_ir [.d (.one .str)] [.d T_Step,.d (.one .bool)] []
noncomputable def impl_ReadStep (a0 : List UInt8) : Option (T_Step.ty × Bool) := impl_ReadStep_c.f (a0,())
noncomputable def impl_ReadStep_p0  (v0 : List UInt8) (r2_0 : List UInt8) (r2_1 : Int) (r2_2 : Int) (r4 : List (List UInt8)) (r5 : List Int) (r7 : List Int) : Option (T_Step.ty × Bool) :=
 goL impl_ReadStep_D impl_ReadStep_H (vleave impl_ReadStep_ir [.d (.one .str)] [.d T_Step,.d (.one .bool)] [] []) [.c impl_ReadStep_k0]
  ⟨[(0,.str v0),(2,.loc 2 0 0),(4,.view 4 0 r4.length),(5,.view 5 0 r5.length),(7,.view 7 0 r7.length)],[(2,some (.var 4 (.agg [.str r2_0,.int .i64 r2_1,.int .i64 r2_2,.nils 1]))),(4,some (.sl (.one .str) r4)),(5,some (.sl (.one (.int .i64)) r5)),(7,some (.sl (.one (.int .i64)) r7)),(3003,none)]⟩
theorem impl_ReadStep_eq (a0 : List UInt8) : impl_ReadStep a0 =
 (impl_SplitWords a0).bind fun x1 =>
  if ((x1.length : Int) != 3) then
   some (([],0,0,[],()),false)
  else
   if decide (1 < (x1.length : Int)) then
    (x1[1]?).bind fun x2 =>
     (impl_ReadList x2).bind fun x3 =>
      if decide (2 < (x1.length : Int)) then
       (x1[2]?).bind fun x4 =>
        (impl_ReadList x4).bind fun x5 =>
         if (!x3.2) then
          some (([],0,0,[],()),false)
         else
          if (!x5.2) then
           some (([],0,0,[],()),false)
          else
           if ((x3.1.length : Int) != 2) then
            some (([],0,0,[],()),false)
           else
            impl_ReadStep_p0 a0 [] 0 0 x1 x3.1 x5.1
      else
       none
   else
    none :=
 (mk_f _ _ _ _ _ _ _ 4000).trans (by kernel_rfl)
theorem impl_ReadStep_p0_eq  (v0 : List UInt8) (r2_0 : List UInt8) (r2_1 : Int) (r2_2 : Int) (r4 : List (List UInt8)) (r5 : List Int) (r7 : List Int) : impl_ReadStep_p0 v0 r2_0 r2_1 r2_2 r4 r5 r7 =
 if decide (0 < (r4.length : Int)) then
  (r4[0]?).bind fun x1 =>
   if decide (0 < (r5.length : Int)) then
    (r5[0]?).bind fun x2 =>
     if decide (1 < (r5.length : Int)) then
      (r5[1]?).bind fun x3 =>
       (impl_StepText (x1,x2,x3,(r7.take r7.length),())).bind fun x4 =>
        if (!(x4 == v0)) then
         some (([],0,0,[],()),false)
        else
         some ((x1,x2,x3,(r7.take r7.length),()),true)
     else
      none
   else
    none
 else
  none :=
 (goL_dn _ _ _ 4000 _ _).trans (by kernel_rfl)
def laws_r8Has_k0 : C :=
 .seq (.seq (.reg false [.V 6 (.mv (.t 5)),.V 7 (.mv (.t 0)),.V 8 (.len (.t 7)),.V 9 (.bin .lss (.t 6) (.t 8))] [0,1,5,9] []) (.cond (.t 9) .skip (.exit 0))) (.seq (.block 1 (.seq (.reg false [.V 12 (.mv (.t 0)),.V 13 (.mv (.t 5)),.V 14 (.ia 1 (.t 12) (.t 13)),.V 15 (.ld none (.t 14)),.V 16 (.mv (.t 1)),.V 17 (.bin .eql (.t 15) (.t 16))] [0,1,5,17] []) (.cond (.t 17) (.seq (.reg false [.V 4 (.asg (.c (.bool true)))] [4] []) .ret) .skip))) (.reg false [.V 10 (.mv (.t 5)),.V 11 (.bin .add (.t 10) (.c (.int .i64 1))),.V 5 (.asg (.t 11))] [0,1,5] []))
def laws_r8Has_k1 : C :=
 .norm [0,1,5] [] laws_r8Has_k0
def laws_r8Has_k2 : C :=
 .seq (.reg false [.V 4 (.asg (.c (.bool false)))] [4] []) .ret
def laws_r8Has_ir : Fn := { np := 2,io := [],res := [.t 4],own := [false],body :=
 (.seq (.reg false [.V 4 (.asg (.c (.bool false)))] [0,1] []) (.seq (.seq (.reg false [.V 5 (.asg (.c (.int .i64 0)))] [0,1,5] []) (.block 0 (.loop laws_r8Has_k1))) laws_r8Has_k2)) }
noncomputable def laws_r8Has_D : List (Nat × Callee) := []
def laws_r8Has_H : List (Nat × ET) := [(7,(.one (.int .i64))),(12,(.one (.int .i64)))]
noncomputable def laws_r8Has_c : Callee := mkCallee laws_r8Has_D laws_r8Has_H laws_r8Has_ir [.d (.one (.sl (.one (.int .i64)))),.d (.one (.int .i64))] [.d (.one .bool)] []
noncomputable def laws_r8Has (a0 : List Int) (a1 : Int) : Option (Bool) := laws_r8Has_c.f (a0,a1,())
noncomputable def laws_r8Has_p0  (v0 : List Int) (v1 : Int) (v5 : Int) : Option (Bool) :=
 goL laws_r8Has_D laws_r8Has_H (vleave laws_r8Has_ir [.d (.one (.sl (.one (.int .i64)))),.d (.one (.int .i64))] [.d (.one .bool)] [] []) [.c laws_r8Has_k0,.l laws_r8Has_k1,.e 0,.c laws_r8Has_k2]
  ⟨[(0,.sl (.one (.int .i64)) v0),(1,.int .i64 v1),(5,.int .i64 v5)],[]⟩
theorem laws_r8Has_eq (a0 : List Int) (a1 : Int) : laws_r8Has a0 a1 =
 laws_r8Has_p0 a0 a1 0 :=
 (mk_f _ _ _ _ _ _ _ 4000).trans (by kernel_rfl)
theorem laws_r8Has_p0_eq  (v0 : List Int) (v1 : Int) (v5 : Int) : laws_r8Has_p0 v0 v1 v5 =
 if decide (v5 < (v0.length : Int)) then
  if decide (0 ≤ v5) then
   (v0[v5.toNat]?).bind fun x1 =>
    if (x1 == v1) then
     some true
    else
     laws_r8Has_p0 v0 v1 (IntKind.i64.wrap (v5 + 1))
  else
   none
 else
  some false :=
 (goL_dn _ _ _ 4000 _ _).trans (by kernel_rfl)
def laws_r8Same_k0 : C :=
 .seq (.seq (.reg false [.V 11 (.mv (.t 5)),.V 12 (.mv (.t 0)),.V 13 (.len (.t 12)),.V 14 (.bin .lss (.t 11) (.t 13))] [0,1,5,14] []) (.cond (.t 14) .skip (.exit 0))) (.seq (.block 1 (.seq (.reg true [.V 17 (.mv (.t 0)),.V 18 (.mv (.t 5)),.V 19 (.ia 1 (.t 17) (.t 18)),.V 20 (.ld none (.t 19)),.V 21 (.mv (.t 1)),.V 22 (.mv (.t 5)),.V 23 (.ia 1 (.t 21) (.t 22)),.V 24 (.ld none (.t 23)),.V 25 (.bin .neq (.t 20) (.t 24))] [0,1,5,25] []) (.cond (.t 25) (.seq (.reg false [.V 4 (.asg (.c (.bool false)))] [4] []) .ret) .skip))) (.reg false [.V 15 (.mv (.t 5)),.V 16 (.bin .add (.t 15) (.c (.int .i64 1))),.V 5 (.asg (.t 16))] [0,1,5] []))
def laws_r8Same_k1 : C :=
 .norm [0,1,5] [] laws_r8Same_k0
def laws_r8Same_k2 : C :=
 .seq (.reg false [.V 4 (.asg (.c (.bool true)))] [4] []) .ret
def laws_r8Same_ir : Fn := { np := 2,io := [],res := [.t 4],own := [false],body :=
 (.seq (.reg false [.V 4 (.asg (.c (.bool false)))] [0,1] []) (.seq (.seq (.reg false [.V 6 (.mv (.t 0)),.V 7 (.len (.t 6)),.V 8 (.mv (.t 1)),.V 9 (.len (.t 8)),.V 10 (.bin .neq (.t 7) (.t 9))] [0,1,10] []) (.cond (.t 10) (.seq (.reg false [.V 4 (.asg (.c (.bool false)))] [4] []) .ret) .skip)) (.seq (.seq (.reg false [.V 5 (.asg (.c (.int .i64 0)))] [0,1,5] []) (.block 0 (.loop laws_r8Same_k1))) laws_r8Same_k2))) }
noncomputable def laws_r8Same_D : List (Nat × Callee) := []
def laws_r8Same_H : List (Nat × ET) := [(6,(.one (.int .i64))),(8,(.one (.int .i64))),(12,(.one (.int .i64))),(17,(.one (.int .i64))),(21,(.one (.int .i64)))]
noncomputable def laws_r8Same_c : Callee := mkCallee laws_r8Same_D laws_r8Same_H laws_r8Same_ir [.d (.one (.sl (.one (.int .i64)))),.d (.one (.sl (.one (.int .i64))))] [.d (.one .bool)] []
noncomputable def laws_r8Same (a0 : List Int) (a1 : List Int) : Option (Bool) := laws_r8Same_c.f (a0,a1,())
noncomputable def laws_r8Same_p0  (v0 : List Int) (v1 : List Int) (v5 : Int) : Option (Bool) :=
 goL laws_r8Same_D laws_r8Same_H (vleave laws_r8Same_ir [.d (.one (.sl (.one (.int .i64)))),.d (.one (.sl (.one (.int .i64))))] [.d (.one .bool)] [] []) [.c laws_r8Same_k0,.l laws_r8Same_k1,.e 0,.c laws_r8Same_k2]
  ⟨[(0,.sl (.one (.int .i64)) v0),(1,.sl (.one (.int .i64)) v1),(5,.int .i64 v5)],[]⟩
theorem laws_r8Same_eq (a0 : List Int) (a1 : List Int) : laws_r8Same a0 a1 =
 if ((a0.length : Int) != (a1.length : Int)) then
  some false
 else
  laws_r8Same_p0 a0 a1 0 :=
 (mk_f _ _ _ _ _ _ _ 4000).trans (by kernel_rfl)
theorem laws_r8Same_p0_eq  (v0 : List Int) (v1 : List Int) (v5 : Int) : laws_r8Same_p0 v0 v1 v5 =
 if decide (v5 < (v0.length : Int)) then
  if decide (0 ≤ v5) then
   (v0[v5.toNat]?).bind fun x1 =>
    if decide (0 ≤ v5) then
     (v1[v5.toNat]?).bind fun x2 =>
      if (x1 != x2) then
       some false
      else
       laws_r8Same_p0 v0 v1 (IntKind.i64.wrap (v5 + 1))
    else
     none
  else
   none
 else
  some true :=
 (goL_dn _ _ _ 4000 _ _).trans (by kernel_rfl)
def impl_at_ir : Fn := { np := 2,io := [],res := [.t 4],own := [false],body :=
 (.seq (.reg false [.V 4 (.asg (.c (.bool false)))] [0,1] []) (.seq (.reg false [.V 5 (.mv (.t 0)),.V 6 (.bin .geq (.t 5) (.c (.int .i64 0))),.V 7 (.mv (.t 6)),.G 8 (.mv (.t 0)) 2 true,.G 9 (.mv (.t 1)) 2 true,.G 10 (.bin .lss (.t 8) (.t 9)) 2 true,.V 11 (.pick (.t 7) (.t 10) (.c (.bool false))),.V 4 (.asg (.t 11))] [4] []) .ret)) }
noncomputable def impl_at_D : List (Nat × Callee) := []
def impl_at_H : List (Nat × ET) := []
noncomputable def impl_at_c : Callee := mkCallee impl_at_D impl_at_H impl_at_ir [.d (.one (.int .i64)),.d (.one (.int .i64))] [.d (.one .bool)] []
noncomputable def impl_at (a0 : Int) (a1 : Int) : Option (Bool) := impl_at_c.f (a0,a1,())
theorem impl_at_eq (a0 : Int) (a1 : Int) : impl_at a0 a1 =
 if decide (a0 ≥ 0) then
  some (decide (a0 < a1))
 else
  some false :=
 (mk_f _ _ _ _ _ _ _ 4000).trans (by kernel_rfl)
def impl_NeededBefore_k0 : C :=
 .seq (.reg false [.V 38 (.bin .lss (.t 37) (.t 36))] [0,1,6,7,35,36,37,38] [6]) (.seq (.cond (.t 38) .skip (.exit 2)) (.seq (.block 3 (.seq (.reg false [.V 39 (.ia 1 (.t 35) (.t 37)),.V 40 (.ld none (.t 39)),.V 9 (.asg (.t 40))] [0,1,6,7,9,35,36,37] [6]) (.reg false [.V 41 (.mv (.t 6)),.V 42 (.mv (.t 9)),.V 43 (.mv (.t 6)),.V 44 (.mv (.t 9)),.V 45 (.ia 1 (.t 43) (.t 44)),.V 46 (.ld none (.t 45)),.V 47 (.mv (.t 46)),.G 48 (.mv (.t 6)) 6 false,.G 49 (.mv (.t 7)) 6 false,.G 50 (.ia 1 (.t 48) (.t 49)) 6 false,.G 51 (.ld none (.t 50)) 6 false,.V 52 (.pick (.t 47) (.c (.bool true)) (.t 51)),.V 53 (.ia 1 (.t 41) (.t 42)),⟨none,true,.sto 1 (.t 53) (.t 52),none,false,[]⟩] [0,1,6,7,35,36,37] [6]))) (.reg false [.V 54 (.bin .add (.t 37) (.c (.int .i64 1))),.V 37 (.mv (.t 54))] [0,1,6,7,35,36,37] [6])))
def impl_NeededBefore_k1 : C :=
 .norm [0,1,6,7,35,36,37] [6] impl_NeededBefore_k0
def impl_NeededBefore_k2 : C :=
 .reg false [.V 29 (.mv (.t 7)),.V 30 (.bin .sub (.t 29) (.c (.int .i64 1))),.V 7 (.asg (.t 30))] [0,1,6,7] [6]
def impl_NeededBefore_k3 : C :=
 .seq (.seq (.reg false [.V 27 (.mv (.t 7)),.V 28 (.bin .geq (.t 27) (.c (.int .i64 0)))] [0,1,6,7,28] [6]) (.cond (.t 28) .skip (.exit 0))) (.seq (.block 1 (.seq (.reg false [.V 31 (.mv (.t 0)),.V 32 (.mv (.t 7)),.V 33 (.ia 4 (.t 31) (.t 32)),.V 34 (.fa 3 (.t 33)),.V 35 (.ld none (.t 34)),.V 36 (.len (.t 35)),.V 37 (.mv (.c (.int .i64 0)))] [0,1,6,7,35,36,37] [6]) (.block 2 (.loop impl_NeededBefore_k1)))) impl_NeededBefore_k2)
def impl_NeededBefore_k4 : C :=
 .norm [0,1,6,7] [6] impl_NeededBefore_k3
def impl_NeededBefore_k5 : C :=
 .seq (.reg false [.V 58 (.bin .lss (.t 57) (.t 56))] [6,10,56,57,58] [6,10]) (.seq (.cond (.t 58) .skip (.exit 4)) (.seq (.block 5 (.seq (.reg false [.V 59 (.mv (.t 57)),.V 11 (.asg (.t 59))] [6,10,11,56,57] [6,10]) (.seq (.reg false [.V 60 (.mv (.t 6)),.V 61 (.mv (.t 11)),.V 62 (.ia 1 (.t 60) (.t 61)),.V 63 (.ld none (.t 62))] [6,10,11,56,57,63] [6,10]) (.cond (.t 63) (.reg false [.V 64 (.mv (.t 10)),.V 65 (.mv (.t 11)),.V 66 (.bsl 1 (.int .i64 0) 1 [(0,.t 65)]),.W 67 (.app 1 8 (.t 64) (.t 66)),.W 10 (.asg (.t 67))] [6,10,56,57] [6,10]) .skip)))) (.reg false [.V 68 (.bin .add (.t 57) (.c (.int .i64 1))),.V 57 (.mv (.t 68))] [6,10,56,57] [6,10])))
def impl_NeededBefore_k6 : C :=
 .norm [6,10,56,57] [6,10] impl_NeededBefore_k5
def impl_NeededBefore_k7 : C :=
 .seq (.reg false [.V 69 (.mv (.t 10)),.W 4 (.asg (.t 69)),.V 5 (.asg (.c (.int .i64 0)))] [4,5] [4,10]) .ret
def impl_NeededBefore_k8 : C :=
 .seq (.reg false [.V 55 (.bsl 1 (.int .i64 0) 0 []),.W 10 (.asg (.t 55))] [1,6,10] [6,10]) (.seq (.seq (.reg false [.V 56 (.mv (.t 1)),.V 57 (.mv (.c (.int .i64 0)))] [6,10,56,57] [6,10]) (.block 4 (.loop impl_NeededBefore_k6))) impl_NeededBefore_k7)
def impl_NeededBefore_ir : Fn := { np := 2,io := [],res := [.t 4,.t 5],own := [true,false],body :=
 (.seq (.reg false [.W 4 (.asg (.c (.nils 1))),.V 5 (.asg (.c (.int .i64 0)))] [0,1] []) (.seq (.seq (.reg false [.V 12 (.mv (.t 0)),.V 13 (.call (.c (.fn 83 [])) [.t 12]),.V 14 (.un .not (.t 13))] [0,1,14] []) (.cond (.t 14) (.seq (.reg false [.W 4 (.asg (.c (.nils 1))),.V 5 (.asg (.c (.int .i64 1)))] [4,5] [4,10]) .ret) .skip)) (.seq (.seq (.reg false [.V 15 (.mv (.t 1)),.V 16 (.mv (.t 0)),.V 17 (.len (.t 16)),.V 18 (.call (.c (.fn 4 [])) [.t 15,.t 17]),.V 19 (.un .not (.t 18))] [0,1,19] []) (.cond (.t 19) (.seq (.reg false [.W 4 (.asg (.c (.nils 1))),.V 5 (.asg (.c (.int .i64 2)))] [4,5] [4,10]) .ret) .skip)) (.seq (.reg false [.V 20 (.mv (.t 0)),.V 21 (.len (.t 20)),.V 22 (.mks 1 1 (.bool false) (.t 21) (.t 21)),.W 6 (.asg (.t 22))] [0,1,6] [6]) (.seq (.reg false [.V 23 (.mv (.t 6)),.V 24 (.mv (.t 1)),.V 25 (.ia 1 (.t 23) (.t 24)),⟨none,true,.sto 1 (.t 25) (.c (.bool true)),none,false,[]⟩] [0,1,6] [6]) (.seq (.seq (.reg false [.V 26 (.mv (.t 1)),.V 7 (.asg (.t 26))] [0,1,6,7] [6]) (.block 0 (.loop impl_NeededBefore_k4))) impl_NeededBefore_k8)))))) }
noncomputable def impl_NeededBefore_D : List (Nat × Callee) := [(4,impl_at_c),(83,impl_ValidSteps_c)]
def impl_NeededBefore_H : List (Nat × ET) := [(4,(.one (.int .i64))),(6,(.one .bool)),(10,(.one (.int .i64))),(12,T_Step),(16,T_Step),(20,T_Step),(22,(.one .bool)),(23,(.one .bool)),(31,T_Step),(35,(.one (.int .i64))),(41,(.one .bool)),(43,(.one .bool)),(48,(.one .bool)),(55,(.one (.int .i64))),(60,(.one .bool)),(64,(.one (.int .i64))),(66,(.one (.int .i64))),(67,(.one (.int .i64))),(69,(.one (.int .i64)))]
noncomputable def impl_NeededBefore_c : Callee := mkCallee impl_NeededBefore_D impl_NeededBefore_H impl_NeededBefore_ir [.d (.one (.sl T_Step)),.d (.one (.int .i64))] [.tok (.one (.int .i64)),.d (.one (.int .i64))] []
noncomputable def impl_NeededBefore (a0 : List T_Step.ty) (a1 : Int) : Option (List Int × Int) := impl_NeededBefore_c.f (a0,a1,())
noncomputable def impl_NeededBefore_p0  (v0 : List T_Step.ty) (v1 : Int) (v6n : Nat) (v7 : Int) (r6 : List Bool) : Option (List Int × Int) :=
 goL impl_NeededBefore_D impl_NeededBefore_H (vleave impl_NeededBefore_ir [.d (.one (.sl T_Step)),.d (.one (.int .i64))] [.tok (.one (.int .i64)),.d (.one (.int .i64))] [] []) [.c impl_NeededBefore_k3,.l impl_NeededBefore_k4,.e 0,.c impl_NeededBefore_k8]
  ⟨[(0,.sl T_Step v0),(1,.int .i64 v1),(6,.view 6 0 v6n),(7,.int .i64 v7)],[(6,some (.sl (.one .bool) r6))]⟩
noncomputable def impl_NeededBefore_p1  (v0 : List T_Step.ty) (v1 : Int) (v6n : Nat) (v7 : Int) (v35 : List Int) (v36 : Int) (v37 : Int) (r6 : List Bool) : Option (List Int × Int) :=
 goL impl_NeededBefore_D impl_NeededBefore_H (vleave impl_NeededBefore_ir [.d (.one (.sl T_Step)),.d (.one (.int .i64))] [.tok (.one (.int .i64)),.d (.one (.int .i64))] [] []) [.c impl_NeededBefore_k0,.l impl_NeededBefore_k1,.e 2,.e 1,.c impl_NeededBefore_k2,.l impl_NeededBefore_k4,.e 0,.c impl_NeededBefore_k8]
  ⟨[(0,.sl T_Step v0),(1,.int .i64 v1),(6,.view 6 0 v6n),(7,.int .i64 v7),(35,.sl (.one (.int .i64)) v35),(36,.int .i64 v36),(37,.int .i64 v37)],[(6,some (.sl (.one .bool) r6))]⟩
noncomputable def impl_NeededBefore_p2  (v6n : Nat) (v56 : Int) (v57 : Int) (r6 : List Bool) (r10 : List Int) : Option (List Int × Int) :=
 goL impl_NeededBefore_D impl_NeededBefore_H (vleave impl_NeededBefore_ir [.d (.one (.sl T_Step)),.d (.one (.int .i64))] [.tok (.one (.int .i64)),.d (.one (.int .i64))] [] []) [.c impl_NeededBefore_k5,.l impl_NeededBefore_k6,.e 4,.c impl_NeededBefore_k7]
  ⟨[(6,.view 6 0 v6n),(10,.view 10 0 r10.length),(56,.int .i64 v56),(57,.int .i64 v57)],[(6,some (.sl (.one .bool) r6)),(10,some (.sl (.one (.int .i64)) r10))]⟩
theorem impl_NeededBefore_eq (a0 : List T_Step.ty) (a1 : Int) : impl_NeededBefore a0 a1 =
 (impl_ValidSteps a0).bind fun x1 =>
  if (!x1) then
   some ([],1)
  else
   (impl_at a1 (a0.length : Int)).bind fun x2 =>
    if (!x2) then
     some ([],2)
    else
     if decide (0 ≤ (a0.length : Int)) && decide ((a0.length : Int) ≤ (a0.length : Int)) && decide ((a0.length : Int).toNat < lim) then
      if decide (0 ≤ a1) && decide (a1 < ((List.replicate ((a0.length : Int).toNat) (false : Bool)).length : Int)) then
       ((List.replicate ((a0.length : Int).toNat) (false : Bool))[a1.toNat]?).bind fun x3 =>
        impl_NeededBefore_p0 a0 a1 ((List.replicate ((a0.length : Int).toNat) (false : Bool)).length) a1 ((List.replicate ((a0.length : Int).toNat) (false : Bool)).set a1.toNat true)
      else
       none
     else
      none :=
 (mk_f _ _ _ _ _ _ _ 4000).trans (by kernel_rfl)
theorem impl_NeededBefore_p0_eq  (v0 : List T_Step.ty) (v1 : Int) (v6n : Nat) (v7 : Int) (r6 : List Bool) : impl_NeededBefore_p0 v0 v1 v6n v7 r6 =
 if decide (v7 ≥ 0) then
  if decide (0 ≤ v7) then
   (v0[v7.toNat]?).bind fun x1 =>
    impl_NeededBefore_p1 v0 v1 v6n v7 x1.2.2.2.1 (x1.2.2.2.1.length : Int) 0 r6
  else
   none
 else
  impl_NeededBefore_p2 v6n v1 0 r6 [] :=
 (goL_dn _ _ _ 4000 _ _).trans (by kernel_rfl)
theorem impl_NeededBefore_p1_eq  (v0 : List T_Step.ty) (v1 : Int) (v6n : Nat) (v7 : Int) (v35 : List Int) (v36 : Int) (v37 : Int) (r6 : List Bool) : impl_NeededBefore_p1 v0 v1 v6n v7 v35 v36 v37 r6 =
 if decide (v37 < v36) then
  if decide (0 ≤ v37) then
   (v35[v37.toNat]?).bind fun x1 =>
    if decide (0 ≤ x1) && decide (x1 < (v6n : Int)) then
     (r6[x1.toNat]?).bind fun x2 =>
      if x2 then
       if decide (0 ≤ x1) && decide (x1 < (v6n : Int)) then
        (r6[x1.toNat]?).bind fun x3 =>
         impl_NeededBefore_p1 v0 v1 v6n v7 v35 v36 (IntKind.i64.wrap (v37 + 1)) (r6.set x1.toNat true)
       else
        none
      else
       if decide (0 ≤ v7) && decide (v7 < (v6n : Int)) then
        (r6[v7.toNat]?).bind fun x4 =>
         if decide (0 ≤ x1) && decide (x1 < (v6n : Int)) then
          (r6[x1.toNat]?).bind fun x5 =>
           impl_NeededBefore_p1 v0 v1 v6n v7 v35 v36 (IntKind.i64.wrap (v37 + 1)) (r6.set x1.toNat x4)
         else
          none
       else
        none
    else
     none
  else
   none
 else
  impl_NeededBefore_p0 v0 v1 v6n (IntKind.i64.wrap (v7 - 1)) r6 :=
 (goL_dn _ _ _ 4000 _ _).trans (by kernel_rfl)
theorem impl_NeededBefore_p2_eq  (v6n : Nat) (v56 : Int) (v57 : Int) (r6 : List Bool) (r10 : List Int) : impl_NeededBefore_p2 v6n v56 v57 r6 r10 =
 if decide (v57 < v56) then
  if decide (0 ≤ v57) && decide (v57 < (v6n : Int)) then
   (r6[v57.toNat]?).bind fun x1 =>
    if x1 then
     if decide (r10.length + 1 < lim) then
      impl_NeededBefore_p2 v6n v56 (IntKind.i64.wrap (v57 + 1)) r6 ((r10.take r10.length) ++ [v57])
     else
      none
    else
     impl_NeededBefore_p2 v6n v56 (IntKind.i64.wrap (v57 + 1)) r6 r10
  else
   none
 else
  some ((r10.take r10.length),0) :=
 (goL_dn _ _ _ 4000 _ _).trans (by kernel_rfl)
def spec_l01Small_ir : Fn := { np := 1,io := [],res := [.t 2],own := [false],body :=
 (.seq (.reg false [.V 2 (.asg (.c (.bool false)))] [0] []) (.seq (.reg false [.V 3 (.mv (.t 0)),.V 4 (.bin .geq (.t 3) (.c (.int .u8 97))),.V 5 (.mv (.t 4)),.G 6 (.mv (.t 0)) 2 true,.G 7 (.bin .leq (.t 6) (.c (.int .u8 122))) 2 true,.V 8 (.pick (.t 5) (.t 7) (.c (.bool false))),.V 2 (.asg (.t 8))] [2] []) .ret)) }
noncomputable def spec_l01Small_D : List (Nat × Callee) := []
def spec_l01Small_H : List (Nat × ET) := []
noncomputable def spec_l01Small_c : Callee := mkCallee spec_l01Small_D spec_l01Small_H spec_l01Small_ir [.d (.one (.int .u8))] [.d (.one .bool)] []
noncomputable def spec_l01Small (a0 : Int) : Option (Bool) := spec_l01Small_c.f (a0,())
theorem spec_l01Small_eq (a0 : Int) : spec_l01Small a0 =
 if decide (a0 ≥ 97) then
  some (decide (a0 ≤ 122))
 else
  some false :=
 (mk_f _ _ _ _ _ _ _ 4000).trans (by kernel_rfl)
def spec_l01Digit_ir : Fn := { np := 1,io := [],res := [.t 2],own := [false],body :=
 (.seq (.reg false [.V 2 (.asg (.c (.bool false)))] [0] []) (.seq (.reg false [.V 3 (.mv (.t 0)),.V 4 (.bin .geq (.t 3) (.c (.int .u8 48))),.V 5 (.mv (.t 4)),.G 6 (.mv (.t 0)) 2 true,.G 7 (.bin .leq (.t 6) (.c (.int .u8 57))) 2 true,.V 8 (.pick (.t 5) (.t 7) (.c (.bool false))),.V 2 (.asg (.t 8))] [2] []) .ret)) }
noncomputable def spec_l01Digit_D : List (Nat × Callee) := []
def spec_l01Digit_H : List (Nat × ET) := []
noncomputable def spec_l01Digit_c : Callee := mkCallee spec_l01Digit_D spec_l01Digit_H spec_l01Digit_ir [.d (.one (.int .u8))] [.d (.one .bool)] []
noncomputable def spec_l01Digit (a0 : Int) : Option (Bool) := spec_l01Digit_c.f (a0,())
theorem spec_l01Digit_eq (a0 : Int) : spec_l01Digit a0 =
 if decide (a0 ≥ 48) then
  some (decide (a0 ≤ 57))
 else
  some false :=
 (mk_f _ _ _ _ _ _ _ 4000).trans (by kernel_rfl)
def spec_l01Name_k0 : C :=
 .seq (.seq (.reg false [.V 17 (.mv (.t 3)),.V 18 (.mv (.t 0)),.V 19 (.lens (.t 18)),.V 20 (.bin .lss (.t 17) (.t 19))] [0,3,20] []) (.cond (.t 20) .skip (.exit 0))) (.seq (.block 1 (.seq (.reg false [.V 23 (.mv (.t 0)),.V 24 (.mv (.t 3)),.V 25 (.ix (.t 23) (.t 24)),.V 26 (.call (.c (.fn 11 [])) [.t 25]),.V 27 (.un .not (.t 26)),.V 28 (.mv (.t 27)),.G 29 (.mv (.t 0)) 5 true,.G 30 (.mv (.t 3)) 5 true,.G 31 (.ix (.t 29) (.t 30)) 5 true,.G 32 (.call (.c (.fn 12 [])) [.t 31]) 5 true,.G 33 (.un .not (.t 32)) 5 true,.V 34 (.pick (.t 28) (.t 33) (.c (.bool false)))] [0,3,34] []) (.cond (.t 34) (.seq (.reg false [.V 2 (.asg (.c (.bool false)))] [2] []) .ret) .skip))) (.reg false [.V 21 (.mv (.t 3)),.V 22 (.bin .add (.t 21) (.c (.int .i64 1))),.V 3 (.asg (.t 22))] [0,3] []))
def spec_l01Name_k1 : C :=
 .norm [0,3] [] spec_l01Name_k0
def spec_l01Name_k2 : C :=
 .seq (.reg false [.V 2 (.asg (.c (.bool true)))] [2] []) .ret
def spec_l01Name_k3 : C :=
 .seq (.seq (.reg false [.V 3 (.asg (.c (.int .i64 0)))] [0,3] []) (.block 0 (.loop spec_l01Name_k1))) spec_l01Name_k2
def spec_l01Name_ir : Fn := { np := 1,io := [],res := [.t 2],own := [false],body :=
 (.seq (.reg false [.V 2 (.asg (.c (.bool false)))] [0] []) (.seq (.seq (.reg false [.V 4 (.mv (.t 0)),.V 5 (.bin .eql (.t 4) (.c (.str []))),.V 6 (.mv (.t 5)),.G 7 (.mv (.t 0)) 2 false,.G 8 (.lens (.t 7)) 2 false,.G 9 (.bin .gtr (.t 8) (.c (.int .i64 10))) 2 false,.V 10 (.pick (.t 6) (.c (.bool true)) (.t 9)),.V 11 (.mv (.t 10)),.G 12 (.mv (.t 0)) 7 false,.G 13 (.ix (.t 12) (.c (.int .i64 0))) 7 false,.G 14 (.call (.c (.fn 11 [])) [.t 13]) 7 false,.G 15 (.un .not (.t 14)) 7 false,.V 16 (.pick (.t 11) (.c (.bool true)) (.t 15))] [0,16] []) (.cond (.t 16) (.seq (.reg false [.V 2 (.asg (.c (.bool false)))] [2] []) .ret) .skip)) (.norm [0] [] spec_l01Name_k3))) }
noncomputable def spec_l01Name_D : List (Nat × Callee) := [(11,spec_l01Small_c),(12,spec_l01Digit_c)]
def spec_l01Name_H : List (Nat × ET) := []
noncomputable def spec_l01Name_c : Callee := mkCallee spec_l01Name_D spec_l01Name_H spec_l01Name_ir [.d (.one .str)] [.d (.one .bool)] []
noncomputable def spec_l01Name (a0 : List UInt8) : Option (Bool) := spec_l01Name_c.f (a0,())
noncomputable def spec_l01Name_p0  (v0 : List UInt8) : Option (Bool) :=
 goL spec_l01Name_D spec_l01Name_H (vleave spec_l01Name_ir [.d (.one .str)] [.d (.one .bool)] [] []) [.c spec_l01Name_k3]
  ⟨[(0,.str v0)],[]⟩
noncomputable def spec_l01Name_p1  (v0 : List UInt8) (v3 : Int) : Option (Bool) :=
 goL spec_l01Name_D spec_l01Name_H (vleave spec_l01Name_ir [.d (.one .str)] [.d (.one .bool)] [] []) [.c spec_l01Name_k0,.l spec_l01Name_k1,.e 0,.c spec_l01Name_k2]
  ⟨[(0,.str v0),(3,.int .i64 v3)],[]⟩
theorem spec_l01Name_eq (a0 : List UInt8) : spec_l01Name a0 =
 if (a0 == []) then
  some false
 else
  if decide ((a0.length : Int) > 10) then
   some false
  else
   (a0[0]?).bind fun x1 =>
    (spec_l01Small (x1.toNat : Int)).bind fun x2 =>
     if (!x2) then
      some false
     else
      spec_l01Name_p0 a0 :=
 (mk_f _ _ _ _ _ _ _ 4000).trans (by kernel_rfl)
theorem spec_l01Name_p0_eq  (v0 : List UInt8) : spec_l01Name_p0 v0 =
 spec_l01Name_p1 v0 0 :=
 (goL_dn _ _ _ 4000 _ _).trans (by kernel_rfl)
theorem spec_l01Name_p1_eq  (v0 : List UInt8) (v3 : Int) : spec_l01Name_p1 v0 v3 =
 if decide (v3 < (v0.length : Int)) then
  if decide (0 ≤ v3) then
   (v0[v3.toNat]?).bind fun x1 =>
    (spec_l01Small (x1.toNat : Int)).bind fun x2 =>
     if (!x2) then
      if decide (0 ≤ v3) then
       (v0[v3.toNat]?).bind fun x3 =>
        (spec_l01Digit (x3.toNat : Int)).bind fun x4 =>
         if (!x4) then
          some false
         else
          spec_l01Name_p1 v0 (IntKind.i64.wrap (v3 + 1))
      else
       none
     else
      spec_l01Name_p1 v0 (IntKind.i64.wrap (v3 + 1))
  else
   none
 else
  some true :=
 (goL_dn _ _ _ 4000 _ _).trans (by kernel_rfl)
def spec_l00In_ir : Fn := { np := 3,io := [],res := [.t 6],own := [false],body :=
 (.seq (.reg false [.V 6 (.asg (.c (.bool false)))] [0,1,2] []) (.seq (.reg false [.V 7 (.mv (.t 0)),.V 8 (.mv (.t 1)),.V 9 (.bin .geq (.t 7) (.t 8)),.V 10 (.mv (.t 9)),.G 11 (.mv (.t 0)) 3 true,.G 12 (.mv (.t 2)) 3 true,.G 13 (.bin .leq (.t 11) (.t 12)) 3 true,.V 14 (.pick (.t 10) (.t 13) (.c (.bool false))),.V 6 (.asg (.t 14))] [6] []) .ret)) }
noncomputable def spec_l00In_D : List (Nat × Callee) := []
def spec_l00In_H : List (Nat × ET) := []
noncomputable def spec_l00In_c : Callee := mkCallee spec_l00In_D spec_l00In_H spec_l00In_ir [.d (.one (.int .i64)),.d (.one (.int .i64)),.d (.one (.int .i64))] [.d (.one .bool)] []
noncomputable def spec_l00In (a0 : Int) (a1 : Int) (a2 : Int) : Option (Bool) := spec_l00In_c.f (a0,a1,a2,())
theorem spec_l00In_eq (a0 : Int) (a1 : Int) (a2 : Int) : spec_l00In a0 a1 a2 =
 if decide (a0 ≥ a1) then
  some (decide (a0 ≤ a2))
 else
  some false :=
 (mk_f _ _ _ _ _ _ _ 4000).trans (by kernel_rfl)
def spec_l00Rises_k0 : C :=
 .seq (.seq (.reg false [.V 8 (.mv (.t 7)),.V 9 (.mv (.t 0)),.V 10 (.len (.t 9)),.V 11 (.bin .lss (.t 8) (.t 10))] [0,1,2,7,11] []) (.cond (.t 11) .skip (.exit 0))) (.seq (.block 1 (.seq (.reg true [.V 14 (.mv (.t 0)),.V 15 (.mv (.t 7)),.V 16 (.ia 1 (.t 14) (.t 15)),.V 17 (.ld none (.t 16)),.V 18 (.mv (.t 1)),.V 19 (.mv (.t 2)),.V 20 (.call (.c (.fn 1 [])) [.t 17,.t 18,.t 19]),.V 21 (.un .not (.t 20)),.V 22 (.mv (.t 21)),.G 23 (.mv (.t 7)) 8 false,.G 24 (.bin .gtr (.t 23) (.c (.int .i64 0))) 8 false,.G 25 (.mv (.t 24)) 8 false,.G 26 (.mv (.t 0)) 11 true,.G 27 (.mv (.t 7)) 11 true,.G 28 (.bin .sub (.t 27) (.c (.int .i64 1))) 11 true,.G 29 (.ia 1 (.t 26) (.t 28)) 11 true,.G 30 (.ld none (.t 29)) 11 true,.G 31 (.mv (.t 0)) 11 true,.G 32 (.mv (.t 7)) 11 true,.G 33 (.ia 1 (.t 31) (.t 32)) 11 true,.G 34 (.ld none (.t 33)) 11 true,.G 35 (.bin .geq (.t 30) (.t 34)) 11 true,.G 36 (.pick (.t 25) (.t 35) (.c (.bool false))) 8 false,.V 37 (.pick (.t 22) (.c (.bool true)) (.t 36))] [0,1,2,7,37] []) (.cond (.t 37) (.seq (.reg false [.V 6 (.asg (.c (.bool false)))] [6] []) .ret) .skip))) (.reg false [.V 12 (.mv (.t 7)),.V 13 (.bin .add (.t 12) (.c (.int .i64 1))),.V 7 (.asg (.t 13))] [0,1,2,7] []))
def spec_l00Rises_k1 : C :=
 .norm [0,1,2,7] [] spec_l00Rises_k0
def spec_l00Rises_k2 : C :=
 .seq (.reg false [.V 6 (.asg (.c (.bool true)))] [6] []) .ret
def spec_l00Rises_ir : Fn := { np := 3,io := [],res := [.t 6],own := [false],body :=
 (.seq (.reg false [.V 6 (.asg (.c (.bool false)))] [0,1,2] []) (.seq (.seq (.reg false [.V 7 (.asg (.c (.int .i64 0)))] [0,1,2,7] []) (.block 0 (.loop spec_l00Rises_k1))) spec_l00Rises_k2)) }
noncomputable def spec_l00Rises_D : List (Nat × Callee) := [(1,spec_l00In_c)]
def spec_l00Rises_H : List (Nat × ET) := [(9,(.one (.int .i64))),(14,(.one (.int .i64))),(26,(.one (.int .i64))),(31,(.one (.int .i64)))]
noncomputable def spec_l00Rises_c : Callee := mkCallee spec_l00Rises_D spec_l00Rises_H spec_l00Rises_ir [.d (.one (.sl (.one (.int .i64)))),.d (.one (.int .i64)),.d (.one (.int .i64))] [.d (.one .bool)] []
noncomputable def spec_l00Rises (a0 : List Int) (a1 : Int) (a2 : Int) : Option (Bool) := spec_l00Rises_c.f (a0,a1,a2,())
noncomputable def spec_l00Rises_p0  (v0 : List Int) (v1 : Int) (v2 : Int) (v7 : Int) : Option (Bool) :=
 goL spec_l00Rises_D spec_l00Rises_H (vleave spec_l00Rises_ir [.d (.one (.sl (.one (.int .i64)))),.d (.one (.int .i64)),.d (.one (.int .i64))] [.d (.one .bool)] [] []) [.c spec_l00Rises_k0,.l spec_l00Rises_k1,.e 0,.c spec_l00Rises_k2]
  ⟨[(0,.sl (.one (.int .i64)) v0),(1,.int .i64 v1),(2,.int .i64 v2),(7,.int .i64 v7)],[]⟩
theorem spec_l00Rises_eq (a0 : List Int) (a1 : Int) (a2 : Int) : spec_l00Rises a0 a1 a2 =
 spec_l00Rises_p0 a0 a1 a2 0 :=
 (mk_f _ _ _ _ _ _ _ 4000).trans (by kernel_rfl)
theorem spec_l00Rises_p0_eq  (v0 : List Int) (v1 : Int) (v2 : Int) (v7 : Int) : spec_l00Rises_p0 v0 v1 v2 v7 =
 if decide (v7 < (v0.length : Int)) then
  if decide (0 ≤ v7) then
   (v0[v7.toNat]?).bind fun x1 =>
    (spec_l00In x1 v1 v2).bind fun x2 =>
     if (!x2) then
      some false
     else
      if decide (v7 > 0) then
       if decide (0 ≤ IntKind.i64.wrap (v7 - 1)) then
        (v0[(IntKind.i64.wrap (v7 - 1)).toNat]?).bind fun x3 =>
         if decide (0 ≤ v7) then
          (v0[v7.toNat]?).bind fun x4 =>
           if decide (x3 ≥ x4) then
            some false
           else
            spec_l00Rises_p0 v0 v1 v2 (IntKind.i64.wrap (v7 + 1))
         else
          none
       else
        none
      else
       spec_l00Rises_p0 v0 v1 v2 (IntKind.i64.wrap (v7 + 1))
  else
   none
 else
  some true :=
 (goL_dn _ _ _ 4000 _ _).trans (by kernel_rfl)
def spec_l17One_ir : Fn := { np := 1,io := [],res := [.t 2],own := [false],body :=
 (.seq (.reg false [.V 2 (.asg (.c (.bool false)))] [0] []) (.seq (.reg false [.V 3 (.mv (.t 0)),.V 4 (.nilck (.t 3)),.V 5 (.fa 0 (.t 4)),.V 6 (.ld none (.t 5)),.V 7 (.call (.c (.fn 13 [])) [.t 6]),.V 8 (.mv (.t 7)),.G 9 (.mv (.t 0)) 5 true,.G 10 (.nilck (.t 9)) 5 true,.G 11 (.fa 1 (.t 10)) 5 true,.G 12 (.ld none (.t 11)) 5 true,.G 13 (.call (.c (.fn 1 [])) [.t 12,.c (.int .i64 1),.c (.int .i64 200)]) 5 true,.V 14 (.pick (.t 8) (.t 13) (.c (.bool false))),.V 15 (.mv (.t 14)),.G 16 (.mv (.t 0)) 12 true,.G 17 (.nilck (.t 16)) 12 true,.G 18 (.fa 2 (.t 17)) 12 true,.G 19 (.ld none (.t 18)) 12 true,.G 20 (.call (.c (.fn 1 [])) [.t 19,.c (.int .i64 0),.c (.int .i64 20)]) 12 true,.V 21 (.pick (.t 15) (.t 20) (.c (.bool false))),.V 22 (.mv (.t 21)),.G 23 (.mv (.t 0)) 19 true,.G 24 (.nilck (.t 23)) 19 true,.G 25 (.fa 3 (.t 24)) 19 true,.G 26 (.ld none (.t 25)) 19 true,.G 27 (.call (.c (.fn 804 [])) [.t 26,.c (.int .i64 0),.c (.int .i64 11)]) 19 true,.V 28 (.pick (.t 22) (.t 27) (.c (.bool false))),.V 2 (.asg (.t 28))] [2] []) .ret)) }
noncomputable def spec_l17One_D : List (Nat × Callee) := [(1,spec_l00In_c),(13,spec_l01Name_c),(804,spec_l00Rises_c)]
def spec_l17One_H : List (Nat × ET) := [(26,(.one (.int .i64)))]
noncomputable def spec_l17One_c : Callee := mkCallee spec_l17One_D spec_l17One_H spec_l17One_ir [.p T_Step] [.d (.one .bool)] []
noncomputable def spec_l17One (a0 : T_Step.ty) : Option (Bool) := spec_l17One_c.f (a0,())
theorem spec_l17One_eq (a0 : T_Step.ty) : spec_l17One a0 =
 (spec_l01Name a0.1).bind fun x1 =>
  if x1 then
   (spec_l00In a0.2.1 1 200).bind fun x2 =>
    if x2 then
     (spec_l00In a0.2.2.1 0 20).bind fun x3 =>
      if x3 then
       (spec_l00Rises a0.2.2.2.1 0 11).bind fun x4 =>
        some x4
      else
       some false
    else
     some false
  else
   some false :=
 (mk_f _ _ _ _ _ _ _ 4000).trans (by kernel_rfl)
def spec_l17Ok_k0 : C :=
 .seq (.seq (.reg false [.V 28 (.mv (.t 5)),.V 29 (.mv (.t 3)),.V 30 (.bin .lss (.t 28) (.t 29))] [0,3,4,5,30] []) (.cond (.t 30) .skip (.exit 2))) (.seq (.block 3 (.seq (.reg true [.V 33 (.mv (.t 0)),.V 34 (.mv (.t 5)),.V 35 (.ia 4 (.t 33) (.t 34)),.V 36 (.fa 0 (.t 35)),.V 37 (.ld none (.t 36)),.V 38 (.mv (.t 4)),.V 39 (.nilck (.t 38)),.V 40 (.fa 0 (.t 39)),.V 41 (.ld none (.t 40)),.V 42 (.bin .eql (.t 37) (.t 41))] [0,3,4,5,42] []) (.cond (.t 42) (.seq (.reg false [.V 2 (.asg (.c (.bool false)))] [2] []) .ret) .skip))) (.reg false [.V 31 (.mv (.t 5)),.V 32 (.bin .add (.t 31) (.c (.int .i64 1))),.V 5 (.asg (.t 32))] [0,3,4,5] []))
def spec_l17Ok_k1 : C :=
 .norm [0,3,4,5] [] spec_l17Ok_k0
def spec_l17Ok_k2 : C :=
 .seq (.reg false [.V 5 (.asg (.c (.int .i64 0)))] [0,3,4,5] []) (.block 2 (.loop spec_l17Ok_k1))
def spec_l17Ok_k3 : C :=
 .reg false [.V 10 (.mv (.t 3)),.V 11 (.bin .add (.t 10) (.c (.int .i64 1))),.V 3 (.asg (.t 11))] [0,3] []
def spec_l17Ok_k4 : C :=
 .seq (.seq (.reg false [.V 6 (.mv (.t 3)),.V 7 (.mv (.t 0)),.V 8 (.len (.t 7)),.V 9 (.bin .lss (.t 6) (.t 8))] [0,3,9] []) (.cond (.t 9) .skip (.exit 0))) (.seq (.block 1 (.seq (.reg false [.V 12 (.mv (.t 0)),.V 13 (.mv (.t 3)),.V 14 (.ia 4 (.t 12) (.t 13)),.V 4 (.asg (.t 14))] [0,3,4] []) (.seq (.seq (.reg false [.V 15 (.mv (.t 4)),.V 16 (.call (.c (.fn 846 [])) [.t 15]),.V 17 (.un .not (.t 16)),.V 18 (.mv (.t 17)),.G 19 (.mv (.t 4)) 3 false,.G 20 (.nilck (.t 19)) 3 false,.G 21 (.fa 3 (.t 20)) 3 false,.G 22 (.ld none (.t 21)) 3 false,.G 23 (.mv (.t 3)) 3 false,.G 24 (.bin .sub (.t 23) (.c (.int .i64 1))) 3 false,.G 25 (.call (.c (.fn 804 [])) [.t 22,.c (.int .i64 0),.t 24]) 3 false,.G 26 (.un .not (.t 25)) 3 false,.V 27 (.pick (.t 18) (.c (.bool true)) (.t 26))] [0,3,4,27] []) (.cond (.t 27) (.seq (.reg false [.V 2 (.asg (.c (.bool false)))] [2] []) .ret) .skip)) (.norm [0,3,4] [] spec_l17Ok_k2)))) spec_l17Ok_k3)
def spec_l17Ok_k5 : C :=
 .norm [0,3] [] spec_l17Ok_k4
def spec_l17Ok_k6 : C :=
 .seq (.reg false [.V 43 (.mv (.t 0)),.V 44 (.len (.t 43)),.V 45 (.bin .leq (.t 44) (.c (.int .i64 12))),.V 2 (.asg (.t 45))] [2] []) .ret
def spec_l17Ok_ir : Fn := { np := 1,io := [],res := [.t 2],own := [false],body :=
 (.seq (.reg false [.V 2 (.asg (.c (.bool false)))] [0] []) (.seq (.seq (.reg false [.V 3 (.asg (.c (.int .i64 0)))] [0,3] []) (.block 0 (.loop spec_l17Ok_k5))) spec_l17Ok_k6)) }
noncomputable def spec_l17Ok_D : List (Nat × Callee) := [(804,spec_l00Rises_c),(846,spec_l17One_c)]
def spec_l17Ok_H : List (Nat × ET) := [(7,T_Step),(12,T_Step),(22,(.one (.int .i64))),(33,T_Step),(43,T_Step)]
noncomputable def spec_l17Ok_c : Callee := mkCallee spec_l17Ok_D spec_l17Ok_H spec_l17Ok_ir [.d (.one (.sl T_Step))] [.d (.one .bool)] []
noncomputable def spec_l17Ok (a0 : List T_Step.ty) : Option (Bool) := spec_l17Ok_c.f (a0,())
noncomputable def spec_l17Ok_p0  (v0 : List T_Step.ty) (v3 : Int) : Option (Bool) :=
 goL spec_l17Ok_D spec_l17Ok_H (vleave spec_l17Ok_ir [.d (.one (.sl T_Step))] [.d (.one .bool)] [] []) [.c spec_l17Ok_k4,.l spec_l17Ok_k5,.e 0,.c spec_l17Ok_k6]
  ⟨[(0,.sl T_Step v0),(3,.int .i64 v3)],[]⟩
noncomputable def spec_l17Ok_p1  (v0 : List T_Step.ty) (v3 : Int) (v4_0 : List UInt8) (v4_1 : Int) (v4_2 : Int) (v4_3 : List Int) : Option (Bool) :=
 goL spec_l17Ok_D spec_l17Ok_H (vleave spec_l17Ok_ir [.d (.one (.sl T_Step))] [.d (.one .bool)] [] []) [.c spec_l17Ok_k2,.e 1,.c spec_l17Ok_k3,.l spec_l17Ok_k5,.e 0,.c spec_l17Ok_k6]
  ⟨[(0,.sl T_Step v0),(3,.int .i64 v3),(4,.ptr [.str v4_0,.int .i64 v4_1,.int .i64 v4_2,.sl (.one (.int .i64)) v4_3] 0)],[]⟩
noncomputable def spec_l17Ok_p2  (v0 : List T_Step.ty) (v3 : Int) (v4_0 : List UInt8) (v4_1 : Int) (v4_2 : Int) (v4_3 : List Int) (v5 : Int) : Option (Bool) :=
 goL spec_l17Ok_D spec_l17Ok_H (vleave spec_l17Ok_ir [.d (.one (.sl T_Step))] [.d (.one .bool)] [] []) [.c spec_l17Ok_k0,.l spec_l17Ok_k1,.e 2,.e 1,.c spec_l17Ok_k3,.l spec_l17Ok_k5,.e 0,.c spec_l17Ok_k6]
  ⟨[(0,.sl T_Step v0),(3,.int .i64 v3),(4,.ptr [.str v4_0,.int .i64 v4_1,.int .i64 v4_2,.sl (.one (.int .i64)) v4_3] 0),(5,.int .i64 v5)],[]⟩
theorem spec_l17Ok_eq (a0 : List T_Step.ty) : spec_l17Ok a0 =
 spec_l17Ok_p0 a0 0 :=
 (mk_f _ _ _ _ _ _ _ 4000).trans (by kernel_rfl)
theorem spec_l17Ok_p0_eq  (v0 : List T_Step.ty) (v3 : Int) : spec_l17Ok_p0 v0 v3 =
 if decide (v3 < (v0.length : Int)) then
  if decide (0 ≤ v3) then
   (v0[v3.toNat]?).bind fun x1 =>
    (spec_l17One x1).bind fun x2 =>
     if (!x2) then
      some false
     else
      (spec_l00Rises x1.2.2.2.1 0 (IntKind.i64.wrap (v3 - 1))).bind fun x3 =>
       if (!x3) then
        some false
       else
        spec_l17Ok_p1 v0 v3 x1.1 x1.2.1 x1.2.2.1 x1.2.2.2.1
  else
   none
 else
  some (decide ((v0.length : Int) ≤ 12)) :=
 (goL_dn _ _ _ 4000 _ _).trans (by kernel_rfl)
theorem spec_l17Ok_p1_eq  (v0 : List T_Step.ty) (v3 : Int) (v4_0 : List UInt8) (v4_1 : Int) (v4_2 : Int) (v4_3 : List Int) : spec_l17Ok_p1 v0 v3 v4_0 v4_1 v4_2 v4_3 =
 spec_l17Ok_p2 v0 v3 v4_0 v4_1 v4_2 v4_3 0 :=
 (goL_dn _ _ _ 4000 _ _).trans (by kernel_rfl)
theorem spec_l17Ok_p2_eq  (v0 : List T_Step.ty) (v3 : Int) (v4_0 : List UInt8) (v4_1 : Int) (v4_2 : Int) (v4_3 : List Int) (v5 : Int) : spec_l17Ok_p2 v0 v3 v4_0 v4_1 v4_2 v4_3 v5 =
 if decide (v5 < v3) then
  if decide (0 ≤ v5) then
   (v0[v5.toNat]?).bind fun x1 =>
    if (x1.1 == v4_0) then
     some false
    else
     spec_l17Ok_p2 v0 v3 v4_0 v4_1 v4_2 v4_3 (IntKind.i64.wrap (v5 + 1))
  else
   none
 else
  spec_l17Ok_p0 v0 (IntKind.i64.wrap (v3 + 1)) :=
 (goL_dn _ _ _ 4000 _ _).trans (by kernel_rfl)
def spec_NeededBefore_k0 : C :=
 .seq (.seq (.reg false [.V 36 (.mv (.t 8)),.V 37 (.mv (.t 0)),.V 38 (.mv (.t 7)),.V 39 (.ia 4 (.t 37) (.t 38)),.V 40 (.fa 3 (.t 39)),.V 41 (.ld none (.t 40)),.V 42 (.len (.t 41)),.V 43 (.bin .lss (.t 36) (.t 42))] [0,1,6,7,8,43] [6]) (.cond (.t 43) .skip (.exit 2))) (.seq (.block 3 (.reg false [.V 46 (.mv (.t 6)),.V 47 (.mv (.t 0)),.V 48 (.mv (.t 7)),.V 49 (.ia 4 (.t 47) (.t 48)),.V 50 (.fa 3 (.t 49)),.V 51 (.ld none (.t 50)),.V 52 (.mv (.t 8)),.V 53 (.ia 1 (.t 51) (.t 52)),.V 54 (.ld none (.t 53)),.V 55 (.ia 1 (.t 46) (.t 54)),⟨none,true,.sto 1 (.t 55) (.c (.bool true)),none,false,[]⟩] [0,1,6,7,8] [6])) (.reg false [.V 44 (.mv (.t 8)),.V 45 (.bin .add (.t 44) (.c (.int .i64 1))),.V 8 (.asg (.t 45))] [0,1,6,7,8] [6]))
def spec_NeededBefore_k1 : C :=
 .norm [0,1,6,7,8] [6] spec_NeededBefore_k0
def spec_NeededBefore_k2 : C :=
 .reg false [.V 29 (.mv (.t 7)),.V 30 (.bin .sub (.t 29) (.c (.int .i64 1))),.V 7 (.asg (.t 30))] [0,1,6,7] [6]
def spec_NeededBefore_k3 : C :=
 .seq (.seq (.reg false [.V 27 (.mv (.t 7)),.V 28 (.bin .geq (.t 27) (.c (.int .i64 0)))] [0,1,6,7,28] [6]) (.cond (.t 28) .skip (.exit 0))) (.seq (.block 1 (.seq (.seq (.reg false [.V 31 (.mv (.t 6)),.V 32 (.mv (.t 7)),.V 33 (.ia 1 (.t 31) (.t 32)),.V 34 (.ld none (.t 33)),.V 35 (.un .not (.t 34))] [0,1,6,7,35] [6]) (.cond (.t 35) (.exit 1) .skip)) (.seq (.reg false [.V 8 (.asg (.c (.int .i64 0)))] [0,1,6,7,8] [6]) (.block 2 (.loop spec_NeededBefore_k1))))) spec_NeededBefore_k2)
def spec_NeededBefore_k4 : C :=
 .norm [0,1,6,7] [6] spec_NeededBefore_k3
def spec_NeededBefore_k5 : C :=
 .seq (.seq (.reg false [.V 57 (.mv (.t 10)),.V 58 (.mv (.t 1)),.V 59 (.bin .lss (.t 57) (.t 58))] [1,6,9,10,59] [6,9]) (.cond (.t 59) .skip (.exit 4))) (.seq (.block 5 (.seq (.reg false [.V 62 (.mv (.t 6)),.V 63 (.mv (.t 10)),.V 64 (.ia 1 (.t 62) (.t 63)),.V 65 (.ld none (.t 64))] [1,6,9,10,65] [6,9]) (.cond (.t 65) (.reg false [.V 66 (.mv (.t 9)),.V 67 (.mv (.t 10)),.V 68 (.bsl 1 (.int .i64 0) 1 [(0,.t 67)]),.W 69 (.app 1 8 (.t 66) (.t 68)),.W 9 (.asg (.t 69))] [1,6,9,10] [6,9]) .skip))) (.reg false [.V 60 (.mv (.t 10)),.V 61 (.bin .add (.t 60) (.c (.int .i64 1))),.V 10 (.asg (.t 61))] [1,6,9,10] [6,9]))
def spec_NeededBefore_k6 : C :=
 .norm [1,6,9,10] [6,9] spec_NeededBefore_k5
def spec_NeededBefore_k7 : C :=
 .seq (.reg false [.V 70 (.mv (.t 9)),.W 4 (.asg (.t 70)),.V 5 (.asg (.c (.int .i64 0)))] [4,5] [4,9]) .ret
def spec_NeededBefore_k8 : C :=
 .seq (.reg false [.V 56 (.bsl 1 (.int .i64 0) 0 []),.W 9 (.asg (.t 56))] [1,6,9] [6,9]) (.seq (.seq (.reg false [.V 10 (.asg (.c (.int .i64 0)))] [1,6,9,10] [6,9]) (.block 4 (.loop spec_NeededBefore_k6))) spec_NeededBefore_k7)
def spec_NeededBefore_ir : Fn := { np := 2,io := [],res := [.t 4,.t 5],own := [true,false],body :=
 (.seq (.reg false [.W 4 (.asg (.c (.nils 1))),.V 5 (.asg (.c (.int .i64 0)))] [0,1] []) (.seq (.seq (.reg false [.V 11 (.mv (.t 0)),.V 12 (.call (.c (.fn 462 [])) [.t 11]),.V 13 (.un .not (.t 12))] [0,1,13] []) (.cond (.t 13) (.seq (.reg false [.W 4 (.asg (.c (.nils 1))),.V 5 (.asg (.c (.int .i64 1)))] [4,5] [4,9]) .ret) .skip)) (.seq (.seq (.reg false [.V 14 (.mv (.t 1)),.V 15 (.mv (.t 0)),.V 16 (.len (.t 15)),.V 17 (.bin .sub (.t 16) (.c (.int .i64 1))),.V 18 (.call (.c (.fn 1 [])) [.t 14,.c (.int .i64 0),.t 17]),.V 19 (.un .not (.t 18))] [0,1,19] []) (.cond (.t 19) (.seq (.reg false [.W 4 (.asg (.c (.nils 1))),.V 5 (.asg (.c (.int .i64 2)))] [4,5] [4,9]) .ret) .skip)) (.seq (.reg false [.V 20 (.mv (.t 0)),.V 21 (.len (.t 20)),.V 22 (.mks 1 1 (.bool false) (.t 21) (.t 21)),.W 6 (.asg (.t 22))] [0,1,6] [6]) (.seq (.reg false [.V 23 (.mv (.t 6)),.V 24 (.mv (.t 1)),.V 25 (.ia 1 (.t 23) (.t 24)),⟨none,true,.sto 1 (.t 25) (.c (.bool true)),none,false,[]⟩] [0,1,6] [6]) (.seq (.seq (.reg false [.V 26 (.mv (.t 1)),.V 7 (.asg (.t 26))] [0,1,6,7] [6]) (.block 0 (.loop spec_NeededBefore_k4))) spec_NeededBefore_k8)))))) }
noncomputable def spec_NeededBefore_D : List (Nat × Callee) := [(1,spec_l00In_c),(462,spec_l17Ok_c)]
def spec_NeededBefore_H : List (Nat × ET) := [(4,(.one (.int .i64))),(6,(.one .bool)),(9,(.one (.int .i64))),(11,T_Step),(15,T_Step),(20,T_Step),(22,(.one .bool)),(23,(.one .bool)),(31,(.one .bool)),(37,T_Step),(41,(.one (.int .i64))),(46,(.one .bool)),(47,T_Step),(51,(.one (.int .i64))),(56,(.one (.int .i64))),(62,(.one .bool)),(66,(.one (.int .i64))),(68,(.one (.int .i64))),(69,(.one (.int .i64))),(70,(.one (.int .i64)))]
noncomputable def spec_NeededBefore_c : Callee := mkCallee spec_NeededBefore_D spec_NeededBefore_H spec_NeededBefore_ir [.d (.one (.sl T_Step)),.d (.one (.int .i64))] [.tok (.one (.int .i64)),.d (.one (.int .i64))] []
noncomputable def spec_NeededBefore (a0 : List T_Step.ty) (a1 : Int) : Option (List Int × Int) := spec_NeededBefore_c.f (a0,a1,())
noncomputable def spec_NeededBefore_p0  (v0 : List T_Step.ty) (v1 : Int) (v6n : Nat) (v7 : Int) (r6 : List Bool) : Option (List Int × Int) :=
 goL spec_NeededBefore_D spec_NeededBefore_H (vleave spec_NeededBefore_ir [.d (.one (.sl T_Step)),.d (.one (.int .i64))] [.tok (.one (.int .i64)),.d (.one (.int .i64))] [] []) [.c spec_NeededBefore_k3,.l spec_NeededBefore_k4,.e 0,.c spec_NeededBefore_k8]
  ⟨[(0,.sl T_Step v0),(1,.int .i64 v1),(6,.view 6 0 v6n),(7,.int .i64 v7)],[(6,some (.sl (.one .bool) r6))]⟩
noncomputable def spec_NeededBefore_p1  (v0 : List T_Step.ty) (v1 : Int) (v6n : Nat) (v7 : Int) (v8 : Int) (r6 : List Bool) : Option (List Int × Int) :=
 goL spec_NeededBefore_D spec_NeededBefore_H (vleave spec_NeededBefore_ir [.d (.one (.sl T_Step)),.d (.one (.int .i64))] [.tok (.one (.int .i64)),.d (.one (.int .i64))] [] []) [.c spec_NeededBefore_k0,.l spec_NeededBefore_k1,.e 2,.e 1,.c spec_NeededBefore_k2,.l spec_NeededBefore_k4,.e 0,.c spec_NeededBefore_k8]
  ⟨[(0,.sl T_Step v0),(1,.int .i64 v1),(6,.view 6 0 v6n),(7,.int .i64 v7),(8,.int .i64 v8)],[(6,some (.sl (.one .bool) r6))]⟩
noncomputable def spec_NeededBefore_p2  (v1 : Int) (v6n : Nat) (v10 : Int) (r6 : List Bool) (r9 : List Int) : Option (List Int × Int) :=
 goL spec_NeededBefore_D spec_NeededBefore_H (vleave spec_NeededBefore_ir [.d (.one (.sl T_Step)),.d (.one (.int .i64))] [.tok (.one (.int .i64)),.d (.one (.int .i64))] [] []) [.c spec_NeededBefore_k5,.l spec_NeededBefore_k6,.e 4,.c spec_NeededBefore_k7]
  ⟨[(1,.int .i64 v1),(6,.view 6 0 v6n),(9,.view 9 0 r9.length),(10,.int .i64 v10)],[(6,some (.sl (.one .bool) r6)),(9,some (.sl (.one (.int .i64)) r9))]⟩
theorem spec_NeededBefore_eq (a0 : List T_Step.ty) (a1 : Int) : spec_NeededBefore a0 a1 =
 (spec_l17Ok a0).bind fun x1 =>
  if (!x1) then
   some ([],1)
  else
   (spec_l00In a1 0 (IntKind.i64.wrap ((a0.length : Int) - 1))).bind fun x2 =>
    if (!x2) then
     some ([],2)
    else
     if decide (0 ≤ (a0.length : Int)) && decide ((a0.length : Int) ≤ (a0.length : Int)) && decide ((a0.length : Int).toNat < lim) then
      if decide (0 ≤ a1) && decide (a1 < ((List.replicate ((a0.length : Int).toNat) (false : Bool)).length : Int)) then
       ((List.replicate ((a0.length : Int).toNat) (false : Bool))[a1.toNat]?).bind fun x3 =>
        spec_NeededBefore_p0 a0 a1 ((List.replicate ((a0.length : Int).toNat) (false : Bool)).length) a1 ((List.replicate ((a0.length : Int).toNat) (false : Bool)).set a1.toNat true)
      else
       none
     else
      none :=
 (mk_f _ _ _ _ _ _ _ 4000).trans (by kernel_rfl)
theorem spec_NeededBefore_p0_eq  (v0 : List T_Step.ty) (v1 : Int) (v6n : Nat) (v7 : Int) (r6 : List Bool) : spec_NeededBefore_p0 v0 v1 v6n v7 r6 =
 if decide (v7 ≥ 0) then
  if decide (0 ≤ v7) && decide (v7 < (v6n : Int)) then
   (r6[v7.toNat]?).bind fun x1 =>
    if (!x1) then
     spec_NeededBefore_p0 v0 v1 v6n (IntKind.i64.wrap (v7 - 1)) r6
    else
     spec_NeededBefore_p1 v0 v1 v6n v7 0 r6
  else
   none
 else
  spec_NeededBefore_p2 v1 v6n 0 r6 [] :=
 (goL_dn _ _ _ 4000 _ _).trans (by kernel_rfl)
theorem spec_NeededBefore_p1_eq  (v0 : List T_Step.ty) (v1 : Int) (v6n : Nat) (v7 : Int) (v8 : Int) (r6 : List Bool) : spec_NeededBefore_p1 v0 v1 v6n v7 v8 r6 =
 if decide (0 ≤ v7) then
  (v0[v7.toNat]?).bind fun x1 =>
   if decide (v8 < (x1.2.2.2.1.length : Int)) then
    if decide (0 ≤ v7) then
     (v0[v7.toNat]?).bind fun x2 =>
      if decide (0 ≤ v8) then
       (x2.2.2.2.1[v8.toNat]?).bind fun x3 =>
        if decide (0 ≤ x3) && decide (x3 < (v6n : Int)) then
         (r6[x3.toNat]?).bind fun x4 =>
          spec_NeededBefore_p1 v0 v1 v6n v7 (IntKind.i64.wrap (v8 + 1)) (r6.set x3.toNat true)
        else
         none
      else
       none
    else
     none
   else
    spec_NeededBefore_p0 v0 v1 v6n (IntKind.i64.wrap (v7 - 1)) r6
 else
  none :=
 (goL_dn _ _ _ 4000 _ _).trans (by kernel_rfl)
theorem spec_NeededBefore_p2_eq  (v1 : Int) (v6n : Nat) (v10 : Int) (r6 : List Bool) (r9 : List Int) : spec_NeededBefore_p2 v1 v6n v10 r6 r9 =
 if decide (v10 < v1) then
  if decide (0 ≤ v10) && decide (v10 < (v6n : Int)) then
   (r6[v10.toNat]?).bind fun x1 =>
    if x1 then
     if decide (r9.length + 1 < lim) then
      spec_NeededBefore_p2 v1 v6n (IntKind.i64.wrap (v10 + 1)) r6 ((r9.take r9.length) ++ [v10])
     else
      none
    else
     spec_NeededBefore_p2 v1 v6n (IntKind.i64.wrap (v10 + 1)) r6 r9
  else
   none
 else
  some ((r9.take r9.length),0) :=
 (goL_dn _ _ _ 4000 _ _).trans (by kernel_rfl)
def laws_FnRepairs_k0 : C :=
 .seq (.seq (.reg false [.V 107 (.mv (.t 19)),.V 108 (.fa 3 (.t 17)),.V 109 (.ld none (.t 108)),.V 110 (.len (.t 109)),.V 111 (.bin .lss (.t 107) (.t 110))] [5,6,8,10,12,14,15,16,17,18,19,111] [5,6,8,12,17,18003]) (.cond (.t 111) .skip (.exit 2))) (.seq (.block 3 (.seq (.reg false [.V 114 (.fa 3 (.t 17)),.V 115 (.ld none (.t 114)),.V 116 (.mv (.t 19)),.V 117 (.ia 1 (.t 115) (.t 116)),.V 118 (.ld none (.t 117)),.V 20 (.asg (.t 118))] [5,6,8,10,12,14,15,16,17,18,19,20] [5,6,8,12,17,18003]) (.seq (.reg true [.V 119 (.mv (.t 18)),.V 120 (.mv (.t 6)),.V 121 (.mv (.t 20)),.V 122 (.ia 1 (.t 120) (.t 121)),.V 123 (.ld none (.t 122)),.V 124 (.mv (.t 5)),.V 125 (.mv (.t 20)),.V 126 (.ia 4 (.t 124) (.t 125)),.V 127 (.fa 1 (.t 126)),.V 128 (.ld none (.t 127)),.V 129 (.bin .add (.t 123) (.t 128)),.V 130 (.max [.t 119,.t 129]),.V 18 (.asg (.t 130))] [5,6,8,10,12,14,15,16,17,18,19,20] [5,6,8,12,17,18003]) (.seq (.reg true [.V 131 (.mv (.t 8)),.V 132 (.mv (.t 20)),.V 133 (.ia 1 (.t 131) (.t 132)),.V 134 (.ld none (.t 133)),.V 135 (.mv (.t 5)),.V 136 (.mv (.t 20)),.V 137 (.ia 4 (.t 135) (.t 136)),.V 138 (.fa 1 (.t 137)),.V 139 (.ld none (.t 138)),.V 140 (.bin .add (.t 134) (.t 139)),.V 141 (.mv (.t 8)),.V 142 (.mv (.t 16)),.V 143 (.ia 1 (.t 141) (.t 142)),.V 144 (.ld none (.t 143)),.V 145 (.bin .gtr (.t 140) (.t 144))] [5,6,8,10,12,14,15,16,17,18,19,145] [5,6,8,12,17,18003]) (.cond (.t 145) (.seq (.reg false [.V 4 (.asg (.c (.bool false)))] [4] []) .ret) .skip))))) (.reg false [.V 112 (.mv (.t 19)),.V 113 (.bin .add (.t 112) (.c (.int .i64 1))),.V 19 (.asg (.t 113))] [5,6,8,10,12,14,15,16,17,18,19] [5,6,8,12,17,18003]))
def laws_FnRepairs_k1 : C :=
 .norm [5,6,8,10,12,14,15,16,17,18,19] [5,6,8,12,17,18003] laws_FnRepairs_k0
def laws_FnRepairs_k2 : C :=
 .seq (.seq (.reg false [.V 276 (.mv (.t 28)),.V 277 (.mv (.t 26)),.V 278 (.len (.t 277)),.V 279 (.bin .lss (.t 276) (.t 278))] [5,6,8,10,12,14,15,16,17,23,25,26,28,279] [5,6,8,12,17,23,26,18003]) (.cond (.t 279) .skip (.exit 6))) (.seq (.block 7 (.seq (.reg false [.V 282 (.mv (.t 23)),.V 283 (.mv (.t 26)),.V 284 (.mv (.t 28)),.V 285 (.ia 1 (.t 283) (.t 284)),.V 286 (.ld none (.t 285)),.V 287 (.call (.c (.fn 77 [])) [.t 282,.t 286]),.V 288 (.un .not (.t 287))] [5,6,8,10,12,14,15,16,17,23,25,26,28,288] [5,6,8,12,17,23,26,18003]) (.cond (.t 288) (.seq (.reg false [.V 4 (.asg (.c (.bool false)))] [4] []) .ret) .skip))) (.reg false [.V 280 (.mv (.t 28)),.V 281 (.bin .add (.t 280) (.c (.int .i64 1))),.V 28 (.asg (.t 281))] [5,6,8,10,12,14,15,16,17,23,25,26,28] [5,6,8,12,17,23,26,18003]))
def laws_FnRepairs_k3 : C :=
 .norm [5,6,8,10,12,14,15,16,17,23,25,26,28] [5,6,8,12,17,23,26,18003] laws_FnRepairs_k2
def laws_FnRepairs_k4 : C :=
 .reg false [.V 254 (.mv (.t 25)),.V 255 (.bin .add (.t 254) (.c (.int .i64 1))),.V 25 (.asg (.t 255))] [5,6,8,10,12,14,15,16,17,23,25] [5,6,8,12,17,23,18003]
def laws_FnRepairs_k5 : C :=
 .seq (.seq (.reg false [.V 249 (.mv (.t 25)),.V 250 (.fa 3 (.t 17)),.V 251 (.ld none (.t 250)),.V 252 (.len (.t 251)),.V 253 (.bin .lss (.t 249) (.t 252))] [5,6,8,10,12,14,15,16,17,23,25,253] [5,6,8,12,17,23,18003]) (.cond (.t 253) .skip (.exit 4))) (.seq (.block 5 (.seq (.seq (.reg false [.V 256 (.mv (.t 23)),.V 257 (.fa 3 (.t 17)),.V 258 (.ld none (.t 257)),.V 259 (.mv (.t 25)),.V 260 (.ia 1 (.t 258) (.t 259)),.V 261 (.ld none (.t 260)),.V 262 (.call (.c (.fn 77 [])) [.t 256,.t 261]),.V 263 (.un .not (.t 262))] [5,6,8,10,12,14,15,16,17,23,25,263] [5,6,8,12,17,23,18003]) (.cond (.t 263) (.seq (.reg false [.V 4 (.asg (.c (.bool false)))] [4] []) .ret) .skip)) (.seq (.reg false [.V 265 (.mv (.t 5)),.V 266 (.fa 3 (.t 17)),.V 267 (.ld none (.t 266)),.V 268 (.mv (.t 25)),.V 269 (.ia 1 (.t 267) (.t 268)),.V 270 (.ld none (.t 269)),.V 271 (.call (.c (.fn 78 [])) [.t 265,.t 270]),.V 264 (.mv (.t 271)),.V 272 (.ext (.t 264) 0),.V 273 (.ext (.t 264) 1),.W 26 (.asg (.t 272)),.V 27 (.asg (.t 273))] [5,6,8,10,12,14,15,16,17,23,25,26,27] [5,6,8,12,17,23,26,18003]) (.seq (.seq (.reg false [.V 274 (.mv (.t 27)),.V 275 (.bin .neq (.t 274) (.c (.int .i64 0)))] [5,6,8,10,12,14,15,16,17,23,25,26,275] [5,6,8,12,17,23,26,18003]) (.cond (.t 275) (.seq (.reg false [.V 4 (.asg (.c (.bool false)))] [4] []) .ret) .skip)) (.seq (.reg false [.V 28 (.asg (.c (.int .i64 0)))] [5,6,8,10,12,14,15,16,17,23,25,26,28] [5,6,8,12,17,23,26,18003]) (.block 6 (.loop laws_FnRepairs_k3))))))) laws_FnRepairs_k4)
def laws_FnRepairs_k6 : C :=
 .norm [5,6,8,10,12,14,15,16,17,23,25] [5,6,8,12,17,23,18003] laws_FnRepairs_k5
def laws_FnRepairs_k7 : C :=
 .seq (.seq (.reg false [.V 289 (.mv (.t 29)),.V 290 (.mv (.t 23)),.V 291 (.len (.t 290)),.V 292 (.bin .lss (.t 289) (.t 291))] [5,6,8,10,12,14,15,16,23,29,292] [5,6,8,12,23]) (.cond (.t 292) .skip (.exit 8))) (.seq (.block 9 (.seq (.reg true [.V 295 (.mv (.t 23)),.V 296 (.mv (.t 29)),.V 297 (.ia 1 (.t 295) (.t 296)),.V 298 (.ld none (.t 297)),.V 299 (.bin .lss (.t 298) (.c (.int .i64 0))),.V 300 (.mv (.t 299)),.G 301 (.mv (.t 23)) 5 false,.G 302 (.mv (.t 29)) 5 false,.G 303 (.ia 1 (.t 301) (.t 302)) 5 false,.G 304 (.ld none (.t 303)) 5 false,.G 305 (.mv (.t 16)) 5 false,.G 306 (.bin .geq (.t 304) (.t 305)) 5 false,.V 307 (.pick (.t 300) (.c (.bool true)) (.t 306)),.V 308 (.mv (.t 307)),.G 309 (.mv (.t 6)) 13 false,.G 310 (.mv (.t 23)) 13 false,.G 311 (.mv (.t 29)) 13 false,.G 312 (.ia 1 (.t 310) (.t 311)) 13 false,.G 313 (.ld none (.t 312)) 13 false,.G 314 (.ia 1 (.t 309) (.t 313)) 13 false,.G 315 (.ld none (.t 314)) 13 false,.G 316 (.mv (.t 5)) 13 false,.G 317 (.mv (.t 23)) 13 false,.G 318 (.mv (.t 29)) 13 false,.G 319 (.ia 1 (.t 317) (.t 318)) 13 false,.G 320 (.ld none (.t 319)) 13 false,.G 321 (.ia 4 (.t 316) (.t 320)) 13 false,.G 322 (.fa 1 (.t 321)) 13 false,.G 323 (.ld none (.t 322)) 13 false,.G 324 (.bin .add (.t 315) (.t 323)) 13 false,.G 325 (.mv (.t 6)) 13 false,.G 326 (.mv (.t 16)) 13 false,.G 327 (.ia 1 (.t 325) (.t 326)) 13 false,.G 328 (.ld none (.t 327)) 13 false,.G 329 (.bin .gtr (.t 324) (.t 328)) 13 false,.V 330 (.pick (.t 308) (.c (.bool true)) (.t 329))] [5,6,8,10,12,14,15,16,23,29,330] [5,6,8,12,23]) (.cond (.t 330) (.seq (.reg false [.V 4 (.asg (.c (.bool false)))] [4] []) .ret) .skip))) (.reg false [.V 293 (.mv (.t 29)),.V 294 (.bin .add (.t 293) (.c (.int .i64 1))),.V 29 (.asg (.t 294))] [5,6,8,10,12,14,15,16,23,29] [5,6,8,12,23]))
def laws_FnRepairs_k8 : C :=
 .norm [5,6,8,10,12,14,15,16,23,29] [5,6,8,12,23] laws_FnRepairs_k7
def laws_FnRepairs_k9 : C :=
 .seq (.reg false [.V 29 (.asg (.c (.int .i64 0)))] [5,6,8,10,12,14,15,16,23,29] [5,6,8,12,23]) (.block 8 (.loop laws_FnRepairs_k8))
def laws_FnRepairs_k10 : C :=
 .seq (.reg false [.V 242 (.mv (.t 5)),.V 243 (.mv (.t 16)),.V 244 (.call (.c (.fn 79 [])) [.t 242,.t 243]),.V 241 (.mv (.t 244)),.V 245 (.ext (.t 241) 0),.V 246 (.ext (.t 241) 1),.W 23 (.asg (.t 245)),.V 24 (.asg (.t 246))] [5,6,8,10,12,14,15,16,17,23,24] [5,6,8,12,17,23,18003]) (.seq (.seq (.reg false [.V 247 (.mv (.t 24)),.V 248 (.bin .neq (.t 247) (.c (.int .i64 0)))] [5,6,8,10,12,14,15,16,17,23,248] [5,6,8,12,17,23,18003]) (.cond (.t 248) (.seq (.reg false [.V 4 (.asg (.c (.bool false)))] [4] []) .ret) .skip)) (.seq (.seq (.reg false [.V 25 (.asg (.c (.int .i64 0)))] [5,6,8,10,12,14,15,16,17,23,25] [5,6,8,12,17,23,18003]) (.block 4 (.loop laws_FnRepairs_k6))) laws_FnRepairs_k9))
def laws_FnRepairs_k11 : C :=
 .seq (.reg false [.V 167 (.ld (some 4) (.t 17)),.V 168 (.call (.c (.fn 81 [])) [.t 167]),.V 169 (.call (.c (.fn 82 [])) [.t 168]),.V 166 (.mv (.t 169)),.V 170 (.ext (.t 166) 0),.V 171 (.ext (.t 166) 1),.W 21 (.alloc 4 (.agg [.str [],.int .i64 0,.int .i64 0,.nils 1])),⟨none,true,.sto 4 (.t 21) (.t 170),none,false,[]⟩,.V 22 (.asg (.t 171))] [5,6,8,10,12,14,15,16,17,18,21,22] [5,6,8,12,17,21,18003,22003]) (.seq (.seq (.reg true [.V 172 (.mv (.t 6)),.V 173 (.mv (.t 16)),.V 174 (.ia 1 (.t 172) (.t 173)),.V 175 (.ld none (.t 174)),.V 176 (.mv (.t 18)),.V 177 (.bin .neq (.t 175) (.t 176)),.V 178 (.mv (.t 177)),.G 179 (.mv (.t 8)) 6 false,.G 180 (.mv (.t 16)) 6 false,.G 181 (.ia 1 (.t 179) (.t 180)) 6 false,.G 182 (.ld none (.t 181)) 6 false,.G 183 (.mv (.t 6)) 6 false,.G 184 (.mv (.t 16)) 6 false,.G 185 (.ia 1 (.t 183) (.t 184)) 6 false,.G 186 (.ld none (.t 185)) 6 false,.G 187 (.bin .lss (.t 182) (.t 186)) 6 false,.V 188 (.pick (.t 178) (.c (.bool true)) (.t 187)),.V 189 (.mv (.t 188)),.G 190 (.mv (.t 8)) 17 false,.G 191 (.mv (.t 16)) 17 false,.G 192 (.ia 1 (.t 190) (.t 191)) 17 false,.G 193 (.ld none (.t 192)) 17 false,.G 194 (.fa 1 (.t 17)) 17 false,.G 195 (.ld none (.t 194)) 17 false,.G 196 (.bin .add (.t 193) (.t 195)) 17 false,.G 197 (.mv (.t 10)) 17 false,.G 198 (.bin .gtr (.t 196) (.t 197)) 17 false,.V 199 (.pick (.t 189) (.c (.bool true)) (.t 198)),.V 200 (.mv (.t 199)),.G 201 (.mv (.t 12)) 28 false,.G 202 (.mv (.t 16)) 28 false,.G 203 (.call (.c (.fn 77 [])) [.t 201,.t 202]) 28 false,.G 204 (.mv (.t 6)) 28 false,.G 205 (.mv (.t 16)) 28 false,.G 206 (.ia 1 (.t 204) (.t 205)) 28 false,.G 207 (.ld none (.t 206)) 28 false,.G 208 (.mv (.t 8)) 28 false,.G 209 (.mv (.t 16)) 28 false,.G 210 (.ia 1 (.t 208) (.t 209)) 28 false,.G 211 (.ld none (.t 210)) 28 false,.G 212 (.bin .eql (.t 207) (.t 211)) 28 false,.G 213 (.eqb true (.t 203) (.t 212)) 28 false,.V 214 (.pick (.t 200) (.c (.bool true)) (.t 213)),.V 215 (.mv (.t 214)),.G 216 (.mv (.t 22)) 43 false,.G 217 (.un .not (.t 216)) 43 false,.V 218 (.pick (.t 215) (.c (.bool true)) (.t 217)),.V 219 (.mv (.t 218)),.G 220 (.fa 0 (.t 21)) 47 false,.G 221 (.ld none (.t 220)) 47 false,.G 222 (.fa 0 (.t 17)) 47 false,.G 223 (.ld none (.t 222)) 47 false,.G 224 (.bin .neq (.t 221) (.t 223)) 47 false,.V 225 (.pick (.t 219) (.c (.bool true)) (.t 224)),.V 226 (.mv (.t 225)),.G 227 (.fa 1 (.t 21)) 54 false,.G 228 (.ld none (.t 227)) 54 false,.G 229 (.fa 1 (.t 17)) 54 false,.G 230 (.ld none (.t 229)) 54 false,.G 231 (.bin .neq (.t 228) (.t 230)) 54 false,.V 232 (.pick (.t 226) (.c (.bool true)) (.t 231)),.V 233 (.mv (.t 232)),.G 234 (.fa 3 (.t 21)) 61 false,.G 235 (.ld none (.t 234)) 61 false,.G 236 (.fa 3 (.t 17)) 61 false,.G 237 (.ld none (.t 236)) 61 false,.G 238 (.call (.c (.fn 80 [])) [.t 235,.t 237]) 61 false,.G 239 (.un .not (.t 238)) 61 false,.V 240 (.pick (.t 233) (.c (.bool true)) (.t 239))] [5,6,8,10,12,14,15,16,17,240] [5,6,8,12,17,18003]) (.cond (.t 240) (.seq (.reg false [.V 4 (.asg (.c (.bool false)))] [4] []) .ret) .skip)) (.norm [5,6,8,10,12,14,15,16,17] [5,6,8,12,17,18003] laws_FnRepairs_k10))
def laws_FnRepairs_k12 : C :=
 .seq (.reg false [.V 158 (.mv (.t 15)),.V 159 (.mv (.t 158)),.G 160 (.mv (.t 8)) 1 false,.G 161 (.mv (.t 16)) 1 false,.G 162 (.ia 1 (.t 160) (.t 161)) 1 false,.G 163 (.ld none (.t 162)) 1 false,.G 164 (.bin .eql (.t 163) (.c (.int .i64 0))) 1 false,.V 165 (.pick (.t 159) (.c (.bool true)) (.t 164)),.V 15 (.asg (.t 165))] [5,6,8,10,12,14,15,16,17,18] [5,6,8,12,17,18003]) (.norm [5,6,8,10,12,14,15,16,17,18] [5,6,8,12,17,18003] laws_FnRepairs_k11)
def laws_FnRepairs_k13 : C :=
 .seq (.reg true [.V 146 (.mv (.t 14)),.V 147 (.mv (.t 146)),.G 148 (.mv (.t 6)) 1 false,.G 149 (.mv (.t 16)) 1 false,.G 150 (.ia 1 (.t 148) (.t 149)) 1 false,.G 151 (.ld none (.t 150)) 1 false,.G 152 (.fa 1 (.t 17)) 1 false,.G 153 (.ld none (.t 152)) 1 false,.G 154 (.bin .add (.t 151) (.t 153)) 1 false,.G 155 (.mv (.t 10)) 1 false,.G 156 (.bin .eql (.t 154) (.t 155)) 1 false,.V 157 (.pick (.t 147) (.c (.bool true)) (.t 156)),.V 14 (.asg (.t 157))] [5,6,8,10,12,14,15,16,17,18] [5,6,8,12,17,18003]) (.norm [5,6,8,10,12,14,15,16,17,18] [5,6,8,12,17,18003] laws_FnRepairs_k12)
def laws_FnRepairs_k14 : C :=
 .reg false [.V 101 (.mv (.t 16)),.V 102 (.bin .add (.t 101) (.c (.int .i64 1))),.V 16 (.asg (.t 102))] [5,6,8,10,12,14,15,16] [5,6,8,12]
def laws_FnRepairs_k15 : C :=
 .seq (.seq (.reg false [.V 97 (.mv (.t 16)),.V 98 (.mv (.t 5)),.V 99 (.len (.t 98)),.V 100 (.bin .lss (.t 97) (.t 99))] [5,6,8,10,12,14,15,16,100] [5,6,8,12]) (.cond (.t 100) .skip (.exit 0))) (.seq (.block 1 (.seq (.reg false [.V 103 (.mv (.t 5)),.V 104 (.mv (.t 16)),.V 105 (.ia 4 (.t 103) (.t 104)),.V 106 (.ld (some 4) (.t 105)),.W 17 (.alloc 4 (.agg [.str [],.int .i64 0,.int .i64 0,.nils 1])),⟨none,true,.sto 4 (.t 17) (.t 106),none,false,[]⟩] [5,6,8,10,12,14,15,16,17] [5,6,8,12,17,18003]) (.seq (.reg false [.V 18 (.asg (.c (.int .i64 0)))] [5,6,8,10,12,14,15,16,17,18] [5,6,8,12,17,18003]) (.seq (.seq (.reg false [.V 19 (.asg (.c (.int .i64 0)))] [5,6,8,10,12,14,15,16,17,18,19] [5,6,8,12,17,18003]) (.block 2 (.loop laws_FnRepairs_k1))) laws_FnRepairs_k13)))) laws_FnRepairs_k14)
def laws_FnRepairs_k16 : C :=
 .norm [5,6,8,10,12,14,15,16] [5,6,8,12] laws_FnRepairs_k15
def laws_FnRepairs_k17 : C :=
 .seq (.reg false [.V 331 (.mv (.t 5)),.V 332 (.len (.t 331)),.V 333 (.bin .eql (.t 332) (.c (.int .i64 0))),.V 334 (.mv (.t 333)),.G 335 (.mv (.t 10)) 3 true,.G 336 (.bin .eql (.t 335) (.c (.int .i64 0))) 3 true,.V 337 (.pick (.t 334) (.t 336) (.c (.bool false))),.V 338 (.mv (.t 337)),.G 339 (.mv (.t 14)) 7 false,.G 340 (.mv (.t 339)) 7 false,.G 341 (.mv (.t 15)) 9 true,.G 342 (.pick (.t 340) (.t 341) (.c (.bool false))) 7 false,.V 343 (.pick (.t 338) (.c (.bool true)) (.t 342)),.V 4 (.asg (.t 343))] [4] []) .ret
def laws_FnRepairs_k18 : C :=
 .seq (.reg false [.V 14 (.asg (.c (.bool false)))] [5,6,8,10,12,14] [5,6,8,12]) (.seq (.reg false [.V 15 (.asg (.c (.bool false)))] [5,6,8,10,12,14,15] [5,6,8,12]) (.seq (.seq (.reg false [.V 16 (.asg (.c (.int .i64 0)))] [5,6,8,10,12,14,15,16] [5,6,8,12]) (.block 0 (.loop laws_FnRepairs_k16))) laws_FnRepairs_k17))
def laws_FnRepairs_ir : Fn := { np := 2,io := [],res := [.t 4],own := [false],body :=
 (.seq (.reg false [.V 4 (.asg (.c (.bool false)))] [0,1] []) (.seq (.seq (.reg false [.V 30 (.mv (.t 0)),.V 31 (.mv (.t 1)),.V 32 (.call (.c (.fn 89 [])) [.t 30,.t 31])] [0,32] []) (.cond (.t 32) (.seq (.reg false [.V 4 (.asg (.c (.bool true)))] [4] []) .ret) .skip)) (.seq (.reg false [.V 33 (.mv (.t 0)),.V 34 (.call (.c (.fn 88 [])) [.t 33]),.W 5 (.asg (.t 34))] [5] [5]) (.seq (.reg false [.V 36 (.mv (.t 5)),.V 37 (.call (.c (.fn 87 [])) [.t 36]),.V 35 (.mv (.t 37)),.V 38 (.ext (.t 35) 0),.V 39 (.ext (.t 35) 1),.W 6 (.asg (.t 38)),.V 7 (.asg (.t 39))] [5,6,7] [5,6]) (.seq (.reg false [.V 41 (.mv (.t 5)),.V 42 (.call (.c (.fn 86 [])) [.t 41]),.V 40 (.mv (.t 42)),.V 43 (.ext (.t 40) 0),.V 44 (.ext (.t 40) 1),.W 8 (.asg (.t 43)),.V 9 (.asg (.t 44))] [5,6,7,8,9] [5,6,8]) (.seq (.reg false [.V 46 (.mv (.t 5)),.V 47 (.call (.c (.fn 85 [])) [.t 46]),.V 45 (.mv (.t 47)),.V 48 (.ext (.t 45) 0),.V 49 (.ext (.t 45) 1),.V 10 (.asg (.t 48)),.V 11 (.asg (.t 49))] [5,6,7,8,9,10,11] [5,6,8]) (.seq (.reg false [.V 51 (.mv (.t 5)),.V 52 (.call (.c (.fn 84 [])) [.t 51]),.V 50 (.mv (.t 52)),.V 53 (.ext (.t 50) 0),.V 54 (.ext (.t 50) 1),.W 12 (.asg (.t 53)),.V 13 (.asg (.t 54))] [5,6,7,8,9,10,11,12,13] [5,6,8,12]) (.seq (.seq (.reg false [.V 55 (.mv (.t 7)),.V 56 (.bin .neq (.t 55) (.c (.int .i64 0))),.V 57 (.mv (.t 56)),.G 58 (.mv (.t 6)) 2 false,.G 59 (.len (.t 58)) 2 false,.G 60 (.mv (.t 5)) 2 false,.G 61 (.len (.t 60)) 2 false,.G 62 (.bin .neq (.t 59) (.t 61)) 2 false,.V 63 (.pick (.t 57) (.c (.bool true)) (.t 62)),.V 64 (.mv (.t 63)),.G 65 (.mv (.t 9)) 9 false,.G 66 (.bin .neq (.t 65) (.c (.int .i64 0))) 9 false,.V 67 (.pick (.t 64) (.c (.bool true)) (.t 66)),.V 68 (.mv (.t 67)),.G 69 (.mv (.t 8)) 13 false,.G 70 (.len (.t 69)) 13 false,.G 71 (.mv (.t 5)) 13 false,.G 72 (.len (.t 71)) 13 false,.G 73 (.bin .neq (.t 70) (.t 72)) 13 false,.V 74 (.pick (.t 68) (.c (.bool true)) (.t 73)),.V 75 (.mv (.t 74)),.G 76 (.mv (.t 11)) 20 false,.G 77 (.bin .neq (.t 76) (.c (.int .i64 0))) 20 false,.V 78 (.pick (.t 75) (.c (.bool true)) (.t 77)),.V 79 (.mv (.t 78)),.G 80 (.mv (.t 13)) 24 false,.G 81 (.bin .neq (.t 80) (.c (.int .i64 0))) 24 false,.V 82 (.pick (.t 79) (.c (.bool true)) (.t 81)),.V 83 (.mv (.t 82)),.G 84 (.mv (.t 12)) 28 false,.G 85 (.len (.t 84)) 28 false,.G 86 (.bin .gtr (.t 85) (.c (.int .i64 0))) 28 false,.G 87 (.mv (.t 5)) 28 false,.G 88 (.len (.t 87)) 28 false,.G 89 (.bin .gtr (.t 88) (.c (.int .i64 0))) 28 false,.G 90 (.eqb true (.t 86) (.t 89)) 28 false,.V 91 (.pick (.t 83) (.c (.bool true)) (.t 90)),.V 92 (.mv (.t 91)),.G 93 (.mv (.t 5)) 37 false,.G 94 (.call (.c (.fn 83 [])) [.t 93]) 37 false,.G 95 (.un .not (.t 94)) 37 false,.V 96 (.pick (.t 92) (.c (.bool true)) (.t 95))] [5,6,8,10,12,96] [5,6,8,12]) (.cond (.t 96) (.seq (.reg false [.V 4 (.asg (.c (.bool false)))] [4] []) .ret) .skip)) (.norm [5,6,8,10,12] [5,6,8,12] laws_FnRepairs_k18))))))))) }
noncomputable def laws_FnRepairs_D : List (Nat × Callee) := [(77,laws_r8Has_c),(78,spec_NeededBefore_c),(79,impl_NeededBefore_c),(80,laws_r8Same_c),(81,impl_StepText_c),(82,impl_ReadStep_c),(83,impl_ValidSteps_c),(84,impl_CriticalSteps_c),(85,impl_TotalHours_c),(86,impl_LatestStarts_c),(87,impl_EarliestStarts_c),(88,spec_R8Steps_c),(89,laws_r8Long_c)]
def laws_FnRepairs_H : List (Nat × ET) := [(5,T_Step),(6,(.one (.int .i64))),(8,(.one (.int .i64))),(12,(.one (.int .i64))),(23,(.one (.int .i64))),(26,(.one (.int .i64))),(30,(.one (.int .u8))),(31,(.one (.int .u8))),(33,(.one (.int .u8))),(34,T_Step),(36,T_Step),(38,(.one (.int .i64))),(41,T_Step),(43,(.one (.int .i64))),(46,T_Step),(51,T_Step),(53,(.one (.int .i64))),(58,(.one (.int .i64))),(60,T_Step),(69,(.one (.int .i64))),(71,T_Step),(84,(.one (.int .i64))),(87,T_Step),(93,T_Step),(98,T_Step),(103,T_Step),(109,(.one (.int .i64))),(115,(.one (.int .i64))),(120,(.one (.int .i64))),(124,T_Step),(131,(.one (.int .i64))),(135,T_Step),(141,(.one (.int .i64))),(148,(.one (.int .i64))),(160,(.one (.int .i64))),(172,(.one (.int .i64))),(179,(.one (.int .i64))),(183,(.one (.int .i64))),(190,(.one (.int .i64))),(201,(.one (.int .i64))),(204,(.one (.int .i64))),(208,(.one (.int .i64))),(235,(.one (.int .i64))),(237,(.one (.int .i64))),(242,T_Step),(245,(.one (.int .i64))),(251,(.one (.int .i64))),(256,(.one (.int .i64))),(258,(.one (.int .i64))),(265,T_Step),(267,(.one (.int .i64))),(272,(.one (.int .i64))),(277,(.one (.int .i64))),(282,(.one (.int .i64))),(283,(.one (.int .i64))),(290,(.one (.int .i64))),(295,(.one (.int .i64))),(301,(.one (.int .i64))),(309,(.one (.int .i64))),(310,(.one (.int .i64))),(316,T_Step),(317,(.one (.int .i64))),(325,(.one (.int .i64))),(331,T_Step)]
noncomputable def laws_FnRepairs_c : Callee := mkCallee laws_FnRepairs_D laws_FnRepairs_H laws_FnRepairs_ir [.d (.one (.sl (.one (.int .u8)))),.d (.one (.sl (.one (.int .u8))))] [.d (.one .bool)] []
noncomputable def laws_FnRepairs (a0 : List Int) (a1 : List Int) : Option (Bool) := laws_FnRepairs_c.f (a0,a1,())
noncomputable def laws_FnRepairs_p0  (v5 : List T_Step.ty) (v10 : Int) (r6 : List Int) (r8 : List Int) (r12 : List Int) : Option (Bool) :=
 goL laws_FnRepairs_D laws_FnRepairs_H (vleave laws_FnRepairs_ir [.d (.one (.sl (.one (.int .u8)))),.d (.one (.sl (.one (.int .u8))))] [.d (.one .bool)] [] []) [.c laws_FnRepairs_k18]
  ⟨[(5,.sl T_Step v5),(6,.view 6 0 r6.length),(8,.view 8 0 r8.length),(10,.int .i64 v10),(12,.view 12 0 r12.length)],[(5,none),(6,some (.sl (.one (.int .i64)) r6)),(8,some (.sl (.one (.int .i64)) r8)),(12,some (.sl (.one (.int .i64)) r12))]⟩
noncomputable def laws_FnRepairs_p1  (v5 : List T_Step.ty) (v10 : Int) (v14 : Bool) (v15 : Bool) (v16 : Int) (r6 : List Int) (r8 : List Int) (r12 : List Int) : Option (Bool) :=
 goL laws_FnRepairs_D laws_FnRepairs_H (vleave laws_FnRepairs_ir [.d (.one (.sl (.one (.int .u8)))),.d (.one (.sl (.one (.int .u8))))] [.d (.one .bool)] [] []) [.c laws_FnRepairs_k15,.l laws_FnRepairs_k16,.e 0,.c laws_FnRepairs_k17]
  ⟨[(5,.sl T_Step v5),(6,.view 6 0 r6.length),(8,.view 8 0 r8.length),(10,.int .i64 v10),(12,.view 12 0 r12.length),(14,.bool v14),(15,.bool v15),(16,.int .i64 v16)],[(5,none),(6,some (.sl (.one (.int .i64)) r6)),(8,some (.sl (.one (.int .i64)) r8)),(12,some (.sl (.one (.int .i64)) r12))]⟩
noncomputable def laws_FnRepairs_p2  (v5 : List T_Step.ty) (v10 : Int) (v14 : Bool) (v15 : Bool) (v16 : Int) (v18 : Int) (v19 : Int) (r6 : List Int) (r8 : List Int) (r12 : List Int) (r17_0 : List UInt8) (r17_1 : Int) (r17_2 : Int) (r17_3 : List Int) : Option (Bool) :=
 goL laws_FnRepairs_D laws_FnRepairs_H (vleave laws_FnRepairs_ir [.d (.one (.sl (.one (.int .u8)))),.d (.one (.sl (.one (.int .u8))))] [.d (.one .bool)] [] []) [.c laws_FnRepairs_k0,.l laws_FnRepairs_k1,.e 2,.c laws_FnRepairs_k13,.e 1,.c laws_FnRepairs_k14,.l laws_FnRepairs_k16,.e 0,.c laws_FnRepairs_k17]
  ⟨[(5,.sl T_Step v5),(6,.view 6 0 r6.length),(8,.view 8 0 r8.length),(10,.int .i64 v10),(12,.view 12 0 r12.length),(14,.bool v14),(15,.bool v15),(16,.int .i64 v16),(17,.loc 17 0 0),(18,.int .i64 v18),(19,.int .i64 v19)],[(5,none),(6,some (.sl (.one (.int .i64)) r6)),(8,some (.sl (.one (.int .i64)) r8)),(12,some (.sl (.one (.int .i64)) r12)),(17,some (.var 4 (.agg [.str r17_0,.int .i64 r17_1,.int .i64 r17_2,.sl (.one (.int .i64)) r17_3]))),(18003,none)]⟩
noncomputable def laws_FnRepairs_p3  (v5 : List T_Step.ty) (v10 : Int) (v14 : Bool) (v15 : Bool) (v16 : Int) (v18 : Int) (r6 : List Int) (r8 : List Int) (r12 : List Int) (r17_0 : List UInt8) (r17_1 : Int) (r17_2 : Int) (r17_3 : List Int) : Option (Bool) :=
 goL laws_FnRepairs_D laws_FnRepairs_H (vleave laws_FnRepairs_ir [.d (.one (.sl (.one (.int .u8)))),.d (.one (.sl (.one (.int .u8))))] [.d (.one .bool)] [] []) [.c laws_FnRepairs_k12,.e 1,.c laws_FnRepairs_k14,.l laws_FnRepairs_k16,.e 0,.c laws_FnRepairs_k17]
  ⟨[(5,.sl T_Step v5),(6,.view 6 0 r6.length),(8,.view 8 0 r8.length),(10,.int .i64 v10),(12,.view 12 0 r12.length),(14,.bool v14),(15,.bool v15),(16,.int .i64 v16),(17,.loc 17 0 0),(18,.int .i64 v18)],[(5,none),(6,some (.sl (.one (.int .i64)) r6)),(8,some (.sl (.one (.int .i64)) r8)),(12,some (.sl (.one (.int .i64)) r12)),(17,some (.var 4 (.agg [.str r17_0,.int .i64 r17_1,.int .i64 r17_2,.sl (.one (.int .i64)) r17_3]))),(18003,none)]⟩
noncomputable def laws_FnRepairs_p4  (v5 : List T_Step.ty) (v10 : Int) (v14 : Bool) (v15 : Bool) (v16 : Int) (v18 : Int) (r6 : List Int) (r8 : List Int) (r12 : List Int) (r17_0 : List UInt8) (r17_1 : Int) (r17_2 : Int) (r17_3 : List Int) : Option (Bool) :=
 goL laws_FnRepairs_D laws_FnRepairs_H (vleave laws_FnRepairs_ir [.d (.one (.sl (.one (.int .u8)))),.d (.one (.sl (.one (.int .u8))))] [.d (.one .bool)] [] []) [.c laws_FnRepairs_k11,.e 1,.c laws_FnRepairs_k14,.l laws_FnRepairs_k16,.e 0,.c laws_FnRepairs_k17]
  ⟨[(5,.sl T_Step v5),(6,.view 6 0 r6.length),(8,.view 8 0 r8.length),(10,.int .i64 v10),(12,.view 12 0 r12.length),(14,.bool v14),(15,.bool v15),(16,.int .i64 v16),(17,.loc 17 0 0),(18,.int .i64 v18)],[(5,none),(6,some (.sl (.one (.int .i64)) r6)),(8,some (.sl (.one (.int .i64)) r8)),(12,some (.sl (.one (.int .i64)) r12)),(17,some (.var 4 (.agg [.str r17_0,.int .i64 r17_1,.int .i64 r17_2,.sl (.one (.int .i64)) r17_3]))),(18003,none)]⟩
noncomputable def laws_FnRepairs_p5  (v5 : List T_Step.ty) (v10 : Int) (v14 : Bool) (v15 : Bool) (v16 : Int) (r6 : List Int) (r8 : List Int) (r12 : List Int) (r17_0 : List UInt8) (r17_1 : Int) (r17_2 : Int) (r17_3 : List Int) : Option (Bool) :=
 goL laws_FnRepairs_D laws_FnRepairs_H (vleave laws_FnRepairs_ir [.d (.one (.sl (.one (.int .u8)))),.d (.one (.sl (.one (.int .u8))))] [.d (.one .bool)] [] []) [.c laws_FnRepairs_k10,.e 1,.c laws_FnRepairs_k14,.l laws_FnRepairs_k16,.e 0,.c laws_FnRepairs_k17]
  ⟨[(5,.sl T_Step v5),(6,.view 6 0 r6.length),(8,.view 8 0 r8.length),(10,.int .i64 v10),(12,.view 12 0 r12.length),(14,.bool v14),(15,.bool v15),(16,.int .i64 v16),(17,.loc 17 0 0)],[(5,none),(6,some (.sl (.one (.int .i64)) r6)),(8,some (.sl (.one (.int .i64)) r8)),(12,some (.sl (.one (.int .i64)) r12)),(17,some (.var 4 (.agg [.str r17_0,.int .i64 r17_1,.int .i64 r17_2,.sl (.one (.int .i64)) r17_3]))),(18003,none)]⟩
noncomputable def laws_FnRepairs_p6  (v5 : List T_Step.ty) (v10 : Int) (v14 : Bool) (v15 : Bool) (v16 : Int) (v25 : Int) (r6 : List Int) (r8 : List Int) (r12 : List Int) (r17_0 : List UInt8) (r17_1 : Int) (r17_2 : Int) (r17_3 : List Int) (r23 : List Int) : Option (Bool) :=
 goL laws_FnRepairs_D laws_FnRepairs_H (vleave laws_FnRepairs_ir [.d (.one (.sl (.one (.int .u8)))),.d (.one (.sl (.one (.int .u8))))] [.d (.one .bool)] [] []) [.c laws_FnRepairs_k5,.l laws_FnRepairs_k6,.e 4,.c laws_FnRepairs_k9,.e 1,.c laws_FnRepairs_k14,.l laws_FnRepairs_k16,.e 0,.c laws_FnRepairs_k17]
  ⟨[(5,.sl T_Step v5),(6,.view 6 0 r6.length),(8,.view 8 0 r8.length),(10,.int .i64 v10),(12,.view 12 0 r12.length),(14,.bool v14),(15,.bool v15),(16,.int .i64 v16),(17,.loc 17 0 0),(23,.view 23 0 r23.length),(25,.int .i64 v25)],[(5,none),(6,some (.sl (.one (.int .i64)) r6)),(8,some (.sl (.one (.int .i64)) r8)),(12,some (.sl (.one (.int .i64)) r12)),(17,some (.var 4 (.agg [.str r17_0,.int .i64 r17_1,.int .i64 r17_2,.sl (.one (.int .i64)) r17_3]))),(23,some (.sl (.one (.int .i64)) r23)),(18003,none)]⟩
noncomputable def laws_FnRepairs_p7  (v5 : List T_Step.ty) (v10 : Int) (v14 : Bool) (v15 : Bool) (v16 : Int) (v25 : Int) (v28 : Int) (r6 : List Int) (r8 : List Int) (r12 : List Int) (r17_0 : List UInt8) (r17_1 : Int) (r17_2 : Int) (r17_3 : List Int) (r23 : List Int) (r26 : List Int) : Option (Bool) :=
 goL laws_FnRepairs_D laws_FnRepairs_H (vleave laws_FnRepairs_ir [.d (.one (.sl (.one (.int .u8)))),.d (.one (.sl (.one (.int .u8))))] [.d (.one .bool)] [] []) [.c laws_FnRepairs_k2,.l laws_FnRepairs_k3,.e 6,.e 5,.c laws_FnRepairs_k4,.l laws_FnRepairs_k6,.e 4,.c laws_FnRepairs_k9,.e 1,.c laws_FnRepairs_k14,.l laws_FnRepairs_k16,.e 0,.c laws_FnRepairs_k17]
  ⟨[(5,.sl T_Step v5),(6,.view 6 0 r6.length),(8,.view 8 0 r8.length),(10,.int .i64 v10),(12,.view 12 0 r12.length),(14,.bool v14),(15,.bool v15),(16,.int .i64 v16),(17,.loc 17 0 0),(23,.view 23 0 r23.length),(25,.int .i64 v25),(26,.view 26 0 r26.length),(28,.int .i64 v28)],[(5,none),(6,some (.sl (.one (.int .i64)) r6)),(8,some (.sl (.one (.int .i64)) r8)),(12,some (.sl (.one (.int .i64)) r12)),(17,some (.var 4 (.agg [.str r17_0,.int .i64 r17_1,.int .i64 r17_2,.sl (.one (.int .i64)) r17_3]))),(23,some (.sl (.one (.int .i64)) r23)),(26,some (.sl (.one (.int .i64)) r26)),(18003,none)]⟩
noncomputable def laws_FnRepairs_p8  (v5 : List T_Step.ty) (v10 : Int) (v14 : Bool) (v15 : Bool) (v16 : Int) (v29 : Int) (r6 : List Int) (r8 : List Int) (r12 : List Int) (r23 : List Int) : Option (Bool) :=
 goL laws_FnRepairs_D laws_FnRepairs_H (vleave laws_FnRepairs_ir [.d (.one (.sl (.one (.int .u8)))),.d (.one (.sl (.one (.int .u8))))] [.d (.one .bool)] [] []) [.c laws_FnRepairs_k7,.l laws_FnRepairs_k8,.e 8,.e 1,.c laws_FnRepairs_k14,.l laws_FnRepairs_k16,.e 0,.c laws_FnRepairs_k17]
  ⟨[(5,.sl T_Step v5),(6,.view 6 0 r6.length),(8,.view 8 0 r8.length),(10,.int .i64 v10),(12,.view 12 0 r12.length),(14,.bool v14),(15,.bool v15),(16,.int .i64 v16),(23,.view 23 0 r23.length),(29,.int .i64 v29)],[(5,none),(6,some (.sl (.one (.int .i64)) r6)),(8,some (.sl (.one (.int .i64)) r8)),(12,some (.sl (.one (.int .i64)) r12)),(23,some (.sl (.one (.int .i64)) r23))]⟩
theorem laws_FnRepairs_eq (a0 : List Int) (a1 : List Int) : laws_FnRepairs a0 a1 =
 (laws_r8Long a0 a1).bind fun x1 =>
  if x1 then
   some true
  else
   (spec_R8Steps a0).bind fun x2 =>
    (impl_EarliestStarts x2).bind fun x3 =>
     (impl_LatestStarts x2).bind fun x4 =>
      (impl_TotalHours x2).bind fun x5 =>
       (impl_CriticalSteps x2).bind fun x6 =>
        if (x3.2 != 0) then
         some false
        else
         if ((x3.1.length : Int) != (x2.length : Int)) then
          some false
         else
          if (x4.2 != 0) then
           some false
          else
           if ((x4.1.length : Int) != (x2.length : Int)) then
            some false
           else
            if (x5.2 != 0) then
             some false
            else
             if (x6.2 != 0) then
              some false
             else
              if (!(decide ((x6.1.length : Int) > 0) == decide ((x2.length : Int) > 0))) then
               some false
              else
               (impl_ValidSteps x2).bind fun x7 =>
                if (!x7) then
                 some false
                else
                 laws_FnRepairs_p0 x2 x5.1 x3.1 x4.1 x6.1 :=
 (mk_f _ _ _ _ _ _ _ 4000).trans (by kernel_rfl)
theorem laws_FnRepairs_p0_eq  (v5 : List T_Step.ty) (v10 : Int) (r6 : List Int) (r8 : List Int) (r12 : List Int) : laws_FnRepairs_p0 v5 v10 r6 r8 r12 =
 laws_FnRepairs_p1 v5 v10 false false 0 r6 r8 r12 :=
 (goL_dn _ _ _ 4000 _ _).trans (by kernel_rfl)
theorem laws_FnRepairs_p1_eq  (v5 : List T_Step.ty) (v10 : Int) (v14 : Bool) (v15 : Bool) (v16 : Int) (r6 : List Int) (r8 : List Int) (r12 : List Int) : laws_FnRepairs_p1 v5 v10 v14 v15 v16 r6 r8 r12 =
 if decide (v16 < (v5.length : Int)) then
  if decide (0 ≤ v16) then
   (v5[v16.toNat]?).bind fun x1 =>
    laws_FnRepairs_p2 v5 v10 v14 v15 v16 0 0 r6 r8 r12 x1.1 x1.2.1 x1.2.2.1 x1.2.2.2.1
  else
   none
 else
  if ((v5.length : Int) == 0) then
   if (v10 == 0) then
    some true
   else
    if v14 then
     some v15
    else
     some false
  else
   if v14 then
    some v15
   else
    some false :=
 (goL_dn _ _ _ 4000 _ _).trans (by kernel_rfl)
theorem laws_FnRepairs_p2_eq  (v5 : List T_Step.ty) (v10 : Int) (v14 : Bool) (v15 : Bool) (v16 : Int) (v18 : Int) (v19 : Int) (r6 : List Int) (r8 : List Int) (r12 : List Int) (r17_0 : List UInt8) (r17_1 : Int) (r17_2 : Int) (r17_3 : List Int) : laws_FnRepairs_p2 v5 v10 v14 v15 v16 v18 v19 r6 r8 r12 r17_0 r17_1 r17_2 r17_3 =
 if decide (v19 < (r17_3.length : Int)) then
  if decide (0 ≤ v19) then
   (r17_3[v19.toNat]?).bind fun x1 =>
    if decide (0 ≤ x1) && decide (x1 < (r6.length : Int)) then
     (r6[x1.toNat]?).bind fun x2 =>
      if decide (0 ≤ x1) then
       (v5[x1.toNat]?).bind fun x3 =>
        if decide (0 ≤ x1) && decide (x1 < (r8.length : Int)) then
         (r8[x1.toNat]?).bind fun x4 =>
          if decide (0 ≤ x1) then
           (v5[x1.toNat]?).bind fun x5 =>
            if decide (0 ≤ v16) && decide (v16 < (r8.length : Int)) then
             (r8[v16.toNat]?).bind fun x6 =>
              if decide (IntKind.i64.wrap (x4 + x5.2.1) > x6) then
               some false
              else
               laws_FnRepairs_p2 v5 v10 v14 v15 v16 (if IntKind.i64.wrap (x2 + x3.2.1) > v18 then IntKind.i64.wrap (x2 + x3.2.1) else v18) (IntKind.i64.wrap (v19 + 1)) r6 r8 r12 r17_0 r17_1 r17_2 r17_3
            else
             none
          else
           none
        else
         none
      else
       none
    else
     none
  else
   none
 else
  if v14 then
   laws_FnRepairs_p3 v5 v10 true v15 v16 v18 r6 r8 r12 r17_0 r17_1 r17_2 r17_3
  else
   if decide (0 ≤ v16) && decide (v16 < (r6.length : Int)) then
    (r6[v16.toNat]?).bind fun x7 =>
     laws_FnRepairs_p3 v5 v10 (IntKind.i64.wrap (x7 + r17_1) == v10) v15 v16 v18 r6 r8 r12 r17_0 r17_1 r17_2 r17_3
   else
    none :=
 (goL_dn _ _ _ 4000 _ _).trans (by kernel_rfl)
theorem laws_FnRepairs_p3_eq  (v5 : List T_Step.ty) (v10 : Int) (v14 : Bool) (v15 : Bool) (v16 : Int) (v18 : Int) (r6 : List Int) (r8 : List Int) (r12 : List Int) (r17_0 : List UInt8) (r17_1 : Int) (r17_2 : Int) (r17_3 : List Int) : laws_FnRepairs_p3 v5 v10 v14 v15 v16 v18 r6 r8 r12 r17_0 r17_1 r17_2 r17_3 =
 if v15 then
  laws_FnRepairs_p4 v5 v10 v14 true v16 v18 r6 r8 r12 r17_0 r17_1 r17_2 r17_3
 else
  if decide (0 ≤ v16) && decide (v16 < (r8.length : Int)) then
   (r8[v16.toNat]?).bind fun x1 =>
    laws_FnRepairs_p4 v5 v10 v14 (x1 == 0) v16 v18 r6 r8 r12 r17_0 r17_1 r17_2 r17_3
  else
   none :=
 (goL_dn _ _ _ 4000 _ _).trans (by kernel_rfl)
theorem laws_FnRepairs_p4_eq  (v5 : List T_Step.ty) (v10 : Int) (v14 : Bool) (v15 : Bool) (v16 : Int) (v18 : Int) (r6 : List Int) (r8 : List Int) (r12 : List Int) (r17_0 : List UInt8) (r17_1 : Int) (r17_2 : Int) (r17_3 : List Int) : laws_FnRepairs_p4 v5 v10 v14 v15 v16 v18 r6 r8 r12 r17_0 r17_1 r17_2 r17_3 =
 (impl_StepText (r17_0,r17_1,r17_2,r17_3,())).bind fun x1 =>
  (impl_ReadStep x1).bind fun x2 =>
   if decide (0 ≤ v16) && decide (v16 < (r6.length : Int)) then
    (r6[v16.toNat]?).bind fun x3 =>
     if (x3 != v18) then
      some false
     else
      if decide (0 ≤ v16) && decide (v16 < (r8.length : Int)) then
       (r8[v16.toNat]?).bind fun x4 =>
        if decide (0 ≤ v16) && decide (v16 < (r6.length : Int)) then
         (r6[v16.toNat]?).bind fun x5 =>
          if decide (x4 < x5) then
           some false
          else
           if decide (0 ≤ v16) && decide (v16 < (r8.length : Int)) then
            (r8[v16.toNat]?).bind fun x6 =>
             if decide (IntKind.i64.wrap (x6 + r17_1) > v10) then
              some false
             else
              (laws_r8Has (r12.take r12.length) v16).bind fun x7 =>
               if decide (0 ≤ v16) && decide (v16 < (r6.length : Int)) then
                (r6[v16.toNat]?).bind fun x8 =>
                 if decide (0 ≤ v16) && decide (v16 < (r8.length : Int)) then
                  (r8[v16.toNat]?).bind fun x9 =>
                   if (!(x7 == (x8 == x9))) then
                    some false
                   else
                    if (!x2.2) then
                     some false
                    else
                     if (!(x2.1.1 == r17_0)) then
                      some false
                     else
                      if (x2.1.2.1 != r17_1) then
                       some false
                      else
                       (laws_r8Same x2.1.2.2.2.1 r17_3).bind fun x10 =>
                        if (!x10) then
                         some false
                        else
                         laws_FnRepairs_p5 v5 v10 v14 v15 v16 r6 r8 r12 r17_0 r17_1 r17_2 r17_3
                 else
                  none
               else
                none
           else
            none
        else
         none
      else
       none
   else
    none :=
 (goL_dn _ _ _ 4000 _ _).trans (by kernel_rfl)
theorem laws_FnRepairs_p5_eq  (v5 : List T_Step.ty) (v10 : Int) (v14 : Bool) (v15 : Bool) (v16 : Int) (r6 : List Int) (r8 : List Int) (r12 : List Int) (r17_0 : List UInt8) (r17_1 : Int) (r17_2 : Int) (r17_3 : List Int) : laws_FnRepairs_p5 v5 v10 v14 v15 v16 r6 r8 r12 r17_0 r17_1 r17_2 r17_3 =
 (impl_NeededBefore v5 v16).bind fun x1 =>
  if (x1.2 != 0) then
   some false
  else
   laws_FnRepairs_p6 v5 v10 v14 v15 v16 0 r6 r8 r12 r17_0 r17_1 r17_2 r17_3 x1.1 :=
 (goL_dn _ _ _ 4000 _ _).trans (by kernel_rfl)
theorem laws_FnRepairs_p6_eq  (v5 : List T_Step.ty) (v10 : Int) (v14 : Bool) (v15 : Bool) (v16 : Int) (v25 : Int) (r6 : List Int) (r8 : List Int) (r12 : List Int) (r17_0 : List UInt8) (r17_1 : Int) (r17_2 : Int) (r17_3 : List Int) (r23 : List Int) : laws_FnRepairs_p6 v5 v10 v14 v15 v16 v25 r6 r8 r12 r17_0 r17_1 r17_2 r17_3 r23 =
 if decide (v25 < (r17_3.length : Int)) then
  if decide (0 ≤ v25) then
   (r17_3[v25.toNat]?).bind fun x1 =>
    (laws_r8Has (r23.take r23.length) x1).bind fun x2 =>
     if (!x2) then
      some false
     else
      if decide (0 ≤ v25) then
       (r17_3[v25.toNat]?).bind fun x3 =>
        (spec_NeededBefore v5 x3).bind fun x4 =>
         if (x4.2 != 0) then
          some false
         else
          laws_FnRepairs_p7 v5 v10 v14 v15 v16 v25 0 r6 r8 r12 r17_0 r17_1 r17_2 r17_3 r23 x4.1
      else
       none
  else
   none
 else
  laws_FnRepairs_p8 v5 v10 v14 v15 v16 0 r6 r8 r12 r23 :=
 (goL_dn _ _ _ 4000 _ _).trans (by kernel_rfl)
theorem laws_FnRepairs_p7_eq  (v5 : List T_Step.ty) (v10 : Int) (v14 : Bool) (v15 : Bool) (v16 : Int) (v25 : Int) (v28 : Int) (r6 : List Int) (r8 : List Int) (r12 : List Int) (r17_0 : List UInt8) (r17_1 : Int) (r17_2 : Int) (r17_3 : List Int) (r23 : List Int) (r26 : List Int) : laws_FnRepairs_p7 v5 v10 v14 v15 v16 v25 v28 r6 r8 r12 r17_0 r17_1 r17_2 r17_3 r23 r26 =
 if decide (v28 < (r26.length : Int)) then
  if decide (0 ≤ v28) && decide (v28 < (r26.length : Int)) then
   (r26[v28.toNat]?).bind fun x1 =>
    (laws_r8Has (r23.take r23.length) x1).bind fun x2 =>
     if (!x2) then
      some false
     else
      laws_FnRepairs_p7 v5 v10 v14 v15 v16 v25 (IntKind.i64.wrap (v28 + 1)) r6 r8 r12 r17_0 r17_1 r17_2 r17_3 r23 r26
  else
   none
 else
  laws_FnRepairs_p6 v5 v10 v14 v15 v16 (IntKind.i64.wrap (v25 + 1)) r6 r8 r12 r17_0 r17_1 r17_2 r17_3 r23 :=
 (goL_dn _ _ _ 4000 _ _).trans (by kernel_rfl)
theorem laws_FnRepairs_p8_eq  (v5 : List T_Step.ty) (v10 : Int) (v14 : Bool) (v15 : Bool) (v16 : Int) (v29 : Int) (r6 : List Int) (r8 : List Int) (r12 : List Int) (r23 : List Int) : laws_FnRepairs_p8 v5 v10 v14 v15 v16 v29 r6 r8 r12 r23 =
 if decide (v29 < (r23.length : Int)) then
  if decide (0 ≤ v29) && decide (v29 < (r23.length : Int)) then
   (r23[v29.toNat]?).bind fun x1 =>
    if decide (x1 < 0) then
     some false
    else
     if decide (0 ≤ v29) && decide (v29 < (r23.length : Int)) then
      (r23[v29.toNat]?).bind fun x2 =>
       if decide (x2 ≥ v16) then
        some false
       else
        if decide (0 ≤ v29) && decide (v29 < (r23.length : Int)) then
         (r23[v29.toNat]?).bind fun x3 =>
          if decide (0 ≤ x3) && decide (x3 < (r6.length : Int)) then
           (r6[x3.toNat]?).bind fun x4 =>
            if decide (0 ≤ v29) && decide (v29 < (r23.length : Int)) then
             (r23[v29.toNat]?).bind fun x5 =>
              if decide (0 ≤ x5) then
               (v5[x5.toNat]?).bind fun x6 =>
                if decide (0 ≤ v16) && decide (v16 < (r6.length : Int)) then
                 (r6[v16.toNat]?).bind fun x7 =>
                  if decide (IntKind.i64.wrap (x4 + x6.2.1) > x7) then
                   some false
                  else
                   laws_FnRepairs_p8 v5 v10 v14 v15 v16 (IntKind.i64.wrap (v29 + 1)) r6 r8 r12 r23
                else
                 none
              else
               none
            else
             none
          else
           none
        else
         none
     else
      none
  else
   none
 else
  laws_FnRepairs_p1 v5 v10 v14 v15 (IntKind.i64.wrap (v16 + 1)) r6 r8 r12 :=
 (goL_dn _ _ _ 4000 _ _).trans (by kernel_rfl)
end Go.Ab.P
