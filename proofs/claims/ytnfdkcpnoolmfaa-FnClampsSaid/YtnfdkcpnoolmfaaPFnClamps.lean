/- Functions of the program: abstract forms, and what their runs give. Conditions: none. -/
import Derived.Test.YtnfdkcpnoolmfaaL4
set_option maxRecDepth 100000
set_option linter.unusedVariables false
namespace Go.Ab.P
open Go.Ab
@[reducible] def T_Step : ET := .agg (.cons .str (.cons (.int .i64) (.cons (.int .i64) (.cons (.sl (.one (.int .i64))) .nil))))
@[reducible] def T_l00Src : ET := .agg (.cons (.sl (.one (.int .u8))) (.cons (.int .i64) (.cons (.int .u64) .nil)))
def laws_r8Long_ir : Fn := { np := 2,io := [],res := [.t 4],own := [false],body :=
 (.seq (.reg false [.V 4 (.asg (.c (.bool false)))] [0,1] []) (.seq (.reg false [.V 5 (.mv (.t 0)),.V 6 (.len (.t 5)),.V 7 (.bin .gtr (.t 6) (.c (.int .i64 1048576))),.V 8 (.mv (.t 7)),.G 9 (.mv (.t 1)) 3 false,.G 10 (.len (.t 9)) 3 false,.G 11 (.bin .gtr (.t 10) (.c (.int .i64 1048576))) 3 false,.V 12 (.pick (.t 8) (.c (.bool true)) (.t 11)),.V 4 (.asg (.t 12))] [4] []) .ret)) }
noncomputable def laws_r8Long_D : List (Nat × Callee) := []
def laws_r8Long_H : List (Nat × ET) := [(5,(.one (.int .u8))),(9,(.one (.int .u8)))]
noncomputable def laws_r8Long_c : Callee := mkCallee laws_r8Long_D laws_r8Long_H laws_r8Long_ir [.d (.one (.sl (.one (.int .u8)))),.d (.one (.sl (.one (.int .u8))))] [.d (.one .bool)] []
noncomputable def laws_r8Long (a0 : List Int) (a1 : List Int) : Option (Bool) := laws_r8Long_c.f (a0,a1,())
theorem laws_r8Long_eq (a0 : List Int) (a1 : List Int) : laws_r8Long a0 a1 =
 if decide ((a0.length : Int) > 1048576) then
  some true
 else
  some (decide ((a1.length : Int) > 1048576)) :=
 (mk_f _ _ _ _ _ _ _ 4000).trans (by kernel_rfl)
def spec_l00From_ir : Fn := { np := 1,io := [],res := [.t 2],own := [true],body :=
 (.seq (.reg false [.V 2 (.asg (.c (.cst (.pointer none))))] [0] []) (.seq (.reg false [.V 3 (.mv (.t 0)),.V 4 (.build [.nils 1,.int .i64 0,.int .u64 0] [(0,1,.t 3)]),.W 5 (.box 3 (.t 4)),.V 2 (.asg (.t 5))] [2] [5,6000]) .ret)) }
noncomputable def spec_l00From_D : List (Nat × Callee) := []
def spec_l00From_H : List (Nat × ET) := [(3,(.one (.int .u8)))]
noncomputable def spec_l00From_c : Callee := mkCallee spec_l00From_D spec_l00From_H spec_l00From_ir [.d (.one (.sl (.one (.int .u8))))] [.box T_l00Src] []
noncomputable def spec_l00From (a0 : List Int) : Option (T_l00Src.ty) := spec_l00From_c.f (a0,())
theorem spec_l00From_eq (a0 : List Int) : spec_l00From a0 =
 some (a0,0,0,()) :=
 (mk_f _ _ _ _ _ _ _ 4000).trans (by kernel_rfl)
def spec_l00Src_next_k0 : C :=
 .seq (.reg false [.V 25 (.mv (.t 0)),.V 26 (.nilck (.t 25)),.V 27 (.fa 1 (.t 26)),.V 28 (.ld none (.t 27)),.V 29 (.bin .add (.t 28) (.c (.int .i64 1))),.V 30 (.nilck (.t 25)),.V 31 (.fa 1 (.t 30)),⟨none,true,.sto 1 (.t 31) (.t 29),none,false,[]⟩] [0,3] [0,1000]) (.seq (.reg false [.V 32 (.mv (.t 0)),.V 33 (.mv (.t 0)),.V 34 (.nilck (.t 33)),.V 35 (.fa 2 (.t 34)),.V 36 (.ld none (.t 35)),.V 37 (.bin .mul (.t 36) (.c (.int .u64 6364136223846793005))),.V 38 (.mv (.t 3)),.V 39 (.conv (.int .u64) (.t 38)),.V 40 (.bin .add (.t 37) (.t 39)),.V 41 (.bin .add (.t 40) (.c (.int .u64 1442695040888963407))),.V 42 (.nilck (.t 32)),.V 43 (.fa 2 (.t 42)),⟨none,true,.sto 1 (.t 43) (.t 41),none,false,[]⟩] [0,3] [0,1000]) (.seq (.seq (.reg true [.V 44 (.mv (.t 0)),.V 45 (.nilck (.t 44)),.V 46 (.fa 1 (.t 45)),.V 47 (.ld none (.t 46)),.V 48 (.mv (.t 0)),.V 49 (.nilck (.t 48)),.V 50 (.fa 0 (.t 49)),.V 51 (.ld none (.t 50)),.V 52 (.len (.t 51)),.V 53 (.bin .leq (.t 47) (.t 52))] [0,3,53] [0,1000]) (.cond (.t 53) (.seq (.reg false [.V 54 (.mv (.t 3)),.V 2 (.asg (.t 54))] [0,2] [0,1000]) .ret) .skip)) (.seq (.reg false [.V 55 (.mv (.t 0)),.V 56 (.nilck (.t 55)),.V 57 (.fa 2 (.t 56)),.V 58 (.ld none (.t 57)),.V 59 (.bin .shr (.t 58) (.c (.int .u64 40))),.V 60 (.bin .and (.t 59) (.c (.int .u64 255))),.V 61 (.conv (.int .i64) (.t 60)),.V 2 (.asg (.t 61))] [0,2] [0,1000]) .ret)))
def spec_l00Src_next_ir : Fn := { np := 1,io := [true],res := [.t 2],own := [false],body :=
 (.seq (.reg false [.V 2 (.asg (.c (.int .i64 0)))] [0] [0,1000]) (.seq (.reg false [.V 3 (.asg (.c (.int .i64 0)))] [0,3] [0,1000]) (.seq (.seq (.reg true [.V 4 (.mv (.t 0)),.V 5 (.nilck (.t 4)),.V 6 (.fa 1 (.t 5)),.V 7 (.ld none (.t 6)),.V 8 (.mv (.t 0)),.V 9 (.nilck (.t 8)),.V 10 (.fa 0 (.t 9)),.V 11 (.ld none (.t 10)),.V 12 (.len (.t 11)),.V 13 (.bin .lss (.t 7) (.t 12))] [0,3,13] [0,1000]) (.cond (.t 13) (.reg true [.V 14 (.mv (.t 0)),.V 15 (.nilck (.t 14)),.V 16 (.fa 0 (.t 15)),.V 17 (.ld none (.t 16)),.V 18 (.mv (.t 0)),.V 19 (.nilck (.t 18)),.V 20 (.fa 1 (.t 19)),.V 21 (.ld none (.t 20)),.V 22 (.ia 1 (.t 17) (.t 21)),.V 23 (.ld none (.t 22)),.V 24 (.conv (.int .i64) (.t 23)),.V 3 (.asg (.t 24))] [0,3] [0,1000]) .skip)) (.norm [0,3] [0,1000] spec_l00Src_next_k0)))) }
noncomputable def spec_l00Src_next_D : List (Nat × Callee) := []
def spec_l00Src_next_H : List (Nat × ET) := [(11,(.one (.int .u8))),(17,(.one (.int .u8))),(51,(.one (.int .u8)))]
noncomputable def spec_l00Src_next_c : Callee := mkCallee spec_l00Src_next_D spec_l00Src_next_H spec_l00Src_next_ir [.box T_l00Src] [.d (.one (.int .i64))] [.box T_l00Src]
noncomputable def spec_l00Src_next (a0 : T_l00Src.ty) : Option (Int × T_l00Src.ty) := spec_l00Src_next_c.f (a0,())
noncomputable def spec_l00Src_next_p0  (v3 : Int) (r0_0 : List Int) (r0_1 : Int) (r0_2 : Int) : Option (Int × T_l00Src.ty) :=
 goL spec_l00Src_next_D spec_l00Src_next_H (vleave spec_l00Src_next_ir [.box T_l00Src] [.d (.one (.int .i64))] [.box T_l00Src] []) [.c spec_l00Src_next_k0]
  ⟨[(0,.loc 0 0 0),(3,.int .i64 v3)],[(0,some (.var 3 (.agg [.sl (.one (.int .u8)) r0_0,.int .i64 r0_1,.int .u64 r0_2]))),(1000,none)]⟩
theorem spec_l00Src_next_eq (a0 : T_l00Src.ty) : spec_l00Src_next a0 =
 if decide (a0.2.1 < (a0.1.length : Int)) then
  if decide (0 ≤ a0.2.1) then
   (a0.1[a0.2.1.toNat]?).bind fun x1 =>
    spec_l00Src_next_p0 (IntKind.i64.wrap x1) a0.1 a0.2.1 a0.2.2.1
  else
   none
 else
  spec_l00Src_next_p0 0 a0.1 a0.2.1 a0.2.2.1 :=
 (mk_f _ _ _ _ _ _ _ 4000).trans (by kernel_rfl)
theorem spec_l00Src_next_p0_eq  (v3 : Int) (r0_0 : List Int) (r0_1 : Int) (r0_2 : Int) : spec_l00Src_next_p0 v3 r0_0 r0_1 r0_2 =
 if decide (IntKind.i64.wrap (r0_1 + 1) ≤ (r0_0.length : Int)) then
  some (v3,(r0_0,IntKind.i64.wrap (r0_1 + 1),IntKind.u64.wrap ((IntKind.u64.wrap ((IntKind.u64.wrap (r0_2 * 6364136223846793005)) + (IntKind.u64.wrap v3))) + 1442695040888963407),()))
 else
  some (IntKind.i64.wrap (IntKind.u64.wrap ((BitVec.ofInt IntKind.u64.bits (Int.fdiv (IntKind.u64.wrap ((IntKind.u64.wrap ((IntKind.u64.wrap (r0_2 * 6364136223846793005)) + (IntKind.u64.wrap v3))) + 1442695040888963407)) (2 ^ (min (40 : Int).toNat IntKind.u64.bits))) &&& BitVec.ofInt IntKind.u64.bits 255).toNat : Int)),(r0_0,IntKind.i64.wrap (r0_1 + 1),IntKind.u64.wrap ((IntKind.u64.wrap ((IntKind.u64.wrap (r0_2 * 6364136223846793005)) + (IntKind.u64.wrap v3))) + 1442695040888963407),())) :=
 (goL_dn _ _ _ 4000 _ _).trans (by kernel_rfl)
def spec_l00Src_pick_ir : Fn := { np := 2,io := [true,false],res := [.t 4],own := [false],body :=
 (.seq (.reg false [.V 4 (.asg (.c (.int .i64 0)))] [0,1] [0,1000]) (.seq (.seq (.reg false [.V 6 (.mv (.t 1)),.V 7 (.bin .leq (.t 6) (.c (.int .i64 1)))] [0,1,7] [0,1000]) (.cond (.t 7) (.seq (.reg false [.V 4 (.asg (.c (.int .i64 0)))] [0,4] [0,1000]) .ret) .skip)) (.seq (.reg false [.V 8 (.mv (.t 0)),.W 9 (.call (.c (.fn 847 [])) [.t 8]),.V 5 (.asg (.t 9))] [0,1,5] [0,1000]) (.seq (.seq (.reg false [.V 10 (.mv (.t 1)),.V 11 (.bin .gtr (.t 10) (.c (.int .i64 200)))] [0,1,5,11] [0,1000]) (.cond (.t 11) (.reg false [.V 12 (.mv (.t 5)),.V 13 (.bin .mul (.t 12) (.c (.int .i64 256))),.V 14 (.mv (.t 0)),.W 15 (.call (.c (.fn 847 [])) [.t 14]),.V 16 (.bin .add (.t 13) (.t 15)),.V 5 (.asg (.t 16))] [0,1,5] [0,1000]) .skip)) (.seq (.reg false [.V 17 (.mv (.t 5)),.V 18 (.mv (.t 1)),.V 19 (.bin .rem (.t 17) (.t 18)),.V 4 (.asg (.t 19))] [0,4] [0,1000]) .ret))))) }
noncomputable def spec_l00Src_pick_D : List (Nat × Callee) := [(847,spec_l00Src_next_c)]
def spec_l00Src_pick_H : List (Nat × ET) := []
noncomputable def spec_l00Src_pick_c : Callee := mkCallee spec_l00Src_pick_D spec_l00Src_pick_H spec_l00Src_pick_ir [.box T_l00Src,.d (.one (.int .i64))] [.d (.one (.int .i64))] [.box T_l00Src]
noncomputable def spec_l00Src_pick (a0 : T_l00Src.ty) (a1 : Int) : Option (Int × T_l00Src.ty) := spec_l00Src_pick_c.f (a0,a1,())
theorem spec_l00Src_pick_eq (a0 : T_l00Src.ty) (a1 : Int) : spec_l00Src_pick a0 a1 =
 if decide (a1 ≤ 1) then
  some (0,a0)
 else
  (spec_l00Src_next a0).bind fun x1 =>
   if decide (a1 > 200) then
    (spec_l00Src_next (x1.2.1,x1.2.2.1,x1.2.2.2.1,())).bind fun x2 =>
     if decide (a1 = 0) then
      none
     else
      some ((IntKind.i64.wrap ((IntKind.i64.wrap (x1.1 * 256)) + x2.1)).tmod a1,(x2.2.1,x2.2.2.1,x2.2.2.2.1,()))
   else
    if decide (a1 = 0) then
     none
    else
     some (x1.1.tmod a1,(x1.2.1,x1.2.2.1,x1.2.2.2.1,())) :=
 (mk_f _ _ _ _ _ _ _ 4000).trans (by kernel_rfl)
def spec_l00Src_one_ir : Fn := { np := 2,io := [true,false],res := [.t 4],own := [false],body :=
 (.seq (.reg false [.V 4 (.asg (.c (.bool false)))] [0,1] [0,1000]) (.seq (.reg false [.V 5 (.mv (.t 0)),.V 6 (.mv (.t 1)),.W 7 (.call (.c (.fn 463 [])) [.t 5,.t 6]),.V 8 (.bin .eql (.t 7) (.c (.int .i64 0))),.V 4 (.asg (.t 8))] [0,4] [0,1000]) .ret)) }
noncomputable def spec_l00Src_one_D : List (Nat × Callee) := [(463,spec_l00Src_pick_c)]
def spec_l00Src_one_H : List (Nat × ET) := []
noncomputable def spec_l00Src_one_c : Callee := mkCallee spec_l00Src_one_D spec_l00Src_one_H spec_l00Src_one_ir [.box T_l00Src,.d (.one (.int .i64))] [.d (.one .bool)] [.box T_l00Src]
noncomputable def spec_l00Src_one (a0 : T_l00Src.ty) (a1 : Int) : Option (Bool × T_l00Src.ty) := spec_l00Src_one_c.f (a0,a1,())
theorem spec_l00Src_one_eq (a0 : T_l00Src.ty) (a1 : Int) : spec_l00Src_one a0 a1 =
 (spec_l00Src_pick a0 a1).bind fun x1 =>
  some ((x1.1 == 0),(x1.2.1,x1.2.2.1,x1.2.2.2.1,())) :=
 (mk_f _ _ _ _ _ _ _ 4000).trans (by kernel_rfl)
def spec_l17DrawOne_k0 : C :=
 .seq (.seq (.reg false [.V 17 (.mv (.t 8)),.V 18 (.mv (.t 2)),.V 19 (.bin .lss (.t 17) (.t 18))] [0,2,6,7,8,19] [0,6,7,1000,7003,8003]) (.cond (.t 19) .skip (.exit 0))) (.seq (.block 1 (.seq (.reg false [.V 22 (.mv (.t 0)),.W 23 (.call (.c (.fn 642 [])) [.t 22,.c (.int .i64 3)])] [0,2,6,7,8,23] [0,6,7,1000,7003,8003]) (.cond (.t 23) (.reg false [.V 24 (.fa 3 (.t 7)),.V 25 (.ld none (.t 24)),.V 26 (.mv (.t 8)),.V 27 (.bsl 1 (.int .i64 0) 1 [(0,.t 26)]),.W 28 (.app 1 8 (.t 25) (.t 27)),.V 29 (.fa 3 (.t 7)),⟨none,true,.sto 1 (.t 29) (.t 28),none,false,[]⟩] [0,2,6,7,8] [0,6,7,1000,7003,8003]) .skip))) (.reg false [.V 20 (.mv (.t 8)),.V 21 (.bin .add (.t 20) (.c (.int .i64 1))),.V 8 (.asg (.t 21))] [0,2,6,7,8] [0,6,7,1000,7003,8003]))
def spec_l17DrawOne_k1 : C :=
 .norm [0,2,6,7,8] [0,6,7,1000,7003,8003] spec_l17DrawOne_k0
def spec_l17DrawOne_k2 : C :=
 .seq (.reg false [.V 30 (.ld (some 4) (.t 7)),⟨none,true,.sto 4 (.t 6) (.t 30),none,false,[]⟩] [0,6] [0,6,1000,7003]) .ret
def spec_l17DrawOne_ir : Fn := { np := 3,io := [true,false,false],res := [.cell 6 (some 4)],own := [false],body :=
 (.seq (.reg false [.W 6 (.alloc 4 (.agg [.str [],.int .i64 0,.int .i64 0,.nils 1]))] [0,1,2,6] [0,6,1000,7003]) (.seq (.reg false [.V 9 (.mv (.t 1)),.V 10 (.mv (.t 0)),.W 11 (.call (.c (.fn 463 [])) [.t 10,.c (.int .i64 12)]),.V 12 (.bin .add (.c (.int .i64 1)) (.t 11)),.V 13 (.mv (.t 0)),.W 14 (.call (.c (.fn 463 [])) [.t 13,.c (.int .i64 7)]),.V 15 (.bsl 1 (.int .i64 0) 0 []),.V 16 (.build [.str [],.int .i64 0,.int .i64 0,.nils 1] [(0,1,.t 9),(1,1,.t 12),(2,1,.t 14),(3,1,.t 15)]),.W 7 (.alloc 4 (.agg [.str [],.int .i64 0,.int .i64 0,.nils 1])),⟨none,true,.sto 4 (.t 7) (.t 16),none,false,[]⟩] [0,2,6,7] [0,6,7,1000,7003,8003]) (.seq (.seq (.reg false [.V 8 (.asg (.c (.int .i64 0)))] [0,2,6,7,8] [0,6,7,1000,7003,8003]) (.block 0 (.loop spec_l17DrawOne_k1))) spec_l17DrawOne_k2))) }
noncomputable def spec_l17DrawOne_D : List (Nat × Callee) := [(463,spec_l00Src_pick_c),(642,spec_l00Src_one_c)]
def spec_l17DrawOne_H : List (Nat × ET) := [(15,(.one (.int .i64))),(25,(.one (.int .i64))),(27,(.one (.int .i64))),(28,(.one (.int .i64)))]
noncomputable def spec_l17DrawOne_c : Callee := mkCallee spec_l17DrawOne_D spec_l17DrawOne_H spec_l17DrawOne_ir [.box T_l00Src,.d (.one .str),.d (.one (.int .i64))] [.d T_Step] [.box T_l00Src]
noncomputable def spec_l17DrawOne (a0 : T_l00Src.ty) (a1 : List UInt8) (a2 : Int) : Option (T_Step.ty × T_l00Src.ty) := spec_l17DrawOne_c.f (a0,a1,a2,())
noncomputable def spec_l17DrawOne_p0  (v2 : Int) (v8 : Int) (r0_0 : List Int) (r0_1 : Int) (r0_2 : Int) (r6_0 : List UInt8) (r6_1 : Int) (r6_2 : Int) (r7_0 : List UInt8) (r7_1 : Int) (r7_2 : Int) (r8003 : List Int) : Option (T_Step.ty × T_l00Src.ty) :=
 goL spec_l17DrawOne_D spec_l17DrawOne_H (vleave spec_l17DrawOne_ir [.box T_l00Src,.d (.one .str),.d (.one (.int .i64))] [.d T_Step] [.box T_l00Src] []) [.c spec_l17DrawOne_k0,.l spec_l17DrawOne_k1,.e 0,.c spec_l17DrawOne_k2]
  ⟨[(0,.loc 0 0 0),(2,.int .i64 v2),(6,.loc 6 0 0),(7,.loc 7 0 0),(8,.int .i64 v8)],[(0,some (.var 3 (.agg [.sl (.one (.int .u8)) r0_0,.int .i64 r0_1,.int .u64 r0_2]))),(6,some (.var 4 (.agg [.str r6_0,.int .i64 r6_1,.int .i64 r6_2,.nils 1]))),(7,some (.var 4 (.agg [.str r7_0,.int .i64 r7_1,.int .i64 r7_2,.view 8003 0 r8003.length]))),(1000,none),(7003,none),(8003,some (.sl (.one (.int .i64)) r8003))]⟩
theorem spec_l17DrawOne_eq (a0 : T_l00Src.ty) (a1 : List UInt8) (a2 : Int) : spec_l17DrawOne a0 a1 a2 =
 (spec_l00Src_pick a0 12).bind fun x1 =>
  (spec_l00Src_pick (x1.2.1,x1.2.2.1,x1.2.2.2.1,()) 7).bind fun x2 =>
   spec_l17DrawOne_p0 a2 0 x2.2.1 x2.2.2.1 x2.2.2.2.1 [] 0 0 a1 (IntKind.i64.wrap (1 + x1.1)) x2.1 [] :=
 (mk_f _ _ _ _ _ _ _ 4000).trans (by kernel_rfl)
theorem spec_l17DrawOne_p0_eq  (v2 : Int) (v8 : Int) (r0_0 : List Int) (r0_1 : Int) (r0_2 : Int) (r6_0 : List UInt8) (r6_1 : Int) (r6_2 : Int) (r7_0 : List UInt8) (r7_1 : Int) (r7_2 : Int) (r8003 : List Int) : spec_l17DrawOne_p0 v2 v8 r0_0 r0_1 r0_2 r6_0 r6_1 r6_2 r7_0 r7_1 r7_2 r8003 =
 if decide (v8 < v2) then
  (spec_l00Src_one (r0_0,r0_1,r0_2,()) 3).bind fun x1 =>
   if x1.1 then
    if decide (r8003.length + 1 < lim) then
     spec_l17DrawOne_p0 v2 (IntKind.i64.wrap (v8 + 1)) x1.2.1 x1.2.2.1 x1.2.2.2.1 r6_0 r6_1 r6_2 r7_0 r7_1 r7_2 ((r8003.take r8003.length) ++ [v8])
    else
     none
   else
    spec_l17DrawOne_p0 v2 (IntKind.i64.wrap (v8 + 1)) x1.2.1 x1.2.2.1 x1.2.2.2.1 r6_0 r6_1 r6_2 r7_0 r7_1 r7_2 r8003
 else
  some ((r7_0,r7_1,r7_2,(r8003.take r8003.length),()),(r0_0,r0_1,r0_2,())) :=
 (goL_dn _ _ _ 4000 _ _).trans (by kernel_rfl)
def spec_l17Draw_k0 : C :=
 .seq (.seq (.reg false [.V 8 (.mv (.t 5)),.V 9 (.mv (.t 3)),.V 10 (.len (.t 9)),.V 11 (.bin .lss (.t 8) (.t 10))] [0,3,4,5,11] [0,3,4,1000]) (.cond (.t 11) .skip (.exit 0))) (.seq (.block 1 (.seq (.reg false [.V 14 (.mv (.t 0)),.W 15 (.call (.c (.fn 463 [])) [.t 14,.c (.int .i64 3)]),.V 16 (.bin .gtr (.t 15) (.c (.int .i64 0)))] [0,3,4,5,16] [0,3,4,1000]) (.cond (.t 16) (.reg false [.V 17 (.mv (.t 4)),.V 18 (.mv (.t 0)),.V 19 (.mv (.t 3)),.V 20 (.mv (.t 5)),.V 21 (.ia 1 (.t 19) (.t 20)),.V 22 (.ld none (.t 21)),.V 23 (.mv (.t 4)),.V 24 (.len (.t 23)),.W 25 (.call (.c (.fn 845 [])) [.t 18,.t 22,.t 24]),.V 26 (.bsl 4 (.agg [.str [],.int .i64 0,.int .i64 0,.sl 1 []]) 1 [(0,.t 25)]),.W 27 (.app 4 56 (.t 17) (.t 26)),.W 4 (.asg (.t 27))] [0,3,4,5] [0,3,4,1000]) .skip))) (.reg false [.V 12 (.mv (.t 5)),.V 13 (.bin .add (.t 12) (.c (.int .i64 1))),.V 5 (.asg (.t 13))] [0,3,4,5] [0,3,4,1000]))
def spec_l17Draw_k1 : C :=
 .norm [0,3,4,5] [0,3,4,1000] spec_l17Draw_k0
def spec_l17Draw_k2 : C :=
 .seq (.reg false [.V 28 (.mv (.t 4)),.W 2 (.asg (.t 28))] [0,2] [0,2,4,1000]) .ret
def spec_l17Draw_ir : Fn := { np := 1,io := [true],res := [.t 2],own := [false],body :=
 (.seq (.reg false [.W 2 (.asg (.c (.nils 4)))] [0] [0,1000]) (.seq (.reg false [.V 6 (.bsl 1 (.str []) 6 [(0,.c (.str [111,112,101,110])),(1,.c (.str [99,108,101,97,110])),(2,.c (.str [103,108,117,101])),(3,.c (.str [112,97,116,99,104])),(4,.c (.str [99,108,111,115,101])),(5,.c (.str [112,111,108,105,115,104]))]),.W 3 (.asg (.t 6))] [0,3] [0,3,1000]) (.seq (.reg false [.V 7 (.bsl 4 (.agg [.str [],.int .i64 0,.int .i64 0,.sl 1 []]) 0 []),.W 4 (.asg (.t 7))] [0,3,4] [0,3,4,1000]) (.seq (.seq (.reg false [.V 5 (.asg (.c (.int .i64 0)))] [0,3,4,5] [0,3,4,1000]) (.block 0 (.loop spec_l17Draw_k1))) spec_l17Draw_k2)))) }
noncomputable def spec_l17Draw_D : List (Nat × Callee) := [(463,spec_l00Src_pick_c),(845,spec_l17DrawOne_c)]
def spec_l17Draw_H : List (Nat × ET) := [(2,T_Step),(3,(.one .str)),(4,T_Step),(6,(.one .str)),(7,T_Step),(9,(.one .str)),(17,T_Step),(19,(.one .str)),(23,T_Step),(26,T_Step),(27,T_Step),(28,T_Step)]
noncomputable def spec_l17Draw_c : Callee := mkCallee spec_l17Draw_D spec_l17Draw_H spec_l17Draw_ir [.box T_l00Src] [.d (.one (.sl T_Step))] [.box T_l00Src]
noncomputable def spec_l17Draw (a0 : T_l00Src.ty) : Option (List T_Step.ty × T_l00Src.ty) := spec_l17Draw_c.f (a0,())
noncomputable def spec_l17Draw_p0  (v5 : Int) (r0_0 : List Int) (r0_1 : Int) (r0_2 : Int) (r3 : List (List UInt8)) (r4 : List T_Step.ty) : Option (List T_Step.ty × T_l00Src.ty) :=
 goL spec_l17Draw_D spec_l17Draw_H (vleave spec_l17Draw_ir [.box T_l00Src] [.d (.one (.sl T_Step))] [.box T_l00Src] []) [.c spec_l17Draw_k0,.l spec_l17Draw_k1,.e 0,.c spec_l17Draw_k2]
  ⟨[(0,.loc 0 0 0),(3,.view 3 0 r3.length),(4,.view 4 0 r4.length),(5,.int .i64 v5)],[(0,some (.var 3 (.agg [.sl (.one (.int .u8)) r0_0,.int .i64 r0_1,.int .u64 r0_2]))),(3,some (.sl (.one .str) r3)),(4,some (.sl T_Step r4)),(1000,none)]⟩
theorem spec_l17Draw_eq (a0 : T_l00Src.ty) : spec_l17Draw a0 =
 spec_l17Draw_p0 0 a0.1 a0.2.1 a0.2.2.1 [[111,112,101,110],[99,108,101,97,110],[103,108,117,101],[112,97,116,99,104],[99,108,111,115,101],[112,111,108,105,115,104]] [] :=
 (mk_f _ _ _ _ _ _ _ 4000).trans (by kernel_rfl)
theorem spec_l17Draw_p0_eq  (v5 : Int) (r0_0 : List Int) (r0_1 : Int) (r0_2 : Int) (r3 : List (List UInt8)) (r4 : List T_Step.ty) : spec_l17Draw_p0 v5 r0_0 r0_1 r0_2 r3 r4 =
 if decide (v5 < (r3.length : Int)) then
  (spec_l00Src_pick (r0_0,r0_1,r0_2,()) 3).bind fun x1 =>
   if decide (x1.1 > 0) then
    if decide (0 ≤ v5) && decide (v5 < (r3.length : Int)) then
     (r3[v5.toNat]?).bind fun x2 =>
      (spec_l17DrawOne (x1.2.1,x1.2.2.1,x1.2.2.2.1,()) x2 (r4.length : Int)).bind fun x3 =>
       if decide (r4.length + 1 < lim) then
        spec_l17Draw_p0 (IntKind.i64.wrap (v5 + 1)) x3.2.1 x3.2.2.1 x3.2.2.2.1 r3 ((r4.take r4.length) ++ [(x3.1.1,x3.1.2.1,x3.1.2.2.1,x3.1.2.2.2.1,())])
       else
        none
    else
     none
   else
    spec_l17Draw_p0 (IntKind.i64.wrap (v5 + 1)) x1.2.1 x1.2.2.1 x1.2.2.2.1 r3 r4
 else
  some ((r4.take r4.length),(r0_0,r0_1,r0_2,())) :=
 (goL_dn _ _ _ 4000 _ _).trans (by kernel_rfl)
def spec_R8Steps_ir : Fn := { np := 1,io := [],res := [.t 2],own := [false],body :=
 (.seq (.reg false [.W 2 (.asg (.c (.nils 4)))] [0] []) (.seq (.reg false [.V 4 (.mv (.t 0)),.W 5 (.call (.c (.fn 441 [])) [.t 4]),.V 3 (.asg (.t 5))] [3] [5,6000]) (.seq (.reg false [.V 6 (.mv (.t 3)),.W 7 (.call (.c (.fn 453 [])) [.t 6]),.W 2 (.asg (.t 7))] [2] [2]) .ret))) }
noncomputable def spec_R8Steps_D : List (Nat × Callee) := [(441,spec_l00From_c),(453,spec_l17Draw_c)]
def spec_R8Steps_H : List (Nat × ET) := [(2,T_Step),(4,(.one (.int .u8))),(7,T_Step)]
noncomputable def spec_R8Steps_c : Callee := mkCallee spec_R8Steps_D spec_R8Steps_H spec_R8Steps_ir [.d (.one (.sl (.one (.int .u8))))] [.d (.one (.sl T_Step))] []
noncomputable def spec_R8Steps (a0 : List Int) : Option (List T_Step.ty) := spec_R8Steps_c.f (a0,())
theorem spec_R8Steps_eq (a0 : List Int) : spec_R8Steps a0 =
 (spec_l00From a0).bind fun x1 =>
  (spec_l17Draw x1).bind fun x2 =>
   some x2.1 :=
 (mk_f _ _ _ _ _ _ _ 4000).trans (by kernel_rfl)
def laws_r8At_k0 : C :=
 .seq (.reg false [.V 15 (.mv (.t 0)),.V 16 (.mv (.t 1)),.V 17 (.ia 1 (.t 15) (.t 16)),.V 18 (.ld none (.t 17)),.V 19 (.conv (.int .i64) (.t 18)),.V 20 (.mv (.t 2)),.V 21 (.bin .rem (.t 19) (.t 20)),.V 6 (.asg (.t 21))] [6] []) .ret
def laws_r8At_ir : Fn := { np := 3,io := [],res := [.t 6],own := [false],body :=
 (.seq (.reg false [.V 6 (.asg (.c (.int .i64 0)))] [0,1,2] []) (.seq (.seq (.reg false [.V 7 (.mv (.t 2)),.V 8 (.bin .leq (.t 7) (.c (.int .i64 1))),.V 9 (.mv (.t 8)),.G 10 (.mv (.t 1)) 2 false,.G 11 (.mv (.t 0)) 2 false,.G 12 (.len (.t 11)) 2 false,.G 13 (.bin .geq (.t 10) (.t 12)) 2 false,.V 14 (.pick (.t 9) (.c (.bool true)) (.t 13))] [0,1,2,14] []) (.cond (.t 14) (.seq (.reg false [.V 6 (.asg (.c (.int .i64 0)))] [6] []) .ret) .skip)) (.norm [0,1,2] [] laws_r8At_k0))) }
noncomputable def laws_r8At_D : List (Nat × Callee) := []
def laws_r8At_H : List (Nat × ET) := [(11,(.one (.int .u8))),(15,(.one (.int .u8)))]
noncomputable def laws_r8At_c : Callee := mkCallee laws_r8At_D laws_r8At_H laws_r8At_ir [.d (.one (.sl (.one (.int .u8)))),.d (.one (.int .i64)),.d (.one (.int .i64))] [.d (.one (.int .i64))] []
noncomputable def laws_r8At (a0 : List Int) (a1 : Int) (a2 : Int) : Option (Int) := laws_r8At_c.f (a0,a1,a2,())
noncomputable def laws_r8At_p0  (v0 : List Int) (v1 : Int) (v2 : Int) : Option (Int) :=
 goL laws_r8At_D laws_r8At_H (vleave laws_r8At_ir [.d (.one (.sl (.one (.int .u8)))),.d (.one (.int .i64)),.d (.one (.int .i64))] [.d (.one (.int .i64))] [] []) [.c laws_r8At_k0]
  ⟨[(0,.sl (.one (.int .u8)) v0),(1,.int .i64 v1),(2,.int .i64 v2)],[]⟩
theorem laws_r8At_eq (a0 : List Int) (a1 : Int) (a2 : Int) : laws_r8At a0 a1 a2 =
 if decide (a2 ≤ 1) then
  some 0
 else
  if decide (a1 ≥ (a0.length : Int)) then
   some 0
  else
   laws_r8At_p0 a0 a1 a2 :=
 (mk_f _ _ _ _ _ _ _ 4000).trans (by kernel_rfl)
theorem laws_r8At_p0_eq  (v0 : List Int) (v1 : Int) (v2 : Int) : laws_r8At_p0 v0 v1 v2 =
 if decide (0 ≤ v1) then
  (v0[v1.toNat]?).bind fun x1 =>
   if decide (v2 = 0) then
    none
   else
    some ((IntKind.i64.wrap x1).tmod v2)
 else
  none :=
 (goL_dn _ _ _ 4000 _ _).trans (by kernel_rfl)
def impl_within_ir : Fn := { np := 3,io := [],res := [.t 6],own := [false],body :=
 (.seq (.reg false [.V 6 (.asg (.c (.bool false)))] [0,1,2] []) (.seq (.reg false [.V 7 (.mv (.t 1)),.V 8 (.mv (.t 0)),.V 9 (.bin .leq (.t 7) (.t 8)),.V 10 (.mv (.t 9)),.G 11 (.mv (.t 0)) 3 true,.G 12 (.mv (.t 2)) 3 true,.G 13 (.bin .leq (.t 11) (.t 12)) 3 true,.V 14 (.pick (.t 10) (.t 13) (.c (.bool false))),.V 6 (.asg (.t 14))] [6] []) .ret)) }
noncomputable def impl_within_D : List (Nat × Callee) := []
def impl_within_H : List (Nat × ET) := []
noncomputable def impl_within_c : Callee := mkCallee impl_within_D impl_within_H impl_within_ir [.d (.one (.int .i64)),.d (.one (.int .i64)),.d (.one (.int .i64))] [.d (.one .bool)] []
noncomputable def impl_within (a0 : Int) (a1 : Int) (a2 : Int) : Option (Bool) := impl_within_c.f (a0,a1,a2,())
theorem impl_within_eq (a0 : Int) (a1 : Int) (a2 : Int) : impl_within a0 a1 a2 =
 if decide (a1 ≤ a0) then
  some (decide (a0 ≤ a2))
 else
  some false :=
 (mk_f _ _ _ _ _ _ _ 4000).trans (by kernel_rfl)
def impl_isDigit_ir : Fn := { np := 1,io := [],res := [.t 2],own := [false],body :=
 (.seq (.reg false [.V 2 (.asg (.c (.bool false)))] [0] []) (.seq (.reg false [.V 3 (.mv (.t 0)),.V 4 (.bin .geq (.t 3) (.c (.int .u8 48))),.V 5 (.mv (.t 4)),.G 6 (.mv (.t 0)) 2 true,.G 7 (.bin .leq (.t 6) (.c (.int .u8 57))) 2 true,.V 8 (.pick (.t 5) (.t 7) (.c (.bool false))),.V 2 (.asg (.t 8))] [2] []) .ret)) }
noncomputable def impl_isDigit_D : List (Nat × Callee) := []
def impl_isDigit_H : List (Nat × ET) := []
noncomputable def impl_isDigit_c : Callee := mkCallee impl_isDigit_D impl_isDigit_H impl_isDigit_ir [.d (.one (.int .u8))] [.d (.one .bool)] []
noncomputable def impl_isDigit (a0 : Int) : Option (Bool) := impl_isDigit_c.f (a0,())
theorem impl_isDigit_eq (a0 : Int) : impl_isDigit a0 =
 if decide (a0 ≥ 48) then
  some (decide (a0 ≤ 57))
 else
  some false :=
 (mk_f _ _ _ _ _ _ _ 4000).trans (by kernel_rfl)
def impl_few_ir : Fn := { np := 2,io := [],res := [.t 4],own := [false],body :=
 (.seq (.reg false [.V 4 (.asg (.c (.bool false)))] [0,1] []) (.seq (.reg false [.V 5 (.mv (.t 0)),.V 6 (.mv (.t 1)),.V 7 (.bin .leq (.t 5) (.t 6)),.V 4 (.asg (.t 7))] [4] []) .ret)) }
noncomputable def impl_few_D : List (Nat × Callee) := []
def impl_few_H : List (Nat × ET) := []
noncomputable def impl_few_c : Callee := mkCallee impl_few_D impl_few_H impl_few_ir [.d (.one (.int .i64)),.d (.one (.int .i64))] [.d (.one .bool)] []
noncomputable def impl_few (a0 : Int) (a1 : Int) : Option (Bool) := impl_few_c.f (a0,a1,())
theorem impl_few_eq (a0 : Int) (a1 : Int) : impl_few a0 a1 =
 some (decide (a0 ≤ a1)) :=
 (mk_f _ _ _ _ _ _ _ 4000).trans (by kernel_rfl)
def impl_IsName_k0 : C :=
 .seq (.reg false [.V 21 (.mv (.t 4)),.V 22 (.un .not (.t 21)),.V 23 (.mv (.t 22)),.G 24 (.mv (.t 3)) 2 true,.G 25 (.bin .eql (.t 24) (.c (.int .i64 0))) 2 true,.G 26 (.mv (.t 25)) 2 true,.G 27 (.mv (.t 0)) 5 false,.G 28 (.mv (.t 3)) 5 false,.G 29 (.ix (.t 27) (.t 28)) 5 false,.G 30 (.call (.c (.fn 22 [])) [.t 29]) 5 false,.G 31 (.un .not (.t 30)) 5 false,.G 32 (.pick (.t 26) (.c (.bool true)) (.t 31)) 2 true,.V 33 (.pick (.t 23) (.t 32) (.c (.bool false)))] [0,3,33] []) (.cond (.t 33) (.seq (.reg false [.V 2 (.asg (.c (.bool false)))] [2] []) .ret) .skip)
def impl_IsName_k1 : C :=
 .reg false [.V 9 (.mv (.t 3)),.V 10 (.bin .add (.t 9) (.c (.int .i64 1))),.V 3 (.asg (.t 10))] [0,3] []
def impl_IsName_k2 : C :=
 .seq (.seq (.reg false [.V 5 (.mv (.t 3)),.V 6 (.mv (.t 0)),.V 7 (.lens (.t 6)),.V 8 (.bin .lss (.t 5) (.t 7))] [0,3,8] []) (.cond (.t 8) .skip (.exit 0))) (.seq (.block 1 (.seq (.reg false [.V 11 (.mv (.t 0)),.V 12 (.mv (.t 3)),.V 13 (.ix (.t 11) (.t 12)),.V 14 (.bin .geq (.t 13) (.c (.int .u8 97))),.V 15 (.mv (.t 14)),.G 16 (.mv (.t 0)) 4 true,.G 17 (.mv (.t 3)) 4 true,.G 18 (.ix (.t 16) (.t 17)) 4 true,.G 19 (.bin .leq (.t 18) (.c (.int .u8 122))) 4 true,.V 20 (.pick (.t 15) (.t 19) (.c (.bool false))),.V 4 (.asg (.t 20))] [0,3,4] []) (.norm [0,3,4] [] impl_IsName_k0))) impl_IsName_k1)
def impl_IsName_k3 : C :=
 .norm [0,3] [] impl_IsName_k2
def impl_IsName_k4 : C :=
 .seq (.reg false [.V 34 (.mv (.t 0)),.V 35 (.bin .neq (.t 34) (.c (.str []))),.V 36 (.mv (.t 35)),.G 37 (.mv (.t 0)) 2 true,.G 38 (.lens (.t 37)) 2 true,.G 39 (.call (.c (.fn 21 [])) [.t 38,.c (.int .i64 10)]) 2 true,.V 40 (.pick (.t 36) (.t 39) (.c (.bool false))),.V 2 (.asg (.t 40))] [2] []) .ret
def impl_IsName_ir : Fn := { np := 1,io := [],res := [.t 2],own := [false],body :=
 (.seq (.reg false [.V 2 (.asg (.c (.bool false)))] [0] []) (.seq (.seq (.reg false [.V 3 (.asg (.c (.int .i64 0)))] [0,3] []) (.block 0 (.loop impl_IsName_k3))) impl_IsName_k4)) }
noncomputable def impl_IsName_D : List (Nat × Callee) := [(21,impl_few_c),(22,impl_isDigit_c)]
def impl_IsName_H : List (Nat × ET) := []
noncomputable def impl_IsName_c : Callee := mkCallee impl_IsName_D impl_IsName_H impl_IsName_ir [.d (.one .str)] [.d (.one .bool)] []
noncomputable def impl_IsName (a0 : List UInt8) : Option (Bool) := impl_IsName_c.f (a0,())
noncomputable def impl_IsName_p0  (v0 : List UInt8) (v3 : Int) : Option (Bool) :=
 goL impl_IsName_D impl_IsName_H (vleave impl_IsName_ir [.d (.one .str)] [.d (.one .bool)] [] []) [.c impl_IsName_k2,.l impl_IsName_k3,.e 0,.c impl_IsName_k4]
  ⟨[(0,.str v0),(3,.int .i64 v3)],[]⟩
noncomputable def impl_IsName_p1  (v0 : List UInt8) (v3 : Int) (v4 : Bool) : Option (Bool) :=
 goL impl_IsName_D impl_IsName_H (vleave impl_IsName_ir [.d (.one .str)] [.d (.one .bool)] [] []) [.c impl_IsName_k0,.e 1,.c impl_IsName_k1,.l impl_IsName_k3,.e 0,.c impl_IsName_k4]
  ⟨[(0,.str v0),(3,.int .i64 v3),(4,.bool v4)],[]⟩
theorem impl_IsName_eq (a0 : List UInt8) : impl_IsName a0 =
 impl_IsName_p0 a0 0 :=
 (mk_f _ _ _ _ _ _ _ 4000).trans (by kernel_rfl)
theorem impl_IsName_p0_eq  (v0 : List UInt8) (v3 : Int) : impl_IsName_p0 v0 v3 =
 if decide (v3 < (v0.length : Int)) then
  if decide (0 ≤ v3) then
   (v0[v3.toNat]?).bind fun x1 =>
    if decide ((x1.toNat : Int) ≥ 97) then
     if decide (0 ≤ v3) then
      (v0[v3.toNat]?).bind fun x2 =>
       impl_IsName_p1 v0 v3 (decide ((x2.toNat : Int) ≤ 122))
     else
      none
    else
     impl_IsName_p1 v0 v3 false
  else
   none
 else
  if (!(v0 == [])) then
   (impl_few (v0.length : Int) 10).bind fun x3 =>
    some x3
  else
   some false :=
 (goL_dn _ _ _ 4000 _ _).trans (by kernel_rfl)
theorem impl_IsName_p1_eq  (v0 : List UInt8) (v3 : Int) (v4 : Bool) : impl_IsName_p1 v0 v3 v4 =
 if (!v4) then
  if (v3 == 0) then
   some false
  else
   if decide (0 ≤ v3) then
    (v0[v3.toNat]?).bind fun x1 =>
     (impl_isDigit (x1.toNat : Int)).bind fun x2 =>
      if (!x2) then
       some false
      else
       impl_IsName_p0 v0 (IntKind.i64.wrap (v3 + 1))
   else
    none
 else
  impl_IsName_p0 v0 (IntKind.i64.wrap (v3 + 1)) :=
 (goL_dn _ _ _ 4000 _ _).trans (by kernel_rfl)
def impl_Step_valid_k0 : C :=
 .seq (.reg false [.V 9 (.bin .lss (.t 8) (.t 7))] [1,6,7,8,9] [1,2003]) (.seq (.cond (.t 9) .skip (.exit 0)) (.seq (.block 1 (.seq (.reg false [.V 10 (.mv (.t 8)),.V 11 (.ia 1 (.t 6) (.t 8)),.V 12 (.ld none (.t 11)),.V 3 (.asg (.t 10)),.V 4 (.asg (.t 12))] [1,3,4,6,7,8] [1,2003]) (.seq (.reg false [.V 13 (.mv (.t 4)),.V 14 (.call (.c (.fn 23 [])) [.t 13,.c (.int .i64 0),.c (.int .i64 11)]),.V 15 (.un .not (.t 14)),.V 16 (.mv (.t 15)),.G 17 (.mv (.t 3)) 3 false,.G 18 (.bin .gtr (.t 17) (.c (.int .i64 0))) 3 false,.G 19 (.mv (.t 18)) 3 false,.G 20 (.fa 3 (.t 1)) 6 true,.G 21 (.ld none (.t 20)) 6 true,.G 22 (.mv (.t 3)) 6 true,.G 23 (.bin .sub (.t 22) (.c (.int .i64 1))) 6 true,.G 24 (.ia 1 (.t 21) (.t 23)) 6 true,.G 25 (.ld none (.t 24)) 6 true,.G 26 (.mv (.t 4)) 6 true,.G 27 (.bin .geq (.t 25) (.t 26)) 6 true,.G 28 (.pick (.t 19) (.t 27) (.c (.bool false))) 3 false,.V 29 (.pick (.t 16) (.c (.bool true)) (.t 28))] [1,6,7,8,29] [1,2003]) (.cond (.t 29) (.seq (.reg false [.V 2 (.asg (.c (.bool false)))] [2] []) .ret) .skip)))) (.reg false [.V 30 (.bin .add (.t 8) (.c (.int .i64 1))),.V 8 (.mv (.t 30))] [1,6,7,8] [1,2003])))
def impl_Step_valid_k1 : C :=
 .norm [1,6,7,8] [1,2003] impl_Step_valid_k0
def impl_Step_valid_k2 : C :=
 .seq (.reg false [.V 31 (.fa 0 (.t 1)),.V 32 (.ld none (.t 31)),.V 33 (.call (.c (.fn 24 [])) [.t 32]),.V 34 (.mv (.t 33)),.G 35 (.fa 1 (.t 1)) 3 true,.G 36 (.ld none (.t 35)) 3 true,.G 37 (.call (.c (.fn 23 [])) [.t 36,.c (.int .i64 1),.c (.int .i64 200)]) 3 true,.V 38 (.pick (.t 34) (.t 37) (.c (.bool false))),.V 39 (.mv (.t 38)),.G 40 (.fa 2 (.t 1)) 8 true,.G 41 (.ld none (.t 40)) 8 true,.G 42 (.call (.c (.fn 23 [])) [.t 41,.c (.int .i64 0),.c (.int .i64 20)]) 8 true,.V 43 (.pick (.t 39) (.t 42) (.c (.bool false))),.V 2 (.asg (.t 43))] [2] []) .ret
def impl_Step_valid_ir : Fn := { np := 1,io := [],res := [.t 2],own := [false],body :=
 (.seq (.reg false [.W 1 (.box 4 (.t 0)),.V 2 (.asg (.c (.bool false)))] [1] [1,2003]) (.seq (.seq (.reg false [.V 5 (.fa 3 (.t 1)),.V 6 (.ld none (.t 5)),.V 7 (.len (.t 6)),.V 8 (.mv (.c (.int .i64 0)))] [1,6,7,8] [1,2003]) (.block 0 (.loop impl_Step_valid_k1))) impl_Step_valid_k2)) }
noncomputable def impl_Step_valid_D : List (Nat × Callee) := [(23,impl_within_c),(24,impl_IsName_c)]
def impl_Step_valid_H : List (Nat × ET) := [(6,(.one (.int .i64))),(21,(.one (.int .i64)))]
noncomputable def impl_Step_valid_c : Callee := mkCallee impl_Step_valid_D impl_Step_valid_H impl_Step_valid_ir [.d T_Step] [.d (.one .bool)] []
noncomputable def impl_Step_valid (a0 : T_Step.ty) : Option (Bool) := impl_Step_valid_c.f (a0,())
noncomputable def impl_Step_valid_p0  (v6 : List Int) (v7 : Int) (v8 : Int) (r1_0 : List UInt8) (r1_1 : Int) (r1_2 : Int) (r1_3 : List Int) : Option (Bool) :=
 goL impl_Step_valid_D impl_Step_valid_H (vleave impl_Step_valid_ir [.d T_Step] [.d (.one .bool)] [] []) [.c impl_Step_valid_k0,.l impl_Step_valid_k1,.e 0,.c impl_Step_valid_k2]
  ⟨[(1,.loc 1 0 0),(6,.sl (.one (.int .i64)) v6),(7,.int .i64 v7),(8,.int .i64 v8)],[(1,some (.var 4 (.agg [.str r1_0,.int .i64 r1_1,.int .i64 r1_2,.sl (.one (.int .i64)) r1_3]))),(2003,none)]⟩
theorem impl_Step_valid_eq (a0 : T_Step.ty) : impl_Step_valid a0 =
 impl_Step_valid_p0 a0.2.2.2.1 (a0.2.2.2.1.length : Int) 0 a0.1 a0.2.1 a0.2.2.1 a0.2.2.2.1 :=
 (mk_f _ _ _ _ _ _ _ 4000).trans (by kernel_rfl)
theorem impl_Step_valid_p0_eq  (v6 : List Int) (v7 : Int) (v8 : Int) (r1_0 : List UInt8) (r1_1 : Int) (r1_2 : Int) (r1_3 : List Int) : impl_Step_valid_p0 v6 v7 v8 r1_0 r1_1 r1_2 r1_3 =
 if decide (v8 < v7) then
  if decide (0 ≤ v8) then
   (v6[v8.toNat]?).bind fun x1 =>
    (impl_within x1 0 11).bind fun x2 =>
     if (!x2) then
      some false
     else
      if decide (v8 > 0) then
       if decide (0 ≤ IntKind.i64.wrap (v8 - 1)) then
        (r1_3[(IntKind.i64.wrap (v8 - 1)).toNat]?).bind fun x3 =>
         if decide (x3 ≥ x1) then
          some false
         else
          impl_Step_valid_p0 v6 v7 (IntKind.i64.wrap (v8 + 1)) r1_0 r1_1 r1_2 r1_3
       else
        none
      else
       impl_Step_valid_p0 v6 v7 (IntKind.i64.wrap (v8 + 1)) r1_0 r1_1 r1_2 r1_3
  else
   none
 else
  (impl_IsName r1_0).bind fun x4 =>
   if x4 then
    (impl_within r1_1 1 200).bind fun x5 =>
     if x5 then
      (impl_within r1_2 0 20).bind fun x6 =>
       some x6
     else
      some false
   else
    some false :=
 (goL_dn _ _ _ 4000 _ _).trans (by kernel_rfl)
noncomputable def impl_ValidSteps_c : Callee := validStepsC impl_Step_valid impl_few
noncomputable def impl_ValidSteps (a0 : List T_Step.ty) : Option (Bool) := impl_ValidSteps_c.f (a0,())
theorem impl_ValidSteps_eq (a0 : List T_Step.ty) : impl_ValidSteps a0 = vsF impl_Step_valid impl_few a0 := rfl
def impl_isClamps_ir : Fn := { np := 1,io := [],res := [.t 2],own := [false],body :=
 (.seq (.reg false [.V 2 (.asg (.c (.bool false)))] [0] []) (.seq (.reg false [.V 3 (.mv (.t 0)),.V 4 (.call (.c (.fn 23 [])) [.t 3,.c (.int .i64 0),.c (.int .i64 240)]),.V 2 (.asg (.t 4))] [2] []) .ret)) }
noncomputable def impl_isClamps_D : List (Nat × Callee) := [(23,impl_within_c)]
def impl_isClamps_H : List (Nat × ET) := []
noncomputable def impl_isClamps_c : Callee := mkCallee impl_isClamps_D impl_isClamps_H impl_isClamps_ir [.d (.one (.int .i64))] [.d (.one .bool)] []
noncomputable def impl_isClamps (a0 : Int) : Option (Bool) := impl_isClamps_c.f (a0,())
theorem impl_isClamps_eq (a0 : Int) : impl_isClamps a0 =
 (impl_within a0 0 240).bind fun x1 =>
  some x1 :=
 (mk_f _ _ _ _ _ _ _ 4000).trans (by kernel_rfl)
def impl_ready_k0 : C :=
 .seq (.reg false [.V 17 (.bin .lss (.t 16) (.t 15))] [0,1,7,14,15,16,17] []) (.seq (.cond (.t 17) .skip (.exit 0)) (.seq (.block 1 (.seq (.reg false [.V 18 (.ia 1 (.t 14) (.t 16)),.V 19 (.ld none (.t 18)),.V 9 (.asg (.t 19))] [0,1,7,9,14,15,16] []) (.reg true [.V 20 (.mv (.t 7)),.V 21 (.mv (.t 1)),.V 22 (.mv (.t 9)),.V 23 (.ia 1 (.t 21) (.t 22)),.V 24 (.ld none (.t 23)),.V 25 (.mv (.t 0)),.V 26 (.mv (.t 9)),.V 27 (.ia 4 (.t 25) (.t 26)),.V 28 (.fa 1 (.t 27)),.V 29 (.ld none (.t 28)),.V 30 (.bin .add (.t 24) (.t 29)),.V 31 (.max [.t 20,.t 30]),.V 7 (.asg (.t 31))] [0,1,7,14,15,16] []))) (.reg false [.V 32 (.bin .add (.t 16) (.c (.int .i64 1))),.V 16 (.mv (.t 32))] [0,1,7,14,15,16] [])))
def impl_ready_k1 : C :=
 .norm [0,1,7,14,15,16] [] impl_ready_k0
def impl_ready_k2 : C :=
 .seq (.reg false [.V 33 (.mv (.t 7)),.V 6 (.asg (.t 33))] [6] []) .ret
def impl_ready_ir : Fn := { np := 3,io := [],res := [.t 6],own := [false],body :=
 (.seq (.reg false [.V 6 (.asg (.c (.int .i64 0)))] [0,1,2] []) (.seq (.reg false [.V 7 (.asg (.c (.int .i64 0)))] [0,1,2,7] []) (.seq (.seq (.reg false [.V 10 (.mv (.t 0)),.V 11 (.mv (.t 2)),.V 12 (.ia 4 (.t 10) (.t 11)),.V 13 (.fa 3 (.t 12)),.V 14 (.ld none (.t 13)),.V 15 (.len (.t 14)),.V 16 (.mv (.c (.int .i64 0)))] [0,1,7,14,15,16] []) (.block 0 (.loop impl_ready_k1))) impl_ready_k2))) }
noncomputable def impl_ready_D : List (Nat × Callee) := []
def impl_ready_H : List (Nat × ET) := [(10,T_Step),(14,(.one (.int .i64))),(21,(.one (.int .i64))),(25,T_Step)]
noncomputable def impl_ready_c : Callee := mkCallee impl_ready_D impl_ready_H impl_ready_ir [.d (.one (.sl T_Step)),.d (.one (.sl (.one (.int .i64)))),.d (.one (.int .i64))] [.d (.one (.int .i64))] []
noncomputable def impl_ready (a0 : List T_Step.ty) (a1 : List Int) (a2 : Int) : Option (Int) := impl_ready_c.f (a0,a1,a2,())
noncomputable def impl_ready_p0  (v0 : List T_Step.ty) (v1 : List Int) (v7 : Int) (v14 : List Int) (v15 : Int) (v16 : Int) : Option (Int) :=
 goL impl_ready_D impl_ready_H (vleave impl_ready_ir [.d (.one (.sl T_Step)),.d (.one (.sl (.one (.int .i64)))),.d (.one (.int .i64))] [.d (.one (.int .i64))] [] []) [.c impl_ready_k0,.l impl_ready_k1,.e 0,.c impl_ready_k2]
  ⟨[(0,.sl T_Step v0),(1,.sl (.one (.int .i64)) v1),(7,.int .i64 v7),(14,.sl (.one (.int .i64)) v14),(15,.int .i64 v15),(16,.int .i64 v16)],[]⟩
theorem impl_ready_eq (a0 : List T_Step.ty) (a1 : List Int) (a2 : Int) : impl_ready a0 a1 a2 =
 if decide (0 ≤ a2) then
  (a0[a2.toNat]?).bind fun x1 =>
   impl_ready_p0 a0 a1 0 x1.2.2.2.1 (x1.2.2.2.1.length : Int) 0
 else
  none :=
 (mk_f _ _ _ _ _ _ _ 4000).trans (by kernel_rfl)
theorem impl_ready_p0_eq  (v0 : List T_Step.ty) (v1 : List Int) (v7 : Int) (v14 : List Int) (v15 : Int) (v16 : Int) : impl_ready_p0 v0 v1 v7 v14 v15 v16 =
 if decide (v16 < v15) then
  if decide (0 ≤ v16) then
   (v14[v16.toNat]?).bind fun x1 =>
    if decide (0 ≤ x1) then
     (v1[x1.toNat]?).bind fun x2 =>
      if decide (0 ≤ x1) then
       (v0[x1.toNat]?).bind fun x3 =>
        impl_ready_p0 v0 v1 (if IntKind.i64.wrap (x2 + x3.2.1) > v7 then IntKind.i64.wrap (x2 + x3.2.1) else v7) v14 v15 (IntKind.i64.wrap (v16 + 1))
      else
       none
    else
     none
  else
   none
 else
  some v7 :=
 (goL_dn _ _ _ 4000 _ _).trans (by kernel_rfl)
def impl_used_k0 : C :=
 .seq (.reg false [.V 13 (.bin .lss (.t 12) (.t 11))] [0,2,7,10,11,12,13] []) (.seq (.cond (.t 13) .skip (.exit 0)) (.seq (.block 1 (.seq (.reg false [.V 14 (.mv (.t 12)),.V 15 (.ia 1 (.t 10) (.t 12)),.V 16 (.ld none (.t 15)),.V 8 (.asg (.t 14)),.V 9 (.asg (.t 16))] [0,2,7,8,9,10,11,12] []) (.seq (.reg false [.V 17 (.mv (.t 2)),.V 18 (.mv (.t 9)),.V 19 (.mv (.t 9)),.V 20 (.mv (.t 0)),.V 21 (.mv (.t 8)),.V 22 (.ia 4 (.t 20) (.t 21)),.V 23 (.fa 1 (.t 22)),.V 24 (.ld none (.t 23)),.V 25 (.bin .add (.t 19) (.t 24)),.V 26 (.bin .sub (.t 25) (.c (.int .i64 1))),.V 27 (.call (.c (.fn 23 [])) [.t 17,.t 18,.t 26])] [0,2,7,8,10,11,12,27] []) (.cond (.t 27) (.reg false [.V 28 (.mv (.t 7)),.V 29 (.mv (.t 0)),.V 30 (.mv (.t 8)),.V 31 (.ia 4 (.t 29) (.t 30)),.V 32 (.fa 2 (.t 31)),.V 33 (.ld none (.t 32)),.V 34 (.bin .add (.t 28) (.t 33)),.V 7 (.asg (.t 34))] [0,2,7,10,11,12] []) .skip)))) (.reg false [.V 35 (.bin .add (.t 12) (.c (.int .i64 1))),.V 12 (.mv (.t 35))] [0,2,7,10,11,12] [])))
def impl_used_k1 : C :=
 .norm [0,2,7,10,11,12] [] impl_used_k0
def impl_used_k2 : C :=
 .seq (.reg false [.V 36 (.mv (.t 7)),.V 6 (.asg (.t 36))] [6] []) .ret
def impl_used_ir : Fn := { np := 3,io := [],res := [.t 6],own := [false],body :=
 (.seq (.reg false [.V 6 (.asg (.c (.int .i64 0)))] [0,1,2] []) (.seq (.reg false [.V 7 (.asg (.c (.int .i64 0)))] [0,1,2,7] []) (.seq (.seq (.reg false [.V 10 (.mv (.t 1)),.V 11 (.len (.t 10)),.V 12 (.mv (.c (.int .i64 0)))] [0,2,7,10,11,12] []) (.block 0 (.loop impl_used_k1))) impl_used_k2))) }
noncomputable def impl_used_D : List (Nat × Callee) := [(23,impl_within_c)]
def impl_used_H : List (Nat × ET) := [(10,(.one (.int .i64))),(20,T_Step),(29,T_Step)]
noncomputable def impl_used_c : Callee := mkCallee impl_used_D impl_used_H impl_used_ir [.d (.one (.sl T_Step)),.d (.one (.sl (.one (.int .i64)))),.d (.one (.int .i64))] [.d (.one (.int .i64))] []
noncomputable def impl_used (a0 : List T_Step.ty) (a1 : List Int) (a2 : Int) : Option (Int) := impl_used_c.f (a0,a1,a2,())
noncomputable def impl_used_p0  (v0 : List T_Step.ty) (v2 : Int) (v7 : Int) (v10 : List Int) (v11 : Int) (v12 : Int) : Option (Int) :=
 goL impl_used_D impl_used_H (vleave impl_used_ir [.d (.one (.sl T_Step)),.d (.one (.sl (.one (.int .i64)))),.d (.one (.int .i64))] [.d (.one (.int .i64))] [] []) [.c impl_used_k0,.l impl_used_k1,.e 0,.c impl_used_k2]
  ⟨[(0,.sl T_Step v0),(2,.int .i64 v2),(7,.int .i64 v7),(10,.sl (.one (.int .i64)) v10),(11,.int .i64 v11),(12,.int .i64 v12)],[]⟩
theorem impl_used_eq (a0 : List T_Step.ty) (a1 : List Int) (a2 : Int) : impl_used a0 a1 a2 =
 impl_used_p0 a0 a2 0 a1 (a1.length : Int) 0 :=
 (mk_f _ _ _ _ _ _ _ 4000).trans (by kernel_rfl)
theorem impl_used_p0_eq  (v0 : List T_Step.ty) (v2 : Int) (v7 : Int) (v10 : List Int) (v11 : Int) (v12 : Int) : impl_used_p0 v0 v2 v7 v10 v11 v12 =
 if decide (v12 < v11) then
  if decide (0 ≤ v12) then
   (v10[v12.toNat]?).bind fun x1 =>
    if decide (0 ≤ v12) then
     (v0[v12.toNat]?).bind fun x2 =>
      (impl_within v2 x1 (IntKind.i64.wrap ((IntKind.i64.wrap (x1 + x2.2.1)) - 1))).bind fun x3 =>
       if x3 then
        if decide (0 ≤ v12) then
         (v0[v12.toNat]?).bind fun x4 =>
          impl_used_p0 v0 v2 (IntKind.i64.wrap (v7 + x4.2.2.1)) v10 v11 (IntKind.i64.wrap (v12 + 1))
        else
         none
       else
        impl_used_p0 v0 v2 v7 v10 v11 (IntKind.i64.wrap (v12 + 1))
    else
     none
  else
   none
 else
  some v7 :=
 (goL_dn _ _ _ 4000 _ _).trans (by kernel_rfl)
def impl_room_k0 : C :=
 .seq (.seq (.reg false [.V 17 (.mv (.t 10)),.V 18 (.mv (.t 2)),.V 19 (.fa 1 (.t 9)),.V 20 (.ld none (.t 19)),.V 21 (.bin .add (.t 18) (.t 20)),.V 22 (.bin .lss (.t 17) (.t 21))] [0,1,2,3,9,10,22] [9,10003]) (.cond (.t 22) .skip (.exit 0))) (.seq (.block 1 (.seq (.reg true [.V 25 (.mv (.t 0)),.V 26 (.mv (.t 1)),.V 27 (.mv (.t 10)),.V 28 (.call (.c (.fn 540 [])) [.t 25,.t 26,.t 27]),.V 29 (.fa 2 (.t 9)),.V 30 (.ld none (.t 29)),.V 31 (.bin .add (.t 28) (.t 30)),.V 32 (.mv (.t 3)),.V 33 (.bin .gtr (.t 31) (.t 32))] [0,1,2,3,9,10,33] [9,10003]) (.cond (.t 33) (.seq (.reg false [.V 8 (.asg (.c (.bool false)))] [8] []) .ret) .skip))) (.reg false [.V 23 (.mv (.t 10)),.V 24 (.bin .add (.t 23) (.c (.int .i64 1))),.V 10 (.asg (.t 24))] [0,1,2,3,9,10] [9,10003]))
def impl_room_k1 : C :=
 .norm [0,1,2,3,9,10] [9,10003] impl_room_k0
def impl_room_k2 : C :=
 .seq (.reg false [.V 8 (.asg (.c (.bool true)))] [8] []) .ret
def impl_room_ir : Fn := { np := 4,io := [],res := [.t 8],own := [false],body :=
 (.seq (.reg false [.V 8 (.asg (.c (.bool false)))] [0,1,2,3] []) (.seq (.reg false [.V 11 (.mv (.t 0)),.V 12 (.mv (.t 1)),.V 13 (.len (.t 12)),.V 14 (.ia 4 (.t 11) (.t 13)),.V 15 (.ld (some 4) (.t 14)),.W 9 (.alloc 4 (.agg [.str [],.int .i64 0,.int .i64 0,.nils 1])),⟨none,true,.sto 4 (.t 9) (.t 15),none,false,[]⟩] [0,1,2,3,9] [9,10003]) (.seq (.seq (.reg false [.V 16 (.mv (.t 2)),.V 10 (.asg (.t 16))] [0,1,2,3,9,10] [9,10003]) (.block 0 (.loop impl_room_k1))) impl_room_k2))) }
noncomputable def impl_room_D : List (Nat × Callee) := [(540,impl_used_c)]
def impl_room_H : List (Nat × ET) := [(11,T_Step),(12,(.one (.int .i64))),(25,T_Step),(26,(.one (.int .i64)))]
noncomputable def impl_room_c : Callee := mkCallee impl_room_D impl_room_H impl_room_ir [.d (.one (.sl T_Step)),.d (.one (.sl (.one (.int .i64)))),.d (.one (.int .i64)),.d (.one (.int .i64))] [.d (.one .bool)] []
noncomputable def impl_room (a0 : List T_Step.ty) (a1 : List Int) (a2 : Int) (a3 : Int) : Option (Bool) := impl_room_c.f (a0,a1,a2,a3,())
noncomputable def impl_room_p0  (v0 : List T_Step.ty) (v1 : List Int) (v2 : Int) (v3 : Int) (v10 : Int) (r9_0 : List UInt8) (r9_1 : Int) (r9_2 : Int) (r9_3 : List Int) : Option (Bool) :=
 goL impl_room_D impl_room_H (vleave impl_room_ir [.d (.one (.sl T_Step)),.d (.one (.sl (.one (.int .i64)))),.d (.one (.int .i64)),.d (.one (.int .i64))] [.d (.one .bool)] [] []) [.c impl_room_k0,.l impl_room_k1,.e 0,.c impl_room_k2]
  ⟨[(0,.sl T_Step v0),(1,.sl (.one (.int .i64)) v1),(2,.int .i64 v2),(3,.int .i64 v3),(9,.loc 9 0 0),(10,.int .i64 v10)],[(9,some (.var 4 (.agg [.str r9_0,.int .i64 r9_1,.int .i64 r9_2,.sl (.one (.int .i64)) r9_3]))),(10003,none)]⟩
theorem impl_room_eq (a0 : List T_Step.ty) (a1 : List Int) (a2 : Int) (a3 : Int) : impl_room a0 a1 a2 a3 =
 if decide (0 ≤ (a1.length : Int)) then
  (a0[(a1.length : Int).toNat]?).bind fun x1 =>
   impl_room_p0 a0 a1 a2 a3 a2 x1.1 x1.2.1 x1.2.2.1 x1.2.2.2.1
 else
  none :=
 (mk_f _ _ _ _ _ _ _ 4000).trans (by kernel_rfl)
theorem impl_room_p0_eq  (v0 : List T_Step.ty) (v1 : List Int) (v2 : Int) (v3 : Int) (v10 : Int) (r9_0 : List UInt8) (r9_1 : Int) (r9_2 : Int) (r9_3 : List Int) : impl_room_p0 v0 v1 v2 v3 v10 r9_0 r9_1 r9_2 r9_3 =
 if decide (v10 < IntKind.i64.wrap (v2 + r9_1)) then
  (impl_used v0 v1 v10).bind fun x1 =>
   if decide (IntKind.i64.wrap (x1 + r9_2) > v3) then
    some false
   else
    impl_room_p0 v0 v1 v2 v3 (IntKind.i64.wrap (v10 + 1)) r9_0 r9_1 r9_2 r9_3
 else
  some true :=
 (goL_dn _ _ _ 4000 _ _).trans (by kernel_rfl)
def impl_planned_k0 : C :=
 .seq (.seq (.reg false [.V 26 (.mv (.t 0)),.V 27 (.mv (.t 6)),.V 28 (.mv (.t 9)),.V 29 (.mv (.t 1)),.V 30 (.call (.c (.fn 868 [])) [.t 26,.t 27,.t 28,.t 29]),.V 31 (.un .not (.t 30))] [0,1,6,9,11,12,13,31] [6]) (.cond (.t 31) .skip (.exit 2))) (.block 3 (.reg false [.V 32 (.mv (.t 9)),.V 33 (.bin .add (.t 32) (.c (.int .i64 1))),.V 9 (.asg (.t 33))] [0,1,6,9,11,12,13] [6]))
def impl_planned_k1 : C :=
 .norm [0,1,6,9,11,12,13] [6] impl_planned_k0
def impl_planned_k2 : C :=
 .reg false [.V 34 (.mv (.t 6)),.V 35 (.mv (.t 9)),.V 36 (.bsl 1 (.int .i64 0) 1 [(0,.t 35)]),.W 37 (.app 1 8 (.t 34) (.t 36)),.W 6 (.asg (.t 37))] [0,1,6,11,12,13] [6]
def impl_planned_k3 : C :=
 .reg false [.V 38 (.bin .add (.t 13) (.c (.int .i64 1))),.V 13 (.mv (.t 38))] [0,1,6,11,12,13] [6]
def impl_planned_k4 : C :=
 .seq (.reg false [.V 14 (.bin .lss (.t 13) (.t 12))] [0,1,6,11,12,13,14] [6]) (.seq (.cond (.t 14) .skip (.exit 0)) (.seq (.block 1 (.seq (.reg false [.V 15 (.mv (.t 13)),.V 16 (.ia 4 (.t 11) (.t 13)),.V 17 (.ld (some 4) (.t 16)),.W 8 (.alloc 4 (.agg [.str [],.int .i64 0,.int .i64 0,.nils 1])),.V 7 (.asg (.t 15)),⟨none,true,.sto 4 (.t 8) (.t 17),none,false,[]⟩] [0,1,6,7,8,11,12,13] [6,8,9003]) (.seq (.seq (.reg false [.V 18 (.fa 2 (.t 8)),.V 19 (.ld none (.t 18)),.V 20 (.mv (.t 1)),.V 21 (.bin .gtr (.t 19) (.t 20))] [0,1,6,7,11,12,13,21] [6]) (.cond (.t 21) (.seq (.reg false [.W 4 (.asg (.c (.nils 1))),.V 5 (.asg (.c (.bool false)))] [4,5] [4,6]) .ret) .skip)) (.seq (.reg false [.V 22 (.mv (.t 0)),.V 23 (.mv (.t 6)),.V 24 (.mv (.t 7)),.V 25 (.call (.c (.fn 539 [])) [.t 22,.t 23,.t 24]),.V 9 (.asg (.t 25))] [0,1,6,9,11,12,13] [6]) (.seq (.block 2 (.loop impl_planned_k1)) impl_planned_k2))))) impl_planned_k3))
def impl_planned_k5 : C :=
 .norm [0,1,6,11,12,13] [6] impl_planned_k4
def impl_planned_k6 : C :=
 .seq (.reg false [.V 39 (.mv (.t 6)),.W 4 (.asg (.t 39)),.V 5 (.asg (.c (.bool true)))] [4,5] [4,6]) .ret
def impl_planned_ir : Fn := { np := 2,io := [],res := [.t 4,.t 5],own := [true,false],body :=
 (.seq (.reg false [.W 4 (.asg (.c (.nils 1))),.V 5 (.asg (.c (.bool false)))] [0,1] []) (.seq (.reg false [.V 10 (.bsl 1 (.int .i64 0) 0 []),.W 6 (.asg (.t 10))] [0,1,6] [6]) (.seq (.seq (.reg false [.V 11 (.mv (.t 0)),.V 12 (.len (.t 11)),.V 13 (.mv (.c (.int .i64 0)))] [0,1,6,11,12,13] [6]) (.block 0 (.loop impl_planned_k5))) impl_planned_k6))) }
noncomputable def impl_planned_D : List (Nat × Callee) := [(539,impl_ready_c),(868,impl_room_c)]
def impl_planned_H : List (Nat × ET) := [(4,(.one (.int .i64))),(6,(.one (.int .i64))),(10,(.one (.int .i64))),(11,T_Step),(22,T_Step),(23,(.one (.int .i64))),(26,T_Step),(27,(.one (.int .i64))),(34,(.one (.int .i64))),(36,(.one (.int .i64))),(37,(.one (.int .i64))),(39,(.one (.int .i64)))]
noncomputable def impl_planned_c : Callee := mkCallee impl_planned_D impl_planned_H impl_planned_ir [.d (.one (.sl T_Step)),.d (.one (.int .i64))] [.tok (.one (.int .i64)),.d (.one .bool)] []
noncomputable def impl_planned (a0 : List T_Step.ty) (a1 : Int) : Option (List Int × Bool) := impl_planned_c.f (a0,a1,())
noncomputable def impl_planned_p0  (v0 : List T_Step.ty) (v1 : Int) (v11 : List T_Step.ty) (v12 : Int) (v13 : Int) (r6 : List Int) : Option (List Int × Bool) :=
 goL impl_planned_D impl_planned_H (vleave impl_planned_ir [.d (.one (.sl T_Step)),.d (.one (.int .i64))] [.tok (.one (.int .i64)),.d (.one .bool)] [] []) [.c impl_planned_k4,.l impl_planned_k5,.e 0,.c impl_planned_k6]
  ⟨[(0,.sl T_Step v0),(1,.int .i64 v1),(6,.view 6 0 r6.length),(11,.sl T_Step v11),(12,.int .i64 v12),(13,.int .i64 v13)],[(6,some (.sl (.one (.int .i64)) r6))]⟩
noncomputable def impl_planned_p1  (v0 : List T_Step.ty) (v1 : Int) (v9 : Int) (v11 : List T_Step.ty) (v12 : Int) (v13 : Int) (r6 : List Int) : Option (List Int × Bool) :=
 goL impl_planned_D impl_planned_H (vleave impl_planned_ir [.d (.one (.sl T_Step)),.d (.one (.int .i64))] [.tok (.one (.int .i64)),.d (.one .bool)] [] []) [.c impl_planned_k0,.l impl_planned_k1,.e 2,.c impl_planned_k2,.e 1,.c impl_planned_k3,.l impl_planned_k5,.e 0,.c impl_planned_k6]
  ⟨[(0,.sl T_Step v0),(1,.int .i64 v1),(6,.view 6 0 r6.length),(9,.int .i64 v9),(11,.sl T_Step v11),(12,.int .i64 v12),(13,.int .i64 v13)],[(6,some (.sl (.one (.int .i64)) r6))]⟩
theorem impl_planned_eq (a0 : List T_Step.ty) (a1 : Int) : impl_planned a0 a1 =
 impl_planned_p0 a0 a1 a0 (a0.length : Int) 0 [] :=
 (mk_f _ _ _ _ _ _ _ 4000).trans (by kernel_rfl)
theorem impl_planned_p0_eq  (v0 : List T_Step.ty) (v1 : Int) (v11 : List T_Step.ty) (v12 : Int) (v13 : Int) (r6 : List Int) : impl_planned_p0 v0 v1 v11 v12 v13 r6 =
 if decide (v13 < v12) then
  if decide (0 ≤ v13) then
   (v11[v13.toNat]?).bind fun x1 =>
    if decide (x1.2.2.1 > v1) then
     some ([],false)
    else
     (impl_ready v0 (r6.take r6.length) v13).bind fun x2 =>
      impl_planned_p1 v0 v1 x2 v11 v12 v13 r6
  else
   none
 else
  some ((r6.take r6.length),true) :=
 (goL_dn _ _ _ 4000 _ _).trans (by kernel_rfl)
theorem impl_planned_p1_eq  (v0 : List T_Step.ty) (v1 : Int) (v9 : Int) (v11 : List T_Step.ty) (v12 : Int) (v13 : Int) (r6 : List Int) : impl_planned_p1 v0 v1 v9 v11 v12 v13 r6 =
 (impl_room v0 (r6.take r6.length) v9 v1).bind fun x1 =>
  if (!x1) then
   impl_planned_p1 v0 v1 (IntKind.i64.wrap (v9 + 1)) v11 v12 v13 r6
  else
   if decide (r6.length + 1 < lim) then
    impl_planned_p0 v0 v1 v11 v12 (IntKind.i64.wrap (v13 + 1)) ((r6.take r6.length) ++ [v9])
   else
    none :=
 (goL_dn _ _ _ 4000 _ _).trans (by kernel_rfl)
def impl_WithClamps_ir : Fn := { np := 2,io := [],res := [.t 4,.t 5],own := [true,false],body :=
 (.seq (.reg false [.W 4 (.asg (.c (.nils 1))),.V 5 (.asg (.c (.int .i64 0)))] [0,1] []) (.seq (.seq (.reg false [.V 8 (.mv (.t 0)),.V 9 (.call (.c (.fn 83 [])) [.t 8]),.V 10 (.un .not (.t 9))] [0,1,10] []) (.cond (.t 10) (.seq (.reg false [.W 4 (.asg (.c (.nils 1))),.V 5 (.asg (.c (.int .i64 1)))] [4,5] [4,6]) .ret) .skip)) (.seq (.seq (.reg false [.V 11 (.mv (.t 1)),.V 12 (.call (.c (.fn 534 [])) [.t 11]),.V 13 (.un .not (.t 12))] [0,1,13] []) (.cond (.t 13) (.seq (.reg false [.W 4 (.asg (.c (.nils 1))),.V 5 (.asg (.c (.int .i64 2)))] [4,5] [4,6]) .ret) .skip)) (.seq (.reg false [.V 15 (.mv (.t 0)),.V 16 (.mv (.t 1)),.V 17 (.call (.c (.fn 533 [])) [.t 15,.t 16]),.V 14 (.mv (.t 17)),.V 18 (.ext (.t 14) 0),.V 19 (.ext (.t 14) 1),.W 6 (.asg (.t 18)),.V 7 (.asg (.t 19))] [6,7] [6]) (.seq (.seq (.reg false [.V 20 (.mv (.t 7)),.V 21 (.un .not (.t 20))] [6,21] [6]) (.cond (.t 21) (.seq (.reg false [.W 4 (.asg (.c (.nils 1))),.V 5 (.asg (.c (.int .i64 3)))] [4,5] [4,6]) .ret) .skip)) (.seq (.reg false [.V 22 (.mv (.t 6)),.W 4 (.asg (.t 22)),.V 5 (.asg (.c (.int .i64 0)))] [4,5] [4,6]) .ret)))))) }
noncomputable def impl_WithClamps_D : List (Nat × Callee) := [(83,impl_ValidSteps_c),(533,impl_planned_c),(534,impl_isClamps_c)]
def impl_WithClamps_H : List (Nat × ET) := [(4,(.one (.int .i64))),(6,(.one (.int .i64))),(8,T_Step),(15,T_Step),(18,(.one (.int .i64))),(22,(.one (.int .i64)))]
noncomputable def impl_WithClamps_c : Callee := mkCallee impl_WithClamps_D impl_WithClamps_H impl_WithClamps_ir [.d (.one (.sl T_Step)),.d (.one (.int .i64))] [.tok (.one (.int .i64)),.d (.one (.int .i64))] []
noncomputable def impl_WithClamps (a0 : List T_Step.ty) (a1 : Int) : Option (List Int × Int) := impl_WithClamps_c.f (a0,a1,())
theorem impl_WithClamps_eq (a0 : List T_Step.ty) (a1 : Int) : impl_WithClamps a0 a1 =
 (impl_ValidSteps a0).bind fun x1 =>
  if (!x1) then
   some ([],1)
  else
   (impl_isClamps a1).bind fun x2 =>
    if (!x2) then
     some ([],2)
    else
     (impl_planned a0 a1).bind fun x3 =>
      if (!x3.2) then
       some ([],3)
      else
       some ((x3.1.take x3.1.length),0) :=
 (mk_f _ _ _ _ _ _ _ 4000).trans (by kernel_rfl)
def spec_l01Small_ir : Fn := { np := 1,io := [],res := [.t 2],own := [false],body :=
 (.seq (.reg false [.V 2 (.asg (.c (.bool false)))] [0] []) (.seq (.reg false [.V 3 (.mv (.t 0)),.V 4 (.bin .geq (.t 3) (.c (.int .u8 97))),.V 5 (.mv (.t 4)),.G 6 (.mv (.t 0)) 2 true,.G 7 (.bin .leq (.t 6) (.c (.int .u8 122))) 2 true,.V 8 (.pick (.t 5) (.t 7) (.c (.bool false))),.V 2 (.asg (.t 8))] [2] []) .ret)) }
noncomputable def spec_l01Small_D : List (Nat × Callee) := []
def spec_l01Small_H : List (Nat × ET) := []
noncomputable def spec_l01Small_c : Callee := mkCallee spec_l01Small_D spec_l01Small_H spec_l01Small_ir [.d (.one (.int .u8))] [.d (.one .bool)] []
noncomputable def spec_l01Small (a0 : Int) : Option (Bool) := spec_l01Small_c.f (a0,())
theorem spec_l01Small_eq (a0 : Int) : spec_l01Small a0 =
 if decide (a0 ≥ 97) then
  some (decide (a0 ≤ 122))
 else
  some false :=
 (mk_f _ _ _ _ _ _ _ 4000).trans (by kernel_rfl)
def spec_l01Digit_ir : Fn := { np := 1,io := [],res := [.t 2],own := [false],body :=
 (.seq (.reg false [.V 2 (.asg (.c (.bool false)))] [0] []) (.seq (.reg false [.V 3 (.mv (.t 0)),.V 4 (.bin .geq (.t 3) (.c (.int .u8 48))),.V 5 (.mv (.t 4)),.G 6 (.mv (.t 0)) 2 true,.G 7 (.bin .leq (.t 6) (.c (.int .u8 57))) 2 true,.V 8 (.pick (.t 5) (.t 7) (.c (.bool false))),.V 2 (.asg (.t 8))] [2] []) .ret)) }
noncomputable def spec_l01Digit_D : List (Nat × Callee) := []
def spec_l01Digit_H : List (Nat × ET) := []
noncomputable def spec_l01Digit_c : Callee := mkCallee spec_l01Digit_D spec_l01Digit_H spec_l01Digit_ir [.d (.one (.int .u8))] [.d (.one .bool)] []
noncomputable def spec_l01Digit (a0 : Int) : Option (Bool) := spec_l01Digit_c.f (a0,())
theorem spec_l01Digit_eq (a0 : Int) : spec_l01Digit a0 =
 if decide (a0 ≥ 48) then
  some (decide (a0 ≤ 57))
 else
  some false :=
 (mk_f _ _ _ _ _ _ _ 4000).trans (by kernel_rfl)
def spec_l01Name_k0 : C :=
 .seq (.seq (.reg false [.V 17 (.mv (.t 3)),.V 18 (.mv (.t 0)),.V 19 (.lens (.t 18)),.V 20 (.bin .lss (.t 17) (.t 19))] [0,3,20] []) (.cond (.t 20) .skip (.exit 0))) (.seq (.block 1 (.seq (.reg false [.V 23 (.mv (.t 0)),.V 24 (.mv (.t 3)),.V 25 (.ix (.t 23) (.t 24)),.V 26 (.call (.c (.fn 11 [])) [.t 25]),.V 27 (.un .not (.t 26)),.V 28 (.mv (.t 27)),.G 29 (.mv (.t 0)) 5 true,.G 30 (.mv (.t 3)) 5 true,.G 31 (.ix (.t 29) (.t 30)) 5 true,.G 32 (.call (.c (.fn 12 [])) [.t 31]) 5 true,.G 33 (.un .not (.t 32)) 5 true,.V 34 (.pick (.t 28) (.t 33) (.c (.bool false)))] [0,3,34] []) (.cond (.t 34) (.seq (.reg false [.V 2 (.asg (.c (.bool false)))] [2] []) .ret) .skip))) (.reg false [.V 21 (.mv (.t 3)),.V 22 (.bin .add (.t 21) (.c (.int .i64 1))),.V 3 (.asg (.t 22))] [0,3] []))
def spec_l01Name_k1 : C :=
 .norm [0,3] [] spec_l01Name_k0
def spec_l01Name_k2 : C :=
 .seq (.reg false [.V 2 (.asg (.c (.bool true)))] [2] []) .ret
def spec_l01Name_k3 : C :=
 .seq (.seq (.reg false [.V 3 (.asg (.c (.int .i64 0)))] [0,3] []) (.block 0 (.loop spec_l01Name_k1))) spec_l01Name_k2
def spec_l01Name_ir : Fn := { np := 1,io := [],res := [.t 2],own := [false],body :=
 (.seq (.reg false [.V 2 (.asg (.c (.bool false)))] [0] []) (.seq (.seq (.reg false [.V 4 (.mv (.t 0)),.V 5 (.bin .eql (.t 4) (.c (.str []))),.V 6 (.mv (.t 5)),.G 7 (.mv (.t 0)) 2 false,.G 8 (.lens (.t 7)) 2 false,.G 9 (.bin .gtr (.t 8) (.c (.int .i64 10))) 2 false,.V 10 (.pick (.t 6) (.c (.bool true)) (.t 9)),.V 11 (.mv (.t 10)),.G 12 (.mv (.t 0)) 7 false,.G 13 (.ix (.t 12) (.c (.int .i64 0))) 7 false,.G 14 (.call (.c (.fn 11 [])) [.t 13]) 7 false,.G 15 (.un .not (.t 14)) 7 false,.V 16 (.pick (.t 11) (.c (.bool true)) (.t 15))] [0,16] []) (.cond (.t 16) (.seq (.reg false [.V 2 (.asg (.c (.bool false)))] [2] []) .ret) .skip)) (.norm [0] [] spec_l01Name_k3))) }
noncomputable def spec_l01Name_D : List (Nat × Callee) := [(11,spec_l01Small_c),(12,spec_l01Digit_c)]
def spec_l01Name_H : List (Nat × ET) := []
noncomputable def spec_l01Name_c : Callee := mkCallee spec_l01Name_D spec_l01Name_H spec_l01Name_ir [.d (.one .str)] [.d (.one .bool)] []
noncomputable def spec_l01Name (a0 : List UInt8) : Option (Bool) := spec_l01Name_c.f (a0,())
noncomputable def spec_l01Name_p0  (v0 : List UInt8) : Option (Bool) :=
 goL spec_l01Name_D spec_l01Name_H (vleave spec_l01Name_ir [.d (.one .str)] [.d (.one .bool)] [] []) [.c spec_l01Name_k3]
  ⟨[(0,.str v0)],[]⟩
noncomputable def spec_l01Name_p1  (v0 : List UInt8) (v3 : Int) : Option (Bool) :=
 goL spec_l01Name_D spec_l01Name_H (vleave spec_l01Name_ir [.d (.one .str)] [.d (.one .bool)] [] []) [.c spec_l01Name_k0,.l spec_l01Name_k1,.e 0,.c spec_l01Name_k2]
  ⟨[(0,.str v0),(3,.int .i64 v3)],[]⟩
theorem spec_l01Name_eq (a0 : List UInt8) : spec_l01Name a0 =
 if (a0 == []) then
  some false
 else
  if decide ((a0.length : Int) > 10) then
   some false
  else
   (a0[0]?).bind fun x1 =>
    (spec_l01Small (x1.toNat : Int)).bind fun x2 =>
     if (!x2) then
      some false
     else
      spec_l01Name_p0 a0 :=
 (mk_f _ _ _ _ _ _ _ 4000).trans (by kernel_rfl)
theorem spec_l01Name_p0_eq  (v0 : List UInt8) : spec_l01Name_p0 v0 =
 spec_l01Name_p1 v0 0 :=
 (goL_dn _ _ _ 4000 _ _).trans (by kernel_rfl)
theorem spec_l01Name_p1_eq  (v0 : List UInt8) (v3 : Int) : spec_l01Name_p1 v0 v3 =
 if decide (v3 < (v0.length : Int)) then
  if decide (0 ≤ v3) then
   (v0[v3.toNat]?).bind fun x1 =>
    (spec_l01Small (x1.toNat : Int)).bind fun x2 =>
     if (!x2) then
      if decide (0 ≤ v3) then
       (v0[v3.toNat]?).bind fun x3 =>
        (spec_l01Digit (x3.toNat : Int)).bind fun x4 =>
         if (!x4) then
          some false
         else
          spec_l01Name_p1 v0 (IntKind.i64.wrap (v3 + 1))
      else
       none
     else
      spec_l01Name_p1 v0 (IntKind.i64.wrap (v3 + 1))
  else
   none
 else
  some true :=
 (goL_dn _ _ _ 4000 _ _).trans (by kernel_rfl)
def spec_l00In_ir : Fn := { np := 3,io := [],res := [.t 6],own := [false],body :=
 (.seq (.reg false [.V 6 (.asg (.c (.bool false)))] [0,1,2] []) (.seq (.reg false [.V 7 (.mv (.t 0)),.V 8 (.mv (.t 1)),.V 9 (.bin .geq (.t 7) (.t 8)),.V 10 (.mv (.t 9)),.G 11 (.mv (.t 0)) 3 true,.G 12 (.mv (.t 2)) 3 true,.G 13 (.bin .leq (.t 11) (.t 12)) 3 true,.V 14 (.pick (.t 10) (.t 13) (.c (.bool false))),.V 6 (.asg (.t 14))] [6] []) .ret)) }
noncomputable def spec_l00In_D : List (Nat × Callee) := []
def spec_l00In_H : List (Nat × ET) := []
noncomputable def spec_l00In_c : Callee := mkCallee spec_l00In_D spec_l00In_H spec_l00In_ir [.d (.one (.int .i64)),.d (.one (.int .i64)),.d (.one (.int .i64))] [.d (.one .bool)] []
noncomputable def spec_l00In (a0 : Int) (a1 : Int) (a2 : Int) : Option (Bool) := spec_l00In_c.f (a0,a1,a2,())
theorem spec_l00In_eq (a0 : Int) (a1 : Int) (a2 : Int) : spec_l00In a0 a1 a2 =
 if decide (a0 ≥ a1) then
  some (decide (a0 ≤ a2))
 else
  some false :=
 (mk_f _ _ _ _ _ _ _ 4000).trans (by kernel_rfl)
def spec_l00Rises_k0 : C :=
 .seq (.seq (.reg false [.V 8 (.mv (.t 7)),.V 9 (.mv (.t 0)),.V 10 (.len (.t 9)),.V 11 (.bin .lss (.t 8) (.t 10))] [0,1,2,7,11] []) (.cond (.t 11) .skip (.exit 0))) (.seq (.block 1 (.seq (.reg true [.V 14 (.mv (.t 0)),.V 15 (.mv (.t 7)),.V 16 (.ia 1 (.t 14) (.t 15)),.V 17 (.ld none (.t 16)),.V 18 (.mv (.t 1)),.V 19 (.mv (.t 2)),.V 20 (.call (.c (.fn 1 [])) [.t 17,.t 18,.t 19]),.V 21 (.un .not (.t 20)),.V 22 (.mv (.t 21)),.G 23 (.mv (.t 7)) 8 false,.G 24 (.bin .gtr (.t 23) (.c (.int .i64 0))) 8 false,.G 25 (.mv (.t 24)) 8 false,.G 26 (.mv (.t 0)) 11 true,.G 27 (.mv (.t 7)) 11 true,.G 28 (.bin .sub (.t 27) (.c (.int .i64 1))) 11 true,.G 29 (.ia 1 (.t 26) (.t 28)) 11 true,.G 30 (.ld none (.t 29)) 11 true,.G 31 (.mv (.t 0)) 11 true,.G 32 (.mv (.t 7)) 11 true,.G 33 (.ia 1 (.t 31) (.t 32)) 11 true,.G 34 (.ld none (.t 33)) 11 true,.G 35 (.bin .geq (.t 30) (.t 34)) 11 true,.G 36 (.pick (.t 25) (.t 35) (.c (.bool false))) 8 false,.V 37 (.pick (.t 22) (.c (.bool true)) (.t 36))] [0,1,2,7,37] []) (.cond (.t 37) (.seq (.reg false [.V 6 (.asg (.c (.bool false)))] [6] []) .ret) .skip))) (.reg false [.V 12 (.mv (.t 7)),.V 13 (.bin .add (.t 12) (.c (.int .i64 1))),.V 7 (.asg (.t 13))] [0,1,2,7] []))
def spec_l00Rises_k1 : C :=
 .norm [0,1,2,7] [] spec_l00Rises_k0
def spec_l00Rises_k2 : C :=
 .seq (.reg false [.V 6 (.asg (.c (.bool true)))] [6] []) .ret
def spec_l00Rises_ir : Fn := { np := 3,io := [],res := [.t 6],own := [false],body :=
 (.seq (.reg false [.V 6 (.asg (.c (.bool false)))] [0,1,2] []) (.seq (.seq (.reg false [.V 7 (.asg (.c (.int .i64 0)))] [0,1,2,7] []) (.block 0 (.loop spec_l00Rises_k1))) spec_l00Rises_k2)) }
noncomputable def spec_l00Rises_D : List (Nat × Callee) := [(1,spec_l00In_c)]
def spec_l00Rises_H : List (Nat × ET) := [(9,(.one (.int .i64))),(14,(.one (.int .i64))),(26,(.one (.int .i64))),(31,(.one (.int .i64)))]
noncomputable def spec_l00Rises_c : Callee := mkCallee spec_l00Rises_D spec_l00Rises_H spec_l00Rises_ir [.d (.one (.sl (.one (.int .i64)))),.d (.one (.int .i64)),.d (.one (.int .i64))] [.d (.one .bool)] []
noncomputable def spec_l00Rises (a0 : List Int) (a1 : Int) (a2 : Int) : Option (Bool) := spec_l00Rises_c.f (a0,a1,a2,())
noncomputable def spec_l00Rises_p0  (v0 : List Int) (v1 : Int) (v2 : Int) (v7 : Int) : Option (Bool) :=
 goL spec_l00Rises_D spec_l00Rises_H (vleave spec_l00Rises_ir [.d (.one (.sl (.one (.int .i64)))),.d (.one (.int .i64)),.d (.one (.int .i64))] [.d (.one .bool)] [] []) [.c spec_l00Rises_k0,.l spec_l00Rises_k1,.e 0,.c spec_l00Rises_k2]
  ⟨[(0,.sl (.one (.int .i64)) v0),(1,.int .i64 v1),(2,.int .i64 v2),(7,.int .i64 v7)],[]⟩
theorem spec_l00Rises_eq (a0 : List Int) (a1 : Int) (a2 : Int) : spec_l00Rises a0 a1 a2 =
 spec_l00Rises_p0 a0 a1 a2 0 :=
 (mk_f _ _ _ _ _ _ _ 4000).trans (by kernel_rfl)
theorem spec_l00Rises_p0_eq  (v0 : List Int) (v1 : Int) (v2 : Int) (v7 : Int) : spec_l00Rises_p0 v0 v1 v2 v7 =
 if decide (v7 < (v0.length : Int)) then
  if decide (0 ≤ v7) then
   (v0[v7.toNat]?).bind fun x1 =>
    (spec_l00In x1 v1 v2).bind fun x2 =>
     if (!x2) then
      some false
     else
      if decide (v7 > 0) then
       if decide (0 ≤ IntKind.i64.wrap (v7 - 1)) then
        (v0[(IntKind.i64.wrap (v7 - 1)).toNat]?).bind fun x3 =>
         if decide (0 ≤ v7) then
          (v0[v7.toNat]?).bind fun x4 =>
           if decide (x3 ≥ x4) then
            some false
           else
            spec_l00Rises_p0 v0 v1 v2 (IntKind.i64.wrap (v7 + 1))
         else
          none
       else
        none
      else
       spec_l00Rises_p0 v0 v1 v2 (IntKind.i64.wrap (v7 + 1))
  else
   none
 else
  some true :=
 (goL_dn _ _ _ 4000 _ _).trans (by kernel_rfl)
def spec_l17One_ir : Fn := { np := 1,io := [],res := [.t 2],own := [false],body :=
 (.seq (.reg false [.V 2 (.asg (.c (.bool false)))] [0] []) (.seq (.reg false [.V 3 (.mv (.t 0)),.V 4 (.nilck (.t 3)),.V 5 (.fa 0 (.t 4)),.V 6 (.ld none (.t 5)),.V 7 (.call (.c (.fn 13 [])) [.t 6]),.V 8 (.mv (.t 7)),.G 9 (.mv (.t 0)) 5 true,.G 10 (.nilck (.t 9)) 5 true,.G 11 (.fa 1 (.t 10)) 5 true,.G 12 (.ld none (.t 11)) 5 true,.G 13 (.call (.c (.fn 1 [])) [.t 12,.c (.int .i64 1),.c (.int .i64 200)]) 5 true,.V 14 (.pick (.t 8) (.t 13) (.c (.bool false))),.V 15 (.mv (.t 14)),.G 16 (.mv (.t 0)) 12 true,.G 17 (.nilck (.t 16)) 12 true,.G 18 (.fa 2 (.t 17)) 12 true,.G 19 (.ld none (.t 18)) 12 true,.G 20 (.call (.c (.fn 1 [])) [.t 19,.c (.int .i64 0),.c (.int .i64 20)]) 12 true,.V 21 (.pick (.t 15) (.t 20) (.c (.bool false))),.V 22 (.mv (.t 21)),.G 23 (.mv (.t 0)) 19 true,.G 24 (.nilck (.t 23)) 19 true,.G 25 (.fa 3 (.t 24)) 19 true,.G 26 (.ld none (.t 25)) 19 true,.G 27 (.call (.c (.fn 804 [])) [.t 26,.c (.int .i64 0),.c (.int .i64 11)]) 19 true,.V 28 (.pick (.t 22) (.t 27) (.c (.bool false))),.V 2 (.asg (.t 28))] [2] []) .ret)) }
noncomputable def spec_l17One_D : List (Nat × Callee) := [(1,spec_l00In_c),(13,spec_l01Name_c),(804,spec_l00Rises_c)]
def spec_l17One_H : List (Nat × ET) := [(26,(.one (.int .i64)))]
noncomputable def spec_l17One_c : Callee := mkCallee spec_l17One_D spec_l17One_H spec_l17One_ir [.p T_Step] [.d (.one .bool)] []
noncomputable def spec_l17One (a0 : T_Step.ty) : Option (Bool) := spec_l17One_c.f (a0,())
theorem spec_l17One_eq (a0 : T_Step.ty) : spec_l17One a0 =
 (spec_l01Name a0.1).bind fun x1 =>
  if x1 then
   (spec_l00In a0.2.1 1 200).bind fun x2 =>
    if x2 then
     (spec_l00In a0.2.2.1 0 20).bind fun x3 =>
      if x3 then
       (spec_l00Rises a0.2.2.2.1 0 11).bind fun x4 =>
        some x4
      else
       some false
    else
     some false
  else
   some false :=
 (mk_f _ _ _ _ _ _ _ 4000).trans (by kernel_rfl)
def spec_l17Ok_k0 : C :=
 .seq (.seq (.reg false [.V 28 (.mv (.t 5)),.V 29 (.mv (.t 3)),.V 30 (.bin .lss (.t 28) (.t 29))] [0,3,4,5,30] []) (.cond (.t 30) .skip (.exit 2))) (.seq (.block 3 (.seq (.reg true [.V 33 (.mv (.t 0)),.V 34 (.mv (.t 5)),.V 35 (.ia 4 (.t 33) (.t 34)),.V 36 (.fa 0 (.t 35)),.V 37 (.ld none (.t 36)),.V 38 (.mv (.t 4)),.V 39 (.nilck (.t 38)),.V 40 (.fa 0 (.t 39)),.V 41 (.ld none (.t 40)),.V 42 (.bin .eql (.t 37) (.t 41))] [0,3,4,5,42] []) (.cond (.t 42) (.seq (.reg false [.V 2 (.asg (.c (.bool false)))] [2] []) .ret) .skip))) (.reg false [.V 31 (.mv (.t 5)),.V 32 (.bin .add (.t 31) (.c (.int .i64 1))),.V 5 (.asg (.t 32))] [0,3,4,5] []))
def spec_l17Ok_k1 : C :=
 .norm [0,3,4,5] [] spec_l17Ok_k0
def spec_l17Ok_k2 : C :=
 .seq (.reg false [.V 5 (.asg (.c (.int .i64 0)))] [0,3,4,5] []) (.block 2 (.loop spec_l17Ok_k1))
def spec_l17Ok_k3 : C :=
 .reg false [.V 10 (.mv (.t 3)),.V 11 (.bin .add (.t 10) (.c (.int .i64 1))),.V 3 (.asg (.t 11))] [0,3] []
def spec_l17Ok_k4 : C :=
 .seq (.seq (.reg false [.V 6 (.mv (.t 3)),.V 7 (.mv (.t 0)),.V 8 (.len (.t 7)),.V 9 (.bin .lss (.t 6) (.t 8))] [0,3,9] []) (.cond (.t 9) .skip (.exit 0))) (.seq (.block 1 (.seq (.reg false [.V 12 (.mv (.t 0)),.V 13 (.mv (.t 3)),.V 14 (.ia 4 (.t 12) (.t 13)),.V 4 (.asg (.t 14))] [0,3,4] []) (.seq (.seq (.reg false [.V 15 (.mv (.t 4)),.V 16 (.call (.c (.fn 846 [])) [.t 15]),.V 17 (.un .not (.t 16)),.V 18 (.mv (.t 17)),.G 19 (.mv (.t 4)) 3 false,.G 20 (.nilck (.t 19)) 3 false,.G 21 (.fa 3 (.t 20)) 3 false,.G 22 (.ld none (.t 21)) 3 false,.G 23 (.mv (.t 3)) 3 false,.G 24 (.bin .sub (.t 23) (.c (.int .i64 1))) 3 false,.G 25 (.call (.c (.fn 804 [])) [.t 22,.c (.int .i64 0),.t 24]) 3 false,.G 26 (.un .not (.t 25)) 3 false,.V 27 (.pick (.t 18) (.c (.bool true)) (.t 26))] [0,3,4,27] []) (.cond (.t 27) (.seq (.reg false [.V 2 (.asg (.c (.bool false)))] [2] []) .ret) .skip)) (.norm [0,3,4] [] spec_l17Ok_k2)))) spec_l17Ok_k3)
def spec_l17Ok_k5 : C :=
 .norm [0,3] [] spec_l17Ok_k4
def spec_l17Ok_k6 : C :=
 .seq (.reg false [.V 43 (.mv (.t 0)),.V 44 (.len (.t 43)),.V 45 (.bin .leq (.t 44) (.c (.int .i64 12))),.V 2 (.asg (.t 45))] [2] []) .ret
def spec_l17Ok_ir : Fn := { np := 1,io := [],res := [.t 2],own := [false],body :=
 (.seq (.reg false [.V 2 (.asg (.c (.bool false)))] [0] []) (.seq (.seq (.reg false [.V 3 (.asg (.c (.int .i64 0)))] [0,3] []) (.block 0 (.loop spec_l17Ok_k5))) spec_l17Ok_k6)) }
noncomputable def spec_l17Ok_D : List (Nat × Callee) := [(804,spec_l00Rises_c),(846,spec_l17One_c)]
def spec_l17Ok_H : List (Nat × ET) := [(7,T_Step),(12,T_Step),(22,(.one (.int .i64))),(33,T_Step),(43,T_Step)]
noncomputable def spec_l17Ok_c : Callee := mkCallee spec_l17Ok_D spec_l17Ok_H spec_l17Ok_ir [.d (.one (.sl T_Step))] [.d (.one .bool)] []
noncomputable def spec_l17Ok (a0 : List T_Step.ty) : Option (Bool) := spec_l17Ok_c.f (a0,())
noncomputable def spec_l17Ok_p0  (v0 : List T_Step.ty) (v3 : Int) : Option (Bool) :=
 goL spec_l17Ok_D spec_l17Ok_H (vleave spec_l17Ok_ir [.d (.one (.sl T_Step))] [.d (.one .bool)] [] []) [.c spec_l17Ok_k4,.l spec_l17Ok_k5,.e 0,.c spec_l17Ok_k6]
  ⟨[(0,.sl T_Step v0),(3,.int .i64 v3)],[]⟩
noncomputable def spec_l17Ok_p1  (v0 : List T_Step.ty) (v3 : Int) (v4_0 : List UInt8) (v4_1 : Int) (v4_2 : Int) (v4_3 : List Int) : Option (Bool) :=
 goL spec_l17Ok_D spec_l17Ok_H (vleave spec_l17Ok_ir [.d (.one (.sl T_Step))] [.d (.one .bool)] [] []) [.c spec_l17Ok_k2,.e 1,.c spec_l17Ok_k3,.l spec_l17Ok_k5,.e 0,.c spec_l17Ok_k6]
  ⟨[(0,.sl T_Step v0),(3,.int .i64 v3),(4,.ptr [.str v4_0,.int .i64 v4_1,.int .i64 v4_2,.sl (.one (.int .i64)) v4_3] 0)],[]⟩
noncomputable def spec_l17Ok_p2  (v0 : List T_Step.ty) (v3 : Int) (v4_0 : List UInt8) (v4_1 : Int) (v4_2 : Int) (v4_3 : List Int) (v5 : Int) : Option (Bool) :=
 goL spec_l17Ok_D spec_l17Ok_H (vleave spec_l17Ok_ir [.d (.one (.sl T_Step))] [.d (.one .bool)] [] []) [.c spec_l17Ok_k0,.l spec_l17Ok_k1,.e 2,.e 1,.c spec_l17Ok_k3,.l spec_l17Ok_k5,.e 0,.c spec_l17Ok_k6]
  ⟨[(0,.sl T_Step v0),(3,.int .i64 v3),(4,.ptr [.str v4_0,.int .i64 v4_1,.int .i64 v4_2,.sl (.one (.int .i64)) v4_3] 0),(5,.int .i64 v5)],[]⟩
theorem spec_l17Ok_eq (a0 : List T_Step.ty) : spec_l17Ok a0 =
 spec_l17Ok_p0 a0 0 :=
 (mk_f _ _ _ _ _ _ _ 4000).trans (by kernel_rfl)
theorem spec_l17Ok_p0_eq  (v0 : List T_Step.ty) (v3 : Int) : spec_l17Ok_p0 v0 v3 =
 if decide (v3 < (v0.length : Int)) then
  if decide (0 ≤ v3) then
   (v0[v3.toNat]?).bind fun x1 =>
    (spec_l17One x1).bind fun x2 =>
     if (!x2) then
      some false
     else
      (spec_l00Rises x1.2.2.2.1 0 (IntKind.i64.wrap (v3 - 1))).bind fun x3 =>
       if (!x3) then
        some false
       else
        spec_l17Ok_p1 v0 v3 x1.1 x1.2.1 x1.2.2.1 x1.2.2.2.1
  else
   none
 else
  some (decide ((v0.length : Int) ≤ 12)) :=
 (goL_dn _ _ _ 4000 _ _).trans (by kernel_rfl)
theorem spec_l17Ok_p1_eq  (v0 : List T_Step.ty) (v3 : Int) (v4_0 : List UInt8) (v4_1 : Int) (v4_2 : Int) (v4_3 : List Int) : spec_l17Ok_p1 v0 v3 v4_0 v4_1 v4_2 v4_3 =
 spec_l17Ok_p2 v0 v3 v4_0 v4_1 v4_2 v4_3 0 :=
 (goL_dn _ _ _ 4000 _ _).trans (by kernel_rfl)
theorem spec_l17Ok_p2_eq  (v0 : List T_Step.ty) (v3 : Int) (v4_0 : List UInt8) (v4_1 : Int) (v4_2 : Int) (v4_3 : List Int) (v5 : Int) : spec_l17Ok_p2 v0 v3 v4_0 v4_1 v4_2 v4_3 v5 =
 if decide (v5 < v3) then
  if decide (0 ≤ v5) then
   (v0[v5.toNat]?).bind fun x1 =>
    if (x1.1 == v4_0) then
     some false
    else
     spec_l17Ok_p2 v0 v3 v4_0 v4_1 v4_2 v4_3 (IntKind.i64.wrap (v5 + 1))
  else
   none
 else
  spec_l17Ok_p0 v0 (IntKind.i64.wrap (v3 + 1)) :=
 (goL_dn _ _ _ 4000 _ _).trans (by kernel_rfl)
def spec_l00Max_ir : Fn := { np := 2,io := [],res := [.t 4],own := [false],body :=
 (.seq (.reg false [.V 4 (.asg (.c (.int .i64 0)))] [0,1] []) (.seq (.seq (.reg false [.V 5 (.mv (.t 0)),.V 6 (.mv (.t 1)),.V 7 (.bin .gtr (.t 5) (.t 6))] [0,1,7] []) (.cond (.t 7) (.seq (.reg false [.V 8 (.mv (.t 0)),.V 4 (.asg (.t 8))] [4] []) .ret) .skip)) (.seq (.reg false [.V 9 (.mv (.t 1)),.V 4 (.asg (.t 9))] [4] []) .ret))) }
noncomputable def spec_l00Max_D : List (Nat × Callee) := []
def spec_l00Max_H : List (Nat × ET) := []
noncomputable def spec_l00Max_c : Callee := mkCallee spec_l00Max_D spec_l00Max_H spec_l00Max_ir [.d (.one (.int .i64)),.d (.one (.int .i64))] [.d (.one (.int .i64))] []
noncomputable def spec_l00Max (a0 : Int) (a1 : Int) : Option (Int) := spec_l00Max_c.f (a0,a1,())
theorem spec_l00Max_eq (a0 : Int) (a1 : Int) : spec_l00Max a0 a1 =
 if decide (a0 > a1) then
  some a0
 else
  some a1 :=
 (mk_f _ _ _ _ _ _ _ 4000).trans (by kernel_rfl)
def spec_l17Early_k0 : C :=
 .seq (.seq (.reg false [.V 15 (.mv (.t 6)),.V 16 (.mv (.t 0)),.V 17 (.mv (.t 4)),.V 18 (.ia 4 (.t 16) (.t 17)),.V 19 (.fa 3 (.t 18)),.V 20 (.ld none (.t 19)),.V 21 (.len (.t 20)),.V 22 (.bin .lss (.t 15) (.t 21))] [0,3,4,5,6,22] [3]) (.cond (.t 22) .skip (.exit 2))) (.seq (.block 3 (.seq (.reg false [.V 25 (.mv (.t 0)),.V 26 (.mv (.t 4)),.V 27 (.ia 4 (.t 25) (.t 26)),.V 28 (.fa 3 (.t 27)),.V 29 (.ld none (.t 28)),.V 30 (.mv (.t 6)),.V 31 (.ia 1 (.t 29) (.t 30)),.V 32 (.ld none (.t 31)),.V 7 (.asg (.t 32))] [0,3,4,5,6,7] [3]) (.reg true [.V 33 (.mv (.t 5)),.V 34 (.mv (.t 3)),.V 35 (.mv (.t 7)),.V 36 (.ia 1 (.t 34) (.t 35)),.V 37 (.ld none (.t 36)),.V 38 (.mv (.t 0)),.V 39 (.mv (.t 7)),.V 40 (.ia 4 (.t 38) (.t 39)),.V 41 (.fa 1 (.t 40)),.V 42 (.ld none (.t 41)),.V 43 (.bin .add (.t 37) (.t 42)),.V 44 (.call (.c (.fn 17 [])) [.t 33,.t 43]),.V 5 (.asg (.t 44))] [0,3,4,5,6] [3]))) (.reg false [.V 23 (.mv (.t 6)),.V 24 (.bin .add (.t 23) (.c (.int .i64 1))),.V 6 (.asg (.t 24))] [0,3,4,5,6] [3]))
def spec_l17Early_k1 : C :=
 .norm [0,3,4,5,6] [3] spec_l17Early_k0
def spec_l17Early_k2 : C :=
 .reg false [.V 45 (.mv (.t 3)),.V 46 (.mv (.t 5)),.V 47 (.bsl 1 (.int .i64 0) 1 [(0,.t 46)]),.W 48 (.app 1 8 (.t 45) (.t 47)),.W 3 (.asg (.t 48))] [0,3,4] [3]
def spec_l17Early_k3 : C :=
 .reg false [.V 13 (.mv (.t 4)),.V 14 (.bin .add (.t 13) (.c (.int .i64 1))),.V 4 (.asg (.t 14))] [0,3,4] [3]
def spec_l17Early_k4 : C :=
 .seq (.seq (.reg false [.V 9 (.mv (.t 4)),.V 10 (.mv (.t 0)),.V 11 (.len (.t 10)),.V 12 (.bin .lss (.t 9) (.t 11))] [0,3,4,12] [3]) (.cond (.t 12) .skip (.exit 0))) (.seq (.block 1 (.seq (.reg false [.V 5 (.asg (.c (.int .i64 0)))] [0,3,4,5] [3]) (.seq (.seq (.reg false [.V 6 (.asg (.c (.int .i64 0)))] [0,3,4,5,6] [3]) (.block 2 (.loop spec_l17Early_k1))) spec_l17Early_k2))) spec_l17Early_k3)
def spec_l17Early_k5 : C :=
 .norm [0,3,4] [3] spec_l17Early_k4
def spec_l17Early_k6 : C :=
 .seq (.reg false [.V 49 (.mv (.t 3)),.W 2 (.asg (.t 49))] [2] [2,3]) .ret
def spec_l17Early_ir : Fn := { np := 1,io := [],res := [.t 2],own := [true],body :=
 (.seq (.reg false [.W 2 (.asg (.c (.nils 1)))] [0] []) (.seq (.reg false [.V 8 (.bsl 1 (.int .i64 0) 0 []),.W 3 (.asg (.t 8))] [0,3] [3]) (.seq (.seq (.reg false [.V 4 (.asg (.c (.int .i64 0)))] [0,3,4] [3]) (.block 0 (.loop spec_l17Early_k5))) spec_l17Early_k6))) }
noncomputable def spec_l17Early_D : List (Nat × Callee) := [(17,spec_l00Max_c)]
def spec_l17Early_H : List (Nat × ET) := [(2,(.one (.int .i64))),(3,(.one (.int .i64))),(8,(.one (.int .i64))),(10,T_Step),(16,T_Step),(20,(.one (.int .i64))),(25,T_Step),(29,(.one (.int .i64))),(34,(.one (.int .i64))),(38,T_Step),(45,(.one (.int .i64))),(47,(.one (.int .i64))),(48,(.one (.int .i64))),(49,(.one (.int .i64)))]
noncomputable def spec_l17Early_c : Callee := mkCallee spec_l17Early_D spec_l17Early_H spec_l17Early_ir [.d (.one (.sl T_Step))] [.tok (.one (.int .i64))] []
noncomputable def spec_l17Early (a0 : List T_Step.ty) : Option (List Int) := spec_l17Early_c.f (a0,())
noncomputable def spec_l17Early_p0  (v0 : List T_Step.ty) (v4 : Int) (r3 : List Int) : Option (List Int) :=
 goL spec_l17Early_D spec_l17Early_H (vleave spec_l17Early_ir [.d (.one (.sl T_Step))] [.tok (.one (.int .i64))] [] []) [.c spec_l17Early_k4,.l spec_l17Early_k5,.e 0,.c spec_l17Early_k6]
  ⟨[(0,.sl T_Step v0),(3,.view 3 0 r3.length),(4,.int .i64 v4)],[(3,some (.sl (.one (.int .i64)) r3))]⟩
noncomputable def spec_l17Early_p1  (v0 : List T_Step.ty) (v4 : Int) (v5 : Int) (v6 : Int) (r3 : List Int) : Option (List Int) :=
 goL spec_l17Early_D spec_l17Early_H (vleave spec_l17Early_ir [.d (.one (.sl T_Step))] [.tok (.one (.int .i64))] [] []) [.c spec_l17Early_k0,.l spec_l17Early_k1,.e 2,.c spec_l17Early_k2,.e 1,.c spec_l17Early_k3,.l spec_l17Early_k5,.e 0,.c spec_l17Early_k6]
  ⟨[(0,.sl T_Step v0),(3,.view 3 0 r3.length),(4,.int .i64 v4),(5,.int .i64 v5),(6,.int .i64 v6)],[(3,some (.sl (.one (.int .i64)) r3))]⟩
theorem spec_l17Early_eq (a0 : List T_Step.ty) : spec_l17Early a0 =
 spec_l17Early_p0 a0 0 [] :=
 (mk_f _ _ _ _ _ _ _ 4000).trans (by kernel_rfl)
theorem spec_l17Early_p0_eq  (v0 : List T_Step.ty) (v4 : Int) (r3 : List Int) : spec_l17Early_p0 v0 v4 r3 =
 if decide (v4 < (v0.length : Int)) then
  spec_l17Early_p1 v0 v4 0 0 r3
 else
  some (r3.take r3.length) :=
 (goL_dn _ _ _ 4000 _ _).trans (by kernel_rfl)
theorem spec_l17Early_p1_eq  (v0 : List T_Step.ty) (v4 : Int) (v5 : Int) (v6 : Int) (r3 : List Int) : spec_l17Early_p1 v0 v4 v5 v6 r3 =
 if decide (0 ≤ v4) then
  (v0[v4.toNat]?).bind fun x1 =>
   if decide (v6 < (x1.2.2.2.1.length : Int)) then
    if decide (0 ≤ v4) then
     (v0[v4.toNat]?).bind fun x2 =>
      if decide (0 ≤ v6) then
       (x2.2.2.2.1[v6.toNat]?).bind fun x3 =>
        if decide (0 ≤ x3) && decide (x3 < (r3.length : Int)) then
         (r3[x3.toNat]?).bind fun x4 =>
          if decide (0 ≤ x3) then
           (v0[x3.toNat]?).bind fun x5 =>
            (spec_l00Max v5 (IntKind.i64.wrap (x4 + x5.2.1))).bind fun x6 =>
             spec_l17Early_p1 v0 v4 x6 (IntKind.i64.wrap (v6 + 1)) r3
          else
           none
        else
         none
      else
       none
    else
     none
   else
    if decide (r3.length + 1 < lim) then
     spec_l17Early_p0 v0 (IntKind.i64.wrap (v4 + 1)) ((r3.take r3.length) ++ [v5])
    else
     none
 else
  none :=
 (goL_dn _ _ _ 4000 _ _).trans (by kernel_rfl)
def spec_EarliestStarts_ir : Fn := { np := 1,io := [],res := [.t 2,.t 3],own := [true,false],body :=
 (.seq (.reg false [.W 2 (.asg (.c (.nils 1))),.V 3 (.asg (.c (.int .i64 0)))] [0] []) (.seq (.seq (.reg false [.V 4 (.mv (.t 0)),.V 5 (.call (.c (.fn 462 [])) [.t 4]),.V 6 (.un .not (.t 5))] [0,6] []) (.cond (.t 6) (.seq (.reg false [.W 2 (.asg (.c (.nils 1))),.V 3 (.asg (.c (.int .i64 1)))] [2,3] [2]) .ret) .skip)) (.seq (.reg false [.V 7 (.mv (.t 0)),.V 8 (.call (.c (.fn 535 [])) [.t 7]),.W 2 (.asg (.t 8)),.V 3 (.asg (.c (.int .i64 0)))] [2,3] [2]) .ret))) }
noncomputable def spec_EarliestStarts_D : List (Nat × Callee) := [(462,spec_l17Ok_c),(535,spec_l17Early_c)]
def spec_EarliestStarts_H : List (Nat × ET) := [(2,(.one (.int .i64))),(4,T_Step),(7,T_Step),(8,(.one (.int .i64)))]
noncomputable def spec_EarliestStarts_c : Callee := mkCallee spec_EarliestStarts_D spec_EarliestStarts_H spec_EarliestStarts_ir [.d (.one (.sl T_Step))] [.tok (.one (.int .i64)),.d (.one (.int .i64))] []
noncomputable def spec_EarliestStarts (a0 : List T_Step.ty) : Option (List Int × Int) := spec_EarliestStarts_c.f (a0,())
theorem spec_EarliestStarts_eq (a0 : List T_Step.ty) : spec_EarliestStarts a0 =
 (spec_l17Ok a0).bind fun x1 =>
  if (!x1) then
   some ([],1)
  else
   (spec_l17Early a0).bind fun x2 =>
    some ((x2.take x2.length),0) :=
 (mk_f _ _ _ _ _ _ _ 4000).trans (by kernel_rfl)
def spec_l17End_k0 : C :=
 .seq (.seq (.reg false [.V 7 (.mv (.t 6)),.V 8 (.mv (.t 0)),.V 9 (.len (.t 8)),.V 10 (.bin .lss (.t 7) (.t 9))] [0,1,5,6,10] []) (.cond (.t 10) .skip (.exit 0))) (.seq (.block 1 (.reg true [.V 13 (.mv (.t 5)),.V 14 (.mv (.t 1)),.V 15 (.mv (.t 6)),.V 16 (.ia 1 (.t 14) (.t 15)),.V 17 (.ld none (.t 16)),.V 18 (.mv (.t 0)),.V 19 (.mv (.t 6)),.V 20 (.ia 4 (.t 18) (.t 19)),.V 21 (.fa 1 (.t 20)),.V 22 (.ld none (.t 21)),.V 23 (.bin .add (.t 17) (.t 22)),.V 24 (.call (.c (.fn 17 [])) [.t 13,.t 23]),.V 5 (.asg (.t 24))] [0,1,5,6] [])) (.reg false [.V 11 (.mv (.t 6)),.V 12 (.bin .add (.t 11) (.c (.int .i64 1))),.V 6 (.asg (.t 12))] [0,1,5,6] []))
def spec_l17End_k1 : C :=
 .norm [0,1,5,6] [] spec_l17End_k0
def spec_l17End_k2 : C :=
 .seq (.reg false [.V 25 (.mv (.t 5)),.V 4 (.asg (.t 25))] [4] []) .ret
def spec_l17End_ir : Fn := { np := 2,io := [],res := [.t 4],own := [false],body :=
 (.seq (.reg false [.V 4 (.asg (.c (.int .i64 0)))] [0,1] []) (.seq (.reg false [.V 5 (.asg (.c (.int .i64 0)))] [0,1,5] []) (.seq (.seq (.reg false [.V 6 (.asg (.c (.int .i64 0)))] [0,1,5,6] []) (.block 0 (.loop spec_l17End_k1))) spec_l17End_k2))) }
noncomputable def spec_l17End_D : List (Nat × Callee) := [(17,spec_l00Max_c)]
def spec_l17End_H : List (Nat × ET) := [(8,T_Step),(14,(.one (.int .i64))),(18,T_Step)]
noncomputable def spec_l17End_c : Callee := mkCallee spec_l17End_D spec_l17End_H spec_l17End_ir [.d (.one (.sl T_Step)),.d (.one (.sl (.one (.int .i64))))] [.d (.one (.int .i64))] []
noncomputable def spec_l17End (a0 : List T_Step.ty) (a1 : List Int) : Option (Int) := spec_l17End_c.f (a0,a1,())
noncomputable def spec_l17End_p0  (v0 : List T_Step.ty) (v1 : List Int) (v5 : Int) (v6 : Int) : Option (Int) :=
 goL spec_l17End_D spec_l17End_H (vleave spec_l17End_ir [.d (.one (.sl T_Step)),.d (.one (.sl (.one (.int .i64))))] [.d (.one (.int .i64))] [] []) [.c spec_l17End_k0,.l spec_l17End_k1,.e 0,.c spec_l17End_k2]
  ⟨[(0,.sl T_Step v0),(1,.sl (.one (.int .i64)) v1),(5,.int .i64 v5),(6,.int .i64 v6)],[]⟩
theorem spec_l17End_eq (a0 : List T_Step.ty) (a1 : List Int) : spec_l17End a0 a1 =
 spec_l17End_p0 a0 a1 0 0 :=
 (mk_f _ _ _ _ _ _ _ 4000).trans (by kernel_rfl)
theorem spec_l17End_p0_eq  (v0 : List T_Step.ty) (v1 : List Int) (v5 : Int) (v6 : Int) : spec_l17End_p0 v0 v1 v5 v6 =
 if decide (v6 < (v0.length : Int)) then
  if decide (0 ≤ v6) then
   (v1[v6.toNat]?).bind fun x1 =>
    if decide (0 ≤ v6) then
     (v0[v6.toNat]?).bind fun x2 =>
      (spec_l00Max v5 (IntKind.i64.wrap (x1 + x2.2.1))).bind fun x3 =>
       spec_l17End_p0 v0 v1 x3 (IntKind.i64.wrap (v6 + 1))
    else
     none
  else
   none
 else
  some v5 :=
 (goL_dn _ _ _ 4000 _ _).trans (by kernel_rfl)
def spec_TotalHours_ir : Fn := { np := 1,io := [],res := [.t 2,.t 3],own := [false,false],body :=
 (.seq (.reg false [.V 2 (.asg (.c (.int .i64 0))),.V 3 (.asg (.c (.int .i64 0)))] [0] []) (.seq (.seq (.reg false [.V 4 (.mv (.t 0)),.V 5 (.call (.c (.fn 462 [])) [.t 4]),.V 6 (.un .not (.t 5))] [0,6] []) (.cond (.t 6) (.seq (.reg false [.V 2 (.asg (.c (.int .i64 0))),.V 3 (.asg (.c (.int .i64 1)))] [2,3] []) .ret) .skip)) (.seq (.reg false [.V 7 (.mv (.t 0)),.V 8 (.mv (.t 0)),.V 9 (.call (.c (.fn 535 [])) [.t 8]),.V 10 (.call (.c (.fn 536 [])) [.t 7,.t 9]),.V 2 (.asg (.t 10)),.V 3 (.asg (.c (.int .i64 0)))] [2,3] []) .ret))) }
noncomputable def spec_TotalHours_D : List (Nat × Callee) := [(462,spec_l17Ok_c),(535,spec_l17Early_c),(536,spec_l17End_c)]
def spec_TotalHours_H : List (Nat × ET) := [(4,T_Step),(7,T_Step),(8,T_Step),(9,(.one (.int .i64)))]
noncomputable def spec_TotalHours_c : Callee := mkCallee spec_TotalHours_D spec_TotalHours_H spec_TotalHours_ir [.d (.one (.sl T_Step))] [.d (.one (.int .i64)),.d (.one (.int .i64))] []
noncomputable def spec_TotalHours (a0 : List T_Step.ty) : Option (Int × Int) := spec_TotalHours_c.f (a0,())
theorem spec_TotalHours_eq (a0 : List T_Step.ty) : spec_TotalHours a0 =
 (spec_l17Ok a0).bind fun x1 =>
  if (!x1) then
   some (0,1)
  else
   (spec_l17Early a0).bind fun x2 =>
    (spec_l17End a0 x2).bind fun x3 =>
     some (x3,0) :=
 (mk_f _ _ _ _ _ _ _ 4000).trans (by kernel_rfl)
def laws_r8Same_k0 : C :=
 .seq (.seq (.reg false [.V 11 (.mv (.t 5)),.V 12 (.mv (.t 0)),.V 13 (.len (.t 12)),.V 14 (.bin .lss (.t 11) (.t 13))] [0,1,5,14] []) (.cond (.t 14) .skip (.exit 0))) (.seq (.block 1 (.seq (.reg true [.V 17 (.mv (.t 0)),.V 18 (.mv (.t 5)),.V 19 (.ia 1 (.t 17) (.t 18)),.V 20 (.ld none (.t 19)),.V 21 (.mv (.t 1)),.V 22 (.mv (.t 5)),.V 23 (.ia 1 (.t 21) (.t 22)),.V 24 (.ld none (.t 23)),.V 25 (.bin .neq (.t 20) (.t 24))] [0,1,5,25] []) (.cond (.t 25) (.seq (.reg false [.V 4 (.asg (.c (.bool false)))] [4] []) .ret) .skip))) (.reg false [.V 15 (.mv (.t 5)),.V 16 (.bin .add (.t 15) (.c (.int .i64 1))),.V 5 (.asg (.t 16))] [0,1,5] []))
def laws_r8Same_k1 : C :=
 .norm [0,1,5] [] laws_r8Same_k0
def laws_r8Same_k2 : C :=
 .seq (.reg false [.V 4 (.asg (.c (.bool true)))] [4] []) .ret
def laws_r8Same_ir : Fn := { np := 2,io := [],res := [.t 4],own := [false],body :=
 (.seq (.reg false [.V 4 (.asg (.c (.bool false)))] [0,1] []) (.seq (.seq (.reg false [.V 6 (.mv (.t 0)),.V 7 (.len (.t 6)),.V 8 (.mv (.t 1)),.V 9 (.len (.t 8)),.V 10 (.bin .neq (.t 7) (.t 9))] [0,1,10] []) (.cond (.t 10) (.seq (.reg false [.V 4 (.asg (.c (.bool false)))] [4] []) .ret) .skip)) (.seq (.seq (.reg false [.V 5 (.asg (.c (.int .i64 0)))] [0,1,5] []) (.block 0 (.loop laws_r8Same_k1))) laws_r8Same_k2))) }
noncomputable def laws_r8Same_D : List (Nat × Callee) := []
def laws_r8Same_H : List (Nat × ET) := [(6,(.one (.int .i64))),(8,(.one (.int .i64))),(12,(.one (.int .i64))),(17,(.one (.int .i64))),(21,(.one (.int .i64)))]
noncomputable def laws_r8Same_c : Callee := mkCallee laws_r8Same_D laws_r8Same_H laws_r8Same_ir [.d (.one (.sl (.one (.int .i64)))),.d (.one (.sl (.one (.int .i64))))] [.d (.one .bool)] []
noncomputable def laws_r8Same (a0 : List Int) (a1 : List Int) : Option (Bool) := laws_r8Same_c.f (a0,a1,())
noncomputable def laws_r8Same_p0  (v0 : List Int) (v1 : List Int) (v5 : Int) : Option (Bool) :=
 goL laws_r8Same_D laws_r8Same_H (vleave laws_r8Same_ir [.d (.one (.sl (.one (.int .i64)))),.d (.one (.sl (.one (.int .i64))))] [.d (.one .bool)] [] []) [.c laws_r8Same_k0,.l laws_r8Same_k1,.e 0,.c laws_r8Same_k2]
  ⟨[(0,.sl (.one (.int .i64)) v0),(1,.sl (.one (.int .i64)) v1),(5,.int .i64 v5)],[]⟩
theorem laws_r8Same_eq (a0 : List Int) (a1 : List Int) : laws_r8Same a0 a1 =
 if ((a0.length : Int) != (a1.length : Int)) then
  some false
 else
  laws_r8Same_p0 a0 a1 0 :=
 (mk_f _ _ _ _ _ _ _ 4000).trans (by kernel_rfl)
theorem laws_r8Same_p0_eq  (v0 : List Int) (v1 : List Int) (v5 : Int) : laws_r8Same_p0 v0 v1 v5 =
 if decide (v5 < (v0.length : Int)) then
  if decide (0 ≤ v5) then
   (v0[v5.toNat]?).bind fun x1 =>
    if decide (0 ≤ v5) then
     (v1[v5.toNat]?).bind fun x2 =>
      if (x1 != x2) then
       some false
      else
       laws_r8Same_p0 v0 v1 (IntKind.i64.wrap (v5 + 1))
    else
     none
  else
   none
 else
  some true :=
 (goL_dn _ _ _ 4000 _ _).trans (by kernel_rfl)
def spec_l17Starts_k0 : C :=
 .seq (.seq (.reg false [.V 6 (.mv (.t 5)),.V 7 (.mv (.t 1)),.V 8 (.len (.t 7)),.V 9 (.bin .lss (.t 6) (.t 8))] [0,1,5,9] []) (.cond (.t 9) .skip (.exit 0))) (.seq (.block 1 (.seq (.reg false [.V 12 (.mv (.t 1)),.V 13 (.mv (.t 5)),.V 14 (.ia 1 (.t 12) (.t 13)),.V 15 (.ld none (.t 14)),.V 16 (.call (.c (.fn 1 [])) [.t 15,.c (.int .i64 0),.c (.int .i64 2400)]),.V 17 (.un .not (.t 16))] [0,1,5,17] []) (.cond (.t 17) (.seq (.reg false [.V 4 (.asg (.c (.bool false)))] [4] []) .ret) .skip))) (.reg false [.V 10 (.mv (.t 5)),.V 11 (.bin .add (.t 10) (.c (.int .i64 1))),.V 5 (.asg (.t 11))] [0,1,5] []))
def spec_l17Starts_k1 : C :=
 .norm [0,1,5] [] spec_l17Starts_k0
def spec_l17Starts_k2 : C :=
 .seq (.reg false [.V 18 (.mv (.t 1)),.V 19 (.len (.t 18)),.V 20 (.mv (.t 0)),.V 21 (.len (.t 20)),.V 22 (.bin .eql (.t 19) (.t 21)),.V 4 (.asg (.t 22))] [4] []) .ret
def spec_l17Starts_ir : Fn := { np := 2,io := [],res := [.t 4],own := [false],body :=
 (.seq (.reg false [.V 4 (.asg (.c (.bool false)))] [0,1] []) (.seq (.seq (.reg false [.V 5 (.asg (.c (.int .i64 0)))] [0,1,5] []) (.block 0 (.loop spec_l17Starts_k1))) spec_l17Starts_k2)) }
noncomputable def spec_l17Starts_D : List (Nat × Callee) := [(1,spec_l00In_c)]
def spec_l17Starts_H : List (Nat × ET) := [(7,(.one (.int .i64))),(12,(.one (.int .i64))),(18,(.one (.int .i64))),(20,T_Step)]
noncomputable def spec_l17Starts_c : Callee := mkCallee spec_l17Starts_D spec_l17Starts_H spec_l17Starts_ir [.d (.one (.sl T_Step)),.d (.one (.sl (.one (.int .i64))))] [.d (.one .bool)] []
noncomputable def spec_l17Starts (a0 : List T_Step.ty) (a1 : List Int) : Option (Bool) := spec_l17Starts_c.f (a0,a1,())
noncomputable def spec_l17Starts_p0  (v0 : List T_Step.ty) (v1 : List Int) (v5 : Int) : Option (Bool) :=
 goL spec_l17Starts_D spec_l17Starts_H (vleave spec_l17Starts_ir [.d (.one (.sl T_Step)),.d (.one (.sl (.one (.int .i64))))] [.d (.one .bool)] [] []) [.c spec_l17Starts_k0,.l spec_l17Starts_k1,.e 0,.c spec_l17Starts_k2]
  ⟨[(0,.sl T_Step v0),(1,.sl (.one (.int .i64)) v1),(5,.int .i64 v5)],[]⟩
theorem spec_l17Starts_eq (a0 : List T_Step.ty) (a1 : List Int) : spec_l17Starts a0 a1 =
 spec_l17Starts_p0 a0 a1 0 :=
 (mk_f _ _ _ _ _ _ _ 4000).trans (by kernel_rfl)
theorem spec_l17Starts_p0_eq  (v0 : List T_Step.ty) (v1 : List Int) (v5 : Int) : spec_l17Starts_p0 v0 v1 v5 =
 if decide (v5 < (v1.length : Int)) then
  if decide (0 ≤ v5) then
   (v1[v5.toNat]?).bind fun x1 =>
    (spec_l00In x1 0 2400).bind fun x2 =>
     if (!x2) then
      some false
     else
      spec_l17Starts_p0 v0 v1 (IntKind.i64.wrap (v5 + 1))
  else
   none
 else
  some ((v1.length : Int) == (v0.length : Int)) :=
 (goL_dn _ _ _ 4000 _ _).trans (by kernel_rfl)
def spec_l17Used_k0 : C :=
 .reg false [.V 35 (.mv (.t 7)),.V 36 (.mv (.t 0)),.V 37 (.mv (.t 8)),.V 38 (.ia 4 (.t 36) (.t 37)),.V 39 (.fa 2 (.t 38)),.V 40 (.ld none (.t 39)),.V 41 (.bin .add (.t 35) (.t 40)),.V 7 (.asg (.t 41))] [0,1,2,7,8] []
def spec_l17Used_k1 : C :=
 .reg false [.V 13 (.mv (.t 8)),.V 14 (.bin .add (.t 13) (.c (.int .i64 1))),.V 8 (.asg (.t 14))] [0,1,2,7,8] []
def spec_l17Used_k2 : C :=
 .seq (.seq (.reg false [.V 9 (.mv (.t 8)),.V 10 (.mv (.t 1)),.V 11 (.len (.t 10)),.V 12 (.bin .lss (.t 9) (.t 11))] [0,1,2,7,8,12] []) (.cond (.t 12) .skip (.exit 0))) (.seq (.block 1 (.seq (.reg true [.V 15 (.mv (.t 1)),.V 16 (.mv (.t 8)),.V 17 (.ia 1 (.t 15) (.t 16)),.V 18 (.ld none (.t 17)),.V 19 (.mv (.t 2)),.V 20 (.bin .leq (.t 18) (.t 19)),.V 21 (.mv (.t 20)),.G 22 (.mv (.t 2)) 6 true,.G 23 (.mv (.t 1)) 6 true,.G 24 (.mv (.t 8)) 6 true,.G 25 (.ia 1 (.t 23) (.t 24)) 6 true,.G 26 (.ld none (.t 25)) 6 true,.G 27 (.mv (.t 0)) 6 true,.G 28 (.mv (.t 8)) 6 true,.G 29 (.ia 4 (.t 27) (.t 28)) 6 true,.G 30 (.fa 1 (.t 29)) 6 true,.G 31 (.ld none (.t 30)) 6 true,.G 32 (.bin .add (.t 26) (.t 31)) 6 true,.G 33 (.bin .lss (.t 22) (.t 32)) 6 true,.V 34 (.pick (.t 21) (.t 33) (.c (.bool false)))] [0,1,2,7,8,34] []) (.cond (.t 34) (.norm [0,1,2,7,8] [] spec_l17Used_k0) .skip))) spec_l17Used_k1)
def spec_l17Used_k3 : C :=
 .norm [0,1,2,7,8] [] spec_l17Used_k2
def spec_l17Used_k4 : C :=
 .seq (.reg false [.V 42 (.mv (.t 7)),.V 6 (.asg (.t 42))] [6] []) .ret
def spec_l17Used_ir : Fn := { np := 3,io := [],res := [.t 6],own := [false],body :=
 (.seq (.reg false [.V 6 (.asg (.c (.int .i64 0)))] [0,1,2] []) (.seq (.reg false [.V 7 (.asg (.c (.int .i64 0)))] [0,1,2,7] []) (.seq (.seq (.reg false [.V 8 (.asg (.c (.int .i64 0)))] [0,1,2,7,8] []) (.block 0 (.loop spec_l17Used_k3))) spec_l17Used_k4))) }
noncomputable def spec_l17Used_D : List (Nat × Callee) := []
def spec_l17Used_H : List (Nat × ET) := [(10,(.one (.int .i64))),(15,(.one (.int .i64))),(23,(.one (.int .i64))),(27,T_Step),(36,T_Step)]
noncomputable def spec_l17Used_c : Callee := mkCallee spec_l17Used_D spec_l17Used_H spec_l17Used_ir [.d (.one (.sl T_Step)),.d (.one (.sl (.one (.int .i64)))),.d (.one (.int .i64))] [.d (.one (.int .i64))] []
noncomputable def spec_l17Used (a0 : List T_Step.ty) (a1 : List Int) (a2 : Int) : Option (Int) := spec_l17Used_c.f (a0,a1,a2,())
noncomputable def spec_l17Used_p0  (v0 : List T_Step.ty) (v1 : List Int) (v2 : Int) (v7 : Int) (v8 : Int) : Option (Int) :=
 goL spec_l17Used_D spec_l17Used_H (vleave spec_l17Used_ir [.d (.one (.sl T_Step)),.d (.one (.sl (.one (.int .i64)))),.d (.one (.int .i64))] [.d (.one (.int .i64))] [] []) [.c spec_l17Used_k2,.l spec_l17Used_k3,.e 0,.c spec_l17Used_k4]
  ⟨[(0,.sl T_Step v0),(1,.sl (.one (.int .i64)) v1),(2,.int .i64 v2),(7,.int .i64 v7),(8,.int .i64 v8)],[]⟩
noncomputable def spec_l17Used_p1  (v0 : List T_Step.ty) (v1 : List Int) (v2 : Int) (v7 : Int) (v8 : Int) : Option (Int) :=
 goL spec_l17Used_D spec_l17Used_H (vleave spec_l17Used_ir [.d (.one (.sl T_Step)),.d (.one (.sl (.one (.int .i64)))),.d (.one (.int .i64))] [.d (.one (.int .i64))] [] []) [.c spec_l17Used_k0,.e 1,.c spec_l17Used_k1,.l spec_l17Used_k3,.e 0,.c spec_l17Used_k4]
  ⟨[(0,.sl T_Step v0),(1,.sl (.one (.int .i64)) v1),(2,.int .i64 v2),(7,.int .i64 v7),(8,.int .i64 v8)],[]⟩
theorem spec_l17Used_eq (a0 : List T_Step.ty) (a1 : List Int) (a2 : Int) : spec_l17Used a0 a1 a2 =
 spec_l17Used_p0 a0 a1 a2 0 0 :=
 (mk_f _ _ _ _ _ _ _ 4000).trans (by kernel_rfl)
theorem spec_l17Used_p0_eq  (v0 : List T_Step.ty) (v1 : List Int) (v2 : Int) (v7 : Int) (v8 : Int) : spec_l17Used_p0 v0 v1 v2 v7 v8 =
 if decide (v8 < (v1.length : Int)) then
  if decide (0 ≤ v8) then
   (v1[v8.toNat]?).bind fun x1 =>
    if decide (x1 ≤ v2) then
     if decide (0 ≤ v8) then
      (v1[v8.toNat]?).bind fun x2 =>
       if decide (0 ≤ v8) then
        (v0[v8.toNat]?).bind fun x3 =>
         if decide (v2 < IntKind.i64.wrap (x2 + x3.2.1)) then
          spec_l17Used_p1 v0 v1 v2 v7 v8
         else
          spec_l17Used_p0 v0 v1 v2 v7 (IntKind.i64.wrap (v8 + 1))
       else
        none
     else
      none
    else
     spec_l17Used_p0 v0 v1 v2 v7 (IntKind.i64.wrap (v8 + 1))
  else
   none
 else
  some v7 :=
 (goL_dn _ _ _ 4000 _ _).trans (by kernel_rfl)
theorem spec_l17Used_p1_eq  (v0 : List T_Step.ty) (v1 : List Int) (v2 : Int) (v7 : Int) (v8 : Int) : spec_l17Used_p1 v0 v1 v2 v7 v8 =
 if decide (0 ≤ v8) then
  (v0[v8.toNat]?).bind fun x1 =>
   spec_l17Used_p0 v0 v1 v2 (IntKind.i64.wrap (v7 + x1.2.2.1)) (IntKind.i64.wrap (v8 + 1))
 else
  none :=
 (goL_dn _ _ _ 4000 _ _).trans (by kernel_rfl)
def spec_l17Keeps_k0 : C :=
 .seq (.seq (.reg false [.V 16 (.mv (.t 8)),.V 17 (.mv (.t 0)),.V 18 (.mv (.t 7)),.V 19 (.ia 4 (.t 17) (.t 18)),.V 20 (.fa 3 (.t 19)),.V 21 (.ld none (.t 20)),.V 22 (.len (.t 21)),.V 23 (.bin .lss (.t 16) (.t 22))] [0,1,2,7,8,23] []) (.cond (.t 23) .skip (.exit 2))) (.seq (.block 3 (.seq (.reg false [.V 26 (.mv (.t 0)),.V 27 (.mv (.t 7)),.V 28 (.ia 4 (.t 26) (.t 27)),.V 29 (.fa 3 (.t 28)),.V 30 (.ld none (.t 29)),.V 31 (.mv (.t 8)),.V 32 (.ia 1 (.t 30) (.t 31)),.V 33 (.ld none (.t 32)),.V 9 (.asg (.t 33))] [0,1,2,7,8,9] []) (.seq (.reg true [.V 34 (.mv (.t 1)),.V 35 (.mv (.t 7)),.V 36 (.ia 1 (.t 34) (.t 35)),.V 37 (.ld none (.t 36)),.V 38 (.mv (.t 1)),.V 39 (.mv (.t 9)),.V 40 (.ia 1 (.t 38) (.t 39)),.V 41 (.ld none (.t 40)),.V 42 (.mv (.t 0)),.V 43 (.mv (.t 9)),.V 44 (.ia 4 (.t 42) (.t 43)),.V 45 (.fa 1 (.t 44)),.V 46 (.ld none (.t 45)),.V 47 (.bin .add (.t 41) (.t 46)),.V 48 (.bin .lss (.t 37) (.t 47))] [0,1,2,7,8,48] []) (.cond (.t 48) (.seq (.reg false [.V 6 (.asg (.c (.bool false)))] [6] []) .ret) .skip)))) (.reg false [.V 24 (.mv (.t 8)),.V 25 (.bin .add (.t 24) (.c (.int .i64 1))),.V 8 (.asg (.t 25))] [0,1,2,7,8] []))
def spec_l17Keeps_k1 : C :=
 .norm [0,1,2,7,8] [] spec_l17Keeps_k0
def spec_l17Keeps_k2 : C :=
 .seq (.reg false [.V 49 (.mv (.t 0)),.V 50 (.mv (.t 1)),.V 51 (.mv (.t 1)),.V 52 (.mv (.t 7)),.V 53 (.ia 1 (.t 51) (.t 52)),.V 54 (.ld none (.t 53)),.V 55 (.call (.c (.fn 720 [])) [.t 49,.t 50,.t 54]),.V 56 (.mv (.t 2)),.V 57 (.bin .gtr (.t 55) (.t 56))] [0,1,2,7,57] []) (.cond (.t 57) (.seq (.reg false [.V 6 (.asg (.c (.bool false)))] [6] []) .ret) .skip)
def spec_l17Keeps_k3 : C :=
 .reg false [.V 14 (.mv (.t 7)),.V 15 (.bin .add (.t 14) (.c (.int .i64 1))),.V 7 (.asg (.t 15))] [0,1,2,7] []
def spec_l17Keeps_k4 : C :=
 .seq (.seq (.reg false [.V 10 (.mv (.t 7)),.V 11 (.mv (.t 0)),.V 12 (.len (.t 11)),.V 13 (.bin .lss (.t 10) (.t 12))] [0,1,2,7,13] []) (.cond (.t 13) .skip (.exit 0))) (.seq (.block 1 (.seq (.seq (.reg false [.V 8 (.asg (.c (.int .i64 0)))] [0,1,2,7,8] []) (.block 2 (.loop spec_l17Keeps_k1))) spec_l17Keeps_k2)) spec_l17Keeps_k3)
def spec_l17Keeps_k5 : C :=
 .norm [0,1,2,7] [] spec_l17Keeps_k4
def spec_l17Keeps_k6 : C :=
 .seq (.reg false [.V 6 (.asg (.c (.bool true)))] [6] []) .ret
def spec_l17Keeps_ir : Fn := { np := 3,io := [],res := [.t 6],own := [false],body :=
 (.seq (.reg false [.V 6 (.asg (.c (.bool false)))] [0,1,2] []) (.seq (.seq (.reg false [.V 7 (.asg (.c (.int .i64 0)))] [0,1,2,7] []) (.block 0 (.loop spec_l17Keeps_k5))) spec_l17Keeps_k6)) }
noncomputable def spec_l17Keeps_D : List (Nat × Callee) := [(720,spec_l17Used_c)]
def spec_l17Keeps_H : List (Nat × ET) := [(11,T_Step),(17,T_Step),(21,(.one (.int .i64))),(26,T_Step),(30,(.one (.int .i64))),(34,(.one (.int .i64))),(38,(.one (.int .i64))),(42,T_Step),(49,T_Step),(50,(.one (.int .i64))),(51,(.one (.int .i64)))]
noncomputable def spec_l17Keeps_c : Callee := mkCallee spec_l17Keeps_D spec_l17Keeps_H spec_l17Keeps_ir [.d (.one (.sl T_Step)),.d (.one (.sl (.one (.int .i64)))),.d (.one (.int .i64))] [.d (.one .bool)] []
noncomputable def spec_l17Keeps (a0 : List T_Step.ty) (a1 : List Int) (a2 : Int) : Option (Bool) := spec_l17Keeps_c.f (a0,a1,a2,())
noncomputable def spec_l17Keeps_p0  (v0 : List T_Step.ty) (v1 : List Int) (v2 : Int) (v7 : Int) : Option (Bool) :=
 goL spec_l17Keeps_D spec_l17Keeps_H (vleave spec_l17Keeps_ir [.d (.one (.sl T_Step)),.d (.one (.sl (.one (.int .i64)))),.d (.one (.int .i64))] [.d (.one .bool)] [] []) [.c spec_l17Keeps_k4,.l spec_l17Keeps_k5,.e 0,.c spec_l17Keeps_k6]
  ⟨[(0,.sl T_Step v0),(1,.sl (.one (.int .i64)) v1),(2,.int .i64 v2),(7,.int .i64 v7)],[]⟩
noncomputable def spec_l17Keeps_p1  (v0 : List T_Step.ty) (v1 : List Int) (v2 : Int) (v7 : Int) (v8 : Int) : Option (Bool) :=
 goL spec_l17Keeps_D spec_l17Keeps_H (vleave spec_l17Keeps_ir [.d (.one (.sl T_Step)),.d (.one (.sl (.one (.int .i64)))),.d (.one (.int .i64))] [.d (.one .bool)] [] []) [.c spec_l17Keeps_k0,.l spec_l17Keeps_k1,.e 2,.c spec_l17Keeps_k2,.e 1,.c spec_l17Keeps_k3,.l spec_l17Keeps_k5,.e 0,.c spec_l17Keeps_k6]
  ⟨[(0,.sl T_Step v0),(1,.sl (.one (.int .i64)) v1),(2,.int .i64 v2),(7,.int .i64 v7),(8,.int .i64 v8)],[]⟩
theorem spec_l17Keeps_eq (a0 : List T_Step.ty) (a1 : List Int) (a2 : Int) : spec_l17Keeps a0 a1 a2 =
 spec_l17Keeps_p0 a0 a1 a2 0 :=
 (mk_f _ _ _ _ _ _ _ 4000).trans (by kernel_rfl)
theorem spec_l17Keeps_p0_eq  (v0 : List T_Step.ty) (v1 : List Int) (v2 : Int) (v7 : Int) : spec_l17Keeps_p0 v0 v1 v2 v7 =
 if decide (v7 < (v0.length : Int)) then
  spec_l17Keeps_p1 v0 v1 v2 v7 0
 else
  some true :=
 (goL_dn _ _ _ 4000 _ _).trans (by kernel_rfl)
theorem spec_l17Keeps_p1_eq  (v0 : List T_Step.ty) (v1 : List Int) (v2 : Int) (v7 : Int) (v8 : Int) : spec_l17Keeps_p1 v0 v1 v2 v7 v8 =
 if decide (0 ≤ v7) then
  (v0[v7.toNat]?).bind fun x1 =>
   if decide (v8 < (x1.2.2.2.1.length : Int)) then
    if decide (0 ≤ v7) then
     (v0[v7.toNat]?).bind fun x2 =>
      if decide (0 ≤ v8) then
       (x2.2.2.2.1[v8.toNat]?).bind fun x3 =>
        if decide (0 ≤ v7) then
         (v1[v7.toNat]?).bind fun x4 =>
          if decide (0 ≤ x3) then
           (v1[x3.toNat]?).bind fun x5 =>
            if decide (0 ≤ x3) then
             (v0[x3.toNat]?).bind fun x6 =>
              if decide (x4 < IntKind.i64.wrap (x5 + x6.2.1)) then
               some false
              else
               spec_l17Keeps_p1 v0 v1 v2 v7 (IntKind.i64.wrap (v8 + 1))
            else
             none
          else
           none
        else
         none
      else
       none
    else
     none
   else
    if decide (0 ≤ v7) then
     (v1[v7.toNat]?).bind fun x7 =>
      (spec_l17Used v0 v1 x7).bind fun x8 =>
       if decide (x8 > v2) then
        some false
       else
        spec_l17Keeps_p0 v0 v1 v2 (IntKind.i64.wrap (v7 + 1))
    else
     none
 else
  none :=
 (goL_dn _ _ _ 4000 _ _).trans (by kernel_rfl)
def spec_KeepsClamps_ir : Fn := { np := 3,io := [],res := [.t 6],own := [false],body :=
 (.seq (.reg false [.V 6 (.asg (.c (.bool false)))] [0,1,2] []) (.seq (.reg false [.V 7 (.mv (.t 0)),.V 8 (.call (.c (.fn 462 [])) [.t 7]),.V 9 (.mv (.t 8)),.G 10 (.mv (.t 0)) 2 true,.G 11 (.mv (.t 1)) 2 true,.G 12 (.call (.c (.fn 537 [])) [.t 10,.t 11]) 2 true,.V 13 (.pick (.t 9) (.t 12) (.c (.bool false))),.V 14 (.mv (.t 13)),.G 15 (.mv (.t 2)) 7 true,.G 16 (.call (.c (.fn 1 [])) [.t 15,.c (.int .i64 0),.c (.int .i64 240)]) 7 true,.V 17 (.pick (.t 14) (.t 16) (.c (.bool false))),.V 18 (.mv (.t 17)),.G 19 (.mv (.t 0)) 11 true,.G 20 (.mv (.t 1)) 11 true,.G 21 (.mv (.t 2)) 11 true,.G 22 (.call (.c (.fn 538 [])) [.t 19,.t 20,.t 21]) 11 true,.V 23 (.pick (.t 18) (.t 22) (.c (.bool false))),.V 6 (.asg (.t 23))] [6] []) .ret)) }
noncomputable def spec_KeepsClamps_D : List (Nat × Callee) := [(1,spec_l00In_c),(462,spec_l17Ok_c),(537,spec_l17Starts_c),(538,spec_l17Keeps_c)]
def spec_KeepsClamps_H : List (Nat × ET) := [(7,T_Step),(10,T_Step),(11,(.one (.int .i64))),(19,T_Step),(20,(.one (.int .i64)))]
noncomputable def spec_KeepsClamps_c : Callee := mkCallee spec_KeepsClamps_D spec_KeepsClamps_H spec_KeepsClamps_ir [.d (.one (.sl T_Step)),.d (.one (.sl (.one (.int .i64)))),.d (.one (.int .i64))] [.d (.one .bool)] []
noncomputable def spec_KeepsClamps (a0 : List T_Step.ty) (a1 : List Int) (a2 : Int) : Option (Bool) := spec_KeepsClamps_c.f (a0,a1,a2,())
theorem spec_KeepsClamps_eq (a0 : List T_Step.ty) (a1 : List Int) (a2 : Int) : spec_KeepsClamps a0 a1 a2 =
 (spec_l17Ok a0).bind fun x1 =>
  if x1 then
   (spec_l17Starts a0 a1).bind fun x2 =>
    if x2 then
     (spec_l00In a2 0 240).bind fun x3 =>
      if x3 then
       (spec_l17Keeps a0 a1 a2).bind fun x4 =>
        some x4
      else
       some false
    else
     some false
  else
   some false :=
 (mk_f _ _ _ _ _ _ _ 4000).trans (by kernel_rfl)
def impl_areStarts_k0 : C :=
 .seq (.reg false [.V 10 (.bin .lss (.t 9) (.t 8))] [0,1,7,8,9,10] []) (.seq (.cond (.t 10) .skip (.exit 0)) (.seq (.block 1 (.seq (.reg false [.V 11 (.ia 1 (.t 7) (.t 9)),.V 12 (.ld none (.t 11)),.V 6 (.asg (.t 12))] [0,1,6,7,8,9] []) (.seq (.reg false [.V 13 (.mv (.t 6)),.V 14 (.call (.c (.fn 23 [])) [.t 13,.c (.int .i64 0),.c (.int .i64 2400)]),.V 15 (.un .not (.t 14))] [0,1,7,8,9,15] []) (.cond (.t 15) (.seq (.reg false [.V 4 (.asg (.c (.bool false)))] [4] []) .ret) .skip)))) (.reg false [.V 16 (.bin .add (.t 9) (.c (.int .i64 1))),.V 9 (.mv (.t 16))] [0,1,7,8,9] [])))
def impl_areStarts_k1 : C :=
 .norm [0,1,7,8,9] [] impl_areStarts_k0
def impl_areStarts_k2 : C :=
 .seq (.reg false [.V 17 (.mv (.t 1)),.V 18 (.len (.t 17)),.V 19 (.mv (.t 0)),.V 20 (.len (.t 19)),.V 21 (.bin .eql (.t 18) (.t 20)),.V 4 (.asg (.t 21))] [4] []) .ret
def impl_areStarts_ir : Fn := { np := 2,io := [],res := [.t 4],own := [false],body :=
 (.seq (.reg false [.V 4 (.asg (.c (.bool false)))] [0,1] []) (.seq (.seq (.reg false [.V 7 (.mv (.t 1)),.V 8 (.len (.t 7)),.V 9 (.mv (.c (.int .i64 0)))] [0,1,7,8,9] []) (.block 0 (.loop impl_areStarts_k1))) impl_areStarts_k2)) }
noncomputable def impl_areStarts_D : List (Nat × Callee) := [(23,impl_within_c)]
def impl_areStarts_H : List (Nat × ET) := [(7,(.one (.int .i64))),(17,(.one (.int .i64))),(19,T_Step)]
noncomputable def impl_areStarts_c : Callee := mkCallee impl_areStarts_D impl_areStarts_H impl_areStarts_ir [.d (.one (.sl T_Step)),.d (.one (.sl (.one (.int .i64))))] [.d (.one .bool)] []
noncomputable def impl_areStarts (a0 : List T_Step.ty) (a1 : List Int) : Option (Bool) := impl_areStarts_c.f (a0,a1,())
noncomputable def impl_areStarts_p0  (v0 : List T_Step.ty) (v1 : List Int) (v7 : List Int) (v8 : Int) (v9 : Int) : Option (Bool) :=
 goL impl_areStarts_D impl_areStarts_H (vleave impl_areStarts_ir [.d (.one (.sl T_Step)),.d (.one (.sl (.one (.int .i64))))] [.d (.one .bool)] [] []) [.c impl_areStarts_k0,.l impl_areStarts_k1,.e 0,.c impl_areStarts_k2]
  ⟨[(0,.sl T_Step v0),(1,.sl (.one (.int .i64)) v1),(7,.sl (.one (.int .i64)) v7),(8,.int .i64 v8),(9,.int .i64 v9)],[]⟩
theorem impl_areStarts_eq (a0 : List T_Step.ty) (a1 : List Int) : impl_areStarts a0 a1 =
 impl_areStarts_p0 a0 a1 a1 (a1.length : Int) 0 :=
 (mk_f _ _ _ _ _ _ _ 4000).trans (by kernel_rfl)
theorem impl_areStarts_p0_eq  (v0 : List T_Step.ty) (v1 : List Int) (v7 : List Int) (v8 : Int) (v9 : Int) : impl_areStarts_p0 v0 v1 v7 v8 v9 =
 if decide (v9 < v8) then
  if decide (0 ≤ v9) then
   (v7[v9.toNat]?).bind fun x1 =>
    (impl_within x1 0 2400).bind fun x2 =>
     if (!x2) then
      some false
     else
      impl_areStarts_p0 v0 v1 v7 v8 (IntKind.i64.wrap (v9 + 1))
  else
   none
 else
  some ((v1.length : Int) == (v0.length : Int)) :=
 (goL_dn _ _ _ 4000 _ _).trans (by kernel_rfl)
def impl_KeepsClamps_k0 : C :=
 .seq (.reg false [.V 26 (.bin .lss (.t 25) (.t 24))] [0,1,2,23,24,25,26] []) (.seq (.cond (.t 26) .skip (.exit 0)) (.seq (.block 1 (.seq (.reg false [.V 27 (.mv (.t 25)),.V 28 (.ia 1 (.t 23) (.t 25)),.V 29 (.ld none (.t 28)),.V 7 (.asg (.t 27)),.V 8 (.asg (.t 29))] [0,1,2,7,8,23,24,25] []) (.seq (.reg false [.V 30 (.mv (.t 8)),.V 31 (.mv (.t 0)),.V 32 (.mv (.t 1)),.V 33 (.mv (.t 7)),.V 34 (.call (.c (.fn 539 [])) [.t 31,.t 32,.t 33]),.V 35 (.bin .lss (.t 30) (.t 34)),.V 36 (.mv (.t 35)),.G 37 (.mv (.t 0)) 6 false,.G 38 (.mv (.t 1)) 6 false,.G 39 (.mv (.t 8)) 6 false,.G 40 (.call (.c (.fn 540 [])) [.t 37,.t 38,.t 39]) 6 false,.G 41 (.mv (.t 2)) 6 false,.G 42 (.bin .gtr (.t 40) (.t 41)) 6 false,.V 43 (.pick (.t 36) (.c (.bool true)) (.t 42))] [0,1,2,23,24,25,43] []) (.cond (.t 43) (.seq (.reg false [.V 6 (.asg (.c (.bool false)))] [6] []) .ret) .skip)))) (.reg false [.V 44 (.bin .add (.t 25) (.c (.int .i64 1))),.V 25 (.mv (.t 44))] [0,1,2,23,24,25] [])))
def impl_KeepsClamps_k1 : C :=
 .norm [0,1,2,23,24,25] [] impl_KeepsClamps_k0
def impl_KeepsClamps_k2 : C :=
 .seq (.reg false [.V 6 (.asg (.c (.bool true)))] [6] []) .ret
def impl_KeepsClamps_k3 : C :=
 .seq (.seq (.reg false [.V 23 (.mv (.t 1)),.V 24 (.len (.t 23)),.V 25 (.mv (.c (.int .i64 0)))] [0,1,2,23,24,25] []) (.block 0 (.loop impl_KeepsClamps_k1))) impl_KeepsClamps_k2
def impl_KeepsClamps_ir : Fn := { np := 3,io := [],res := [.t 6],own := [false],body :=
 (.seq (.reg false [.V 6 (.asg (.c (.bool false)))] [0,1,2] []) (.seq (.seq (.reg false [.V 9 (.mv (.t 0)),.V 10 (.call (.c (.fn 83 [])) [.t 9]),.V 11 (.un .not (.t 10)),.V 12 (.mv (.t 11)),.G 13 (.mv (.t 0)) 3 false,.G 14 (.mv (.t 1)) 3 false,.G 15 (.call (.c (.fn 541 [])) [.t 13,.t 14]) 3 false,.G 16 (.un .not (.t 15)) 3 false,.V 17 (.pick (.t 12) (.c (.bool true)) (.t 16)),.V 18 (.mv (.t 17)),.G 19 (.mv (.t 2)) 9 false,.G 20 (.call (.c (.fn 534 [])) [.t 19]) 9 false,.G 21 (.un .not (.t 20)) 9 false,.V 22 (.pick (.t 18) (.c (.bool true)) (.t 21))] [0,1,2,22] []) (.cond (.t 22) (.seq (.reg false [.V 6 (.asg (.c (.bool false)))] [6] []) .ret) .skip)) (.norm [0,1,2] [] impl_KeepsClamps_k3))) }
noncomputable def impl_KeepsClamps_D : List (Nat × Callee) := [(83,impl_ValidSteps_c),(534,impl_isClamps_c),(539,impl_ready_c),(540,impl_used_c),(541,impl_areStarts_c)]
def impl_KeepsClamps_H : List (Nat × ET) := [(9,T_Step),(13,T_Step),(14,(.one (.int .i64))),(23,(.one (.int .i64))),(31,T_Step),(32,(.one (.int .i64))),(37,T_Step),(38,(.one (.int .i64)))]
noncomputable def impl_KeepsClamps_c : Callee := mkCallee impl_KeepsClamps_D impl_KeepsClamps_H impl_KeepsClamps_ir [.d (.one (.sl T_Step)),.d (.one (.sl (.one (.int .i64)))),.d (.one (.int .i64))] [.d (.one .bool)] []
noncomputable def impl_KeepsClamps (a0 : List T_Step.ty) (a1 : List Int) (a2 : Int) : Option (Bool) := impl_KeepsClamps_c.f (a0,a1,a2,())
noncomputable def impl_KeepsClamps_p0  (v0 : List T_Step.ty) (v1 : List Int) (v2 : Int) : Option (Bool) :=
 goL impl_KeepsClamps_D impl_KeepsClamps_H (vleave impl_KeepsClamps_ir [.d (.one (.sl T_Step)),.d (.one (.sl (.one (.int .i64)))),.d (.one (.int .i64))] [.d (.one .bool)] [] []) [.c impl_KeepsClamps_k3]
  ⟨[(0,.sl T_Step v0),(1,.sl (.one (.int .i64)) v1),(2,.int .i64 v2)],[]⟩
noncomputable def impl_KeepsClamps_p1  (v0 : List T_Step.ty) (v1 : List Int) (v2 : Int) (v23 : List Int) (v24 : Int) (v25 : Int) : Option (Bool) :=
 goL impl_KeepsClamps_D impl_KeepsClamps_H (vleave impl_KeepsClamps_ir [.d (.one (.sl T_Step)),.d (.one (.sl (.one (.int .i64)))),.d (.one (.int .i64))] [.d (.one .bool)] [] []) [.c impl_KeepsClamps_k0,.l impl_KeepsClamps_k1,.e 0,.c impl_KeepsClamps_k2]
  ⟨[(0,.sl T_Step v0),(1,.sl (.one (.int .i64)) v1),(2,.int .i64 v2),(23,.sl (.one (.int .i64)) v23),(24,.int .i64 v24),(25,.int .i64 v25)],[]⟩
theorem impl_KeepsClamps_eq (a0 : List T_Step.ty) (a1 : List Int) (a2 : Int) : impl_KeepsClamps a0 a1 a2 =
 (impl_ValidSteps a0).bind fun x1 =>
  if (!x1) then
   some false
  else
   (impl_areStarts a0 a1).bind fun x2 =>
    if (!x2) then
     some false
    else
     (impl_isClamps a2).bind fun x3 =>
      if (!x3) then
       some false
      else
       impl_KeepsClamps_p0 a0 a1 a2 :=
 (mk_f _ _ _ _ _ _ _ 4000).trans (by kernel_rfl)
theorem impl_KeepsClamps_p0_eq  (v0 : List T_Step.ty) (v1 : List Int) (v2 : Int) : impl_KeepsClamps_p0 v0 v1 v2 =
 impl_KeepsClamps_p1 v0 v1 v2 v1 (v1.length : Int) 0 :=
 (goL_dn _ _ _ 4000 _ _).trans (by kernel_rfl)
theorem impl_KeepsClamps_p1_eq  (v0 : List T_Step.ty) (v1 : List Int) (v2 : Int) (v23 : List Int) (v24 : Int) (v25 : Int) : impl_KeepsClamps_p1 v0 v1 v2 v23 v24 v25 =
 if decide (v25 < v24) then
  if decide (0 ≤ v25) then
   (v23[v25.toNat]?).bind fun x1 =>
    (impl_ready v0 v1 v25).bind fun x2 =>
     if decide (x1 < x2) then
      some false
     else
      (impl_used v0 v1 x1).bind fun x3 =>
       if decide (x3 > v2) then
        some false
       else
        impl_KeepsClamps_p1 v0 v1 v2 v23 v24 (IntKind.i64.wrap (v25 + 1))
  else
   none
 else
  some true :=
 (goL_dn _ _ _ 4000 _ _).trans (by kernel_rfl)
def impl_ClampsUsed_ir : Fn := { np := 3,io := [],res := [.t 6,.t 7],own := [false,false],body :=
 (.seq (.reg false [.V 6 (.asg (.c (.int .i64 0))),.V 7 (.asg (.c (.int .i64 0)))] [0,1,2] []) (.seq (.block 0 (.seq (.reg false [.V 9 (.mv (.t 0)),.V 10 (.call (.c (.fn 83 [])) [.t 9]),.V 11 (.un .not (.t 10)),.V 8 (.asg (.t 11))] [0,1,2,8] []) (.cond (.t 8) (.seq (.reg false [.V 6 (.asg (.c (.int .i64 0))),.V 7 (.asg (.c (.int .i64 1)))] [6,7] []) .ret) (.seq (.reg false [.V 13 (.mv (.t 2)),.V 14 (.call (.c (.fn 23 [])) [.t 13,.c (.int .i64 0),.c (.int .i64 1000000000000)]),.V 15 (.un .not (.t 14)),.V 12 (.asg (.t 15))] [0,1,2,12] []) (.cond (.t 12) (.seq (.reg false [.V 6 (.asg (.c (.int .i64 0))),.V 7 (.asg (.c (.int .i64 2)))] [6,7] []) .ret) (.seq (.reg false [.V 17 (.mv (.t 0)),.V 18 (.mv (.t 1)),.V 19 (.call (.c (.fn 541 [])) [.t 17,.t 18]),.V 20 (.un .not (.t 19)),.V 16 (.asg (.t 20))] [0,1,2,16] []) (.cond (.t 16) (.seq (.reg false [.V 6 (.asg (.c (.int .i64 0))),.V 7 (.asg (.c (.int .i64 7)))] [6,7] []) .ret) .skip))))))) (.seq (.reg false [.V 21 (.mv (.t 0)),.V 22 (.mv (.t 1)),.V 23 (.mv (.t 2)),.V 24 (.call (.c (.fn 540 [])) [.t 21,.t 22,.t 23]),.V 6 (.asg (.t 24)),.V 7 (.asg (.c (.int .i64 0)))] [6,7] []) .ret))) }
noncomputable def impl_ClampsUsed_D : List (Nat × Callee) := [(23,impl_within_c),(83,impl_ValidSteps_c),(540,impl_used_c),(541,impl_areStarts_c)]
def impl_ClampsUsed_H : List (Nat × ET) := [(9,T_Step),(17,T_Step),(18,(.one (.int .i64))),(21,T_Step),(22,(.one (.int .i64)))]
noncomputable def impl_ClampsUsed_c : Callee := mkCallee impl_ClampsUsed_D impl_ClampsUsed_H impl_ClampsUsed_ir [.d (.one (.sl T_Step)),.d (.one (.sl (.one (.int .i64)))),.d (.one (.int .i64))] [.d (.one (.int .i64)),.d (.one (.int .i64))] []
noncomputable def impl_ClampsUsed (a0 : List T_Step.ty) (a1 : List Int) (a2 : Int) : Option (Int × Int) := impl_ClampsUsed_c.f (a0,a1,a2,())
theorem impl_ClampsUsed_eq (a0 : List T_Step.ty) (a1 : List Int) (a2 : Int) : impl_ClampsUsed a0 a1 a2 =
 (impl_ValidSteps a0).bind fun x1 =>
  if (!x1) then
   some (0,1)
  else
   (impl_within a2 0 1000000000000).bind fun x2 =>
    if (!x2) then
     some (0,2)
    else
     (impl_areStarts a0 a1).bind fun x3 =>
      if (!x3) then
       some (0,7)
      else
       (impl_used a0 a1 a2).bind fun x4 =>
        some (x4,0) :=
 (mk_f _ _ _ _ _ _ _ 4000).trans (by kernel_rfl)
def impl_ended_k0 : C :=
 .seq (.reg false [.V 11 (.bin .lss (.t 10) (.t 9))] [1,5,8,9,10,11] []) (.seq (.cond (.t 11) .skip (.exit 0)) (.seq (.block 1 (.seq (.reg false [.V 12 (.mv (.t 10)),.V 13 (.ia 4 (.t 8) (.t 10)),.V 14 (.ld (some 4) (.t 13)),.W 7 (.alloc 4 (.agg [.str [],.int .i64 0,.int .i64 0,.nils 1])),.V 6 (.asg (.t 12)),⟨none,true,.sto 4 (.t 7) (.t 14),none,false,[]⟩] [1,5,6,7,8,9,10] [7,8003]) (.reg true [.V 15 (.mv (.t 5)),.V 16 (.mv (.t 1)),.V 17 (.mv (.t 6)),.V 18 (.ia 1 (.t 16) (.t 17)),.V 19 (.ld none (.t 18)),.V 20 (.fa 1 (.t 7)),.V 21 (.ld none (.t 20)),.V 22 (.bin .add (.t 19) (.t 21)),.V 23 (.max [.t 15,.t 22]),.V 5 (.asg (.t 23))] [1,5,8,9,10] []))) (.reg false [.V 24 (.bin .add (.t 10) (.c (.int .i64 1))),.V 10 (.mv (.t 24))] [1,5,8,9,10] [])))
def impl_ended_k1 : C :=
 .norm [1,5,8,9,10] [] impl_ended_k0
def impl_ended_k2 : C :=
 .seq (.reg false [.V 25 (.mv (.t 5)),.V 4 (.asg (.t 25))] [4] []) .ret
def impl_ended_ir : Fn := { np := 2,io := [],res := [.t 4],own := [false],body :=
 (.seq (.reg false [.V 4 (.asg (.c (.int .i64 0)))] [0,1] []) (.seq (.reg false [.V 5 (.asg (.c (.int .i64 0)))] [0,1,5] []) (.seq (.seq (.reg false [.V 8 (.mv (.t 0)),.V 9 (.len (.t 8)),.V 10 (.mv (.c (.int .i64 0)))] [1,5,8,9,10] []) (.block 0 (.loop impl_ended_k1))) impl_ended_k2))) }
noncomputable def impl_ended_D : List (Nat × Callee) := []
def impl_ended_H : List (Nat × ET) := [(8,T_Step),(16,(.one (.int .i64)))]
noncomputable def impl_ended_c : Callee := mkCallee impl_ended_D impl_ended_H impl_ended_ir [.d (.one (.sl T_Step)),.d (.one (.sl (.one (.int .i64))))] [.d (.one (.int .i64))] []
noncomputable def impl_ended (a0 : List T_Step.ty) (a1 : List Int) : Option (Int) := impl_ended_c.f (a0,a1,())
noncomputable def impl_ended_p0  (v1 : List Int) (v5 : Int) (v8 : List T_Step.ty) (v9 : Int) (v10 : Int) : Option (Int) :=
 goL impl_ended_D impl_ended_H (vleave impl_ended_ir [.d (.one (.sl T_Step)),.d (.one (.sl (.one (.int .i64))))] [.d (.one (.int .i64))] [] []) [.c impl_ended_k0,.l impl_ended_k1,.e 0,.c impl_ended_k2]
  ⟨[(1,.sl (.one (.int .i64)) v1),(5,.int .i64 v5),(8,.sl T_Step v8),(9,.int .i64 v9),(10,.int .i64 v10)],[]⟩
theorem impl_ended_eq (a0 : List T_Step.ty) (a1 : List Int) : impl_ended a0 a1 =
 impl_ended_p0 a1 0 a0 (a0.length : Int) 0 :=
 (mk_f _ _ _ _ _ _ _ 4000).trans (by kernel_rfl)
theorem impl_ended_p0_eq  (v1 : List Int) (v5 : Int) (v8 : List T_Step.ty) (v9 : Int) (v10 : Int) : impl_ended_p0 v1 v5 v8 v9 v10 =
 if decide (v10 < v9) then
  if decide (0 ≤ v10) then
   (v8[v10.toNat]?).bind fun x1 =>
    if decide (0 ≤ v10) then
     (v1[v10.toNat]?).bind fun x2 =>
      impl_ended_p0 v1 (if IntKind.i64.wrap (x2 + x1.2.1) > v5 then IntKind.i64.wrap (x2 + x1.2.1) else v5) v8 v9 (IntKind.i64.wrap (v10 + 1))
    else
     none
  else
   none
 else
  some v5 :=
 (goL_dn _ _ _ 4000 _ _).trans (by kernel_rfl)
def impl_FewestClamps_k0 : C :=
 .seq (.seq (.reg false [.V 15 (.mv (.t 6)),.V 16 (.call (.c (.fn 534 [])) [.t 15])] [0,1,6,16] []) (.cond (.t 16) .skip (.exit 0))) (.seq (.block 1 (.seq (.reg false [.V 20 (.mv (.t 0)),.V 21 (.mv (.t 6)),.V 22 (.call (.c (.fn 533 [])) [.t 20,.t 21]),.V 19 (.mv (.t 22)),.V 23 (.ext (.t 19) 0),.V 24 (.ext (.t 19) 1),.W 7 (.asg (.t 23)),.V 8 (.asg (.t 24))] [0,1,6,7,8] [7]) (.seq (.reg false [.V 25 (.mv (.t 8)),.V 26 (.mv (.t 25)),.G 27 (.mv (.t 0)) 1 true,.G 28 (.mv (.t 7)) 1 true,.G 29 (.call (.c (.fn 456 [])) [.t 27,.t 28]) 1 true,.G 30 (.mv (.t 1)) 1 true,.G 31 (.bin .leq (.t 29) (.t 30)) 1 true,.V 32 (.pick (.t 26) (.t 31) (.c (.bool false)))] [0,1,6,32] []) (.cond (.t 32) (.seq (.reg false [.V 33 (.mv (.t 6)),.V 4 (.asg (.t 33)),.V 5 (.asg (.c (.int .i64 0)))] [4,5] []) .ret) .skip)))) (.reg false [.V 17 (.mv (.t 6)),.V 18 (.bin .add (.t 17) (.c (.int .i64 1))),.V 6 (.asg (.t 18))] [0,1,6] []))
def impl_FewestClamps_k1 : C :=
 .norm [0,1,6] [] impl_FewestClamps_k0
def impl_FewestClamps_k2 : C :=
 .seq (.reg false [.V 4 (.asg (.c (.int .i64 0))),.V 5 (.asg (.c (.int .i64 3)))] [4,5] []) .ret
def impl_FewestClamps_ir : Fn := { np := 2,io := [],res := [.t 4,.t 5],own := [false,false],body :=
 (.seq (.reg false [.V 4 (.asg (.c (.int .i64 0))),.V 5 (.asg (.c (.int .i64 0)))] [0,1] []) (.seq (.seq (.reg false [.V 9 (.mv (.t 0)),.V 10 (.call (.c (.fn 83 [])) [.t 9]),.V 11 (.un .not (.t 10))] [0,1,11] []) (.cond (.t 11) (.seq (.reg false [.V 4 (.asg (.c (.int .i64 0))),.V 5 (.asg (.c (.int .i64 1)))] [4,5] []) .ret) .skip)) (.seq (.seq (.reg false [.V 12 (.mv (.t 1)),.V 13 (.call (.c (.fn 23 [])) [.t 12,.c (.int .i64 0),.c (.int .i64 2400)]),.V 14 (.un .not (.t 13))] [0,1,14] []) (.cond (.t 14) (.seq (.reg false [.V 4 (.asg (.c (.int .i64 0))),.V 5 (.asg (.c (.int .i64 2)))] [4,5] []) .ret) .skip)) (.seq (.seq (.reg false [.V 6 (.asg (.c (.int .i64 0)))] [0,1,6] []) (.block 0 (.loop impl_FewestClamps_k1))) impl_FewestClamps_k2)))) }
noncomputable def impl_FewestClamps_D : List (Nat × Callee) := [(23,impl_within_c),(83,impl_ValidSteps_c),(456,impl_ended_c),(533,impl_planned_c),(534,impl_isClamps_c)]
def impl_FewestClamps_H : List (Nat × ET) := [(7,(.one (.int .i64))),(9,T_Step),(20,T_Step),(23,(.one (.int .i64))),(27,T_Step),(28,(.one (.int .i64)))]
noncomputable def impl_FewestClamps_c : Callee := mkCallee impl_FewestClamps_D impl_FewestClamps_H impl_FewestClamps_ir [.d (.one (.sl T_Step)),.d (.one (.int .i64))] [.d (.one (.int .i64)),.d (.one (.int .i64))] []
noncomputable def impl_FewestClamps (a0 : List T_Step.ty) (a1 : Int) : Option (Int × Int) := impl_FewestClamps_c.f (a0,a1,())
noncomputable def impl_FewestClamps_p0  (v0 : List T_Step.ty) (v1 : Int) (v6 : Int) : Option (Int × Int) :=
 goL impl_FewestClamps_D impl_FewestClamps_H (vleave impl_FewestClamps_ir [.d (.one (.sl T_Step)),.d (.one (.int .i64))] [.d (.one (.int .i64)),.d (.one (.int .i64))] [] []) [.c impl_FewestClamps_k0,.l impl_FewestClamps_k1,.e 0,.c impl_FewestClamps_k2]
  ⟨[(0,.sl T_Step v0),(1,.int .i64 v1),(6,.int .i64 v6)],[]⟩
theorem impl_FewestClamps_eq (a0 : List T_Step.ty) (a1 : Int) : impl_FewestClamps a0 a1 =
 (impl_ValidSteps a0).bind fun x1 =>
  if (!x1) then
   some (0,1)
  else
   (impl_within a1 0 2400).bind fun x2 =>
    if (!x2) then
     some (0,2)
    else
     impl_FewestClamps_p0 a0 a1 0 :=
 (mk_f _ _ _ _ _ _ _ 4000).trans (by kernel_rfl)
theorem impl_FewestClamps_p0_eq  (v0 : List T_Step.ty) (v1 : Int) (v6 : Int) : impl_FewestClamps_p0 v0 v1 v6 =
 (impl_isClamps v6).bind fun x1 =>
  if x1 then
   (impl_planned v0 v6).bind fun x2 =>
    if x2.2 then
     (impl_ended v0 (x2.1.take x2.1.length)).bind fun x3 =>
      if decide (x3 ≤ v1) then
       some (v6,0)
      else
       impl_FewestClamps_p0 v0 v1 (IntKind.i64.wrap (v6 + 1))
    else
     impl_FewestClamps_p0 v0 v1 (IntKind.i64.wrap (v6 + 1))
  else
   some (0,3) :=
 (goL_dn _ _ _ 4000 _ _).trans (by kernel_rfl)
def spec_l17Clamps_k0 : C :=
 .seq (.seq (.reg false [.V 6 (.mv (.t 5)),.V 7 (.mv (.t 0)),.V 8 (.len (.t 7)),.V 9 (.bin .lss (.t 6) (.t 8))] [0,1,5,9] []) (.cond (.t 9) .skip (.exit 0))) (.seq (.block 1 (.seq (.reg false [.V 12 (.mv (.t 0)),.V 13 (.mv (.t 5)),.V 14 (.ia 4 (.t 12) (.t 13)),.V 15 (.fa 2 (.t 14)),.V 16 (.ld none (.t 15)),.V 17 (.mv (.t 1)),.V 18 (.bin .gtr (.t 16) (.t 17))] [0,1,5,18] []) (.cond (.t 18) (.seq (.reg false [.V 4 (.asg (.c (.bool false)))] [4] []) .ret) .skip))) (.reg false [.V 10 (.mv (.t 5)),.V 11 (.bin .add (.t 10) (.c (.int .i64 1))),.V 5 (.asg (.t 11))] [0,1,5] []))
def spec_l17Clamps_k1 : C :=
 .norm [0,1,5] [] spec_l17Clamps_k0
def spec_l17Clamps_k2 : C :=
 .seq (.reg false [.V 4 (.asg (.c (.bool true)))] [4] []) .ret
def spec_l17Clamps_ir : Fn := { np := 2,io := [],res := [.t 4],own := [false],body :=
 (.seq (.reg false [.V 4 (.asg (.c (.bool false)))] [0,1] []) (.seq (.seq (.reg false [.V 5 (.asg (.c (.int .i64 0)))] [0,1,5] []) (.block 0 (.loop spec_l17Clamps_k1))) spec_l17Clamps_k2)) }
noncomputable def spec_l17Clamps_D : List (Nat × Callee) := []
def spec_l17Clamps_H : List (Nat × ET) := [(7,T_Step),(12,T_Step)]
noncomputable def spec_l17Clamps_c : Callee := mkCallee spec_l17Clamps_D spec_l17Clamps_H spec_l17Clamps_ir [.d (.one (.sl T_Step)),.d (.one (.int .i64))] [.d (.one .bool)] []
noncomputable def spec_l17Clamps (a0 : List T_Step.ty) (a1 : Int) : Option (Bool) := spec_l17Clamps_c.f (a0,a1,())
noncomputable def spec_l17Clamps_p0  (v0 : List T_Step.ty) (v1 : Int) (v5 : Int) : Option (Bool) :=
 goL spec_l17Clamps_D spec_l17Clamps_H (vleave spec_l17Clamps_ir [.d (.one (.sl T_Step)),.d (.one (.int .i64))] [.d (.one .bool)] [] []) [.c spec_l17Clamps_k0,.l spec_l17Clamps_k1,.e 0,.c spec_l17Clamps_k2]
  ⟨[(0,.sl T_Step v0),(1,.int .i64 v1),(5,.int .i64 v5)],[]⟩
theorem spec_l17Clamps_eq (a0 : List T_Step.ty) (a1 : Int) : spec_l17Clamps a0 a1 =
 spec_l17Clamps_p0 a0 a1 0 :=
 (mk_f _ _ _ _ _ _ _ 4000).trans (by kernel_rfl)
theorem spec_l17Clamps_p0_eq  (v0 : List T_Step.ty) (v1 : Int) (v5 : Int) : spec_l17Clamps_p0 v0 v1 v5 =
 if decide (v5 < (v0.length : Int)) then
  if decide (0 ≤ v5) then
   (v0[v5.toNat]?).bind fun x1 =>
    if decide (x1.2.2.1 > v1) then
     some false
    else
     spec_l17Clamps_p0 v0 v1 (IntKind.i64.wrap (v5 + 1))
  else
   none
 else
  some true :=
 (goL_dn _ _ _ 4000 _ _).trans (by kernel_rfl)
def spec_l17Free_k0 : C :=
 .seq (.seq (.reg false [.V 13 (.mv (.t 11)),.V 14 (.mv (.t 2)),.V 15 (.mv (.t 3)),.V 16 (.bin .add (.t 14) (.t 15)),.V 17 (.bin .lss (.t 13) (.t 16))] [0,1,2,3,4,11,17] []) (.cond (.t 17) .skip (.exit 0))) (.seq (.block 1 (.seq (.reg false [.V 20 (.mv (.t 0)),.V 21 (.mv (.t 1)),.V 22 (.mv (.t 11)),.V 23 (.call (.c (.fn 720 [])) [.t 20,.t 21,.t 22]),.V 24 (.mv (.t 4)),.V 25 (.bin .gtr (.t 23) (.t 24))] [0,1,2,3,4,11,25] []) (.cond (.t 25) (.seq (.reg false [.V 10 (.asg (.c (.bool false)))] [10] []) .ret) .skip))) (.reg false [.V 18 (.mv (.t 11)),.V 19 (.bin .add (.t 18) (.c (.int .i64 1))),.V 11 (.asg (.t 19))] [0,1,2,3,4,11] []))
def spec_l17Free_k1 : C :=
 .norm [0,1,2,3,4,11] [] spec_l17Free_k0
def spec_l17Free_k2 : C :=
 .seq (.reg false [.V 10 (.asg (.c (.bool true)))] [10] []) .ret
def spec_l17Free_ir : Fn := { np := 5,io := [],res := [.t 10],own := [false],body :=
 (.seq (.reg false [.V 10 (.asg (.c (.bool false)))] [0,1,2,3,4] []) (.seq (.seq (.reg false [.V 12 (.mv (.t 2)),.V 11 (.asg (.t 12))] [0,1,2,3,4,11] []) (.block 0 (.loop spec_l17Free_k1))) spec_l17Free_k2)) }
noncomputable def spec_l17Free_D : List (Nat × Callee) := [(720,spec_l17Used_c)]
def spec_l17Free_H : List (Nat × ET) := [(20,T_Step),(21,(.one (.int .i64)))]
noncomputable def spec_l17Free_c : Callee := mkCallee spec_l17Free_D spec_l17Free_H spec_l17Free_ir [.d (.one (.sl T_Step)),.d (.one (.sl (.one (.int .i64)))),.d (.one (.int .i64)),.d (.one (.int .i64)),.d (.one (.int .i64))] [.d (.one .bool)] []
noncomputable def spec_l17Free (a0 : List T_Step.ty) (a1 : List Int) (a2 : Int) (a3 : Int) (a4 : Int) : Option (Bool) := spec_l17Free_c.f (a0,a1,a2,a3,a4,())
noncomputable def spec_l17Free_p0  (v0 : List T_Step.ty) (v1 : List Int) (v2 : Int) (v3 : Int) (v4 : Int) (v11 : Int) : Option (Bool) :=
 goL spec_l17Free_D spec_l17Free_H (vleave spec_l17Free_ir [.d (.one (.sl T_Step)),.d (.one (.sl (.one (.int .i64)))),.d (.one (.int .i64)),.d (.one (.int .i64)),.d (.one (.int .i64))] [.d (.one .bool)] [] []) [.c spec_l17Free_k0,.l spec_l17Free_k1,.e 0,.c spec_l17Free_k2]
  ⟨[(0,.sl T_Step v0),(1,.sl (.one (.int .i64)) v1),(2,.int .i64 v2),(3,.int .i64 v3),(4,.int .i64 v4),(11,.int .i64 v11)],[]⟩
theorem spec_l17Free_eq (a0 : List T_Step.ty) (a1 : List Int) (a2 : Int) (a3 : Int) (a4 : Int) : spec_l17Free a0 a1 a2 a3 a4 =
 spec_l17Free_p0 a0 a1 a2 a3 a4 a2 :=
 (mk_f _ _ _ _ _ _ _ 4000).trans (by kernel_rfl)
theorem spec_l17Free_p0_eq  (v0 : List T_Step.ty) (v1 : List Int) (v2 : Int) (v3 : Int) (v4 : Int) (v11 : Int) : spec_l17Free_p0 v0 v1 v2 v3 v4 v11 =
 if decide (v11 < IntKind.i64.wrap (v2 + v3)) then
  (spec_l17Used v0 v1 v11).bind fun x1 =>
   if decide (x1 > v4) then
    some false
   else
    spec_l17Free_p0 v0 v1 v2 v3 v4 (IntKind.i64.wrap (v11 + 1))
 else
  some true :=
 (goL_dn _ _ _ 4000 _ _).trans (by kernel_rfl)
def spec_l17Plan_k0 : C :=
 .seq (.seq (.reg false [.V 17 (.mv (.t 8)),.V 18 (.mv (.t 0)),.V 19 (.mv (.t 6)),.V 20 (.ia 4 (.t 18) (.t 19)),.V 21 (.fa 3 (.t 20)),.V 22 (.ld none (.t 21)),.V 23 (.len (.t 22)),.V 24 (.bin .lss (.t 17) (.t 23))] [0,1,5,6,7,8,24] [5]) (.cond (.t 24) .skip (.exit 2))) (.seq (.block 3 (.seq (.reg false [.V 27 (.mv (.t 0)),.V 28 (.mv (.t 6)),.V 29 (.ia 4 (.t 27) (.t 28)),.V 30 (.fa 3 (.t 29)),.V 31 (.ld none (.t 30)),.V 32 (.mv (.t 8)),.V 33 (.ia 1 (.t 31) (.t 32)),.V 34 (.ld none (.t 33)),.V 9 (.asg (.t 34))] [0,1,5,6,7,8,9] [5]) (.reg true [.V 35 (.mv (.t 7)),.V 36 (.mv (.t 5)),.V 37 (.mv (.t 9)),.V 38 (.ia 1 (.t 36) (.t 37)),.V 39 (.ld none (.t 38)),.V 40 (.mv (.t 0)),.V 41 (.mv (.t 9)),.V 42 (.ia 4 (.t 40) (.t 41)),.V 43 (.fa 1 (.t 42)),.V 44 (.ld none (.t 43)),.V 45 (.bin .add (.t 39) (.t 44)),.V 46 (.call (.c (.fn 17 [])) [.t 35,.t 45]),.V 7 (.asg (.t 46))] [0,1,5,6,7,8] [5]))) (.reg false [.V 25 (.mv (.t 8)),.V 26 (.bin .add (.t 25) (.c (.int .i64 1))),.V 8 (.asg (.t 26))] [0,1,5,6,7,8] [5]))
def spec_l17Plan_k1 : C :=
 .norm [0,1,5,6,7,8] [5] spec_l17Plan_k0
def spec_l17Plan_k2 : C :=
 .seq (.seq (.reg true [.V 47 (.mv (.t 0)),.V 48 (.mv (.t 5)),.V 49 (.mv (.t 7)),.V 50 (.mv (.t 0)),.V 51 (.mv (.t 6)),.V 52 (.ia 4 (.t 50) (.t 51)),.V 53 (.fa 1 (.t 52)),.V 54 (.ld none (.t 53)),.V 55 (.mv (.t 1)),.V 56 (.mv (.t 0)),.V 57 (.mv (.t 6)),.V 58 (.ia 4 (.t 56) (.t 57)),.V 59 (.fa 2 (.t 58)),.V 60 (.ld none (.t 59)),.V 61 (.bin .sub (.t 55) (.t 60)),.V 62 (.call (.c (.fn 869 [])) [.t 47,.t 48,.t 49,.t 54,.t 61]),.V 63 (.un .not (.t 62))] [0,1,5,6,7,63] [5]) (.cond (.t 63) .skip (.exit 4))) (.block 5 (.reg false [.V 64 (.mv (.t 7)),.V 65 (.bin .add (.t 64) (.c (.int .i64 1))),.V 7 (.asg (.t 65))] [0,1,5,6,7] [5]))
def spec_l17Plan_k3 : C :=
 .norm [0,1,5,6,7] [5] spec_l17Plan_k2
def spec_l17Plan_k4 : C :=
 .reg false [.V 66 (.mv (.t 5)),.V 67 (.mv (.t 7)),.V 68 (.bsl 1 (.int .i64 0) 1 [(0,.t 67)]),.W 69 (.app 1 8 (.t 66) (.t 68)),.W 5 (.asg (.t 69))] [0,1,5,6] [5]
def spec_l17Plan_k5 : C :=
 .seq (.block 4 (.loop spec_l17Plan_k3)) spec_l17Plan_k4
def spec_l17Plan_k6 : C :=
 .reg false [.V 15 (.mv (.t 6)),.V 16 (.bin .add (.t 15) (.c (.int .i64 1))),.V 6 (.asg (.t 16))] [0,1,5,6] [5]
def spec_l17Plan_k7 : C :=
 .seq (.seq (.reg false [.V 11 (.mv (.t 6)),.V 12 (.mv (.t 0)),.V 13 (.len (.t 12)),.V 14 (.bin .lss (.t 11) (.t 13))] [0,1,5,6,14] [5]) (.cond (.t 14) .skip (.exit 0))) (.seq (.block 1 (.seq (.reg false [.V 7 (.asg (.c (.int .i64 0)))] [0,1,5,6,7] [5]) (.seq (.seq (.reg false [.V 8 (.asg (.c (.int .i64 0)))] [0,1,5,6,7,8] [5]) (.block 2 (.loop spec_l17Plan_k1))) spec_l17Plan_k5))) spec_l17Plan_k6)
def spec_l17Plan_k8 : C :=
 .norm [0,1,5,6] [5] spec_l17Plan_k7
def spec_l17Plan_k9 : C :=
 .seq (.reg false [.V 70 (.mv (.t 5)),.W 4 (.asg (.t 70))] [4] [4,5]) .ret
def spec_l17Plan_ir : Fn := { np := 2,io := [],res := [.t 4],own := [true],body :=
 (.seq (.reg false [.W 4 (.asg (.c (.nils 1)))] [0,1] []) (.seq (.reg false [.V 10 (.bsl 1 (.int .i64 0) 0 []),.W 5 (.asg (.t 10))] [0,1,5] [5]) (.seq (.seq (.reg false [.V 6 (.asg (.c (.int .i64 0)))] [0,1,5,6] [5]) (.block 0 (.loop spec_l17Plan_k8))) spec_l17Plan_k9))) }
noncomputable def spec_l17Plan_D : List (Nat × Callee) := [(17,spec_l00Max_c),(869,spec_l17Free_c)]
def spec_l17Plan_H : List (Nat × ET) := [(4,(.one (.int .i64))),(5,(.one (.int .i64))),(10,(.one (.int .i64))),(12,T_Step),(18,T_Step),(22,(.one (.int .i64))),(27,T_Step),(31,(.one (.int .i64))),(36,(.one (.int .i64))),(40,T_Step),(47,T_Step),(48,(.one (.int .i64))),(50,T_Step),(56,T_Step),(66,(.one (.int .i64))),(68,(.one (.int .i64))),(69,(.one (.int .i64))),(70,(.one (.int .i64)))]
noncomputable def spec_l17Plan_c : Callee := mkCallee spec_l17Plan_D spec_l17Plan_H spec_l17Plan_ir [.d (.one (.sl T_Step)),.d (.one (.int .i64))] [.tok (.one (.int .i64))] []
noncomputable def spec_l17Plan (a0 : List T_Step.ty) (a1 : Int) : Option (List Int) := spec_l17Plan_c.f (a0,a1,())
noncomputable def spec_l17Plan_p0  (v0 : List T_Step.ty) (v1 : Int) (v6 : Int) (r5 : List Int) : Option (List Int) :=
 goL spec_l17Plan_D spec_l17Plan_H (vleave spec_l17Plan_ir [.d (.one (.sl T_Step)),.d (.one (.int .i64))] [.tok (.one (.int .i64))] [] []) [.c spec_l17Plan_k7,.l spec_l17Plan_k8,.e 0,.c spec_l17Plan_k9]
  ⟨[(0,.sl T_Step v0),(1,.int .i64 v1),(5,.view 5 0 r5.length),(6,.int .i64 v6)],[(5,some (.sl (.one (.int .i64)) r5))]⟩
noncomputable def spec_l17Plan_p1  (v0 : List T_Step.ty) (v1 : Int) (v6 : Int) (v7 : Int) (v8 : Int) (r5 : List Int) : Option (List Int) :=
 goL spec_l17Plan_D spec_l17Plan_H (vleave spec_l17Plan_ir [.d (.one (.sl T_Step)),.d (.one (.int .i64))] [.tok (.one (.int .i64))] [] []) [.c spec_l17Plan_k0,.l spec_l17Plan_k1,.e 2,.c spec_l17Plan_k5,.e 1,.c spec_l17Plan_k6,.l spec_l17Plan_k8,.e 0,.c spec_l17Plan_k9]
  ⟨[(0,.sl T_Step v0),(1,.int .i64 v1),(5,.view 5 0 r5.length),(6,.int .i64 v6),(7,.int .i64 v7),(8,.int .i64 v8)],[(5,some (.sl (.one (.int .i64)) r5))]⟩
noncomputable def spec_l17Plan_p2  (v0 : List T_Step.ty) (v1 : Int) (v6 : Int) (v7 : Int) (r5 : List Int) : Option (List Int) :=
 goL spec_l17Plan_D spec_l17Plan_H (vleave spec_l17Plan_ir [.d (.one (.sl T_Step)),.d (.one (.int .i64))] [.tok (.one (.int .i64))] [] []) [.c spec_l17Plan_k2,.l spec_l17Plan_k3,.e 4,.c spec_l17Plan_k4,.e 1,.c spec_l17Plan_k6,.l spec_l17Plan_k8,.e 0,.c spec_l17Plan_k9]
  ⟨[(0,.sl T_Step v0),(1,.int .i64 v1),(5,.view 5 0 r5.length),(6,.int .i64 v6),(7,.int .i64 v7)],[(5,some (.sl (.one (.int .i64)) r5))]⟩
theorem spec_l17Plan_eq (a0 : List T_Step.ty) (a1 : Int) : spec_l17Plan a0 a1 =
 spec_l17Plan_p0 a0 a1 0 [] :=
 (mk_f _ _ _ _ _ _ _ 4000).trans (by kernel_rfl)
theorem spec_l17Plan_p0_eq  (v0 : List T_Step.ty) (v1 : Int) (v6 : Int) (r5 : List Int) : spec_l17Plan_p0 v0 v1 v6 r5 =
 if decide (v6 < (v0.length : Int)) then
  spec_l17Plan_p1 v0 v1 v6 0 0 r5
 else
  some (r5.take r5.length) :=
 (goL_dn _ _ _ 4000 _ _).trans (by kernel_rfl)
theorem spec_l17Plan_p1_eq  (v0 : List T_Step.ty) (v1 : Int) (v6 : Int) (v7 : Int) (v8 : Int) (r5 : List Int) : spec_l17Plan_p1 v0 v1 v6 v7 v8 r5 =
 if decide (0 ≤ v6) then
  (v0[v6.toNat]?).bind fun x1 =>
   if decide (v8 < (x1.2.2.2.1.length : Int)) then
    if decide (0 ≤ v6) then
     (v0[v6.toNat]?).bind fun x2 =>
      if decide (0 ≤ v8) then
       (x2.2.2.2.1[v8.toNat]?).bind fun x3 =>
        if decide (0 ≤ x3) && decide (x3 < (r5.length : Int)) then
         (r5[x3.toNat]?).bind fun x4 =>
          if decide (0 ≤ x3) then
           (v0[x3.toNat]?).bind fun x5 =>
            (spec_l00Max v7 (IntKind.i64.wrap (x4 + x5.2.1))).bind fun x6 =>
             spec_l17Plan_p1 v0 v1 v6 x6 (IntKind.i64.wrap (v8 + 1)) r5
          else
           none
        else
         none
      else
       none
    else
     none
   else
    spec_l17Plan_p2 v0 v1 v6 v7 r5
 else
  none :=
 (goL_dn _ _ _ 4000 _ _).trans (by kernel_rfl)
theorem spec_l17Plan_p2_eq  (v0 : List T_Step.ty) (v1 : Int) (v6 : Int) (v7 : Int) (r5 : List Int) : spec_l17Plan_p2 v0 v1 v6 v7 r5 =
 if decide (0 ≤ v6) then
  (v0[v6.toNat]?).bind fun x1 =>
   if decide (0 ≤ v6) then
    (v0[v6.toNat]?).bind fun x2 =>
     (spec_l17Free v0 (r5.take r5.length) v7 x1.2.1 (IntKind.i64.wrap (v1 - x2.2.2.1))).bind fun x3 =>
      if (!x3) then
       spec_l17Plan_p2 v0 v1 v6 (IntKind.i64.wrap (v7 + 1)) r5
      else
       if decide (r5.length + 1 < lim) then
        spec_l17Plan_p0 v0 v1 (IntKind.i64.wrap (v6 + 1)) ((r5.take r5.length) ++ [v7])
       else
        none
   else
    none
 else
  none :=
 (goL_dn _ _ _ 4000 _ _).trans (by kernel_rfl)
def spec_WithClamps_ir : Fn := { np := 2,io := [],res := [.t 4,.t 5],own := [true,false],body :=
 (.seq (.reg false [.W 4 (.asg (.c (.nils 1))),.V 5 (.asg (.c (.int .i64 0)))] [0,1] []) (.seq (.seq (.reg false [.V 6 (.mv (.t 0)),.V 7 (.call (.c (.fn 462 [])) [.t 6]),.V 8 (.un .not (.t 7))] [0,1,8] []) (.cond (.t 8) (.seq (.reg false [.W 4 (.asg (.c (.nils 1))),.V 5 (.asg (.c (.int .i64 1)))] [4,5] [4]) .ret) .skip)) (.seq (.seq (.reg false [.V 9 (.mv (.t 1)),.V 10 (.call (.c (.fn 1 [])) [.t 9,.c (.int .i64 0),.c (.int .i64 240)]),.V 11 (.un .not (.t 10))] [0,1,11] []) (.cond (.t 11) (.seq (.reg false [.W 4 (.asg (.c (.nils 1))),.V 5 (.asg (.c (.int .i64 2)))] [4,5] [4]) .ret) .skip)) (.seq (.seq (.reg false [.V 12 (.mv (.t 0)),.V 13 (.mv (.t 1)),.V 14 (.call (.c (.fn 543 [])) [.t 12,.t 13]),.V 15 (.un .not (.t 14))] [0,1,15] []) (.cond (.t 15) (.seq (.reg false [.W 4 (.asg (.c (.nils 1))),.V 5 (.asg (.c (.int .i64 3)))] [4,5] [4]) .ret) .skip)) (.seq (.reg false [.V 16 (.mv (.t 0)),.V 17 (.mv (.t 1)),.V 18 (.call (.c (.fn 542 [])) [.t 16,.t 17]),.W 4 (.asg (.t 18)),.V 5 (.asg (.c (.int .i64 0)))] [4,5] [4]) .ret))))) }
noncomputable def spec_WithClamps_D : List (Nat × Callee) := [(1,spec_l00In_c),(462,spec_l17Ok_c),(542,spec_l17Plan_c),(543,spec_l17Clamps_c)]
def spec_WithClamps_H : List (Nat × ET) := [(4,(.one (.int .i64))),(6,T_Step),(12,T_Step),(16,T_Step),(18,(.one (.int .i64)))]
noncomputable def spec_WithClamps_c : Callee := mkCallee spec_WithClamps_D spec_WithClamps_H spec_WithClamps_ir [.d (.one (.sl T_Step)),.d (.one (.int .i64))] [.tok (.one (.int .i64)),.d (.one (.int .i64))] []
noncomputable def spec_WithClamps (a0 : List T_Step.ty) (a1 : Int) : Option (List Int × Int) := spec_WithClamps_c.f (a0,a1,())
theorem spec_WithClamps_eq (a0 : List T_Step.ty) (a1 : Int) : spec_WithClamps a0 a1 =
 (spec_l17Ok a0).bind fun x1 =>
  if (!x1) then
   some ([],1)
  else
   (spec_l00In a1 0 240).bind fun x2 =>
    if (!x2) then
     some ([],2)
    else
     (spec_l17Clamps a0 a1).bind fun x3 =>
      if (!x3) then
       some ([],3)
      else
       (spec_l17Plan a0 a1).bind fun x4 =>
        some ((x4.take x4.length),0) :=
 (mk_f _ _ _ _ _ _ _ 4000).trans (by kernel_rfl)
def laws_FnClamps_k0 : C :=
 .seq (.seq (.reg false [.V 78 (.mv (.t 16)),.V 79 (.mv (.t 5)),.V 80 (.len (.t 79)),.V 81 (.bin .lss (.t 78) (.t 80))] [1,5,6,7,8,11,13,15,16,81] [5,7,11]) (.cond (.t 81) .skip (.exit 0))) (.seq (.block 1 (.reg false [.V 84 (.mv (.t 15)),.V 85 (.mv (.t 5)),.V 86 (.mv (.t 16)),.V 87 (.ia 4 (.t 85) (.t 86)),.V 88 (.fa 2 (.t 87)),.V 89 (.ld none (.t 88)),.V 90 (.max [.t 84,.t 89]),.V 15 (.asg (.t 90))] [1,5,6,7,8,11,13,15,16] [5,7,11])) (.reg false [.V 82 (.mv (.t 16)),.V 83 (.bin .add (.t 82) (.c (.int .i64 1))),.V 16 (.asg (.t 83))] [1,5,6,7,8,11,13,15,16] [5,7,11]))
def laws_FnClamps_k1 : C :=
 .norm [1,5,6,7,8,11,13,15,16] [5,7,11] laws_FnClamps_k0
def laws_FnClamps_k2 : C :=
 .seq (.seq (.reg false [.V 118 (.mv (.t 17)),.V 119 (.mv (.t 5)),.V 120 (.len (.t 119)),.V 121 (.bin .lss (.t 118) (.t 120))] [1,5,6,7,11,13,15,17,121] [5,7,11]) (.cond (.t 121) .skip (.exit 2))) (.seq (.block 3 (.seq (.reg false [.V 125 (.mv (.t 5)),.V 126 (.mv (.t 7)),.V 127 (.mv (.t 7)),.V 128 (.mv (.t 17)),.V 129 (.ia 1 (.t 127) (.t 128)),.V 130 (.ld none (.t 129)),.V 131 (.call (.c (.fn 159 [])) [.t 125,.t 126,.t 130]),.V 124 (.mv (.t 131)),.V 132 (.ext (.t 124) 0),.V 133 (.ext (.t 124) 1),.V 18 (.asg (.t 132)),.V 19 (.asg (.t 133))] [1,5,6,7,11,13,15,17,18,19] [5,7,11]) (.seq (.reg true [.V 134 (.mv (.t 7)),.V 135 (.mv (.t 17)),.V 136 (.ia 1 (.t 134) (.t 135)),.V 137 (.ld none (.t 136)),.V 138 (.mv (.t 11)),.V 139 (.mv (.t 17)),.V 140 (.ia 1 (.t 138) (.t 139)),.V 141 (.ld none (.t 140)),.V 142 (.bin .lss (.t 137) (.t 141)),.V 143 (.mv (.t 142)),.G 144 (.mv (.t 19)) 9 false,.G 145 (.bin .neq (.t 144) (.c (.int .i64 0))) 9 false,.V 146 (.pick (.t 143) (.c (.bool true)) (.t 145)),.V 147 (.mv (.t 146)),.G 148 (.mv (.t 18)) 13 false,.G 149 (.mv (.t 5)) 13 false,.G 150 (.mv (.t 17)) 13 false,.G 151 (.ia 4 (.t 149) (.t 150)) 13 false,.G 152 (.fa 2 (.t 151)) 13 false,.G 153 (.ld none (.t 152)) 13 false,.G 154 (.bin .lss (.t 148) (.t 153)) 13 false,.V 155 (.pick (.t 147) (.c (.bool true)) (.t 154)),.V 156 (.mv (.t 155)),.G 157 (.mv (.t 18)) 22 false,.G 158 (.mv (.t 6)) 22 false,.G 159 (.bin .gtr (.t 157) (.t 158)) 22 false,.V 160 (.pick (.t 156) (.c (.bool true)) (.t 159))] [1,5,6,7,11,13,15,17,160] [5,7,11]) (.cond (.t 160) (.seq (.reg false [.V 4 (.asg (.c (.bool false)))] [4] []) .ret) .skip)))) (.reg false [.V 122 (.mv (.t 17)),.V 123 (.bin .add (.t 122) (.c (.int .i64 1))),.V 17 (.asg (.t 123))] [1,5,6,7,11,13,15,17] [5,7,11]))
def laws_FnClamps_k3 : C :=
 .norm [1,5,6,7,11,13,15,17] [5,7,11] laws_FnClamps_k2
def laws_FnClamps_k4 : C :=
 .seq (.reg false [.V 17 (.asg (.c (.int .i64 0)))] [1,5,6,7,11,13,15,17] [5,7,11]) (.block 2 (.loop laws_FnClamps_k3))
def laws_FnClamps_k5 : C :=
 .seq (.seq (.reg false [.V 192 (.mv (.t 26)),.V 193 (.mv (.t 5)),.V 194 (.len (.t 193)),.V 195 (.bin .lss (.t 192) (.t 194))] [5,13,15,20,21,23,24,26,195] [5,24]) (.cond (.t 195) .skip (.exit 4))) (.seq (.block 5 (.reg true [.V 198 (.mv (.t 23)),.V 199 (.mv (.t 24)),.V 200 (.mv (.t 26)),.V 201 (.ia 1 (.t 199) (.t 200)),.V 202 (.ld none (.t 201)),.V 203 (.mv (.t 5)),.V 204 (.mv (.t 26)),.V 205 (.ia 4 (.t 203) (.t 204)),.V 206 (.fa 1 (.t 205)),.V 207 (.ld none (.t 206)),.V 208 (.bin .add (.t 202) (.t 207)),.V 209 (.max [.t 198,.t 208]),.V 23 (.asg (.t 209))] [5,13,15,20,21,23,24,26] [5,24])) (.reg false [.V 196 (.mv (.t 26)),.V 197 (.bin .add (.t 196) (.c (.int .i64 1))),.V 26 (.asg (.t 197))] [5,13,15,20,21,23,24,26] [5,24]))
def laws_FnClamps_k6 : C :=
 .norm [5,13,15,20,21,23,24,26] [5,24] laws_FnClamps_k5
def laws_FnClamps_k7 : C :=
 .seq (.seq (.reg false [.V 225 (.mv (.t 31)),.V 226 (.mv (.t 28)),.V 227 (.len (.t 226)),.V 228 (.bin .lss (.t 225) (.t 227))] [5,13,20,21,27,28,29,30,31,228] [5,28]) (.cond (.t 228) .skip (.exit 8))) (.seq (.block 9 (.reg true [.V 231 (.mv (.t 30)),.V 232 (.mv (.t 28)),.V 233 (.mv (.t 31)),.V 234 (.ia 1 (.t 232) (.t 233)),.V 235 (.ld none (.t 234)),.V 236 (.mv (.t 5)),.V 237 (.mv (.t 31)),.V 238 (.ia 4 (.t 236) (.t 237)),.V 239 (.fa 1 (.t 238)),.V 240 (.ld none (.t 239)),.V 241 (.bin .add (.t 235) (.t 240)),.V 242 (.max [.t 231,.t 241]),.V 30 (.asg (.t 242))] [5,13,20,21,27,28,29,30,31] [5,28])) (.reg false [.V 229 (.mv (.t 31)),.V 230 (.bin .add (.t 229) (.c (.int .i64 1))),.V 31 (.asg (.t 230))] [5,13,20,21,27,28,29,30,31] [5,28]))
def laws_FnClamps_k8 : C :=
 .norm [5,13,20,21,27,28,29,30,31] [5,28] laws_FnClamps_k7
def laws_FnClamps_k9 : C :=
 .seq (.reg false [.V 243 (.mv (.t 29)),.V 244 (.bin .neq (.t 243) (.c (.int .i64 0))),.V 245 (.mv (.t 244)),.G 246 (.mv (.t 30)) 2 false,.G 247 (.mv (.t 20)) 2 false,.G 248 (.bin .leq (.t 246) (.t 247)) 2 false,.V 249 (.pick (.t 245) (.c (.bool true)) (.t 248))] [5,13,20,21,27,249] [5]) (.cond (.t 249) (.seq (.reg false [.V 4 (.asg (.c (.bool false)))] [4] []) .ret) .skip)
def laws_FnClamps_k10 : C :=
 .reg false [.V 217 (.mv (.t 27)),.V 218 (.bin .add (.t 217) (.c (.int .i64 1))),.V 27 (.asg (.t 218))] [5,13,20,21,27] [5]
def laws_FnClamps_k11 : C :=
 .seq (.seq (.reg false [.V 214 (.mv (.t 27)),.V 215 (.mv (.t 21)),.V 216 (.bin .lss (.t 214) (.t 215))] [5,13,20,21,27,216] [5]) (.cond (.t 216) .skip (.exit 6))) (.seq (.block 7 (.seq (.reg false [.V 220 (.mv (.t 5)),.V 221 (.mv (.t 27)),.V 222 (.call (.c (.fn 158 [])) [.t 220,.t 221]),.V 219 (.mv (.t 222)),.V 223 (.ext (.t 219) 0),.V 224 (.ext (.t 219) 1),.W 28 (.asg (.t 223)),.V 29 (.asg (.t 224))] [5,13,20,21,27,28,29] [5,28]) (.seq (.reg false [.V 30 (.asg (.c (.int .i64 0)))] [5,13,20,21,27,28,29,30] [5,28]) (.seq (.seq (.reg false [.V 31 (.asg (.c (.int .i64 0)))] [5,13,20,21,27,28,29,30,31] [5,28]) (.block 8 (.loop laws_FnClamps_k8))) laws_FnClamps_k9)))) laws_FnClamps_k10)
def laws_FnClamps_k12 : C :=
 .norm [5,13,20,21,27] [5] laws_FnClamps_k11
def laws_FnClamps_k13 : C :=
 .seq (.reg false [.V 251 (.mv (.t 5)),.V 252 (.mv (.t 13)),.V 253 (.bin .sub (.t 252) (.c (.int .i64 1))),.V 254 (.max [.c (.int .i64 0),.t 253]),.V 255 (.call (.c (.fn 157 [])) [.t 251,.t 254]),.V 250 (.mv (.t 255)),.V 256 (.ext (.t 250) 0),.V 257 (.ext (.t 250) 1),.V 32 (.asg (.t 256)),.V 33 (.asg (.t 257))] [13,33] []) (.seq (.reg false [.V 258 (.mv (.t 33)),.V 259 (.bin .eql (.t 258) (.c (.int .i64 3))),.V 260 (.mv (.t 13)),.V 261 (.bin .gtr (.t 260) (.c (.int .i64 0))),.V 262 (.eqb false (.t 259) (.t 261)),.V 4 (.asg (.t 262))] [4] []) .ret)
def laws_FnClamps_k14 : C :=
 .seq (.seq (.reg false [.V 210 (.mv (.t 23)),.V 211 (.mv (.t 20)),.V 212 (.bin .gtr (.t 210) (.t 211))] [5,13,15,20,21,212] [5]) (.cond (.t 212) (.seq (.reg false [.V 4 (.asg (.c (.bool false)))] [4] []) .ret) .skip)) (.seq (.seq (.reg false [.V 213 (.mv (.t 15)),.V 27 (.asg (.t 213))] [5,13,20,21,27] [5]) (.block 6 (.loop laws_FnClamps_k12))) laws_FnClamps_k13)
def laws_FnClamps_k15 : C :=
 .seq (.reg false [.V 23 (.asg (.c (.int .i64 0)))] [5,13,15,20,21,23] [5]) (.seq (.reg false [.V 185 (.mv (.t 5)),.V 186 (.mv (.t 21)),.V 187 (.call (.c (.fn 158 [])) [.t 185,.t 186]),.V 184 (.mv (.t 187)),.V 188 (.ext (.t 184) 0),.V 189 (.ext (.t 184) 1),.W 24 (.asg (.t 188)),.V 25 (.asg (.t 189))] [5,13,15,20,21,23,24,25] [5,24]) (.seq (.seq (.reg false [.V 190 (.mv (.t 25)),.V 191 (.bin .neq (.t 190) (.c (.int .i64 0)))] [5,13,15,20,21,23,24,191] [5,24]) (.cond (.t 191) (.seq (.reg false [.V 4 (.asg (.c (.bool false)))] [4] []) .ret) .skip)) (.seq (.seq (.reg false [.V 26 (.asg (.c (.int .i64 0)))] [5,13,15,20,21,23,24,26] [5,24]) (.block 4 (.loop laws_FnClamps_k6))) laws_FnClamps_k14)))
def laws_FnClamps_k16 : C :=
 .seq (.reg false [.V 163 (.mv (.t 13)),.V 164 (.mv (.t 1)),.V 165 (.call (.c (.fn 151 [])) [.t 164,.c (.int .i64 1),.c (.int .i64 20)]),.V 166 (.bin .add (.t 163) (.t 165)),.V 20 (.asg (.t 166))] [5,13,15,20] [5]) (.seq (.reg false [.V 168 (.mv (.t 5)),.V 169 (.mv (.t 20)),.V 170 (.call (.c (.fn 157 [])) [.t 168,.t 169]),.V 167 (.mv (.t 170)),.V 171 (.ext (.t 167) 0),.V 172 (.ext (.t 167) 1),.V 21 (.asg (.t 171)),.V 22 (.asg (.t 172))] [5,13,15,20,21,22] [5]) (.seq (.seq (.reg false [.V 173 (.mv (.t 22)),.V 174 (.bin .neq (.t 173) (.c (.int .i64 0))),.V 175 (.mv (.t 174)),.G 176 (.mv (.t 21)) 2 false,.G 177 (.mv (.t 15)) 2 false,.G 178 (.bin .lss (.t 176) (.t 177)) 2 false,.V 179 (.pick (.t 175) (.c (.bool true)) (.t 178)),.V 180 (.mv (.t 179)),.G 181 (.mv (.t 21)) 7 false,.G 182 (.bin .gtr (.t 181) (.c (.int .i64 240))) 7 false,.V 183 (.pick (.t 180) (.c (.bool true)) (.t 182))] [5,13,15,20,21,183] [5]) (.cond (.t 183) (.seq (.reg false [.V 4 (.asg (.c (.bool false)))] [4] []) .ret) .skip)) (.norm [5,13,15,20,21] [5] laws_FnClamps_k15)))
def laws_FnClamps_k17 : C :=
 .norm [1,5,13,15] [5] laws_FnClamps_k16
def laws_FnClamps_k18 : C :=
 .seq (.seq (.reg false [.V 91 (.mv (.t 8)),.V 92 (.bin .eql (.t 91) (.c (.int .i64 0))),.V 93 (.mv (.t 15)),.V 94 (.mv (.t 6)),.V 95 (.bin .leq (.t 93) (.t 94)),.V 96 (.eqb true (.t 92) (.t 95))] [1,5,6,7,8,11,13,15,96] [5,7,11]) (.cond (.t 96) (.seq (.reg false [.V 4 (.asg (.c (.bool false)))] [4] []) .ret) .skip)) (.seq (.seq (.reg false [.V 97 (.mv (.t 8)),.V 98 (.bin .eql (.t 97) (.c (.int .i64 0)))] [1,5,6,7,8,11,13,15,98] [5,7,11]) (.cond (.t 98) (.seq (.seq (.reg false [.V 99 (.mv (.t 7)),.V 100 (.len (.t 99)),.V 101 (.mv (.t 5)),.V 102 (.len (.t 101)),.V 103 (.bin .neq (.t 100) (.t 102)),.V 104 (.mv (.t 103)),.G 105 (.mv (.t 5)) 5 false,.G 106 (.mv (.t 7)) 5 false,.G 107 (.mv (.t 6)) 5 false,.G 108 (.call (.c (.fn 160 [])) [.t 105,.t 106,.t 107]) 5 false,.G 109 (.un .not (.t 108)) 5 false,.V 110 (.pick (.t 104) (.c (.bool true)) (.t 109)),.V 111 (.mv (.t 110)),.G 112 (.mv (.t 5)) 12 false,.G 113 (.mv (.t 7)) 12 false,.G 114 (.mv (.t 6)) 12 false,.G 115 (.call (.c (.fn 161 [])) [.t 112,.t 113,.t 114]) 12 false,.G 116 (.un .not (.t 115)) 12 false,.V 117 (.pick (.t 111) (.c (.bool true)) (.t 116))] [1,5,6,7,11,13,15,117] [5,7,11]) (.cond (.t 117) (.seq (.reg false [.V 4 (.asg (.c (.bool false)))] [4] []) .ret) .skip)) (.norm [1,5,6,7,11,13,15] [5,7,11] laws_FnClamps_k4)) (.seq (.reg false [.V 161 (.mv (.t 8)),.V 162 (.bin .neq (.t 161) (.c (.int .i64 3)))] [1,5,13,15,162] [5]) (.cond (.t 162) (.seq (.reg false [.V 4 (.asg (.c (.bool false)))] [4] []) .ret) .skip)))) laws_FnClamps_k17)
def laws_FnClamps_k19 : C :=
 .seq (.reg false [.V 15 (.asg (.c (.int .i64 0)))] [1,5,6,7,8,11,13,15] [5,7,11]) (.seq (.seq (.reg false [.V 16 (.asg (.c (.int .i64 0)))] [1,5,6,7,8,11,13,15,16] [5,7,11]) (.block 0 (.loop laws_FnClamps_k1))) laws_FnClamps_k18)
def laws_FnClamps_ir : Fn := { np := 2,io := [],res := [.t 4],own := [false],body :=
 (.seq (.reg false [.V 4 (.asg (.c (.bool false)))] [0,1] []) (.seq (.seq (.reg false [.V 34 (.mv (.t 0)),.V 35 (.mv (.t 1)),.V 36 (.call (.c (.fn 89 [])) [.t 34,.t 35])] [0,1,36] []) (.cond (.t 36) (.seq (.reg false [.V 4 (.asg (.c (.bool true)))] [4] []) .ret) .skip)) (.seq (.reg false [.V 37 (.mv (.t 0)),.V 38 (.call (.c (.fn 88 [])) [.t 37]),.W 5 (.asg (.t 38))] [1,5] [5]) (.seq (.reg false [.V 39 (.mv (.t 1)),.V 40 (.call (.c (.fn 151 [])) [.t 39,.c (.int .i64 0),.c (.int .i64 20)]),.V 6 (.asg (.t 40))] [1,5,6] [5]) (.seq (.reg false [.V 42 (.mv (.t 5)),.V 43 (.mv (.t 6)),.V 44 (.call (.c (.fn 164 [])) [.t 42,.t 43]),.V 41 (.mv (.t 44)),.V 45 (.ext (.t 41) 0),.V 46 (.ext (.t 41) 1),.W 7 (.asg (.t 45)),.V 8 (.asg (.t 46))] [1,5,6,7,8] [5,7]) (.seq (.reg false [.V 48 (.mv (.t 5)),.V 49 (.call (.c (.fn 164 [])) [.t 48,.c (.int .i64 240)]),.V 47 (.mv (.t 49)),.V 50 (.ext (.t 47) 0),.V 51 (.ext (.t 47) 1),.W 9 (.asg (.t 50)),.V 10 (.asg (.t 51))] [1,5,6,7,8,9,10] [5,7,9]) (.seq (.reg false [.V 53 (.mv (.t 5)),.V 54 (.call (.c (.fn 163 [])) [.t 53]),.V 52 (.mv (.t 54)),.V 55 (.ext (.t 52) 0),.V 56 (.ext (.t 52) 1),.W 11 (.asg (.t 55)),.V 12 (.asg (.t 56))] [1,5,6,7,8,9,10,11,12] [5,7,9,11]) (.seq (.reg false [.V 58 (.mv (.t 5)),.V 59 (.call (.c (.fn 162 [])) [.t 58]),.V 57 (.mv (.t 59)),.V 60 (.ext (.t 57) 0),.V 61 (.ext (.t 57) 1),.V 13 (.asg (.t 60)),.V 14 (.asg (.t 61))] [1,5,6,7,8,9,10,11,12,13,14] [5,7,9,11]) (.seq (.seq (.reg false [.V 62 (.mv (.t 10)),.V 63 (.bin .neq (.t 62) (.c (.int .i64 0))),.V 64 (.mv (.t 63)),.G 65 (.mv (.t 12)) 2 false,.G 66 (.bin .neq (.t 65) (.c (.int .i64 0))) 2 false,.V 67 (.pick (.t 64) (.c (.bool true)) (.t 66)),.V 68 (.mv (.t 67)),.G 69 (.mv (.t 9)) 6 false,.G 70 (.mv (.t 11)) 6 false,.G 71 (.call (.c (.fn 80 [])) [.t 69,.t 70]) 6 false,.G 72 (.un .not (.t 71)) 6 false,.V 73 (.pick (.t 68) (.c (.bool true)) (.t 72)),.V 74 (.mv (.t 73)),.G 75 (.mv (.t 14)) 12 false,.G 76 (.bin .neq (.t 75) (.c (.int .i64 0))) 12 false,.V 77 (.pick (.t 74) (.c (.bool true)) (.t 76))] [1,5,6,7,8,11,13,77] [5,7,11]) (.cond (.t 77) (.seq (.reg false [.V 4 (.asg (.c (.bool false)))] [4] []) .ret) .skip)) (.norm [1,5,6,7,8,11,13] [5,7,11] laws_FnClamps_k19)))))))))) }
noncomputable def laws_FnClamps_D : List (Nat × Callee) := [(80,laws_r8Same_c),(88,spec_R8Steps_c),(89,laws_r8Long_c),(151,laws_r8At_c),(157,impl_FewestClamps_c),(158,spec_WithClamps_c),(159,impl_ClampsUsed_c),(160,spec_KeepsClamps_c),(161,impl_KeepsClamps_c),(162,spec_TotalHours_c),(163,spec_EarliestStarts_c),(164,impl_WithClamps_c)]
def laws_FnClamps_H : List (Nat × ET) := [(5,T_Step),(7,(.one (.int .i64))),(9,(.one (.int .i64))),(11,(.one (.int .i64))),(24,(.one (.int .i64))),(28,(.one (.int .i64))),(34,(.one (.int .u8))),(35,(.one (.int .u8))),(37,(.one (.int .u8))),(38,T_Step),(39,(.one (.int .u8))),(42,T_Step),(45,(.one (.int .i64))),(48,T_Step),(50,(.one (.int .i64))),(53,T_Step),(55,(.one (.int .i64))),(58,T_Step),(69,(.one (.int .i64))),(70,(.one (.int .i64))),(79,T_Step),(85,T_Step),(99,(.one (.int .i64))),(101,T_Step),(105,T_Step),(106,(.one (.int .i64))),(112,T_Step),(113,(.one (.int .i64))),(119,T_Step),(125,T_Step),(126,(.one (.int .i64))),(127,(.one (.int .i64))),(134,(.one (.int .i64))),(138,(.one (.int .i64))),(149,T_Step),(164,(.one (.int .u8))),(168,T_Step),(185,T_Step),(188,(.one (.int .i64))),(193,T_Step),(199,(.one (.int .i64))),(203,T_Step),(220,T_Step),(223,(.one (.int .i64))),(226,(.one (.int .i64))),(232,(.one (.int .i64))),(236,T_Step),(251,T_Step)]
noncomputable def laws_FnClamps_c : Callee := mkCallee laws_FnClamps_D laws_FnClamps_H laws_FnClamps_ir [.d (.one (.sl (.one (.int .u8)))),.d (.one (.sl (.one (.int .u8))))] [.d (.one .bool)] []
noncomputable def laws_FnClamps (a0 : List Int) (a1 : List Int) : Option (Bool) := laws_FnClamps_c.f (a0,a1,())
noncomputable def laws_FnClamps_p0  (v1 : List Int) (v5 : List T_Step.ty) (v6 : Int) (v8 : Int) (v13 : Int) (r7 : List Int) (r11 : List Int) : Option (Bool) :=
 goL laws_FnClamps_D laws_FnClamps_H (vleave laws_FnClamps_ir [.d (.one (.sl (.one (.int .u8)))),.d (.one (.sl (.one (.int .u8))))] [.d (.one .bool)] [] []) [.c laws_FnClamps_k19]
  ⟨[(1,.sl (.one (.int .u8)) v1),(5,.sl T_Step v5),(6,.int .i64 v6),(7,.view 7 0 r7.length),(8,.int .i64 v8),(11,.view 11 0 r11.length),(13,.int .i64 v13)],[(5,none),(7,some (.sl (.one (.int .i64)) r7)),(11,some (.sl (.one (.int .i64)) r11))]⟩
noncomputable def laws_FnClamps_p1  (v1 : List Int) (v5 : List T_Step.ty) (v6 : Int) (v8 : Int) (v13 : Int) (v15 : Int) (v16 : Int) (r7 : List Int) (r11 : List Int) : Option (Bool) :=
 goL laws_FnClamps_D laws_FnClamps_H (vleave laws_FnClamps_ir [.d (.one (.sl (.one (.int .u8)))),.d (.one (.sl (.one (.int .u8))))] [.d (.one .bool)] [] []) [.c laws_FnClamps_k0,.l laws_FnClamps_k1,.e 0,.c laws_FnClamps_k18]
  ⟨[(1,.sl (.one (.int .u8)) v1),(5,.sl T_Step v5),(6,.int .i64 v6),(7,.view 7 0 r7.length),(8,.int .i64 v8),(11,.view 11 0 r11.length),(13,.int .i64 v13),(15,.int .i64 v15),(16,.int .i64 v16)],[(5,none),(7,some (.sl (.one (.int .i64)) r7)),(11,some (.sl (.one (.int .i64)) r11))]⟩
noncomputable def laws_FnClamps_p2  (v1 : List Int) (v5 : List T_Step.ty) (v6 : Int) (v13 : Int) (v15 : Int) (r7 : List Int) (r11 : List Int) : Option (Bool) :=
 goL laws_FnClamps_D laws_FnClamps_H (vleave laws_FnClamps_ir [.d (.one (.sl (.one (.int .u8)))),.d (.one (.sl (.one (.int .u8))))] [.d (.one .bool)] [] []) [.c laws_FnClamps_k4,.c laws_FnClamps_k17]
  ⟨[(1,.sl (.one (.int .u8)) v1),(5,.sl T_Step v5),(6,.int .i64 v6),(7,.view 7 0 r7.length),(11,.view 11 0 r11.length),(13,.int .i64 v13),(15,.int .i64 v15)],[(5,none),(7,some (.sl (.one (.int .i64)) r7)),(11,some (.sl (.one (.int .i64)) r11))]⟩
noncomputable def laws_FnClamps_p3  (v1 : List Int) (v5 : List T_Step.ty) (v13 : Int) (v15 : Int) : Option (Bool) :=
 goL laws_FnClamps_D laws_FnClamps_H (vleave laws_FnClamps_ir [.d (.one (.sl (.one (.int .u8)))),.d (.one (.sl (.one (.int .u8))))] [.d (.one .bool)] [] []) [.c laws_FnClamps_k16]
  ⟨[(1,.sl (.one (.int .u8)) v1),(5,.sl T_Step v5),(13,.int .i64 v13),(15,.int .i64 v15)],[(5,none)]⟩
noncomputable def laws_FnClamps_p4  (v1 : List Int) (v5 : List T_Step.ty) (v6 : Int) (v13 : Int) (v15 : Int) (v17 : Int) (r7 : List Int) (r11 : List Int) : Option (Bool) :=
 goL laws_FnClamps_D laws_FnClamps_H (vleave laws_FnClamps_ir [.d (.one (.sl (.one (.int .u8)))),.d (.one (.sl (.one (.int .u8))))] [.d (.one .bool)] [] []) [.c laws_FnClamps_k2,.l laws_FnClamps_k3,.e 2,.c laws_FnClamps_k17]
  ⟨[(1,.sl (.one (.int .u8)) v1),(5,.sl T_Step v5),(6,.int .i64 v6),(7,.view 7 0 r7.length),(11,.view 11 0 r11.length),(13,.int .i64 v13),(15,.int .i64 v15),(17,.int .i64 v17)],[(5,none),(7,some (.sl (.one (.int .i64)) r7)),(11,some (.sl (.one (.int .i64)) r11))]⟩
noncomputable def laws_FnClamps_p5  (v5 : List T_Step.ty) (v13 : Int) (v15 : Int) (v20 : Int) (v21 : Int) : Option (Bool) :=
 goL laws_FnClamps_D laws_FnClamps_H (vleave laws_FnClamps_ir [.d (.one (.sl (.one (.int .u8)))),.d (.one (.sl (.one (.int .u8))))] [.d (.one .bool)] [] []) [.c laws_FnClamps_k15]
  ⟨[(5,.sl T_Step v5),(13,.int .i64 v13),(15,.int .i64 v15),(20,.int .i64 v20),(21,.int .i64 v21)],[(5,none)]⟩
noncomputable def laws_FnClamps_p6  (v5 : List T_Step.ty) (v13 : Int) (v15 : Int) (v20 : Int) (v21 : Int) (v23 : Int) (v26 : Int) (r24 : List Int) : Option (Bool) :=
 goL laws_FnClamps_D laws_FnClamps_H (vleave laws_FnClamps_ir [.d (.one (.sl (.one (.int .u8)))),.d (.one (.sl (.one (.int .u8))))] [.d (.one .bool)] [] []) [.c laws_FnClamps_k5,.l laws_FnClamps_k6,.e 4,.c laws_FnClamps_k14]
  ⟨[(5,.sl T_Step v5),(13,.int .i64 v13),(15,.int .i64 v15),(20,.int .i64 v20),(21,.int .i64 v21),(23,.int .i64 v23),(24,.view 24 0 r24.length),(26,.int .i64 v26)],[(5,none),(24,some (.sl (.one (.int .i64)) r24))]⟩
noncomputable def laws_FnClamps_p7  (v5 : List T_Step.ty) (v13 : Int) (v20 : Int) (v21 : Int) (v27 : Int) : Option (Bool) :=
 goL laws_FnClamps_D laws_FnClamps_H (vleave laws_FnClamps_ir [.d (.one (.sl (.one (.int .u8)))),.d (.one (.sl (.one (.int .u8))))] [.d (.one .bool)] [] []) [.c laws_FnClamps_k11,.l laws_FnClamps_k12,.e 6,.c laws_FnClamps_k13]
  ⟨[(5,.sl T_Step v5),(13,.int .i64 v13),(20,.int .i64 v20),(21,.int .i64 v21),(27,.int .i64 v27)],[(5,none)]⟩
noncomputable def laws_FnClamps_p8  (v5 : List T_Step.ty) (v13 : Int) (v20 : Int) (v21 : Int) (v27 : Int) (v29 : Int) (v30 : Int) (v31 : Int) (r28 : List Int) : Option (Bool) :=
 goL laws_FnClamps_D laws_FnClamps_H (vleave laws_FnClamps_ir [.d (.one (.sl (.one (.int .u8)))),.d (.one (.sl (.one (.int .u8))))] [.d (.one .bool)] [] []) [.c laws_FnClamps_k7,.l laws_FnClamps_k8,.e 8,.c laws_FnClamps_k9,.e 7,.c laws_FnClamps_k10,.l laws_FnClamps_k12,.e 6,.c laws_FnClamps_k13]
  ⟨[(5,.sl T_Step v5),(13,.int .i64 v13),(20,.int .i64 v20),(21,.int .i64 v21),(27,.int .i64 v27),(28,.view 28 0 r28.length),(29,.int .i64 v29),(30,.int .i64 v30),(31,.int .i64 v31)],[(5,none),(28,some (.sl (.one (.int .i64)) r28))]⟩
theorem laws_FnClamps_eq (a0 : List Int) (a1 : List Int) : laws_FnClamps a0 a1 =
 (laws_r8Long a0 a1).bind fun x1 =>
  if x1 then
   some true
  else
   (spec_R8Steps a0).bind fun x2 =>
    (laws_r8At a1 0 20).bind fun x3 =>
     (impl_WithClamps x2 x3).bind fun x4 =>
      (impl_WithClamps x2 240).bind fun x5 =>
       (spec_EarliestStarts x2).bind fun x6 =>
        (spec_TotalHours x2).bind fun x7 =>
         if (x5.2 != 0) then
          some false
         else
          if (x6.2 != 0) then
           some false
          else
           (laws_r8Same (x5.1.take x5.1.length) (x6.1.take x6.1.length)).bind fun x8 =>
            if (!x8) then
             some false
            else
             if (x7.2 != 0) then
              some false
             else
              laws_FnClamps_p0 a1 x2 x3 x4.2 x7.1 x4.1 x6.1 :=
 (mk_f _ _ _ _ _ _ _ 4000).trans (by kernel_rfl)
theorem laws_FnClamps_p0_eq  (v1 : List Int) (v5 : List T_Step.ty) (v6 : Int) (v8 : Int) (v13 : Int) (r7 : List Int) (r11 : List Int) : laws_FnClamps_p0 v1 v5 v6 v8 v13 r7 r11 =
 laws_FnClamps_p1 v1 v5 v6 v8 v13 0 0 r7 r11 :=
 (goL_dn _ _ _ 4000 _ _).trans (by kernel_rfl)
theorem laws_FnClamps_p1_eq  (v1 : List Int) (v5 : List T_Step.ty) (v6 : Int) (v8 : Int) (v13 : Int) (v15 : Int) (v16 : Int) (r7 : List Int) (r11 : List Int) : laws_FnClamps_p1 v1 v5 v6 v8 v13 v15 v16 r7 r11 =
 if decide (v16 < (v5.length : Int)) then
  if decide (0 ≤ v16) then
   (v5[v16.toNat]?).bind fun x1 =>
    laws_FnClamps_p1 v1 v5 v6 v8 v13 (if x1.2.2.1 > v15 then x1.2.2.1 else v15) (IntKind.i64.wrap (v16 + 1)) r7 r11
  else
   none
 else
  if (!((v8 == 0) == decide (v15 ≤ v6))) then
   some false
  else
   if (v8 == 0) then
    if ((r7.length : Int) != (v5.length : Int)) then
     some false
    else
     (spec_KeepsClamps v5 (r7.take r7.length) v6).bind fun x2 =>
      if (!x2) then
       some false
      else
       (impl_KeepsClamps v5 (r7.take r7.length) v6).bind fun x3 =>
        if (!x3) then
         some false
        else
         laws_FnClamps_p2 v1 v5 v6 v13 v15 r7 r11
   else
    if (v8 != 3) then
     some false
    else
     laws_FnClamps_p3 v1 v5 v13 v15 :=
 (goL_dn _ _ _ 4000 _ _).trans (by kernel_rfl)
theorem laws_FnClamps_p2_eq  (v1 : List Int) (v5 : List T_Step.ty) (v6 : Int) (v13 : Int) (v15 : Int) (r7 : List Int) (r11 : List Int) : laws_FnClamps_p2 v1 v5 v6 v13 v15 r7 r11 =
 laws_FnClamps_p4 v1 v5 v6 v13 v15 0 r7 r11 :=
 (goL_dn _ _ _ 4000 _ _).trans (by kernel_rfl)
theorem laws_FnClamps_p3_eq  (v1 : List Int) (v5 : List T_Step.ty) (v13 : Int) (v15 : Int) : laws_FnClamps_p3 v1 v5 v13 v15 =
 (laws_r8At v1 1 20).bind fun x1 =>
  (impl_FewestClamps v5 (IntKind.i64.wrap (v13 + x1))).bind fun x2 =>
   if (x2.2 != 0) then
    some false
   else
    if decide (x2.1 < v15) then
     some false
    else
     if decide (x2.1 > 240) then
      some false
     else
      laws_FnClamps_p5 v5 v13 v15 (IntKind.i64.wrap (v13 + x1)) x2.1 :=
 (goL_dn _ _ _ 4000 _ _).trans (by kernel_rfl)
theorem laws_FnClamps_p4_eq  (v1 : List Int) (v5 : List T_Step.ty) (v6 : Int) (v13 : Int) (v15 : Int) (v17 : Int) (r7 : List Int) (r11 : List Int) : laws_FnClamps_p4 v1 v5 v6 v13 v15 v17 r7 r11 =
 if decide (v17 < (v5.length : Int)) then
  if decide (0 ≤ v17) && decide (v17 < (r7.length : Int)) then
   (r7[v17.toNat]?).bind fun x1 =>
    (impl_ClampsUsed v5 (r7.take r7.length) x1).bind fun x2 =>
     if decide (0 ≤ v17) && decide (v17 < (r7.length : Int)) then
      (r7[v17.toNat]?).bind fun x3 =>
       if decide (0 ≤ v17) && decide (v17 < (r11.length : Int)) then
        (r11[v17.toNat]?).bind fun x4 =>
         if decide (x3 < x4) then
          some false
         else
          if (x2.2 != 0) then
           some false
          else
           if decide (0 ≤ v17) then
            (v5[v17.toNat]?).bind fun x5 =>
             if decide (x2.1 < x5.2.2.1) then
              some false
             else
              if decide (x2.1 > v6) then
               some false
              else
               laws_FnClamps_p4 v1 v5 v6 v13 v15 (IntKind.i64.wrap (v17 + 1)) r7 r11
           else
            none
       else
        none
     else
      none
  else
   none
 else
  laws_FnClamps_p3 v1 v5 v13 v15 :=
 (goL_dn _ _ _ 4000 _ _).trans (by kernel_rfl)
theorem laws_FnClamps_p5_eq  (v5 : List T_Step.ty) (v13 : Int) (v15 : Int) (v20 : Int) (v21 : Int) : laws_FnClamps_p5 v5 v13 v15 v20 v21 =
 (spec_WithClamps v5 v21).bind fun x1 =>
  if (x1.2 != 0) then
   some false
  else
   laws_FnClamps_p6 v5 v13 v15 v20 v21 0 0 x1.1 :=
 (goL_dn _ _ _ 4000 _ _).trans (by kernel_rfl)
theorem laws_FnClamps_p6_eq  (v5 : List T_Step.ty) (v13 : Int) (v15 : Int) (v20 : Int) (v21 : Int) (v23 : Int) (v26 : Int) (r24 : List Int) : laws_FnClamps_p6 v5 v13 v15 v20 v21 v23 v26 r24 =
 if decide (v26 < (v5.length : Int)) then
  if decide (0 ≤ v26) && decide (v26 < (r24.length : Int)) then
   (r24[v26.toNat]?).bind fun x1 =>
    if decide (0 ≤ v26) then
     (v5[v26.toNat]?).bind fun x2 =>
      laws_FnClamps_p6 v5 v13 v15 v20 v21 (if IntKind.i64.wrap (x1 + x2.2.1) > v23 then IntKind.i64.wrap (x1 + x2.2.1) else v23) (IntKind.i64.wrap (v26 + 1)) r24
    else
     none
  else
   none
 else
  if decide (v23 > v20) then
   some false
  else
   laws_FnClamps_p7 v5 v13 v20 v21 v15 :=
 (goL_dn _ _ _ 4000 _ _).trans (by kernel_rfl)
theorem laws_FnClamps_p7_eq  (v5 : List T_Step.ty) (v13 : Int) (v20 : Int) (v21 : Int) (v27 : Int) : laws_FnClamps_p7 v5 v13 v20 v21 v27 =
 if decide (v27 < v21) then
  (spec_WithClamps v5 v27).bind fun x1 =>
   laws_FnClamps_p8 v5 v13 v20 v21 v27 x1.2 0 0 x1.1
 else
  (impl_FewestClamps v5 (if IntKind.i64.wrap (v13 - 1) > 0 then IntKind.i64.wrap (v13 - 1) else 0)).bind fun x2 =>
   some ((x2.2 == 3) == decide (v13 > 0)) :=
 (goL_dn _ _ _ 4000 _ _).trans (by kernel_rfl)
theorem laws_FnClamps_p8_eq  (v5 : List T_Step.ty) (v13 : Int) (v20 : Int) (v21 : Int) (v27 : Int) (v29 : Int) (v30 : Int) (v31 : Int) (r28 : List Int) : laws_FnClamps_p8 v5 v13 v20 v21 v27 v29 v30 v31 r28 =
 if decide (v31 < (r28.length : Int)) then
  if decide (0 ≤ v31) && decide (v31 < (r28.length : Int)) then
   (r28[v31.toNat]?).bind fun x1 =>
    if decide (0 ≤ v31) then
     (v5[v31.toNat]?).bind fun x2 =>
      laws_FnClamps_p8 v5 v13 v20 v21 v27 v29 (if IntKind.i64.wrap (x1 + x2.2.1) > v30 then IntKind.i64.wrap (x1 + x2.2.1) else v30) (IntKind.i64.wrap (v31 + 1)) r28
    else
     none
  else
   none
 else
  if (v29 != 0) then
   some false
  else
   if decide (v30 ≤ v20) then
    some false
   else
    laws_FnClamps_p7 v5 v13 v20 v21 (IntKind.i64.wrap (v27 + 1)) :=
 (goL_dn _ _ _ 4000 _ _).trans (by kernel_rfl)
end Go.Ab.P
