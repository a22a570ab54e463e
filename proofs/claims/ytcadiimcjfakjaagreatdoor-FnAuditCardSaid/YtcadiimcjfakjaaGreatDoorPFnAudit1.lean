/- Functions of the program: abstract forms, and what their runs give. Conditions: none. -/
import Derived.Test.YtcadiimcjfakjaaGreatDoorL4
set_option maxRecDepth 100000
set_option linter.unusedVariables false
namespace Go.Ab.P
open Go.Ab
@[reducible] def T_Problem : ET := .agg (.cons (.int .i64) (.cons .str (.cons .str .nil)))
@[reducible] def T_Neck : ET := .agg (.cons (.int .i64) (.cons (.int .i64) (.cons (.int .i64) (.cons (.int .i64) .nil))))
@[reducible] def T_Step : ET := .agg (.cons .str (.cons (.int .i64) (.cons (.int .i64) (.cons (.sl (.one (.int .i64))) .nil))))
@[reducible] def T_Paper : ET := .agg (.cons .str (.cons .str (.cons (.int .i64) (.cons (.int .i64) (.cons (.int .i64) .nil)))))
@[reducible] def T_Arc : ET := .agg (.cons (.int .i64) (.cons (.int .i64) (.cons (.int .i64) (.cons (.int .i64) (.cons (.int .i64) (.cons (.int .i64) .nil))))))
@[reducible] def T_Entry : ET := .agg (.cons (.int .i64) (.cons .str (.cons .str (.cons (.int .i64) .nil))))
@[reducible] def T_Shop : ET := .agg (.cons (.sl T_Arc) (.cons (.sl T_Neck) (.cons (.int .i64) (.cons (.sl T_Step) (.cons (.sl (.one (.int .i64))) (.cons (.int .i64) (.cons (.sl T_Paper) (.cons (.sl T_Entry) .nil))))))))
@[reducible] def T_Point : ET := .agg (.cons (.int .i64) (.cons (.int .i64) .nil))
@[reducible] def T_l00Src : ET := .agg (.cons (.sl (.one (.int .u8))) (.cons (.int .i64) (.cons (.int .u64) .nil)))
def spec_l00From_ir : Fn := { np := 1,io := [],res := [.t 2],own := [true],body :=
 (.seq (.reg false [.V 2 (.asg (.c (.cst (.pointer none))))] [0] []) (.seq (.reg false [.V 3 (.mv (.t 0)),.V 4 (.build [.nils 1,.int .i64 0,.int .u64 0] [(0,1,.t 3)]),.W 5 (.box 3 (.t 4)),.V 2 (.asg (.t 5))] [2] [5,6000]) .ret)) }
noncomputable def spec_l00From_D : List (Nat × Callee) := []
def spec_l00From_H : List (Nat × ET) := [(3,(.one (.int .u8)))]
noncomputable def spec_l00From_c : Callee := mkCallee spec_l00From_D spec_l00From_H spec_l00From_ir [.d (.one (.sl (.one (.int .u8))))] [.box T_l00Src] []
noncomputable def spec_l00From (a0 : List Int) : Option (T_l00Src.ty) := spec_l00From_c.f (a0,())
theorem spec_l00From_eq (a0 : List Int) : spec_l00From a0 =
 some (a0,0,0,()) :=
 (mk_f _ _ _ _ _ _ _ 4000).trans (by kernel_rfl)
def spec_l00Src_next_k0 : C :=
 .seq (.reg false [.V 25 (.mv (.t 0)),.V 26 (.nilck (.t 25)),.V 27 (.fa 1 (.t 26)),.V 28 (.ld none (.t 27)),.V 29 (.bin .add (.t 28) (.c (.int .i64 1))),.V 30 (.nilck (.t 25)),.V 31 (.fa 1 (.t 30)),⟨none,true,.sto 1 (.t 31) (.t 29),none,false,[]⟩] [0,3] [0,1000]) (.seq (.reg false [.V 32 (.mv (.t 0)),.V 33 (.mv (.t 0)),.V 34 (.nilck (.t 33)),.V 35 (.fa 2 (.t 34)),.V 36 (.ld none (.t 35)),.V 37 (.bin .mul (.t 36) (.c (.int .u64 6364136223846793005))),.V 38 (.mv (.t 3)),.V 39 (.conv (.int .u64) (.t 38)),.V 40 (.bin .add (.t 37) (.t 39)),.V 41 (.bin .add (.t 40) (.c (.int .u64 1442695040888963407))),.V 42 (.nilck (.t 32)),.V 43 (.fa 2 (.t 42)),⟨none,true,.sto 1 (.t 43) (.t 41),none,false,[]⟩] [0,3] [0,1000]) (.seq (.seq (.reg true [.V 44 (.mv (.t 0)),.V 45 (.nilck (.t 44)),.V 46 (.fa 1 (.t 45)),.V 47 (.ld none (.t 46)),.V 48 (.mv (.t 0)),.V 49 (.nilck (.t 48)),.V 50 (.fa 0 (.t 49)),.V 51 (.ld none (.t 50)),.V 52 (.len (.t 51)),.V 53 (.bin .leq (.t 47) (.t 52))] [0,3,53] [0,1000]) (.cond (.t 53) (.seq (.reg false [.V 54 (.mv (.t 3)),.V 2 (.asg (.t 54))] [0,2] [0,1000]) .ret) .skip)) (.seq (.reg false [.V 55 (.mv (.t 0)),.V 56 (.nilck (.t 55)),.V 57 (.fa 2 (.t 56)),.V 58 (.ld none (.t 57)),.V 59 (.bin .shr (.t 58) (.c (.int .u64 40))),.V 60 (.bin .and (.t 59) (.c (.int .u64 255))),.V 61 (.conv (.int .i64) (.t 60)),.V 2 (.asg (.t 61))] [0,2] [0,1000]) .ret)))
def spec_l00Src_next_ir : Fn := { np := 1,io := [true],res := [.t 2],own := [false],body :=
 (.seq (.reg false [.V 2 (.asg (.c (.int .i64 0)))] [0] [0,1000]) (.seq (.reg false [.V 3 (.asg (.c (.int .i64 0)))] [0,3] [0,1000]) (.seq (.seq (.reg true [.V 4 (.mv (.t 0)),.V 5 (.nilck (.t 4)),.V 6 (.fa 1 (.t 5)),.V 7 (.ld none (.t 6)),.V 8 (.mv (.t 0)),.V 9 (.nilck (.t 8)),.V 10 (.fa 0 (.t 9)),.V 11 (.ld none (.t 10)),.V 12 (.len (.t 11)),.V 13 (.bin .lss (.t 7) (.t 12))] [0,3,13] [0,1000]) (.cond (.t 13) (.reg true [.V 14 (.mv (.t 0)),.V 15 (.nilck (.t 14)),.V 16 (.fa 0 (.t 15)),.V 17 (.ld none (.t 16)),.V 18 (.mv (.t 0)),.V 19 (.nilck (.t 18)),.V 20 (.fa 1 (.t 19)),.V 21 (.ld none (.t 20)),.V 22 (.ia 1 (.t 17) (.t 21)),.V 23 (.ld none (.t 22)),.V 24 (.conv (.int .i64) (.t 23)),.V 3 (.asg (.t 24))] [0,3] [0,1000]) .skip)) (.norm [0,3] [0,1000] spec_l00Src_next_k0)))) }
noncomputable def spec_l00Src_next_D : List (Nat × Callee) := []
def spec_l00Src_next_H : List (Nat × ET) := [(11,(.one (.int .u8))),(17,(.one (.int .u8))),(51,(.one (.int .u8)))]
noncomputable def spec_l00Src_next_c : Callee := mkCallee spec_l00Src_next_D spec_l00Src_next_H spec_l00Src_next_ir [.box T_l00Src] [.d (.one (.int .i64))] [.box T_l00Src]
noncomputable def spec_l00Src_next (a0 : T_l00Src.ty) : Option (Int × T_l00Src.ty) := spec_l00Src_next_c.f (a0,())
noncomputable def spec_l00Src_next_p0  (v3 : Int) (r0_0 : List Int) (r0_1 : Int) (r0_2 : Int) : Option (Int × T_l00Src.ty) :=
 goL spec_l00Src_next_D spec_l00Src_next_H (vleave spec_l00Src_next_ir [.box T_l00Src] [.d (.one (.int .i64))] [.box T_l00Src] []) [.c spec_l00Src_next_k0]
  ⟨[(0,.loc 0 0 0),(3,.int .i64 v3)],[(0,some (.var 3 (.agg [.sl (.one (.int .u8)) r0_0,.int .i64 r0_1,.int .u64 r0_2]))),(1000,none)]⟩
theorem spec_l00Src_next_eq (a0 : T_l00Src.ty) : spec_l00Src_next a0 =
 if decide (a0.2.1 < (a0.1.length : Int)) then
  if decide (0 ≤ a0.2.1) then
   (a0.1[a0.2.1.toNat]?).bind fun x1 =>
    spec_l00Src_next_p0 (IntKind.i64.wrap x1) a0.1 a0.2.1 a0.2.2.1
  else
   none
 else
  spec_l00Src_next_p0 0 a0.1 a0.2.1 a0.2.2.1 :=
 (mk_f _ _ _ _ _ _ _ 4000).trans (by kernel_rfl)
theorem spec_l00Src_next_p0_eq  (v3 : Int) (r0_0 : List Int) (r0_1 : Int) (r0_2 : Int) : spec_l00Src_next_p0 v3 r0_0 r0_1 r0_2 =
 if decide (IntKind.i64.wrap (r0_1 + 1) ≤ (r0_0.length : Int)) then
  some (v3,(r0_0,IntKind.i64.wrap (r0_1 + 1),IntKind.u64.wrap ((IntKind.u64.wrap ((IntKind.u64.wrap (r0_2 * 6364136223846793005)) + (IntKind.u64.wrap v3))) + 1442695040888963407),()))
 else
  some (IntKind.i64.wrap (IntKind.u64.wrap ((BitVec.ofInt IntKind.u64.bits (Int.fdiv (IntKind.u64.wrap ((IntKind.u64.wrap ((IntKind.u64.wrap (r0_2 * 6364136223846793005)) + (IntKind.u64.wrap v3))) + 1442695040888963407)) (2 ^ (min (40 : Int).toNat IntKind.u64.bits))) &&& BitVec.ofInt IntKind.u64.bits 255).toNat : Int)),(r0_0,IntKind.i64.wrap (r0_1 + 1),IntKind.u64.wrap ((IntKind.u64.wrap ((IntKind.u64.wrap (r0_2 * 6364136223846793005)) + (IntKind.u64.wrap v3))) + 1442695040888963407),())) :=
 (goL_dn _ _ _ 4000 _ _).trans (by kernel_rfl)
def spec_l00Src_pick_ir : Fn := { np := 2,io := [true,false],res := [.t 4],own := [false],body :=
 (.seq (.reg false [.V 4 (.asg (.c (.int .i64 0)))] [0,1] [0,1000]) (.seq (.seq (.reg false [.V 6 (.mv (.t 1)),.V 7 (.bin .leq (.t 6) (.c (.int .i64 1)))] [0,1,7] [0,1000]) (.cond (.t 7) (.seq (.reg false [.V 4 (.asg (.c (.int .i64 0)))] [0,4] [0,1000]) .ret) .skip)) (.seq (.reg false [.V 8 (.mv (.t 0)),.W 9 (.call (.c (.fn 847 [])) [.t 8]),.V 5 (.asg (.t 9))] [0,1,5] [0,1000]) (.seq (.seq (.reg false [.V 10 (.mv (.t 1)),.V 11 (.bin .gtr (.t 10) (.c (.int .i64 200)))] [0,1,5,11] [0,1000]) (.cond (.t 11) (.reg false [.V 12 (.mv (.t 5)),.V 13 (.bin .mul (.t 12) (.c (.int .i64 256))),.V 14 (.mv (.t 0)),.W 15 (.call (.c (.fn 847 [])) [.t 14]),.V 16 (.bin .add (.t 13) (.t 15)),.V 5 (.asg (.t 16))] [0,1,5] [0,1000]) .skip)) (.seq (.reg false [.V 17 (.mv (.t 5)),.V 18 (.mv (.t 1)),.V 19 (.bin .rem (.t 17) (.t 18)),.V 4 (.asg (.t 19))] [0,4] [0,1000]) .ret))))) }
noncomputable def spec_l00Src_pick_D : List (Nat × Callee) := [(847,spec_l00Src_next_c)]
def spec_l00Src_pick_H : List (Nat × ET) := []
noncomputable def spec_l00Src_pick_c : Callee := mkCallee spec_l00Src_pick_D spec_l00Src_pick_H spec_l00Src_pick_ir [.box T_l00Src,.d (.one (.int .i64))] [.d (.one (.int .i64))] [.box T_l00Src]
noncomputable def spec_l00Src_pick (a0 : T_l00Src.ty) (a1 : Int) : Option (Int × T_l00Src.ty) := spec_l00Src_pick_c.f (a0,a1,())
theorem spec_l00Src_pick_eq (a0 : T_l00Src.ty) (a1 : Int) : spec_l00Src_pick a0 a1 =
 if decide (a1 ≤ 1) then
  some (0,a0)
 else
  (spec_l00Src_next a0).bind fun x1 =>
   if decide (a1 > 200) then
    (spec_l00Src_next (x1.2.1,x1.2.2.1,x1.2.2.2.1,())).bind fun x2 =>
     if decide (a1 = 0) then
      none
     else
      some ((IntKind.i64.wrap ((IntKind.i64.wrap (x1.1 * 256)) + x2.1)).tmod a1,(x2.2.1,x2.2.2.1,x2.2.2.2.1,()))
   else
    if decide (a1 = 0) then
     none
    else
     some (x1.1.tmod a1,(x1.2.1,x1.2.2.1,x1.2.2.2.1,())) :=
 (mk_f _ _ _ _ _ _ _ 4000).trans (by kernel_rfl)
def spec_l05Arc_ir : Fn := { np := 6,io := [],res := [.cell 12 (some 6)],own := [false],body :=
 (.seq (.reg false [.W 12 (.alloc 6 (.agg [.int .i64 0,.int .i64 0,.int .i64 0,.int .i64 0,.int .i64 0,.int .i64 0]))] [0,1,2,3,4,5,12] [12]) (.seq (.reg false [.V 13 (.mv (.t 0)),.V 14 (.mv (.t 1)),.V 15 (.build [.int .i64 0,.int .i64 0] [(0,1,.t 13),(1,1,.t 14)]),.V 16 (.mv (.t 2)),.V 17 (.mv (.t 3)),.V 18 (.build [.int .i64 0,.int .i64 0] [(0,1,.t 16),(1,1,.t 17)]),.V 19 (.mv (.t 4)),.V 20 (.mv (.t 5)),.V 21 (.build [.int .i64 0,.int .i64 0] [(0,1,.t 19),(1,1,.t 20)]),.V 22 (.build [.int .i64 0,.int .i64 0,.int .i64 0,.int .i64 0,.int .i64 0,.int .i64 0] [(0,2,.t 15),(2,2,.t 18),(4,2,.t 21)]),⟨none,true,.sto 6 (.t 12) (.t 22),none,false,[]⟩] [12] [12]) .ret)) }
noncomputable def spec_l05Arc_D : List (Nat × Callee) := []
def spec_l05Arc_H : List (Nat × ET) := []
noncomputable def spec_l05Arc_c : Callee := mkCallee spec_l05Arc_D spec_l05Arc_H spec_l05Arc_ir [.d (.one (.int .i64)),.d (.one (.int .i64)),.d (.one (.int .i64)),.d (.one (.int .i64)),.d (.one (.int .i64)),.d (.one (.int .i64))] [.d T_Arc] []
noncomputable def spec_l05Arc (a0 : Int) (a1 : Int) (a2 : Int) (a3 : Int) (a4 : Int) (a5 : Int) : Option (T_Arc.ty) := spec_l05Arc_c.f (a0,a1,a2,a3,a4,a5,())
theorem spec_l05Arc_eq (a0 : Int) (a1 : Int) (a2 : Int) (a3 : Int) (a4 : Int) (a5 : Int) : spec_l05Arc a0 a1 a2 a3 a4 a5 =
 some (a0,a1,a2,a3,a4,a5,()) :=
 (mk_f _ _ _ _ _ _ _ 4000).trans (by kernel_rfl)
def spec_l05Oval_ir : Fn := { np := 2,io := [],res := [.t 4],own := [true],body :=
 (.seq (.reg false [.W 4 (.asg (.c (.nils 6)))] [0,1] []) (.seq (.reg false [.V 7 (.mv (.t 0)),.V 8 (.bin .mul (.c (.int .i64 3)) (.t 7)),.V 9 (.mv (.t 1)),.V 10 (.bin .mul (.c (.int .i64 3)) (.t 9)),.V 11 (.bin .add (.t 8) (.t 10)),.V 5 (.asg (.t 11))] [0,1,5] []) (.seq (.reg false [.V 12 (.mv (.t 1)),.V 13 (.bin .mul (.c (.int .i64 4)) (.t 12)),.V 6 (.asg (.t 13))] [0,5,6] []) (.seq (.reg false [.V 14 (.mv (.t 0)),.V 15 (.bin .mul (.c (.int .i64 (-4))) (.t 14)),.V 16 (.mv (.t 5)),.V 17 (.mv (.t 6)),.V 18 (.mv (.t 5)),.V 19 (.un .neg (.t 18)),.V 20 (.mv (.t 6)),.V 21 (.call (.c (.fn 1044 [])) [.c (.int .i64 0),.t 15,.t 16,.t 17,.t 19,.t 20]),.V 22 (.mv (.t 0)),.V 23 (.bin .mul (.c (.int .i64 (-3))) (.t 22)),.V 24 (.mv (.t 5)),.V 25 (.un .neg (.t 24)),.V 26 (.mv (.t 6)),.V 27 (.mv (.t 5)),.V 28 (.un .neg (.t 27)),.V 29 (.mv (.t 6)),.V 30 (.un .neg (.t 29)),.V 31 (.call (.c (.fn 1044 [])) [.t 23,.c (.int .i64 0),.t 25,.t 26,.t 28,.t 30]),.V 32 (.mv (.t 0)),.V 33 (.bin .mul (.c (.int .i64 4)) (.t 32)),.V 34 (.mv (.t 5)),.V 35 (.un .neg (.t 34)),.V 36 (.mv (.t 6)),.V 37 (.un .neg (.t 36)),.V 38 (.mv (.t 5)),.V 39 (.mv (.t 6)),.V 40 (.un .neg (.t 39)),.V 41 (.call (.c (.fn 1044 [])) [.c (.int .i64 0),.t 33,.t 35,.t 37,.t 38,.t 40]),.V 42 (.mv (.t 0)),.V 43 (.bin .mul (.c (.int .i64 3)) (.t 42)),.V 44 (.mv (.t 5)),.V 45 (.mv (.t 6)),.V 46 (.un .neg (.t 45)),.V 47 (.mv (.t 5)),.V 48 (.mv (.t 6)),.V 49 (.call (.c (.fn 1044 [])) [.t 43,.c (.int .i64 0),.t 44,.t 46,.t 47,.t 48]),.V 50 (.bsl 6 (.agg [.int .i64 0,.int .i64 0,.int .i64 0,.int .i64 0,.int .i64 0,.int .i64 0]) 4 [(0,.t 21),(1,.t 31),(2,.t 41),(3,.t 49)]),.W 4 (.asg (.t 50))] [4] [4]) .ret)))) }
noncomputable def spec_l05Oval_D : List (Nat × Callee) := [(1044,spec_l05Arc_c)]
def spec_l05Oval_H : List (Nat × ET) := [(4,T_Arc),(50,T_Arc)]
noncomputable def spec_l05Oval_c : Callee := mkCallee spec_l05Oval_D spec_l05Oval_H spec_l05Oval_ir [.d (.one (.int .i64)),.d (.one (.int .i64))] [.tok T_Arc] []
noncomputable def spec_l05Oval (a0 : Int) (a1 : Int) : Option (List T_Arc.ty) := spec_l05Oval_c.f (a0,a1,())
theorem spec_l05Oval_eq (a0 : Int) (a1 : Int) : spec_l05Oval a0 a1 =
 (spec_l05Arc 0 (IntKind.i64.wrap ((-4) * a0)) (IntKind.i64.wrap ((IntKind.i64.wrap (3 * a0)) + (IntKind.i64.wrap (3 * a1)))) (IntKind.i64.wrap (4 * a1)) (IntKind.i64.wrap (0 - (IntKind.i64.wrap ((IntKind.i64.wrap (3 * a0)) + (IntKind.i64.wrap (3 * a1)))))) (IntKind.i64.wrap (4 * a1))).bind fun x1 =>
  (spec_l05Arc (IntKind.i64.wrap ((-3) * a0)) 0 (IntKind.i64.wrap (0 - (IntKind.i64.wrap ((IntKind.i64.wrap (3 * a0)) + (IntKind.i64.wrap (3 * a1)))))) (IntKind.i64.wrap (4 * a1)) (IntKind.i64.wrap (0 - (IntKind.i64.wrap ((IntKind.i64.wrap (3 * a0)) + (IntKind.i64.wrap (3 * a1)))))) (IntKind.i64.wrap (0 - (IntKind.i64.wrap (4 * a1))))).bind fun x2 =>
   (spec_l05Arc 0 (IntKind.i64.wrap (4 * a0)) (IntKind.i64.wrap (0 - (IntKind.i64.wrap ((IntKind.i64.wrap (3 * a0)) + (IntKind.i64.wrap (3 * a1)))))) (IntKind.i64.wrap (0 - (IntKind.i64.wrap (4 * a1)))) (IntKind.i64.wrap ((IntKind.i64.wrap (3 * a0)) + (IntKind.i64.wrap (3 * a1)))) (IntKind.i64.wrap (0 - (IntKind.i64.wrap (4 * a1))))).bind fun x3 =>
    (spec_l05Arc (IntKind.i64.wrap (3 * a0)) 0 (IntKind.i64.wrap ((IntKind.i64.wrap (3 * a0)) + (IntKind.i64.wrap (3 * a1)))) (IntKind.i64.wrap (0 - (IntKind.i64.wrap (4 * a1)))) (IntKind.i64.wrap ((IntKind.i64.wrap (3 * a0)) + (IntKind.i64.wrap (3 * a1)))) (IntKind.i64.wrap (4 * a1))).bind fun x4 =>
     some [x1,x2,x3,x4] :=
 (mk_f _ _ _ _ _ _ _ 4000).trans (by kernel_rfl)
def spec_l00Src_one_ir : Fn := { np := 2,io := [true,false],res := [.t 4],own := [false],body :=
 (.seq (.reg false [.V 4 (.asg (.c (.bool false)))] [0,1] [0,1000]) (.seq (.reg false [.V 5 (.mv (.t 0)),.V 6 (.mv (.t 1)),.W 7 (.call (.c (.fn 463 [])) [.t 5,.t 6]),.V 8 (.bin .eql (.t 7) (.c (.int .i64 0))),.V 4 (.asg (.t 8))] [0,4] [0,1000]) .ret)) }
noncomputable def spec_l00Src_one_D : List (Nat × Callee) := [(463,spec_l00Src_pick_c)]
def spec_l00Src_one_H : List (Nat × ET) := []
noncomputable def spec_l00Src_one_c : Callee := mkCallee spec_l00Src_one_D spec_l00Src_one_H spec_l00Src_one_ir [.box T_l00Src,.d (.one (.int .i64))] [.d (.one .bool)] [.box T_l00Src]
noncomputable def spec_l00Src_one (a0 : T_l00Src.ty) (a1 : Int) : Option (Bool × T_l00Src.ty) := spec_l00Src_one_c.f (a0,a1,())
theorem spec_l00Src_one_eq (a0 : T_l00Src.ty) (a1 : Int) : spec_l00Src_one a0 a1 =
 (spec_l00Src_pick a0 a1).bind fun x1 =>
  some ((x1.1 == 0),(x1.2.1,x1.2.2.1,x1.2.2.2.1,())) :=
 (mk_f _ _ _ _ _ _ _ 4000).trans (by kernel_rfl)
def spec_l17DrawOne_k0 : C :=
 .seq (.seq (.reg false [.V 17 (.mv (.t 8)),.V 18 (.mv (.t 2)),.V 19 (.bin .lss (.t 17) (.t 18))] [0,2,6,7,8,19] [0,6,7,1000,7003,8003]) (.cond (.t 19) .skip (.exit 0))) (.seq (.block 1 (.seq (.reg false [.V 22 (.mv (.t 0)),.W 23 (.call (.c (.fn 642 [])) [.t 22,.c (.int .i64 3)])] [0,2,6,7,8,23] [0,6,7,1000,7003,8003]) (.cond (.t 23) (.reg false [.V 24 (.fa 3 (.t 7)),.V 25 (.ld none (.t 24)),.V 26 (.mv (.t 8)),.V 27 (.bsl 1 (.int .i64 0) 1 [(0,.t 26)]),.W 28 (.app 1 8 (.t 25) (.t 27)),.V 29 (.fa 3 (.t 7)),⟨none,true,.sto 1 (.t 29) (.t 28),none,false,[]⟩] [0,2,6,7,8] [0,6,7,1000,7003,8003]) .skip))) (.reg false [.V 20 (.mv (.t 8)),.V 21 (.bin .add (.t 20) (.c (.int .i64 1))),.V 8 (.asg (.t 21))] [0,2,6,7,8] [0,6,7,1000,7003,8003]))
def spec_l17DrawOne_k1 : C :=
 .norm [0,2,6,7,8] [0,6,7,1000,7003,8003] spec_l17DrawOne_k0
def spec_l17DrawOne_k2 : C :=
 .seq (.reg false [.V 30 (.ld (some 4) (.t 7)),⟨none,true,.sto 4 (.t 6) (.t 30),none,false,[]⟩] [0,6] [0,6,1000,7003]) .ret
def spec_l17DrawOne_ir : Fn := { np := 3,io := [true,false,false],res := [.cell 6 (some 4)],own := [false],body :=
 (.seq (.reg false [.W 6 (.alloc 4 (.agg [.str [],.int .i64 0,.int .i64 0,.nils 1]))] [0,1,2,6] [0,6,1000,7003]) (.seq (.reg false [.V 9 (.mv (.t 1)),.V 10 (.mv (.t 0)),.W 11 (.call (.c (.fn 463 [])) [.t 10,.c (.int .i64 12)]),.V 12 (.bin .add (.c (.int .i64 1)) (.t 11)),.V 13 (.mv (.t 0)),.W 14 (.call (.c (.fn 463 [])) [.t 13,.c (.int .i64 7)]),.V 15 (.bsl 1 (.int .i64 0) 0 []),.V 16 (.build [.str [],.int .i64 0,.int .i64 0,.nils 1] [(0,1,.t 9),(1,1,.t 12),(2,1,.t 14),(3,1,.t 15)]),.W 7 (.alloc 4 (.agg [.str [],.int .i64 0,.int .i64 0,.nils 1])),⟨none,true,.sto 4 (.t 7) (.t 16),none,false,[]⟩] [0,2,6,7] [0,6,7,1000,7003,8003]) (.seq (.seq (.reg false [.V 8 (.asg (.c (.int .i64 0)))] [0,2,6,7,8] [0,6,7,1000,7003,8003]) (.block 0 (.loop spec_l17DrawOne_k1))) spec_l17DrawOne_k2))) }
noncomputable def spec_l17DrawOne_D : List (Nat × Callee) := [(463,spec_l00Src_pick_c),(642,spec_l00Src_one_c)]
def spec_l17DrawOne_H : List (Nat × ET) := [(15,(.one (.int .i64))),(25,(.one (.int .i64))),(27,(.one (.int .i64))),(28,(.one (.int .i64)))]
noncomputable def spec_l17DrawOne_c : Callee := mkCallee spec_l17DrawOne_D spec_l17DrawOne_H spec_l17DrawOne_ir [.box T_l00Src,.d (.one .str),.d (.one (.int .i64))] [.d T_Step] [.box T_l00Src]
noncomputable def spec_l17DrawOne (a0 : T_l00Src.ty) (a1 : List UInt8) (a2 : Int) : Option (T_Step.ty × T_l00Src.ty) := spec_l17DrawOne_c.f (a0,a1,a2,())
noncomputable def spec_l17DrawOne_p0  (v2 : Int) (v8 : Int) (r0_0 : List Int) (r0_1 : Int) (r0_2 : Int) (r6_0 : List UInt8) (r6_1 : Int) (r6_2 : Int) (r7_0 : List UInt8) (r7_1 : Int) (r7_2 : Int) (r8003 : List Int) : Option (T_Step.ty × T_l00Src.ty) :=
 goL spec_l17DrawOne_D spec_l17DrawOne_H (vleave spec_l17DrawOne_ir [.box T_l00Src,.d (.one .str),.d (.one (.int .i64))] [.d T_Step] [.box T_l00Src] []) [.c spec_l17DrawOne_k0,.l spec_l17DrawOne_k1,.e 0,.c spec_l17DrawOne_k2]
  ⟨[(0,.loc 0 0 0),(2,.int .i64 v2),(6,.loc 6 0 0),(7,.loc 7 0 0),(8,.int .i64 v8)],[(0,some (.var 3 (.agg [.sl (.one (.int .u8)) r0_0,.int .i64 r0_1,.int .u64 r0_2]))),(6,some (.var 4 (.agg [.str r6_0,.int .i64 r6_1,.int .i64 r6_2,.nils 1]))),(7,some (.var 4 (.agg [.str r7_0,.int .i64 r7_1,.int .i64 r7_2,.view 8003 0 r8003.length]))),(1000,none),(7003,none),(8003,some (.sl (.one (.int .i64)) r8003))]⟩
theorem spec_l17DrawOne_eq (a0 : T_l00Src.ty) (a1 : List UInt8) (a2 : Int) : spec_l17DrawOne a0 a1 a2 =
 (spec_l00Src_pick a0 12).bind fun x1 =>
  (spec_l00Src_pick (x1.2.1,x1.2.2.1,x1.2.2.2.1,()) 7).bind fun x2 =>
   spec_l17DrawOne_p0 a2 0 x2.2.1 x2.2.2.1 x2.2.2.2.1 [] 0 0 a1 (IntKind.i64.wrap (1 + x1.1)) x2.1 [] :=
 (mk_f _ _ _ _ _ _ _ 4000).trans (by kernel_rfl)
theorem spec_l17DrawOne_p0_eq  (v2 : Int) (v8 : Int) (r0_0 : List Int) (r0_1 : Int) (r0_2 : Int) (r6_0 : List UInt8) (r6_1 : Int) (r6_2 : Int) (r7_0 : List UInt8) (r7_1 : Int) (r7_2 : Int) (r8003 : List Int) : spec_l17DrawOne_p0 v2 v8 r0_0 r0_1 r0_2 r6_0 r6_1 r6_2 r7_0 r7_1 r7_2 r8003 =
 if decide (v8 < v2) then
  (spec_l00Src_one (r0_0,r0_1,r0_2,()) 3).bind fun x1 =>
   if x1.1 then
    if decide (r8003.length + 1 < lim) then
     spec_l17DrawOne_p0 v2 (IntKind.i64.wrap (v8 + 1)) x1.2.1 x1.2.2.1 x1.2.2.2.1 r6_0 r6_1 r6_2 r7_0 r7_1 r7_2 ((r8003.take r8003.length) ++ [v8])
    else
     none
   else
    spec_l17DrawOne_p0 v2 (IntKind.i64.wrap (v8 + 1)) x1.2.1 x1.2.2.1 x1.2.2.2.1 r6_0 r6_1 r6_2 r7_0 r7_1 r7_2 r8003
 else
  some ((r7_0,r7_1,r7_2,(r8003.take r8003.length),()),(r0_0,r0_1,r0_2,())) :=
 (goL_dn _ _ _ 4000 _ _).trans (by kernel_rfl)
def spec_l17Draw_k0 : C :=
 .seq (.seq (.reg false [.V 8 (.mv (.t 5)),.V 9 (.mv (.t 3)),.V 10 (.len (.t 9)),.V 11 (.bin .lss (.t 8) (.t 10))] [0,3,4,5,11] [0,3,4,1000]) (.cond (.t 11) .skip (.exit 0))) (.seq (.block 1 (.seq (.reg false [.V 14 (.mv (.t 0)),.W 15 (.call (.c (.fn 463 [])) [.t 14,.c (.int .i64 3)]),.V 16 (.bin .gtr (.t 15) (.c (.int .i64 0)))] [0,3,4,5,16] [0,3,4,1000]) (.cond (.t 16) (.reg false [.V 17 (.mv (.t 4)),.V 18 (.mv (.t 0)),.V 19 (.mv (.t 3)),.V 20 (.mv (.t 5)),.V 21 (.ia 1 (.t 19) (.t 20)),.V 22 (.ld none (.t 21)),.V 23 (.mv (.t 4)),.V 24 (.len (.t 23)),.W 25 (.call (.c (.fn 845 [])) [.t 18,.t 22,.t 24]),.V 26 (.bsl 4 (.agg [.str [],.int .i64 0,.int .i64 0,.sl 1 []]) 1 [(0,.t 25)]),.W 27 (.app 4 56 (.t 17) (.t 26)),.W 4 (.asg (.t 27))] [0,3,4,5] [0,3,4,1000]) .skip))) (.reg false [.V 12 (.mv (.t 5)),.V 13 (.bin .add (.t 12) (.c (.int .i64 1))),.V 5 (.asg (.t 13))] [0,3,4,5] [0,3,4,1000]))
def spec_l17Draw_k1 : C :=
 .norm [0,3,4,5] [0,3,4,1000] spec_l17Draw_k0
def spec_l17Draw_k2 : C :=
 .seq (.reg false [.V 28 (.mv (.t 4)),.W 2 (.asg (.t 28))] [0,2] [0,2,4,1000]) .ret
def spec_l17Draw_ir : Fn := { np := 1,io := [true],res := [.t 2],own := [false],body :=
 (.seq (.reg false [.W 2 (.asg (.c (.nils 4)))] [0] [0,1000]) (.seq (.reg false [.V 6 (.bsl 1 (.str []) 6 [(0,.c (.str [111,112,101,110])),(1,.c (.str [99,108,101,97,110])),(2,.c (.str [103,108,117,101])),(3,.c (.str [112,97,116,99,104])),(4,.c (.str [99,108,111,115,101])),(5,.c (.str [112,111,108,105,115,104]))]),.W 3 (.asg (.t 6))] [0,3] [0,3,1000]) (.seq (.reg false [.V 7 (.bsl 4 (.agg [.str [],.int .i64 0,.int .i64 0,.sl 1 []]) 0 []),.W 4 (.asg (.t 7))] [0,3,4] [0,3,4,1000]) (.seq (.seq (.reg false [.V 5 (.asg (.c (.int .i64 0)))] [0,3,4,5] [0,3,4,1000]) (.block 0 (.loop spec_l17Draw_k1))) spec_l17Draw_k2)))) }
noncomputable def spec_l17Draw_D : List (Nat × Callee) := [(463,spec_l00Src_pick_c),(845,spec_l17DrawOne_c)]
def spec_l17Draw_H : List (Nat × ET) := [(2,T_Step),(3,(.one .str)),(4,T_Step),(6,(.one .str)),(7,T_Step),(9,(.one .str)),(17,T_Step),(19,(.one .str)),(23,T_Step),(26,T_Step),(27,T_Step),(28,T_Step)]
noncomputable def spec_l17Draw_c : Callee := mkCallee spec_l17Draw_D spec_l17Draw_H spec_l17Draw_ir [.box T_l00Src] [.d (.one (.sl T_Step))] [.box T_l00Src]
noncomputable def spec_l17Draw (a0 : T_l00Src.ty) : Option (List T_Step.ty × T_l00Src.ty) := spec_l17Draw_c.f (a0,())
noncomputable def spec_l17Draw_p0  (v5 : Int) (r0_0 : List Int) (r0_1 : Int) (r0_2 : Int) (r3 : List (List UInt8)) (r4 : List T_Step.ty) : Option (List T_Step.ty × T_l00Src.ty) :=
 goL spec_l17Draw_D spec_l17Draw_H (vleave spec_l17Draw_ir [.box T_l00Src] [.d (.one (.sl T_Step))] [.box T_l00Src] []) [.c spec_l17Draw_k0,.l spec_l17Draw_k1,.e 0,.c spec_l17Draw_k2]
  ⟨[(0,.loc 0 0 0),(3,.view 3 0 r3.length),(4,.view 4 0 r4.length),(5,.int .i64 v5)],[(0,some (.var 3 (.agg [.sl (.one (.int .u8)) r0_0,.int .i64 r0_1,.int .u64 r0_2]))),(3,some (.sl (.one .str) r3)),(4,some (.sl T_Step r4)),(1000,none)]⟩
theorem spec_l17Draw_eq (a0 : T_l00Src.ty) : spec_l17Draw a0 =
 spec_l17Draw_p0 0 a0.1 a0.2.1 a0.2.2.1 [[111,112,101,110],[99,108,101,97,110],[103,108,117,101],[112,97,116,99,104],[99,108,111,115,101],[112,111,108,105,115,104]] [] :=
 (mk_f _ _ _ _ _ _ _ 4000).trans (by kernel_rfl)
theorem spec_l17Draw_p0_eq  (v5 : Int) (r0_0 : List Int) (r0_1 : Int) (r0_2 : Int) (r3 : List (List UInt8)) (r4 : List T_Step.ty) : spec_l17Draw_p0 v5 r0_0 r0_1 r0_2 r3 r4 =
 if decide (v5 < (r3.length : Int)) then
  (spec_l00Src_pick (r0_0,r0_1,r0_2,()) 3).bind fun x1 =>
   if decide (x1.1 > 0) then
    if decide (0 ≤ v5) && decide (v5 < (r3.length : Int)) then
     (r3[v5.toNat]?).bind fun x2 =>
      (spec_l17DrawOne (x1.2.1,x1.2.2.1,x1.2.2.2.1,()) x2 (r4.length : Int)).bind fun x3 =>
       if decide (r4.length + 1 < lim) then
        spec_l17Draw_p0 (IntKind.i64.wrap (v5 + 1)) x3.2.1 x3.2.2.1 x3.2.2.2.1 r3 ((r4.take r4.length) ++ [(x3.1.1,x3.1.2.1,x3.1.2.2.1,x3.1.2.2.2.1,())])
       else
        none
    else
     none
   else
    spec_l17Draw_p0 (IntKind.i64.wrap (v5 + 1)) x1.2.1 x1.2.2.1 x1.2.2.2.1 r3 r4
 else
  some ((r4.take r4.length),(r0_0,r0_1,r0_2,())) :=
 (goL_dn _ _ _ 4000 _ _).trans (by kernel_rfl)
def spec_l00Max_ir : Fn := { np := 2,io := [],res := [.t 4],own := [false],body :=
 (.seq (.reg false [.V 4 (.asg (.c (.int .i64 0)))] [0,1] []) (.seq (.seq (.reg false [.V 5 (.mv (.t 0)),.V 6 (.mv (.t 1)),.V 7 (.bin .gtr (.t 5) (.t 6))] [0,1,7] []) (.cond (.t 7) (.seq (.reg false [.V 8 (.mv (.t 0)),.V 4 (.asg (.t 8))] [4] []) .ret) .skip)) (.seq (.reg false [.V 9 (.mv (.t 1)),.V 4 (.asg (.t 9))] [4] []) .ret))) }
noncomputable def spec_l00Max_D : List (Nat × Callee) := []
def spec_l00Max_H : List (Nat × ET) := []
noncomputable def spec_l00Max_c : Callee := mkCallee spec_l00Max_D spec_l00Max_H spec_l00Max_ir [.d (.one (.int .i64)),.d (.one (.int .i64))] [.d (.one (.int .i64))] []
noncomputable def spec_l00Max (a0 : Int) (a1 : Int) : Option (Int) := spec_l00Max_c.f (a0,a1,())
theorem spec_l00Max_eq (a0 : Int) (a1 : Int) : spec_l00Max a0 a1 =
 if decide (a0 > a1) then
  some a0
 else
  some a1 :=
 (mk_f _ _ _ _ _ _ _ 4000).trans (by kernel_rfl)
def spec_l17Used_k0 : C :=
 .reg false [.V 35 (.mv (.t 7)),.V 36 (.mv (.t 0)),.V 37 (.mv (.t 8)),.V 38 (.ia 4 (.t 36) (.t 37)),.V 39 (.fa 2 (.t 38)),.V 40 (.ld none (.t 39)),.V 41 (.bin .add (.t 35) (.t 40)),.V 7 (.asg (.t 41))] [0,1,2,7,8] []
def spec_l17Used_k1 : C :=
 .reg false [.V 13 (.mv (.t 8)),.V 14 (.bin .add (.t 13) (.c (.int .i64 1))),.V 8 (.asg (.t 14))] [0,1,2,7,8] []
def spec_l17Used_k2 : C :=
 .seq (.seq (.reg false [.V 9 (.mv (.t 8)),.V 10 (.mv (.t 1)),.V 11 (.len (.t 10)),.V 12 (.bin .lss (.t 9) (.t 11))] [0,1,2,7,8,12] []) (.cond (.t 12) .skip (.exit 0))) (.seq (.block 1 (.seq (.reg true [.V 15 (.mv (.t 1)),.V 16 (.mv (.t 8)),.V 17 (.ia 1 (.t 15) (.t 16)),.V 18 (.ld none (.t 17)),.V 19 (.mv (.t 2)),.V 20 (.bin .leq (.t 18) (.t 19)),.V 21 (.mv (.t 20)),.G 22 (.mv (.t 2)) 6 true,.G 23 (.mv (.t 1)) 6 true,.G 24 (.mv (.t 8)) 6 true,.G 25 (.ia 1 (.t 23) (.t 24)) 6 true,.G 26 (.ld none (.t 25)) 6 true,.G 27 (.mv (.t 0)) 6 true,.G 28 (.mv (.t 8)) 6 true,.G 29 (.ia 4 (.t 27) (.t 28)) 6 true,.G 30 (.fa 1 (.t 29)) 6 true,.G 31 (.ld none (.t 30)) 6 true,.G 32 (.bin .add (.t 26) (.t 31)) 6 true,.G 33 (.bin .lss (.t 22) (.t 32)) 6 true,.V 34 (.pick (.t 21) (.t 33) (.c (.bool false)))] [0,1,2,7,8,34] []) (.cond (.t 34) (.norm [0,1,2,7,8] [] spec_l17Used_k0) .skip))) spec_l17Used_k1)
def spec_l17Used_k3 : C :=
 .norm [0,1,2,7,8] [] spec_l17Used_k2
def spec_l17Used_k4 : C :=
 .seq (.reg false [.V 42 (.mv (.t 7)),.V 6 (.asg (.t 42))] [6] []) .ret
def spec_l17Used_ir : Fn := { np := 3,io := [],res := [.t 6],own := [false],body :=
 (.seq (.reg false [.V 6 (.asg (.c (.int .i64 0)))] [0,1,2] []) (.seq (.reg false [.V 7 (.asg (.c (.int .i64 0)))] [0,1,2,7] []) (.seq (.seq (.reg false [.V 8 (.asg (.c (.int .i64 0)))] [0,1,2,7,8] []) (.block 0 (.loop spec_l17Used_k3))) spec_l17Used_k4))) }
noncomputable def spec_l17Used_D : List (Nat × Callee) := []
def spec_l17Used_H : List (Nat × ET) := [(10,(.one (.int .i64))),(15,(.one (.int .i64))),(23,(.one (.int .i64))),(27,T_Step),(36,T_Step)]
noncomputable def spec_l17Used_c : Callee := mkCallee spec_l17Used_D spec_l17Used_H spec_l17Used_ir [.d (.one (.sl T_Step)),.d (.one (.sl (.one (.int .i64)))),.d (.one (.int .i64))] [.d (.one (.int .i64))] []
noncomputable def spec_l17Used (a0 : List T_Step.ty) (a1 : List Int) (a2 : Int) : Option (Int) := spec_l17Used_c.f (a0,a1,a2,())
noncomputable def spec_l17Used_p0  (v0 : List T_Step.ty) (v1 : List Int) (v2 : Int) (v7 : Int) (v8 : Int) : Option (Int) :=
 goL spec_l17Used_D spec_l17Used_H (vleave spec_l17Used_ir [.d (.one (.sl T_Step)),.d (.one (.sl (.one (.int .i64)))),.d (.one (.int .i64))] [.d (.one (.int .i64))] [] []) [.c spec_l17Used_k2,.l spec_l17Used_k3,.e 0,.c spec_l17Used_k4]
  ⟨[(0,.sl T_Step v0),(1,.sl (.one (.int .i64)) v1),(2,.int .i64 v2),(7,.int .i64 v7),(8,.int .i64 v8)],[]⟩
noncomputable def spec_l17Used_p1  (v0 : List T_Step.ty) (v1 : List Int) (v2 : Int) (v7 : Int) (v8 : Int) : Option (Int) :=
 goL spec_l17Used_D spec_l17Used_H (vleave spec_l17Used_ir [.d (.one (.sl T_Step)),.d (.one (.sl (.one (.int .i64)))),.d (.one (.int .i64))] [.d (.one (.int .i64))] [] []) [.c spec_l17Used_k0,.e 1,.c spec_l17Used_k1,.l spec_l17Used_k3,.e 0,.c spec_l17Used_k4]
  ⟨[(0,.sl T_Step v0),(1,.sl (.one (.int .i64)) v1),(2,.int .i64 v2),(7,.int .i64 v7),(8,.int .i64 v8)],[]⟩
theorem spec_l17Used_eq (a0 : List T_Step.ty) (a1 : List Int) (a2 : Int) : spec_l17Used a0 a1 a2 =
 spec_l17Used_p0 a0 a1 a2 0 0 :=
 (mk_f _ _ _ _ _ _ _ 4000).trans (by kernel_rfl)
theorem spec_l17Used_p0_eq  (v0 : List T_Step.ty) (v1 : List Int) (v2 : Int) (v7 : Int) (v8 : Int) : spec_l17Used_p0 v0 v1 v2 v7 v8 =
 if decide (v8 < (v1.length : Int)) then
  if decide (0 ≤ v8) then
   (v1[v8.toNat]?).bind fun x1 =>
    if decide (x1 ≤ v2) then
     if decide (0 ≤ v8) then
      (v1[v8.toNat]?).bind fun x2 =>
       if decide (0 ≤ v8) then
        (v0[v8.toNat]?).bind fun x3 =>
         if decide (v2 < IntKind.i64.wrap (x2 + x3.2.1)) then
          spec_l17Used_p1 v0 v1 v2 v7 v8
         else
          spec_l17Used_p0 v0 v1 v2 v7 (IntKind.i64.wrap (v8 + 1))
       else
        none
     else
      none
    else
     spec_l17Used_p0 v0 v1 v2 v7 (IntKind.i64.wrap (v8 + 1))
  else
   none
 else
  some v7 :=
 (goL_dn _ _ _ 4000 _ _).trans (by kernel_rfl)
theorem spec_l17Used_p1_eq  (v0 : List T_Step.ty) (v1 : List Int) (v2 : Int) (v7 : Int) (v8 : Int) : spec_l17Used_p1 v0 v1 v2 v7 v8 =
 if decide (0 ≤ v8) then
  (v0[v8.toNat]?).bind fun x1 =>
   spec_l17Used_p0 v0 v1 v2 (IntKind.i64.wrap (v7 + x1.2.2.1)) (IntKind.i64.wrap (v8 + 1))
 else
  none :=
 (goL_dn _ _ _ 4000 _ _).trans (by kernel_rfl)
def spec_l17Free_k0 : C :=
 .seq (.seq (.reg false [.V 13 (.mv (.t 11)),.V 14 (.mv (.t 2)),.V 15 (.mv (.t 3)),.V 16 (.bin .add (.t 14) (.t 15)),.V 17 (.bin .lss (.t 13) (.t 16))] [0,1,2,3,4,11,17] []) (.cond (.t 17) .skip (.exit 0))) (.seq (.block 1 (.seq (.reg false [.V 20 (.mv (.t 0)),.V 21 (.mv (.t 1)),.V 22 (.mv (.t 11)),.V 23 (.call (.c (.fn 720 [])) [.t 20,.t 21,.t 22]),.V 24 (.mv (.t 4)),.V 25 (.bin .gtr (.t 23) (.t 24))] [0,1,2,3,4,11,25] []) (.cond (.t 25) (.seq (.reg false [.V 10 (.asg (.c (.bool false)))] [10] []) .ret) .skip))) (.reg false [.V 18 (.mv (.t 11)),.V 19 (.bin .add (.t 18) (.c (.int .i64 1))),.V 11 (.asg (.t 19))] [0,1,2,3,4,11] []))
def spec_l17Free_k1 : C :=
 .norm [0,1,2,3,4,11] [] spec_l17Free_k0
def spec_l17Free_k2 : C :=
 .seq (.reg false [.V 10 (.asg (.c (.bool true)))] [10] []) .ret
def spec_l17Free_ir : Fn := { np := 5,io := [],res := [.t 10],own := [false],body :=
 (.seq (.reg false [.V 10 (.asg (.c (.bool false)))] [0,1,2,3,4] []) (.seq (.seq (.reg false [.V 12 (.mv (.t 2)),.V 11 (.asg (.t 12))] [0,1,2,3,4,11] []) (.block 0 (.loop spec_l17Free_k1))) spec_l17Free_k2)) }
noncomputable def spec_l17Free_D : List (Nat × Callee) := [(720,spec_l17Used_c)]
def spec_l17Free_H : List (Nat × ET) := [(20,T_Step),(21,(.one (.int .i64)))]
noncomputable def spec_l17Free_c : Callee := mkCallee spec_l17Free_D spec_l17Free_H spec_l17Free_ir [.d (.one (.sl T_Step)),.d (.one (.sl (.one (.int .i64)))),.d (.one (.int .i64)),.d (.one (.int .i64)),.d (.one (.int .i64))] [.d (.one .bool)] []
noncomputable def spec_l17Free (a0 : List T_Step.ty) (a1 : List Int) (a2 : Int) (a3 : Int) (a4 : Int) : Option (Bool) := spec_l17Free_c.f (a0,a1,a2,a3,a4,())
noncomputable def spec_l17Free_p0  (v0 : List T_Step.ty) (v1 : List Int) (v2 : Int) (v3 : Int) (v4 : Int) (v11 : Int) : Option (Bool) :=
 goL spec_l17Free_D spec_l17Free_H (vleave spec_l17Free_ir [.d (.one (.sl T_Step)),.d (.one (.sl (.one (.int .i64)))),.d (.one (.int .i64)),.d (.one (.int .i64)),.d (.one (.int .i64))] [.d (.one .bool)] [] []) [.c spec_l17Free_k0,.l spec_l17Free_k1,.e 0,.c spec_l17Free_k2]
  ⟨[(0,.sl T_Step v0),(1,.sl (.one (.int .i64)) v1),(2,.int .i64 v2),(3,.int .i64 v3),(4,.int .i64 v4),(11,.int .i64 v11)],[]⟩
theorem spec_l17Free_eq (a0 : List T_Step.ty) (a1 : List Int) (a2 : Int) (a3 : Int) (a4 : Int) : spec_l17Free a0 a1 a2 a3 a4 =
 spec_l17Free_p0 a0 a1 a2 a3 a4 a2 :=
 (mk_f _ _ _ _ _ _ _ 4000).trans (by kernel_rfl)
theorem spec_l17Free_p0_eq  (v0 : List T_Step.ty) (v1 : List Int) (v2 : Int) (v3 : Int) (v4 : Int) (v11 : Int) : spec_l17Free_p0 v0 v1 v2 v3 v4 v11 =
 if decide (v11 < IntKind.i64.wrap (v2 + v3)) then
  (spec_l17Used v0 v1 v11).bind fun x1 =>
   if decide (x1 > v4) then
    some false
   else
    spec_l17Free_p0 v0 v1 v2 v3 v4 (IntKind.i64.wrap (v11 + 1))
 else
  some true :=
 (goL_dn _ _ _ 4000 _ _).trans (by kernel_rfl)
def spec_l17Plan_k0 : C :=
 .seq (.seq (.reg false [.V 17 (.mv (.t 8)),.V 18 (.mv (.t 0)),.V 19 (.mv (.t 6)),.V 20 (.ia 4 (.t 18) (.t 19)),.V 21 (.fa 3 (.t 20)),.V 22 (.ld none (.t 21)),.V 23 (.len (.t 22)),.V 24 (.bin .lss (.t 17) (.t 23))] [0,1,5,6,7,8,24] [5]) (.cond (.t 24) .skip (.exit 2))) (.seq (.block 3 (.seq (.reg false [.V 27 (.mv (.t 0)),.V 28 (.mv (.t 6)),.V 29 (.ia 4 (.t 27) (.t 28)),.V 30 (.fa 3 (.t 29)),.V 31 (.ld none (.t 30)),.V 32 (.mv (.t 8)),.V 33 (.ia 1 (.t 31) (.t 32)),.V 34 (.ld none (.t 33)),.V 9 (.asg (.t 34))] [0,1,5,6,7,8,9] [5]) (.reg true [.V 35 (.mv (.t 7)),.V 36 (.mv (.t 5)),.V 37 (.mv (.t 9)),.V 38 (.ia 1 (.t 36) (.t 37)),.V 39 (.ld none (.t 38)),.V 40 (.mv (.t 0)),.V 41 (.mv (.t 9)),.V 42 (.ia 4 (.t 40) (.t 41)),.V 43 (.fa 1 (.t 42)),.V 44 (.ld none (.t 43)),.V 45 (.bin .add (.t 39) (.t 44)),.V 46 (.call (.c (.fn 17 [])) [.t 35,.t 45]),.V 7 (.asg (.t 46))] [0,1,5,6,7,8] [5]))) (.reg false [.V 25 (.mv (.t 8)),.V 26 (.bin .add (.t 25) (.c (.int .i64 1))),.V 8 (.asg (.t 26))] [0,1,5,6,7,8] [5]))
def spec_l17Plan_k1 : C :=
 .norm [0,1,5,6,7,8] [5] spec_l17Plan_k0
def spec_l17Plan_k2 : C :=
 .seq (.seq (.reg true [.V 47 (.mv (.t 0)),.V 48 (.mv (.t 5)),.V 49 (.mv (.t 7)),.V 50 (.mv (.t 0)),.V 51 (.mv (.t 6)),.V 52 (.ia 4 (.t 50) (.t 51)),.V 53 (.fa 1 (.t 52)),.V 54 (.ld none (.t 53)),.V 55 (.mv (.t 1)),.V 56 (.mv (.t 0)),.V 57 (.mv (.t 6)),.V 58 (.ia 4 (.t 56) (.t 57)),.V 59 (.fa 2 (.t 58)),.V 60 (.ld none (.t 59)),.V 61 (.bin .sub (.t 55) (.t 60)),.V 62 (.call (.c (.fn 869 [])) [.t 47,.t 48,.t 49,.t 54,.t 61]),.V 63 (.un .not (.t 62))] [0,1,5,6,7,63] [5]) (.cond (.t 63) .skip (.exit 4))) (.block 5 (.reg false [.V 64 (.mv (.t 7)),.V 65 (.bin .add (.t 64) (.c (.int .i64 1))),.V 7 (.asg (.t 65))] [0,1,5,6,7] [5]))
def spec_l17Plan_k3 : C :=
 .norm [0,1,5,6,7] [5] spec_l17Plan_k2
def spec_l17Plan_k4 : C :=
 .reg false [.V 66 (.mv (.t 5)),.V 67 (.mv (.t 7)),.V 68 (.bsl 1 (.int .i64 0) 1 [(0,.t 67)]),.W 69 (.app 1 8 (.t 66) (.t 68)),.W 5 (.asg (.t 69))] [0,1,5,6] [5]
def spec_l17Plan_k5 : C :=
 .seq (.block 4 (.loop spec_l17Plan_k3)) spec_l17Plan_k4
def spec_l17Plan_k6 : C :=
 .reg false [.V 15 (.mv (.t 6)),.V 16 (.bin .add (.t 15) (.c (.int .i64 1))),.V 6 (.asg (.t 16))] [0,1,5,6] [5]
def spec_l17Plan_k7 : C :=
 .seq (.seq (.reg false [.V 11 (.mv (.t 6)),.V 12 (.mv (.t 0)),.V 13 (.len (.t 12)),.V 14 (.bin .lss (.t 11) (.t 13))] [0,1,5,6,14] [5]) (.cond (.t 14) .skip (.exit 0))) (.seq (.block 1 (.seq (.reg false [.V 7 (.asg (.c (.int .i64 0)))] [0,1,5,6,7] [5]) (.seq (.seq (.reg false [.V 8 (.asg (.c (.int .i64 0)))] [0,1,5,6,7,8] [5]) (.block 2 (.loop spec_l17Plan_k1))) spec_l17Plan_k5))) spec_l17Plan_k6)
def spec_l17Plan_k8 : C :=
 .norm [0,1,5,6] [5] spec_l17Plan_k7
def spec_l17Plan_k9 : C :=
 .seq (.reg false [.V 70 (.mv (.t 5)),.W 4 (.asg (.t 70))] [4] [4,5]) .ret
def spec_l17Plan_ir : Fn := { np := 2,io := [],res := [.t 4],own := [true],body :=
 (.seq (.reg false [.W 4 (.asg (.c (.nils 1)))] [0,1] []) (.seq (.reg false [.V 10 (.bsl 1 (.int .i64 0) 0 []),.W 5 (.asg (.t 10))] [0,1,5] [5]) (.seq (.seq (.reg false [.V 6 (.asg (.c (.int .i64 0)))] [0,1,5,6] [5]) (.block 0 (.loop spec_l17Plan_k8))) spec_l17Plan_k9))) }
noncomputable def spec_l17Plan_D : List (Nat × Callee) := [(17,spec_l00Max_c),(869,spec_l17Free_c)]
def spec_l17Plan_H : List (Nat × ET) := [(4,(.one (.int .i64))),(5,(.one (.int .i64))),(10,(.one (.int .i64))),(12,T_Step),(18,T_Step),(22,(.one (.int .i64))),(27,T_Step),(31,(.one (.int .i64))),(36,(.one (.int .i64))),(40,T_Step),(47,T_Step),(48,(.one (.int .i64))),(50,T_Step),(56,T_Step),(66,(.one (.int .i64))),(68,(.one (.int .i64))),(69,(.one (.int .i64))),(70,(.one (.int .i64)))]
noncomputable def spec_l17Plan_c : Callee := mkCallee spec_l17Plan_D spec_l17Plan_H spec_l17Plan_ir [.d (.one (.sl T_Step)),.d (.one (.int .i64))] [.tok (.one (.int .i64))] []
noncomputable def spec_l17Plan (a0 : List T_Step.ty) (a1 : Int) : Option (List Int) := spec_l17Plan_c.f (a0,a1,())
noncomputable def spec_l17Plan_p0  (v0 : List T_Step.ty) (v1 : Int) (v6 : Int) (r5 : List Int) : Option (List Int) :=
 goL spec_l17Plan_D spec_l17Plan_H (vleave spec_l17Plan_ir [.d (.one (.sl T_Step)),.d (.one (.int .i64))] [.tok (.one (.int .i64))] [] []) [.c spec_l17Plan_k7,.l spec_l17Plan_k8,.e 0,.c spec_l17Plan_k9]
  ⟨[(0,.sl T_Step v0),(1,.int .i64 v1),(5,.view 5 0 r5.length),(6,.int .i64 v6)],[(5,some (.sl (.one (.int .i64)) r5))]⟩
noncomputable def spec_l17Plan_p1  (v0 : List T_Step.ty) (v1 : Int) (v6 : Int) (v7 : Int) (v8 : Int) (r5 : List Int) : Option (List Int) :=
 goL spec_l17Plan_D spec_l17Plan_H (vleave spec_l17Plan_ir [.d (.one (.sl T_Step)),.d (.one (.int .i64))] [.tok (.one (.int .i64))] [] []) [.c spec_l17Plan_k0,.l spec_l17Plan_k1,.e 2,.c spec_l17Plan_k5,.e 1,.c spec_l17Plan_k6,.l spec_l17Plan_k8,.e 0,.c spec_l17Plan_k9]
  ⟨[(0,.sl T_Step v0),(1,.int .i64 v1),(5,.view 5 0 r5.length),(6,.int .i64 v6),(7,.int .i64 v7),(8,.int .i64 v8)],[(5,some (.sl (.one (.int .i64)) r5))]⟩
noncomputable def spec_l17Plan_p2  (v0 : List T_Step.ty) (v1 : Int) (v6 : Int) (v7 : Int) (r5 : List Int) : Option (List Int) :=
 goL spec_l17Plan_D spec_l17Plan_H (vleave spec_l17Plan_ir [.d (.one (.sl T_Step)),.d (.one (.int .i64))] [.tok (.one (.int .i64))] [] []) [.c spec_l17Plan_k2,.l spec_l17Plan_k3,.e 4,.c spec_l17Plan_k4,.e 1,.c spec_l17Plan_k6,.l spec_l17Plan_k8,.e 0,.c spec_l17Plan_k9]
  ⟨[(0,.sl T_Step v0),(1,.int .i64 v1),(5,.view 5 0 r5.length),(6,.int .i64 v6),(7,.int .i64 v7)],[(5,some (.sl (.one (.int .i64)) r5))]⟩
theorem spec_l17Plan_eq (a0 : List T_Step.ty) (a1 : Int) : spec_l17Plan a0 a1 =
 spec_l17Plan_p0 a0 a1 0 [] :=
 (mk_f _ _ _ _ _ _ _ 4000).trans (by kernel_rfl)
theorem spec_l17Plan_p0_eq  (v0 : List T_Step.ty) (v1 : Int) (v6 : Int) (r5 : List Int) : spec_l17Plan_p0 v0 v1 v6 r5 =
 if decide (v6 < (v0.length : Int)) then
  spec_l17Plan_p1 v0 v1 v6 0 0 r5
 else
  some (r5.take r5.length) :=
 (goL_dn _ _ _ 4000 _ _).trans (by kernel_rfl)
theorem spec_l17Plan_p1_eq  (v0 : List T_Step.ty) (v1 : Int) (v6 : Int) (v7 : Int) (v8 : Int) (r5 : List Int) : spec_l17Plan_p1 v0 v1 v6 v7 v8 r5 =
 if decide (0 ≤ v6) then
  (v0[v6.toNat]?).bind fun x1 =>
   if decide (v8 < (x1.2.2.2.1.length : Int)) then
    if decide (0 ≤ v6) then
     (v0[v6.toNat]?).bind fun x2 =>
      if decide (0 ≤ v8) then
       (x2.2.2.2.1[v8.toNat]?).bind fun x3 =>
        if decide (0 ≤ x3) && decide (x3 < (r5.length : Int)) then
         (r5[x3.toNat]?).bind fun x4 =>
          if decide (0 ≤ x3) then
           (v0[x3.toNat]?).bind fun x5 =>
            (spec_l00Max v7 (IntKind.i64.wrap (x4 + x5.2.1))).bind fun x6 =>
             spec_l17Plan_p1 v0 v1 v6 x6 (IntKind.i64.wrap (v8 + 1)) r5
          else
           none
        else
         none
      else
       none
    else
     none
   else
    spec_l17Plan_p2 v0 v1 v6 v7 r5
 else
  none :=
 (goL_dn _ _ _ 4000 _ _).trans (by kernel_rfl)
theorem spec_l17Plan_p2_eq  (v0 : List T_Step.ty) (v1 : Int) (v6 : Int) (v7 : Int) (r5 : List Int) : spec_l17Plan_p2 v0 v1 v6 v7 r5 =
 if decide (0 ≤ v6) then
  (v0[v6.toNat]?).bind fun x1 =>
   if decide (0 ≤ v6) then
    (v0[v6.toNat]?).bind fun x2 =>
     (spec_l17Free v0 (r5.take r5.length) v7 x1.2.1 (IntKind.i64.wrap (v1 - x2.2.2.1))).bind fun x3 =>
      if (!x3) then
       spec_l17Plan_p2 v0 v1 v6 (IntKind.i64.wrap (v7 + 1)) r5
      else
       if decide (r5.length + 1 < lim) then
        spec_l17Plan_p0 v0 v1 (IntKind.i64.wrap (v6 + 1)) ((r5.take r5.length) ++ [v7])
       else
        none
   else
    none
 else
  none :=
 (goL_dn _ _ _ 4000 _ _).trans (by kernel_rfl)
def spec_l05Draw_ir : Fn := { np := 1,io := [true],res := [.t 2],own := [true],body :=
 (.seq (.reg false [.W 2 (.asg (.c (.nils 6)))] [0] [0,1000]) (.seq (.reg false [.V 13 (.mv (.t 0)),.W 14 (.call (.c (.fn 463 [])) [.t 13,.c (.int .i64 300)]),.V 3 (.asg (.t 14))] [0,3] [0,1000]) (.seq (.reg false [.V 15 (.mv (.t 0)),.W 16 (.call (.c (.fn 463 [])) [.t 15,.c (.int .i64 300)]),.V 17 (.bin .add (.c (.int .i64 1)) (.t 16)),.V 4 (.asg (.t 17))] [0,3,4] [0,1000]) (.seq (.reg false [.V 18 (.mv (.t 3)),.V 19 (.mv (.t 4)),.V 20 (.call (.c (.fn 938 [])) [.t 18,.t 19]),.W 5 (.asg (.t 20))] [0,3,4,5] [0,5,1000]) (.seq (.seq (.reg false [.V 21 (.mv (.t 0)),.W 22 (.call (.c (.fn 463 [])) [.t 21,.c (.int .i64 4)])] [0,3,4,5,22] [0,5,1000]) (.block 0 (.seq (.reg false [.V 24 (.bin .eql (.t 22) (.c (.int .i64 0))),.V 23 (.asg (.t 24))] [0,3,4,5,22,23] [0,5,1000]) (.cond (.t 23) (.seq (.reg false [.V 25 (.mv (.t 0)),.W 26 (.call (.c (.fn 463 [])) [.t 25,.c (.int .i64 4)]),.V 6 (.asg (.t 26))] [0,5,6] [0,5,1000]) (.seq (.reg false [.V 27 (.mv (.t 5)),.V 28 (.mv (.t 6)),.V 29 (.ia 6 (.t 27) (.t 28)),.V 30 (.ld (some 6) (.t 29)),.W 7 (.alloc 6 (.agg [.int .i64 0,.int .i64 0,.int .i64 0,.int .i64 0,.int .i64 0,.int .i64 0])),⟨none,true,.sto 6 (.t 7) (.t 30),none,false,[]⟩] [0,5,6,7] [0,5,7,1000]) (.reg false [.V 31 (.mv (.t 5)),.V 32 (.mv (.t 6)),.V 33 (.fa 2 (.t 7)),.V 34 (.fa 0 (.t 33)),.V 35 (.ld none (.t 34)),.V 36 (.fa 4 (.t 7)),.V 37 (.fa 0 (.t 36)),.V 38 (.ld none (.t 37)),.V 39 (.bin .add (.t 35) (.t 38)),.V 40 (.fa 0 (.t 7)),.V 41 (.fa 0 (.t 40)),.V 42 (.ld none (.t 41)),.V 43 (.bin .sub (.t 39) (.t 42)),.V 44 (.fa 2 (.t 7)),.V 45 (.fa 1 (.t 44)),.V 46 (.ld none (.t 45)),.V 47 (.fa 4 (.t 7)),.V 48 (.fa 1 (.t 47)),.V 49 (.ld none (.t 48)),.V 50 (.bin .add (.t 46) (.t 49)),.V 51 (.fa 0 (.t 7)),.V 52 (.fa 1 (.t 51)),.V 53 (.ld none (.t 52)),.V 54 (.bin .sub (.t 50) (.t 53)),.V 55 (.build [.int .i64 0,.int .i64 0] [(0,1,.t 43),(1,1,.t 54)]),.V 56 (.ia 6 (.t 31) (.t 32)),.V 57 (.fa 0 (.t 56)),⟨none,true,.sto 2 (.t 57) (.t 55),none,false,[]⟩] [0,5] [0,5,1000]))) (.seq (.reg false [.V 59 (.bin .eql (.t 22) (.c (.int .i64 1))),.V 58 (.asg (.t 59))] [0,3,4,5,22,58] [0,5,1000]) (.cond (.t 58) (.seq (.reg false [.V 60 (.mv (.t 5)),.V 61 (.ia 6 (.t 60) (.c (.int .i64 0))),.V 62 (.ld (some 6) (.t 61)),.W 8 (.alloc 6 (.agg [.int .i64 0,.int .i64 0,.int .i64 0,.int .i64 0,.int .i64 0,.int .i64 0])),⟨none,true,.sto 6 (.t 8) (.t 62),none,false,[]⟩] [0,3,4,5,8] [0,5,8,1000]) (.seq (.reg false [.V 63 (.mv (.t 3)),.V 64 (.mv (.t 4)),.V 65 (.bin .add (.t 63) (.t 64)),.V 66 (.bin .mul (.c (.int .i64 5)) (.t 65)),.V 67 (.mv (.t 3)),.V 68 (.bin .mul (.c (.int .i64 4)) (.t 67)),.V 69 (.bin .sub (.t 66) (.t 68)),.V 70 (.build [.int .i64 0,.int .i64 0] [(0,1,.c (.int .i64 0)),(1,1,.t 69)]),.W 9 (.alloc 2 (.agg [.int .i64 0,.int .i64 0])),⟨none,true,.sto 2 (.t 9) (.t 70),none,false,[]⟩] [0,5,8,9] [0,5,8,9,1000]) (.seq (.reg false [.V 71 (.fa 0 (.t 8)),.V 72 (.ld (some 2) (.t 71)),.V 73 (.fa 2 (.t 8)),.V 74 (.ld (some 2) (.t 73)),.V 75 (.ld (some 2) (.t 9)),.V 76 (.build [.int .i64 0,.int .i64 0,.int .i64 0,.int .i64 0,.int .i64 0,.int .i64 0] [(0,2,.t 72),(2,2,.t 74),(4,2,.t 75)]),.W 10 (.alloc 6 (.agg [.int .i64 0,.int .i64 0,.int .i64 0,.int .i64 0,.int .i64 0,.int .i64 0])),⟨none,true,.sto 6 (.t 10) (.t 76),none,false,[]⟩] [0,5,8,9,10] [0,5,8,9,10,1000]) (.seq (.reg false [.V 77 (.fa 0 (.t 8)),.V 78 (.ld (some 2) (.t 77)),.V 79 (.ld (some 2) (.t 9)),.V 80 (.fa 4 (.t 8)),.V 81 (.ld (some 2) (.t 80)),.V 82 (.build [.int .i64 0,.int .i64 0,.int .i64 0,.int .i64 0,.int .i64 0,.int .i64 0] [(0,2,.t 78),(2,2,.t 79),(4,2,.t 81)]),.W 11 (.alloc 6 (.agg [.int .i64 0,.int .i64 0,.int .i64 0,.int .i64 0,.int .i64 0,.int .i64 0])),⟨none,true,.sto 6 (.t 11) (.t 82),none,false,[]⟩] [0,5,10,11] [0,5,10,11,1000]) (.reg true [.V 83 (.ld (some 6) (.t 10)),.V 84 (.ld (some 6) (.t 11)),.V 85 (.bsl 6 (.agg [.int .i64 0,.int .i64 0,.int .i64 0,.int .i64 0,.int .i64 0,.int .i64 0]) 2 [(0,.t 83),(1,.t 84)]),.V 86 (.mv (.t 5)),.V 87 (.slc 6 (.t 86) (some (.c (.int .i64 1))) none),.W 88 (.app 6 48 (.t 85) (.t 87)),.W 5 (.asg (.t 88))] [0,5] [0,5,1000]))))) (.seq (.reg false [.V 90 (.bin .eql (.t 22) (.c (.int .i64 2))),.V 89 (.asg (.t 90))] [0,4,5,89] [0,5,1000]) (.cond (.t 89) (.seq (.reg false [.V 91 (.mv (.t 4)),.V 92 (.bin .mul (.c (.int .i64 5)) (.t 91)),.V 12 (.asg (.t 92))] [0,12] [0,1000]) (.reg false [.V 93 (.mv (.t 12)),.V 94 (.mv (.t 12)),.V 95 (.un .neg (.t 94)),.V 96 (.call (.c (.fn 1044 [])) [.c (.int .i64 0),.c (.int .i64 0),.t 93,.c (.int .i64 0),.t 95,.c (.int .i64 0)]),.V 97 (.mv (.t 12)),.V 98 (.un .neg (.t 97)),.V 99 (.mv (.t 12)),.V 100 (.call (.c (.fn 1044 [])) [.c (.int .i64 0),.c (.int .i64 0),.t 98,.c (.int .i64 0),.t 99,.c (.int .i64 0)]),.V 101 (.bsl 6 (.agg [.int .i64 0,.int .i64 0,.int .i64 0,.int .i64 0,.int .i64 0,.int .i64 0]) 2 [(0,.t 96),(1,.t 100)]),.W 5 (.asg (.t 101))] [0,5] [0,5,1000])) .skip)))))))) (.seq (.reg false [.V 102 (.mv (.t 5)),.W 2 (.asg (.t 102))] [0,2] [0,2,5,1000]) .ret)))))) }
noncomputable def spec_l05Draw_D : List (Nat × Callee) := [(463,spec_l00Src_pick_c),(938,spec_l05Oval_c),(1044,spec_l05Arc_c)]
def spec_l05Draw_H : List (Nat × ET) := [(2,T_Arc),(5,T_Arc),(20,T_Arc),(27,T_Arc),(31,T_Arc),(60,T_Arc),(85,T_Arc),(86,T_Arc),(87,T_Arc),(88,T_Arc),(101,T_Arc),(102,T_Arc)]
noncomputable def spec_l05Draw_c : Callee := mkCallee spec_l05Draw_D spec_l05Draw_H spec_l05Draw_ir [.box T_l00Src] [.tok T_Arc] [.box T_l00Src]
noncomputable def spec_l05Draw (a0 : T_l00Src.ty) : Option (List T_Arc.ty × T_l00Src.ty) := spec_l05Draw_c.f (a0,())
theorem spec_l05Draw_eq (a0 : T_l00Src.ty) : spec_l05Draw a0 =
 (spec_l00Src_pick a0 300).bind fun x1 =>
  (spec_l00Src_pick (x1.2.1,x1.2.2.1,x1.2.2.2.1,()) 300).bind fun x2 =>
   (spec_l05Oval x1.1 (IntKind.i64.wrap (1 + x2.1))).bind fun x3 =>
    (spec_l00Src_pick (x2.2.1,x2.2.2.1,x2.2.2.2.1,()) 4).bind fun x4 =>
     if (x4.1 == 0) then
      (spec_l00Src_pick (x4.2.1,x4.2.2.1,x4.2.2.2.1,()) 4).bind fun x5 =>
       if decide (0 ≤ x5.1) && decide (x5.1 < (x3.length : Int)) then
        (x3[x5.1.toNat]?).bind fun x6 =>
         if decide (0 ≤ x5.1) && decide (x5.1 < (x3.length : Int)) then
          (x3[x5.1.toNat]?).bind fun x7 =>
           some (((x3.set x5.1.toNat (IntKind.i64.wrap ((IntKind.i64.wrap (x6.2.2.1 + x6.2.2.2.2.1)) - x6.1),IntKind.i64.wrap ((IntKind.i64.wrap (x6.2.2.2.1 + x6.2.2.2.2.2.1)) - x6.2.1),x7.2.2.1,x7.2.2.2.1,x7.2.2.2.2.1,x7.2.2.2.2.2.1,())).take x3.length),(x5.2.1,x5.2.2.1,x5.2.2.2.1,()))
         else
          none
       else
        none
     else
      if (x4.1 == 1) then
       if decide (0 < (x3.length : Int)) then
        (x3[0]?).bind fun x8 =>
         if decide (1 ≤ (x3.length : Int)) then
          if decide (2 + ((x3.drop 1).take (x3.length - 1)).length < lim) then
           some ((([(x8.1,x8.2.1,x8.2.2.1,x8.2.2.2.1,0,IntKind.i64.wrap ((IntKind.i64.wrap (5 * (IntKind.i64.wrap (x1.1 + (IntKind.i64.wrap (1 + x2.1)))))) - (IntKind.i64.wrap (4 * x1.1))),()),(x8.1,x8.2.1,0,IntKind.i64.wrap ((IntKind.i64.wrap (5 * (IntKind.i64.wrap (x1.1 + (IntKind.i64.wrap (1 + x2.1)))))) - (IntKind.i64.wrap (4 * x1.1))),x8.2.2.2.2.1,x8.2.2.2.2.2.1,())] ++ ((x3.drop 1).take (x3.length - 1))).take (([(x8.1,x8.2.1,x8.2.2.1,x8.2.2.2.1,0,IntKind.i64.wrap ((IntKind.i64.wrap (5 * (IntKind.i64.wrap (x1.1 + (IntKind.i64.wrap (1 + x2.1)))))) - (IntKind.i64.wrap (4 * x1.1))),()),(x8.1,x8.2.1,0,IntKind.i64.wrap ((IntKind.i64.wrap (5 * (IntKind.i64.wrap (x1.1 + (IntKind.i64.wrap (1 + x2.1)))))) - (IntKind.i64.wrap (4 * x1.1))),x8.2.2.2.2.1,x8.2.2.2.2.2.1,())] ++ ((x3.drop 1).take (x3.length - 1))).length)),(x4.2.1,x4.2.2.1,x4.2.2.2.1,()))
          else
           none
         else
          none
       else
        none
      else
       if (x4.1 == 2) then
        (spec_l05Arc 0 0 (IntKind.i64.wrap (5 * (IntKind.i64.wrap (1 + x2.1)))) 0 (IntKind.i64.wrap (0 - (IntKind.i64.wrap (5 * (IntKind.i64.wrap (1 + x2.1)))))) 0).bind fun x9 =>
         (spec_l05Arc 0 0 (IntKind.i64.wrap (0 - (IntKind.i64.wrap (5 * (IntKind.i64.wrap (1 + x2.1)))))) 0 (IntKind.i64.wrap (5 * (IntKind.i64.wrap (1 + x2.1)))) 0).bind fun x10 =>
          some ([x9,x10],(x4.2.1,x4.2.2.1,x4.2.2.2.1,()))
       else
        some ((x3.take x3.length),(x4.2.1,x4.2.2.1,x4.2.2.2.1,())) :=
 (mk_f _ _ _ _ _ _ _ 4000).trans (by kernel_rfl)
def spec_l00Src_text_ir : Fn := { np := 2,io := [true,false],res := [.t 4],own := [false],body :=
 (.seq (.reg false [.V 4 (.asg (.c (.str [])))] [0,1] [0,1000]) (.seq (.reg false [.V 5 (.mv (.t 1)),.V 6 (.mv (.t 0)),.V 7 (.mv (.t 1)),.V 8 (.len (.t 7)),.W 9 (.call (.c (.fn 463 [])) [.t 6,.t 8]),.V 10 (.ia 1 (.t 5) (.t 9)),.V 11 (.ld none (.t 10)),.V 4 (.asg (.t 11))] [0,4] [0,1000]) .ret)) }
noncomputable def spec_l00Src_text_D : List (Nat × Callee) := [(463,spec_l00Src_pick_c)]
def spec_l00Src_text_H : List (Nat × ET) := [(5,(.one .str)),(7,(.one .str))]
noncomputable def spec_l00Src_text_c : Callee := mkCallee spec_l00Src_text_D spec_l00Src_text_H spec_l00Src_text_ir [.box T_l00Src,.d (.one (.sl (.one .str)))] [.d (.one .str)] [.box T_l00Src]
noncomputable def spec_l00Src_text (a0 : T_l00Src.ty) (a1 : List (List UInt8)) : Option (List UInt8 × T_l00Src.ty) := spec_l00Src_text_c.f (a0,a1,())
theorem spec_l00Src_text_eq (a0 : T_l00Src.ty) (a1 : List (List UInt8)) : spec_l00Src_text a0 a1 =
 (spec_l00Src_pick a0 (a1.length : Int)).bind fun x1 =>
  if decide (0 ≤ x1.1) then
   (a1[x1.1.toNat]?).bind fun x2 =>
    some (x2,(x1.2.1,x1.2.2.1,x1.2.2.2.1,()))
  else
   none :=
 (mk_f _ _ _ _ _ _ _ 4000).trans (by kernel_rfl)
def spec_l21DrawOne_ir : Fn := { np := 2,io := [true,false],res := [.cell 4 (some 5)],own := [false],body :=
 (.seq (.reg false [.W 4 (.alloc 5 (.agg [.str [],.str [],.int .i64 0,.int .i64 0,.int .i64 0]))] [0,1,4] [0,4,1000]) (.seq (.reg false [.V 6 (.mv (.t 1)),.V 7 (.mv (.t 0)),.V 8 (.bsl 1 (.str []) 3 [(0,.c (.str [118,105,111,108,97])),(1,.c (.str [118,105,111,108,105,110])),(2,.c (.str [118,105,111,108,105,110,50]))]),.W 9 (.call (.c (.fn 557 [])) [.t 7,.t 8]),.V 10 (.mv (.t 0)),.W 11 (.call (.c (.fn 463 [])) [.t 10,.c (.int .i64 90)]),.V 12 (.bin .mul (.c (.int .i64 10)) (.t 11)),.V 13 (.build [.str [],.str [],.int .i64 0,.int .i64 0,.int .i64 0] [(0,1,.t 6),(1,1,.t 9),(2,1,.t 12)]),.W 5 (.alloc 5 (.agg [.str [],.str [],.int .i64 0,.int .i64 0,.int .i64 0])),⟨none,true,.sto 5 (.t 5) (.t 13),none,false,[]⟩] [0,4,5] [0,4,5,1000]) (.seq (.reg false [.V 14 (.mv (.t 0)),.W 15 (.call (.c (.fn 463 [])) [.t 14,.c (.int .i64 12)]),.V 16 (.bin .add (.c (.int .i64 1)) (.t 15)),.V 17 (.fa 3 (.t 5)),⟨none,true,.sto 1 (.t 17) (.t 16),none,false,[]⟩] [0,4,5] [0,4,5,1000]) (.seq (.reg false [.V 18 (.mv (.t 0)),.W 19 (.call (.c (.fn 463 [])) [.t 18,.c (.int .i64 50)]),.V 20 (.bin .mul (.c (.int .i64 100)) (.t 19)),.V 21 (.fa 4 (.t 5)),⟨none,true,.sto 1 (.t 21) (.t 20),none,false,[]⟩] [0,4,5] [0,4,5,1000]) (.seq (.reg false [.V 22 (.ld (some 5) (.t 5)),⟨none,true,.sto 5 (.t 4) (.t 22),none,false,[]⟩] [0,4] [0,4,1000]) .ret))))) }
noncomputable def spec_l21DrawOne_D : List (Nat × Callee) := [(463,spec_l00Src_pick_c),(557,spec_l00Src_text_c)]
def spec_l21DrawOne_H : List (Nat × ET) := [(8,(.one .str))]
noncomputable def spec_l21DrawOne_c : Callee := mkCallee spec_l21DrawOne_D spec_l21DrawOne_H spec_l21DrawOne_ir [.box T_l00Src,.d (.one .str)] [.d T_Paper] [.box T_l00Src]
noncomputable def spec_l21DrawOne (a0 : T_l00Src.ty) (a1 : List UInt8) : Option (T_Paper.ty × T_l00Src.ty) := spec_l21DrawOne_c.f (a0,a1,())
theorem spec_l21DrawOne_eq (a0 : T_l00Src.ty) (a1 : List UInt8) : spec_l21DrawOne a0 a1 =
 (spec_l00Src_text a0 [[118,105,111,108,97],[118,105,111,108,105,110],[118,105,111,108,105,110,50]]).bind fun x1 =>
  (spec_l00Src_pick (x1.2.1,x1.2.2.1,x1.2.2.2.1,()) 90).bind fun x2 =>
   (spec_l00Src_pick (x2.2.1,x2.2.2.1,x2.2.2.2.1,()) 12).bind fun x3 =>
    (spec_l00Src_pick (x3.2.1,x3.2.2.1,x3.2.2.2.1,()) 50).bind fun x4 =>
     some ((a1,x1.1,IntKind.i64.wrap (10 * x2.1),IntKind.i64.wrap (1 + x3.1),IntKind.i64.wrap (100 * x4.1),()),(x4.2.1,x4.2.2.1,x4.2.2.2.1,())) :=
 (mk_f _ _ _ _ _ _ _ 4000).trans (by kernel_rfl)
def spec_l21Draw_k0 : C :=
 .seq (.seq (.reg false [.V 8 (.mv (.t 5)),.V 9 (.mv (.t 3)),.V 10 (.len (.t 9)),.V 11 (.bin .lss (.t 8) (.t 10))] [0,3,4,5,11] [0,3,4,1000]) (.cond (.t 11) .skip (.exit 0))) (.seq (.block 1 (.seq (.reg false [.V 14 (.mv (.t 0)),.W 15 (.call (.c (.fn 463 [])) [.t 14,.c (.int .i64 3)]),.V 16 (.bin .gtr (.t 15) (.c (.int .i64 0)))] [0,3,4,5,16] [0,3,4,1000]) (.cond (.t 16) (.reg false [.V 17 (.mv (.t 4)),.V 18 (.mv (.t 0)),.V 19 (.mv (.t 3)),.V 20 (.mv (.t 5)),.V 21 (.ia 1 (.t 19) (.t 20)),.V 22 (.ld none (.t 21)),.W 23 (.call (.c (.fn 992 [])) [.t 18,.t 22]),.V 24 (.bsl 5 (.agg [.str [],.str [],.int .i64 0,.int .i64 0,.int .i64 0]) 1 [(0,.t 23)]),.W 25 (.app 5 56 (.t 17) (.t 24)),.W 4 (.asg (.t 25))] [0,3,4,5] [0,3,4,1000]) .skip))) (.reg false [.V 12 (.mv (.t 5)),.V 13 (.bin .add (.t 12) (.c (.int .i64 1))),.V 5 (.asg (.t 13))] [0,3,4,5] [0,3,4,1000]))
def spec_l21Draw_k1 : C :=
 .norm [0,3,4,5] [0,3,4,1000] spec_l21Draw_k0
def spec_l21Draw_k2 : C :=
 .seq (.reg false [.V 26 (.mv (.t 4)),.W 2 (.asg (.t 26))] [0,2] [0,2,4,1000]) .ret
def spec_l21Draw_ir : Fn := { np := 1,io := [true],res := [.t 2],own := [true],body :=
 (.seq (.reg false [.W 2 (.asg (.c (.nils 5)))] [0] [0,1000]) (.seq (.reg false [.V 6 (.bsl 1 (.str []) 5 [(0,.c (.str [114,49])),(1,.c (.str [114,50])),(2,.c (.str [114,51])),(3,.c (.str [114,52])),(4,.c (.str [114,53]))]),.W 3 (.asg (.t 6))] [0,3] [0,3,1000]) (.seq (.reg false [.V 7 (.bsl 5 (.agg [.str [],.str [],.int .i64 0,.int .i64 0,.int .i64 0]) 0 []),.W 4 (.asg (.t 7))] [0,3,4] [0,3,4,1000]) (.seq (.seq (.reg false [.V 5 (.asg (.c (.int .i64 0)))] [0,3,4,5] [0,3,4,1000]) (.block 0 (.loop spec_l21Draw_k1))) spec_l21Draw_k2)))) }
noncomputable def spec_l21Draw_D : List (Nat × Callee) := [(463,spec_l00Src_pick_c),(992,spec_l21DrawOne_c)]
def spec_l21Draw_H : List (Nat × ET) := [(2,T_Paper),(3,(.one .str)),(4,T_Paper),(6,(.one .str)),(7,T_Paper),(9,(.one .str)),(17,T_Paper),(19,(.one .str)),(24,T_Paper),(25,T_Paper),(26,T_Paper)]
noncomputable def spec_l21Draw_c : Callee := mkCallee spec_l21Draw_D spec_l21Draw_H spec_l21Draw_ir [.box T_l00Src] [.tok T_Paper] [.box T_l00Src]
noncomputable def spec_l21Draw (a0 : T_l00Src.ty) : Option (List T_Paper.ty × T_l00Src.ty) := spec_l21Draw_c.f (a0,())
noncomputable def spec_l21Draw_p0  (v5 : Int) (r0_0 : List Int) (r0_1 : Int) (r0_2 : Int) (r3 : List (List UInt8)) (r4 : List T_Paper.ty) : Option (List T_Paper.ty × T_l00Src.ty) :=
 goL spec_l21Draw_D spec_l21Draw_H (vleave spec_l21Draw_ir [.box T_l00Src] [.tok T_Paper] [.box T_l00Src] []) [.c spec_l21Draw_k0,.l spec_l21Draw_k1,.e 0,.c spec_l21Draw_k2]
  ⟨[(0,.loc 0 0 0),(3,.view 3 0 r3.length),(4,.view 4 0 r4.length),(5,.int .i64 v5)],[(0,some (.var 3 (.agg [.sl (.one (.int .u8)) r0_0,.int .i64 r0_1,.int .u64 r0_2]))),(3,some (.sl (.one .str) r3)),(4,some (.sl T_Paper r4)),(1000,none)]⟩
theorem spec_l21Draw_eq (a0 : T_l00Src.ty) : spec_l21Draw a0 =
 spec_l21Draw_p0 0 a0.1 a0.2.1 a0.2.2.1 [[114,49],[114,50],[114,51],[114,52],[114,53]] [] :=
 (mk_f _ _ _ _ _ _ _ 4000).trans (by kernel_rfl)
theorem spec_l21Draw_p0_eq  (v5 : Int) (r0_0 : List Int) (r0_1 : Int) (r0_2 : Int) (r3 : List (List UInt8)) (r4 : List T_Paper.ty) : spec_l21Draw_p0 v5 r0_0 r0_1 r0_2 r3 r4 =
 if decide (v5 < (r3.length : Int)) then
  (spec_l00Src_pick (r0_0,r0_1,r0_2,()) 3).bind fun x1 =>
   if decide (x1.1 > 0) then
    if decide (0 ≤ v5) && decide (v5 < (r3.length : Int)) then
     (r3[v5.toNat]?).bind fun x2 =>
      (spec_l21DrawOne (x1.2.1,x1.2.2.1,x1.2.2.2.1,()) x2).bind fun x3 =>
       if decide (r4.length + 1 < lim) then
        spec_l21Draw_p0 (IntKind.i64.wrap (v5 + 1)) x3.2.1 x3.2.2.1 x3.2.2.2.1 r3 ((r4.take r4.length) ++ [(x3.1.1,x3.1.2.1,x3.1.2.2.1,x3.1.2.2.2.1,x3.1.2.2.2.2.1,())])
       else
        none
    else
     none
   else
    spec_l21Draw_p0 (IntKind.i64.wrap (v5 + 1)) x1.2.1 x1.2.2.1 x1.2.2.2.1 r3 r4
 else
  some ((r4.take r4.length),(r0_0,r0_1,r0_2,())) :=
 (goL_dn _ _ _ 4000 _ _).trans (by kernel_rfl)
def spec_l25DrawName_ir : Fn := { np := 1,io := [true],res := [.t 2],own := [false],body :=
 (.seq (.reg false [.V 2 (.asg (.c (.str [])))] [0] [0,1000]) (.seq (.reg false [.V 3 (.mv (.t 0)),.V 4 (.bsl 1 (.str []) 5 [(0,.c (.str [98,97,110,107])),(1,.c (.str [99,97,115,104])),(2,.c (.str [114,101,110,116])),(3,.c (.str [115,97,108,101,115])),(4,.c (.str [119,111,111,100]))]),.W 5 (.call (.c (.fn 557 [])) [.t 3,.t 4]),.V 2 (.asg (.t 5))] [0,2] [0,1000]) .ret)) }
noncomputable def spec_l25DrawName_D : List (Nat × Callee) := [(557,spec_l00Src_text_c)]
def spec_l25DrawName_H : List (Nat × ET) := [(4,(.one .str))]
noncomputable def spec_l25DrawName_c : Callee := mkCallee spec_l25DrawName_D spec_l25DrawName_H spec_l25DrawName_ir [.box T_l00Src] [.d (.one .str)] [.box T_l00Src]
noncomputable def spec_l25DrawName (a0 : T_l00Src.ty) : Option (List UInt8 × T_l00Src.ty) := spec_l25DrawName_c.f (a0,())
theorem spec_l25DrawName_eq (a0 : T_l00Src.ty) : spec_l25DrawName a0 =
 (spec_l00Src_text a0 [[98,97,110,107],[99,97,115,104],[114,101,110,116],[115,97,108,101,115],[119,111,111,100]]).bind fun x1 =>
  some (x1.1,(x1.2.1,x1.2.2.1,x1.2.2.2.1,())) :=
 (mk_f _ _ _ _ _ _ _ 4000).trans (by kernel_rfl)
def spec_l25DrawOne_ir : Fn := { np := 2,io := [true,false],res := [.cell 4 (some 4)],own := [false],body :=
 (.seq (.reg false [.W 4 (.alloc 4 (.agg [.int .i64 0,.str [],.str [],.int .i64 0]))] [0,1,4] [0,4,1000]) (.seq (.reg false [.V 6 (.mv (.t 1)),.V 7 (.mv (.t 0)),.W 8 (.call (.c (.fn 906 [])) [.t 7]),.V 9 (.mv (.t 0)),.W 10 (.call (.c (.fn 906 [])) [.t 9]),.V 11 (.build [.int .i64 0,.str [],.str [],.int .i64 0] [(0,1,.t 6),(1,1,.t 8),(2,1,.t 10)]),.W 5 (.alloc 4 (.agg [.int .i64 0,.str [],.str [],.int .i64 0])),⟨none,true,.sto 4 (.t 5) (.t 11),none,false,[]⟩] [0,4,5] [0,4,5,1000]) (.seq (.reg false [.V 12 (.mv (.t 0)),.W 13 (.call (.c (.fn 463 [])) [.t 12,.c (.int .i64 20)]),.V 14 (.bin .add (.c (.int .i64 1)) (.t 13)),.V 15 (.bin .mul (.c (.int .i64 100)) (.t 14)),.V 16 (.fa 3 (.t 5)),⟨none,true,.sto 1 (.t 16) (.t 15),none,false,[]⟩] [0,4,5] [0,4,5,1000]) (.seq (.seq (.reg false [.V 17 (.fa 1 (.t 5)),.V 18 (.ld none (.t 17)),.V 19 (.fa 2 (.t 5)),.V 20 (.ld none (.t 19)),.V 21 (.bin .eql (.t 18) (.t 20))] [0,4,5,21] [0,4,5,1000]) (.cond (.t 21) (.reg false [.V 22 (.fa 2 (.t 5)),⟨none,true,.sto 1 (.t 22) (.c (.str [116,111,111,108,115])),none,false,[]⟩] [0,4,5] [0,4,5,1000]) .skip)) (.seq (.reg false [.V 23 (.ld (some 4) (.t 5)),⟨none,true,.sto 4 (.t 4) (.t 23),none,false,[]⟩] [0,4] [0,4,1000]) .ret))))) }
noncomputable def spec_l25DrawOne_D : List (Nat × Callee) := [(463,spec_l00Src_pick_c),(906,spec_l25DrawName_c)]
def spec_l25DrawOne_H : List (Nat × ET) := []
noncomputable def spec_l25DrawOne_c : Callee := mkCallee spec_l25DrawOne_D spec_l25DrawOne_H spec_l25DrawOne_ir [.box T_l00Src,.d (.one (.int .i64))] [.d T_Entry] [.box T_l00Src]
noncomputable def spec_l25DrawOne (a0 : T_l00Src.ty) (a1 : Int) : Option (T_Entry.ty × T_l00Src.ty) := spec_l25DrawOne_c.f (a0,a1,())
theorem spec_l25DrawOne_eq (a0 : T_l00Src.ty) (a1 : Int) : spec_l25DrawOne a0 a1 =
 (spec_l25DrawName a0).bind fun x1 =>
  (spec_l25DrawName (x1.2.1,x1.2.2.1,x1.2.2.2.1,())).bind fun x2 =>
   (spec_l00Src_pick (x2.2.1,x2.2.2.1,x2.2.2.2.1,()) 20).bind fun x3 =>
    if (x1.1 == x2.1) then
     some ((a1,x1.1,[116,111,111,108,115],IntKind.i64.wrap (100 * (IntKind.i64.wrap (1 + x3.1))),()),(x3.2.1,x3.2.2.1,x3.2.2.2.1,()))
    else
     some ((a1,x1.1,x2.1,IntKind.i64.wrap (100 * (IntKind.i64.wrap (1 + x3.1))),()),(x3.2.1,x3.2.2.1,x3.2.2.2.1,())) :=
 (mk_f _ _ _ _ _ _ _ 4000).trans (by kernel_rfl)
def spec_l25Draw_k0 : C :=
 .seq (.reg false [.V 27 (.mv (.t 3)),.V 28 (.mv (.t 0)),.V 29 (.mv (.t 3)),.V 30 (.len (.t 29)),.W 31 (.call (.c (.fn 463 [])) [.t 28,.t 30]),.V 32 (.ia 4 (.t 27) (.t 31)),.V 33 (.ld (some 4) (.t 32)),.W 7 (.alloc 4 (.agg [.int .i64 0,.str [],.str [],.int .i64 0])),⟨none,true,.sto 4 (.t 7) (.t 33),none,false,[]⟩] [0,3,4,5,6,7] [0,3,6,7,1000]) (.reg false [.V 34 (.mv (.t 4)),.V 35 (.fa 2 (.t 7)),.V 36 (.ld none (.t 35)),.V 37 (.fa 1 (.t 7)),.V 38 (.ld none (.t 37)),.V 39 (.fa 3 (.t 7)),.V 40 (.ld none (.t 39)),.V 41 (.build [.int .i64 0,.str [],.str [],.int .i64 0] [(0,1,.t 34),(1,1,.t 36),(2,1,.t 38),(3,1,.t 40)]),⟨none,true,.sto 4 (.t 6) (.t 41),none,false,[]⟩] [0,3,4,5,6] [0,3,6,1000])
def spec_l25Draw_k1 : C :=
 .seq (.reg false [.V 42 (.mv (.t 3)),.V 43 (.ld (some 4) (.t 6)),.V 44 (.bsl 4 (.agg [.int .i64 0,.str [],.str [],.int .i64 0]) 1 [(0,.t 43)]),.W 45 (.app 4 48 (.t 42) (.t 44)),.W 3 (.asg (.t 45))] [0,3,4,5] [0,3,1000]) (.reg false [.V 46 (.mv (.t 4)),.V 47 (.mv (.t 0)),.W 48 (.call (.c (.fn 463 [])) [.t 47,.c (.int .i64 9)]),.V 49 (.bin .add (.t 46) (.t 48)),.V 4 (.asg (.t 49))] [0,3,4,5] [0,3,1000])
def spec_l25Draw_k2 : C :=
 .norm [0,3,4,5,6] [0,3,6,1000] spec_l25Draw_k1
def spec_l25Draw_k3 : C :=
 .reg false [.V 15 (.mv (.t 5)),.V 16 (.bin .sub (.t 15) (.c (.int .i64 1))),.V 5 (.asg (.t 16))] [0,3,4,5] [0,3,1000]
def spec_l25Draw_k4 : C :=
 .seq (.seq (.reg false [.V 13 (.mv (.t 5)),.V 14 (.bin .gtr (.t 13) (.c (.int .i64 0)))] [0,3,4,5,14] [0,3,1000]) (.cond (.t 14) .skip (.exit 0))) (.seq (.block 1 (.seq (.reg false [.V 17 (.mv (.t 0)),.V 18 (.mv (.t 4)),.W 19 (.call (.c (.fn 618 [])) [.t 17,.t 18]),.W 6 (.alloc 4 (.agg [.int .i64 0,.str [],.str [],.int .i64 0])),⟨none,true,.sto 4 (.t 6) (.t 19),none,false,[]⟩] [0,3,4,5,6] [0,3,6,1000]) (.seq (.seq (.reg false [.V 20 (.mv (.t 3)),.V 21 (.len (.t 20)),.V 22 (.bin .gtr (.t 21) (.c (.int .i64 0))),.V 23 (.mv (.t 22)),.G 24 (.mv (.t 0)) 3 true,⟨some 25,true,.call (.c (.fn 642 [])) [.t 24,.c (.int .i64 5)],some (3,true),false,[]⟩,.V 26 (.pick (.t 23) (.t 25) (.c (.bool false)))] [0,3,4,5,6,26] [0,3,6,1000]) (.cond (.t 26) (.norm [0,3,4,5,6] [0,3,6,1000] spec_l25Draw_k0) .skip)) spec_l25Draw_k2))) spec_l25Draw_k3)
def spec_l25Draw_k5 : C :=
 .norm [0,3,4,5] [0,3,1000] spec_l25Draw_k4
def spec_l25Draw_k6 : C :=
 .seq (.reg false [.V 50 (.mv (.t 3)),.W 2 (.asg (.t 50))] [0,2] [0,2,3,1000]) .ret
def spec_l25Draw_ir : Fn := { np := 1,io := [true],res := [.t 2],own := [true],body :=
 (.seq (.reg false [.W 2 (.asg (.c (.nils 4)))] [0] [0,1000]) (.seq (.reg false [.V 8 (.bsl 4 (.agg [.int .i64 0,.str [],.str [],.int .i64 0]) 0 []),.W 3 (.asg (.t 8))] [0,3] [0,3,1000]) (.seq (.reg false [.V 9 (.mv (.t 0)),.W 10 (.call (.c (.fn 463 [])) [.t 9,.c (.int .i64 30)]),.V 4 (.asg (.t 10))] [0,3,4] [0,3,1000]) (.seq (.seq (.reg false [.V 11 (.mv (.t 0)),.W 12 (.call (.c (.fn 463 [])) [.t 11,.c (.int .i64 9)]),.V 5 (.asg (.t 12))] [0,3,4,5] [0,3,1000]) (.block 0 (.loop spec_l25Draw_k5))) spec_l25Draw_k6)))) }
noncomputable def spec_l25Draw_D : List (Nat × Callee) := [(463,spec_l00Src_pick_c),(618,spec_l25DrawOne_c),(642,spec_l00Src_one_c)]
def spec_l25Draw_H : List (Nat × ET) := [(2,T_Entry),(3,T_Entry),(8,T_Entry),(20,T_Entry),(27,T_Entry),(29,T_Entry),(42,T_Entry),(44,T_Entry),(45,T_Entry),(50,T_Entry)]
noncomputable def spec_l25Draw_c : Callee := mkCallee spec_l25Draw_D spec_l25Draw_H spec_l25Draw_ir [.box T_l00Src] [.tok T_Entry] [.box T_l00Src]
noncomputable def spec_l25Draw (a0 : T_l00Src.ty) : Option (List T_Entry.ty × T_l00Src.ty) := spec_l25Draw_c.f (a0,())
noncomputable def spec_l25Draw_p0  (v4 : Int) (v5 : Int) (r0_0 : List Int) (r0_1 : Int) (r0_2 : Int) (r3 : List T_Entry.ty) : Option (List T_Entry.ty × T_l00Src.ty) :=
 goL spec_l25Draw_D spec_l25Draw_H (vleave spec_l25Draw_ir [.box T_l00Src] [.tok T_Entry] [.box T_l00Src] []) [.c spec_l25Draw_k4,.l spec_l25Draw_k5,.e 0,.c spec_l25Draw_k6]
  ⟨[(0,.loc 0 0 0),(3,.view 3 0 r3.length),(4,.int .i64 v4),(5,.int .i64 v5)],[(0,some (.var 3 (.agg [.sl (.one (.int .u8)) r0_0,.int .i64 r0_1,.int .u64 r0_2]))),(3,some (.sl T_Entry r3)),(1000,none)]⟩
noncomputable def spec_l25Draw_p1  (v4 : Int) (v5 : Int) (r0_0 : List Int) (r0_1 : Int) (r0_2 : Int) (r3 : List T_Entry.ty) (r6_0 : Int) (r6_1 : List UInt8) (r6_2 : List UInt8) (r6_3 : Int) : Option (List T_Entry.ty × T_l00Src.ty) :=
 goL spec_l25Draw_D spec_l25Draw_H (vleave spec_l25Draw_ir [.box T_l00Src] [.tok T_Entry] [.box T_l00Src] []) [.c spec_l25Draw_k0,.c spec_l25Draw_k2,.e 1,.c spec_l25Draw_k3,.l spec_l25Draw_k5,.e 0,.c spec_l25Draw_k6]
  ⟨[(0,.loc 0 0 0),(3,.view 3 0 r3.length),(4,.int .i64 v4),(5,.int .i64 v5),(6,.loc 6 0 0)],[(0,some (.var 3 (.agg [.sl (.one (.int .u8)) r0_0,.int .i64 r0_1,.int .u64 r0_2]))),(3,some (.sl T_Entry r3)),(6,some (.var 4 (.agg [.int .i64 r6_0,.str r6_1,.str r6_2,.int .i64 r6_3]))),(1000,none)]⟩
noncomputable def spec_l25Draw_p2  (v4 : Int) (v5 : Int) (r0_0 : List Int) (r0_1 : Int) (r0_2 : Int) (r3 : List T_Entry.ty) (r6_0 : Int) (r6_1 : List UInt8) (r6_2 : List UInt8) (r6_3 : Int) : Option (List T_Entry.ty × T_l00Src.ty) :=
 goL spec_l25Draw_D spec_l25Draw_H (vleave spec_l25Draw_ir [.box T_l00Src] [.tok T_Entry] [.box T_l00Src] []) [.c spec_l25Draw_k1,.e 1,.c spec_l25Draw_k3,.l spec_l25Draw_k5,.e 0,.c spec_l25Draw_k6]
  ⟨[(0,.loc 0 0 0),(3,.view 3 0 r3.length),(4,.int .i64 v4),(5,.int .i64 v5),(6,.loc 6 0 0)],[(0,some (.var 3 (.agg [.sl (.one (.int .u8)) r0_0,.int .i64 r0_1,.int .u64 r0_2]))),(3,some (.sl T_Entry r3)),(6,some (.var 4 (.agg [.int .i64 r6_0,.str r6_1,.str r6_2,.int .i64 r6_3]))),(1000,none)]⟩
theorem spec_l25Draw_eq (a0 : T_l00Src.ty) : spec_l25Draw a0 =
 (spec_l00Src_pick a0 30).bind fun x1 =>
  (spec_l00Src_pick (x1.2.1,x1.2.2.1,x1.2.2.2.1,()) 9).bind fun x2 =>
   spec_l25Draw_p0 x1.1 x2.1 x2.2.1 x2.2.2.1 x2.2.2.2.1 [] :=
 (mk_f _ _ _ _ _ _ _ 4000).trans (by kernel_rfl)
theorem spec_l25Draw_p0_eq  (v4 : Int) (v5 : Int) (r0_0 : List Int) (r0_1 : Int) (r0_2 : Int) (r3 : List T_Entry.ty) : spec_l25Draw_p0 v4 v5 r0_0 r0_1 r0_2 r3 =
 if decide (v5 > 0) then
  (spec_l25DrawOne (r0_0,r0_1,r0_2,()) v4).bind fun x1 =>
   if decide ((r3.length : Int) > 0) then
    (spec_l00Src_one (x1.2.1,x1.2.2.1,x1.2.2.2.1,()) 5).bind fun x2 =>
     if x2.1 then
      spec_l25Draw_p1 v4 v5 x2.2.1 x2.2.2.1 x2.2.2.2.1 r3 x1.1.1 x1.1.2.1 x1.1.2.2.1 x1.1.2.2.2.1
     else
      spec_l25Draw_p2 v4 v5 x2.2.1 x2.2.2.1 x2.2.2.2.1 r3 x1.1.1 x1.1.2.1 x1.1.2.2.1 x1.1.2.2.2.1
   else
    spec_l25Draw_p2 v4 v5 x1.2.1 x1.2.2.1 x1.2.2.2.1 r3 x1.1.1 x1.1.2.1 x1.1.2.2.1 x1.1.2.2.2.1
 else
  some ((r3.take r3.length),(r0_0,r0_1,r0_2,())) :=
 (goL_dn _ _ _ 4000 _ _).trans (by kernel_rfl)
theorem spec_l25Draw_p1_eq  (v4 : Int) (v5 : Int) (r0_0 : List Int) (r0_1 : Int) (r0_2 : Int) (r3 : List T_Entry.ty) (r6_0 : Int) (r6_1 : List UInt8) (r6_2 : List UInt8) (r6_3 : Int) : spec_l25Draw_p1 v4 v5 r0_0 r0_1 r0_2 r3 r6_0 r6_1 r6_2 r6_3 =
 (spec_l00Src_pick (r0_0,r0_1,r0_2,()) (r3.length : Int)).bind fun x1 =>
  if decide (0 ≤ x1.1) && decide (x1.1 < (r3.length : Int)) then
   (r3[x1.1.toNat]?).bind fun x2 =>
    spec_l25Draw_p2 v4 v5 x1.2.1 x1.2.2.1 x1.2.2.2.1 r3 v4 x2.2.2.1 x2.2.1 x2.2.2.2.1
  else
   none :=
 (goL_dn _ _ _ 4000 _ _).trans (by kernel_rfl)
theorem spec_l25Draw_p2_eq  (v4 : Int) (v5 : Int) (r0_0 : List Int) (r0_1 : Int) (r0_2 : Int) (r3 : List T_Entry.ty) (r6_0 : Int) (r6_1 : List UInt8) (r6_2 : List UInt8) (r6_3 : Int) : spec_l25Draw_p2 v4 v5 r0_0 r0_1 r0_2 r3 r6_0 r6_1 r6_2 r6_3 =
 if decide (r3.length + 1 < lim) then
  (spec_l00Src_pick (r0_0,r0_1,r0_2,()) 9).bind fun x1 =>
   spec_l25Draw_p0 (IntKind.i64.wrap (v4 + x1.1)) (IntKind.i64.wrap (v5 - 1)) x1.2.1 x1.2.2.1 x1.2.2.2.1 ((r3.take r3.length) ++ [(r6_0,r6_1,r6_2,r6_3,())])
 else
  none :=
 (goL_dn _ _ _ 4000 _ _).trans (by kernel_rfl)
def spec_l31Draw_k0 : C :=
 .seq (.seq (.reg false [.V 22 (.mv (.t 6)),.V 23 (.mv (.t 4)),.V 24 (.len (.t 23)),.V 25 (.bin .lss (.t 22) (.t 24))] [0,2,3,4,5,6,25] [0,2,3,4,5,1000,3000,3001,3003,3004,3006,3007,4000,4001,4003,4004,4006,4007]) (.cond (.t 25) .skip (.exit 0))) (.seq (.block 1 (.reg true [⟨some 28,false,.fa 1 (.t 3),none,false,[1000000,1000001]⟩,⟨some 29,false,.ld none (.t 28),none,false,[1000001]⟩,⟨some 30,false,.mv (.t 4),none,false,[1000000,1000001]⟩,⟨some 31,false,.mv (.t 6),none,false,[1000000,1000001]⟩,⟨some 32,false,.ia 1 (.t 30) (.t 31),none,false,[1000000,1000001]⟩,⟨some 33,false,.ld none (.t 32),none,false,[1000001]⟩,.V 34 (.mv (.t 0)),⟨some 35,true,.call (.c (.fn 463 [])) [.t 34,.c (.int .i64 12)],none,true,[3,4,5,6,28,30,31,32,37,38,39,2000000]⟩,⟨some 36,false,.bin .add (.c (.int .i64 320)) (.t 35),none,false,[1000001]⟩,⟨some 37,false,.mv (.t 5),none,false,[1000000,1000001]⟩,⟨some 38,false,.mv (.t 6),none,false,[1000000,1000001]⟩,⟨some 39,false,.ia 1 (.t 37) (.t 38),none,false,[1000000,1000001]⟩,⟨some 40,false,.ld none (.t 39),none,false,[1000001]⟩,.V 41 (.mv (.t 0)),⟨some 42,true,.call (.c (.fn 463 [])) [.t 41,.c (.int .i64 9)],none,true,[3,4,5,6,28,30,31,32,35,37,38,39]⟩,.V 43 (.bin .mul (.c (.int .i64 10)) (.t 42)),.V 44 (.bin .sub (.t 40) (.t 43)),.V 45 (.build [.int .i64 0,.int .i64 0,.int .i64 0,.int .i64 0] [(0,1,.t 33),(1,1,.t 36),(2,1,.t 44),(3,1,.c (.int .i64 120000))]),.V 46 (.bsl 4 (.agg [.int .i64 0,.int .i64 0,.int .i64 0,.int .i64 0]) 1 [(0,.t 45)]),.W 47 (.app 4 32 (.t 29) (.t 46)),.V 48 (.fa 1 (.t 3)),⟨none,true,.sto 1 (.t 48) (.t 47),none,false,[]⟩] [0,2,3,4,5,6] [0,2,3,4,5,1000,3000,3001,3003,3004,3006,3007,4000,4001,4003,4004,4006,4007])) (.reg false [.V 26 (.mv (.t 6)),.V 27 (.bin .add (.t 26) (.c (.int .i64 1))),.V 6 (.asg (.t 27))] [0,2,3,4,5,6] [0,2,3,4,5,1000,3000,3001,3003,3004,3006,3007,4000,4001,4003,4004,4006,4007]))
def spec_l31Draw_k1 : C :=
 .opn 4001 (.opn 4006 (.norm [0,2,3,4,5,6] [0,2,3,4,5,1000,3000,3001,3003,3004,3006,3007,4000,4001,4003,4004,4006,4007] spec_l31Draw_k0))
def spec_l31Draw_k2 : C :=
 .seq (.seq (.reg false [.V 59 (.mv (.t 8)),.V 60 (.mv (.t 7)),.V 61 (.len (.t 60)),.V 62 (.bin .lss (.t 59) (.t 61))] [0,2,3,7,8,62] [0,2,3,7,1000,3000,3001,3003,3004,3006,3007,4000,4001,4003,4004,4006,4007]) (.cond (.t 62) .skip (.exit 2))) (.seq (.block 3 (.reg true [⟨some 65,false,.fa 6 (.t 3),none,false,[1000000,1000001]⟩,⟨some 66,false,.ld none (.t 65),none,false,[1000001]⟩,⟨some 67,false,.mv (.t 7),none,false,[1000000,1000001]⟩,⟨some 68,false,.mv (.t 8),none,false,[1000000,1000001]⟩,⟨some 69,false,.ia 1 (.t 67) (.t 68),none,false,[1000000,1000001]⟩,⟨some 70,false,.ld none (.t 69),none,false,[1000001]⟩,⟨some 71,false,.mv (.t 8),none,false,[1000000,1000001]⟩,⟨some 72,false,.bin .mul (.c (.int .i64 100)) (.t 71),none,false,[1000000,1000001]⟩,.V 73 (.mv (.t 0)),⟨some 74,true,.call (.c (.fn 463 [])) [.t 73,.c (.int .i64 20)],none,true,[3,7,8,65,67,68,69,71,72,2000000]⟩,⟨some 75,false,.bin .add (.t 72) (.t 74),none,false,[1000001]⟩,.V 76 (.mv (.t 0)),⟨some 77,true,.call (.c (.fn 463 [])) [.t 76,.c (.int .i64 2)],none,true,[3,7,8,65,67,68,69,71,72,74]⟩,.V 78 (.bin .add (.c (.int .i64 1)) (.t 77)),.V 79 (.build [.str [],.str [],.int .i64 0,.int .i64 0,.int .i64 0] [(0,1,.t 70),(1,1,.c (.str [118,105,111,108,105,110])),(2,1,.t 75),(3,1,.t 78),(4,1,.c (.int .i64 1500))]),.V 80 (.bsl 5 (.agg [.str [],.str [],.int .i64 0,.int .i64 0,.int .i64 0]) 1 [(0,.t 79)]),.W 81 (.app 5 56 (.t 66) (.t 80)),.V 82 (.fa 6 (.t 3)),⟨none,true,.sto 1 (.t 82) (.t 81),none,false,[]⟩] [0,2,3,7,8] [0,2,3,7,1000,3000,3001,3003,3004,3006,3007,4000,4001,4003,4004,4006,4007])) (.reg false [.V 63 (.mv (.t 8)),.V 64 (.bin .add (.t 63) (.c (.int .i64 1))),.V 8 (.asg (.t 64))] [0,2,3,7,8] [0,2,3,7,1000,3000,3001,3003,3004,3006,3007,4000,4001,4003,4004,4006,4007]))
def spec_l31Draw_k3 : C :=
 .opn 4001 (.opn 4006 (.norm [0,2,3,7,8] [0,2,3,7,1000,3000,3001,3003,3004,3006,3007,4000,4001,4003,4004,4006,4007] spec_l31Draw_k2))
def spec_l31Draw_k4 : C :=
 .seq (.reg false [.V 83 (.build [.int .i64 0,.str [],.str [],.int .i64 0] [(0,1,.c (.int .i64 1)),(1,1,.c (.str [99,97,115,104])),(2,1,.c (.str [98,97,110,107])),(3,1,.c (.int .i64 90000))]),.V 84 (.mv (.t 0)),.W 85 (.call (.c (.fn 463 [])) [.t 84,.c (.int .i64 9)]),.V 86 (.bin .add (.c (.int .i64 5)) (.t 85)),.V 87 (.mv (.t 0)),.W 88 (.call (.c (.fn 463 [])) [.t 87,.c (.int .i64 300)]),.V 89 (.bin .mul (.c (.int .i64 100)) (.t 88)),.V 90 (.bin .add (.c (.int .i64 1000)) (.t 89)),.V 91 (.build [.int .i64 0,.str [],.str [],.int .i64 0] [(0,1,.t 86),(1,1,.c (.str [119,111,111,100])),(2,1,.c (.str [99,97,115,104])),(3,1,.t 90)]),.V 92 (.bsl 4 (.agg [.int .i64 0,.str [],.str [],.int .i64 0]) 2 [(0,.t 83),(1,.t 91)]),.V 93 (.fa 7 (.t 3)),⟨none,true,.sto 1 (.t 93) (.t 92),none,false,[]⟩] [0,2,3] [0,2,3,1000,3000,3001,3003,3004,3006,3007,4000,4001,4003,4004,4006,4007]) (.seq (.seq (.reg false [.V 94 (.mv (.t 0)),.W 95 (.call (.c (.fn 463 [])) [.t 94,.c (.int .i64 14)])] [0,2,3,95] [0,2,3,1000,3000,3001,3003,3004,3006,3007,4000,4001,4003,4004,4006,4007]) (.block 4 (.seq (.reg false [.V 97 (.bin .eql (.t 95) (.c (.int .i64 0))),.V 96 (.asg (.t 97))] [0,2,3,95,96] [0,2,3,1000,3000,3001,3003,3004,3006,3007,4000,4001,4003,4004,4006,4007]) (.cond (.t 96) (.reg false [.V 98 (.mv (.t 0)),.W 99 (.call (.c (.fn 937 [])) [.t 98]),.V 100 (.fa 0 (.t 3)),⟨none,true,.sto 1 (.t 100) (.t 99),none,false,[]⟩] [0,2,3] [0,2,3,1000,3000,3001,3003,3004,3006,3007,4000,4001,4003,4004,4006,4007]) (.seq (.reg false [.V 102 (.bin .eql (.t 95) (.c (.int .i64 1))),.V 101 (.asg (.t 102))] [0,2,3,95,101] [0,2,3,1000,3000,3001,3003,3004,3006,3007,4000,4001,4003,4004,4006,4007]) (.cond (.t 101) (.reg true [⟨some 103,false,.fa 1 (.t 3),none,false,[1000000,1000001]⟩,⟨some 104,false,.ld none (.t 103),none,false,[1000001]⟩,.V 105 (.mv (.t 0)),⟨some 106,true,.call (.c (.fn 463 [])) [.t 105,.c (.int .i64 4)],none,true,[3,103,2000000]⟩,.V 107 (.mv (.t 0)),⟨some 108,true,.call (.c (.fn 463 [])) [.t 107,.c (.int .i64 40)],none,true,[3,103]⟩,.V 109 (.bin .mul (.c (.int .i64 1000)) (.t 108)),.V 110 (.bin .add (.c (.int .i64 60000)) (.t 109)),.V 111 (.ia 4 (.t 104) (.t 106)),.V 112 (.fa 3 (.t 111)),⟨none,true,.sto 1 (.t 112) (.t 110),none,false,[]⟩] [0,2,3] [0,2,3,1000,3000,3001,3003,3004,3006,3007,4000,4001,4003,4004,4006,4007]) (.seq (.reg false [.V 114 (.bin .eql (.t 95) (.c (.int .i64 2))),.V 113 (.asg (.t 114))] [0,2,3,95,113] [0,2,3,1000,3000,3001,3003,3004,3006,3007,4000,4001,4003,4004,4006,4007]) (.cond (.t 113) (.seq (.reg false [.V 115 (.fa 4 (.t 3)),.V 116 (.ld none (.t 115)),.V 117 (.len (.t 116)),.V 118 (.bin .gtr (.t 117) (.c (.int .i64 0)))] [0,2,3,118] [0,2,3,1000,3000,3001,3003,3004,3006,3007,4000,4001,4003,4004,4006,4007]) (.cond (.t 118) (.reg true [⟨some 119,false,.fa 4 (.t 3),none,false,[1000000,1000001]⟩,⟨some 120,false,.ld none (.t 119),none,false,[1000001]⟩,⟨some 121,false,.fa 4 (.t 3),none,false,[1000000,1000001]⟩,⟨some 122,false,.ld none (.t 121),none,false,[1000000,1000001]⟩,⟨some 123,false,.len (.t 122),none,false,[1000000,1000001]⟩,⟨some 124,false,.bin .sub (.t 123) (.c (.int .i64 1)),none,false,[1000001]⟩,.V 125 (.mv (.t 0)),⟨some 126,true,.call (.c (.fn 463 [])) [.t 125,.c (.int .i64 10)],none,true,[3,119,121,122,123]⟩,.V 127 (.ia 1 (.t 120) (.t 124)),⟨none,true,.sto 1 (.t 127) (.t 126),none,false,[]⟩] [0,2,3] [0,2,3,1000,3000,3001,3003,3004,3006,3007,4000,4001,4003,4004,4006,4007]) .skip)) (.seq (.reg false [.V 129 (.bin .eql (.t 95) (.c (.int .i64 3))),.V 128 (.asg (.t 129))] [0,2,3,95,128] [0,2,3,1000,3000,3001,3003,3004,3006,3007,4000,4001,4003,4004,4006,4007]) (.cond (.t 128) (.reg false [.V 130 (.mv (.t 0)),.W 131 (.call (.c (.fn 830 [])) [.t 130]),.V 132 (.fa 6 (.t 3)),⟨none,true,.sto 1 (.t 132) (.t 131),none,false,[]⟩] [0,2,3] [0,2,3,1000,3000,3001,3003,3004,3006,3007,4000,4001,4003,4004,4006,4007]) (.seq (.reg false [.V 134 (.bin .eql (.t 95) (.c (.int .i64 4))),.V 133 (.asg (.t 134))] [0,2,3,95,133] [0,2,3,1000,3000,3001,3003,3004,3006,3007,4000,4001,4003,4004,4006,4007]) (.cond (.t 133) (.reg false [.V 135 (.mv (.t 0)),.W 136 (.call (.c (.fn 617 [])) [.t 135]),.V 137 (.fa 7 (.t 3)),⟨none,true,.sto 1 (.t 137) (.t 136),none,false,[]⟩] [0,2,3] [0,2,3,1000,3000,3001,3003,3004,3006,3007,4000,4001,4003,4004,4006,4007]) (.seq (.reg false [.V 139 (.bin .eql (.t 95) (.c (.int .i64 5))),.V 138 (.asg (.t 139))] [0,2,3,138] [0,2,3,1000,3000,3001,3003,3004,3006,3007,4000,4001,4003,4004,4006,4007]) (.cond (.t 138) (.reg false [.V 140 (.fa 5 (.t 3)),⟨none,true,.sto 1 (.t 140) (.c (.int .i64 5)),none,false,[]⟩] [0,2,3] [0,2,3,1000,3000,3001,3003,3004,3006,3007,4000,4001,4003,4004,4006,4007]) .skip)))))))))))))) (.seq (.reg false [.V 141 (.ld (some 8) (.t 3)),⟨none,true,.sto 8 (.t 2) (.t 141),none,false,[]⟩] [0,2] [0,2,1000,3000,3001,3003,3004,3006,3007]) .ret))
def spec_l31Draw_k5 : C :=
 .seq (.reg false [.V 49 (.mv (.t 0)),.W 50 (.call (.c (.fn 453 [])) [.t 49]),.V 51 (.fa 3 (.t 3)),⟨none,true,.sto 1 (.t 51) (.t 50),none,false,[]⟩] [0,2,3] [0,2,3,1000,3000,3001,3003,3004,3006,3007,4000,4001,4003,4004,4006,4007]) (.seq (.reg false [.V 52 (.fa 3 (.t 3)),.V 53 (.ld none (.t 52)),.V 54 (.fa 5 (.t 3)),.V 55 (.ld none (.t 54)),.V 56 (.call (.c (.fn 542 [])) [.t 53,.t 55]),.V 57 (.fa 4 (.t 3)),⟨none,true,.sto 1 (.t 57) (.t 56),none,false,[]⟩] [0,2,3] [0,2,3,1000,3000,3001,3003,3004,3006,3007,4000,4001,4003,4004,4006,4007]) (.seq (.reg false [.V 58 (.bsl 1 (.str []) 3 [(0,.c (.str [114,49])),(1,.c (.str [114,50])),(2,.c (.str [114,51]))]),.W 7 (.asg (.t 58))] [0,2,3,7] [0,2,3,7,1000,3000,3001,3003,3004,3006,3007,4000,4001,4003,4004,4006,4007]) (.seq (.seq (.reg false [.V 8 (.asg (.c (.int .i64 0)))] [0,2,3,7,8] [0,2,3,7,1000,3000,3001,3003,3004,3006,3007,4000,4001,4003,4004,4006,4007]) (.block 2 (.loop spec_l31Draw_k3))) spec_l31Draw_k4)))
def spec_l31Draw_ir : Fn := { np := 1,io := [true],res := [.cell 2 (some 8)],own := [false],body :=
 (.seq (.reg false [.W 2 (.alloc 8 (.agg [.nils 6,.nils 4,.int .i64 0,.nils 4,.nils 1,.int .i64 0,.nils 5,.nils 4]))] [0,2] [0,2,1000,3000,3001,3003,3004,3006,3007]) (.seq (.reg false [.V 9 (.mv (.t 0)),.W 10 (.call (.c (.fn 463 [])) [.t 9,.c (.int .i64 10)]),.V 11 (.bin .add (.c (.int .i64 6)) (.t 10)),.V 12 (.build [.nils 6,.nils 4,.int .i64 0,.nils 4,.nils 1,.int .i64 0,.nils 5,.nils 4] [(2,1,.c (.int .i64 600)),(5,1,.t 11)]),.W 3 (.alloc 8 (.agg [.nils 6,.nils 4,.int .i64 0,.nils 4,.nils 1,.int .i64 0,.nils 5,.nils 4])),⟨none,true,.sto 8 (.t 3) (.t 12),none,false,[]⟩] [0,2,3] [0,2,3,1000,3000,3001,3003,3004,3006,3007,4000,4001,4003,4004,4006,4007]) (.seq (.reg false [.V 13 (.mv (.t 0)),.W 14 (.call (.c (.fn 463 [])) [.t 13,.c (.int .i64 300)]),.V 15 (.mv (.t 0)),.W 16 (.call (.c (.fn 463 [])) [.t 15,.c (.int .i64 300)]),.V 17 (.bin .add (.c (.int .i64 1)) (.t 16)),.V 18 (.call (.c (.fn 938 [])) [.t 14,.t 17]),.V 19 (.fa 0 (.t 3)),⟨none,true,.sto 1 (.t 19) (.t 18),none,false,[]⟩] [0,2,3] [0,2,3,1000,3000,3001,3003,3004,3006,3007,4000,4001,4003,4004,4006,4007]) (.seq (.reg false [.V 20 (.bsl 1 (.int .i64 0) 4 [(0,.c (.int .i64 1960)),(1,.c (.int .i64 2937)),(2,.c (.int .i64 4400)),(3,.c (.int .i64 6593))]),.W 4 (.asg (.t 20))] [0,2,3,4] [0,2,3,4,1000,3000,3001,3003,3004,3006,3007,4000,4001,4003,4004,4006,4007]) (.seq (.reg false [.V 21 (.bsl 1 (.int .i64 0) 4 [(0,.c (.int .i64 2700)),(1,.c (.int .i64 1300)),(2,.c (.int .i64 650)),(3,.c (.int .i64 380))]),.W 5 (.asg (.t 21))] [0,2,3,4,5] [0,2,3,4,5,1000,3000,3001,3003,3004,3006,3007,4000,4001,4003,4004,4006,4007]) (.seq (.seq (.reg false [.V 6 (.asg (.c (.int .i64 0)))] [0,2,3,4,5,6] [0,2,3,4,5,1000,3000,3001,3003,3004,3006,3007,4000,4001,4003,4004,4006,4007]) (.block 0 (.loop spec_l31Draw_k1))) spec_l31Draw_k5)))))) }
noncomputable def spec_l31Draw_D : List (Nat × Callee) := [(453,spec_l17Draw_c),(463,spec_l00Src_pick_c),(542,spec_l17Plan_c),(617,spec_l25Draw_c),(830,spec_l21Draw_c),(937,spec_l05Draw_c),(938,spec_l05Oval_c)]
def spec_l31Draw_H : List (Nat × ET) := [(4,(.one (.int .i64))),(5,(.one (.int .i64))),(7,(.one .str)),(18,T_Arc),(20,(.one (.int .i64))),(21,(.one (.int .i64))),(23,(.one (.int .i64))),(29,T_Neck),(30,(.one (.int .i64))),(37,(.one (.int .i64))),(46,T_Neck),(47,T_Neck),(50,T_Step),(53,T_Step),(56,(.one (.int .i64))),(58,(.one .str)),(60,(.one .str)),(66,T_Paper),(67,(.one .str)),(80,T_Paper),(81,T_Paper),(92,T_Entry),(99,T_Arc),(104,T_Neck),(116,(.one (.int .i64))),(120,(.one (.int .i64))),(122,(.one (.int .i64))),(131,T_Paper),(136,T_Entry),(4001,T_Neck),(4006,T_Paper)]
noncomputable def spec_l31Draw_c : Callee := mkCallee spec_l31Draw_D spec_l31Draw_H spec_l31Draw_ir [.box T_l00Src] [.d T_Shop] [.box T_l00Src]
noncomputable def spec_l31Draw (a0 : T_l00Src.ty) : Option (T_Shop.ty × T_l00Src.ty) := spec_l31Draw_c.f (a0,())
noncomputable def spec_l31Draw_p0  (v6 : Int) (r0_0 : List Int) (r0_1 : Int) (r0_2 : Int) (r2_2 : Int) (r2_5 : Int) (r3_2 : Int) (r3_5 : Int) (r4 : List Int) (r5 : List Int) (r4000 : List T_Arc.ty) (r4001 : List T_Neck.ty) (r4006 : List T_Paper.ty) : Option (T_Shop.ty × T_l00Src.ty) :=
 goL spec_l31Draw_D spec_l31Draw_H (vleave spec_l31Draw_ir [.box T_l00Src] [.d T_Shop] [.box T_l00Src] []) [.c spec_l31Draw_k0,.l spec_l31Draw_k1,.e 0,.c spec_l31Draw_k5]
  ⟨[(0,.loc 0 0 0),(2,.loc 2 0 0),(3,.loc 3 0 0),(4,.view 4 0 r4.length),(5,.view 5 0 r5.length),(6,.int .i64 v6)],[(0,some (.var 3 (.agg [.sl (.one (.int .u8)) r0_0,.int .i64 r0_1,.int .u64 r0_2]))),(2,some (.var 8 (.agg [.nils 6,.nils 4,.int .i64 r2_2,.nils 4,.nils 1,.int .i64 r2_5,.nils 5,.nils 4]))),(3,some (.var 8 (.agg [.view 4000 0 r4000.length,.view 4001 0 r4001.length,.int .i64 r3_2,.nils 4,.nils 1,.int .i64 r3_5,.view 4006 0 r4006.length,.nils 4]))),(4,some (.sl (.one (.int .i64)) r4)),(5,some (.sl (.one (.int .i64)) r5)),(1000,none),(3000,none),(3001,none),(3003,none),(3004,none),(3006,none),(3007,none),(4000,some (.sl T_Arc r4000)),(4001,some (.sl T_Neck r4001)),(4003,none),(4004,none),(4006,some (.sl T_Paper r4006)),(4007,none)]⟩
noncomputable def spec_l31Draw_p1  (v8 : Int) (r0_0 : List Int) (r0_1 : Int) (r0_2 : Int) (r2_2 : Int) (r2_5 : Int) (r3_2 : Int) (r3_3 : List T_Step.ty) (r3_5 : Int) (r7 : List (List UInt8)) (r4000 : List T_Arc.ty) (r4001 : List T_Neck.ty) (r4004 : List Int) (r4006 : List T_Paper.ty) : Option (T_Shop.ty × T_l00Src.ty) :=
 goL spec_l31Draw_D spec_l31Draw_H (vleave spec_l31Draw_ir [.box T_l00Src] [.d T_Shop] [.box T_l00Src] []) [.c spec_l31Draw_k2,.l spec_l31Draw_k3,.e 2,.c spec_l31Draw_k4]
  ⟨[(0,.loc 0 0 0),(2,.loc 2 0 0),(3,.loc 3 0 0),(7,.view 7 0 r7.length),(8,.int .i64 v8)],[(0,some (.var 3 (.agg [.sl (.one (.int .u8)) r0_0,.int .i64 r0_1,.int .u64 r0_2]))),(2,some (.var 8 (.agg [.nils 6,.nils 4,.int .i64 r2_2,.nils 4,.nils 1,.int .i64 r2_5,.nils 5,.nils 4]))),(3,some (.var 8 (.agg [.view 4000 0 r4000.length,.view 4001 0 r4001.length,.int .i64 r3_2,.sl T_Step r3_3,.view 4004 0 r4004.length,.int .i64 r3_5,.view 4006 0 r4006.length,.nils 4]))),(7,some (.sl (.one .str) r7)),(1000,none),(3000,none),(3001,none),(3003,none),(3004,none),(3006,none),(3007,none),(4000,some (.sl T_Arc r4000)),(4001,some (.sl T_Neck r4001)),(4003,none),(4004,some (.sl (.one (.int .i64)) r4004)),(4006,some (.sl T_Paper r4006)),(4007,none)]⟩
theorem spec_l31Draw_eq (a0 : T_l00Src.ty) : spec_l31Draw a0 =
 (spec_l00Src_pick a0 10).bind fun x1 =>
  (spec_l00Src_pick (x1.2.1,x1.2.2.1,x1.2.2.2.1,()) 300).bind fun x2 =>
   (spec_l00Src_pick (x2.2.1,x2.2.2.1,x2.2.2.2.1,()) 300).bind fun x3 =>
    (spec_l05Oval x2.1 (IntKind.i64.wrap (1 + x3.1))).bind fun x4 =>
     spec_l31Draw_p0 0 x3.2.1 x3.2.2.1 x3.2.2.2.1 0 0 600 (IntKind.i64.wrap (6 + x1.1)) [1960,2937,4400,6593] [2700,1300,650,380] x4 [] [] :=
 (mk_f _ _ _ _ _ _ _ 4000).trans (by kernel_rfl)
theorem spec_l31Draw_p0_eq  (v6 : Int) (r0_0 : List Int) (r0_1 : Int) (r0_2 : Int) (r2_2 : Int) (r2_5 : Int) (r3_2 : Int) (r3_5 : Int) (r4 : List Int) (r5 : List Int) (r4000 : List T_Arc.ty) (r4001 : List T_Neck.ty) (r4006 : List T_Paper.ty) : spec_l31Draw_p0 v6 r0_0 r0_1 r0_2 r2_2 r2_5 r3_2 r3_5 r4 r5 r4000 r4001 r4006 =
 if decide (v6 < (r4.length : Int)) then
  if decide (0 ≤ v6) && decide (v6 < (r4.length : Int)) then
   (r4[v6.toNat]?).bind fun x1 =>
    (spec_l00Src_pick (r0_0,r0_1,r0_2,()) 12).bind fun x2 =>
     if decide (0 ≤ v6) && decide (v6 < (r5.length : Int)) then
      (r5[v6.toNat]?).bind fun x3 =>
       (spec_l00Src_pick (x2.2.1,x2.2.2.1,x2.2.2.2.1,()) 9).bind fun x4 =>
        if decide (r4001.length + 1 < lim) then
         spec_l31Draw_p0 (IntKind.i64.wrap (v6 + 1)) x4.2.1 x4.2.2.1 x4.2.2.2.1 r2_2 r2_5 r3_2 r3_5 r4 r5 r4000 ((r4001.take r4001.length) ++ [(x1,IntKind.i64.wrap (320 + x2.1),IntKind.i64.wrap (x3 - (IntKind.i64.wrap (10 * x4.1))),120000,())]) r4006
        else
         none
     else
      none
  else
   none
 else
  (spec_l17Draw (r0_0,r0_1,r0_2,())).bind fun x5 =>
   (spec_l17Plan x5.1 r3_5).bind fun x6 =>
    spec_l31Draw_p1 0 x5.2.1 x5.2.2.1 x5.2.2.2.1 r2_2 r2_5 r3_2 x5.1 r3_5 [[114,49],[114,50],[114,51]] r4000 r4001 x6 r4006 :=
 (goL_dn _ _ _ 4000 _ _).trans (by kernel_rfl)
theorem spec_l31Draw_p1_eq  (v8 : Int) (r0_0 : List Int) (r0_1 : Int) (r0_2 : Int) (r2_2 : Int) (r2_5 : Int) (r3_2 : Int) (r3_3 : List T_Step.ty) (r3_5 : Int) (r7 : List (List UInt8)) (r4000 : List T_Arc.ty) (r4001 : List T_Neck.ty) (r4004 : List Int) (r4006 : List T_Paper.ty) : spec_l31Draw_p1 v8 r0_0 r0_1 r0_2 r2_2 r2_5 r3_2 r3_3 r3_5 r7 r4000 r4001 r4004 r4006 =
 if decide (v8 < (r7.length : Int)) then
  if decide (0 ≤ v8) && decide (v8 < (r7.length : Int)) then
   (r7[v8.toNat]?).bind fun x1 =>
    (spec_l00Src_pick (r0_0,r0_1,r0_2,()) 20).bind fun x2 =>
     (spec_l00Src_pick (x2.2.1,x2.2.2.1,x2.2.2.2.1,()) 2).bind fun x3 =>
      if decide (r4006.length + 1 < lim) then
       spec_l31Draw_p1 (IntKind.i64.wrap (v8 + 1)) x3.2.1 x3.2.2.1 x3.2.2.2.1 r2_2 r2_5 r3_2 r3_3 r3_5 r7 r4000 r4001 r4004 ((r4006.take r4006.length) ++ [(x1,[118,105,111,108,105,110],IntKind.i64.wrap ((IntKind.i64.wrap (100 * v8)) + x2.1),IntKind.i64.wrap (1 + x3.1),1500,())])
      else
       none
  else
   none
 else
  (spec_l00Src_pick (r0_0,r0_1,r0_2,()) 9).bind fun x4 =>
   (spec_l00Src_pick (x4.2.1,x4.2.2.1,x4.2.2.2.1,()) 300).bind fun x5 =>
    (spec_l00Src_pick (x5.2.1,x5.2.2.1,x5.2.2.2.1,()) 14).bind fun x6 =>
     if (x6.1 == 0) then
      (spec_l05Draw (x6.2.1,x6.2.2.1,x6.2.2.2.1,())).bind fun x7 =>
       some (((x7.1.take x7.1.length),(r4001.take r4001.length),r3_2,r3_3,(r4004.take r4004.length),r3_5,(r4006.take r4006.length),[(1,[99,97,115,104],[98,97,110,107],90000,()),(IntKind.i64.wrap (5 + x4.1),[119,111,111,100],[99,97,115,104],IntKind.i64.wrap (1000 + (IntKind.i64.wrap (100 * x5.1))),())],()),(x7.2.1,x7.2.2.1,x7.2.2.2.1,()))
     else
      if (x6.1 == 1) then
       (spec_l00Src_pick (x6.2.1,x6.2.2.1,x6.2.2.2.1,()) 4).bind fun x8 =>
        (spec_l00Src_pick (x8.2.1,x8.2.2.1,x8.2.2.2.1,()) 40).bind fun x9 =>
         if decide (0 ≤ x8.1) && decide (x8.1 < (r4001.length : Int)) then
          (r4001[x8.1.toNat]?).bind fun x10 =>
           some (((r4000.take r4000.length),((r4001.set x8.1.toNat (x10.1,x10.2.1,x10.2.2.1,IntKind.i64.wrap (60000 + (IntKind.i64.wrap (1000 * x9.1))),())).take r4001.length),r3_2,r3_3,(r4004.take r4004.length),r3_5,(r4006.take r4006.length),[(1,[99,97,115,104],[98,97,110,107],90000,()),(IntKind.i64.wrap (5 + x4.1),[119,111,111,100],[99,97,115,104],IntKind.i64.wrap (1000 + (IntKind.i64.wrap (100 * x5.1))),())],()),(x9.2.1,x9.2.2.1,x9.2.2.2.1,()))
         else
          none
      else
       if (x6.1 == 2) then
        if decide ((r4004.length : Int) > 0) then
         (spec_l00Src_pick (x6.2.1,x6.2.2.1,x6.2.2.2.1,()) 10).bind fun x11 =>
          if decide (0 ≤ IntKind.i64.wrap ((r4004.length : Int) - 1)) && decide (IntKind.i64.wrap ((r4004.length : Int) - 1) < (r4004.length : Int)) then
           (r4004[(IntKind.i64.wrap ((r4004.length : Int) - 1)).toNat]?).bind fun x12 =>
            some (((r4000.take r4000.length),(r4001.take r4001.length),r3_2,r3_3,((r4004.set ((IntKind.i64.wrap ((r4004.length : Int) - 1)).toNat) x11.1).take r4004.length),r3_5,(r4006.take r4006.length),[(1,[99,97,115,104],[98,97,110,107],90000,()),(IntKind.i64.wrap (5 + x4.1),[119,111,111,100],[99,97,115,104],IntKind.i64.wrap (1000 + (IntKind.i64.wrap (100 * x5.1))),())],()),(x11.2.1,x11.2.2.1,x11.2.2.2.1,()))
          else
           none
        else
         some (((r4000.take r4000.length),(r4001.take r4001.length),r3_2,r3_3,(r4004.take r4004.length),r3_5,(r4006.take r4006.length),[(1,[99,97,115,104],[98,97,110,107],90000,()),(IntKind.i64.wrap (5 + x4.1),[119,111,111,100],[99,97,115,104],IntKind.i64.wrap (1000 + (IntKind.i64.wrap (100 * x5.1))),())],()),(x6.2.1,x6.2.2.1,x6.2.2.2.1,()))
       else
        if (x6.1 == 3) then
         (spec_l21Draw (x6.2.1,x6.2.2.1,x6.2.2.2.1,())).bind fun x13 =>
          some (((r4000.take r4000.length),(r4001.take r4001.length),r3_2,r3_3,(r4004.take r4004.length),r3_5,(x13.1.take x13.1.length),[(1,[99,97,115,104],[98,97,110,107],90000,()),(IntKind.i64.wrap (5 + x4.1),[119,111,111,100],[99,97,115,104],IntKind.i64.wrap (1000 + (IntKind.i64.wrap (100 * x5.1))),())],()),(x13.2.1,x13.2.2.1,x13.2.2.2.1,()))
        else
         if (x6.1 == 4) then
          (spec_l25Draw (x6.2.1,x6.2.2.1,x6.2.2.2.1,())).bind fun x14 =>
           some (((r4000.take r4000.length),(r4001.take r4001.length),r3_2,r3_3,(r4004.take r4004.length),r3_5,(r4006.take r4006.length),(x14.1.take x14.1.length),()),(x14.2.1,x14.2.2.1,x14.2.2.2.1,()))
         else
          if (x6.1 == 5) then
           some (((r4000.take r4000.length),(r4001.take r4001.length),r3_2,r3_3,(r4004.take r4004.length),5,(r4006.take r4006.length),[(1,[99,97,115,104],[98,97,110,107],90000,()),(IntKind.i64.wrap (5 + x4.1),[119,111,111,100],[99,97,115,104],IntKind.i64.wrap (1000 + (IntKind.i64.wrap (100 * x5.1))),())],()),(x6.2.1,x6.2.2.1,x6.2.2.2.1,()))
          else
           some (((r4000.take r4000.length),(r4001.take r4001.length),r3_2,r3_3,(r4004.take r4004.length),r3_5,(r4006.take r4006.length),[(1,[99,97,115,104],[98,97,110,107],90000,()),(IntKind.i64.wrap (5 + x4.1),[119,111,111,100],[99,97,115,104],IntKind.i64.wrap (1000 + (IntKind.i64.wrap (100 * x5.1))),())],()),(x6.2.1,x6.2.2.1,x6.2.2.2.1,())) :=
 (goL_dn _ _ _ 4000 _ _).trans (by kernel_rfl)
def spec_R8Shop_ir : Fn := { np := 1,io := [],res := [.cell 2 (some 8)],own := [false],body :=
 (.seq (.reg false [.W 2 (.alloc 8 (.agg [.nils 6,.nils 4,.int .i64 0,.nils 4,.nils 1,.int .i64 0,.nils 5,.nils 4]))] [0,2] [2,3000,3001,3003,3004,3006,3007]) (.seq (.reg false [.V 4 (.mv (.t 0)),.W 5 (.call (.c (.fn 441 [])) [.t 4]),.V 3 (.asg (.t 5))] [2,3] [2,5,3000,3001,3003,3004,3006,3007,6000]) (.seq (.reg false [.V 6 (.mv (.t 3)),.W 7 (.call (.c (.fn 707 [])) [.t 6]),⟨none,true,.sto 8 (.t 2) (.t 7),none,false,[]⟩] [2] [2,3000,3001,3003,3004,3006,3007]) .ret))) }
noncomputable def spec_R8Shop_D : List (Nat × Callee) := [(441,spec_l00From_c),(707,spec_l31Draw_c)]
def spec_R8Shop_H : List (Nat × ET) := [(4,(.one (.int .u8)))]
noncomputable def spec_R8Shop_c : Callee := mkCallee spec_R8Shop_D spec_R8Shop_H spec_R8Shop_ir [.d (.one (.sl (.one (.int .u8))))] [.d T_Shop] []
noncomputable def spec_R8Shop (a0 : List Int) : Option (T_Shop.ty) := spec_R8Shop_c.f (a0,())
theorem spec_R8Shop_eq (a0 : List Int) : spec_R8Shop a0 =
 (spec_l00From a0).bind fun x1 =>
  (spec_l31Draw x1).bind fun x2 =>
   some (x2.1.1,x2.1.2.1,x2.1.2.2.1,x2.1.2.2.2.1,x2.1.2.2.2.2.1,x2.1.2.2.2.2.2.1,x2.1.2.2.2.2.2.2.1,x2.1.2.2.2.2.2.2.2.1,()) :=
 (mk_f _ _ _ _ _ _ _ 4000).trans (by kernel_rfl)
def spec_l00In_ir : Fn := { np := 3,io := [],res := [.t 6],own := [false],body :=
 (.seq (.reg false [.V 6 (.asg (.c (.bool false)))] [0,1,2] []) (.seq (.reg false [.V 7 (.mv (.t 0)),.V 8 (.mv (.t 1)),.V 9 (.bin .geq (.t 7) (.t 8)),.V 10 (.mv (.t 9)),.G 11 (.mv (.t 0)) 3 true,.G 12 (.mv (.t 2)) 3 true,.G 13 (.bin .leq (.t 11) (.t 12)) 3 true,.V 14 (.pick (.t 10) (.t 13) (.c (.bool false))),.V 6 (.asg (.t 14))] [6] []) .ret)) }
noncomputable def spec_l00In_D : List (Nat × Callee) := []
def spec_l00In_H : List (Nat × ET) := []
noncomputable def spec_l00In_c : Callee := mkCallee spec_l00In_D spec_l00In_H spec_l00In_ir [.d (.one (.int .i64)),.d (.one (.int .i64)),.d (.one (.int .i64))] [.d (.one .bool)] []
noncomputable def spec_l00In (a0 : Int) (a1 : Int) (a2 : Int) : Option (Bool) := spec_l00In_c.f (a0,a1,a2,())
theorem spec_l00In_eq (a0 : Int) (a1 : Int) (a2 : Int) : spec_l00In a0 a1 a2 =
 if decide (a0 ≥ a1) then
  some (decide (a0 ≤ a2))
 else
  some false :=
 (mk_f _ _ _ _ _ _ _ 4000).trans (by kernel_rfl)
def spec_l05Point_ir : Fn := { np := 1,io := [],res := [.t 2],own := [false],body :=
 (.seq (.reg false [.W 1 (.box 2 (.t 0)),.V 2 (.asg (.c (.bool false)))] [1] [1]) (.seq (.reg false [.V 3 (.fa 0 (.t 1)),.V 4 (.ld none (.t 3)),.V 5 (.call (.c (.fn 1 [])) [.t 4,.c (.int .i64 (-100000)),.c (.int .i64 100000)]),.V 6 (.mv (.t 5)),.G 7 (.fa 1 (.t 1)) 3 true,.G 8 (.ld none (.t 7)) 3 true,.G 9 (.call (.c (.fn 1 [])) [.t 8,.c (.int .i64 (-100000)),.c (.int .i64 100000)]) 3 true,.V 10 (.pick (.t 6) (.t 9) (.c (.bool false))),.V 2 (.asg (.t 10))] [2] []) .ret)) }
noncomputable def spec_l05Point_D : List (Nat × Callee) := [(1,spec_l00In_c)]
def spec_l05Point_H : List (Nat × ET) := []
noncomputable def spec_l05Point_c : Callee := mkCallee spec_l05Point_D spec_l05Point_H spec_l05Point_ir [.d T_Point] [.d (.one .bool)] []
noncomputable def spec_l05Point (a0 : T_Point.ty) : Option (Bool) := spec_l05Point_c.f (a0,())
theorem spec_l05Point_eq (a0 : T_Point.ty) : spec_l05Point a0 =
 (spec_l00In a0.1 (-100000) 100000).bind fun x1 =>
  if x1 then
   (spec_l00In a0.2.1 (-100000) 100000).bind fun x2 =>
    some x2
  else
   some false :=
 (mk_f _ _ _ _ _ _ _ 4000).trans (by kernel_rfl)
def spec_l05Square_ir : Fn := { np := 2,io := [],res := [.t 4],own := [false],body :=
 (.seq (.reg false [.W 2 (.box 2 (.t 0)),.W 3 (.box 2 (.t 1)),.V 4 (.asg (.c (.int .i64 0)))] [2,3] [2,3]) (.seq (.reg false [.V 5 (.fa 0 (.t 2)),.V 6 (.ld none (.t 5)),.V 7 (.fa 0 (.t 3)),.V 8 (.ld none (.t 7)),.V 9 (.bin .sub (.t 6) (.t 8)),.V 10 (.fa 0 (.t 2)),.V 11 (.ld none (.t 10)),.V 12 (.fa 0 (.t 3)),.V 13 (.ld none (.t 12)),.V 14 (.bin .sub (.t 11) (.t 13)),.V 15 (.bin .mul (.t 9) (.t 14)),.V 16 (.fa 1 (.t 2)),.V 17 (.ld none (.t 16)),.V 18 (.fa 1 (.t 3)),.V 19 (.ld none (.t 18)),.V 20 (.bin .sub (.t 17) (.t 19)),.V 21 (.fa 1 (.t 2)),.V 22 (.ld none (.t 21)),.V 23 (.fa 1 (.t 3)),.V 24 (.ld none (.t 23)),.V 25 (.bin .sub (.t 22) (.t 24)),.V 26 (.bin .mul (.t 20) (.t 25)),.V 27 (.bin .add (.t 15) (.t 26)),.V 4 (.asg (.t 27))] [4] []) .ret)) }
noncomputable def spec_l05Square_D : List (Nat × Callee) := []
def spec_l05Square_H : List (Nat × ET) := []
noncomputable def spec_l05Square_c : Callee := mkCallee spec_l05Square_D spec_l05Square_H spec_l05Square_ir [.d T_Point,.d T_Point] [.d (.one (.int .i64))] []
noncomputable def spec_l05Square (a0 : T_Point.ty) (a1 : T_Point.ty) : Option (Int) := spec_l05Square_c.f (a0,a1,())
theorem spec_l05Square_eq (a0 : T_Point.ty) (a1 : T_Point.ty) : spec_l05Square a0 a1 =
 some (IntKind.i64.wrap ((IntKind.i64.wrap ((IntKind.i64.wrap (a0.1 - a1.1)) * (IntKind.i64.wrap (a0.1 - a1.1)))) + (IntKind.i64.wrap ((IntKind.i64.wrap (a0.2.1 - a1.2.1)) * (IntKind.i64.wrap (a0.2.1 - a1.2.1)))))) :=
 (mk_f _ _ _ _ _ _ _ 4000).trans (by kernel_rfl)
def spec_l05One_k0 : C :=
 .seq (.reg true [.V 36 (.mv (.t 0)),.V 37 (.nilck (.t 36)),.V 38 (.fa 0 (.t 37)),.V 39 (.ld (some 2) (.t 38)),.V 40 (.mv (.t 0)),.V 41 (.nilck (.t 40)),.V 42 (.fa 2 (.t 41)),.V 43 (.ld (some 2) (.t 42)),.V 44 (.call (.c (.fn 945 [])) [.t 39,.t 43]),.V 45 (.mv (.t 0)),.V 46 (.nilck (.t 45)),.V 47 (.fa 0 (.t 46)),.V 48 (.ld (some 2) (.t 47)),.V 49 (.mv (.t 0)),.V 50 (.nilck (.t 49)),.V 51 (.fa 4 (.t 50)),.V 52 (.ld (some 2) (.t 51)),.V 53 (.call (.c (.fn 945 [])) [.t 48,.t 52]),.V 54 (.bin .eql (.t 44) (.t 53)),.V 2 (.asg (.t 54))] [2] []) .ret
def spec_l05One_ir : Fn := { np := 1,io := [],res := [.t 2],own := [false],body :=
 (.seq (.reg false [.V 2 (.asg (.c (.bool false)))] [0] []) (.seq (.seq (.reg true [.V 3 (.mv (.t 0)),.V 4 (.nilck (.t 3)),.V 5 (.fa 0 (.t 4)),.V 6 (.ld (some 2) (.t 5)),.V 7 (.call (.c (.fn 946 [])) [.t 6]),.V 8 (.un .not (.t 7)),.V 9 (.mv (.t 8)),.G 10 (.mv (.t 0)) 6 false,.G 11 (.nilck (.t 10)) 6 false,.G 12 (.fa 2 (.t 11)) 6 false,.G 13 (.ld (some 2) (.t 12)) 6 false,.G 14 (.call (.c (.fn 946 [])) [.t 13]) 6 false,.G 15 (.un .not (.t 14)) 6 false,.V 16 (.pick (.t 9) (.c (.bool true)) (.t 15)),.V 17 (.mv (.t 16)),.G 18 (.mv (.t 0)) 14 false,.G 19 (.nilck (.t 18)) 14 false,.G 20 (.fa 4 (.t 19)) 14 false,.G 21 (.ld (some 2) (.t 20)) 14 false,.G 22 (.call (.c (.fn 946 [])) [.t 21]) 14 false,.G 23 (.un .not (.t 22)) 14 false,.V 24 (.pick (.t 17) (.c (.bool true)) (.t 23)),.V 25 (.mv (.t 24)),.G 26 (.mv (.t 0)) 22 false,.G 27 (.nilck (.t 26)) 22 false,.G 28 (.fa 2 (.t 27)) 22 false,.G 29 (.ld (some 2) (.t 28)) 22 false,.G 30 (.mv (.t 0)) 22 false,.G 31 (.nilck (.t 30)) 22 false,.G 32 (.fa 4 (.t 31)) 22 false,.G 33 (.ld (some 2) (.t 32)) 22 false,.G 34 (.eqs false [.i,.i] (.t 29) (.t 33)) 22 false,.V 35 (.pick (.t 25) (.c (.bool true)) (.t 34))] [0,35] []) (.cond (.t 35) (.seq (.reg false [.V 2 (.asg (.c (.bool false)))] [2] []) .ret) .skip)) (.norm [0] [] spec_l05One_k0))) }
noncomputable def spec_l05One_D : List (Nat × Callee) := [(945,spec_l05Square_c),(946,spec_l05Point_c)]
def spec_l05One_H : List (Nat × ET) := []
noncomputable def spec_l05One_c : Callee := mkCallee spec_l05One_D spec_l05One_H spec_l05One_ir [.p T_Arc] [.d (.one .bool)] []
noncomputable def spec_l05One (a0 : T_Arc.ty) : Option (Bool) := spec_l05One_c.f (a0,())
noncomputable def spec_l05One_p0  (v0_0 : Int) (v0_1 : Int) (v0_2 : Int) (v0_3 : Int) (v0_4 : Int) (v0_5 : Int) : Option (Bool) :=
 goL spec_l05One_D spec_l05One_H (vleave spec_l05One_ir [.p T_Arc] [.d (.one .bool)] [] []) [.c spec_l05One_k0]
  ⟨[(0,.ptr [.int .i64 v0_0,.int .i64 v0_1,.int .i64 v0_2,.int .i64 v0_3,.int .i64 v0_4,.int .i64 v0_5] 0)],[]⟩
theorem spec_l05One_eq (a0 : T_Arc.ty) : spec_l05One a0 =
 (spec_l05Point (a0.1,a0.2.1,())).bind fun x1 =>
  if (!x1) then
   some false
  else
   (spec_l05Point (a0.2.2.1,a0.2.2.2.1,())).bind fun x2 =>
    if (!x2) then
     some false
    else
     (spec_l05Point (a0.2.2.2.2.1,a0.2.2.2.2.2.1,())).bind fun x3 =>
      if (!x3) then
       some false
      else
       if ((a0.2.2.1 == a0.2.2.2.2.1) && (a0.2.2.2.1 == a0.2.2.2.2.2.1)) then
        some false
       else
        spec_l05One_p0 a0.1 a0.2.1 a0.2.2.1 a0.2.2.2.1 a0.2.2.2.2.1 a0.2.2.2.2.2.1 :=
 (mk_f _ _ _ _ _ _ _ 4000).trans (by kernel_rfl)
theorem spec_l05One_p0_eq  (v0_0 : Int) (v0_1 : Int) (v0_2 : Int) (v0_3 : Int) (v0_4 : Int) (v0_5 : Int) : spec_l05One_p0 v0_0 v0_1 v0_2 v0_3 v0_4 v0_5 =
 (spec_l05Square (v0_0,v0_1,()) (v0_2,v0_3,())).bind fun x1 =>
  (spec_l05Square (v0_0,v0_1,()) (v0_4,v0_5,())).bind fun x2 =>
   some (x1 == x2) :=
 (goL_dn _ _ _ 4000 _ _).trans (by kernel_rfl)
def spec_l05Ok_k0 : C :=
 .seq (.seq (.reg false [.V 7 (.mv (.t 4)),.V 8 (.mv (.t 3)),.V 9 (.bin .lss (.t 7) (.t 8))] [0,3,4,9] []) (.cond (.t 9) .skip (.exit 0))) (.seq (.block 1 (.seq (.reg true [.V 12 (.mv (.t 0)),.V 13 (.mv (.t 4)),.V 14 (.ia 6 (.t 12) (.t 13)),.V 15 (.call (.c (.fn 716 [])) [.t 14]),.V 16 (.un .not (.t 15)),.V 17 (.mv (.t 16)),.G 18 (.mv (.t 0)) 5 false,.G 19 (.mv (.t 4)) 5 false,.G 20 (.ia 6 (.t 18) (.t 19)) 5 false,.G 21 (.fa 4 (.t 20)) 5 false,.G 22 (.ld (some 2) (.t 21)) 5 false,.G 23 (.mv (.t 0)) 5 false,.G 24 (.mv (.t 4)) 5 false,.G 25 (.bin .add (.t 24) (.c (.int .i64 1))) 5 false,.G 26 (.mv (.t 3)) 5 false,.G 27 (.bin .rem (.t 25) (.t 26)) 5 false,.G 28 (.ia 6 (.t 23) (.t 27)) 5 false,.G 29 (.fa 2 (.t 28)) 5 false,.G 30 (.ld (some 2) (.t 29)) 5 false,.G 31 (.eqs true [.i,.i] (.t 22) (.t 30)) 5 false,.V 32 (.pick (.t 17) (.c (.bool true)) (.t 31))] [0,3,4,32] []) (.cond (.t 32) (.seq (.reg false [.V 2 (.asg (.c (.bool false)))] [2] []) .ret) .skip))) (.reg false [.V 10 (.mv (.t 4)),.V 11 (.bin .add (.t 10) (.c (.int .i64 1))),.V 4 (.asg (.t 11))] [0,3,4] []))
def spec_l05Ok_k1 : C :=
 .norm [0,3,4] [] spec_l05Ok_k0
def spec_l05Ok_k2 : C :=
 .seq (.reg false [.V 33 (.mv (.t 3)),.V 34 (.bin .geq (.t 33) (.c (.int .i64 2))),.V 35 (.mv (.t 34)),.G 36 (.mv (.t 3)) 2 true,.G 37 (.bin .leq (.t 36) (.c (.int .i64 16))) 2 true,.V 38 (.pick (.t 35) (.t 37) (.c (.bool false))),.V 2 (.asg (.t 38))] [2] []) .ret
def spec_l05Ok_ir : Fn := { np := 1,io := [],res := [.t 2],own := [false],body :=
 (.seq (.reg false [.V 2 (.asg (.c (.bool false)))] [0] []) (.seq (.reg false [.V 5 (.mv (.t 0)),.V 6 (.len (.t 5)),.V 3 (.asg (.t 6))] [0,3] []) (.seq (.seq (.reg false [.V 4 (.asg (.c (.int .i64 0)))] [0,3,4] []) (.block 0 (.loop spec_l05Ok_k1))) spec_l05Ok_k2))) }
noncomputable def spec_l05Ok_D : List (Nat × Callee) := [(716,spec_l05One_c)]
def spec_l05Ok_H : List (Nat × ET) := [(5,T_Arc),(12,T_Arc),(18,T_Arc),(23,T_Arc)]
noncomputable def spec_l05Ok_c : Callee := mkCallee spec_l05Ok_D spec_l05Ok_H spec_l05Ok_ir [.d (.one (.sl T_Arc))] [.d (.one .bool)] []
noncomputable def spec_l05Ok (a0 : List T_Arc.ty) : Option (Bool) := spec_l05Ok_c.f (a0,())
noncomputable def spec_l05Ok_p0  (v0 : List T_Arc.ty) (v3 : Int) (v4 : Int) : Option (Bool) :=
 goL spec_l05Ok_D spec_l05Ok_H (vleave spec_l05Ok_ir [.d (.one (.sl T_Arc))] [.d (.one .bool)] [] []) [.c spec_l05Ok_k0,.l spec_l05Ok_k1,.e 0,.c spec_l05Ok_k2]
  ⟨[(0,.sl T_Arc v0),(3,.int .i64 v3),(4,.int .i64 v4)],[]⟩
theorem spec_l05Ok_eq (a0 : List T_Arc.ty) : spec_l05Ok a0 =
 spec_l05Ok_p0 a0 (a0.length : Int) 0 :=
 (mk_f _ _ _ _ _ _ _ 4000).trans (by kernel_rfl)
theorem spec_l05Ok_p0_eq  (v0 : List T_Arc.ty) (v3 : Int) (v4 : Int) : spec_l05Ok_p0 v0 v3 v4 =
 if decide (v4 < v3) then
  if decide (0 ≤ v4) then
   (v0[v4.toNat]?).bind fun x1 =>
    (spec_l05One x1).bind fun x2 =>
     if (!x2) then
      some false
     else
      if decide (0 ≤ v4) then
       (v0[v4.toNat]?).bind fun x3 =>
        if decide (v3 = 0) then
         none
        else
         if decide (0 ≤ (IntKind.i64.wrap (v4 + 1)).tmod v3) then
          (v0[((IntKind.i64.wrap (v4 + 1)).tmod v3).toNat]?).bind fun x4 =>
           if (!((x3.2.2.2.2.1 == x4.2.2.1) && (x3.2.2.2.2.2.1 == x4.2.2.2.1))) then
            some false
           else
            spec_l05Ok_p0 v0 v3 (IntKind.i64.wrap (v4 + 1))
         else
          none
      else
       none
  else
   none
 else
  if decide (v3 ≥ 2) then
   some (decide (v3 ≤ 16))
  else
   some false :=
 (goL_dn _ _ _ 4000 _ _).trans (by kernel_rfl)
def spec_l09One_ir : Fn := { np := 1,io := [],res := [.t 2],own := [false],body :=
 (.seq (.reg false [.V 2 (.asg (.c (.bool false)))] [0] []) (.seq (.reg false [.V 3 (.mv (.t 0)),.V 4 (.nilck (.t 3)),.V 5 (.fa 0 (.t 4)),.V 6 (.ld none (.t 5)),.V 7 (.call (.c (.fn 1 [])) [.t 6,.c (.int .i64 1),.c (.int .i64 10000)]),.V 8 (.mv (.t 7)),.G 9 (.mv (.t 0)) 5 true,.G 10 (.nilck (.t 9)) 5 true,.G 11 (.fa 1 (.t 10)) 5 true,.G 12 (.ld none (.t 11)) 5 true,.G 13 (.call (.c (.fn 1 [])) [.t 12,.c (.int .i64 1),.c (.int .i64 500)]) 5 true,.V 14 (.pick (.t 8) (.t 13) (.c (.bool false))),.V 15 (.mv (.t 14)),.G 16 (.mv (.t 0)) 12 true,.G 17 (.nilck (.t 16)) 12 true,.G 18 (.fa 2 (.t 17)) 12 true,.G 19 (.ld none (.t 18)) 12 true,.G 20 (.call (.c (.fn 1 [])) [.t 19,.c (.int .i64 1),.c (.int .i64 10000)]) 12 true,.V 21 (.pick (.t 15) (.t 20) (.c (.bool false))),.V 22 (.mv (.t 21)),.G 23 (.mv (.t 0)) 19 true,.G 24 (.nilck (.t 23)) 19 true,.G 25 (.fa 3 (.t 24)) 19 true,.G 26 (.ld none (.t 25)) 19 true,.G 27 (.call (.c (.fn 1 [])) [.t 26,.c (.int .i64 1),.c (.int .i64 500000)]) 19 true,.V 28 (.pick (.t 22) (.t 27) (.c (.bool false))),.V 2 (.asg (.t 28))] [2] []) .ret)) }
noncomputable def spec_l09One_D : List (Nat × Callee) := [(1,spec_l00In_c)]
def spec_l09One_H : List (Nat × ET) := []
noncomputable def spec_l09One_c : Callee := mkCallee spec_l09One_D spec_l09One_H spec_l09One_ir [.p T_Neck] [.d (.one .bool)] []
noncomputable def spec_l09One (a0 : T_Neck.ty) : Option (Bool) := spec_l09One_c.f (a0,())
theorem spec_l09One_eq (a0 : T_Neck.ty) : spec_l09One a0 =
 (spec_l00In a0.1 1 10000).bind fun x1 =>
  if x1 then
   (spec_l00In a0.2.1 1 500).bind fun x2 =>
    if x2 then
     (spec_l00In a0.2.2.1 1 10000).bind fun x3 =>
      if x3 then
       (spec_l00In a0.2.2.2.1 1 500000).bind fun x4 =>
        some x4
      else
       some false
    else
     some false
  else
   some false :=
 (mk_f _ _ _ _ _ _ _ 4000).trans (by kernel_rfl)
def spec_l09List_k0 : C :=
 .seq (.seq (.reg false [.V 4 (.mv (.t 3)),.V 5 (.mv (.t 0)),.V 6 (.len (.t 5)),.V 7 (.bin .lss (.t 4) (.t 6))] [0,3,7] []) (.cond (.t 7) .skip (.exit 0))) (.seq (.block 1 (.seq (.reg false [.V 10 (.mv (.t 0)),.V 11 (.mv (.t 3)),.V 12 (.ia 4 (.t 10) (.t 11)),.V 13 (.call (.c (.fn 719 [])) [.t 12]),.V 14 (.un .not (.t 13))] [0,3,14] []) (.cond (.t 14) (.seq (.reg false [.V 2 (.asg (.c (.bool false)))] [2] []) .ret) .skip))) (.reg false [.V 8 (.mv (.t 3)),.V 9 (.bin .add (.t 8) (.c (.int .i64 1))),.V 3 (.asg (.t 9))] [0,3] []))
def spec_l09List_k1 : C :=
 .norm [0,3] [] spec_l09List_k0
def spec_l09List_k2 : C :=
 .seq (.reg false [.V 15 (.mv (.t 0)),.V 16 (.len (.t 15)),.V 17 (.bin .leq (.t 16) (.c (.int .i64 4))),.V 2 (.asg (.t 17))] [2] []) .ret
def spec_l09List_ir : Fn := { np := 1,io := [],res := [.t 2],own := [false],body :=
 (.seq (.reg false [.V 2 (.asg (.c (.bool false)))] [0] []) (.seq (.seq (.reg false [.V 3 (.asg (.c (.int .i64 0)))] [0,3] []) (.block 0 (.loop spec_l09List_k1))) spec_l09List_k2)) }
noncomputable def spec_l09List_D : List (Nat × Callee) := [(719,spec_l09One_c)]
def spec_l09List_H : List (Nat × ET) := [(5,T_Neck),(10,T_Neck),(15,T_Neck)]
noncomputable def spec_l09List_c : Callee := mkCallee spec_l09List_D spec_l09List_H spec_l09List_ir [.d (.one (.sl T_Neck))] [.d (.one .bool)] []
noncomputable def spec_l09List (a0 : List T_Neck.ty) : Option (Bool) := spec_l09List_c.f (a0,())
noncomputable def spec_l09List_p0  (v0 : List T_Neck.ty) (v3 : Int) : Option (Bool) :=
 goL spec_l09List_D spec_l09List_H (vleave spec_l09List_ir [.d (.one (.sl T_Neck))] [.d (.one .bool)] [] []) [.c spec_l09List_k0,.l spec_l09List_k1,.e 0,.c spec_l09List_k2]
  ⟨[(0,.sl T_Neck v0),(3,.int .i64 v3)],[]⟩
theorem spec_l09List_eq (a0 : List T_Neck.ty) : spec_l09List a0 =
 spec_l09List_p0 a0 0 :=
 (mk_f _ _ _ _ _ _ _ 4000).trans (by kernel_rfl)
theorem spec_l09List_p0_eq  (v0 : List T_Neck.ty) (v3 : Int) : spec_l09List_p0 v0 v3 =
 if decide (v3 < (v0.length : Int)) then
  if decide (0 ≤ v3) then
   (v0[v3.toNat]?).bind fun x1 =>
    (spec_l09One x1).bind fun x2 =>
     if (!x2) then
      some false
     else
      spec_l09List_p0 v0 (IntKind.i64.wrap (v3 + 1))
  else
   none
 else
  some (decide ((v0.length : Int) ≤ 4)) :=
 (goL_dn _ _ _ 4000 _ _).trans (by kernel_rfl)
def spec_l09Share_ir : Fn := { np := 1,io := [],res := [.t 2],own := [false],body :=
 (.seq (.reg false [.V 2 (.asg (.c (.bool false)))] [0] []) (.seq (.reg false [.V 3 (.mv (.t 0)),.V 4 (.call (.c (.fn 1 [])) [.t 3,.c (.int .i64 0),.c (.int .i64 1000)]),.V 2 (.asg (.t 4))] [2] []) .ret)) }
noncomputable def spec_l09Share_D : List (Nat × Callee) := [(1,spec_l00In_c)]
def spec_l09Share_H : List (Nat × ET) := []
noncomputable def spec_l09Share_c : Callee := mkCallee spec_l09Share_D spec_l09Share_H spec_l09Share_ir [.d (.one (.int .i64))] [.d (.one .bool)] []
noncomputable def spec_l09Share (a0 : Int) : Option (Bool) := spec_l09Share_c.f (a0,())
theorem spec_l09Share_eq (a0 : Int) : spec_l09Share a0 =
 (spec_l00In a0 0 1000).bind fun x1 =>
  some x1 :=
 (mk_f _ _ _ _ _ _ _ 4000).trans (by kernel_rfl)
def spec_l01Small_ir : Fn := { np := 1,io := [],res := [.t 2],own := [false],body :=
 (.seq (.reg false [.V 2 (.asg (.c (.bool false)))] [0] []) (.seq (.reg false [.V 3 (.mv (.t 0)),.V 4 (.bin .geq (.t 3) (.c (.int .u8 97))),.V 5 (.mv (.t 4)),.G 6 (.mv (.t 0)) 2 true,.G 7 (.bin .leq (.t 6) (.c (.int .u8 122))) 2 true,.V 8 (.pick (.t 5) (.t 7) (.c (.bool false))),.V 2 (.asg (.t 8))] [2] []) .ret)) }
noncomputable def spec_l01Small_D : List (Nat × Callee) := []
def spec_l01Small_H : List (Nat × ET) := []
noncomputable def spec_l01Small_c : Callee := mkCallee spec_l01Small_D spec_l01Small_H spec_l01Small_ir [.d (.one (.int .u8))] [.d (.one .bool)] []
noncomputable def spec_l01Small (a0 : Int) : Option (Bool) := spec_l01Small_c.f (a0,())
theorem spec_l01Small_eq (a0 : Int) : spec_l01Small a0 =
 if decide (a0 ≥ 97) then
  some (decide (a0 ≤ 122))
 else
  some false :=
 (mk_f _ _ _ _ _ _ _ 4000).trans (by kernel_rfl)
def spec_l01Digit_ir : Fn := { np := 1,io := [],res := [.t 2],own := [false],body :=
 (.seq (.reg false [.V 2 (.asg (.c (.bool false)))] [0] []) (.seq (.reg false [.V 3 (.mv (.t 0)),.V 4 (.bin .geq (.t 3) (.c (.int .u8 48))),.V 5 (.mv (.t 4)),.G 6 (.mv (.t 0)) 2 true,.G 7 (.bin .leq (.t 6) (.c (.int .u8 57))) 2 true,.V 8 (.pick (.t 5) (.t 7) (.c (.bool false))),.V 2 (.asg (.t 8))] [2] []) .ret)) }
noncomputable def spec_l01Digit_D : List (Nat × Callee) := []
def spec_l01Digit_H : List (Nat × ET) := []
noncomputable def spec_l01Digit_c : Callee := mkCallee spec_l01Digit_D spec_l01Digit_H spec_l01Digit_ir [.d (.one (.int .u8))] [.d (.one .bool)] []
noncomputable def spec_l01Digit (a0 : Int) : Option (Bool) := spec_l01Digit_c.f (a0,())
theorem spec_l01Digit_eq (a0 : Int) : spec_l01Digit a0 =
 if decide (a0 ≥ 48) then
  some (decide (a0 ≤ 57))
 else
  some false :=
 (mk_f _ _ _ _ _ _ _ 4000).trans (by kernel_rfl)
def spec_l01Name_k0 : C :=
 .seq (.seq (.reg false [.V 17 (.mv (.t 3)),.V 18 (.mv (.t 0)),.V 19 (.lens (.t 18)),.V 20 (.bin .lss (.t 17) (.t 19))] [0,3,20] []) (.cond (.t 20) .skip (.exit 0))) (.seq (.block 1 (.seq (.reg false [.V 23 (.mv (.t 0)),.V 24 (.mv (.t 3)),.V 25 (.ix (.t 23) (.t 24)),.V 26 (.call (.c (.fn 11 [])) [.t 25]),.V 27 (.un .not (.t 26)),.V 28 (.mv (.t 27)),.G 29 (.mv (.t 0)) 5 true,.G 30 (.mv (.t 3)) 5 true,.G 31 (.ix (.t 29) (.t 30)) 5 true,.G 32 (.call (.c (.fn 12 [])) [.t 31]) 5 true,.G 33 (.un .not (.t 32)) 5 true,.V 34 (.pick (.t 28) (.t 33) (.c (.bool false)))] [0,3,34] []) (.cond (.t 34) (.seq (.reg false [.V 2 (.asg (.c (.bool false)))] [2] []) .ret) .skip))) (.reg false [.V 21 (.mv (.t 3)),.V 22 (.bin .add (.t 21) (.c (.int .i64 1))),.V 3 (.asg (.t 22))] [0,3] []))
def spec_l01Name_k1 : C :=
 .norm [0,3] [] spec_l01Name_k0
def spec_l01Name_k2 : C :=
 .seq (.reg false [.V 2 (.asg (.c (.bool true)))] [2] []) .ret
def spec_l01Name_k3 : C :=
 .seq (.seq (.reg false [.V 3 (.asg (.c (.int .i64 0)))] [0,3] []) (.block 0 (.loop spec_l01Name_k1))) spec_l01Name_k2
def spec_l01Name_ir : Fn := { np := 1,io := [],res := [.t 2],own := [false],body :=
 (.seq (.reg false [.V 2 (.asg (.c (.bool false)))] [0] []) (.seq (.seq (.reg false [.V 4 (.mv (.t 0)),.V 5 (.bin .eql (.t 4) (.c (.str []))),.V 6 (.mv (.t 5)),.G 7 (.mv (.t 0)) 2 false,.G 8 (.lens (.t 7)) 2 false,.G 9 (.bin .gtr (.t 8) (.c (.int .i64 10))) 2 false,.V 10 (.pick (.t 6) (.c (.bool true)) (.t 9)),.V 11 (.mv (.t 10)),.G 12 (.mv (.t 0)) 7 false,.G 13 (.ix (.t 12) (.c (.int .i64 0))) 7 false,.G 14 (.call (.c (.fn 11 [])) [.t 13]) 7 false,.G 15 (.un .not (.t 14)) 7 false,.V 16 (.pick (.t 11) (.c (.bool true)) (.t 15))] [0,16] []) (.cond (.t 16) (.seq (.reg false [.V 2 (.asg (.c (.bool false)))] [2] []) .ret) .skip)) (.norm [0] [] spec_l01Name_k3))) }
noncomputable def spec_l01Name_D : List (Nat × Callee) := [(11,spec_l01Small_c),(12,spec_l01Digit_c)]
def spec_l01Name_H : List (Nat × ET) := []
noncomputable def spec_l01Name_c : Callee := mkCallee spec_l01Name_D spec_l01Name_H spec_l01Name_ir [.d (.one .str)] [.d (.one .bool)] []
noncomputable def spec_l01Name (a0 : List UInt8) : Option (Bool) := spec_l01Name_c.f (a0,())
noncomputable def spec_l01Name_p0  (v0 : List UInt8) : Option (Bool) :=
 goL spec_l01Name_D spec_l01Name_H (vleave spec_l01Name_ir [.d (.one .str)] [.d (.one .bool)] [] []) [.c spec_l01Name_k3]
  ⟨[(0,.str v0)],[]⟩
noncomputable def spec_l01Name_p1  (v0 : List UInt8) (v3 : Int) : Option (Bool) :=
 goL spec_l01Name_D spec_l01Name_H (vleave spec_l01Name_ir [.d (.one .str)] [.d (.one .bool)] [] []) [.c spec_l01Name_k0,.l spec_l01Name_k1,.e 0,.c spec_l01Name_k2]
  ⟨[(0,.str v0),(3,.int .i64 v3)],[]⟩
theorem spec_l01Name_eq (a0 : List UInt8) : spec_l01Name a0 =
 if (a0 == []) then
  some false
 else
  if decide ((a0.length : Int) > 10) then
   some false
  else
   (a0[0]?).bind fun x1 =>
    (spec_l01Small (x1.toNat : Int)).bind fun x2 =>
     if (!x2) then
      some false
     else
      spec_l01Name_p0 a0 :=
 (mk_f _ _ _ _ _ _ _ 4000).trans (by kernel_rfl)
theorem spec_l01Name_p0_eq  (v0 : List UInt8) : spec_l01Name_p0 v0 =
 spec_l01Name_p1 v0 0 :=
 (goL_dn _ _ _ 4000 _ _).trans (by kernel_rfl)
theorem spec_l01Name_p1_eq  (v0 : List UInt8) (v3 : Int) : spec_l01Name_p1 v0 v3 =
 if decide (v3 < (v0.length : Int)) then
  if decide (0 ≤ v3) then
   (v0[v3.toNat]?).bind fun x1 =>
    (spec_l01Small (x1.toNat : Int)).bind fun x2 =>
     if (!x2) then
      if decide (0 ≤ v3) then
       (v0[v3.toNat]?).bind fun x3 =>
        (spec_l01Digit (x3.toNat : Int)).bind fun x4 =>
         if (!x4) then
          some false
         else
          spec_l01Name_p1 v0 (IntKind.i64.wrap (v3 + 1))
      else
       none
     else
      spec_l01Name_p1 v0 (IntKind.i64.wrap (v3 + 1))
  else
   none
 else
  some true :=
 (goL_dn _ _ _ 4000 _ _).trans (by kernel_rfl)
def spec_l00Rises_k0 : C :=
 .seq (.seq (.reg false [.V 8 (.mv (.t 7)),.V 9 (.mv (.t 0)),.V 10 (.len (.t 9)),.V 11 (.bin .lss (.t 8) (.t 10))] [0,1,2,7,11] []) (.cond (.t 11) .skip (.exit 0))) (.seq (.block 1 (.seq (.reg true [.V 14 (.mv (.t 0)),.V 15 (.mv (.t 7)),.V 16 (.ia 1 (.t 14) (.t 15)),.V 17 (.ld none (.t 16)),.V 18 (.mv (.t 1)),.V 19 (.mv (.t 2)),.V 20 (.call (.c (.fn 1 [])) [.t 17,.t 18,.t 19]),.V 21 (.un .not (.t 20)),.V 22 (.mv (.t 21)),.G 23 (.mv (.t 7)) 8 false,.G 24 (.bin .gtr (.t 23) (.c (.int .i64 0))) 8 false,.G 25 (.mv (.t 24)) 8 false,.G 26 (.mv (.t 0)) 11 true,.G 27 (.mv (.t 7)) 11 true,.G 28 (.bin .sub (.t 27) (.c (.int .i64 1))) 11 true,.G 29 (.ia 1 (.t 26) (.t 28)) 11 true,.G 30 (.ld none (.t 29)) 11 true,.G 31 (.mv (.t 0)) 11 true,.G 32 (.mv (.t 7)) 11 true,.G 33 (.ia 1 (.t 31) (.t 32)) 11 true,.G 34 (.ld none (.t 33)) 11 true,.G 35 (.bin .geq (.t 30) (.t 34)) 11 true,.G 36 (.pick (.t 25) (.t 35) (.c (.bool false))) 8 false,.V 37 (.pick (.t 22) (.c (.bool true)) (.t 36))] [0,1,2,7,37] []) (.cond (.t 37) (.seq (.reg false [.V 6 (.asg (.c (.bool false)))] [6] []) .ret) .skip))) (.reg false [.V 12 (.mv (.t 7)),.V 13 (.bin .add (.t 12) (.c (.int .i64 1))),.V 7 (.asg (.t 13))] [0,1,2,7] []))
def spec_l00Rises_k1 : C :=
 .norm [0,1,2,7] [] spec_l00Rises_k0
def spec_l00Rises_k2 : C :=
 .seq (.reg false [.V 6 (.asg (.c (.bool true)))] [6] []) .ret
def spec_l00Rises_ir : Fn := { np := 3,io := [],res := [.t 6],own := [false],body :=
 (.seq (.reg false [.V 6 (.asg (.c (.bool false)))] [0,1,2] []) (.seq (.seq (.reg false [.V 7 (.asg (.c (.int .i64 0)))] [0,1,2,7] []) (.block 0 (.loop spec_l00Rises_k1))) spec_l00Rises_k2)) }
noncomputable def spec_l00Rises_D : List (Nat × Callee) := [(1,spec_l00In_c)]
def spec_l00Rises_H : List (Nat × ET) := [(9,(.one (.int .i64))),(14,(.one (.int .i64))),(26,(.one (.int .i64))),(31,(.one (.int .i64)))]
noncomputable def spec_l00Rises_c : Callee := mkCallee spec_l00Rises_D spec_l00Rises_H spec_l00Rises_ir [.d (.one (.sl (.one (.int .i64)))),.d (.one (.int .i64)),.d (.one (.int .i64))] [.d (.one .bool)] []
noncomputable def spec_l00Rises (a0 : List Int) (a1 : Int) (a2 : Int) : Option (Bool) := spec_l00Rises_c.f (a0,a1,a2,())
noncomputable def spec_l00Rises_p0  (v0 : List Int) (v1 : Int) (v2 : Int) (v7 : Int) : Option (Bool) :=
 goL spec_l00Rises_D spec_l00Rises_H (vleave spec_l00Rises_ir [.d (.one (.sl (.one (.int .i64)))),.d (.one (.int .i64)),.d (.one (.int .i64))] [.d (.one .bool)] [] []) [.c spec_l00Rises_k0,.l spec_l00Rises_k1,.e 0,.c spec_l00Rises_k2]
  ⟨[(0,.sl (.one (.int .i64)) v0),(1,.int .i64 v1),(2,.int .i64 v2),(7,.int .i64 v7)],[]⟩
theorem spec_l00Rises_eq (a0 : List Int) (a1 : Int) (a2 : Int) : spec_l00Rises a0 a1 a2 =
 spec_l00Rises_p0 a0 a1 a2 0 :=
 (mk_f _ _ _ _ _ _ _ 4000).trans (by kernel_rfl)
theorem spec_l00Rises_p0_eq  (v0 : List Int) (v1 : Int) (v2 : Int) (v7 : Int) : spec_l00Rises_p0 v0 v1 v2 v7 =
 if decide (v7 < (v0.length : Int)) then
  if decide (0 ≤ v7) then
   (v0[v7.toNat]?).bind fun x1 =>
    (spec_l00In x1 v1 v2).bind fun x2 =>
     if (!x2) then
      some false
     else
      if decide (v7 > 0) then
       if decide (0 ≤ IntKind.i64.wrap (v7 - 1)) then
        (v0[(IntKind.i64.wrap (v7 - 1)).toNat]?).bind fun x3 =>
         if decide (0 ≤ v7) then
          (v0[v7.toNat]?).bind fun x4 =>
           if decide (x3 ≥ x4) then
            some false
           else
            spec_l00Rises_p0 v0 v1 v2 (IntKind.i64.wrap (v7 + 1))
         else
          none
       else
        none
      else
       spec_l00Rises_p0 v0 v1 v2 (IntKind.i64.wrap (v7 + 1))
  else
   none
 else
  some true :=
 (goL_dn _ _ _ 4000 _ _).trans (by kernel_rfl)
def spec_l17One_ir : Fn := { np := 1,io := [],res := [.t 2],own := [false],body :=
 (.seq (.reg false [.V 2 (.asg (.c (.bool false)))] [0] []) (.seq (.reg false [.V 3 (.mv (.t 0)),.V 4 (.nilck (.t 3)),.V 5 (.fa 0 (.t 4)),.V 6 (.ld none (.t 5)),.V 7 (.call (.c (.fn 13 [])) [.t 6]),.V 8 (.mv (.t 7)),.G 9 (.mv (.t 0)) 5 true,.G 10 (.nilck (.t 9)) 5 true,.G 11 (.fa 1 (.t 10)) 5 true,.G 12 (.ld none (.t 11)) 5 true,.G 13 (.call (.c (.fn 1 [])) [.t 12,.c (.int .i64 1),.c (.int .i64 200)]) 5 true,.V 14 (.pick (.t 8) (.t 13) (.c (.bool false))),.V 15 (.mv (.t 14)),.G 16 (.mv (.t 0)) 12 true,.G 17 (.nilck (.t 16)) 12 true,.G 18 (.fa 2 (.t 17)) 12 true,.G 19 (.ld none (.t 18)) 12 true,.G 20 (.call (.c (.fn 1 [])) [.t 19,.c (.int .i64 0),.c (.int .i64 20)]) 12 true,.V 21 (.pick (.t 15) (.t 20) (.c (.bool false))),.V 22 (.mv (.t 21)),.G 23 (.mv (.t 0)) 19 true,.G 24 (.nilck (.t 23)) 19 true,.G 25 (.fa 3 (.t 24)) 19 true,.G 26 (.ld none (.t 25)) 19 true,.G 27 (.call (.c (.fn 804 [])) [.t 26,.c (.int .i64 0),.c (.int .i64 11)]) 19 true,.V 28 (.pick (.t 22) (.t 27) (.c (.bool false))),.V 2 (.asg (.t 28))] [2] []) .ret)) }
noncomputable def spec_l17One_D : List (Nat × Callee) := [(1,spec_l00In_c),(13,spec_l01Name_c),(804,spec_l00Rises_c)]
def spec_l17One_H : List (Nat × ET) := [(26,(.one (.int .i64)))]
noncomputable def spec_l17One_c : Callee := mkCallee spec_l17One_D spec_l17One_H spec_l17One_ir [.p T_Step] [.d (.one .bool)] []
noncomputable def spec_l17One (a0 : T_Step.ty) : Option (Bool) := spec_l17One_c.f (a0,())
theorem spec_l17One_eq (a0 : T_Step.ty) : spec_l17One a0 =
 (spec_l01Name a0.1).bind fun x1 =>
  if x1 then
   (spec_l00In a0.2.1 1 200).bind fun x2 =>
    if x2 then
     (spec_l00In a0.2.2.1 0 20).bind fun x3 =>
      if x3 then
       (spec_l00Rises a0.2.2.2.1 0 11).bind fun x4 =>
        some x4
      else
       some false
    else
     some false
  else
   some false :=
 (mk_f _ _ _ _ _ _ _ 4000).trans (by kernel_rfl)
def spec_l17Ok_k0 : C :=
 .seq (.seq (.reg false [.V 28 (.mv (.t 5)),.V 29 (.mv (.t 3)),.V 30 (.bin .lss (.t 28) (.t 29))] [0,3,4,5,30] []) (.cond (.t 30) .skip (.exit 2))) (.seq (.block 3 (.seq (.reg true [.V 33 (.mv (.t 0)),.V 34 (.mv (.t 5)),.V 35 (.ia 4 (.t 33) (.t 34)),.V 36 (.fa 0 (.t 35)),.V 37 (.ld none (.t 36)),.V 38 (.mv (.t 4)),.V 39 (.nilck (.t 38)),.V 40 (.fa 0 (.t 39)),.V 41 (.ld none (.t 40)),.V 42 (.bin .eql (.t 37) (.t 41))] [0,3,4,5,42] []) (.cond (.t 42) (.seq (.reg false [.V 2 (.asg (.c (.bool false)))] [2] []) .ret) .skip))) (.reg false [.V 31 (.mv (.t 5)),.V 32 (.bin .add (.t 31) (.c (.int .i64 1))),.V 5 (.asg (.t 32))] [0,3,4,5] []))
def spec_l17Ok_k1 : C :=
 .norm [0,3,4,5] [] spec_l17Ok_k0
def spec_l17Ok_k2 : C :=
 .seq (.reg false [.V 5 (.asg (.c (.int .i64 0)))] [0,3,4,5] []) (.block 2 (.loop spec_l17Ok_k1))
def spec_l17Ok_k3 : C :=
 .reg false [.V 10 (.mv (.t 3)),.V 11 (.bin .add (.t 10) (.c (.int .i64 1))),.V 3 (.asg (.t 11))] [0,3] []
def spec_l17Ok_k4 : C :=
 .seq (.seq (.reg false [.V 6 (.mv (.t 3)),.V 7 (.mv (.t 0)),.V 8 (.len (.t 7)),.V 9 (.bin .lss (.t 6) (.t 8))] [0,3,9] []) (.cond (.t 9) .skip (.exit 0))) (.seq (.block 1 (.seq (.reg false [.V 12 (.mv (.t 0)),.V 13 (.mv (.t 3)),.V 14 (.ia 4 (.t 12) (.t 13)),.V 4 (.asg (.t 14))] [0,3,4] []) (.seq (.seq (.reg false [.V 15 (.mv (.t 4)),.V 16 (.call (.c (.fn 846 [])) [.t 15]),.V 17 (.un .not (.t 16)),.V 18 (.mv (.t 17)),.G 19 (.mv (.t 4)) 3 false,.G 20 (.nilck (.t 19)) 3 false,.G 21 (.fa 3 (.t 20)) 3 false,.G 22 (.ld none (.t 21)) 3 false,.G 23 (.mv (.t 3)) 3 false,.G 24 (.bin .sub (.t 23) (.c (.int .i64 1))) 3 false,.G 25 (.call (.c (.fn 804 [])) [.t 22,.c (.int .i64 0),.t 24]) 3 false,.G 26 (.un .not (.t 25)) 3 false,.V 27 (.pick (.t 18) (.c (.bool true)) (.t 26))] [0,3,4,27] []) (.cond (.t 27) (.seq (.reg false [.V 2 (.asg (.c (.bool false)))] [2] []) .ret) .skip)) (.norm [0,3,4] [] spec_l17Ok_k2)))) spec_l17Ok_k3)
def spec_l17Ok_k5 : C :=
 .norm [0,3] [] spec_l17Ok_k4
def spec_l17Ok_k6 : C :=
 .seq (.reg false [.V 43 (.mv (.t 0)),.V 44 (.len (.t 43)),.V 45 (.bin .leq (.t 44) (.c (.int .i64 12))),.V 2 (.asg (.t 45))] [2] []) .ret
def spec_l17Ok_ir : Fn := { np := 1,io := [],res := [.t 2],own := [false],body :=
 (.seq (.reg false [.V 2 (.asg (.c (.bool false)))] [0] []) (.seq (.seq (.reg false [.V 3 (.asg (.c (.int .i64 0)))] [0,3] []) (.block 0 (.loop spec_l17Ok_k5))) spec_l17Ok_k6)) }
noncomputable def spec_l17Ok_D : List (Nat × Callee) := [(804,spec_l00Rises_c),(846,spec_l17One_c)]
def spec_l17Ok_H : List (Nat × ET) := [(7,T_Step),(12,T_Step),(22,(.one (.int .i64))),(33,T_Step),(43,T_Step)]
noncomputable def spec_l17Ok_c : Callee := mkCallee spec_l17Ok_D spec_l17Ok_H spec_l17Ok_ir [.d (.one (.sl T_Step))] [.d (.one .bool)] []
noncomputable def spec_l17Ok (a0 : List T_Step.ty) : Option (Bool) := spec_l17Ok_c.f (a0,())
noncomputable def spec_l17Ok_p0  (v0 : List T_Step.ty) (v3 : Int) : Option (Bool) :=
 goL spec_l17Ok_D spec_l17Ok_H (vleave spec_l17Ok_ir [.d (.one (.sl T_Step))] [.d (.one .bool)] [] []) [.c spec_l17Ok_k4,.l spec_l17Ok_k5,.e 0,.c spec_l17Ok_k6]
  ⟨[(0,.sl T_Step v0),(3,.int .i64 v3)],[]⟩
noncomputable def spec_l17Ok_p1  (v0 : List T_Step.ty) (v3 : Int) (v4_0 : List UInt8) (v4_1 : Int) (v4_2 : Int) (v4_3 : List Int) : Option (Bool) :=
 goL spec_l17Ok_D spec_l17Ok_H (vleave spec_l17Ok_ir [.d (.one (.sl T_Step))] [.d (.one .bool)] [] []) [.c spec_l17Ok_k2,.e 1,.c spec_l17Ok_k3,.l spec_l17Ok_k5,.e 0,.c spec_l17Ok_k6]
  ⟨[(0,.sl T_Step v0),(3,.int .i64 v3),(4,.ptr [.str v4_0,.int .i64 v4_1,.int .i64 v4_2,.sl (.one (.int .i64)) v4_3] 0)],[]⟩
noncomputable def spec_l17Ok_p2  (v0 : List T_Step.ty) (v3 : Int) (v4_0 : List UInt8) (v4_1 : Int) (v4_2 : Int) (v4_3 : List Int) (v5 : Int) : Option (Bool) :=
 goL spec_l17Ok_D spec_l17Ok_H (vleave spec_l17Ok_ir [.d (.one (.sl T_Step))] [.d (.one .bool)] [] []) [.c spec_l17Ok_k0,.l spec_l17Ok_k1,.e 2,.e 1,.c spec_l17Ok_k3,.l spec_l17Ok_k5,.e 0,.c spec_l17Ok_k6]
  ⟨[(0,.sl T_Step v0),(3,.int .i64 v3),(4,.ptr [.str v4_0,.int .i64 v4_1,.int .i64 v4_2,.sl (.one (.int .i64)) v4_3] 0),(5,.int .i64 v5)],[]⟩
theorem spec_l17Ok_eq (a0 : List T_Step.ty) : spec_l17Ok a0 =
 spec_l17Ok_p0 a0 0 :=
 (mk_f _ _ _ _ _ _ _ 4000).trans (by kernel_rfl)
theorem spec_l17Ok_p0_eq  (v0 : List T_Step.ty) (v3 : Int) : spec_l17Ok_p0 v0 v3 =
 if decide (v3 < (v0.length : Int)) then
  if decide (0 ≤ v3) then
   (v0[v3.toNat]?).bind fun x1 =>
    (spec_l17One x1).bind fun x2 =>
     if (!x2) then
      some false
     else
      (spec_l00Rises x1.2.2.2.1 0 (IntKind.i64.wrap (v3 - 1))).bind fun x3 =>
       if (!x3) then
        some false
       else
        spec_l17Ok_p1 v0 v3 x1.1 x1.2.1 x1.2.2.1 x1.2.2.2.1
  else
   none
 else
  some (decide ((v0.length : Int) ≤ 12)) :=
 (goL_dn _ _ _ 4000 _ _).trans (by kernel_rfl)
theorem spec_l17Ok_p1_eq  (v0 : List T_Step.ty) (v3 : Int) (v4_0 : List UInt8) (v4_1 : Int) (v4_2 : Int) (v4_3 : List Int) : spec_l17Ok_p1 v0 v3 v4_0 v4_1 v4_2 v4_3 =
 spec_l17Ok_p2 v0 v3 v4_0 v4_1 v4_2 v4_3 0 :=
 (goL_dn _ _ _ 4000 _ _).trans (by kernel_rfl)
theorem spec_l17Ok_p2_eq  (v0 : List T_Step.ty) (v3 : Int) (v4_0 : List UInt8) (v4_1 : Int) (v4_2 : Int) (v4_3 : List Int) (v5 : Int) : spec_l17Ok_p2 v0 v3 v4_0 v4_1 v4_2 v4_3 v5 =
 if decide (v5 < v3) then
  if decide (0 ≤ v5) then
   (v0[v5.toNat]?).bind fun x1 =>
    if (x1.1 == v4_0) then
     some false
    else
     spec_l17Ok_p2 v0 v3 v4_0 v4_1 v4_2 v4_3 (IntKind.i64.wrap (v5 + 1))
  else
   none
 else
  spec_l17Ok_p0 v0 (IntKind.i64.wrap (v3 + 1)) :=
 (goL_dn _ _ _ 4000 _ _).trans (by kernel_rfl)
def spec_l17Starts_k0 : C :=
 .seq (.seq (.reg false [.V 6 (.mv (.t 5)),.V 7 (.mv (.t 1)),.V 8 (.len (.t 7)),.V 9 (.bin .lss (.t 6) (.t 8))] [0,1,5,9] []) (.cond (.t 9) .skip (.exit 0))) (.seq (.block 1 (.seq (.reg false [.V 12 (.mv (.t 1)),.V 13 (.mv (.t 5)),.V 14 (.ia 1 (.t 12) (.t 13)),.V 15 (.ld none (.t 14)),.V 16 (.call (.c (.fn 1 [])) [.t 15,.c (.int .i64 0),.c (.int .i64 2400)]),.V 17 (.un .not (.t 16))] [0,1,5,17] []) (.cond (.t 17) (.seq (.reg false [.V 4 (.asg (.c (.bool false)))] [4] []) .ret) .skip))) (.reg false [.V 10 (.mv (.t 5)),.V 11 (.bin .add (.t 10) (.c (.int .i64 1))),.V 5 (.asg (.t 11))] [0,1,5] []))
def spec_l17Starts_k1 : C :=
 .norm [0,1,5] [] spec_l17Starts_k0
def spec_l17Starts_k2 : C :=
 .seq (.reg false [.V 18 (.mv (.t 1)),.V 19 (.len (.t 18)),.V 20 (.mv (.t 0)),.V 21 (.len (.t 20)),.V 22 (.bin .eql (.t 19) (.t 21)),.V 4 (.asg (.t 22))] [4] []) .ret
def spec_l17Starts_ir : Fn := { np := 2,io := [],res := [.t 4],own := [false],body :=
 (.seq (.reg false [.V 4 (.asg (.c (.bool false)))] [0,1] []) (.seq (.seq (.reg false [.V 5 (.asg (.c (.int .i64 0)))] [0,1,5] []) (.block 0 (.loop spec_l17Starts_k1))) spec_l17Starts_k2)) }
noncomputable def spec_l17Starts_D : List (Nat × Callee) := [(1,spec_l00In_c)]
def spec_l17Starts_H : List (Nat × ET) := [(7,(.one (.int .i64))),(12,(.one (.int .i64))),(18,(.one (.int .i64))),(20,T_Step)]
noncomputable def spec_l17Starts_c : Callee := mkCallee spec_l17Starts_D spec_l17Starts_H spec_l17Starts_ir [.d (.one (.sl T_Step)),.d (.one (.sl (.one (.int .i64))))] [.d (.one .bool)] []
noncomputable def spec_l17Starts (a0 : List T_Step.ty) (a1 : List Int) : Option (Bool) := spec_l17Starts_c.f (a0,a1,())
noncomputable def spec_l17Starts_p0  (v0 : List T_Step.ty) (v1 : List Int) (v5 : Int) : Option (Bool) :=
 goL spec_l17Starts_D spec_l17Starts_H (vleave spec_l17Starts_ir [.d (.one (.sl T_Step)),.d (.one (.sl (.one (.int .i64))))] [.d (.one .bool)] [] []) [.c spec_l17Starts_k0,.l spec_l17Starts_k1,.e 0,.c spec_l17Starts_k2]
  ⟨[(0,.sl T_Step v0),(1,.sl (.one (.int .i64)) v1),(5,.int .i64 v5)],[]⟩
theorem spec_l17Starts_eq (a0 : List T_Step.ty) (a1 : List Int) : spec_l17Starts a0 a1 =
 spec_l17Starts_p0 a0 a1 0 :=
 (mk_f _ _ _ _ _ _ _ 4000).trans (by kernel_rfl)
theorem spec_l17Starts_p0_eq  (v0 : List T_Step.ty) (v1 : List Int) (v5 : Int) : spec_l17Starts_p0 v0 v1 v5 =
 if decide (v5 < (v1.length : Int)) then
  if decide (0 ≤ v5) then
   (v1[v5.toNat]?).bind fun x1 =>
    (spec_l00In x1 0 2400).bind fun x2 =>
     if (!x2) then
      some false
     else
      spec_l17Starts_p0 v0 v1 (IntKind.i64.wrap (v5 + 1))
  else
   none
 else
  some ((v1.length : Int) == (v0.length : Int)) :=
 (goL_dn _ _ _ 4000 _ _).trans (by kernel_rfl)
def spec_l21Day_ir : Fn := { np := 1,io := [],res := [.t 2],own := [false],body :=
 (.seq (.reg false [.V 2 (.asg (.c (.bool false)))] [0] []) (.seq (.reg false [.V 3 (.mv (.t 0)),.V 4 (.call (.c (.fn 1 [])) [.t 3,.c (.int .i64 0),.c (.int .i64 100000)]),.V 2 (.asg (.t 4))] [2] []) .ret)) }
noncomputable def spec_l21Day_D : List (Nat × Callee) := [(1,spec_l00In_c)]
def spec_l21Day_H : List (Nat × ET) := []
noncomputable def spec_l21Day_c : Callee := mkCallee spec_l21Day_D spec_l21Day_H spec_l21Day_ir [.d (.one (.int .i64))] [.d (.one .bool)] []
noncomputable def spec_l21Day (a0 : Int) : Option (Bool) := spec_l21Day_c.f (a0,())
theorem spec_l21Day_eq (a0 : Int) : spec_l21Day a0 =
 (spec_l00In a0 0 100000).bind fun x1 =>
  some x1 :=
 (mk_f _ _ _ _ _ _ _ 4000).trans (by kernel_rfl)
def spec_l21Money_ir : Fn := { np := 1,io := [],res := [.t 2],own := [false],body :=
 (.seq (.reg false [.V 2 (.asg (.c (.bool false)))] [0] []) (.seq (.reg false [.V 3 (.mv (.t 0)),.V 4 (.call (.c (.fn 1 [])) [.t 3,.c (.int .i64 0),.c (.int .i64 10000000)]),.V 2 (.asg (.t 4))] [2] []) .ret)) }
noncomputable def spec_l21Money_D : List (Nat × Callee) := [(1,spec_l00In_c)]
def spec_l21Money_H : List (Nat × ET) := []
noncomputable def spec_l21Money_c : Callee := mkCallee spec_l21Money_D spec_l21Money_H spec_l21Money_ir [.d (.one (.int .i64))] [.d (.one .bool)] []
noncomputable def spec_l21Money (a0 : Int) : Option (Bool) := spec_l21Money_c.f (a0,())
theorem spec_l21Money_eq (a0 : Int) : spec_l21Money a0 =
 (spec_l00In a0 0 10000000).bind fun x1 =>
  some x1 :=
 (mk_f _ _ _ _ _ _ _ 4000).trans (by kernel_rfl)
def spec_l21One_ir : Fn := { np := 1,io := [],res := [.t 2],own := [false],body :=
 (.seq (.reg false [.V 2 (.asg (.c (.bool false)))] [0] []) (.seq (.reg false [.V 3 (.mv (.t 0)),.V 4 (.nilck (.t 3)),.V 5 (.fa 0 (.t 4)),.V 6 (.ld none (.t 5)),.V 7 (.call (.c (.fn 13 [])) [.t 6]),.V 8 (.mv (.t 7)),.G 9 (.mv (.t 0)) 5 true,.G 10 (.nilck (.t 9)) 5 true,.G 11 (.fa 1 (.t 10)) 5 true,.G 12 (.ld none (.t 11)) 5 true,.G 13 (.call (.c (.fn 13 [])) [.t 12]) 5 true,.V 14 (.pick (.t 8) (.t 13) (.c (.bool false))),.V 15 (.mv (.t 14)),.G 16 (.mv (.t 0)) 12 true,.G 17 (.nilck (.t 16)) 12 true,.G 18 (.fa 2 (.t 17)) 12 true,.G 19 (.ld none (.t 18)) 12 true,.G 20 (.call (.c (.fn 993 [])) [.t 19]) 12 true,.V 21 (.pick (.t 15) (.t 20) (.c (.bool false))),.V 22 (.mv (.t 21)),.G 23 (.mv (.t 0)) 19 true,.G 24 (.nilck (.t 23)) 19 true,.G 25 (.fa 3 (.t 24)) 19 true,.G 26 (.ld none (.t 25)) 19 true,.G 27 (.call (.c (.fn 1 [])) [.t 26,.c (.int .i64 1),.c (.int .i64 120)]) 19 true,.V 28 (.pick (.t 22) (.t 27) (.c (.bool false))),.V 29 (.mv (.t 28)),.G 30 (.mv (.t 0)) 26 true,.G 31 (.nilck (.t 30)) 26 true,.G 32 (.fa 4 (.t 31)) 26 true,.G 33 (.ld none (.t 32)) 26 true,.G 34 (.call (.c (.fn 994 [])) [.t 33]) 26 true,.V 35 (.pick (.t 29) (.t 34) (.c (.bool false))),.V 2 (.asg (.t 35))] [2] []) .ret)) }
noncomputable def spec_l21One_D : List (Nat × Callee) := [(1,spec_l00In_c),(13,spec_l01Name_c),(993,spec_l21Day_c),(994,spec_l21Money_c)]
def spec_l21One_H : List (Nat × ET) := []
noncomputable def spec_l21One_c : Callee := mkCallee spec_l21One_D spec_l21One_H spec_l21One_ir [.p T_Paper] [.d (.one .bool)] []
noncomputable def spec_l21One (a0 : T_Paper.ty) : Option (Bool) := spec_l21One_c.f (a0,())
theorem spec_l21One_eq (a0 : T_Paper.ty) : spec_l21One a0 =
 (spec_l01Name a0.1).bind fun x1 =>
  if x1 then
   (spec_l01Name a0.2.1).bind fun x2 =>
    if x2 then
     (spec_l21Day a0.2.2.1).bind fun x3 =>
      if x3 then
       (spec_l00In a0.2.2.2.1 1 120).bind fun x4 =>
        if x4 then
         (spec_l21Money a0.2.2.2.2.1).bind fun x5 =>
          some x5
        else
         some false
      else
       some false
    else
     some false
  else
   some false :=
 (mk_f _ _ _ _ _ _ _ 4000).trans (by kernel_rfl)
def spec_l21Ok_k0 : C :=
 .seq (.seq (.reg false [.V 4 (.mv (.t 3)),.V 5 (.mv (.t 0)),.V 6 (.len (.t 5)),.V 7 (.bin .lss (.t 4) (.t 6))] [0,3,7] []) (.cond (.t 7) .skip (.exit 0))) (.seq (.block 1 (.seq (.reg true [.V 10 (.mv (.t 0)),.V 11 (.mv (.t 3)),.V 12 (.ia 5 (.t 10) (.t 11)),.V 13 (.call (.c (.fn 834 [])) [.t 12]),.V 14 (.un .not (.t 13)),.V 15 (.mv (.t 14)),.G 16 (.mv (.t 3)) 5 false,.G 17 (.bin .gtr (.t 16) (.c (.int .i64 0))) 5 false,.G 18 (.mv (.t 17)) 5 false,.G 19 (.mv (.t 0)) 8 true,.G 20 (.mv (.t 3)) 8 true,.G 21 (.bin .sub (.t 20) (.c (.int .i64 1))) 8 true,.G 22 (.ia 5 (.t 19) (.t 21)) 8 true,.G 23 (.fa 0 (.t 22)) 8 true,.G 24 (.ld none (.t 23)) 8 true,.G 25 (.mv (.t 0)) 8 true,.G 26 (.mv (.t 3)) 8 true,.G 27 (.ia 5 (.t 25) (.t 26)) 8 true,.G 28 (.fa 0 (.t 27)) 8 true,.G 29 (.ld none (.t 28)) 8 true,.G 30 (.bin .geq (.t 24) (.t 29)) 8 true,.G 31 (.pick (.t 18) (.t 30) (.c (.bool false))) 5 false,.V 32 (.pick (.t 15) (.c (.bool true)) (.t 31))] [0,3,32] []) (.cond (.t 32) (.seq (.reg false [.V 2 (.asg (.c (.bool false)))] [2] []) .ret) .skip))) (.reg false [.V 8 (.mv (.t 3)),.V 9 (.bin .add (.t 8) (.c (.int .i64 1))),.V 3 (.asg (.t 9))] [0,3] []))
def spec_l21Ok_k1 : C :=
 .norm [0,3] [] spec_l21Ok_k0
def spec_l21Ok_k2 : C :=
 .seq (.reg false [.V 33 (.mv (.t 0)),.V 34 (.len (.t 33)),.V 35 (.bin .leq (.t 34) (.c (.int .i64 12))),.V 2 (.asg (.t 35))] [2] []) .ret
def spec_l21Ok_ir : Fn := { np := 1,io := [],res := [.t 2],own := [false],body :=
 (.seq (.reg false [.V 2 (.asg (.c (.bool false)))] [0] []) (.seq (.seq (.reg false [.V 3 (.asg (.c (.int .i64 0)))] [0,3] []) (.block 0 (.loop spec_l21Ok_k1))) spec_l21Ok_k2)) }
noncomputable def spec_l21Ok_D : List (Nat × Callee) := [(834,spec_l21One_c)]
def spec_l21Ok_H : List (Nat × ET) := [(5,T_Paper),(10,T_Paper),(19,T_Paper),(25,T_Paper),(33,T_Paper)]
noncomputable def spec_l21Ok_c : Callee := mkCallee spec_l21Ok_D spec_l21Ok_H spec_l21Ok_ir [.d (.one (.sl T_Paper))] [.d (.one .bool)] []
noncomputable def spec_l21Ok (a0 : List T_Paper.ty) : Option (Bool) := spec_l21Ok_c.f (a0,())
noncomputable def spec_l21Ok_p0  (v0 : List T_Paper.ty) (v3 : Int) : Option (Bool) :=
 goL spec_l21Ok_D spec_l21Ok_H (vleave spec_l21Ok_ir [.d (.one (.sl T_Paper))] [.d (.one .bool)] [] []) [.c spec_l21Ok_k0,.l spec_l21Ok_k1,.e 0,.c spec_l21Ok_k2]
  ⟨[(0,.sl T_Paper v0),(3,.int .i64 v3)],[]⟩
theorem spec_l21Ok_eq (a0 : List T_Paper.ty) : spec_l21Ok a0 =
 spec_l21Ok_p0 a0 0 :=
 (mk_f _ _ _ _ _ _ _ 4000).trans (by kernel_rfl)
theorem spec_l21Ok_p0_eq  (v0 : List T_Paper.ty) (v3 : Int) : spec_l21Ok_p0 v0 v3 =
 if decide (v3 < (v0.length : Int)) then
  if decide (0 ≤ v3) then
   (v0[v3.toNat]?).bind fun x1 =>
    (spec_l21One x1).bind fun x2 =>
     if (!x2) then
      some false
     else
      if decide (v3 > 0) then
       if decide (0 ≤ IntKind.i64.wrap (v3 - 1)) then
        (v0[(IntKind.i64.wrap (v3 - 1)).toNat]?).bind fun x3 =>
         if decide (0 ≤ v3) then
          (v0[v3.toNat]?).bind fun x4 =>
           if (!Op.bytesLess x3.1 x4.1) then
            some false
           else
            spec_l21Ok_p0 v0 (IntKind.i64.wrap (v3 + 1))
         else
          none
       else
        none
      else
       spec_l21Ok_p0 v0 (IntKind.i64.wrap (v3 + 1))
  else
   none
 else
  some (decide ((v0.length : Int) ≤ 12)) :=
 (goL_dn _ _ _ 4000 _ _).trans (by kernel_rfl)
def spec_l25One_ir : Fn := { np := 1,io := [],res := [.t 2],own := [false],body :=
 (.seq (.reg false [.V 2 (.asg (.c (.bool false)))] [0] []) (.seq (.reg true [.V 3 (.mv (.t 0)),.V 4 (.nilck (.t 3)),.V 5 (.fa 0 (.t 4)),.V 6 (.ld none (.t 5)),.V 7 (.call (.c (.fn 993 [])) [.t 6]),.V 8 (.mv (.t 7)),.G 9 (.mv (.t 0)) 5 true,.G 10 (.nilck (.t 9)) 5 true,.G 11 (.fa 1 (.t 10)) 5 true,.G 12 (.ld none (.t 11)) 5 true,.G 13 (.call (.c (.fn 13 [])) [.t 12]) 5 true,.V 14 (.pick (.t 8) (.t 13) (.c (.bool false))),.V 15 (.mv (.t 14)),.G 16 (.mv (.t 0)) 12 true,.G 17 (.nilck (.t 16)) 12 true,.G 18 (.fa 2 (.t 17)) 12 true,.G 19 (.ld none (.t 18)) 12 true,.G 20 (.call (.c (.fn 13 [])) [.t 19]) 12 true,.V 21 (.pick (.t 15) (.t 20) (.c (.bool false))),.V 22 (.mv (.t 21)),.G 23 (.mv (.t 0)) 19 true,.G 24 (.nilck (.t 23)) 19 true,.G 25 (.fa 1 (.t 24)) 19 true,.G 26 (.ld none (.t 25)) 19 true,.G 27 (.mv (.t 0)) 19 true,.G 28 (.nilck (.t 27)) 19 true,.G 29 (.fa 2 (.t 28)) 19 true,.G 30 (.ld none (.t 29)) 19 true,.G 31 (.bin .neq (.t 26) (.t 30)) 19 true,.V 32 (.pick (.t 22) (.t 31) (.c (.bool false))),.V 33 (.mv (.t 32)),.G 34 (.mv (.t 0)) 30 true,.G 35 (.nilck (.t 34)) 30 true,.G 36 (.fa 3 (.t 35)) 30 true,.G 37 (.ld none (.t 36)) 30 true,.G 38 (.call (.c (.fn 1 [])) [.t 37,.c (.int .i64 1),.c (.int .i64 10000000)]) 30 true,.V 39 (.pick (.t 33) (.t 38) (.c (.bool false))),.V 2 (.asg (.t 39))] [2] []) .ret)) }
noncomputable def spec_l25One_D : List (Nat × Callee) := [(1,spec_l00In_c),(13,spec_l01Name_c),(993,spec_l21Day_c)]
def spec_l25One_H : List (Nat × ET) := []
noncomputable def spec_l25One_c : Callee := mkCallee spec_l25One_D spec_l25One_H spec_l25One_ir [.p T_Entry] [.d (.one .bool)] []
noncomputable def spec_l25One (a0 : T_Entry.ty) : Option (Bool) := spec_l25One_c.f (a0,())
theorem spec_l25One_eq (a0 : T_Entry.ty) : spec_l25One a0 =
 (spec_l21Day a0.1).bind fun x1 =>
  if x1 then
   (spec_l01Name a0.2.1).bind fun x2 =>
    if x2 then
     (spec_l01Name a0.2.2.1).bind fun x3 =>
      if x3 then
       if (!(a0.2.1 == a0.2.2.1)) then
        (spec_l00In a0.2.2.2.1 1 10000000).bind fun x4 =>
         some x4
       else
        some false
      else
       some false
    else
     some false
  else
   some false :=
 (mk_f _ _ _ _ _ _ _ 4000).trans (by kernel_rfl)
def spec_l25Ok_k0 : C :=
 .seq (.seq (.reg false [.V 4 (.mv (.t 3)),.V 5 (.mv (.t 0)),.V 6 (.len (.t 5)),.V 7 (.bin .lss (.t 4) (.t 6))] [0,3,7] []) (.cond (.t 7) .skip (.exit 0))) (.seq (.block 1 (.seq (.reg true [.V 10 (.mv (.t 0)),.V 11 (.mv (.t 3)),.V 12 (.ia 4 (.t 10) (.t 11)),.V 13 (.call (.c (.fn 1028 [])) [.t 12]),.V 14 (.un .not (.t 13)),.V 15 (.mv (.t 14)),.G 16 (.mv (.t 3)) 5 false,.G 17 (.bin .gtr (.t 16) (.c (.int .i64 0))) 5 false,.G 18 (.mv (.t 17)) 5 false,.G 19 (.mv (.t 0)) 8 true,.G 20 (.mv (.t 3)) 8 true,.G 21 (.bin .sub (.t 20) (.c (.int .i64 1))) 8 true,.G 22 (.ia 4 (.t 19) (.t 21)) 8 true,.G 23 (.fa 0 (.t 22)) 8 true,.G 24 (.ld none (.t 23)) 8 true,.G 25 (.mv (.t 0)) 8 true,.G 26 (.mv (.t 3)) 8 true,.G 27 (.ia 4 (.t 25) (.t 26)) 8 true,.G 28 (.fa 0 (.t 27)) 8 true,.G 29 (.ld none (.t 28)) 8 true,.G 30 (.bin .gtr (.t 24) (.t 29)) 8 true,.G 31 (.pick (.t 18) (.t 30) (.c (.bool false))) 5 false,.V 32 (.pick (.t 15) (.c (.bool true)) (.t 31))] [0,3,32] []) (.cond (.t 32) (.seq (.reg false [.V 2 (.asg (.c (.bool false)))] [2] []) .ret) .skip))) (.reg false [.V 8 (.mv (.t 3)),.V 9 (.bin .add (.t 8) (.c (.int .i64 1))),.V 3 (.asg (.t 9))] [0,3] []))
def spec_l25Ok_k1 : C :=
 .norm [0,3] [] spec_l25Ok_k0
def spec_l25Ok_k2 : C :=
 .seq (.reg false [.V 33 (.mv (.t 0)),.V 34 (.len (.t 33)),.V 35 (.bin .leq (.t 34) (.c (.int .i64 32))),.V 2 (.asg (.t 35))] [2] []) .ret
def spec_l25Ok_ir : Fn := { np := 1,io := [],res := [.t 2],own := [false],body :=
 (.seq (.reg false [.V 2 (.asg (.c (.bool false)))] [0] []) (.seq (.seq (.reg false [.V 3 (.asg (.c (.int .i64 0)))] [0,3] []) (.block 0 (.loop spec_l25Ok_k1))) spec_l25Ok_k2)) }
noncomputable def spec_l25Ok_D : List (Nat × Callee) := [(1028,spec_l25One_c)]
def spec_l25Ok_H : List (Nat × ET) := [(5,T_Entry),(10,T_Entry),(19,T_Entry),(25,T_Entry),(33,T_Entry)]
noncomputable def spec_l25Ok_c : Callee := mkCallee spec_l25Ok_D spec_l25Ok_H spec_l25Ok_ir [.d (.one (.sl T_Entry))] [.d (.one .bool)] []
noncomputable def spec_l25Ok (a0 : List T_Entry.ty) : Option (Bool) := spec_l25Ok_c.f (a0,())
noncomputable def spec_l25Ok_p0  (v0 : List T_Entry.ty) (v3 : Int) : Option (Bool) :=
 goL spec_l25Ok_D spec_l25Ok_H (vleave spec_l25Ok_ir [.d (.one (.sl T_Entry))] [.d (.one .bool)] [] []) [.c spec_l25Ok_k0,.l spec_l25Ok_k1,.e 0,.c spec_l25Ok_k2]
  ⟨[(0,.sl T_Entry v0),(3,.int .i64 v3)],[]⟩
theorem spec_l25Ok_eq (a0 : List T_Entry.ty) : spec_l25Ok a0 =
 spec_l25Ok_p0 a0 0 :=
 (mk_f _ _ _ _ _ _ _ 4000).trans (by kernel_rfl)
theorem spec_l25Ok_p0_eq  (v0 : List T_Entry.ty) (v3 : Int) : spec_l25Ok_p0 v0 v3 =
 if decide (v3 < (v0.length : Int)) then
  if decide (0 ≤ v3) then
   (v0[v3.toNat]?).bind fun x1 =>
    (spec_l25One x1).bind fun x2 =>
     if (!x2) then
      some false
     else
      if decide (v3 > 0) then
       if decide (0 ≤ IntKind.i64.wrap (v3 - 1)) then
        (v0[(IntKind.i64.wrap (v3 - 1)).toNat]?).bind fun x3 =>
         if decide (0 ≤ v3) then
          (v0[v3.toNat]?).bind fun x4 =>
           if decide (x3.1 > x4.1) then
            some false
           else
            spec_l25Ok_p0 v0 (IntKind.i64.wrap (v3 + 1))
         else
          none
       else
        none
      else
       spec_l25Ok_p0 v0 (IntKind.i64.wrap (v3 + 1))
  else
   none
 else
  some (decide ((v0.length : Int) ≤ 32)) :=
 (goL_dn _ _ _ 4000 _ _).trans (by kernel_rfl)
def spec_l31Ok_k0 : C :=
 .seq (.reg false [.V 45 (.mv (.t 0)),.V 46 (.nilck (.t 45)),.V 47 (.fa 5 (.t 46)),.V 48 (.ld none (.t 47)),.V 49 (.call (.c (.fn 1 [])) [.t 48,.c (.int .i64 0),.c (.int .i64 240)]),.V 50 (.mv (.t 49)),.G 51 (.mv (.t 0)) 5 true,.G 52 (.nilck (.t 51)) 5 true,.G 53 (.fa 6 (.t 52)) 5 true,.G 54 (.ld none (.t 53)) 5 true,.G 55 (.call (.c (.fn 722 [])) [.t 54]) 5 true,.V 56 (.pick (.t 50) (.t 55) (.c (.bool false))),.V 57 (.mv (.t 56)),.G 58 (.mv (.t 0)) 12 true,.G 59 (.nilck (.t 58)) 12 true,.G 60 (.fa 7 (.t 59)) 12 true,.G 61 (.ld none (.t 60)) 12 true,.G 62 (.call (.c (.fn 888 [])) [.t 61]) 12 true,.V 63 (.pick (.t 57) (.t 62) (.c (.bool false))),.V 2 (.asg (.t 63))] [2] []) .ret
def spec_l31Ok_ir : Fn := { np := 1,io := [],res := [.t 2],own := [false],body :=
 (.seq (.reg false [.V 2 (.asg (.c (.bool false)))] [0] []) (.seq (.seq (.reg true [.V 3 (.mv (.t 0)),.V 4 (.nilck (.t 3)),.V 5 (.fa 0 (.t 4)),.V 6 (.ld none (.t 5)),.V 7 (.call (.c (.fn 889 [])) [.t 6]),.V 8 (.un .not (.t 7)),.V 9 (.mv (.t 8)),.G 10 (.mv (.t 0)) 6 false,.G 11 (.nilck (.t 10)) 6 false,.G 12 (.fa 1 (.t 11)) 6 false,.G 13 (.ld none (.t 12)) 6 false,.G 14 (.call (.c (.fn 890 [])) [.t 13]) 6 false,.G 15 (.un .not (.t 14)) 6 false,.V 16 (.pick (.t 9) (.c (.bool true)) (.t 15)),.V 17 (.mv (.t 16)),.G 18 (.mv (.t 0)) 14 false,.G 19 (.nilck (.t 18)) 14 false,.G 20 (.fa 2 (.t 19)) 14 false,.G 21 (.ld none (.t 20)) 14 false,.G 22 (.call (.c (.fn 891 [])) [.t 21]) 14 false,.G 23 (.un .not (.t 22)) 14 false,.V 24 (.pick (.t 17) (.c (.bool true)) (.t 23)),.V 25 (.mv (.t 24)),.G 26 (.mv (.t 0)) 22 false,.G 27 (.nilck (.t 26)) 22 false,.G 28 (.fa 3 (.t 27)) 22 false,.G 29 (.ld none (.t 28)) 22 false,.G 30 (.call (.c (.fn 462 [])) [.t 29]) 22 false,.G 31 (.un .not (.t 30)) 22 false,.V 32 (.pick (.t 25) (.c (.bool true)) (.t 31)),.V 33 (.mv (.t 32)),.G 34 (.mv (.t 0)) 30 false,.G 35 (.nilck (.t 34)) 30 false,.G 36 (.fa 3 (.t 35)) 30 false,.G 37 (.ld none (.t 36)) 30 false,.G 38 (.mv (.t 0)) 30 false,.G 39 (.nilck (.t 38)) 30 false,.G 40 (.fa 4 (.t 39)) 30 false,.G 41 (.ld none (.t 40)) 30 false,.G 42 (.call (.c (.fn 537 [])) [.t 37,.t 41]) 30 false,.G 43 (.un .not (.t 42)) 30 false,.V 44 (.pick (.t 33) (.c (.bool true)) (.t 43))] [0,44] []) (.cond (.t 44) (.seq (.reg false [.V 2 (.asg (.c (.bool false)))] [2] []) .ret) .skip)) (.norm [0] [] spec_l31Ok_k0))) }
noncomputable def spec_l31Ok_D : List (Nat × Callee) := [(1,spec_l00In_c),(462,spec_l17Ok_c),(537,spec_l17Starts_c),(722,spec_l21Ok_c),(888,spec_l25Ok_c),(889,spec_l05Ok_c),(890,spec_l09List_c),(891,spec_l09Share_c)]
def spec_l31Ok_H : List (Nat × ET) := [(6,T_Arc),(13,T_Neck),(29,T_Step),(37,T_Step),(41,(.one (.int .i64))),(54,T_Paper),(61,T_Entry)]
noncomputable def spec_l31Ok_c : Callee := mkCallee spec_l31Ok_D spec_l31Ok_H spec_l31Ok_ir [.p T_Shop] [.d (.one .bool)] []
noncomputable def spec_l31Ok (a0 : T_Shop.ty) : Option (Bool) := spec_l31Ok_c.f (a0,())
noncomputable def spec_l31Ok_p0  (v0_0 : List T_Arc.ty) (v0_1 : List T_Neck.ty) (v0_2 : Int) (v0_3 : List T_Step.ty) (v0_4 : List Int) (v0_5 : Int) (v0_6 : List T_Paper.ty) (v0_7 : List T_Entry.ty) : Option (Bool) :=
 goL spec_l31Ok_D spec_l31Ok_H (vleave spec_l31Ok_ir [.p T_Shop] [.d (.one .bool)] [] []) [.c spec_l31Ok_k0]
  ⟨[(0,.ptr [.sl T_Arc v0_0,.sl T_Neck v0_1,.int .i64 v0_2,.sl T_Step v0_3,.sl (.one (.int .i64)) v0_4,.int .i64 v0_5,.sl T_Paper v0_6,.sl T_Entry v0_7] 0)],[]⟩
theorem spec_l31Ok_eq (a0 : T_Shop.ty) : spec_l31Ok a0 =
 (spec_l05Ok a0.1).bind fun x1 =>
  if (!x1) then
   some false
  else
   (spec_l09List a0.2.1).bind fun x2 =>
    if (!x2) then
     some false
    else
     (spec_l09Share a0.2.2.1).bind fun x3 =>
      if (!x3) then
       some false
      else
       (spec_l17Ok a0.2.2.2.1).bind fun x4 =>
        if (!x4) then
         some false
        else
         (spec_l17Starts a0.2.2.2.1 a0.2.2.2.2.1).bind fun x5 =>
          if (!x5) then
           some false
          else
           spec_l31Ok_p0 a0.1 a0.2.1 a0.2.2.1 a0.2.2.2.1 a0.2.2.2.2.1 a0.2.2.2.2.2.1 a0.2.2.2.2.2.2.1 a0.2.2.2.2.2.2.2.1 :=
 (mk_f _ _ _ _ _ _ _ 4000).trans (by kernel_rfl)
theorem spec_l31Ok_p0_eq  (v0_0 : List T_Arc.ty) (v0_1 : List T_Neck.ty) (v0_2 : Int) (v0_3 : List T_Step.ty) (v0_4 : List Int) (v0_5 : Int) (v0_6 : List T_Paper.ty) (v0_7 : List T_Entry.ty) : spec_l31Ok_p0 v0_0 v0_1 v0_2 v0_3 v0_4 v0_5 v0_6 v0_7 =
 (spec_l00In v0_5 0 240).bind fun x1 =>
  if x1 then
   (spec_l21Ok v0_6).bind fun x2 =>
    if x2 then
     (spec_l25Ok v0_7).bind fun x3 =>
      some x3
    else
     some false
  else
   some false :=
 (goL_dn _ _ _ 4000 _ _).trans (by kernel_rfl)
def spec_ValidShop_ir : Fn := { np := 1,io := [],res := [.t 2],own := [false],body :=
 (.seq (.reg false [.W 1 (.box 8 (.t 0)),.V 2 (.asg (.c (.bool false)))] [1] [1,2000,2001,2003,2004,2006,2007]) (.seq (.reg false [.V 3 (.call (.c (.fn 602 [])) [.t 1]),.V 2 (.asg (.t 3))] [2] []) .ret)) }
noncomputable def spec_ValidShop_D : List (Nat × Callee) := [(602,spec_l31Ok_c)]
def spec_ValidShop_H : List (Nat × ET) := []
noncomputable def spec_ValidShop_c : Callee := mkCallee spec_ValidShop_D spec_ValidShop_H spec_ValidShop_ir [.d T_Shop] [.d (.one .bool)] []
noncomputable def spec_ValidShop (a0 : T_Shop.ty) : Option (Bool) := spec_ValidShop_c.f (a0,())
theorem spec_ValidShop_eq (a0 : T_Shop.ty) : spec_ValidShop a0 =
 (spec_l31Ok a0).bind fun x1 =>
  some x1 :=
 (mk_f _ _ _ _ _ _ _ 4000).trans (by kernel_rfl)
def impl_within_ir : Fn := { np := 3,io := [],res := [.t 6],own := [false],body :=
 (.seq (.reg false [.V 6 (.asg (.c (.bool false)))] [0,1,2] []) (.seq (.reg false [.V 7 (.mv (.t 1)),.V 8 (.mv (.t 0)),.V 9 (.bin .leq (.t 7) (.t 8)),.V 10 (.mv (.t 9)),.G 11 (.mv (.t 0)) 3 true,.G 12 (.mv (.t 2)) 3 true,.G 13 (.bin .leq (.t 11) (.t 12)) 3 true,.V 14 (.pick (.t 10) (.t 13) (.c (.bool false))),.V 6 (.asg (.t 14))] [6] []) .ret)) }
noncomputable def impl_within_D : List (Nat × Callee) := []
def impl_within_H : List (Nat × ET) := []
noncomputable def impl_within_c : Callee := mkCallee impl_within_D impl_within_H impl_within_ir [.d (.one (.int .i64)),.d (.one (.int .i64)),.d (.one (.int .i64))] [.d (.one .bool)] []
noncomputable def impl_within (a0 : Int) (a1 : Int) (a2 : Int) : Option (Bool) := impl_within_c.f (a0,a1,a2,())
theorem impl_within_eq (a0 : Int) (a1 : Int) (a2 : Int) : impl_within a0 a1 a2 =
 if decide (a1 ≤ a0) then
  some (decide (a0 ≤ a2))
 else
  some false :=
 (mk_f _ _ _ _ _ _ _ 4000).trans (by kernel_rfl)
def impl_isCoord_ir : Fn := { np := 1,io := [],res := [.t 2],own := [false],body :=
 (.seq (.reg false [.V 2 (.asg (.c (.bool false)))] [0] []) (.seq (.reg false [.V 3 (.mv (.t 0)),.V 4 (.call (.c (.fn 23 [])) [.t 3,.c (.int .i64 (-100000)),.c (.int .i64 100000)]),.V 2 (.asg (.t 4))] [2] []) .ret)) }
noncomputable def impl_isCoord_D : List (Nat × Callee) := [(23,impl_within_c)]
def impl_isCoord_H : List (Nat × ET) := []
noncomputable def impl_isCoord_c : Callee := mkCallee impl_isCoord_D impl_isCoord_H impl_isCoord_ir [.d (.one (.int .i64))] [.d (.one .bool)] []
noncomputable def impl_isCoord (a0 : Int) : Option (Bool) := impl_isCoord_c.f (a0,())
theorem impl_isCoord_eq (a0 : Int) : impl_isCoord a0 =
 (impl_within a0 (-100000) 100000).bind fun x1 =>
  some x1 :=
 (mk_f _ _ _ _ _ _ _ 4000).trans (by kernel_rfl)
def impl_Point_valid_ir : Fn := { np := 1,io := [],res := [.t 2],own := [false],body :=
 (.seq (.reg false [.W 1 (.box 2 (.t 0)),.V 2 (.asg (.c (.bool false)))] [1] [1]) (.seq (.reg false [.V 3 (.fa 0 (.t 1)),.V 4 (.ld none (.t 3)),.V 5 (.call (.c (.fn 1126 [])) [.t 4]),.V 6 (.mv (.t 5)),.G 7 (.fa 1 (.t 1)) 3 true,.G 8 (.ld none (.t 7)) 3 true,.G 9 (.call (.c (.fn 1126 [])) [.t 8]) 3 true,.V 10 (.pick (.t 6) (.t 9) (.c (.bool false))),.V 2 (.asg (.t 10))] [2] []) .ret)) }
noncomputable def impl_Point_valid_D : List (Nat × Callee) := [(1126,impl_isCoord_c)]
def impl_Point_valid_H : List (Nat × ET) := []
noncomputable def impl_Point_valid_c : Callee := mkCallee impl_Point_valid_D impl_Point_valid_H impl_Point_valid_ir [.d T_Point] [.d (.one .bool)] []
noncomputable def impl_Point_valid (a0 : T_Point.ty) : Option (Bool) := impl_Point_valid_c.f (a0,())
theorem impl_Point_valid_eq (a0 : T_Point.ty) : impl_Point_valid a0 =
 (impl_isCoord a0.1).bind fun x1 =>
  if x1 then
   (impl_isCoord a0.2.1).bind fun x2 =>
    some x2
  else
   some false :=
 (mk_f _ _ _ _ _ _ _ 4000).trans (by kernel_rfl)
def impl_squared_ir : Fn := { np := 2,io := [],res := [.t 4],own := [false],body :=
 (.seq (.reg false [.W 2 (.box 2 (.t 0)),.W 3 (.box 2 (.t 1)),.V 4 (.asg (.c (.int .i64 0)))] [2,3] [2,3]) (.seq (.reg false [.V 5 (.fa 0 (.t 2)),.V 6 (.ld none (.t 5)),.V 7 (.fa 0 (.t 3)),.V 8 (.ld none (.t 7)),.V 9 (.bin .sub (.t 6) (.t 8)),.V 10 (.fa 0 (.t 2)),.V 11 (.ld none (.t 10)),.V 12 (.fa 0 (.t 3)),.V 13 (.ld none (.t 12)),.V 14 (.bin .sub (.t 11) (.t 13)),.V 15 (.bin .mul (.t 9) (.t 14)),.V 16 (.fa 1 (.t 2)),.V 17 (.ld none (.t 16)),.V 18 (.fa 1 (.t 3)),.V 19 (.ld none (.t 18)),.V 20 (.bin .sub (.t 17) (.t 19)),.V 21 (.fa 1 (.t 2)),.V 22 (.ld none (.t 21)),.V 23 (.fa 1 (.t 3)),.V 24 (.ld none (.t 23)),.V 25 (.bin .sub (.t 22) (.t 24)),.V 26 (.bin .mul (.t 20) (.t 25)),.V 27 (.bin .add (.t 15) (.t 26)),.V 4 (.asg (.t 27))] [4] []) .ret)) }
noncomputable def impl_squared_D : List (Nat × Callee) := []
def impl_squared_H : List (Nat × ET) := []
noncomputable def impl_squared_c : Callee := mkCallee impl_squared_D impl_squared_H impl_squared_ir [.d T_Point,.d T_Point] [.d (.one (.int .i64))] []
noncomputable def impl_squared (a0 : T_Point.ty) (a1 : T_Point.ty) : Option (Int) := impl_squared_c.f (a0,a1,())
theorem impl_squared_eq (a0 : T_Point.ty) (a1 : T_Point.ty) : impl_squared a0 a1 =
 some (IntKind.i64.wrap ((IntKind.i64.wrap ((IntKind.i64.wrap (a0.1 - a1.1)) * (IntKind.i64.wrap (a0.1 - a1.1)))) + (IntKind.i64.wrap ((IntKind.i64.wrap (a0.2.1 - a1.2.1)) * (IntKind.i64.wrap (a0.2.1 - a1.2.1)))))) :=
 (mk_f _ _ _ _ _ _ _ 4000).trans (by kernel_rfl)
def impl_ValidArc_ir : Fn := { np := 1,io := [],res := [.t 2],own := [false],body :=
 (.seq (.reg false [.W 1 (.box 6 (.t 0)),.V 2 (.asg (.c (.bool false)))] [1] [1]) (.seq (.reg true [.V 3 (.fa 0 (.t 1)),.V 4 (.ld (some 2) (.t 3)),.V 5 (.call (.c (.fn 1030 [])) [.t 4]),.V 6 (.mv (.t 5)),.G 7 (.fa 2 (.t 1)) 3 true,.G 8 (.ld (some 2) (.t 7)) 3 true,.G 9 (.call (.c (.fn 1030 [])) [.t 8]) 3 true,.V 10 (.pick (.t 6) (.t 9) (.c (.bool false))),.V 11 (.mv (.t 10)),.G 12 (.fa 4 (.t 1)) 8 true,.G 13 (.ld (some 2) (.t 12)) 8 true,.G 14 (.call (.c (.fn 1030 [])) [.t 13]) 8 true,.V 15 (.pick (.t 11) (.t 14) (.c (.bool false))),.V 16 (.mv (.t 15)),.G 17 (.fa 2 (.t 1)) 13 true,.G 18 (.ld (some 2) (.t 17)) 13 true,.G 19 (.fa 4 (.t 1)) 13 true,.G 20 (.ld (some 2) (.t 19)) 13 true,.G 21 (.eqs true [.i,.i] (.t 18) (.t 20)) 13 true,.V 22 (.pick (.t 16) (.t 21) (.c (.bool false))),.V 23 (.mv (.t 22)),.G 24 (.fa 0 (.t 1)) 20 true,.G 25 (.ld (some 2) (.t 24)) 20 true,.G 26 (.fa 2 (.t 1)) 20 true,.G 27 (.ld (some 2) (.t 26)) 20 true,.G 28 (.call (.c (.fn 1031 [])) [.t 25,.t 27]) 20 true,.G 29 (.fa 0 (.t 1)) 20 true,.G 30 (.ld (some 2) (.t 29)) 20 true,.G 31 (.fa 4 (.t 1)) 20 true,.G 32 (.ld (some 2) (.t 31)) 20 true,.G 33 (.call (.c (.fn 1031 [])) [.t 30,.t 32]) 20 true,.G 34 (.bin .eql (.t 28) (.t 33)) 20 true,.V 35 (.pick (.t 23) (.t 34) (.c (.bool false))),.V 2 (.asg (.t 35))] [2] []) .ret)) }
noncomputable def impl_ValidArc_D : List (Nat × Callee) := [(1030,impl_Point_valid_c),(1031,impl_squared_c)]
def impl_ValidArc_H : List (Nat × ET) := []
noncomputable def impl_ValidArc_c : Callee := mkCallee impl_ValidArc_D impl_ValidArc_H impl_ValidArc_ir [.d T_Arc] [.d (.one .bool)] []
noncomputable def impl_ValidArc (a0 : T_Arc.ty) : Option (Bool) := impl_ValidArc_c.f (a0,())
theorem impl_ValidArc_eq (a0 : T_Arc.ty) : impl_ValidArc a0 =
 (impl_Point_valid (a0.1,a0.2.1,())).bind fun x1 =>
  if x1 then
   (impl_Point_valid (a0.2.2.1,a0.2.2.2.1,())).bind fun x2 =>
    if x2 then
     (impl_Point_valid (a0.2.2.2.2.1,a0.2.2.2.2.2.1,())).bind fun x3 =>
      if x3 then
       if (!((a0.2.2.1 == a0.2.2.2.2.1) && (a0.2.2.2.1 == a0.2.2.2.2.2.1))) then
        (impl_squared (a0.1,a0.2.1,()) (a0.2.2.1,a0.2.2.2.1,())).bind fun x4 =>
         (impl_squared (a0.1,a0.2.1,()) (a0.2.2.2.2.1,a0.2.2.2.2.2.1,())).bind fun x5 =>
          some (x4 == x5)
       else
        some false
      else
       some false
    else
     some false
  else
   some false :=
 (mk_f _ _ _ _ _ _ _ 4000).trans (by kernel_rfl)
def impl_next_ir : Fn := { np := 2,io := [],res := [.cell 4 (some 6)],own := [false],body :=
 (.seq (.reg false [.W 4 (.alloc 6 (.agg [.int .i64 0,.int .i64 0,.int .i64 0,.int .i64 0,.int .i64 0,.int .i64 0]))] [0,1,4] [4]) (.seq (.reg false [.V 5 (.mv (.t 0)),.V 6 (.mv (.t 1)),.V 7 (.bin .add (.t 6) (.c (.int .i64 1))),.V 8 (.mv (.t 0)),.V 9 (.len (.t 8)),.V 10 (.bin .rem (.t 7) (.t 9)),.V 11 (.ia 6 (.t 5) (.t 10)),.V 12 (.ld (some 6) (.t 11)),⟨none,true,.sto 6 (.t 4) (.t 12),none,false,[]⟩] [4] [4]) .ret)) }
noncomputable def impl_next_D : List (Nat × Callee) := []
def impl_next_H : List (Nat × ET) := [(5,T_Arc),(8,T_Arc)]
noncomputable def impl_next_c : Callee := mkCallee impl_next_D impl_next_H impl_next_ir [.d (.one (.sl T_Arc)),.d (.one (.int .i64))] [.d T_Arc] []
noncomputable def impl_next (a0 : List T_Arc.ty) (a1 : Int) : Option (T_Arc.ty) := impl_next_c.f (a0,a1,())
theorem impl_next_eq (a0 : List T_Arc.ty) (a1 : Int) : impl_next a0 a1 =
 if decide ((a0.length : Int) = 0) then
  none
 else
  if decide (0 ≤ (IntKind.i64.wrap (a1 + 1)).tmod (a0.length : Int)) then
   (a0[((IntKind.i64.wrap (a1 + 1)).tmod (a0.length : Int)).toNat]?).bind fun x1 =>
    some x1
  else
   none :=
 (mk_f _ _ _ _ _ _ _ 4000).trans (by kernel_rfl)
def impl_ValidOutline_k0 : C :=
 .seq (.reg false [.V 8 (.bin .lss (.t 7) (.t 6))] [0,5,6,7,8] []) (.seq (.cond (.t 8) .skip (.exit 0)) (.seq (.block 1 (.seq (.reg false [.V 9 (.mv (.t 7)),.V 10 (.ia 6 (.t 5) (.t 7)),.V 11 (.ld (some 6) (.t 10)),.W 4 (.alloc 6 (.agg [.int .i64 0,.int .i64 0,.int .i64 0,.int .i64 0,.int .i64 0,.int .i64 0])),.V 3 (.asg (.t 9)),⟨none,true,.sto 6 (.t 4) (.t 11),none,false,[]⟩] [0,3,4,5,6,7] [4]) (.seq (.reg true [.V 12 (.ld (some 6) (.t 4)),.V 13 (.call (.c (.fn 897 [])) [.t 12]),.V 14 (.un .not (.t 13)),.V 15 (.mv (.t 14)),.G 16 (.mv (.t 0)) 3 false,.G 17 (.mv (.t 3)) 3 false,.G 18 (.call (.c (.fn 898 [])) [.t 16,.t 17]) 3 false,.G 19 (.fld 2 (some 2) (.t 18)) 3 false,.G 20 (.fa 4 (.t 4)) 3 false,.G 21 (.ld (some 2) (.t 20)) 3 false,.G 22 (.eqs true [.i,.i] (.t 19) (.t 21)) 3 false,.V 23 (.pick (.t 15) (.c (.bool true)) (.t 22))] [0,5,6,7,23] []) (.cond (.t 23) (.seq (.reg false [.V 2 (.asg (.c (.bool false)))] [2] []) .ret) .skip)))) (.reg false [.V 24 (.bin .add (.t 7) (.c (.int .i64 1))),.V 7 (.mv (.t 24))] [0,5,6,7] [])))
def impl_ValidOutline_k1 : C :=
 .norm [0,5,6,7] [] impl_ValidOutline_k0
def impl_ValidOutline_k2 : C :=
 .seq (.reg false [.V 25 (.mv (.t 0)),.V 26 (.len (.t 25)),.V 27 (.call (.c (.fn 23 [])) [.t 26,.c (.int .i64 2),.c (.int .i64 16)]),.V 2 (.asg (.t 27))] [2] []) .ret
def impl_ValidOutline_ir : Fn := { np := 1,io := [],res := [.t 2],own := [false],body :=
 (.seq (.reg false [.V 2 (.asg (.c (.bool false)))] [0] []) (.seq (.seq (.reg false [.V 5 (.mv (.t 0)),.V 6 (.len (.t 5)),.V 7 (.mv (.c (.int .i64 0)))] [0,5,6,7] []) (.block 0 (.loop impl_ValidOutline_k1))) impl_ValidOutline_k2)) }
noncomputable def impl_ValidOutline_D : List (Nat × Callee) := [(23,impl_within_c),(897,impl_ValidArc_c),(898,impl_next_c)]
def impl_ValidOutline_H : List (Nat × ET) := [(5,T_Arc),(16,T_Arc),(25,T_Arc)]
noncomputable def impl_ValidOutline_c : Callee := mkCallee impl_ValidOutline_D impl_ValidOutline_H impl_ValidOutline_ir [.d (.one (.sl T_Arc))] [.d (.one .bool)] []
noncomputable def impl_ValidOutline (a0 : List T_Arc.ty) : Option (Bool) := impl_ValidOutline_c.f (a0,())
noncomputable def impl_ValidOutline_p0  (v0 : List T_Arc.ty) (v5 : List T_Arc.ty) (v6 : Int) (v7 : Int) : Option (Bool) :=
 goL impl_ValidOutline_D impl_ValidOutline_H (vleave impl_ValidOutline_ir [.d (.one (.sl T_Arc))] [.d (.one .bool)] [] []) [.c impl_ValidOutline_k0,.l impl_ValidOutline_k1,.e 0,.c impl_ValidOutline_k2]
  ⟨[(0,.sl T_Arc v0),(5,.sl T_Arc v5),(6,.int .i64 v6),(7,.int .i64 v7)],[]⟩
theorem impl_ValidOutline_eq (a0 : List T_Arc.ty) : impl_ValidOutline a0 =
 impl_ValidOutline_p0 a0 a0 (a0.length : Int) 0 :=
 (mk_f _ _ _ _ _ _ _ 4000).trans (by kernel_rfl)
theorem impl_ValidOutline_p0_eq  (v0 : List T_Arc.ty) (v5 : List T_Arc.ty) (v6 : Int) (v7 : Int) : impl_ValidOutline_p0 v0 v5 v6 v7 =
 if decide (v7 < v6) then
  if decide (0 ≤ v7) then
   (v5[v7.toNat]?).bind fun x1 =>
    (impl_ValidArc x1).bind fun x2 =>
     if (!x2) then
      some false
     else
      (impl_next v0 v7).bind fun x3 =>
       if (!((x3.2.2.1 == x1.2.2.2.2.1) && (x3.2.2.2.1 == x1.2.2.2.2.2.1))) then
        some false
       else
        impl_ValidOutline_p0 v0 v5 v6 (IntKind.i64.wrap (v7 + 1))
  else
   none
 else
  (impl_within (v0.length : Int) 2 16).bind fun x4 =>
   some x4 :=
 (goL_dn _ _ _ 4000 _ _).trans (by kernel_rfl)
def impl_ValidString_ir : Fn := { np := 1,io := [],res := [.t 2],own := [false],body :=
 (.seq (.reg false [.W 1 (.box 4 (.t 0)),.V 2 (.asg (.c (.bool false)))] [1] [1]) (.seq (.reg false [.V 3 (.fa 0 (.t 1)),.V 4 (.ld none (.t 3)),.V 5 (.call (.c (.fn 23 [])) [.t 4,.c (.int .i64 1),.c (.int .i64 10000)]),.V 6 (.mv (.t 5)),.G 7 (.fa 1 (.t 1)) 3 true,.G 8 (.ld none (.t 7)) 3 true,.G 9 (.call (.c (.fn 23 [])) [.t 8,.c (.int .i64 1),.c (.int .i64 500)]) 3 true,.V 10 (.pick (.t 6) (.t 9) (.c (.bool false))),.V 11 (.mv (.t 10)),.G 12 (.fa 2 (.t 1)) 8 true,.G 13 (.ld none (.t 12)) 8 true,.G 14 (.call (.c (.fn 23 [])) [.t 13,.c (.int .i64 1),.c (.int .i64 10000)]) 8 true,.V 15 (.pick (.t 11) (.t 14) (.c (.bool false))),.V 16 (.mv (.t 15)),.G 17 (.fa 3 (.t 1)) 13 true,.G 18 (.ld none (.t 17)) 13 true,.G 19 (.call (.c (.fn 23 [])) [.t 18,.c (.int .i64 1),.c (.int .i64 500000)]) 13 true,.V 20 (.pick (.t 16) (.t 19) (.c (.bool false))),.V 2 (.asg (.t 20))] [2] []) .ret)) }
noncomputable def impl_ValidString_D : List (Nat × Callee) := [(23,impl_within_c)]
def impl_ValidString_H : List (Nat × ET) := []
noncomputable def impl_ValidString_c : Callee := mkCallee impl_ValidString_D impl_ValidString_H impl_ValidString_ir [.d T_Neck] [.d (.one .bool)] []
noncomputable def impl_ValidString (a0 : T_Neck.ty) : Option (Bool) := impl_ValidString_c.f (a0,())
theorem impl_ValidString_eq (a0 : T_Neck.ty) : impl_ValidString a0 =
 (impl_within a0.1 1 10000).bind fun x1 =>
  if x1 then
   (impl_within a0.2.1 1 500).bind fun x2 =>
    if x2 then
     (impl_within a0.2.2.1 1 10000).bind fun x3 =>
      if x3 then
       (impl_within a0.2.2.2.1 1 500000).bind fun x4 =>
        some x4
      else
       some false
    else
     some false
  else
   some false :=
 (mk_f _ _ _ _ _ _ _ 4000).trans (by kernel_rfl)
def impl_few_ir : Fn := { np := 2,io := [],res := [.t 4],own := [false],body :=
 (.seq (.reg false [.V 4 (.asg (.c (.bool false)))] [0,1] []) (.seq (.reg false [.V 5 (.mv (.t 0)),.V 6 (.mv (.t 1)),.V 7 (.bin .leq (.t 5) (.t 6)),.V 4 (.asg (.t 7))] [4] []) .ret)) }
noncomputable def impl_few_D : List (Nat × Callee) := []
def impl_few_H : List (Nat × ET) := []
noncomputable def impl_few_c : Callee := mkCallee impl_few_D impl_few_H impl_few_ir [.d (.one (.int .i64)),.d (.one (.int .i64))] [.d (.one .bool)] []
noncomputable def impl_few (a0 : Int) (a1 : Int) : Option (Bool) := impl_few_c.f (a0,a1,())
theorem impl_few_eq (a0 : Int) (a1 : Int) : impl_few a0 a1 =
 some (decide (a0 ≤ a1)) :=
 (mk_f _ _ _ _ _ _ _ 4000).trans (by kernel_rfl)
def impl_validCords_k0 : C :=
 .seq (.reg false [.V 8 (.bin .lss (.t 7) (.t 6))] [0,5,6,7,8] []) (.seq (.cond (.t 8) .skip (.exit 0)) (.seq (.block 1 (.seq (.reg false [.V 9 (.ia 4 (.t 5) (.t 7)),.V 10 (.ld (some 4) (.t 9)),.W 4 (.alloc 4 (.agg [.int .i64 0,.int .i64 0,.int .i64 0,.int .i64 0])),⟨none,true,.sto 4 (.t 4) (.t 10),none,false,[]⟩] [0,4,5,6,7] [4]) (.seq (.reg false [.V 11 (.ld (some 4) (.t 4)),.V 12 (.call (.c (.fn 899 [])) [.t 11]),.V 13 (.un .not (.t 12))] [0,5,6,7,13] []) (.cond (.t 13) (.seq (.reg false [.V 2 (.asg (.c (.bool false)))] [2] []) .ret) .skip)))) (.reg false [.V 14 (.bin .add (.t 7) (.c (.int .i64 1))),.V 7 (.mv (.t 14))] [0,5,6,7] [])))
def impl_validCords_k1 : C :=
 .norm [0,5,6,7] [] impl_validCords_k0
def impl_validCords_k2 : C :=
 .seq (.reg false [.V 15 (.mv (.t 0)),.V 16 (.len (.t 15)),.V 17 (.call (.c (.fn 21 [])) [.t 16,.c (.int .i64 4)]),.V 2 (.asg (.t 17))] [2] []) .ret
def impl_validCords_ir : Fn := { np := 1,io := [],res := [.t 2],own := [false],body :=
 (.seq (.reg false [.V 2 (.asg (.c (.bool false)))] [0] []) (.seq (.seq (.reg false [.V 5 (.mv (.t 0)),.V 6 (.len (.t 5)),.V 7 (.mv (.c (.int .i64 0)))] [0,5,6,7] []) (.block 0 (.loop impl_validCords_k1))) impl_validCords_k2)) }
noncomputable def impl_validCords_D : List (Nat × Callee) := [(21,impl_few_c),(899,impl_ValidString_c)]
def impl_validCords_H : List (Nat × ET) := [(5,T_Neck),(15,T_Neck)]
noncomputable def impl_validCords_c : Callee := mkCallee impl_validCords_D impl_validCords_H impl_validCords_ir [.d (.one (.sl T_Neck))] [.d (.one .bool)] []
noncomputable def impl_validCords (a0 : List T_Neck.ty) : Option (Bool) := impl_validCords_c.f (a0,())
noncomputable def impl_validCords_p0  (v0 : List T_Neck.ty) (v5 : List T_Neck.ty) (v6 : Int) (v7 : Int) : Option (Bool) :=
 goL impl_validCords_D impl_validCords_H (vleave impl_validCords_ir [.d (.one (.sl T_Neck))] [.d (.one .bool)] [] []) [.c impl_validCords_k0,.l impl_validCords_k1,.e 0,.c impl_validCords_k2]
  ⟨[(0,.sl T_Neck v0),(5,.sl T_Neck v5),(6,.int .i64 v6),(7,.int .i64 v7)],[]⟩
theorem impl_validCords_eq (a0 : List T_Neck.ty) : impl_validCords a0 =
 impl_validCords_p0 a0 a0 (a0.length : Int) 0 :=
 (mk_f _ _ _ _ _ _ _ 4000).trans (by kernel_rfl)
theorem impl_validCords_p0_eq  (v0 : List T_Neck.ty) (v5 : List T_Neck.ty) (v6 : Int) (v7 : Int) : impl_validCords_p0 v0 v5 v6 v7 =
 if decide (v7 < v6) then
  if decide (0 ≤ v7) then
   (v5[v7.toNat]?).bind fun x1 =>
    (impl_ValidString x1).bind fun x2 =>
     if (!x2) then
      some false
     else
      impl_validCords_p0 v0 v5 v6 (IntKind.i64.wrap (v7 + 1))
  else
   none
 else
  (impl_few (v0.length : Int) 4).bind fun x3 =>
   some x3 :=
 (goL_dn _ _ _ 4000 _ _).trans (by kernel_rfl)
def impl_isShare_ir : Fn := { np := 1,io := [],res := [.t 2],own := [false],body :=
 (.seq (.reg false [.V 2 (.asg (.c (.bool false)))] [0] []) (.seq (.reg false [.V 3 (.mv (.t 0)),.V 4 (.call (.c (.fn 23 [])) [.t 3,.c (.int .i64 0),.c (.int .i64 1000)]),.V 2 (.asg (.t 4))] [2] []) .ret)) }
noncomputable def impl_isShare_D : List (Nat × Callee) := [(23,impl_within_c)]
def impl_isShare_H : List (Nat × ET) := []
noncomputable def impl_isShare_c : Callee := mkCallee impl_isShare_D impl_isShare_H impl_isShare_ir [.d (.one (.int .i64))] [.d (.one .bool)] []
noncomputable def impl_isShare (a0 : Int) : Option (Bool) := impl_isShare_c.f (a0,())
theorem impl_isShare_eq (a0 : Int) : impl_isShare a0 =
 (impl_within a0 0 1000).bind fun x1 =>
  some x1 :=
 (mk_f _ _ _ _ _ _ _ 4000).trans (by kernel_rfl)
def impl_isDigit_ir : Fn := { np := 1,io := [],res := [.t 2],own := [false],body :=
 (.seq (.reg false [.V 2 (.asg (.c (.bool false)))] [0] []) (.seq (.reg false [.V 3 (.mv (.t 0)),.V 4 (.bin .geq (.t 3) (.c (.int .u8 48))),.V 5 (.mv (.t 4)),.G 6 (.mv (.t 0)) 2 true,.G 7 (.bin .leq (.t 6) (.c (.int .u8 57))) 2 true,.V 8 (.pick (.t 5) (.t 7) (.c (.bool false))),.V 2 (.asg (.t 8))] [2] []) .ret)) }
noncomputable def impl_isDigit_D : List (Nat × Callee) := []
def impl_isDigit_H : List (Nat × ET) := []
noncomputable def impl_isDigit_c : Callee := mkCallee impl_isDigit_D impl_isDigit_H impl_isDigit_ir [.d (.one (.int .u8))] [.d (.one .bool)] []
noncomputable def impl_isDigit (a0 : Int) : Option (Bool) := impl_isDigit_c.f (a0,())
theorem impl_isDigit_eq (a0 : Int) : impl_isDigit a0 =
 if decide (a0 ≥ 48) then
  some (decide (a0 ≤ 57))
 else
  some false :=
 (mk_f _ _ _ _ _ _ _ 4000).trans (by kernel_rfl)
def impl_IsName_k0 : C :=
 .seq (.reg false [.V 21 (.mv (.t 4)),.V 22 (.un .not (.t 21)),.V 23 (.mv (.t 22)),.G 24 (.mv (.t 3)) 2 true,.G 25 (.bin .eql (.t 24) (.c (.int .i64 0))) 2 true,.G 26 (.mv (.t 25)) 2 true,.G 27 (.mv (.t 0)) 5 false,.G 28 (.mv (.t 3)) 5 false,.G 29 (.ix (.t 27) (.t 28)) 5 false,.G 30 (.call (.c (.fn 22 [])) [.t 29]) 5 false,.G 31 (.un .not (.t 30)) 5 false,.G 32 (.pick (.t 26) (.c (.bool true)) (.t 31)) 2 true,.V 33 (.pick (.t 23) (.t 32) (.c (.bool false)))] [0,3,33] []) (.cond (.t 33) (.seq (.reg false [.V 2 (.asg (.c (.bool false)))] [2] []) .ret) .skip)
def impl_IsName_k1 : C :=
 .reg false [.V 9 (.mv (.t 3)),.V 10 (.bin .add (.t 9) (.c (.int .i64 1))),.V 3 (.asg (.t 10))] [0,3] []
def impl_IsName_k2 : C :=
 .seq (.seq (.reg false [.V 5 (.mv (.t 3)),.V 6 (.mv (.t 0)),.V 7 (.lens (.t 6)),.V 8 (.bin .lss (.t 5) (.t 7))] [0,3,8] []) (.cond (.t 8) .skip (.exit 0))) (.seq (.block 1 (.seq (.reg false [.V 11 (.mv (.t 0)),.V 12 (.mv (.t 3)),.V 13 (.ix (.t 11) (.t 12)),.V 14 (.bin .geq (.t 13) (.c (.int .u8 97))),.V 15 (.mv (.t 14)),.G 16 (.mv (.t 0)) 4 true,.G 17 (.mv (.t 3)) 4 true,.G 18 (.ix (.t 16) (.t 17)) 4 true,.G 19 (.bin .leq (.t 18) (.c (.int .u8 122))) 4 true,.V 20 (.pick (.t 15) (.t 19) (.c (.bool false))),.V 4 (.asg (.t 20))] [0,3,4] []) (.norm [0,3,4] [] impl_IsName_k0))) impl_IsName_k1)
def impl_IsName_k3 : C :=
 .norm [0,3] [] impl_IsName_k2
def impl_IsName_k4 : C :=
 .seq (.reg false [.V 34 (.mv (.t 0)),.V 35 (.bin .neq (.t 34) (.c (.str []))),.V 36 (.mv (.t 35)),.G 37 (.mv (.t 0)) 2 true,.G 38 (.lens (.t 37)) 2 true,.G 39 (.call (.c (.fn 21 [])) [.t 38,.c (.int .i64 10)]) 2 true,.V 40 (.pick (.t 36) (.t 39) (.c (.bool false))),.V 2 (.asg (.t 40))] [2] []) .ret
def impl_IsName_ir : Fn := { np := 1,io := [],res := [.t 2],own := [false],body :=
 (.seq (.reg false [.V 2 (.asg (.c (.bool false)))] [0] []) (.seq (.seq (.reg false [.V 3 (.asg (.c (.int .i64 0)))] [0,3] []) (.block 0 (.loop impl_IsName_k3))) impl_IsName_k4)) }
noncomputable def impl_IsName_D : List (Nat × Callee) := [(21,impl_few_c),(22,impl_isDigit_c)]
def impl_IsName_H : List (Nat × ET) := []
noncomputable def impl_IsName_c : Callee := mkCallee impl_IsName_D impl_IsName_H impl_IsName_ir [.d (.one .str)] [.d (.one .bool)] []
noncomputable def impl_IsName (a0 : List UInt8) : Option (Bool) := impl_IsName_c.f (a0,())
noncomputable def impl_IsName_p0  (v0 : List UInt8) (v3 : Int) : Option (Bool) :=
 goL impl_IsName_D impl_IsName_H (vleave impl_IsName_ir [.d (.one .str)] [.d (.one .bool)] [] []) [.c impl_IsName_k2,.l impl_IsName_k3,.e 0,.c impl_IsName_k4]
  ⟨[(0,.str v0),(3,.int .i64 v3)],[]⟩
noncomputable def impl_IsName_p1  (v0 : List UInt8) (v3 : Int) (v4 : Bool) : Option (Bool) :=
 goL impl_IsName_D impl_IsName_H (vleave impl_IsName_ir [.d (.one .str)] [.d (.one .bool)] [] []) [.c impl_IsName_k0,.e 1,.c impl_IsName_k1,.l impl_IsName_k3,.e 0,.c impl_IsName_k4]
  ⟨[(0,.str v0),(3,.int .i64 v3),(4,.bool v4)],[]⟩
theorem impl_IsName_eq (a0 : List UInt8) : impl_IsName a0 =
 impl_IsName_p0 a0 0 :=
 (mk_f _ _ _ _ _ _ _ 4000).trans (by kernel_rfl)
theorem impl_IsName_p0_eq  (v0 : List UInt8) (v3 : Int) : impl_IsName_p0 v0 v3 =
 if decide (v3 < (v0.length : Int)) then
  if decide (0 ≤ v3) then
   (v0[v3.toNat]?).bind fun x1 =>
    if decide ((x1.toNat : Int) ≥ 97) then
     if decide (0 ≤ v3) then
      (v0[v3.toNat]?).bind fun x2 =>
       impl_IsName_p1 v0 v3 (decide ((x2.toNat : Int) ≤ 122))
     else
      none
    else
     impl_IsName_p1 v0 v3 false
  else
   none
 else
  if (!(v0 == [])) then
   (impl_few (v0.length : Int) 10).bind fun x3 =>
    some x3
  else
   some false :=
 (goL_dn _ _ _ 4000 _ _).trans (by kernel_rfl)
theorem impl_IsName_p1_eq  (v0 : List UInt8) (v3 : Int) (v4 : Bool) : impl_IsName_p1 v0 v3 v4 =
 if (!v4) then
  if (v3 == 0) then
   some false
  else
   if decide (0 ≤ v3) then
    (v0[v3.toNat]?).bind fun x1 =>
     (impl_isDigit (x1.toNat : Int)).bind fun x2 =>
      if (!x2) then
       some false
      else
       impl_IsName_p0 v0 (IntKind.i64.wrap (v3 + 1))
   else
    none
 else
  impl_IsName_p0 v0 (IntKind.i64.wrap (v3 + 1)) :=
 (goL_dn _ _ _ 4000 _ _).trans (by kernel_rfl)
def impl_Step_valid_k0 : C :=
 .seq (.reg false [.V 9 (.bin .lss (.t 8) (.t 7))] [1,6,7,8,9] [1,2003]) (.seq (.cond (.t 9) .skip (.exit 0)) (.seq (.block 1 (.seq (.reg false [.V 10 (.mv (.t 8)),.V 11 (.ia 1 (.t 6) (.t 8)),.V 12 (.ld none (.t 11)),.V 3 (.asg (.t 10)),.V 4 (.asg (.t 12))] [1,3,4,6,7,8] [1,2003]) (.seq (.reg false [.V 13 (.mv (.t 4)),.V 14 (.call (.c (.fn 23 [])) [.t 13,.c (.int .i64 0),.c (.int .i64 11)]),.V 15 (.un .not (.t 14)),.V 16 (.mv (.t 15)),.G 17 (.mv (.t 3)) 3 false,.G 18 (.bin .gtr (.t 17) (.c (.int .i64 0))) 3 false,.G 19 (.mv (.t 18)) 3 false,.G 20 (.fa 3 (.t 1)) 6 true,.G 21 (.ld none (.t 20)) 6 true,.G 22 (.mv (.t 3)) 6 true,.G 23 (.bin .sub (.t 22) (.c (.int .i64 1))) 6 true,.G 24 (.ia 1 (.t 21) (.t 23)) 6 true,.G 25 (.ld none (.t 24)) 6 true,.G 26 (.mv (.t 4)) 6 true,.G 27 (.bin .geq (.t 25) (.t 26)) 6 true,.G 28 (.pick (.t 19) (.t 27) (.c (.bool false))) 3 false,.V 29 (.pick (.t 16) (.c (.bool true)) (.t 28))] [1,6,7,8,29] [1,2003]) (.cond (.t 29) (.seq (.reg false [.V 2 (.asg (.c (.bool false)))] [2] []) .ret) .skip)))) (.reg false [.V 30 (.bin .add (.t 8) (.c (.int .i64 1))),.V 8 (.mv (.t 30))] [1,6,7,8] [1,2003])))
def impl_Step_valid_k1 : C :=
 .norm [1,6,7,8] [1,2003] impl_Step_valid_k0
def impl_Step_valid_k2 : C :=
 .seq (.reg false [.V 31 (.fa 0 (.t 1)),.V 32 (.ld none (.t 31)),.V 33 (.call (.c (.fn 24 [])) [.t 32]),.V 34 (.mv (.t 33)),.G 35 (.fa 1 (.t 1)) 3 true,.G 36 (.ld none (.t 35)) 3 true,.G 37 (.call (.c (.fn 23 [])) [.t 36,.c (.int .i64 1),.c (.int .i64 200)]) 3 true,.V 38 (.pick (.t 34) (.t 37) (.c (.bool false))),.V 39 (.mv (.t 38)),.G 40 (.fa 2 (.t 1)) 8 true,.G 41 (.ld none (.t 40)) 8 true,.G 42 (.call (.c (.fn 23 [])) [.t 41,.c (.int .i64 0),.c (.int .i64 20)]) 8 true,.V 43 (.pick (.t 39) (.t 42) (.c (.bool false))),.V 2 (.asg (.t 43))] [2] []) .ret
def impl_Step_valid_ir : Fn := { np := 1,io := [],res := [.t 2],own := [false],body :=
 (.seq (.reg false [.W 1 (.box 4 (.t 0)),.V 2 (.asg (.c (.bool false)))] [1] [1,2003]) (.seq (.seq (.reg false [.V 5 (.fa 3 (.t 1)),.V 6 (.ld none (.t 5)),.V 7 (.len (.t 6)),.V 8 (.mv (.c (.int .i64 0)))] [1,6,7,8] [1,2003]) (.block 0 (.loop impl_Step_valid_k1))) impl_Step_valid_k2)) }
noncomputable def impl_Step_valid_D : List (Nat × Callee) := [(23,impl_within_c),(24,impl_IsName_c)]
def impl_Step_valid_H : List (Nat × ET) := [(6,(.one (.int .i64))),(21,(.one (.int .i64)))]
noncomputable def impl_Step_valid_c : Callee := mkCallee impl_Step_valid_D impl_Step_valid_H impl_Step_valid_ir [.d T_Step] [.d (.one .bool)] []
noncomputable def impl_Step_valid (a0 : T_Step.ty) : Option (Bool) := impl_Step_valid_c.f (a0,())
noncomputable def impl_Step_valid_p0  (v6 : List Int) (v7 : Int) (v8 : Int) (r1_0 : List UInt8) (r1_1 : Int) (r1_2 : Int) (r1_3 : List Int) : Option (Bool) :=
 goL impl_Step_valid_D impl_Step_valid_H (vleave impl_Step_valid_ir [.d T_Step] [.d (.one .bool)] [] []) [.c impl_Step_valid_k0,.l impl_Step_valid_k1,.e 0,.c impl_Step_valid_k2]
  ⟨[(1,.loc 1 0 0),(6,.sl (.one (.int .i64)) v6),(7,.int .i64 v7),(8,.int .i64 v8)],[(1,some (.var 4 (.agg [.str r1_0,.int .i64 r1_1,.int .i64 r1_2,.sl (.one (.int .i64)) r1_3]))),(2003,none)]⟩
theorem impl_Step_valid_eq (a0 : T_Step.ty) : impl_Step_valid a0 =
 impl_Step_valid_p0 a0.2.2.2.1 (a0.2.2.2.1.length : Int) 0 a0.1 a0.2.1 a0.2.2.1 a0.2.2.2.1 :=
 (mk_f _ _ _ _ _ _ _ 4000).trans (by kernel_rfl)
theorem impl_Step_valid_p0_eq  (v6 : List Int) (v7 : Int) (v8 : Int) (r1_0 : List UInt8) (r1_1 : Int) (r1_2 : Int) (r1_3 : List Int) : impl_Step_valid_p0 v6 v7 v8 r1_0 r1_1 r1_2 r1_3 =
 if decide (v8 < v7) then
  if decide (0 ≤ v8) then
   (v6[v8.toNat]?).bind fun x1 =>
    (impl_within x1 0 11).bind fun x2 =>
     if (!x2) then
      some false
     else
      if decide (v8 > 0) then
       if decide (0 ≤ IntKind.i64.wrap (v8 - 1)) then
        (r1_3[(IntKind.i64.wrap (v8 - 1)).toNat]?).bind fun x3 =>
         if decide (x3 ≥ x1) then
          some false
         else
          impl_Step_valid_p0 v6 v7 (IntKind.i64.wrap (v8 + 1)) r1_0 r1_1 r1_2 r1_3
       else
        none
      else
       impl_Step_valid_p0 v6 v7 (IntKind.i64.wrap (v8 + 1)) r1_0 r1_1 r1_2 r1_3
  else
   none
 else
  (impl_IsName r1_0).bind fun x4 =>
   if x4 then
    (impl_within r1_1 1 200).bind fun x5 =>
     if x5 then
      (impl_within r1_2 0 20).bind fun x6 =>
       some x6
     else
      some false
   else
    some false :=
 (goL_dn _ _ _ 4000 _ _).trans (by kernel_rfl)
noncomputable def impl_ValidSteps_c : Callee := validStepsC impl_Step_valid impl_few
noncomputable def impl_ValidSteps (a0 : List T_Step.ty) : Option (Bool) := impl_ValidSteps_c.f (a0,())
theorem impl_ValidSteps_eq (a0 : List T_Step.ty) : impl_ValidSteps a0 = vsF impl_Step_valid impl_few a0 := rfl
def impl_areStarts_k0 : C :=
 .seq (.reg false [.V 10 (.bin .lss (.t 9) (.t 8))] [0,1,7,8,9,10] []) (.seq (.cond (.t 10) .skip (.exit 0)) (.seq (.block 1 (.seq (.reg false [.V 11 (.ia 1 (.t 7) (.t 9)),.V 12 (.ld none (.t 11)),.V 6 (.asg (.t 12))] [0,1,6,7,8,9] []) (.seq (.reg false [.V 13 (.mv (.t 6)),.V 14 (.call (.c (.fn 23 [])) [.t 13,.c (.int .i64 0),.c (.int .i64 2400)]),.V 15 (.un .not (.t 14))] [0,1,7,8,9,15] []) (.cond (.t 15) (.seq (.reg false [.V 4 (.asg (.c (.bool false)))] [4] []) .ret) .skip)))) (.reg false [.V 16 (.bin .add (.t 9) (.c (.int .i64 1))),.V 9 (.mv (.t 16))] [0,1,7,8,9] [])))
def impl_areStarts_k1 : C :=
 .norm [0,1,7,8,9] [] impl_areStarts_k0
def impl_areStarts_k2 : C :=
 .seq (.reg false [.V 17 (.mv (.t 1)),.V 18 (.len (.t 17)),.V 19 (.mv (.t 0)),.V 20 (.len (.t 19)),.V 21 (.bin .eql (.t 18) (.t 20)),.V 4 (.asg (.t 21))] [4] []) .ret
def impl_areStarts_ir : Fn := { np := 2,io := [],res := [.t 4],own := [false],body :=
 (.seq (.reg false [.V 4 (.asg (.c (.bool false)))] [0,1] []) (.seq (.seq (.reg false [.V 7 (.mv (.t 1)),.V 8 (.len (.t 7)),.V 9 (.mv (.c (.int .i64 0)))] [0,1,7,8,9] []) (.block 0 (.loop impl_areStarts_k1))) impl_areStarts_k2)) }
noncomputable def impl_areStarts_D : List (Nat × Callee) := [(23,impl_within_c)]
def impl_areStarts_H : List (Nat × ET) := [(7,(.one (.int .i64))),(17,(.one (.int .i64))),(19,T_Step)]
noncomputable def impl_areStarts_c : Callee := mkCallee impl_areStarts_D impl_areStarts_H impl_areStarts_ir [.d (.one (.sl T_Step)),.d (.one (.sl (.one (.int .i64))))] [.d (.one .bool)] []
noncomputable def impl_areStarts (a0 : List T_Step.ty) (a1 : List Int) : Option (Bool) := impl_areStarts_c.f (a0,a1,())
noncomputable def impl_areStarts_p0  (v0 : List T_Step.ty) (v1 : List Int) (v7 : List Int) (v8 : Int) (v9 : Int) : Option (Bool) :=
 goL impl_areStarts_D impl_areStarts_H (vleave impl_areStarts_ir [.d (.one (.sl T_Step)),.d (.one (.sl (.one (.int .i64))))] [.d (.one .bool)] [] []) [.c impl_areStarts_k0,.l impl_areStarts_k1,.e 0,.c impl_areStarts_k2]
  ⟨[(0,.sl T_Step v0),(1,.sl (.one (.int .i64)) v1),(7,.sl (.one (.int .i64)) v7),(8,.int .i64 v8),(9,.int .i64 v9)],[]⟩
theorem impl_areStarts_eq (a0 : List T_Step.ty) (a1 : List Int) : impl_areStarts a0 a1 =
 impl_areStarts_p0 a0 a1 a1 (a1.length : Int) 0 :=
 (mk_f _ _ _ _ _ _ _ 4000).trans (by kernel_rfl)
theorem impl_areStarts_p0_eq  (v0 : List T_Step.ty) (v1 : List Int) (v7 : List Int) (v8 : Int) (v9 : Int) : impl_areStarts_p0 v0 v1 v7 v8 v9 =
 if decide (v9 < v8) then
  if decide (0 ≤ v9) then
   (v7[v9.toNat]?).bind fun x1 =>
    (impl_within x1 0 2400).bind fun x2 =>
     if (!x2) then
      some false
     else
      impl_areStarts_p0 v0 v1 v7 v8 (IntKind.i64.wrap (v9 + 1))
  else
   none
 else
  some ((v1.length : Int) == (v0.length : Int)) :=
 (goL_dn _ _ _ 4000 _ _).trans (by kernel_rfl)
def impl_isClamps_ir : Fn := { np := 1,io := [],res := [.t 2],own := [false],body :=
 (.seq (.reg false [.V 2 (.asg (.c (.bool false)))] [0] []) (.seq (.reg false [.V 3 (.mv (.t 0)),.V 4 (.call (.c (.fn 23 [])) [.t 3,.c (.int .i64 0),.c (.int .i64 240)]),.V 2 (.asg (.t 4))] [2] []) .ret)) }
noncomputable def impl_isClamps_D : List (Nat × Callee) := [(23,impl_within_c)]
def impl_isClamps_H : List (Nat × ET) := []
noncomputable def impl_isClamps_c : Callee := mkCallee impl_isClamps_D impl_isClamps_H impl_isClamps_ir [.d (.one (.int .i64))] [.d (.one .bool)] []
noncomputable def impl_isClamps (a0 : Int) : Option (Bool) := impl_isClamps_c.f (a0,())
theorem impl_isClamps_eq (a0 : Int) : impl_isClamps a0 =
 (impl_within a0 0 240).bind fun x1 =>
  some x1 :=
 (mk_f _ _ _ _ _ _ _ 4000).trans (by kernel_rfl)
def impl_isRentDay_ir : Fn := { np := 1,io := [],res := [.t 2],own := [false],body :=
 (.seq (.reg false [.V 2 (.asg (.c (.bool false)))] [0] []) (.seq (.reg false [.V 3 (.mv (.t 0)),.V 4 (.call (.c (.fn 23 [])) [.t 3,.c (.int .i64 0),.c (.int .i64 100000)]),.V 2 (.asg (.t 4))] [2] []) .ret)) }
noncomputable def impl_isRentDay_D : List (Nat × Callee) := [(23,impl_within_c)]
def impl_isRentDay_H : List (Nat × ET) := []
noncomputable def impl_isRentDay_c : Callee := mkCallee impl_isRentDay_D impl_isRentDay_H impl_isRentDay_ir [.d (.one (.int .i64))] [.d (.one .bool)] []
noncomputable def impl_isRentDay (a0 : Int) : Option (Bool) := impl_isRentDay_c.f (a0,())
theorem impl_isRentDay_eq (a0 : Int) : impl_isRentDay a0 =
 (impl_within a0 0 100000).bind fun x1 =>
  some x1 :=
 (mk_f _ _ _ _ _ _ _ 4000).trans (by kernel_rfl)
def impl_isMonths_ir : Fn := { np := 1,io := [],res := [.t 2],own := [false],body :=
 (.seq (.reg false [.V 2 (.asg (.c (.bool false)))] [0] []) (.seq (.reg false [.V 3 (.mv (.t 0)),.V 4 (.call (.c (.fn 23 [])) [.t 3,.c (.int .i64 1),.c (.int .i64 120)]),.V 2 (.asg (.t 4))] [2] []) .ret)) }
noncomputable def impl_isMonths_D : List (Nat × Callee) := [(23,impl_within_c)]
def impl_isMonths_H : List (Nat × ET) := []
noncomputable def impl_isMonths_c : Callee := mkCallee impl_isMonths_D impl_isMonths_H impl_isMonths_ir [.d (.one (.int .i64))] [.d (.one .bool)] []
noncomputable def impl_isMonths (a0 : Int) : Option (Bool) := impl_isMonths_c.f (a0,())
theorem impl_isMonths_eq (a0 : Int) : impl_isMonths a0 =
 (impl_within a0 1 120).bind fun x1 =>
  some x1 :=
 (mk_f _ _ _ _ _ _ _ 4000).trans (by kernel_rfl)
def impl_isMoney_ir : Fn := { np := 1,io := [],res := [.t 2],own := [false],body :=
 (.seq (.reg false [.V 2 (.asg (.c (.bool false)))] [0] []) (.seq (.reg false [.V 3 (.mv (.t 0)),.V 4 (.call (.c (.fn 23 [])) [.t 3,.c (.int .i64 0),.c (.int .i64 10000000)]),.V 2 (.asg (.t 4))] [2] []) .ret)) }
noncomputable def impl_isMoney_D : List (Nat × Callee) := [(23,impl_within_c)]
def impl_isMoney_H : List (Nat × ET) := []
noncomputable def impl_isMoney_c : Callee := mkCallee impl_isMoney_D impl_isMoney_H impl_isMoney_ir [.d (.one (.int .i64))] [.d (.one .bool)] []
noncomputable def impl_isMoney (a0 : Int) : Option (Bool) := impl_isMoney_c.f (a0,())
theorem impl_isMoney_eq (a0 : Int) : impl_isMoney a0 =
 (impl_within a0 0 10000000).bind fun x1 =>
  some x1 :=
 (mk_f _ _ _ _ _ _ _ 4000).trans (by kernel_rfl)
def impl_Rental_valid_ir : Fn := { np := 1,io := [],res := [.t 2],own := [false],body :=
 (.seq (.reg false [.W 1 (.box 5 (.t 0)),.V 2 (.asg (.c (.bool false)))] [1] [1]) (.seq (.reg false [.V 3 (.fa 0 (.t 1)),.V 4 (.ld none (.t 3)),.V 5 (.call (.c (.fn 24 [])) [.t 4]),.V 6 (.mv (.t 5)),.G 7 (.fa 1 (.t 1)) 3 true,.G 8 (.ld none (.t 7)) 3 true,.G 9 (.call (.c (.fn 24 [])) [.t 8]) 3 true,.V 10 (.pick (.t 6) (.t 9) (.c (.bool false))),.V 11 (.mv (.t 10)),.G 12 (.fa 2 (.t 1)) 8 true,.G 13 (.ld none (.t 12)) 8 true,.G 14 (.call (.c (.fn 623 [])) [.t 13]) 8 true,.V 15 (.pick (.t 11) (.t 14) (.c (.bool false))),.V 16 (.mv (.t 15)),.G 17 (.fa 3 (.t 1)) 13 true,.G 18 (.ld none (.t 17)) 13 true,.G 19 (.call (.c (.fn 1032 [])) [.t 18]) 13 true,.V 20 (.pick (.t 16) (.t 19) (.c (.bool false))),.V 21 (.mv (.t 20)),.G 22 (.fa 4 (.t 1)) 18 true,.G 23 (.ld none (.t 22)) 18 true,.G 24 (.call (.c (.fn 1033 [])) [.t 23]) 18 true,.V 25 (.pick (.t 21) (.t 24) (.c (.bool false))),.V 2 (.asg (.t 25))] [2] []) .ret)) }
noncomputable def impl_Rental_valid_D : List (Nat × Callee) := [(24,impl_IsName_c),(623,impl_isRentDay_c),(1032,impl_isMonths_c),(1033,impl_isMoney_c)]
def impl_Rental_valid_H : List (Nat × ET) := []
noncomputable def impl_Rental_valid_c : Callee := mkCallee impl_Rental_valid_D impl_Rental_valid_H impl_Rental_valid_ir [.d T_Paper] [.d (.one .bool)] []
noncomputable def impl_Rental_valid (a0 : T_Paper.ty) : Option (Bool) := impl_Rental_valid_c.f (a0,())
theorem impl_Rental_valid_eq (a0 : T_Paper.ty) : impl_Rental_valid a0 =
 (impl_IsName a0.1).bind fun x1 =>
  if x1 then
   (impl_IsName a0.2.1).bind fun x2 =>
    if x2 then
     (impl_isRentDay a0.2.2.1).bind fun x3 =>
      if x3 then
       (impl_isMonths a0.2.2.2.1).bind fun x4 =>
        if x4 then
         (impl_isMoney a0.2.2.2.2.1).bind fun x5 =>
          some x5
        else
         some false
      else
       some false
    else
     some false
  else
   some false :=
 (mk_f _ _ _ _ _ _ _ 4000).trans (by kernel_rfl)
def impl_ValidRentals_k0 : C :=
 .seq (.reg false [.V 8 (.bin .lss (.t 7) (.t 6))] [0,5,6,7,8] []) (.seq (.cond (.t 8) .skip (.exit 0)) (.seq (.block 1 (.seq (.reg false [.V 9 (.mv (.t 7)),.V 10 (.ia 5 (.t 5) (.t 7)),.V 11 (.ld (some 5) (.t 10)),.W 4 (.alloc 5 (.agg [.str [],.str [],.int .i64 0,.int .i64 0,.int .i64 0])),.V 3 (.asg (.t 9)),⟨none,true,.sto 5 (.t 4) (.t 11),none,false,[]⟩] [0,3,4,5,6,7] [4]) (.seq (.reg true [.V 12 (.ld (some 5) (.t 4)),.V 13 (.call (.c (.fn 900 [])) [.t 12]),.V 14 (.un .not (.t 13)),.V 15 (.mv (.t 14)),.G 16 (.mv (.t 3)) 3 false,.G 17 (.bin .gtr (.t 16) (.c (.int .i64 0))) 3 false,.G 18 (.mv (.t 17)) 3 false,.G 19 (.mv (.t 0)) 6 true,.G 20 (.mv (.t 3)) 6 true,.G 21 (.bin .sub (.t 20) (.c (.int .i64 1))) 6 true,.G 22 (.ia 5 (.t 19) (.t 21)) 6 true,.G 23 (.fa 0 (.t 22)) 6 true,.G 24 (.ld none (.t 23)) 6 true,.G 25 (.fa 0 (.t 4)) 6 true,.G 26 (.ld none (.t 25)) 6 true,.G 27 (.bin .geq (.t 24) (.t 26)) 6 true,.G 28 (.pick (.t 18) (.t 27) (.c (.bool false))) 3 false,.V 29 (.pick (.t 15) (.c (.bool true)) (.t 28))] [0,5,6,7,29] []) (.cond (.t 29) (.seq (.reg false [.V 2 (.asg (.c (.bool false)))] [2] []) .ret) .skip)))) (.reg false [.V 30 (.bin .add (.t 7) (.c (.int .i64 1))),.V 7 (.mv (.t 30))] [0,5,6,7] [])))
def impl_ValidRentals_k1 : C :=
 .norm [0,5,6,7] [] impl_ValidRentals_k0
def impl_ValidRentals_k2 : C :=
 .seq (.reg false [.V 31 (.mv (.t 0)),.V 32 (.len (.t 31)),.V 33 (.call (.c (.fn 21 [])) [.t 32,.c (.int .i64 12)]),.V 2 (.asg (.t 33))] [2] []) .ret
def impl_ValidRentals_ir : Fn := { np := 1,io := [],res := [.t 2],own := [false],body :=
 (.seq (.reg false [.V 2 (.asg (.c (.bool false)))] [0] []) (.seq (.seq (.reg false [.V 5 (.mv (.t 0)),.V 6 (.len (.t 5)),.V 7 (.mv (.c (.int .i64 0)))] [0,5,6,7] []) (.block 0 (.loop impl_ValidRentals_k1))) impl_ValidRentals_k2)) }
noncomputable def impl_ValidRentals_D : List (Nat × Callee) := [(21,impl_few_c),(900,impl_Rental_valid_c)]
def impl_ValidRentals_H : List (Nat × ET) := [(5,T_Paper),(19,T_Paper),(31,T_Paper)]
noncomputable def impl_ValidRentals_c : Callee := mkCallee impl_ValidRentals_D impl_ValidRentals_H impl_ValidRentals_ir [.d (.one (.sl T_Paper))] [.d (.one .bool)] []
noncomputable def impl_ValidRentals (a0 : List T_Paper.ty) : Option (Bool) := impl_ValidRentals_c.f (a0,())
noncomputable def impl_ValidRentals_p0  (v0 : List T_Paper.ty) (v5 : List T_Paper.ty) (v6 : Int) (v7 : Int) : Option (Bool) :=
 goL impl_ValidRentals_D impl_ValidRentals_H (vleave impl_ValidRentals_ir [.d (.one (.sl T_Paper))] [.d (.one .bool)] [] []) [.c impl_ValidRentals_k0,.l impl_ValidRentals_k1,.e 0,.c impl_ValidRentals_k2]
  ⟨[(0,.sl T_Paper v0),(5,.sl T_Paper v5),(6,.int .i64 v6),(7,.int .i64 v7)],[]⟩
theorem impl_ValidRentals_eq (a0 : List T_Paper.ty) : impl_ValidRentals a0 =
 impl_ValidRentals_p0 a0 a0 (a0.length : Int) 0 :=
 (mk_f _ _ _ _ _ _ _ 4000).trans (by kernel_rfl)
theorem impl_ValidRentals_p0_eq  (v0 : List T_Paper.ty) (v5 : List T_Paper.ty) (v6 : Int) (v7 : Int) : impl_ValidRentals_p0 v0 v5 v6 v7 =
 if decide (v7 < v6) then
  if decide (0 ≤ v7) then
   (v5[v7.toNat]?).bind fun x1 =>
    (impl_Rental_valid x1).bind fun x2 =>
     if (!x2) then
      some false
     else
      if decide (v7 > 0) then
       if decide (0 ≤ IntKind.i64.wrap (v7 - 1)) then
        (v0[(IntKind.i64.wrap (v7 - 1)).toNat]?).bind fun x3 =>
         if (!Op.bytesLess x3.1 x1.1) then
          some false
         else
          impl_ValidRentals_p0 v0 v5 v6 (IntKind.i64.wrap (v7 + 1))
       else
        none
      else
       impl_ValidRentals_p0 v0 v5 v6 (IntKind.i64.wrap (v7 + 1))
  else
   none
 else
  (impl_few (v0.length : Int) 12).bind fun x4 =>
   some x4 :=
 (goL_dn _ _ _ 4000 _ _).trans (by kernel_rfl)
def impl_Entry_valid_ir : Fn := { np := 1,io := [],res := [.t 2],own := [false],body :=
 (.seq (.reg false [.W 1 (.box 4 (.t 0)),.V 2 (.asg (.c (.bool false)))] [1] [1]) (.seq (.reg false [.V 3 (.fa 0 (.t 1)),.V 4 (.ld none (.t 3)),.V 5 (.call (.c (.fn 623 [])) [.t 4]),.V 6 (.mv (.t 5)),.G 7 (.fa 1 (.t 1)) 3 true,.G 8 (.ld none (.t 7)) 3 true,.G 9 (.call (.c (.fn 24 [])) [.t 8]) 3 true,.V 10 (.pick (.t 6) (.t 9) (.c (.bool false))),.V 11 (.mv (.t 10)),.G 12 (.fa 2 (.t 1)) 8 true,.G 13 (.ld none (.t 12)) 8 true,.G 14 (.call (.c (.fn 24 [])) [.t 13]) 8 true,.V 15 (.pick (.t 11) (.t 14) (.c (.bool false))),.V 16 (.mv (.t 15)),.G 17 (.fa 1 (.t 1)) 13 true,.G 18 (.ld none (.t 17)) 13 true,.G 19 (.fa 2 (.t 1)) 13 true,.G 20 (.ld none (.t 19)) 13 true,.G 21 (.bin .neq (.t 18) (.t 20)) 13 true,.V 22 (.pick (.t 16) (.t 21) (.c (.bool false))),.V 23 (.mv (.t 22)),.G 24 (.fa 3 (.t 1)) 20 true,.G 25 (.ld none (.t 24)) 20 true,.G 26 (.call (.c (.fn 23 [])) [.t 25,.c (.int .i64 1),.c (.int .i64 10000000)]) 20 true,.V 27 (.pick (.t 23) (.t 26) (.c (.bool false))),.V 2 (.asg (.t 27))] [2] []) .ret)) }
noncomputable def impl_Entry_valid_D : List (Nat × Callee) := [(23,impl_within_c),(24,impl_IsName_c),(623,impl_isRentDay_c)]
def impl_Entry_valid_H : List (Nat × ET) := []
noncomputable def impl_Entry_valid_c : Callee := mkCallee impl_Entry_valid_D impl_Entry_valid_H impl_Entry_valid_ir [.d T_Entry] [.d (.one .bool)] []
noncomputable def impl_Entry_valid (a0 : T_Entry.ty) : Option (Bool) := impl_Entry_valid_c.f (a0,())
theorem impl_Entry_valid_eq (a0 : T_Entry.ty) : impl_Entry_valid a0 =
 (impl_isRentDay a0.1).bind fun x1 =>
  if x1 then
   (impl_IsName a0.2.1).bind fun x2 =>
    if x2 then
     (impl_IsName a0.2.2.1).bind fun x3 =>
      if x3 then
       if (!(a0.2.1 == a0.2.2.1)) then
        (impl_within a0.2.2.2.1 1 10000000).bind fun x4 =>
         some x4
       else
        some false
      else
       some false
    else
     some false
  else
   some false :=
 (mk_f _ _ _ _ _ _ _ 4000).trans (by kernel_rfl)
def impl_ValidBook_k0 : C :=
 .seq (.reg false [.V 8 (.bin .lss (.t 7) (.t 6))] [0,5,6,7,8] []) (.seq (.cond (.t 8) .skip (.exit 0)) (.seq (.block 1 (.seq (.reg false [.V 9 (.mv (.t 7)),.V 10 (.ia 4 (.t 5) (.t 7)),.V 11 (.ld (some 4) (.t 10)),.W 4 (.alloc 4 (.agg [.int .i64 0,.str [],.str [],.int .i64 0])),.V 3 (.asg (.t 9)),⟨none,true,.sto 4 (.t 4) (.t 11),none,false,[]⟩] [0,3,4,5,6,7] [4]) (.seq (.reg true [.V 12 (.ld (some 4) (.t 4)),.V 13 (.call (.c (.fn 621 [])) [.t 12]),.V 14 (.un .not (.t 13)),.V 15 (.mv (.t 14)),.G 16 (.mv (.t 3)) 3 false,.G 17 (.bin .gtr (.t 16) (.c (.int .i64 0))) 3 false,.G 18 (.mv (.t 17)) 3 false,.G 19 (.mv (.t 0)) 6 true,.G 20 (.mv (.t 3)) 6 true,.G 21 (.bin .sub (.t 20) (.c (.int .i64 1))) 6 true,.G 22 (.ia 4 (.t 19) (.t 21)) 6 true,.G 23 (.fa 0 (.t 22)) 6 true,.G 24 (.ld none (.t 23)) 6 true,.G 25 (.fa 0 (.t 4)) 6 true,.G 26 (.ld none (.t 25)) 6 true,.G 27 (.bin .gtr (.t 24) (.t 26)) 6 true,.G 28 (.pick (.t 18) (.t 27) (.c (.bool false))) 3 false,.V 29 (.pick (.t 15) (.c (.bool true)) (.t 28))] [0,5,6,7,29] []) (.cond (.t 29) (.seq (.reg false [.V 2 (.asg (.c (.bool false)))] [2] []) .ret) .skip)))) (.reg false [.V 30 (.bin .add (.t 7) (.c (.int .i64 1))),.V 7 (.mv (.t 30))] [0,5,6,7] [])))
def impl_ValidBook_k1 : C :=
 .norm [0,5,6,7] [] impl_ValidBook_k0
def impl_ValidBook_k2 : C :=
 .seq (.reg false [.V 31 (.mv (.t 0)),.V 32 (.len (.t 31)),.V 33 (.call (.c (.fn 21 [])) [.t 32,.c (.int .i64 32)]),.V 2 (.asg (.t 33))] [2] []) .ret
def impl_ValidBook_ir : Fn := { np := 1,io := [],res := [.t 2],own := [false],body :=
 (.seq (.reg false [.V 2 (.asg (.c (.bool false)))] [0] []) (.seq (.seq (.reg false [.V 5 (.mv (.t 0)),.V 6 (.len (.t 5)),.V 7 (.mv (.c (.int .i64 0)))] [0,5,6,7] []) (.block 0 (.loop impl_ValidBook_k1))) impl_ValidBook_k2)) }
noncomputable def impl_ValidBook_D : List (Nat × Callee) := [(21,impl_few_c),(621,impl_Entry_valid_c)]
def impl_ValidBook_H : List (Nat × ET) := [(5,T_Entry),(19,T_Entry),(31,T_Entry)]
noncomputable def impl_ValidBook_c : Callee := mkCallee impl_ValidBook_D impl_ValidBook_H impl_ValidBook_ir [.d (.one (.sl T_Entry))] [.d (.one .bool)] []
noncomputable def impl_ValidBook (a0 : List T_Entry.ty) : Option (Bool) := impl_ValidBook_c.f (a0,())
noncomputable def impl_ValidBook_p0  (v0 : List T_Entry.ty) (v5 : List T_Entry.ty) (v6 : Int) (v7 : Int) : Option (Bool) :=
 goL impl_ValidBook_D impl_ValidBook_H (vleave impl_ValidBook_ir [.d (.one (.sl T_Entry))] [.d (.one .bool)] [] []) [.c impl_ValidBook_k0,.l impl_ValidBook_k1,.e 0,.c impl_ValidBook_k2]
  ⟨[(0,.sl T_Entry v0),(5,.sl T_Entry v5),(6,.int .i64 v6),(7,.int .i64 v7)],[]⟩
theorem impl_ValidBook_eq (a0 : List T_Entry.ty) : impl_ValidBook a0 =
 impl_ValidBook_p0 a0 a0 (a0.length : Int) 0 :=
 (mk_f _ _ _ _ _ _ _ 4000).trans (by kernel_rfl)
theorem impl_ValidBook_p0_eq  (v0 : List T_Entry.ty) (v5 : List T_Entry.ty) (v6 : Int) (v7 : Int) : impl_ValidBook_p0 v0 v5 v6 v7 =
 if decide (v7 < v6) then
  if decide (0 ≤ v7) then
   (v5[v7.toNat]?).bind fun x1 =>
    (impl_Entry_valid x1).bind fun x2 =>
     if (!x2) then
      some false
     else
      if decide (v7 > 0) then
       if decide (0 ≤ IntKind.i64.wrap (v7 - 1)) then
        (v0[(IntKind.i64.wrap (v7 - 1)).toNat]?).bind fun x3 =>
         if decide (x3.1 > x1.1) then
          some false
         else
          impl_ValidBook_p0 v0 v5 v6 (IntKind.i64.wrap (v7 + 1))
       else
        none
      else
       impl_ValidBook_p0 v0 v5 v6 (IntKind.i64.wrap (v7 + 1))
  else
   none
 else
  (impl_few (v0.length : Int) 32).bind fun x4 =>
   some x4 :=
 (goL_dn _ _ _ 4000 _ _).trans (by kernel_rfl)
def impl_ValidShop_ir : Fn := { np := 1,io := [],res := [.t 2],own := [false],body :=
 (.seq (.reg false [.W 1 (.box 8 (.t 0)),.V 2 (.asg (.c (.bool false)))] [1] [1,2000,2001,2003,2004,2006,2007]) (.seq (.reg false [.V 3 (.fa 0 (.t 1)),.V 4 (.ld none (.t 3)),.V 5 (.call (.c (.fn 608 [])) [.t 4]),.V 6 (.mv (.t 5)),.G 7 (.fa 1 (.t 1)) 3 true,.G 8 (.ld none (.t 7)) 3 true,.G 9 (.call (.c (.fn 609 [])) [.t 8]) 3 true,.V 10 (.pick (.t 6) (.t 9) (.c (.bool false))),.V 11 (.mv (.t 10)),.G 12 (.fa 2 (.t 1)) 8 true,.G 13 (.ld none (.t 12)) 8 true,.G 14 (.call (.c (.fn 610 [])) [.t 13]) 8 true,.V 15 (.pick (.t 11) (.t 14) (.c (.bool false))),.V 16 (.mv (.t 15)),.G 17 (.fa 3 (.t 1)) 13 true,.G 18 (.ld none (.t 17)) 13 true,.G 19 (.call (.c (.fn 83 [])) [.t 18]) 13 true,.V 20 (.pick (.t 16) (.t 19) (.c (.bool false))),.V 21 (.mv (.t 20)),.G 22 (.fa 3 (.t 1)) 18 true,.G 23 (.ld none (.t 22)) 18 true,.G 24 (.fa 4 (.t 1)) 18 true,.G 25 (.ld none (.t 24)) 18 true,.G 26 (.call (.c (.fn 541 [])) [.t 23,.t 25]) 18 true,.V 27 (.pick (.t 21) (.t 26) (.c (.bool false))),.V 28 (.mv (.t 27)),.G 29 (.fa 5 (.t 1)) 25 true,.G 30 (.ld none (.t 29)) 25 true,.G 31 (.call (.c (.fn 534 [])) [.t 30]) 25 true,.V 32 (.pick (.t 28) (.t 31) (.c (.bool false))),.V 33 (.mv (.t 32)),.G 34 (.fa 6 (.t 1)) 30 true,.G 35 (.ld none (.t 34)) 30 true,.G 36 (.call (.c (.fn 611 [])) [.t 35]) 30 true,.V 37 (.pick (.t 33) (.t 36) (.c (.bool false))),.V 38 (.mv (.t 37)),.G 39 (.fa 7 (.t 1)) 35 true,.G 40 (.ld none (.t 39)) 35 true,.G 41 (.call (.c (.fn 213 [])) [.t 40]) 35 true,.V 42 (.pick (.t 38) (.t 41) (.c (.bool false))),.V 2 (.asg (.t 42))] [2] []) .ret)) }
noncomputable def impl_ValidShop_D : List (Nat × Callee) := [(83,impl_ValidSteps_c),(213,impl_ValidBook_c),(534,impl_isClamps_c),(541,impl_areStarts_c),(608,impl_ValidOutline_c),(609,impl_validCords_c),(610,impl_isShare_c),(611,impl_ValidRentals_c)]
def impl_ValidShop_H : List (Nat × ET) := [(4,T_Arc),(8,T_Neck),(18,T_Step),(23,T_Step),(25,(.one (.int .i64))),(35,T_Paper),(40,T_Entry)]
noncomputable def impl_ValidShop_c : Callee := mkCallee impl_ValidShop_D impl_ValidShop_H impl_ValidShop_ir [.d T_Shop] [.d (.one .bool)] []
noncomputable def impl_ValidShop (a0 : T_Shop.ty) : Option (Bool) := impl_ValidShop_c.f (a0,())
theorem impl_ValidShop_eq (a0 : T_Shop.ty) : impl_ValidShop a0 =
 (impl_ValidOutline a0.1).bind fun x1 =>
  if x1 then
   (impl_validCords a0.2.1).bind fun x2 =>
    if x2 then
     (impl_isShare a0.2.2.1).bind fun x3 =>
      if x3 then
       (impl_ValidSteps a0.2.2.2.1).bind fun x4 =>
        if x4 then
         (impl_areStarts a0.2.2.2.1 a0.2.2.2.2.1).bind fun x5 =>
          if x5 then
           (impl_isClamps a0.2.2.2.2.2.1).bind fun x6 =>
            if x6 then
             (impl_ValidRentals a0.2.2.2.2.2.2.1).bind fun x7 =>
              if x7 then
               (impl_ValidBook a0.2.2.2.2.2.2.2.1).bind fun x8 =>
                some x8
              else
               some false
            else
             some false
          else
           some false
        else
         some false
      else
       some false
    else
     some false
  else
   some false :=
 (mk_f _ _ _ _ _ _ _ 4000).trans (by kernel_rfl)
def impl_smooth_ir : Fn := { np := 2,io := [],res := [.t 4],own := [false],body :=
 (.seq (.reg false [.W 2 (.box 6 (.t 0)),.W 3 (.box 6 (.t 1)),.V 4 (.asg (.c (.bool false)))] [2,3] [2,3]) (.seq (.reg false [.V 6 (.fa 4 (.t 2)),.V 7 (.ld (some 2) (.t 6)),.W 5 (.alloc 2 (.agg [.int .i64 0,.int .i64 0])),⟨none,true,.sto 2 (.t 5) (.t 7),none,false,[]⟩] [2,3,5] [2,3,5]) (.seq (.reg false [.V 8 (.fa 0 (.t 2)),.V 9 (.fa 0 (.t 8)),.V 10 (.ld none (.t 9)),.V 11 (.fa 0 (.t 5)),.V 12 (.ld none (.t 11)),.V 13 (.bin .sub (.t 10) (.t 12)),.V 14 (.fa 0 (.t 3)),.V 15 (.fa 1 (.t 14)),.V 16 (.ld none (.t 15)),.V 17 (.fa 1 (.t 5)),.V 18 (.ld none (.t 17)),.V 19 (.bin .sub (.t 16) (.t 18)),.V 20 (.bin .mul (.t 13) (.t 19)),.V 21 (.fa 0 (.t 2)),.V 22 (.fa 1 (.t 21)),.V 23 (.ld none (.t 22)),.V 24 (.fa 1 (.t 5)),.V 25 (.ld none (.t 24)),.V 26 (.bin .sub (.t 23) (.t 25)),.V 27 (.fa 0 (.t 3)),.V 28 (.fa 0 (.t 27)),.V 29 (.ld none (.t 28)),.V 30 (.fa 0 (.t 5)),.V 31 (.ld none (.t 30)),.V 32 (.bin .sub (.t 29) (.t 31)),.V 33 (.bin .mul (.t 26) (.t 32)),.V 34 (.bin .eql (.t 20) (.t 33)),.V 4 (.asg (.t 34))] [4] []) .ret))) }
noncomputable def impl_smooth_D : List (Nat × Callee) := []
def impl_smooth_H : List (Nat × ET) := []
noncomputable def impl_smooth_c : Callee := mkCallee impl_smooth_D impl_smooth_H impl_smooth_ir [.d T_Arc,.d T_Arc] [.d (.one .bool)] []
noncomputable def impl_smooth (a0 : T_Arc.ty) (a1 : T_Arc.ty) : Option (Bool) := impl_smooth_c.f (a0,a1,())
theorem impl_smooth_eq (a0 : T_Arc.ty) (a1 : T_Arc.ty) : impl_smooth a0 a1 =
 some (IntKind.i64.wrap ((IntKind.i64.wrap (a0.1 - a0.2.2.2.2.1)) * (IntKind.i64.wrap (a1.2.1 - a0.2.2.2.2.2.1))) == IntKind.i64.wrap ((IntKind.i64.wrap (a0.2.1 - a0.2.2.2.2.2.1)) * (IntKind.i64.wrap (a1.1 - a0.2.2.2.2.1)))) :=
 (mk_f _ _ _ _ _ _ _ 4000).trans (by kernel_rfl)
def impl_CornersOf_k0 : C :=
 .seq (.reg false [.V 14 (.bin .lss (.t 13) (.t 12))] [0,4,11,12,13,14] [4]) (.seq (.cond (.t 14) .skip (.exit 0)) (.seq (.block 1 (.seq (.reg false [.V 15 (.mv (.t 13)),.V 16 (.ia 6 (.t 11) (.t 13)),.V 17 (.ld (some 6) (.t 16)),.W 6 (.alloc 6 (.agg [.int .i64 0,.int .i64 0,.int .i64 0,.int .i64 0,.int .i64 0,.int .i64 0])),.V 5 (.asg (.t 15)),⟨none,true,.sto 6 (.t 6) (.t 17),none,false,[]⟩] [0,4,5,6,11,12,13] [4,6]) (.seq (.reg true [.V 18 (.ld (some 6) (.t 6)),.V 19 (.mv (.t 0)),.V 20 (.mv (.t 5)),.V 21 (.call (.c (.fn 898 [])) [.t 19,.t 20]),.V 22 (.call (.c (.fn 939 [])) [.t 18,.t 21]),.V 23 (.un .not (.t 22))] [0,4,5,11,12,13,23] [4]) (.cond (.t 23) (.reg false [.V 24 (.mv (.t 4)),.V 25 (.mv (.t 5)),.V 26 (.bsl 1 (.int .i64 0) 1 [(0,.t 25)]),.W 27 (.app 1 8 (.t 24) (.t 26)),.W 4 (.asg (.t 27))] [0,4,11,12,13] [4]) .skip)))) (.reg false [.V 28 (.bin .add (.t 13) (.c (.int .i64 1))),.V 13 (.mv (.t 28))] [0,4,11,12,13] [4])))
def impl_CornersOf_k1 : C :=
 .norm [0,4,11,12,13] [4] impl_CornersOf_k0
def impl_CornersOf_k2 : C :=
 .seq (.reg false [.V 29 (.mv (.t 4)),.W 2 (.asg (.t 29)),.V 3 (.asg (.c (.int .i64 0)))] [2,3] [2,4]) .ret
def impl_CornersOf_ir : Fn := { np := 1,io := [],res := [.t 2,.t 3],own := [true,false],body :=
 (.seq (.reg false [.W 2 (.asg (.c (.nils 1))),.V 3 (.asg (.c (.int .i64 0)))] [0] []) (.seq (.seq (.reg false [.V 7 (.mv (.t 0)),.V 8 (.call (.c (.fn 608 [])) [.t 7]),.V 9 (.un .not (.t 8))] [0,9] []) (.cond (.t 9) (.seq (.reg false [.W 2 (.asg (.c (.nils 1))),.V 3 (.asg (.c (.int .i64 1)))] [2,3] [2,4]) .ret) .skip)) (.seq (.reg false [.V 10 (.bsl 1 (.int .i64 0) 0 []),.W 4 (.asg (.t 10))] [0,4] [4]) (.seq (.seq (.reg false [.V 11 (.mv (.t 0)),.V 12 (.len (.t 11)),.V 13 (.mv (.c (.int .i64 0)))] [0,4,11,12,13] [4]) (.block 0 (.loop impl_CornersOf_k1))) impl_CornersOf_k2)))) }
noncomputable def impl_CornersOf_D : List (Nat × Callee) := [(608,impl_ValidOutline_c),(898,impl_next_c),(939,impl_smooth_c)]
def impl_CornersOf_H : List (Nat × ET) := [(2,(.one (.int .i64))),(4,(.one (.int .i64))),(7,T_Arc),(10,(.one (.int .i64))),(11,T_Arc),(19,T_Arc),(24,(.one (.int .i64))),(26,(.one (.int .i64))),(27,(.one (.int .i64))),(29,(.one (.int .i64)))]
noncomputable def impl_CornersOf_c : Callee := mkCallee impl_CornersOf_D impl_CornersOf_H impl_CornersOf_ir [.d (.one (.sl T_Arc))] [.tok (.one (.int .i64)),.d (.one (.int .i64))] []
noncomputable def impl_CornersOf (a0 : List T_Arc.ty) : Option (List Int × Int) := impl_CornersOf_c.f (a0,())
noncomputable def impl_CornersOf_p0  (v0 : List T_Arc.ty) (v11 : List T_Arc.ty) (v12 : Int) (v13 : Int) (r4 : List Int) : Option (List Int × Int) :=
 goL impl_CornersOf_D impl_CornersOf_H (vleave impl_CornersOf_ir [.d (.one (.sl T_Arc))] [.tok (.one (.int .i64)),.d (.one (.int .i64))] [] []) [.c impl_CornersOf_k0,.l impl_CornersOf_k1,.e 0,.c impl_CornersOf_k2]
  ⟨[(0,.sl T_Arc v0),(4,.view 4 0 r4.length),(11,.sl T_Arc v11),(12,.int .i64 v12),(13,.int .i64 v13)],[(4,some (.sl (.one (.int .i64)) r4))]⟩
theorem impl_CornersOf_eq (a0 : List T_Arc.ty) : impl_CornersOf a0 =
 (impl_ValidOutline a0).bind fun x1 =>
  if (!x1) then
   some ([],1)
  else
   impl_CornersOf_p0 a0 a0 (a0.length : Int) 0 [] :=
 (mk_f _ _ _ _ _ _ _ 4000).trans (by kernel_rfl)
theorem impl_CornersOf_p0_eq  (v0 : List T_Arc.ty) (v11 : List T_Arc.ty) (v12 : Int) (v13 : Int) (r4 : List Int) : impl_CornersOf_p0 v0 v11 v12 v13 r4 =
 if decide (v13 < v12) then
  if decide (0 ≤ v13) then
   (v11[v13.toNat]?).bind fun x1 =>
    (impl_next v0 v13).bind fun x2 =>
     (impl_smooth x1 x2).bind fun x3 =>
      if (!x3) then
       if decide (r4.length + 1 < lim) then
        impl_CornersOf_p0 v0 v11 v12 (IntKind.i64.wrap (v13 + 1)) ((r4.take r4.length) ++ [v13])
       else
        none
      else
       impl_CornersOf_p0 v0 v11 v12 (IntKind.i64.wrap (v13 + 1)) r4
  else
   none
 else
  some ((r4.take r4.length),0) :=
 (goL_dn _ _ _ 4000 _ _).trans (by kernel_rfl)
noncomputable def strconv_FormatInt_c : Callee := formatIntC
noncomputable def strconv_FormatInt (a0 : Int) (a1 : Int) : Option (List UInt8) := strconv_FormatInt_c.f (a0,a1,())
theorem strconv_FormatInt_eq (a0 : Int) (a1 : Int) : strconv_FormatInt a0 a1 = if decide (a1 = 10) && (decide (-9223372036854775808 ≤ a0) && decide (a0 ≤ 9223372036854775807)) then some (Lib.itoa a0) else none := rfl
def impl_Decimal_ir : Fn := { np := 1,io := [],res := [.t 2],own := [false],body :=
 (.seq (.reg false [.V 2 (.asg (.c (.str [])))] [0] []) (.seq (.reg false [.V 3 (.mv (.t 0)),.V 4 (.call (.c (.fn 864 [])) [.t 3,.c (.int .i64 10)]),.V 2 (.asg (.t 4))] [2] []) .ret)) }
noncomputable def impl_Decimal_D : List (Nat × Callee) := [(864,strconv_FormatInt_c)]
def impl_Decimal_H : List (Nat × ET) := []
noncomputable def impl_Decimal_c : Callee := mkCallee impl_Decimal_D impl_Decimal_H impl_Decimal_ir [.d (.one (.int .i64))] [.d (.one .str)] []
noncomputable def impl_Decimal (a0 : Int) : Option (List UInt8) := impl_Decimal_c.f (a0,())
theorem impl_Decimal_eq (a0 : Int) : impl_Decimal a0 =
 (strconv_FormatInt a0 10).bind fun x1 =>
  some x1 :=
 (mk_f _ _ _ _ _ _ _ 4000).trans (by kernel_rfl)
def impl_divRound_ir : Fn := { np := 2,io := [],res := [.t 4],own := [false],body :=
 (.seq (.reg false [.V 4 (.asg (.c (.int .i64 0)))] [0,1] []) (.seq (.reg false [.V 8 (.mv (.t 0)),.V 9 (.bin .lss (.t 8) (.c (.int .i64 0))),.V 10 (.mv (.t 1)),.V 11 (.bin .lss (.t 10) (.c (.int .i64 0))),.V 12 (.eqb true (.t 9) (.t 11)),.V 5 (.asg (.t 12))] [0,1,5] []) (.seq (.reg false [.V 13 (.mv (.t 0)),.V 14 (.mv (.t 0)),.V 15 (.un .neg (.t 14)),.V 16 (.max [.t 13,.t 15]),.V 17 (.mv (.t 1)),.V 18 (.mv (.t 1)),.V 19 (.un .neg (.t 18)),.V 20 (.max [.t 17,.t 19]),.V 0 (.asg (.t 16)),.V 1 (.asg (.t 20))] [0,1,5] []) (.seq (.reg false [.V 21 (.mv (.t 0)),.V 22 (.mv (.t 1)),.V 23 (.bin .quo (.t 21) (.t 22)),.V 6 (.asg (.t 23))] [0,1,5,6] []) (.seq (.seq (.reg false [.V 24 (.mv (.t 0)),.V 25 (.mv (.t 1)),.V 26 (.bin .rem (.t 24) (.t 25)),.V 7 (.asg (.t 26))] [1,5,6,7] []) (.seq (.reg false [.V 27 (.mv (.t 7)),.V 28 (.mv (.t 1)),.V 29 (.mv (.t 7)),.V 30 (.bin .sub (.t 28) (.t 29)),.V 31 (.bin .geq (.t 27) (.t 30))] [5,6,31] []) (.cond (.t 31) (.reg false [.V 32 (.mv (.t 6)),.V 33 (.bin .add (.t 32) (.c (.int .i64 1))),.V 6 (.asg (.t 33))] [5,6] []) .skip))) (.seq (.seq (.reg false [.V 34 (.mv (.t 5))] [6,34] []) (.cond (.t 34) (.seq (.reg false [.V 35 (.mv (.t 6)),.V 36 (.un .neg (.t 35)),.V 4 (.asg (.t 36))] [4] []) .ret) .skip)) (.seq (.reg false [.V 37 (.mv (.t 6)),.V 4 (.asg (.t 37))] [4] []) .ret))))))) }
noncomputable def impl_divRound_D : List (Nat × Callee) := []
def impl_divRound_H : List (Nat × ET) := []
noncomputable def impl_divRound_c : Callee := mkCallee impl_divRound_D impl_divRound_H impl_divRound_ir [.d (.one (.int .i64)),.d (.one (.int .i64))] [.d (.one (.int .i64))] []
noncomputable def impl_divRound (a0 : Int) (a1 : Int) : Option (Int) := impl_divRound_c.f (a0,a1,())
theorem impl_divRound_eq (a0 : Int) (a1 : Int) : impl_divRound a0 a1 =
 if decide ((if IntKind.i64.wrap (0 - a1) > a1 then IntKind.i64.wrap (0 - a1) else a1) = 0) then
  none
 else
  if decide ((if IntKind.i64.wrap (0 - a1) > a1 then IntKind.i64.wrap (0 - a1) else a1) = 0) then
   none
  else
   if decide ((if IntKind.i64.wrap (0 - a0) > a0 then IntKind.i64.wrap (0 - a0) else a0).tmod (if IntKind.i64.wrap (0 - a1) > a1 then IntKind.i64.wrap (0 - a1) else a1) ≥ IntKind.i64.wrap ((if IntKind.i64.wrap (0 - a1) > a1 then IntKind.i64.wrap (0 - a1) else a1) - ((if IntKind.i64.wrap (0 - a0) > a0 then IntKind.i64.wrap (0 - a0) else a0).tmod (if IntKind.i64.wrap (0 - a1) > a1 then IntKind.i64.wrap (0 - a1) else a1)))) then
    if (!(decide (a0 < 0) == decide (a1 < 0))) then
     some (IntKind.i64.wrap (0 - (IntKind.i64.wrap ((IntKind.i64.wrap ((if IntKind.i64.wrap (0 - a0) > a0 then IntKind.i64.wrap (0 - a0) else a0).tdiv (if IntKind.i64.wrap (0 - a1) > a1 then IntKind.i64.wrap (0 - a1) else a1))) + 1))))
    else
     some (IntKind.i64.wrap ((IntKind.i64.wrap ((if IntKind.i64.wrap (0 - a0) > a0 then IntKind.i64.wrap (0 - a0) else a0).tdiv (if IntKind.i64.wrap (0 - a1) > a1 then IntKind.i64.wrap (0 - a1) else a1))) + 1))
   else
    if (!(decide (a0 < 0) == decide (a1 < 0))) then
     some (IntKind.i64.wrap (0 - (IntKind.i64.wrap ((if IntKind.i64.wrap (0 - a0) > a0 then IntKind.i64.wrap (0 - a0) else a0).tdiv (if IntKind.i64.wrap (0 - a1) > a1 then IntKind.i64.wrap (0 - a1) else a1)))))
    else
     some (IntKind.i64.wrap ((if IntKind.i64.wrap (0 - a0) > a0 then IntKind.i64.wrap (0 - a0) else a0).tdiv (if IntKind.i64.wrap (0 - a1) > a1 then IntKind.i64.wrap (0 - a1) else a1))) :=
 (mk_f _ _ _ _ _ _ _ 4000).trans (by kernel_rfl)
def impl_Cord_tension_ir : Fn := { np := 1,io := [],res := [.t 2],own := [false],body :=
 (.seq (.reg false [.W 1 (.box 4 (.t 0)),.V 2 (.asg (.c (.int .i64 0)))] [1] [1]) (.seq (.reg false [.V 3 (.fa 0 (.t 1)),.V 4 (.ld none (.t 3)),.V 5 (.bin .mul (.c (.int .i64 4)) (.t 4)),.V 6 (.fa 0 (.t 1)),.V 7 (.ld none (.t 6)),.V 8 (.bin .mul (.t 5) (.t 7)),.V 9 (.fa 1 (.t 1)),.V 10 (.ld none (.t 9)),.V 11 (.bin .mul (.t 8) (.t 10)),.V 12 (.fa 1 (.t 1)),.V 13 (.ld none (.t 12)),.V 14 (.bin .mul (.t 11) (.t 13)),.V 15 (.fa 2 (.t 1)),.V 16 (.ld none (.t 15)),.V 17 (.bin .mul (.t 14) (.t 16)),.V 18 (.call (.c (.fn 27 [])) [.t 17,.c (.int .i64 100000000000)]),.V 2 (.asg (.t 18))] [2] []) .ret)) }
noncomputable def impl_Cord_tension_D : List (Nat × Callee) := [(27,impl_divRound_c)]
def impl_Cord_tension_H : List (Nat × ET) := []
noncomputable def impl_Cord_tension_c : Callee := mkCallee impl_Cord_tension_D impl_Cord_tension_H impl_Cord_tension_ir [.d T_Neck] [.d (.one (.int .i64))] []
noncomputable def impl_Cord_tension (a0 : T_Neck.ty) : Option (Int) := impl_Cord_tension_c.f (a0,())
theorem impl_Cord_tension_eq (a0 : T_Neck.ty) : impl_Cord_tension a0 =
 (impl_divRound (IntKind.i64.wrap ((IntKind.i64.wrap ((IntKind.i64.wrap ((IntKind.i64.wrap ((IntKind.i64.wrap (4 * a0.1)) * a0.1)) * a0.2.1)) * a0.2.1)) * a0.2.2.1)) 100000000000).bind fun x1 =>
  some x1 :=
 (mk_f _ _ _ _ _ _ _ 4000).trans (by kernel_rfl)
def impl_Cord_holds_ir : Fn := { np := 2,io := [],res := [.t 4],own := [false],body :=
 (.seq (.reg false [.W 2 (.box 4 (.t 0)),.V 4 (.asg (.c (.bool false)))] [1,2] [2]) (.seq (.reg true [.V 5 (.ld (some 4) (.t 2)),.V 6 (.call (.c (.fn 708 [])) [.t 5]),.V 7 (.bin .mul (.c (.int .i64 1000)) (.t 6)),.V 8 (.mv (.t 1)),.V 9 (.fa 3 (.t 2)),.V 10 (.ld none (.t 9)),.V 11 (.bin .mul (.t 8) (.t 10)),.V 12 (.bin .leq (.t 7) (.t 11)),.V 4 (.asg (.t 12))] [4] []) .ret)) }
noncomputable def impl_Cord_holds_D : List (Nat × Callee) := [(708,impl_Cord_tension_c)]
def impl_Cord_holds_H : List (Nat × ET) := []
noncomputable def impl_Cord_holds_c : Callee := mkCallee impl_Cord_holds_D impl_Cord_holds_H impl_Cord_holds_ir [.d T_Neck,.d (.one (.int .i64))] [.d (.one .bool)] []
noncomputable def impl_Cord_holds (a0 : T_Neck.ty) (a1 : Int) : Option (Bool) := impl_Cord_holds_c.f (a0,a1,())
theorem impl_Cord_holds_eq (a0 : T_Neck.ty) (a1 : Int) : impl_Cord_holds a0 a1 =
 (impl_Cord_tension a0).bind fun x1 =>
  some (decide (IntKind.i64.wrap (1000 * x1) ≤ IntKind.i64.wrap (a1 * a0.2.2.2.1))) :=
 (mk_f _ _ _ _ _ _ _ 4000).trans (by kernel_rfl)
def impl_BreakingStrings_k0 : C :=
 .seq (.reg false [.V 19 (.bin .lss (.t 18) (.t 17))] [1,6,16,17,18,19] [6]) (.seq (.cond (.t 19) .skip (.exit 0)) (.seq (.block 1 (.seq (.reg false [.V 20 (.mv (.t 18)),.V 21 (.ia 4 (.t 16) (.t 18)),.V 22 (.ld (some 4) (.t 21)),.W 8 (.alloc 4 (.agg [.int .i64 0,.int .i64 0,.int .i64 0,.int .i64 0])),.V 7 (.asg (.t 20)),⟨none,true,.sto 4 (.t 8) (.t 22),none,false,[]⟩] [1,6,7,8,16,17,18] [6,8]) (.seq (.reg false [.V 23 (.ld (some 4) (.t 8)),.V 24 (.mv (.t 1)),.V 25 (.call (.c (.fn 940 [])) [.t 23,.t 24]),.V 26 (.un .not (.t 25))] [1,6,7,16,17,18,26] [6]) (.cond (.t 26) (.reg false [.V 27 (.mv (.t 6)),.V 28 (.mv (.t 7)),.V 29 (.bsl 1 (.int .i64 0) 1 [(0,.t 28)]),.W 30 (.app 1 8 (.t 27) (.t 29)),.W 6 (.asg (.t 30))] [1,6,16,17,18] [6]) .skip)))) (.reg false [.V 31 (.bin .add (.t 18) (.c (.int .i64 1))),.V 18 (.mv (.t 31))] [1,6,16,17,18] [6])))
def impl_BreakingStrings_k1 : C :=
 .norm [1,6,16,17,18] [6] impl_BreakingStrings_k0
def impl_BreakingStrings_k2 : C :=
 .seq (.reg false [.V 32 (.mv (.t 6)),.W 4 (.asg (.t 32)),.V 5 (.asg (.c (.int .i64 0)))] [4,5] [4,6]) .ret
def impl_BreakingStrings_ir : Fn := { np := 2,io := [],res := [.t 4,.t 5],own := [true,false],body :=
 (.seq (.reg false [.W 4 (.asg (.c (.nils 1))),.V 5 (.asg (.c (.int .i64 0)))] [0,1] []) (.seq (.seq (.reg false [.V 9 (.mv (.t 0)),.V 10 (.call (.c (.fn 609 [])) [.t 9]),.V 11 (.un .not (.t 10))] [0,1,11] []) (.cond (.t 11) (.seq (.reg false [.W 4 (.asg (.c (.nils 1))),.V 5 (.asg (.c (.int .i64 1)))] [4,5] [4,6]) .ret) .skip)) (.seq (.seq (.reg false [.V 12 (.mv (.t 1)),.V 13 (.call (.c (.fn 610 [])) [.t 12]),.V 14 (.un .not (.t 13))] [0,1,14] []) (.cond (.t 14) (.seq (.reg false [.W 4 (.asg (.c (.nils 1))),.V 5 (.asg (.c (.int .i64 2)))] [4,5] [4,6]) .ret) .skip)) (.seq (.reg false [.V 15 (.bsl 1 (.int .i64 0) 0 []),.W 6 (.asg (.t 15))] [0,1,6] [6]) (.seq (.seq (.reg false [.V 16 (.mv (.t 0)),.V 17 (.len (.t 16)),.V 18 (.mv (.c (.int .i64 0)))] [1,6,16,17,18] [6]) (.block 0 (.loop impl_BreakingStrings_k1))) impl_BreakingStrings_k2))))) }
noncomputable def impl_BreakingStrings_D : List (Nat × Callee) := [(609,impl_validCords_c),(610,impl_isShare_c),(940,impl_Cord_holds_c)]
def impl_BreakingStrings_H : List (Nat × ET) := [(4,(.one (.int .i64))),(6,(.one (.int .i64))),(9,T_Neck),(15,(.one (.int .i64))),(16,T_Neck),(27,(.one (.int .i64))),(29,(.one (.int .i64))),(30,(.one (.int .i64))),(32,(.one (.int .i64)))]
noncomputable def impl_BreakingStrings_c : Callee := mkCallee impl_BreakingStrings_D impl_BreakingStrings_H impl_BreakingStrings_ir [.d (.one (.sl T_Neck)),.d (.one (.int .i64))] [.tok (.one (.int .i64)),.d (.one (.int .i64))] []
noncomputable def impl_BreakingStrings (a0 : List T_Neck.ty) (a1 : Int) : Option (List Int × Int) := impl_BreakingStrings_c.f (a0,a1,())
noncomputable def impl_BreakingStrings_p0  (v1 : Int) (v16 : List T_Neck.ty) (v17 : Int) (v18 : Int) (r6 : List Int) : Option (List Int × Int) :=
 goL impl_BreakingStrings_D impl_BreakingStrings_H (vleave impl_BreakingStrings_ir [.d (.one (.sl T_Neck)),.d (.one (.int .i64))] [.tok (.one (.int .i64)),.d (.one (.int .i64))] [] []) [.c impl_BreakingStrings_k0,.l impl_BreakingStrings_k1,.e 0,.c impl_BreakingStrings_k2]
  ⟨[(1,.int .i64 v1),(6,.view 6 0 r6.length),(16,.sl T_Neck v16),(17,.int .i64 v17),(18,.int .i64 v18)],[(6,some (.sl (.one (.int .i64)) r6))]⟩
theorem impl_BreakingStrings_eq (a0 : List T_Neck.ty) (a1 : Int) : impl_BreakingStrings a0 a1 =
 (impl_validCords a0).bind fun x1 =>
  if (!x1) then
   some ([],1)
  else
   (impl_isShare a1).bind fun x2 =>
    if (!x2) then
     some ([],2)
    else
     impl_BreakingStrings_p0 a1 a0 (a0.length : Int) 0 [] :=
 (mk_f _ _ _ _ _ _ _ 4000).trans (by kernel_rfl)
theorem impl_BreakingStrings_p0_eq  (v1 : Int) (v16 : List T_Neck.ty) (v17 : Int) (v18 : Int) (r6 : List Int) : impl_BreakingStrings_p0 v1 v16 v17 v18 r6 =
 if decide (v18 < v17) then
  if decide (0 ≤ v18) then
   (v16[v18.toNat]?).bind fun x1 =>
    (impl_Cord_holds x1 v1).bind fun x2 =>
     if (!x2) then
      if decide (r6.length + 1 < lim) then
       impl_BreakingStrings_p0 v1 v16 v17 (IntKind.i64.wrap (v18 + 1)) ((r6.take r6.length) ++ [v18])
      else
       none
     else
      impl_BreakingStrings_p0 v1 v16 v17 (IntKind.i64.wrap (v18 + 1)) r6
  else
   none
 else
  some ((r6.take r6.length),0) :=
 (goL_dn _ _ _ 4000 _ _).trans (by kernel_rfl)
def impl_BodyProblems_k0 : C :=
 .seq (.reg false [.V 26 (.bin .lss (.t 25) (.t 24))] [1,4,23,24,25,26] [1,4,5,2000,2001,2003,2004,2006,2007]) (.seq (.cond (.t 26) .skip (.exit 0)) (.seq (.block 1 (.seq (.reg false [.V 27 (.ia 1 (.t 23) (.t 25)),.V 28 (.ld none (.t 27)),.V 8 (.asg (.t 28))] [1,4,8,23,24,25] [1,4,5,2000,2001,2003,2004,2006,2007]) (.reg false [.V 29 (.mv (.t 4)),.V 30 (.mv (.t 8)),.V 31 (.call (.c (.fn 524 [])) [.t 30]),.V 32 (.build [.int .i64 0,.str [],.str []] [(0,1,.c (.int .i64 1)),(1,1,.t 31),(2,1,.c (.str [99,111,114,110,101,114]))]),.V 33 (.bsl 3 (.agg [.int .i64 0,.str [],.str []]) 1 [(0,.t 32)]),.W 34 (.app 3 40 (.t 29) (.t 33)),.W 4 (.asg (.t 34))] [1,4,23,24,25] [1,4,5,2000,2001,2003,2004,2006,2007]))) (.reg false [.V 35 (.bin .add (.t 25) (.c (.int .i64 1))),.V 25 (.mv (.t 35))] [1,4,23,24,25] [1,4,5,2000,2001,2003,2004,2006,2007])))
def impl_BodyProblems_k1 : C :=
 .norm [1,4,23,24,25] [1,4,5,2000,2001,2003,2004,2006,2007] impl_BodyProblems_k0
def impl_BodyProblems_k2 : C :=
 .seq (.reg false [.V 47 (.bin .lss (.t 46) (.t 45))] [1,4,44,45,46,47] [1,4,9,2000,2001,2003,2004,2006,2007]) (.seq (.cond (.t 47) .skip (.exit 2)) (.seq (.block 3 (.seq (.reg false [.V 48 (.ia 1 (.t 44) (.t 46)),.V 49 (.ld none (.t 48)),.V 12 (.asg (.t 49))] [1,4,12,44,45,46] [1,4,9,2000,2001,2003,2004,2006,2007]) (.reg true [.V 50 (.mv (.t 4)),.V 51 (.mv (.t 12)),.V 52 (.call (.c (.fn 524 [])) [.t 51]),.V 53 (.fa 1 (.t 1)),.V 54 (.ld none (.t 53)),.V 55 (.mv (.t 12)),.V 56 (.ia 4 (.t 54) (.t 55)),.V 57 (.ld (some 4) (.t 56)),.V 58 (.call (.c (.fn 708 [])) [.t 57]),.V 59 (.call (.c (.fn 524 [])) [.t 58]),.V 60 (.build [.int .i64 0,.str [],.str []] [(0,1,.c (.int .i64 2)),(1,1,.t 52),(2,1,.t 59)]),.V 61 (.bsl 3 (.agg [.int .i64 0,.str [],.str []]) 1 [(0,.t 60)]),.W 62 (.app 3 40 (.t 50) (.t 61)),.W 4 (.asg (.t 62))] [1,4,44,45,46] [1,4,9,2000,2001,2003,2004,2006,2007]))) (.reg false [.V 63 (.bin .add (.t 46) (.c (.int .i64 1))),.V 46 (.mv (.t 63))] [1,4,44,45,46] [1,4,9,2000,2001,2003,2004,2006,2007])))
def impl_BodyProblems_k3 : C :=
 .norm [1,4,44,45,46] [1,4,9,2000,2001,2003,2004,2006,2007] impl_BodyProblems_k2
def impl_BodyProblems_k4 : C :=
 .seq (.reg false [.V 64 (.mv (.t 4)),.W 2 (.asg (.t 64)),.V 3 (.asg (.c (.int .i64 0)))] [2,3] [2,4]) .ret
def impl_BodyProblems_k5 : C :=
 .seq (.reg false [.V 37 (.fa 1 (.t 1)),.V 38 (.ld none (.t 37)),.V 39 (.fa 2 (.t 1)),.V 40 (.ld none (.t 39)),.V 41 (.call (.c (.fn 709 [])) [.t 38,.t 40]),.V 36 (.mv (.t 41)),.V 42 (.ext (.t 36) 0),.V 43 (.ext (.t 36) 1),.W 9 (.asg (.t 42)),.V 10 (.asg (.t 43))] [1,4,9] [1,4,9,2000,2001,2003,2004,2006,2007]) (.seq (.seq (.reg false [.V 44 (.mv (.t 9)),.V 45 (.len (.t 44)),.V 46 (.mv (.c (.int .i64 0)))] [1,4,44,45,46] [1,4,9,2000,2001,2003,2004,2006,2007]) (.block 2 (.loop impl_BodyProblems_k3))) impl_BodyProblems_k4)
def impl_BodyProblems_ir : Fn := { np := 1,io := [],res := [.t 2,.t 3],own := [true,false],body :=
 (.seq (.reg false [.W 1 (.box 8 (.t 0)),.W 2 (.asg (.c (.nils 3))),.V 3 (.asg (.c (.int .i64 0)))] [1] [1,2000,2001,2003,2004,2006,2007]) (.seq (.seq (.reg false [.V 13 (.ld (some 8) (.t 1)),.V 14 (.call (.c (.fn 201 [])) [.t 13]),.V 15 (.un .not (.t 14))] [1,15] [1,2000,2001,2003,2004,2006,2007]) (.cond (.t 15) (.seq (.reg false [.W 2 (.asg (.c (.nils 3))),.V 3 (.asg (.c (.int .i64 1)))] [2,3] [2,4]) .ret) .skip)) (.seq (.reg false [.V 16 (.bsl 3 (.agg [.int .i64 0,.str [],.str []]) 0 []),.W 4 (.asg (.t 16))] [1,4] [1,4,2000,2001,2003,2004,2006,2007]) (.seq (.reg false [.V 18 (.fa 0 (.t 1)),.V 19 (.ld none (.t 18)),.V 20 (.call (.c (.fn 710 [])) [.t 19]),.V 17 (.mv (.t 20)),.V 21 (.ext (.t 17) 0),.V 22 (.ext (.t 17) 1),.W 5 (.asg (.t 21)),.V 6 (.asg (.t 22))] [1,4,5] [1,4,5,2000,2001,2003,2004,2006,2007]) (.seq (.seq (.reg false [.V 23 (.mv (.t 5)),.V 24 (.len (.t 23)),.V 25 (.mv (.c (.int .i64 0)))] [1,4,23,24,25] [1,4,5,2000,2001,2003,2004,2006,2007]) (.block 0 (.loop impl_BodyProblems_k1))) impl_BodyProblems_k5))))) }
noncomputable def impl_BodyProblems_D : List (Nat × Callee) := [(201,impl_ValidShop_c),(524,impl_Decimal_c),(708,impl_Cord_tension_c),(709,impl_BreakingStrings_c),(710,impl_CornersOf_c)]
def impl_BodyProblems_H : List (Nat × ET) := [(2,T_Problem),(4,T_Problem),(5,(.one (.int .i64))),(9,(.one (.int .i64))),(16,T_Problem),(19,T_Arc),(21,(.one (.int .i64))),(23,(.one (.int .i64))),(29,T_Problem),(33,T_Problem),(34,T_Problem),(38,T_Neck),(42,(.one (.int .i64))),(44,(.one (.int .i64))),(50,T_Problem),(54,T_Neck),(61,T_Problem),(62,T_Problem),(64,T_Problem)]
noncomputable def impl_BodyProblems_c : Callee := mkCallee impl_BodyProblems_D impl_BodyProblems_H impl_BodyProblems_ir [.d T_Shop] [.tok T_Problem,.d (.one (.int .i64))] []
noncomputable def impl_BodyProblems (a0 : T_Shop.ty) : Option (List T_Problem.ty × Int) := impl_BodyProblems_c.f (a0,())
noncomputable def impl_BodyProblems_p0  (v24 : Int) (v25 : Int) (r1_0 : List T_Arc.ty) (r1_1 : List T_Neck.ty) (r1_2 : Int) (r1_3 : List T_Step.ty) (r1_4 : List Int) (r1_5 : Int) (r1_6 : List T_Paper.ty) (r1_7 : List T_Entry.ty) (r4 : List T_Problem.ty) (r5 : List Int) : Option (List T_Problem.ty × Int) :=
 goL impl_BodyProblems_D impl_BodyProblems_H (vleave impl_BodyProblems_ir [.d T_Shop] [.tok T_Problem,.d (.one (.int .i64))] [] []) [.c impl_BodyProblems_k0,.l impl_BodyProblems_k1,.e 0,.c impl_BodyProblems_k5]
  ⟨[(1,.loc 1 0 0),(4,.view 4 0 r4.length),(23,.view 5 0 r5.length),(24,.int .i64 v24),(25,.int .i64 v25)],[(1,some (.var 8 (.agg [.sl T_Arc r1_0,.sl T_Neck r1_1,.int .i64 r1_2,.sl T_Step r1_3,.sl (.one (.int .i64)) r1_4,.int .i64 r1_5,.sl T_Paper r1_6,.sl T_Entry r1_7]))),(4,some (.sl T_Problem r4)),(5,some (.sl (.one (.int .i64)) r5)),(2000,none),(2001,none),(2003,none),(2004,none),(2006,none),(2007,none)]⟩
noncomputable def impl_BodyProblems_p1  (v45 : Int) (v46 : Int) (r1_0 : List T_Arc.ty) (r1_1 : List T_Neck.ty) (r1_2 : Int) (r1_3 : List T_Step.ty) (r1_4 : List Int) (r1_5 : Int) (r1_6 : List T_Paper.ty) (r1_7 : List T_Entry.ty) (r4 : List T_Problem.ty) (r9 : List Int) : Option (List T_Problem.ty × Int) :=
 goL impl_BodyProblems_D impl_BodyProblems_H (vleave impl_BodyProblems_ir [.d T_Shop] [.tok T_Problem,.d (.one (.int .i64))] [] []) [.c impl_BodyProblems_k2,.l impl_BodyProblems_k3,.e 2,.c impl_BodyProblems_k4]
  ⟨[(1,.loc 1 0 0),(4,.view 4 0 r4.length),(44,.view 9 0 r9.length),(45,.int .i64 v45),(46,.int .i64 v46)],[(1,some (.var 8 (.agg [.sl T_Arc r1_0,.sl T_Neck r1_1,.int .i64 r1_2,.sl T_Step r1_3,.sl (.one (.int .i64)) r1_4,.int .i64 r1_5,.sl T_Paper r1_6,.sl T_Entry r1_7]))),(4,some (.sl T_Problem r4)),(9,some (.sl (.one (.int .i64)) r9)),(2000,none),(2001,none),(2003,none),(2004,none),(2006,none),(2007,none)]⟩
theorem impl_BodyProblems_eq (a0 : T_Shop.ty) : impl_BodyProblems a0 =
 (impl_ValidShop a0).bind fun x1 =>
  if (!x1) then
   some ([],1)
  else
   (impl_CornersOf a0.1).bind fun x2 =>
    impl_BodyProblems_p0 (x2.1.length : Int) 0 a0.1 a0.2.1 a0.2.2.1 a0.2.2.2.1 a0.2.2.2.2.1 a0.2.2.2.2.2.1 a0.2.2.2.2.2.2.1 a0.2.2.2.2.2.2.2.1 [] x2.1 :=
 (mk_f _ _ _ _ _ _ _ 4000).trans (by kernel_rfl)
theorem impl_BodyProblems_p0_eq  (v24 : Int) (v25 : Int) (r1_0 : List T_Arc.ty) (r1_1 : List T_Neck.ty) (r1_2 : Int) (r1_3 : List T_Step.ty) (r1_4 : List Int) (r1_5 : Int) (r1_6 : List T_Paper.ty) (r1_7 : List T_Entry.ty) (r4 : List T_Problem.ty) (r5 : List Int) : impl_BodyProblems_p0 v24 v25 r1_0 r1_1 r1_2 r1_3 r1_4 r1_5 r1_6 r1_7 r4 r5 =
 if decide (v25 < v24) then
  if decide (0 ≤ v25) && decide (v25 < (r5.length : Int)) then
   (r5[v25.toNat]?).bind fun x1 =>
    (impl_Decimal x1).bind fun x2 =>
     if decide (r4.length + 1 < lim) then
      impl_BodyProblems_p0 v24 (IntKind.i64.wrap (v25 + 1)) r1_0 r1_1 r1_2 r1_3 r1_4 r1_5 r1_6 r1_7 ((r4.take r4.length) ++ [(1,x2,[99,111,114,110,101,114],())]) r5
     else
      none
  else
   none
 else
  (impl_BreakingStrings r1_1 r1_2).bind fun x3 =>
   impl_BodyProblems_p1 (x3.1.length : Int) 0 r1_0 r1_1 r1_2 r1_3 r1_4 r1_5 r1_6 r1_7 r4 x3.1 :=
 (goL_dn _ _ _ 4000 _ _).trans (by kernel_rfl)
theorem impl_BodyProblems_p1_eq  (v45 : Int) (v46 : Int) (r1_0 : List T_Arc.ty) (r1_1 : List T_Neck.ty) (r1_2 : Int) (r1_3 : List T_Step.ty) (r1_4 : List Int) (r1_5 : Int) (r1_6 : List T_Paper.ty) (r1_7 : List T_Entry.ty) (r4 : List T_Problem.ty) (r9 : List Int) : impl_BodyProblems_p1 v45 v46 r1_0 r1_1 r1_2 r1_3 r1_4 r1_5 r1_6 r1_7 r4 r9 =
 if decide (v46 < v45) then
  if decide (0 ≤ v46) && decide (v46 < (r9.length : Int)) then
   (r9[v46.toNat]?).bind fun x1 =>
    (impl_Decimal x1).bind fun x2 =>
     if decide (0 ≤ x1) then
      (r1_1[x1.toNat]?).bind fun x3 =>
       (impl_Cord_tension x3).bind fun x4 =>
        (impl_Decimal x4).bind fun x5 =>
         if decide (r4.length + 1 < lim) then
          impl_BodyProblems_p1 v45 (IntKind.i64.wrap (v46 + 1)) r1_0 r1_1 r1_2 r1_3 r1_4 r1_5 r1_6 r1_7 ((r4.take r4.length) ++ [(2,x2,x5,())]) r9
         else
          none
     else
      none
  else
   none
 else
  some ((r4.take r4.length),0) :=
 (goL_dn _ _ _ 4000 _ _).trans (by kernel_rfl)
def impl_used_k0 : C :=
 .seq (.reg false [.V 13 (.bin .lss (.t 12) (.t 11))] [0,2,7,10,11,12,13] []) (.seq (.cond (.t 13) .skip (.exit 0)) (.seq (.block 1 (.seq (.reg false [.V 14 (.mv (.t 12)),.V 15 (.ia 1 (.t 10) (.t 12)),.V 16 (.ld none (.t 15)),.V 8 (.asg (.t 14)),.V 9 (.asg (.t 16))] [0,2,7,8,9,10,11,12] []) (.seq (.reg false [.V 17 (.mv (.t 2)),.V 18 (.mv (.t 9)),.V 19 (.mv (.t 9)),.V 20 (.mv (.t 0)),.V 21 (.mv (.t 8)),.V 22 (.ia 4 (.t 20) (.t 21)),.V 23 (.fa 1 (.t 22)),.V 24 (.ld none (.t 23)),.V 25 (.bin .add (.t 19) (.t 24)),.V 26 (.bin .sub (.t 25) (.c (.int .i64 1))),.V 27 (.call (.c (.fn 23 [])) [.t 17,.t 18,.t 26])] [0,2,7,8,10,11,12,27] []) (.cond (.t 27) (.reg false [.V 28 (.mv (.t 7)),.V 29 (.mv (.t 0)),.V 30 (.mv (.t 8)),.V 31 (.ia 4 (.t 29) (.t 30)),.V 32 (.fa 2 (.t 31)),.V 33 (.ld none (.t 32)),.V 34 (.bin .add (.t 28) (.t 33)),.V 7 (.asg (.t 34))] [0,2,7,10,11,12] []) .skip)))) (.reg false [.V 35 (.bin .add (.t 12) (.c (.int .i64 1))),.V 12 (.mv (.t 35))] [0,2,7,10,11,12] [])))
def impl_used_k1 : C :=
 .norm [0,2,7,10,11,12] [] impl_used_k0
def impl_used_k2 : C :=
 .seq (.reg false [.V 36 (.mv (.t 7)),.V 6 (.asg (.t 36))] [6] []) .ret
def impl_used_ir : Fn := { np := 3,io := [],res := [.t 6],own := [false],body :=
 (.seq (.reg false [.V 6 (.asg (.c (.int .i64 0)))] [0,1,2] []) (.seq (.reg false [.V 7 (.asg (.c (.int .i64 0)))] [0,1,2,7] []) (.seq (.seq (.reg false [.V 10 (.mv (.t 1)),.V 11 (.len (.t 10)),.V 12 (.mv (.c (.int .i64 0)))] [0,2,7,10,11,12] []) (.block 0 (.loop impl_used_k1))) impl_used_k2))) }
noncomputable def impl_used_D : List (Nat × Callee) := [(23,impl_within_c)]
def impl_used_H : List (Nat × ET) := [(10,(.one (.int .i64))),(20,T_Step),(29,T_Step)]
noncomputable def impl_used_c : Callee := mkCallee impl_used_D impl_used_H impl_used_ir [.d (.one (.sl T_Step)),.d (.one (.sl (.one (.int .i64)))),.d (.one (.int .i64))] [.d (.one (.int .i64))] []
noncomputable def impl_used (a0 : List T_Step.ty) (a1 : List Int) (a2 : Int) : Option (Int) := impl_used_c.f (a0,a1,a2,())
noncomputable def impl_used_p0  (v0 : List T_Step.ty) (v2 : Int) (v7 : Int) (v10 : List Int) (v11 : Int) (v12 : Int) : Option (Int) :=
 goL impl_used_D impl_used_H (vleave impl_used_ir [.d (.one (.sl T_Step)),.d (.one (.sl (.one (.int .i64)))),.d (.one (.int .i64))] [.d (.one (.int .i64))] [] []) [.c impl_used_k0,.l impl_used_k1,.e 0,.c impl_used_k2]
  ⟨[(0,.sl T_Step v0),(2,.int .i64 v2),(7,.int .i64 v7),(10,.sl (.one (.int .i64)) v10),(11,.int .i64 v11),(12,.int .i64 v12)],[]⟩
theorem impl_used_eq (a0 : List T_Step.ty) (a1 : List Int) (a2 : Int) : impl_used a0 a1 a2 =
 impl_used_p0 a0 a2 0 a1 (a1.length : Int) 0 :=
 (mk_f _ _ _ _ _ _ _ 4000).trans (by kernel_rfl)
theorem impl_used_p0_eq  (v0 : List T_Step.ty) (v2 : Int) (v7 : Int) (v10 : List Int) (v11 : Int) (v12 : Int) : impl_used_p0 v0 v2 v7 v10 v11 v12 =
 if decide (v12 < v11) then
  if decide (0 ≤ v12) then
   (v10[v12.toNat]?).bind fun x1 =>
    if decide (0 ≤ v12) then
     (v0[v12.toNat]?).bind fun x2 =>
      (impl_within v2 x1 (IntKind.i64.wrap ((IntKind.i64.wrap (x1 + x2.2.1)) - 1))).bind fun x3 =>
       if x3 then
        if decide (0 ≤ v12) then
         (v0[v12.toNat]?).bind fun x4 =>
          impl_used_p0 v0 v2 (IntKind.i64.wrap (v7 + x4.2.2.1)) v10 v11 (IntKind.i64.wrap (v12 + 1))
        else
         none
       else
        impl_used_p0 v0 v2 v7 v10 v11 (IntKind.i64.wrap (v12 + 1))
    else
     none
  else
   none
 else
  some v7 :=
 (goL_dn _ _ _ 4000 _ _).trans (by kernel_rfl)
def impl_ready_k0 : C :=
 .seq (.reg false [.V 17 (.bin .lss (.t 16) (.t 15))] [0,1,7,14,15,16,17] []) (.seq (.cond (.t 17) .skip (.exit 0)) (.seq (.block 1 (.seq (.reg false [.V 18 (.ia 1 (.t 14) (.t 16)),.V 19 (.ld none (.t 18)),.V 9 (.asg (.t 19))] [0,1,7,9,14,15,16] []) (.reg true [.V 20 (.mv (.t 7)),.V 21 (.mv (.t 1)),.V 22 (.mv (.t 9)),.V 23 (.ia 1 (.t 21) (.t 22)),.V 24 (.ld none (.t 23)),.V 25 (.mv (.t 0)),.V 26 (.mv (.t 9)),.V 27 (.ia 4 (.t 25) (.t 26)),.V 28 (.fa 1 (.t 27)),.V 29 (.ld none (.t 28)),.V 30 (.bin .add (.t 24) (.t 29)),.V 31 (.max [.t 20,.t 30]),.V 7 (.asg (.t 31))] [0,1,7,14,15,16] []))) (.reg false [.V 32 (.bin .add (.t 16) (.c (.int .i64 1))),.V 16 (.mv (.t 32))] [0,1,7,14,15,16] [])))
def impl_ready_k1 : C :=
 .norm [0,1,7,14,15,16] [] impl_ready_k0
def impl_ready_k2 : C :=
 .seq (.reg false [.V 33 (.mv (.t 7)),.V 6 (.asg (.t 33))] [6] []) .ret
def impl_ready_ir : Fn := { np := 3,io := [],res := [.t 6],own := [false],body :=
 (.seq (.reg false [.V 6 (.asg (.c (.int .i64 0)))] [0,1,2] []) (.seq (.reg false [.V 7 (.asg (.c (.int .i64 0)))] [0,1,2,7] []) (.seq (.seq (.reg false [.V 10 (.mv (.t 0)),.V 11 (.mv (.t 2)),.V 12 (.ia 4 (.t 10) (.t 11)),.V 13 (.fa 3 (.t 12)),.V 14 (.ld none (.t 13)),.V 15 (.len (.t 14)),.V 16 (.mv (.c (.int .i64 0)))] [0,1,7,14,15,16] []) (.block 0 (.loop impl_ready_k1))) impl_ready_k2))) }
noncomputable def impl_ready_D : List (Nat × Callee) := []
def impl_ready_H : List (Nat × ET) := [(10,T_Step),(14,(.one (.int .i64))),(21,(.one (.int .i64))),(25,T_Step)]
noncomputable def impl_ready_c : Callee := mkCallee impl_ready_D impl_ready_H impl_ready_ir [.d (.one (.sl T_Step)),.d (.one (.sl (.one (.int .i64)))),.d (.one (.int .i64))] [.d (.one (.int .i64))] []
noncomputable def impl_ready (a0 : List T_Step.ty) (a1 : List Int) (a2 : Int) : Option (Int) := impl_ready_c.f (a0,a1,a2,())
noncomputable def impl_ready_p0  (v0 : List T_Step.ty) (v1 : List Int) (v7 : Int) (v14 : List Int) (v15 : Int) (v16 : Int) : Option (Int) :=
 goL impl_ready_D impl_ready_H (vleave impl_ready_ir [.d (.one (.sl T_Step)),.d (.one (.sl (.one (.int .i64)))),.d (.one (.int .i64))] [.d (.one (.int .i64))] [] []) [.c impl_ready_k0,.l impl_ready_k1,.e 0,.c impl_ready_k2]
  ⟨[(0,.sl T_Step v0),(1,.sl (.one (.int .i64)) v1),(7,.int .i64 v7),(14,.sl (.one (.int .i64)) v14),(15,.int .i64 v15),(16,.int .i64 v16)],[]⟩
theorem impl_ready_eq (a0 : List T_Step.ty) (a1 : List Int) (a2 : Int) : impl_ready a0 a1 a2 =
 if decide (0 ≤ a2) then
  (a0[a2.toNat]?).bind fun x1 =>
   impl_ready_p0 a0 a1 0 x1.2.2.2.1 (x1.2.2.2.1.length : Int) 0
 else
  none :=
 (mk_f _ _ _ _ _ _ _ 4000).trans (by kernel_rfl)
theorem impl_ready_p0_eq  (v0 : List T_Step.ty) (v1 : List Int) (v7 : Int) (v14 : List Int) (v15 : Int) (v16 : Int) : impl_ready_p0 v0 v1 v7 v14 v15 v16 =
 if decide (v16 < v15) then
  if decide (0 ≤ v16) then
   (v14[v16.toNat]?).bind fun x1 =>
    if decide (0 ≤ x1) then
     (v1[x1.toNat]?).bind fun x2 =>
      if decide (0 ≤ x1) then
       (v0[x1.toNat]?).bind fun x3 =>
        impl_ready_p0 v0 v1 (if IntKind.i64.wrap (x2 + x3.2.1) > v7 then IntKind.i64.wrap (x2 + x3.2.1) else v7) v14 v15 (IntKind.i64.wrap (v16 + 1))
      else
       none
    else
     none
  else
   none
 else
  some v7 :=
 (goL_dn _ _ _ 4000 _ _).trans (by kernel_rfl)
def impl_WorkProblems_k0 : C :=
 .seq (.reg false [.V 16 (.bin .lss (.t 15) (.t 14))] [1,4,13,14,15,16] [1,4,2000,2001,2003,2004,2006,2007]) (.seq (.cond (.t 16) .skip (.exit 0)) (.seq (.block 1 (.seq (.reg false [.V 17 (.mv (.t 15)),.V 18 (.ia 4 (.t 13) (.t 15)),.V 19 (.ld (some 4) (.t 18)),.W 6 (.alloc 4 (.agg [.str [],.int .i64 0,.int .i64 0,.nils 1])),.V 5 (.asg (.t 17)),⟨none,true,.sto 4 (.t 6) (.t 19),none,false,[]⟩] [1,4,5,6,13,14,15] [1,4,6,2000,2001,2003,2004,2006,2007,7003]) (.seq (.reg true [.V 20 (.fa 3 (.t 1)),.V 21 (.ld none (.t 20)),.V 22 (.fa 4 (.t 1)),.V 23 (.ld none (.t 22)),.V 24 (.fa 4 (.t 1)),.V 25 (.ld none (.t 24)),.V 26 (.mv (.t 5)),.V 27 (.ia 1 (.t 25) (.t 26)),.V 28 (.ld none (.t 27)),.V 29 (.call (.c (.fn 540 [])) [.t 21,.t 23,.t 28]),.V 7 (.asg (.t 29))] [1,4,5,6,7,13,14,15] [1,4,6,2000,2001,2003,2004,2006,2007,7003]) (.block 2 (.seq (.reg true [.V 31 (.fa 4 (.t 1)),.V 32 (.ld none (.t 31)),.V 33 (.mv (.t 5)),.V 34 (.ia 1 (.t 32) (.t 33)),.V 35 (.ld none (.t 34)),.V 36 (.fa 3 (.t 1)),.V 37 (.ld none (.t 36)),.V 38 (.fa 4 (.t 1)),.V 39 (.ld none (.t 38)),.V 40 (.mv (.t 5)),.V 41 (.call (.c (.fn 539 [])) [.t 37,.t 39,.t 40]),.V 42 (.bin .lss (.t 35) (.t 41)),.V 30 (.asg (.t 42))] [1,4,6,7,13,14,15,30] [1,4,6,2000,2001,2003,2004,2006,2007,7003]) (.cond (.t 30) (.reg false [.V 43 (.mv (.t 4)),.V 44 (.fa 0 (.t 6)),.V 45 (.ld none (.t 44)),.V 46 (.build [.int .i64 0,.str [],.str []] [(0,1,.c (.int .i64 3)),(1,1,.t 45),(2,1,.c (.str [101,97,114,108,121]))]),.V 47 (.bsl 3 (.agg [.int .i64 0,.str [],.str []]) 1 [(0,.t 46)]),.W 48 (.app 3 40 (.t 43) (.t 47)),.W 4 (.asg (.t 48))] [1,4,13,14,15] [1,4,2000,2001,2003,2004,2006,2007]) (.seq (.reg false [.V 50 (.mv (.t 7)),.V 51 (.fa 5 (.t 1)),.V 52 (.ld none (.t 51)),.V 53 (.bin .gtr (.t 50) (.t 52)),.V 49 (.asg (.t 53))] [1,4,6,7,13,14,15,49] [1,4,6,2000,2001,2003,2004,2006,2007,7003]) (.cond (.t 49) (.reg true [.V 54 (.mv (.t 4)),.V 55 (.fa 0 (.t 6)),.V 56 (.ld none (.t 55)),.V 57 (.mv (.t 7)),.V 58 (.call (.c (.fn 524 [])) [.t 57]),.V 59 (.build [.int .i64 0,.str [],.str []] [(0,1,.c (.int .i64 3)),(1,1,.t 56),(2,1,.t 58)]),.V 60 (.bsl 3 (.agg [.int .i64 0,.str [],.str []]) 1 [(0,.t 59)]),.W 61 (.app 3 40 (.t 54) (.t 60)),.W 4 (.asg (.t 61))] [1,4,13,14,15] [1,4,2000,2001,2003,2004,2006,2007]) .skip)))))))) (.reg false [.V 62 (.bin .add (.t 15) (.c (.int .i64 1))),.V 15 (.mv (.t 62))] [1,4,13,14,15] [1,4,2000,2001,2003,2004,2006,2007])))
def impl_WorkProblems_k1 : C :=
 .norm [1,4,13,14,15] [1,4,2000,2001,2003,2004,2006,2007] impl_WorkProblems_k0
def impl_WorkProblems_k2 : C :=
 .seq (.reg false [.V 63 (.mv (.t 4)),.W 2 (.asg (.t 63)),.V 3 (.asg (.c (.int .i64 0)))] [2,3] [2,4]) .ret
def impl_WorkProblems_ir : Fn := { np := 1,io := [],res := [.t 2,.t 3],own := [true,false],body :=
 (.seq (.reg false [.W 1 (.box 8 (.t 0)),.W 2 (.asg (.c (.nils 3))),.V 3 (.asg (.c (.int .i64 0)))] [1] [1,2000,2001,2003,2004,2006,2007]) (.seq (.seq (.reg false [.V 8 (.ld (some 8) (.t 1)),.V 9 (.call (.c (.fn 201 [])) [.t 8]),.V 10 (.un .not (.t 9))] [1,10] [1,2000,2001,2003,2004,2006,2007]) (.cond (.t 10) (.seq (.reg false [.W 2 (.asg (.c (.nils 3))),.V 3 (.asg (.c (.int .i64 1)))] [2,3] [2,4]) .ret) .skip)) (.seq (.reg false [.V 11 (.bsl 3 (.agg [.int .i64 0,.str [],.str []]) 0 []),.W 4 (.asg (.t 11))] [1,4] [1,4,2000,2001,2003,2004,2006,2007]) (.seq (.seq (.reg false [.V 12 (.fa 3 (.t 1)),.V 13 (.ld none (.t 12)),.V 14 (.len (.t 13)),.V 15 (.mv (.c (.int .i64 0)))] [1,4,13,14,15] [1,4,2000,2001,2003,2004,2006,2007]) (.block 0 (.loop impl_WorkProblems_k1))) impl_WorkProblems_k2)))) }
noncomputable def impl_WorkProblems_D : List (Nat × Callee) := [(201,impl_ValidShop_c),(524,impl_Decimal_c),(539,impl_ready_c),(540,impl_used_c)]
def impl_WorkProblems_H : List (Nat × ET) := [(2,T_Problem),(4,T_Problem),(11,T_Problem),(13,T_Step),(21,T_Step),(23,(.one (.int .i64))),(25,(.one (.int .i64))),(32,(.one (.int .i64))),(37,T_Step),(39,(.one (.int .i64))),(43,T_Problem),(47,T_Problem),(48,T_Problem),(54,T_Problem),(60,T_Problem),(61,T_Problem),(63,T_Problem)]
noncomputable def impl_WorkProblems_c : Callee := mkCallee impl_WorkProblems_D impl_WorkProblems_H impl_WorkProblems_ir [.d T_Shop] [.tok T_Problem,.d (.one (.int .i64))] []
noncomputable def impl_WorkProblems (a0 : T_Shop.ty) : Option (List T_Problem.ty × Int) := impl_WorkProblems_c.f (a0,())
noncomputable def impl_WorkProblems_p0  (v13 : List T_Step.ty) (v14 : Int) (v15 : Int) (r1_0 : List T_Arc.ty) (r1_1 : List T_Neck.ty) (r1_2 : Int) (r1_3 : List T_Step.ty) (r1_4 : List Int) (r1_5 : Int) (r1_6 : List T_Paper.ty) (r1_7 : List T_Entry.ty) (r4 : List T_Problem.ty) : Option (List T_Problem.ty × Int) :=
 goL impl_WorkProblems_D impl_WorkProblems_H (vleave impl_WorkProblems_ir [.d T_Shop] [.tok T_Problem,.d (.one (.int .i64))] [] []) [.c impl_WorkProblems_k0,.l impl_WorkProblems_k1,.e 0,.c impl_WorkProblems_k2]
  ⟨[(1,.loc 1 0 0),(4,.view 4 0 r4.length),(13,.sl T_Step v13),(14,.int .i64 v14),(15,.int .i64 v15)],[(1,some (.var 8 (.agg [.sl T_Arc r1_0,.sl T_Neck r1_1,.int .i64 r1_2,.sl T_Step r1_3,.sl (.one (.int .i64)) r1_4,.int .i64 r1_5,.sl T_Paper r1_6,.sl T_Entry r1_7]))),(4,some (.sl T_Problem r4)),(2000,none),(2001,none),(2003,none),(2004,none),(2006,none),(2007,none)]⟩
theorem impl_WorkProblems_eq (a0 : T_Shop.ty) : impl_WorkProblems a0 =
 (impl_ValidShop a0).bind fun x1 =>
  if (!x1) then
   some ([],1)
  else
   impl_WorkProblems_p0 a0.2.2.2.1 (a0.2.2.2.1.length : Int) 0 a0.1 a0.2.1 a0.2.2.1 a0.2.2.2.1 a0.2.2.2.2.1 a0.2.2.2.2.2.1 a0.2.2.2.2.2.2.1 a0.2.2.2.2.2.2.2.1 [] :=
 (mk_f _ _ _ _ _ _ _ 4000).trans (by kernel_rfl)
theorem impl_WorkProblems_p0_eq  (v13 : List T_Step.ty) (v14 : Int) (v15 : Int) (r1_0 : List T_Arc.ty) (r1_1 : List T_Neck.ty) (r1_2 : Int) (r1_3 : List T_Step.ty) (r1_4 : List Int) (r1_5 : Int) (r1_6 : List T_Paper.ty) (r1_7 : List T_Entry.ty) (r4 : List T_Problem.ty) : impl_WorkProblems_p0 v13 v14 v15 r1_0 r1_1 r1_2 r1_3 r1_4 r1_5 r1_6 r1_7 r4 =
 if decide (v15 < v14) then
  if decide (0 ≤ v15) then
   (v13[v15.toNat]?).bind fun x1 =>
    if decide (0 ≤ v15) then
     (r1_4[v15.toNat]?).bind fun x2 =>
      (impl_used r1_3 r1_4 x2).bind fun x3 =>
       if decide (0 ≤ v15) then
        (r1_4[v15.toNat]?).bind fun x4 =>
         (impl_ready r1_3 r1_4 v15).bind fun x5 =>
          if decide (x4 < x5) then
           if decide (r4.length + 1 < lim) then
            impl_WorkProblems_p0 v13 v14 (IntKind.i64.wrap (v15 + 1)) r1_0 r1_1 r1_2 r1_3 r1_4 r1_5 r1_6 r1_7 ((r4.take r4.length) ++ [(3,x1.1,[101,97,114,108,121],())])
           else
            none
          else
           if decide (x3 > r1_5) then
            (impl_Decimal x3).bind fun x6 =>
             if decide (r4.length + 1 < lim) then
              impl_WorkProblems_p0 v13 v14 (IntKind.i64.wrap (v15 + 1)) r1_0 r1_1 r1_2 r1_3 r1_4 r1_5 r1_6 r1_7 ((r4.take r4.length) ++ [(3,x1.1,x6,())])
             else
              none
           else
            impl_WorkProblems_p0 v13 v14 (IntKind.i64.wrap (v15 + 1)) r1_0 r1_1 r1_2 r1_3 r1_4 r1_5 r1_6 r1_7 r4
       else
        none
    else
     none
  else
   none
 else
  some ((r4.take r4.length),0) :=
 (goL_dn _ _ _ 4000 _ _).trans (by kernel_rfl)
def impl_Rental_end_ir : Fn := { np := 1,io := [],res := [.t 2],own := [false],body :=
 (.seq (.reg false [.W 1 (.box 5 (.t 0)),.V 2 (.asg (.c (.int .i64 0)))] [1] [1]) (.seq (.reg false [.V 3 (.fa 2 (.t 1)),.V 4 (.ld none (.t 3)),.V 5 (.fa 3 (.t 1)),.V 6 (.ld none (.t 5)),.V 7 (.bin .mul (.c (.int .i64 30)) (.t 6)),.V 8 (.bin .add (.t 4) (.t 7)),.V 2 (.asg (.t 8))] [2] []) .ret)) }
noncomputable def impl_Rental_end_D : List (Nat × Callee) := []
def impl_Rental_end_H : List (Nat × ET) := []
noncomputable def impl_Rental_end_c : Callee := mkCallee impl_Rental_end_D impl_Rental_end_H impl_Rental_end_ir [.d T_Paper] [.d (.one (.int .i64))] []
noncomputable def impl_Rental_end (a0 : T_Paper.ty) : Option (Int) := impl_Rental_end_c.f (a0,())
theorem impl_Rental_end_eq (a0 : T_Paper.ty) : impl_Rental_end a0 =
 some (IntKind.i64.wrap (a0.2.2.1 + (IntKind.i64.wrap (30 * a0.2.2.2.1)))) :=
 (mk_f _ _ _ _ _ _ _ 4000).trans (by kernel_rfl)
def impl_Rental_clashes_ir : Fn := { np := 2,io := [],res := [.t 4],own := [false],body :=
 (.seq (.reg false [.W 2 (.box 5 (.t 0)),.W 3 (.box 5 (.t 1)),.V 4 (.asg (.c (.bool false)))] [2,3] [2,3]) (.seq (.reg true [.V 5 (.fa 1 (.t 2)),.V 6 (.ld none (.t 5)),.V 7 (.fa 1 (.t 3)),.V 8 (.ld none (.t 7)),.V 9 (.bin .eql (.t 6) (.t 8)),.V 10 (.mv (.t 9)),.G 11 (.fa 2 (.t 2)) 5 true,.G 12 (.ld none (.t 11)) 5 true,.G 13 (.fa 2 (.t 3)) 5 true,.G 14 (.ld none (.t 13)) 5 true,.G 15 (.max [.t 12,.t 14]) 5 true,.G 16 (.ld (some 5) (.t 2)) 5 true,.G 17 (.call (.c (.fn 1045 [])) [.t 16]) 5 true,.G 18 (.ld (some 5) (.t 3)) 5 true,.G 19 (.call (.c (.fn 1045 [])) [.t 18]) 5 true,.G 20 (.min [.t 17,.t 19]) 5 true,.G 21 (.bin .lss (.t 15) (.t 20)) 5 true,.V 22 (.pick (.t 10) (.t 21) (.c (.bool false))),.V 4 (.asg (.t 22))] [4] []) .ret)) }
noncomputable def impl_Rental_clashes_D : List (Nat × Callee) := [(1045,impl_Rental_end_c)]
def impl_Rental_clashes_H : List (Nat × ET) := []
noncomputable def impl_Rental_clashes_c : Callee := mkCallee impl_Rental_clashes_D impl_Rental_clashes_H impl_Rental_clashes_ir [.d T_Paper,.d T_Paper] [.d (.one .bool)] []
noncomputable def impl_Rental_clashes (a0 : T_Paper.ty) (a1 : T_Paper.ty) : Option (Bool) := impl_Rental_clashes_c.f (a0,a1,())
theorem impl_Rental_clashes_eq (a0 : T_Paper.ty) (a1 : T_Paper.ty) : impl_Rental_clashes a0 a1 =
 if (a0.2.1 == a1.2.1) then
  (impl_Rental_end a0).bind fun x1 =>
   (impl_Rental_end a1).bind fun x2 =>
    some (decide ((if a1.2.2.1 > a0.2.2.1 then a1.2.2.1 else a0.2.2.1) < (if x2 < x1 then x2 else x1)))
 else
  some false :=
 (mk_f _ _ _ _ _ _ _ 4000).trans (by kernel_rfl)
def impl_ClashesOf_k0 : C :=
 .seq (.seq (.reg false [.V 21 (.mv (.t 7)),.V 22 (.mv (.t 0)),.V 23 (.len (.t 22)),.V 24 (.bin .lss (.t 21) (.t 23))] [0,4,5,6,7,12,13,14,24] [4,6]) (.cond (.t 24) .skip (.exit 2))) (.seq (.block 3 (.seq (.reg true [.V 27 (.ld (some 5) (.t 6)),.V 28 (.mv (.t 0)),.V 29 (.mv (.t 7)),.V 30 (.ia 5 (.t 28) (.t 29)),.V 31 (.ld (some 5) (.t 30)),.V 32 (.call (.c (.fn 941 [])) [.t 27,.t 31])] [0,4,5,6,7,12,13,14,32] [4,6]) (.cond (.t 32) (.reg false [.V 33 (.mv (.t 4)),.V 34 (.mv (.t 5)),.V 35 (.mv (.t 7)),.V 36 (.bsl 1 (.int .i64 0) 2 [(0,.t 34),(1,.t 35)]),.W 37 (.bsl 1 (.sl 1 []) 1 [(0,.t 36)]),.W 38 (.app 1 24 (.t 33) (.t 37)),.W 4 (.asg (.t 38))] [0,4,5,6,7,12,13,14] [4,6]) .skip))) (.reg false [.V 25 (.mv (.t 7)),.V 26 (.bin .add (.t 25) (.c (.int .i64 1))),.V 7 (.asg (.t 26))] [0,4,5,6,7,12,13,14] [4,6]))
def impl_ClashesOf_k1 : C :=
 .norm [0,4,5,6,7,12,13,14] [4,6] impl_ClashesOf_k0
def impl_ClashesOf_k2 : C :=
 .reg false [.V 39 (.bin .add (.t 14) (.c (.int .i64 1))),.V 14 (.mv (.t 39))] [0,4,12,13,14] [4]
def impl_ClashesOf_k3 : C :=
 .seq (.reg false [.V 15 (.bin .lss (.t 14) (.t 13))] [0,4,12,13,14,15] [4]) (.seq (.cond (.t 15) .skip (.exit 0)) (.seq (.block 1 (.seq (.reg false [.V 16 (.mv (.t 14)),.V 17 (.ia 5 (.t 12) (.t 14)),.V 18 (.ld (some 5) (.t 17)),.W 6 (.alloc 5 (.agg [.str [],.str [],.int .i64 0,.int .i64 0,.int .i64 0])),.V 5 (.asg (.t 16)),⟨none,true,.sto 5 (.t 6) (.t 18),none,false,[]⟩] [0,4,5,6,12,13,14] [4,6]) (.seq (.reg false [.V 19 (.mv (.t 5)),.V 20 (.bin .add (.t 19) (.c (.int .i64 1))),.V 7 (.asg (.t 20))] [0,4,5,6,7,12,13,14] [4,6]) (.block 2 (.loop impl_ClashesOf_k1))))) impl_ClashesOf_k2))
def impl_ClashesOf_k4 : C :=
 .norm [0,4,12,13,14] [4] impl_ClashesOf_k3
def impl_ClashesOf_k5 : C :=
 .seq (.reg false [.V 40 (.mv (.t 4)),.W 2 (.asg (.t 40)),.V 3 (.asg (.c (.int .i64 0)))] [2,3] [2,4]) .ret
def impl_ClashesOf_ir : Fn := { np := 1,io := [],res := [.t 2,.t 3],own := [false,false],body :=
 (.seq (.reg false [.W 2 (.asg (.c (.nils 1))),.V 3 (.asg (.c (.int .i64 0)))] [0] []) (.seq (.seq (.reg false [.V 8 (.mv (.t 0)),.V 9 (.call (.c (.fn 611 [])) [.t 8]),.V 10 (.un .not (.t 9))] [0,10] []) (.cond (.t 10) (.seq (.reg false [.W 2 (.asg (.c (.nils 1))),.V 3 (.asg (.c (.int .i64 1)))] [2,3] [2,4]) .ret) .skip)) (.seq (.reg false [.V 11 (.bsl 1 (.sl 1 []) 0 []),.W 4 (.asg (.t 11))] [0,4] [4]) (.seq (.seq (.reg false [.V 12 (.mv (.t 0)),.V 13 (.len (.t 12)),.V 14 (.mv (.c (.int .i64 0)))] [0,4,12,13,14] [4]) (.block 0 (.loop impl_ClashesOf_k4))) impl_ClashesOf_k5)))) }
noncomputable def impl_ClashesOf_D : List (Nat × Callee) := [(611,impl_ValidRentals_c),(941,impl_Rental_clashes_c)]
def impl_ClashesOf_H : List (Nat × ET) := [(2,(.one (.sl (.one (.int .i64))))),(4,(.one (.sl (.one (.int .i64))))),(8,T_Paper),(11,(.one (.sl (.one (.int .i64))))),(12,T_Paper),(22,T_Paper),(28,T_Paper),(33,(.one (.sl (.one (.int .i64))))),(36,(.one (.int .i64))),(37,(.one (.sl (.one (.int .i64))))),(38,(.one (.sl (.one (.int .i64))))),(40,(.one (.sl (.one (.int .i64)))))]
noncomputable def impl_ClashesOf_c : Callee := mkCallee impl_ClashesOf_D impl_ClashesOf_H impl_ClashesOf_ir [.d (.one (.sl T_Paper))] [.d (.one (.sl (.one (.sl (.one (.int .i64)))))),.d (.one (.int .i64))] []
noncomputable def impl_ClashesOf (a0 : List T_Paper.ty) : Option (List (List Int) × Int) := impl_ClashesOf_c.f (a0,())
noncomputable def impl_ClashesOf_p0  (v0 : List T_Paper.ty) (v12 : List T_Paper.ty) (v13 : Int) (v14 : Int) (r4 : List (List Int)) : Option (List (List Int) × Int) :=
 goL impl_ClashesOf_D impl_ClashesOf_H (vleave impl_ClashesOf_ir [.d (.one (.sl T_Paper))] [.d (.one (.sl (.one (.sl (.one (.int .i64)))))),.d (.one (.int .i64))] [] []) [.c impl_ClashesOf_k3,.l impl_ClashesOf_k4,.e 0,.c impl_ClashesOf_k5]
  ⟨[(0,.sl T_Paper v0),(4,.view 4 0 r4.length),(12,.sl T_Paper v12),(13,.int .i64 v13),(14,.int .i64 v14)],[(4,some (.sl (.one (.sl (.one (.int .i64)))) r4))]⟩
noncomputable def impl_ClashesOf_p1  (v0 : List T_Paper.ty) (v5 : Int) (v7 : Int) (v12 : List T_Paper.ty) (v13 : Int) (v14 : Int) (r4 : List (List Int)) (r6_0 : List UInt8) (r6_1 : List UInt8) (r6_2 : Int) (r6_3 : Int) (r6_4 : Int) : Option (List (List Int) × Int) :=
 goL impl_ClashesOf_D impl_ClashesOf_H (vleave impl_ClashesOf_ir [.d (.one (.sl T_Paper))] [.d (.one (.sl (.one (.sl (.one (.int .i64)))))),.d (.one (.int .i64))] [] []) [.c impl_ClashesOf_k0,.l impl_ClashesOf_k1,.e 2,.e 1,.c impl_ClashesOf_k2,.l impl_ClashesOf_k4,.e 0,.c impl_ClashesOf_k5]
  ⟨[(0,.sl T_Paper v0),(4,.view 4 0 r4.length),(5,.int .i64 v5),(6,.loc 6 0 0),(7,.int .i64 v7),(12,.sl T_Paper v12),(13,.int .i64 v13),(14,.int .i64 v14)],[(4,some (.sl (.one (.sl (.one (.int .i64)))) r4)),(6,some (.var 5 (.agg [.str r6_0,.str r6_1,.int .i64 r6_2,.int .i64 r6_3,.int .i64 r6_4])))]⟩
theorem impl_ClashesOf_eq (a0 : List T_Paper.ty) : impl_ClashesOf a0 =
 (impl_ValidRentals a0).bind fun x1 =>
  if (!x1) then
   some ([],1)
  else
   impl_ClashesOf_p0 a0 a0 (a0.length : Int) 0 [] :=
 (mk_f _ _ _ _ _ _ _ 4000).trans (by kernel_rfl)
theorem impl_ClashesOf_p0_eq  (v0 : List T_Paper.ty) (v12 : List T_Paper.ty) (v13 : Int) (v14 : Int) (r4 : List (List Int)) : impl_ClashesOf_p0 v0 v12 v13 v14 r4 =
 if decide (v14 < v13) then
  if decide (0 ≤ v14) then
   (v12[v14.toNat]?).bind fun x1 =>
    impl_ClashesOf_p1 v0 v14 (IntKind.i64.wrap (v14 + 1)) v12 v13 v14 r4 x1.1 x1.2.1 x1.2.2.1 x1.2.2.2.1 x1.2.2.2.2.1
  else
   none
 else
  some ((r4.take r4.length),0) :=
 (goL_dn _ _ _ 4000 _ _).trans (by kernel_rfl)
theorem impl_ClashesOf_p1_eq  (v0 : List T_Paper.ty) (v5 : Int) (v7 : Int) (v12 : List T_Paper.ty) (v13 : Int) (v14 : Int) (r4 : List (List Int)) (r6_0 : List UInt8) (r6_1 : List UInt8) (r6_2 : Int) (r6_3 : Int) (r6_4 : Int) : impl_ClashesOf_p1 v0 v5 v7 v12 v13 v14 r4 r6_0 r6_1 r6_2 r6_3 r6_4 =
 if decide (v7 < (v0.length : Int)) then
  if decide (0 ≤ v7) then
   (v0[v7.toNat]?).bind fun x1 =>
    (impl_Rental_clashes (r6_0,r6_1,r6_2,r6_3,r6_4,()) x1).bind fun x2 =>
     if x2 then
      if decide (r4.length + 1 < lim) then
       impl_ClashesOf_p1 v0 v5 (IntKind.i64.wrap (v7 + 1)) v12 v13 v14 ((r4.take r4.length) ++ [[v5,v7]]) r6_0 r6_1 r6_2 r6_3 r6_4
      else
       none
     else
      impl_ClashesOf_p1 v0 v5 (IntKind.i64.wrap (v7 + 1)) v12 v13 v14 r4 r6_0 r6_1 r6_2 r6_3 r6_4
  else
   none
 else
  impl_ClashesOf_p0 v0 v12 v13 (IntKind.i64.wrap (v14 + 1)) r4 :=
 (goL_dn _ _ _ 4000 _ _).trans (by kernel_rfl)
def impl_Entry_change_ir : Fn := { np := 2,io := [],res := [.t 4],own := [false],body :=
 (.seq (.reg false [.W 2 (.box 4 (.t 0)),.V 4 (.asg (.c (.int .i64 0)))] [1,2] [2]) (.seq (.seq (.reg false [.V 5 (.mv (.t 1))] [2,5] [2]) (.block 0 (.seq (.reg false [.V 7 (.fa 1 (.t 2)),.V 8 (.ld none (.t 7)),.V 9 (.bin .eql (.t 5) (.t 8)),.V 6 (.asg (.t 9))] [2,5,6] [2]) (.cond (.t 6) (.seq (.reg false [.V 10 (.fa 3 (.t 2)),.V 11 (.ld none (.t 10)),.V 4 (.asg (.t 11))] [4] []) .ret) (.seq (.reg false [.V 13 (.fa 2 (.t 2)),.V 14 (.ld none (.t 13)),.V 15 (.bin .eql (.t 5) (.t 14)),.V 12 (.asg (.t 15))] [2,12] [2]) (.cond (.t 12) (.seq (.reg false [.V 16 (.fa 3 (.t 2)),.V 17 (.ld none (.t 16)),.V 18 (.un .neg (.t 17)),.V 4 (.asg (.t 18))] [4] []) .ret) .skip)))))) (.seq (.reg false [.V 4 (.asg (.c (.int .i64 0)))] [4] []) .ret))) }
noncomputable def impl_Entry_change_D : List (Nat × Callee) := []
def impl_Entry_change_H : List (Nat × ET) := []
noncomputable def impl_Entry_change_c : Callee := mkCallee impl_Entry_change_D impl_Entry_change_H impl_Entry_change_ir [.d T_Entry,.d (.one .str)] [.d (.one (.int .i64))] []
noncomputable def impl_Entry_change (a0 : T_Entry.ty) (a1 : List UInt8) : Option (Int) := impl_Entry_change_c.f (a0,a1,())
theorem impl_Entry_change_eq (a0 : T_Entry.ty) (a1 : List UInt8) : impl_Entry_change a0 a1 =
 if (a1 == a0.2.1) then
  some a0.2.2.2.1
 else
  if (a1 == a0.2.2.1) then
   some (IntKind.i64.wrap (0 - a0.2.2.2.1))
  else
   some 0 :=
 (mk_f _ _ _ _ _ _ _ 4000).trans (by kernel_rfl)
def impl_FirstBelow_k0 : C :=
 .seq (.reg false [.V 20 (.bin .lss (.t 19) (.t 18))] [1,6,17,18,19,20] []) (.seq (.cond (.t 20) .skip (.exit 0)) (.seq (.block 1 (.seq (.reg false [.V 21 (.mv (.t 19)),.V 22 (.ia 4 (.t 17) (.t 19)),.V 23 (.ld (some 4) (.t 22)),.W 8 (.alloc 4 (.agg [.int .i64 0,.str [],.str [],.int .i64 0])),.V 7 (.asg (.t 21)),⟨none,true,.sto 4 (.t 8) (.t 23),none,false,[]⟩] [1,6,7,8,17,18,19] [8]) (.seq (.reg false [.V 24 (.mv (.t 6)),.V 25 (.ld (some 4) (.t 8)),.V 26 (.mv (.t 1)),.V 27 (.call (.c (.fn 622 [])) [.t 25,.t 26]),.V 28 (.bin .add (.t 24) (.t 27)),.V 6 (.asg (.t 28))] [1,6,7,17,18,19] []) (.seq (.reg false [.V 29 (.mv (.t 6)),.V 30 (.bin .lss (.t 29) (.c (.int .i64 0)))] [1,6,7,17,18,19,30] []) (.cond (.t 30) (.seq (.reg false [.V 31 (.mv (.t 7)),.V 4 (.asg (.t 31)),.V 5 (.asg (.c (.int .i64 0)))] [4,5] []) .ret) .skip))))) (.reg false [.V 32 (.bin .add (.t 19) (.c (.int .i64 1))),.V 19 (.mv (.t 32))] [1,6,17,18,19] [])))
def impl_FirstBelow_k1 : C :=
 .norm [1,6,17,18,19] [] impl_FirstBelow_k0
def impl_FirstBelow_k2 : C :=
 .seq (.reg false [.V 4 (.asg (.c (.int .i64 0))),.V 5 (.asg (.c (.int .i64 3)))] [4,5] []) .ret
def impl_FirstBelow_k3 : C :=
 .seq (.reg false [.V 6 (.asg (.c (.int .i64 0)))] [0,1,6] []) (.seq (.seq (.reg false [.V 17 (.mv (.t 0)),.V 18 (.len (.t 17)),.V 19 (.mv (.c (.int .i64 0)))] [1,6,17,18,19] []) (.block 0 (.loop impl_FirstBelow_k1))) impl_FirstBelow_k2)
def impl_FirstBelow_ir : Fn := { np := 2,io := [],res := [.t 4,.t 5],own := [false,false],body :=
 (.seq (.reg false [.V 4 (.asg (.c (.int .i64 0))),.V 5 (.asg (.c (.int .i64 0)))] [0,1] []) (.seq (.seq (.reg false [.V 9 (.mv (.t 0)),.V 10 (.call (.c (.fn 213 [])) [.t 9]),.V 11 (.un .not (.t 10)),.V 12 (.mv (.t 11)),.G 13 (.mv (.t 1)) 3 false,.G 14 (.call (.c (.fn 24 [])) [.t 13]) 3 false,.G 15 (.un .not (.t 14)) 3 false,.V 16 (.pick (.t 12) (.c (.bool true)) (.t 15))] [0,1,16] []) (.cond (.t 16) (.seq (.reg false [.V 4 (.asg (.c (.int .i64 0))),.V 5 (.asg (.c (.int .i64 1)))] [4,5] []) .ret) .skip)) (.norm [0,1] [] impl_FirstBelow_k3))) }
noncomputable def impl_FirstBelow_D : List (Nat × Callee) := [(24,impl_IsName_c),(213,impl_ValidBook_c),(622,impl_Entry_change_c)]
def impl_FirstBelow_H : List (Nat × ET) := [(9,T_Entry),(17,T_Entry)]
noncomputable def impl_FirstBelow_c : Callee := mkCallee impl_FirstBelow_D impl_FirstBelow_H impl_FirstBelow_ir [.d (.one (.sl T_Entry)),.d (.one .str)] [.d (.one (.int .i64)),.d (.one (.int .i64))] []
noncomputable def impl_FirstBelow (a0 : List T_Entry.ty) (a1 : List UInt8) : Option (Int × Int) := impl_FirstBelow_c.f (a0,a1,())
noncomputable def impl_FirstBelow_p0  (v0 : List T_Entry.ty) (v1 : List UInt8) : Option (Int × Int) :=
 goL impl_FirstBelow_D impl_FirstBelow_H (vleave impl_FirstBelow_ir [.d (.one (.sl T_Entry)),.d (.one .str)] [.d (.one (.int .i64)),.d (.one (.int .i64))] [] []) [.c impl_FirstBelow_k3]
  ⟨[(0,.sl T_Entry v0),(1,.str v1)],[]⟩
noncomputable def impl_FirstBelow_p1  (v1 : List UInt8) (v6 : Int) (v17 : List T_Entry.ty) (v18 : Int) (v19 : Int) : Option (Int × Int) :=
 goL impl_FirstBelow_D impl_FirstBelow_H (vleave impl_FirstBelow_ir [.d (.one (.sl T_Entry)),.d (.one .str)] [.d (.one (.int .i64)),.d (.one (.int .i64))] [] []) [.c impl_FirstBelow_k0,.l impl_FirstBelow_k1,.e 0,.c impl_FirstBelow_k2]
  ⟨[(1,.str v1),(6,.int .i64 v6),(17,.sl T_Entry v17),(18,.int .i64 v18),(19,.int .i64 v19)],[]⟩
theorem impl_FirstBelow_eq (a0 : List T_Entry.ty) (a1 : List UInt8) : impl_FirstBelow a0 a1 =
 (impl_ValidBook a0).bind fun x1 =>
  if (!x1) then
   some (0,1)
  else
   (impl_IsName a1).bind fun x2 =>
    if (!x2) then
     some (0,1)
    else
     impl_FirstBelow_p0 a0 a1 :=
 (mk_f _ _ _ _ _ _ _ 4000).trans (by kernel_rfl)
theorem impl_FirstBelow_p0_eq  (v0 : List T_Entry.ty) (v1 : List UInt8) : impl_FirstBelow_p0 v0 v1 =
 impl_FirstBelow_p1 v1 0 v0 (v0.length : Int) 0 :=
 (goL_dn _ _ _ 4000 _ _).trans (by kernel_rfl)
theorem impl_FirstBelow_p1_eq  (v1 : List UInt8) (v6 : Int) (v17 : List T_Entry.ty) (v18 : Int) (v19 : Int) : impl_FirstBelow_p1 v1 v6 v17 v18 v19 =
 if decide (v19 < v18) then
  if decide (0 ≤ v19) then
   (v17[v19.toNat]?).bind fun x1 =>
    (impl_Entry_change x1 v1).bind fun x2 =>
     if decide (IntKind.i64.wrap (v6 + x2) < 0) then
      some (v19,0)
     else
      impl_FirstBelow_p1 v1 (IntKind.i64.wrap (v6 + x2)) v17 v18 (IntKind.i64.wrap (v19 + 1))
  else
   none
 else
  some (0,3) :=
 (goL_dn _ _ _ 4000 _ _).trans (by kernel_rfl)
end Go.Ab.P
