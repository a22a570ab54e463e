/- Functions of the program: abstract forms, and what their runs give. Conditions: none. -/
import Derived.Test.YtjbiabbimihagaaGreatDoorLG
set_option maxRecDepth 100000
set_option linter.unusedVariables false
namespace Go.Ab.P
open Go.Ab
@[reducible] def T_Point : ET := .agg (.cons (.int .i64) (.cons (.int .i64) .nil))
@[reducible] def T_l00Src : ET := .agg (.cons (.sl (.one (.int .u8))) (.cons (.int .i64) (.cons (.int .u64) .nil)))
def laws_b10Long_ir : Fn := { np := 1,io := [],res := [.t 2],own := [false],body :=
 (.seq (.reg false [.V 2 (.asg (.c (.bool false)))] [0] []) (.seq (.reg false [.V 3 (.mv (.t 0)),.V 4 (.len (.t 3)),.V 5 (.bin .gtr (.t 4) (.c (.int .i64 1048576))),.V 2 (.asg (.t 5))] [2] []) .ret)) }
noncomputable def laws_b10Long_D : List (Nat × Callee) := []
def laws_b10Long_H : List (Nat × ET) := [(3,(.one (.int .u8)))]
noncomputable def laws_b10Long_c : Callee := mkCallee laws_b10Long_D laws_b10Long_H laws_b10Long_ir [.d (.one (.sl (.one (.int .u8))))] [.d (.one .bool)] []
noncomputable def laws_b10Long (a0 : List Int) : Option (Bool) := laws_b10Long_c.f (a0,())
theorem laws_b10Long_eq (a0 : List Int) : laws_b10Long a0 =
 some (decide ((a0.length : Int) > 1048576)) :=
 (mk_f _ _ _ _ _ _ _ 4000).trans (by kernel_rfl)
def spec_l00From_ir : Fn := { np := 1,io := [],res := [.t 2],own := [true],body :=
 (.seq (.reg false [.V 2 (.asg (.c (.cst (.pointer none))))] [0] []) (.seq (.reg false [.V 3 (.mv (.t 0)),.V 4 (.build [.nils 1,.int .i64 0,.int .u64 0] [(0,1,.t 3)]),.W 5 (.box 3 (.t 4)),.V 2 (.asg (.t 5))] [2] [5,6000]) .ret)) }
noncomputable def spec_l00From_D : List (Nat × Callee) := []
def spec_l00From_H : List (Nat × ET) := [(3,(.one (.int .u8)))]
noncomputable def spec_l00From_c : Callee := mkCallee spec_l00From_D spec_l00From_H spec_l00From_ir [.d (.one (.sl (.one (.int .u8))))] [.box T_l00Src] []
noncomputable def spec_l00From (a0 : List Int) : Option (T_l00Src.ty) := spec_l00From_c.f (a0,())
theorem spec_l00From_eq (a0 : List Int) : spec_l00From a0 =
 some (a0,0,0,()) :=
 (mk_f _ _ _ _ _ _ _ 4000).trans (by kernel_rfl)
def spec_l00Src_next_k0 : C :=
 .seq (.reg false [.V 25 (.mv (.t 0)),.V 26 (.nilck (.t 25)),.V 27 (.fa 1 (.t 26)),.V 28 (.ld none (.t 27)),.V 29 (.bin .add (.t 28) (.c (.int .i64 1))),.V 30 (.nilck (.t 25)),.V 31 (.fa 1 (.t 30)),⟨none,true,.sto 1 (.t 31) (.t 29),none,false,[]⟩] [0,3] [0,1000]) (.seq (.reg false [.V 32 (.mv (.t 0)),.V 33 (.mv (.t 0)),.V 34 (.nilck (.t 33)),.V 35 (.fa 2 (.t 34)),.V 36 (.ld none (.t 35)),.V 37 (.bin .mul (.t 36) (.c (.int .u64 6364136223846793005))),.V 38 (.mv (.t 3)),.V 39 (.conv (.int .u64) (.t 38)),.V 40 (.bin .add (.t 37) (.t 39)),.V 41 (.bin .add (.t 40) (.c (.int .u64 1442695040888963407))),.V 42 (.nilck (.t 32)),.V 43 (.fa 2 (.t 42)),⟨none,true,.sto 1 (.t 43) (.t 41),none,false,[]⟩] [0,3] [0,1000]) (.seq (.seq (.reg true [.V 44 (.mv (.t 0)),.V 45 (.nilck (.t 44)),.V 46 (.fa 1 (.t 45)),.V 47 (.ld none (.t 46)),.V 48 (.mv (.t 0)),.V 49 (.nilck (.t 48)),.V 50 (.fa 0 (.t 49)),.V 51 (.ld none (.t 50)),.V 52 (.len (.t 51)),.V 53 (.bin .leq (.t 47) (.t 52))] [0,3,53] [0,1000]) (.cond (.t 53) (.seq (.reg false [.V 54 (.mv (.t 3)),.V 2 (.asg (.t 54))] [0,2] [0,1000]) .ret) .skip)) (.seq (.reg false [.V 55 (.mv (.t 0)),.V 56 (.nilck (.t 55)),.V 57 (.fa 2 (.t 56)),.V 58 (.ld none (.t 57)),.V 59 (.bin .shr (.t 58) (.c (.int .u64 40))),.V 60 (.bin .and (.t 59) (.c (.int .u64 255))),.V 61 (.conv (.int .i64) (.t 60)),.V 2 (.asg (.t 61))] [0,2] [0,1000]) .ret)))
def spec_l00Src_next_ir : Fn := { np := 1,io := [true],res := [.t 2],own := [false],body :=
 (.seq (.reg false [.V 2 (.asg (.c (.int .i64 0)))] [0] [0,1000]) (.seq (.reg false [.V 3 (.asg (.c (.int .i64 0)))] [0,3] [0,1000]) (.seq (.seq (.reg true [.V 4 (.mv (.t 0)),.V 5 (.nilck (.t 4)),.V 6 (.fa 1 (.t 5)),.V 7 (.ld none (.t 6)),.V 8 (.mv (.t 0)),.V 9 (.nilck (.t 8)),.V 10 (.fa 0 (.t 9)),.V 11 (.ld none (.t 10)),.V 12 (.len (.t 11)),.V 13 (.bin .lss (.t 7) (.t 12))] [0,3,13] [0,1000]) (.cond (.t 13) (.reg true [.V 14 (.mv (.t 0)),.V 15 (.nilck (.t 14)),.V 16 (.fa 0 (.t 15)),.V 17 (.ld none (.t 16)),.V 18 (.mv (.t 0)),.V 19 (.nilck (.t 18)),.V 20 (.fa 1 (.t 19)),.V 21 (.ld none (.t 20)),.V 22 (.ia 1 (.t 17) (.t 21)),.V 23 (.ld none (.t 22)),.V 24 (.conv (.int .i64) (.t 23)),.V 3 (.asg (.t 24))] [0,3] [0,1000]) .skip)) (.norm [0,3] [0,1000] spec_l00Src_next_k0)))) }
noncomputable def spec_l00Src_next_D : List (Nat × Callee) := []
def spec_l00Src_next_H : List (Nat × ET) := [(11,(.one (.int .u8))),(17,(.one (.int .u8))),(51,(.one (.int .u8)))]
noncomputable def spec_l00Src_next_c : Callee := mkCallee spec_l00Src_next_D spec_l00Src_next_H spec_l00Src_next_ir [.box T_l00Src] [.d (.one (.int .i64))] [.box T_l00Src]
noncomputable def spec_l00Src_next (a0 : T_l00Src.ty) : Option (Int × T_l00Src.ty) := spec_l00Src_next_c.f (a0,())
noncomputable def spec_l00Src_next_p0  (v3 : Int) (r0_0 : List Int) (r0_1 : Int) (r0_2 : Int) : Option (Int × T_l00Src.ty) :=
 goL spec_l00Src_next_D spec_l00Src_next_H (vleave spec_l00Src_next_ir [.box T_l00Src] [.d (.one (.int .i64))] [.box T_l00Src] []) [.c spec_l00Src_next_k0]
  ⟨[(0,.loc 0 0 0),(3,.int .i64 v3)],[(0,some (.var 3 (.agg [.sl (.one (.int .u8)) r0_0,.int .i64 r0_1,.int .u64 r0_2]))),(1000,none)]⟩
theorem spec_l00Src_next_eq (a0 : T_l00Src.ty) : spec_l00Src_next a0 =
 if decide (a0.2.1 < (a0.1.length : Int)) then
  if decide (0 ≤ a0.2.1) then
   (a0.1[a0.2.1.toNat]?).bind fun x1 =>
    spec_l00Src_next_p0 (IntKind.i64.wrap x1) a0.1 a0.2.1 a0.2.2.1
  else
   none
 else
  spec_l00Src_next_p0 0 a0.1 a0.2.1 a0.2.2.1 :=
 (mk_f _ _ _ _ _ _ _ 4000).trans (by kernel_rfl)
theorem spec_l00Src_next_p0_eq  (v3 : Int) (r0_0 : List Int) (r0_1 : Int) (r0_2 : Int) : spec_l00Src_next_p0 v3 r0_0 r0_1 r0_2 =
 if decide (IntKind.i64.wrap (r0_1 + 1) ≤ (r0_0.length : Int)) then
  some (v3,(r0_0,IntKind.i64.wrap (r0_1 + 1),IntKind.u64.wrap ((IntKind.u64.wrap ((IntKind.u64.wrap (r0_2 * 6364136223846793005)) + (IntKind.u64.wrap v3))) + 1442695040888963407),()))
 else
  some (IntKind.i64.wrap (IntKind.u64.wrap ((BitVec.ofInt IntKind.u64.bits (Int.fdiv (IntKind.u64.wrap ((IntKind.u64.wrap ((IntKind.u64.wrap (r0_2 * 6364136223846793005)) + (IntKind.u64.wrap v3))) + 1442695040888963407)) (2 ^ (min (40 : Int).toNat IntKind.u64.bits))) &&& BitVec.ofInt IntKind.u64.bits 255).toNat : Int)),(r0_0,IntKind.i64.wrap (r0_1 + 1),IntKind.u64.wrap ((IntKind.u64.wrap ((IntKind.u64.wrap (r0_2 * 6364136223846793005)) + (IntKind.u64.wrap v3))) + 1442695040888963407),())) :=
 (goL_dn _ _ _ 4000 _ _).trans (by kernel_rfl)
def spec_l00Src_pick_ir : Fn := { np := 2,io := [true,false],res := [.t 4],own := [false],body :=
 (.seq (.reg false [.V 4 (.asg (.c (.int .i64 0)))] [0,1] [0,1000]) (.seq (.seq (.reg false [.V 6 (.mv (.t 1)),.V 7 (.bin .leq (.t 6) (.c (.int .i64 1)))] [0,1,7] [0,1000]) (.cond (.t 7) (.seq (.reg false [.V 4 (.asg (.c (.int .i64 0)))] [0,4] [0,1000]) .ret) .skip)) (.seq (.reg false [.V 8 (.mv (.t 0)),.W 9 (.call (.c (.fn 847 [])) [.t 8]),.V 5 (.asg (.t 9))] [0,1,5] [0,1000]) (.seq (.seq (.reg false [.V 10 (.mv (.t 1)),.V 11 (.bin .gtr (.t 10) (.c (.int .i64 200)))] [0,1,5,11] [0,1000]) (.cond (.t 11) (.reg false [.V 12 (.mv (.t 5)),.V 13 (.bin .mul (.t 12) (.c (.int .i64 256))),.V 14 (.mv (.t 0)),.W 15 (.call (.c (.fn 847 [])) [.t 14]),.V 16 (.bin .add (.t 13) (.t 15)),.V 5 (.asg (.t 16))] [0,1,5] [0,1000]) .skip)) (.seq (.reg false [.V 17 (.mv (.t 5)),.V 18 (.mv (.t 1)),.V 19 (.bin .rem (.t 17) (.t 18)),.V 4 (.asg (.t 19))] [0,4] [0,1000]) .ret))))) }
noncomputable def spec_l00Src_pick_D : List (Nat × Callee) := [(847,spec_l00Src_next_c)]
def spec_l00Src_pick_H : List (Nat × ET) := []
noncomputable def spec_l00Src_pick_c : Callee := mkCallee spec_l00Src_pick_D spec_l00Src_pick_H spec_l00Src_pick_ir [.box T_l00Src,.d (.one (.int .i64))] [.d (.one (.int .i64))] [.box T_l00Src]
noncomputable def spec_l00Src_pick (a0 : T_l00Src.ty) (a1 : Int) : Option (Int × T_l00Src.ty) := spec_l00Src_pick_c.f (a0,a1,())
theorem spec_l00Src_pick_eq (a0 : T_l00Src.ty) (a1 : Int) : spec_l00Src_pick a0 a1 =
 if decide (a1 ≤ 1) then
  some (0,a0)
 else
  (spec_l00Src_next a0).bind fun x1 =>
   if decide (a1 > 200) then
    (spec_l00Src_next (x1.2.1,x1.2.2.1,x1.2.2.2.1,())).bind fun x2 =>
     if decide (a1 = 0) then
      none
     else
      some ((IntKind.i64.wrap ((IntKind.i64.wrap (x1.1 * 256)) + x2.1)).tmod a1,(x2.2.1,x2.2.2.1,x2.2.2.2.1,()))
   else
    if decide (a1 = 0) then
     none
    else
     some (x1.1.tmod a1,(x1.2.1,x1.2.2.1,x1.2.2.2.1,())) :=
 (mk_f _ _ _ _ _ _ _ 4000).trans (by kernel_rfl)
def spec_l00Src_among_ir : Fn := { np := 2,io := [true,false],res := [.t 4],own := [false],body :=
 (.seq (.reg false [.V 4 (.asg (.c (.int .i64 0)))] [0,1] [0,1000]) (.seq (.reg false [.V 5 (.mv (.t 1)),.V 6 (.mv (.t 0)),.V 7 (.mv (.t 1)),.V 8 (.len (.t 7)),.W 9 (.call (.c (.fn 463 [])) [.t 6,.t 8]),.V 10 (.ia 1 (.t 5) (.t 9)),.V 11 (.ld none (.t 10)),.V 4 (.asg (.t 11))] [0,4] [0,1000]) .ret)) }
noncomputable def spec_l00Src_among_D : List (Nat × Callee) := [(463,spec_l00Src_pick_c)]
def spec_l00Src_among_H : List (Nat × ET) := [(5,(.one (.int .i64))),(7,(.one (.int .i64)))]
noncomputable def spec_l00Src_among_c : Callee := mkCallee spec_l00Src_among_D spec_l00Src_among_H spec_l00Src_among_ir [.box T_l00Src,.d (.one (.sl (.one (.int .i64))))] [.d (.one (.int .i64))] [.box T_l00Src]
noncomputable def spec_l00Src_among (a0 : T_l00Src.ty) (a1 : List Int) : Option (Int × T_l00Src.ty) := spec_l00Src_among_c.f (a0,a1,())
theorem spec_l00Src_among_eq (a0 : T_l00Src.ty) (a1 : List Int) : spec_l00Src_among a0 a1 =
 (spec_l00Src_pick a0 (a1.length : Int)).bind fun x1 =>
  if decide (0 ≤ x1.1) then
   (a1[x1.1.toNat]?).bind fun x2 =>
    some (x2,(x1.2.1,x1.2.2.1,x1.2.2.2.1,()))
  else
   none :=
 (mk_f _ _ _ _ _ _ _ 4000).trans (by kernel_rfl)
noncomputable def spec_l08Draw_c : Callee := plateDrawC spec_l00Src_pick spec_l00Src_among
noncomputable def spec_l08Draw (a0 : T_l00Src.ty) : Option (List (List Int) × T_l00Src.ty) := spec_l08Draw_c.f (a0,())
theorem spec_l08Draw_eq (a0 : T_l00Src.ty) : spec_l08Draw a0 = (mDrawF spec_l00Src_pick spec_l00Src_among a0).map fun r => (r.2,r.1) := rfl
def spec_l00Src_one_ir : Fn := { np := 2,io := [true,false],res := [.t 4],own := [false],body :=
 (.seq (.reg false [.V 4 (.asg (.c (.bool false)))] [0,1] [0,1000]) (.seq (.reg false [.V 5 (.mv (.t 0)),.V 6 (.mv (.t 1)),.W 7 (.call (.c (.fn 463 [])) [.t 5,.t 6]),.V 8 (.bin .eql (.t 7) (.c (.int .i64 0))),.V 4 (.asg (.t 8))] [0,4] [0,1000]) .ret)) }
noncomputable def spec_l00Src_one_D : List (Nat × Callee) := [(463,spec_l00Src_pick_c)]
def spec_l00Src_one_H : List (Nat × ET) := []
noncomputable def spec_l00Src_one_c : Callee := mkCallee spec_l00Src_one_D spec_l00Src_one_H spec_l00Src_one_ir [.box T_l00Src,.d (.one (.int .i64))] [.d (.one .bool)] [.box T_l00Src]
noncomputable def spec_l00Src_one (a0 : T_l00Src.ty) (a1 : Int) : Option (Bool × T_l00Src.ty) := spec_l00Src_one_c.f (a0,a1,())
theorem spec_l00Src_one_eq (a0 : T_l00Src.ty) (a1 : Int) : spec_l00Src_one a0 a1 =
 (spec_l00Src_pick a0 a1).bind fun x1 =>
  some ((x1.1 == 0),(x1.2.1,x1.2.2.1,x1.2.2.2.1,())) :=
 (mk_f _ _ _ _ _ _ _ 4000).trans (by kernel_rfl)
def spec_l08DrawLeast_ir : Fn := { np := 1,io := [true],res := [.t 2],own := [false],body :=
 (.seq (.reg false [.V 2 (.asg (.c (.int .i64 0)))] [0] [0,1000]) (.seq (.reg false [.V 3 (.mv (.t 0)),.V 4 (.bsl 1 (.int .i64 0) 8 [(0,.c (.int .i64 0)),(1,.c (.int .i64 1)),(2,.c (.int .i64 20)),(3,.c (.int .i64 24)),(4,.c (.int .i64 30)),(5,.c (.int .i64 200)),(6,.c (.int .i64 201)),(7,.c (.int .i64 25))]),.W 5 (.call (.c (.fn 445 [])) [.t 3,.t 4]),.V 2 (.asg (.t 5))] [0,2] [0,1000]) .ret)) }
noncomputable def spec_l08DrawLeast_D : List (Nat × Callee) := [(445,spec_l00Src_among_c)]
def spec_l08DrawLeast_H : List (Nat × ET) := [(4,(.one (.int .i64)))]
noncomputable def spec_l08DrawLeast_c : Callee := mkCallee spec_l08DrawLeast_D spec_l08DrawLeast_H spec_l08DrawLeast_ir [.box T_l00Src] [.d (.one (.int .i64))] [.box T_l00Src]
noncomputable def spec_l08DrawLeast (a0 : T_l00Src.ty) : Option (Int × T_l00Src.ty) := spec_l08DrawLeast_c.f (a0,())
theorem spec_l08DrawLeast_eq (a0 : T_l00Src.ty) : spec_l08DrawLeast a0 =
 (spec_l00Src_among a0 [0,1,20,24,30,200,201,25]).bind fun x1 =>
  some (x1.1,(x1.2.1,x1.2.2.1,x1.2.2.2.1,())) :=
 (mk_f _ _ _ _ _ _ _ 4000).trans (by kernel_rfl)
def spec_DrawThinTo_k0 : C :=
 .seq (.seq (.reg false [.V 23 (.mv (.t 12)),.V 24 (.mv (.t 8)),.V 25 (.len (.t 24)),.V 26 (.bin .lss (.t 23) (.t 25))] [7,8,9,10,11,12,26] [8,14,15000]) (.cond (.t 26) .skip (.exit 0))) (.seq (.block 1 (.reg false [.V 29 (.mv (.t 11)),.V 30 (.mv (.t 8)),.V 31 (.mv (.t 12)),.V 32 (.ia 1 (.t 30) (.t 31)),.V 33 (.ld none (.t 32)),.V 34 (.len (.t 33)),.V 35 (.bin .mul (.c (.int .i64 100)) (.t 34)),.V 36 (.bin .add (.t 29) (.t 35)),.V 11 (.asg (.t 36))] [7,8,9,10,11,12] [8,14,15000])) (.reg false [.V 27 (.mv (.t 12)),.V 28 (.bin .add (.t 27) (.c (.int .i64 1))),.V 12 (.asg (.t 28))] [7,8,9,10,11,12] [8,14,15000]))
def spec_DrawThinTo_k1 : C :=
 .norm [7,8,9,10,11,12] [8,14,15000] spec_DrawThinTo_k0
def spec_DrawThinTo_k2 : C :=
 .seq (.reg false [.V 48 (.mv (.t 8)),.V 49 (.mv (.t 9)),.V 50 (.mv (.t 10)),.V 51 (.mv (.t 11)),.V 52 (.mv (.t 7)),.W 53 (.call (.c (.fn 768 [])) [.t 52]),.W 2 (.asg (.t 48)),.V 3 (.asg (.t 49)),.V 4 (.asg (.t 50)),.V 5 (.asg (.t 51)),.V 6 (.asg (.t 53))] [2,3,4,5,6] [2,8]) .ret
def spec_DrawThinTo_k3 : C :=
 .seq (.reg false [.V 37 (.mv (.t 11)),.V 38 (.mv (.t 7)),.W 39 (.call (.c (.fn 463 [])) [.t 38,.c (.int .i64 40)]),.V 40 (.bin .add (.c (.int .i64 1)) (.t 39)),.V 41 (.bin .mul (.t 37) (.t 40)),.V 42 (.bin .quo (.t 41) (.c (.int .i64 4))),.V 11 (.asg (.t 42))] [7,8,9,10,11] [8,14,15000]) (.seq (.seq (.reg false [.V 43 (.mv (.t 7)),.W 44 (.call (.c (.fn 642 [])) [.t 43,.c (.int .i64 9)])] [7,8,9,10,11,44] [8,14,15000]) (.cond (.t 44) (.reg false [.V 45 (.mv (.t 7)),.V 46 (.bsl 1 (.int .i64 0) 4 [(0,.c (.int .i64 (-1))),(1,.c (.int .i64 0)),(2,.c (.int .i64 1000000000)),(3,.c (.int .i64 1000000001))]),.W 47 (.call (.c (.fn 445 [])) [.t 45,.t 46]),.V 11 (.asg (.t 47))] [7,8,9,10,11] [8,14,15000]) .skip)) (.norm [7,8,9,10,11] [8,14,15000] spec_DrawThinTo_k2))
def spec_DrawThinTo_ir : Fn := { np := 1,io := [],res := [.t 2,.t 3,.t 4,.t 5,.t 6],own := [false,false,false,false,false],body :=
 (.seq (.reg false [.W 2 (.asg (.c (.nils 1))),.V 3 (.asg (.c (.int .i64 0))),.V 4 (.asg (.c (.int .i64 0))),.V 5 (.asg (.c (.int .i64 0))),.V 6 (.asg (.c (.int .i64 0)))] [0] []) (.seq (.reg false [.V 13 (.mv (.t 0)),.W 14 (.call (.c (.fn 441 [])) [.t 13]),.V 7 (.asg (.t 14))] [7] [14,15000]) (.seq (.reg false [.V 15 (.mv (.t 7)),.W 16 (.call (.c (.fn 769 [])) [.t 15]),.W 8 (.asg (.t 16))] [7,8] [8,14,15000]) (.seq (.reg false [.V 17 (.mv (.t 7)),.V 18 (.bsl 1 (.int .i64 0) 4 [(0,.c (.int .i64 100)),(1,.c (.int .i64 400)),(2,.c (.int .i64 100)),(3,.c (.int .i64 10001))]),.W 19 (.call (.c (.fn 445 [])) [.t 17,.t 18]),.V 9 (.asg (.t 19))] [7,8,9] [8,14,15000]) (.seq (.reg false [.V 20 (.mv (.t 7)),.V 21 (.bsl 1 (.int .i64 0) 4 [(0,.c (.int .i64 380)),(1,.c (.int .i64 420)),(2,.c (.int .i64 600)),(3,.c (.int .i64 0))]),.W 22 (.call (.c (.fn 445 [])) [.t 20,.t 21]),.V 10 (.asg (.t 22))] [7,8,9,10] [8,14,15000]) (.seq (.reg false [.V 11 (.asg (.c (.int .i64 0)))] [7,8,9,10,11] [8,14,15000]) (.seq (.seq (.reg false [.V 12 (.asg (.c (.int .i64 0)))] [7,8,9,10,11,12] [8,14,15000]) (.block 0 (.loop spec_DrawThinTo_k1))) spec_DrawThinTo_k3))))))) }
noncomputable def spec_DrawThinTo_D : List (Nat × Callee) := [(441,spec_l00From_c),(445,spec_l00Src_among_c),(463,spec_l00Src_pick_c),(642,spec_l00Src_one_c),(768,spec_l08DrawLeast_c),(769,spec_l08Draw_c)]
def spec_DrawThinTo_H : List (Nat × ET) := [(2,(.one (.sl (.one (.int .i64))))),(8,(.one (.sl (.one (.int .i64))))),(13,(.one (.int .u8))),(16,(.one (.sl (.one (.int .i64))))),(18,(.one (.int .i64))),(21,(.one (.int .i64))),(24,(.one (.sl (.one (.int .i64))))),(30,(.one (.sl (.one (.int .i64))))),(33,(.one (.int .i64))),(46,(.one (.int .i64))),(48,(.one (.sl (.one (.int .i64)))))]
noncomputable def spec_DrawThinTo_c : Callee := mkCallee spec_DrawThinTo_D spec_DrawThinTo_H spec_DrawThinTo_ir [.d (.one (.sl (.one (.int .u8))))] [.d (.one (.sl (.one (.sl (.one (.int .i64)))))),.d (.one (.int .i64)),.d (.one (.int .i64)),.d (.one (.int .i64)),.d (.one (.int .i64))] []
noncomputable def spec_DrawThinTo (a0 : List Int) : Option (List (List Int) × Int × Int × Int × Int) := spec_DrawThinTo_c.f (a0,())
noncomputable def spec_DrawThinTo_p0  (v8 : List (List Int)) (v9 : Int) (v10 : Int) (v11 : Int) (v12 : Int) (r14_0 : List Int) (r14_1 : Int) (r14_2 : Int) : Option (List (List Int) × Int × Int × Int × Int) :=
 goL spec_DrawThinTo_D spec_DrawThinTo_H (vleave spec_DrawThinTo_ir [.d (.one (.sl (.one (.int .u8))))] [.d (.one (.sl (.one (.sl (.one (.int .i64)))))),.d (.one (.int .i64)),.d (.one (.int .i64)),.d (.one (.int .i64)),.d (.one (.int .i64))] [] []) [.c spec_DrawThinTo_k0,.l spec_DrawThinTo_k1,.e 0,.c spec_DrawThinTo_k3]
  ⟨[(7,.loc 14 0 0),(8,.sl (.one (.sl (.one (.int .i64)))) v8),(9,.int .i64 v9),(10,.int .i64 v10),(11,.int .i64 v11),(12,.int .i64 v12)],[(8,none),(14,some (.var 3 (.agg [.sl (.one (.int .u8)) r14_0,.int .i64 r14_1,.int .u64 r14_2]))),(15000,none)]⟩
noncomputable def spec_DrawThinTo_p1  (v8 : List (List Int)) (v9 : Int) (v10 : Int) (v11 : Int) (r14_0 : List Int) (r14_1 : Int) (r14_2 : Int) : Option (List (List Int) × Int × Int × Int × Int) :=
 goL spec_DrawThinTo_D spec_DrawThinTo_H (vleave spec_DrawThinTo_ir [.d (.one (.sl (.one (.int .u8))))] [.d (.one (.sl (.one (.sl (.one (.int .i64)))))),.d (.one (.int .i64)),.d (.one (.int .i64)),.d (.one (.int .i64)),.d (.one (.int .i64))] [] []) [.c spec_DrawThinTo_k2]
  ⟨[(7,.loc 14 0 0),(8,.sl (.one (.sl (.one (.int .i64)))) v8),(9,.int .i64 v9),(10,.int .i64 v10),(11,.int .i64 v11)],[(8,none),(14,some (.var 3 (.agg [.sl (.one (.int .u8)) r14_0,.int .i64 r14_1,.int .u64 r14_2]))),(15000,none)]⟩
theorem spec_DrawThinTo_eq (a0 : List Int) : spec_DrawThinTo a0 =
 (spec_l00From a0).bind fun x1 =>
  (spec_l08Draw x1).bind fun x2 =>
   (spec_l00Src_among (x2.2.1,x2.2.2.1,x2.2.2.2.1,()) [100,400,100,10001]).bind fun x3 =>
    (spec_l00Src_among (x3.2.1,x3.2.2.1,x3.2.2.2.1,()) [380,420,600,0]).bind fun x4 =>
     spec_DrawThinTo_p0 x2.1 x3.1 x4.1 0 0 x4.2.1 x4.2.2.1 x4.2.2.2.1 :=
 (mk_f _ _ _ _ _ _ _ 4000).trans (by kernel_rfl)
theorem spec_DrawThinTo_p0_eq  (v8 : List (List Int)) (v9 : Int) (v10 : Int) (v11 : Int) (v12 : Int) (r14_0 : List Int) (r14_1 : Int) (r14_2 : Int) : spec_DrawThinTo_p0 v8 v9 v10 v11 v12 r14_0 r14_1 r14_2 =
 if decide (v12 < (v8.length : Int)) then
  if decide (0 ≤ v12) then
   (v8[v12.toNat]?).bind fun x1 =>
    spec_DrawThinTo_p0 v8 v9 v10 (IntKind.i64.wrap (v11 + (IntKind.i64.wrap (100 * (x1.length : Int))))) (IntKind.i64.wrap (v12 + 1)) r14_0 r14_1 r14_2
  else
   none
 else
  (spec_l00Src_pick (r14_0,r14_1,r14_2,()) 40).bind fun x2 =>
   (spec_l00Src_one (x2.2.1,x2.2.2.1,x2.2.2.2.1,()) 9).bind fun x3 =>
    if x3.1 then
     (spec_l00Src_among (x3.2.1,x3.2.2.1,x3.2.2.2.1,()) [(-1),0,1000000000,1000000001]).bind fun x4 =>
      spec_DrawThinTo_p1 v8 v9 v10 x4.1 x4.2.1 x4.2.2.1 x4.2.2.2.1
    else
     spec_DrawThinTo_p1 v8 v9 v10 (IntKind.i64.wrap ((IntKind.i64.wrap (v11 * (IntKind.i64.wrap (1 + x2.1)))).tdiv 4)) x3.2.1 x3.2.2.1 x3.2.2.2.1 :=
 (goL_dn _ _ _ 4000 _ _).trans (by kernel_rfl)
theorem spec_DrawThinTo_p1_eq  (v8 : List (List Int)) (v9 : Int) (v10 : Int) (v11 : Int) (r14_0 : List Int) (r14_1 : Int) (r14_2 : Int) : spec_DrawThinTo_p1 v8 v9 v10 v11 r14_0 r14_1 r14_2 =
 (spec_l08DrawLeast (r14_0,r14_1,r14_2,())).bind fun x1 =>
  some (v8,v9,v10,v11,x1.1) :=
 (goL_dn _ _ _ 4000 _ _).trans (by kernel_rfl)
def impl_within_ir : Fn := { np := 3,io := [],res := [.t 6],own := [false],body :=
 (.seq (.reg false [.V 6 (.asg (.c (.bool false)))] [0,1,2] []) (.seq (.reg false [.V 7 (.mv (.t 1)),.V 8 (.mv (.t 0)),.V 9 (.bin .leq (.t 7) (.t 8)),.V 10 (.mv (.t 9)),.G 11 (.mv (.t 0)) 3 true,.G 12 (.mv (.t 2)) 3 true,.G 13 (.bin .leq (.t 11) (.t 12)) 3 true,.V 14 (.pick (.t 10) (.t 13) (.c (.bool false))),.V 6 (.asg (.t 14))] [6] []) .ret)) }
noncomputable def impl_within_D : List (Nat × Callee) := []
def impl_within_H : List (Nat × ET) := []
noncomputable def impl_within_c : Callee := mkCallee impl_within_D impl_within_H impl_within_ir [.d (.one (.int .i64)),.d (.one (.int .i64)),.d (.one (.int .i64))] [.d (.one .bool)] []
noncomputable def impl_within (a0 : Int) (a1 : Int) (a2 : Int) : Option (Bool) := impl_within_c.f (a0,a1,a2,())
theorem impl_within_eq (a0 : Int) (a1 : Int) (a2 : Int) : impl_within a0 a1 a2 =
 if decide (a1 ≤ a0) then
  some (decide (a0 ≤ a2))
 else
  some false :=
 (mk_f _ _ _ _ _ _ _ 4000).trans (by kernel_rfl)
def impl_isGrid_k0 : C :=
 .seq (.reg false [.V 43 (.bin .lss (.t 42) (.t 41))] [0,2,3,27,28,29,40,41,42,43] [10]) (.seq (.cond (.t 43) .skip (.exit 2)) (.seq (.block 3 (.seq (.reg false [.V 44 (.ia 1 (.t 40) (.t 42)),.V 45 (.ld none (.t 44)),.V 12 (.asg (.t 45))] [0,2,3,12,27,28,29,40,41,42] [10]) (.seq (.reg false [.V 46 (.mv (.t 12)),.V 47 (.mv (.t 2)),.V 48 (.mv (.t 3)),.V 49 (.call (.c (.fn 23 [])) [.t 46,.t 47,.t 48]),.V 50 (.un .not (.t 49))] [0,2,3,27,28,29,40,41,42,50] [10]) (.cond (.t 50) (.seq (.reg false [.V 8 (.asg (.c (.bool false)))] [8] []) .ret) .skip)))) (.reg false [.V 51 (.bin .add (.t 42) (.c (.int .i64 1))),.V 42 (.mv (.t 51))] [0,2,3,27,28,29,40,41,42] [10])))
def impl_isGrid_k1 : C :=
 .norm [0,2,3,27,28,29,40,41,42] [10] impl_isGrid_k0
def impl_isGrid_k2 : C :=
 .reg false [.V 52 (.bin .add (.t 29) (.c (.int .i64 1))),.V 29 (.mv (.t 52))] [0,2,3,27,28,29] []
def impl_isGrid_k3 : C :=
 .seq (.reg false [.V 30 (.bin .lss (.t 29) (.t 28))] [0,2,3,27,28,29,30] []) (.seq (.cond (.t 30) .skip (.exit 0)) (.seq (.block 1 (.seq (.reg false [.V 31 (.ia 1 (.t 27) (.t 29)),.V 32 (.ld none (.t 31)),.W 10 (.asg (.t 32))] [0,2,3,10,27,28,29] [10]) (.seq (.seq (.reg false [.V 33 (.mv (.t 10)),.V 34 (.len (.t 33)),.V 35 (.mv (.t 0)),.V 36 (.ia 1 (.t 35) (.c (.int .i64 0))),.V 37 (.ld none (.t 36)),.V 38 (.len (.t 37)),.V 39 (.bin .neq (.t 34) (.t 38))] [0,2,3,10,27,28,29,39] [10]) (.cond (.t 39) (.seq (.reg false [.V 8 (.asg (.c (.bool false)))] [8] []) .ret) .skip)) (.seq (.reg false [.V 40 (.mv (.t 10)),.V 41 (.len (.t 40)),.V 42 (.mv (.c (.int .i64 0)))] [0,2,3,27,28,29,40,41,42] [10]) (.block 2 (.loop impl_isGrid_k1)))))) impl_isGrid_k2))
def impl_isGrid_k4 : C :=
 .norm [0,2,3,27,28,29] [] impl_isGrid_k3
def impl_isGrid_k5 : C :=
 .seq (.reg false [.V 8 (.asg (.c (.bool true)))] [8] []) .ret
def impl_isGrid_k6 : C :=
 .seq (.seq (.reg false [.V 27 (.mv (.t 0)),.V 28 (.len (.t 27)),.V 29 (.mv (.c (.int .i64 0)))] [0,2,3,27,28,29] []) (.block 0 (.loop impl_isGrid_k4))) impl_isGrid_k5
def impl_isGrid_ir : Fn := { np := 4,io := [],res := [.t 8],own := [false],body :=
 (.seq (.reg false [.V 8 (.asg (.c (.bool false)))] [0,1,2,3] []) (.seq (.seq (.reg false [.V 13 (.mv (.t 0)),.V 14 (.len (.t 13)),.V 15 (.mv (.t 1)),.V 16 (.call (.c (.fn 23 [])) [.t 14,.c (.int .i64 1),.t 15]),.V 17 (.un .not (.t 16)),.V 18 (.mv (.t 17)),.G 19 (.mv (.t 0)) 5 false,.G 20 (.ia 1 (.t 19) (.c (.int .i64 0))) 5 false,.G 21 (.ld none (.t 20)) 5 false,.G 22 (.len (.t 21)) 5 false,.G 23 (.mv (.t 1)) 5 false,.G 24 (.call (.c (.fn 23 [])) [.t 22,.c (.int .i64 1),.t 23]) 5 false,.G 25 (.un .not (.t 24)) 5 false,.V 26 (.pick (.t 18) (.c (.bool true)) (.t 25))] [0,2,3,26] []) (.cond (.t 26) (.seq (.reg false [.V 8 (.asg (.c (.bool false)))] [8] []) .ret) .skip)) (.norm [0,2,3] [] impl_isGrid_k6))) }
noncomputable def impl_isGrid_D : List (Nat × Callee) := [(23,impl_within_c)]
def impl_isGrid_H : List (Nat × ET) := [(10,(.one (.int .i64))),(13,(.one (.sl (.one (.int .i64))))),(19,(.one (.sl (.one (.int .i64))))),(21,(.one (.int .i64))),(27,(.one (.sl (.one (.int .i64))))),(32,(.one (.int .i64))),(33,(.one (.int .i64))),(35,(.one (.sl (.one (.int .i64))))),(37,(.one (.int .i64))),(40,(.one (.int .i64)))]
noncomputable def impl_isGrid_c : Callee := mkCallee impl_isGrid_D impl_isGrid_H impl_isGrid_ir [.d (.one (.sl (.one (.sl (.one (.int .i64)))))),.d (.one (.int .i64)),.d (.one (.int .i64)),.d (.one (.int .i64))] [.d (.one .bool)] []
noncomputable def impl_isGrid (a0 : List (List Int)) (a1 : Int) (a2 : Int) (a3 : Int) : Option (Bool) := impl_isGrid_c.f (a0,a1,a2,a3,())
noncomputable def impl_isGrid_p0  (v0 : List (List Int)) (v2 : Int) (v3 : Int) : Option (Bool) :=
 goL impl_isGrid_D impl_isGrid_H (vleave impl_isGrid_ir [.d (.one (.sl (.one (.sl (.one (.int .i64)))))),.d (.one (.int .i64)),.d (.one (.int .i64)),.d (.one (.int .i64))] [.d (.one .bool)] [] []) [.c impl_isGrid_k6]
  ⟨[(0,.sl (.one (.sl (.one (.int .i64)))) v0),(2,.int .i64 v2),(3,.int .i64 v3)],[]⟩
noncomputable def impl_isGrid_p1  (v0 : List (List Int)) (v2 : Int) (v3 : Int) (v27 : List (List Int)) (v28 : Int) (v29 : Int) : Option (Bool) :=
 goL impl_isGrid_D impl_isGrid_H (vleave impl_isGrid_ir [.d (.one (.sl (.one (.sl (.one (.int .i64)))))),.d (.one (.int .i64)),.d (.one (.int .i64)),.d (.one (.int .i64))] [.d (.one .bool)] [] []) [.c impl_isGrid_k3,.l impl_isGrid_k4,.e 0,.c impl_isGrid_k5]
  ⟨[(0,.sl (.one (.sl (.one (.int .i64)))) v0),(2,.int .i64 v2),(3,.int .i64 v3),(27,.sl (.one (.sl (.one (.int .i64)))) v27),(28,.int .i64 v28),(29,.int .i64 v29)],[]⟩
noncomputable def impl_isGrid_p2  (v0 : List (List Int)) (v2 : Int) (v3 : Int) (v27 : List (List Int)) (v28 : Int) (v29 : Int) (v40 : List Int) (v41 : Int) (v42 : Int) : Option (Bool) :=
 goL impl_isGrid_D impl_isGrid_H (vleave impl_isGrid_ir [.d (.one (.sl (.one (.sl (.one (.int .i64)))))),.d (.one (.int .i64)),.d (.one (.int .i64)),.d (.one (.int .i64))] [.d (.one .bool)] [] []) [.c impl_isGrid_k0,.l impl_isGrid_k1,.e 2,.e 1,.c impl_isGrid_k2,.l impl_isGrid_k4,.e 0,.c impl_isGrid_k5]
  ⟨[(0,.sl (.one (.sl (.one (.int .i64)))) v0),(2,.int .i64 v2),(3,.int .i64 v3),(27,.sl (.one (.sl (.one (.int .i64)))) v27),(28,.int .i64 v28),(29,.int .i64 v29),(40,.sl (.one (.int .i64)) v40),(41,.int .i64 v41),(42,.int .i64 v42)],[(10,none)]⟩
theorem impl_isGrid_eq (a0 : List (List Int)) (a1 : Int) (a2 : Int) (a3 : Int) : impl_isGrid a0 a1 a2 a3 =
 (impl_within (a0.length : Int) 1 a1).bind fun x1 =>
  if (!x1) then
   some false
  else
   (a0[0]?).bind fun x2 =>
    (impl_within (x2.length : Int) 1 a1).bind fun x3 =>
     if (!x3) then
      some false
     else
      impl_isGrid_p0 a0 a2 a3 :=
 (mk_f _ _ _ _ _ _ _ 4000).trans (by kernel_rfl)
theorem impl_isGrid_p0_eq  (v0 : List (List Int)) (v2 : Int) (v3 : Int) : impl_isGrid_p0 v0 v2 v3 =
 impl_isGrid_p1 v0 v2 v3 v0 (v0.length : Int) 0 :=
 (goL_dn _ _ _ 4000 _ _).trans (by kernel_rfl)
theorem impl_isGrid_p1_eq  (v0 : List (List Int)) (v2 : Int) (v3 : Int) (v27 : List (List Int)) (v28 : Int) (v29 : Int) : impl_isGrid_p1 v0 v2 v3 v27 v28 v29 =
 if decide (v29 < v28) then
  if decide (0 ≤ v29) then
   (v27[v29.toNat]?).bind fun x1 =>
    (v0[0]?).bind fun x2 =>
     if ((x1.length : Int) != (x2.length : Int)) then
      some false
     else
      impl_isGrid_p2 v0 v2 v3 v27 v28 v29 x1 (x1.length : Int) 0
  else
   none
 else
  some true :=
 (goL_dn _ _ _ 4000 _ _).trans (by kernel_rfl)
theorem impl_isGrid_p2_eq  (v0 : List (List Int)) (v2 : Int) (v3 : Int) (v27 : List (List Int)) (v28 : Int) (v29 : Int) (v40 : List Int) (v41 : Int) (v42 : Int) : impl_isGrid_p2 v0 v2 v3 v27 v28 v29 v40 v41 v42 =
 if decide (v42 < v41) then
  if decide (0 ≤ v42) then
   (v40[v42.toNat]?).bind fun x1 =>
    (impl_within x1 v2 v3).bind fun x2 =>
     if (!x2) then
      some false
     else
      impl_isGrid_p2 v0 v2 v3 v27 v28 v29 v40 v41 (IntKind.i64.wrap (v42 + 1))
  else
   none
 else
  impl_isGrid_p1 v0 v2 v3 v27 v28 (IntKind.i64.wrap (v29 + 1)) :=
 (goL_dn _ _ _ 4000 _ _).trans (by kernel_rfl)
def impl_ValidPlate_ir : Fn := { np := 1,io := [],res := [.t 2],own := [false],body :=
 (.seq (.reg false [.V 2 (.asg (.c (.bool false)))] [0] []) (.seq (.reg false [.V 3 (.mv (.t 0)),.V 4 (.call (.c (.fn 944 [])) [.t 3,.c (.int .i64 10),.c (.int .i64 1),.c (.int .i64 200)]),.V 2 (.asg (.t 4))] [2] []) .ret)) }
noncomputable def impl_ValidPlate_D : List (Nat × Callee) := [(944,impl_isGrid_c)]
def impl_ValidPlate_H : List (Nat × ET) := [(3,(.one (.sl (.one (.int .i64)))))]
noncomputable def impl_ValidPlate_c : Callee := mkCallee impl_ValidPlate_D impl_ValidPlate_H impl_ValidPlate_ir [.d (.one (.sl (.one (.sl (.one (.int .i64))))))] [.d (.one .bool)] []
noncomputable def impl_ValidPlate (a0 : List (List Int)) : Option (Bool) := impl_ValidPlate_c.f (a0,())
theorem impl_ValidPlate_eq (a0 : List (List Int)) : impl_ValidPlate a0 =
 (impl_isGrid a0 10 1 200).bind fun x1 =>
  some x1 :=
 (mk_f _ _ _ _ _ _ _ 4000).trans (by kernel_rfl)
def impl_isCell_ir : Fn := { np := 2,io := [],res := [.t 4],own := [false],body :=
 (.seq (.reg false [.V 4 (.asg (.c (.bool false)))] [0,1] []) (.seq (.reg false [.V 5 (.mv (.t 0)),.V 6 (.call (.c (.fn 23 [])) [.t 5,.c (.int .i64 1),.c (.int .i64 10000)]),.V 7 (.mv (.t 6)),.G 8 (.mv (.t 1)) 2 true,.G 9 (.call (.c (.fn 23 [])) [.t 8,.c (.int .i64 1),.c (.int .i64 2000)]) 2 true,.V 10 (.pick (.t 7) (.t 9) (.c (.bool false))),.V 4 (.asg (.t 10))] [4] []) .ret)) }
noncomputable def impl_isCell_D : List (Nat × Callee) := [(23,impl_within_c)]
def impl_isCell_H : List (Nat × ET) := []
noncomputable def impl_isCell_c : Callee := mkCallee impl_isCell_D impl_isCell_H impl_isCell_ir [.d (.one (.int .i64)),.d (.one (.int .i64))] [.d (.one .bool)] []
noncomputable def impl_isCell (a0 : Int) (a1 : Int) : Option (Bool) := impl_isCell_c.f (a0,a1,())
theorem impl_isCell_eq (a0 : Int) (a1 : Int) : impl_isCell a0 a1 =
 (impl_within a0 1 10000).bind fun x1 =>
  if x1 then
   (impl_within a1 1 2000).bind fun x2 =>
    some x2
  else
   some false :=
 (mk_f _ _ _ _ _ _ _ 4000).trans (by kernel_rfl)
def impl_isLeast_ir : Fn := { np := 1,io := [],res := [.t 2],own := [false],body :=
 (.seq (.reg false [.V 2 (.asg (.c (.bool false)))] [0] []) (.seq (.reg false [.V 3 (.mv (.t 0)),.V 4 (.call (.c (.fn 23 [])) [.t 3,.c (.int .i64 1),.c (.int .i64 200)]),.V 2 (.asg (.t 4))] [2] []) .ret)) }
noncomputable def impl_isLeast_D : List (Nat × Callee) := [(23,impl_within_c)]
def impl_isLeast_H : List (Nat × ET) := []
noncomputable def impl_isLeast_c : Callee := mkCallee impl_isLeast_D impl_isLeast_H impl_isLeast_ir [.d (.one (.int .i64))] [.d (.one .bool)] []
noncomputable def impl_isLeast (a0 : Int) : Option (Bool) := impl_isLeast_c.f (a0,())
theorem impl_isLeast_eq (a0 : Int) : impl_isLeast a0 =
 (impl_within a0 1 200).bind fun x1 =>
  some x1 :=
 (mk_f _ _ _ _ _ _ _ 4000).trans (by kernel_rfl)
def impl_place_of_ir : Fn := { np := 2,io := [],res := [.t 4],own := [false],body :=
 (.seq (.reg false [.W 2 (.box 2 (.t 0)),.V 4 (.asg (.c (.int .i64 0)))] [1,2] [2]) (.seq (.reg true [.V 5 (.mv (.t 1)),.V 6 (.fa 0 (.t 2)),.V 7 (.ld none (.t 6)),.V 8 (.ia 1 (.t 5) (.t 7)),.V 9 (.ld none (.t 8)),.V 10 (.fa 1 (.t 2)),.V 11 (.ld none (.t 10)),.V 12 (.ia 1 (.t 9) (.t 11)),.V 13 (.ld none (.t 12)),.V 4 (.asg (.t 13))] [4] []) .ret)) }
noncomputable def impl_place_of_D : List (Nat × Callee) := []
def impl_place_of_H : List (Nat × ET) := [(5,(.one (.sl (.one (.int .i64))))),(9,(.one (.int .i64)))]
noncomputable def impl_place_of_c : Callee := mkCallee impl_place_of_D impl_place_of_H impl_place_of_ir [.d T_Point,.d (.one (.sl (.one (.sl (.one (.int .i64))))))] [.d (.one (.int .i64))] []
noncomputable def impl_place_of (a0 : T_Point.ty) (a1 : List (List Int)) : Option (Int) := impl_place_of_c.f (a0,a1,())
theorem impl_place_of_eq (a0 : T_Point.ty) (a1 : List (List Int)) : impl_place_of a0 a1 =
 if decide (0 ≤ a0.1) then
  (a1[a0.1.toNat]?).bind fun x1 =>
   if decide (0 ≤ a0.2.1) then
    (x1[a0.2.1.toNat]?).bind fun x2 =>
     some x2
   else
    none
 else
  none :=
 (mk_f _ _ _ _ _ _ _ 4000).trans (by kernel_rfl)
def impl_thinner_ir : Fn := { np := 3,io := [],res := [.t 6],own := [false],body :=
 (.seq (.reg false [.V 6 (.asg (.c (.int .i64 0)))] [0,1,2] []) (.seq (.reg false [.V 7 (.mv (.t 0)),.V 8 (.mv (.t 0)),.V 9 (.mv (.t 1)),.V 10 (.bin .sub (.t 8) (.t 9)),.V 11 (.mv (.t 2)),.V 12 (.max [.t 10,.t 11]),.V 13 (.min [.t 7,.t 12]),.V 6 (.asg (.t 13))] [6] []) .ret)) }
noncomputable def impl_thinner_D : List (Nat × Callee) := []
def impl_thinner_H : List (Nat × ET) := []
noncomputable def impl_thinner_c : Callee := mkCallee impl_thinner_D impl_thinner_H impl_thinner_ir [.d (.one (.int .i64)),.d (.one (.int .i64)),.d (.one (.int .i64))] [.d (.one (.int .i64))] []
noncomputable def impl_thinner (a0 : Int) (a1 : Int) (a2 : Int) : Option (Int) := impl_thinner_c.f (a0,a1,a2,())
theorem impl_thinner_eq (a0 : Int) (a1 : Int) (a2 : Int) : impl_thinner a0 a1 a2 =
 some (if (if a2 > IntKind.i64.wrap (a0 - a1) then a2 else IntKind.i64.wrap (a0 - a1)) < a0 then (if a2 > IntKind.i64.wrap (a0 - a1) then a2 else IntKind.i64.wrap (a0 - a1)) else a0) :=
 (mk_f _ _ _ _ _ _ _ 4000).trans (by kernel_rfl)
def impl_thinned_1_ir : Fn := { np := 4,io := [],res := [.t 5],own := [false],body :=
 (.seq (.reg false [.W 4 (.box 2 (.t 0)),.V 5 (.asg (.c (.int .i64 0)))] [1,2,3,4] [4]) (.seq (.reg true [.V 6 (.ld (some 2) (.t 4)),.V 7 (.ld none (.t 1)),.V 8 (.call (.c (.fn 464 [])) [.t 6,.t 7]),.V 9 (.ld none (.t 2)),.V 10 (.ld none (.t 3)),.V 11 (.call (.c (.fn 971 [])) [.t 8,.t 9,.t 10]),.V 5 (.asg (.t 11))] [5] []) .ret)) }
noncomputable def impl_thinned_1_D : List (Nat × Callee) := [(464,impl_place_of_c),(971,impl_thinner_c)]
def impl_thinned_1_H : List (Nat × ET) := [(7,(.one (.sl (.one (.int .i64)))))]
noncomputable def impl_thinned_1_c : Callee := mkCallee impl_thinned_1_D impl_thinned_1_H impl_thinned_1_ir [.d T_Point,.p (.one (.sl (.one (.sl (.one (.int .i64)))))),.p (.one (.int .i64)),.p (.one (.int .i64))] [.d (.one (.int .i64))] []
noncomputable def impl_thinned_1 (a0 : T_Point.ty) (a1 : List (List Int)) (a2 : Int) (a3 : Int) : Option (Int) := impl_thinned_1_c.f (a0,a1,a2,a3,())
theorem impl_thinned_1_eq (a0 : T_Point.ty) (a1 : List (List Int)) (a2 : Int) (a3 : Int) : impl_thinned_1 a0 a1 a2 a3 =
 (impl_place_of a0 a1).bind fun x1 =>
  (impl_thinner x1 a2 a3).bind fun x2 =>
   some x2 :=
 (mk_f _ _ _ _ _ _ _ 4000).trans (by kernel_rfl)
def impl_mapped_impl_thinned_1_k0 : C :=
 .seq (.reg false [.V 22 (.bin .lss (.t 21) (.t 20))] [1,5,6,8,11,12,13,20,21,22] [5,8]) (.seq (.cond (.t 22) .skip (.exit 2)) (.seq (.block 3 (.seq (.reg false [.V 23 (.mv (.t 21)),.V 9 (.asg (.t 23))] [1,5,6,8,9,11,12,13,20,21] [5,8]) (.reg false [.V 24 (.mv (.t 8)),.V 25 (.mv (.t 1)),.V 26 (.mv (.t 6)),.V 27 (.mv (.t 9)),.V 28 (.build [.int .i64 0,.int .i64 0] [(0,1,.t 26),(1,1,.t 27)]),.V 29 (.call (.t 25) [.t 28]),.V 30 (.bsl 1 (.int .i64 0) 1 [(0,.t 29)]),.W 31 (.app 1 8 (.t 24) (.t 30)),.W 8 (.asg (.t 31))] [1,5,6,8,11,12,13,20,21] [5,8]))) (.reg false [.V 32 (.bin .add (.t 21) (.c (.int .i64 1))),.V 21 (.mv (.t 32))] [1,5,6,8,11,12,13,20,21] [5,8])))
def impl_mapped_impl_thinned_1_k1 : C :=
 .norm [1,5,6,8,11,12,13,20,21] [5,8] impl_mapped_impl_thinned_1_k0
def impl_mapped_impl_thinned_1_k2 : C :=
 .reg false [.V 33 (.mv (.t 5)),.V 34 (.mv (.t 8)),.W 35 (.bsl 1 (.sl 1 []) 1 [(0,.t 34)]),.W 36 (.app 1 24 (.t 33) (.t 35)),.W 5 (.asg (.t 36))] [1,5,11,12,13] [5]
def impl_mapped_impl_thinned_1_k3 : C :=
 .reg false [.V 37 (.bin .add (.t 13) (.c (.int .i64 1))),.V 13 (.mv (.t 37))] [1,5,11,12,13] [5]
def impl_mapped_impl_thinned_1_k4 : C :=
 .seq (.reg false [.V 14 (.bin .lss (.t 13) (.t 12))] [1,5,11,12,13,14] [5]) (.seq (.cond (.t 14) .skip (.exit 0)) (.seq (.block 1 (.seq (.reg false [.V 15 (.mv (.t 13)),.V 16 (.ia 1 (.t 11) (.t 13)),.V 17 (.ld none (.t 16)),.V 6 (.asg (.t 15)),.W 7 (.asg (.t 17))] [1,5,6,7,11,12,13] [5,7]) (.seq (.reg false [.V 18 (.bsl 1 (.int .i64 0) 0 []),.W 8 (.asg (.t 18))] [1,5,6,7,8,11,12,13] [5,7,8]) (.seq (.seq (.reg false [.V 19 (.mv (.t 7)),.V 20 (.len (.t 19)),.V 21 (.mv (.c (.int .i64 0)))] [1,5,6,8,11,12,13,20,21] [5,8]) (.block 2 (.loop impl_mapped_impl_thinned_1_k1))) impl_mapped_impl_thinned_1_k2)))) impl_mapped_impl_thinned_1_k3))
def impl_mapped_impl_thinned_1_k5 : C :=
 .norm [1,5,11,12,13] [5] impl_mapped_impl_thinned_1_k4
def impl_mapped_impl_thinned_1_k6 : C :=
 .seq (.reg false [.V 38 (.mv (.t 5)),.W 4 (.asg (.t 38))] [4] [4,5]) .ret
def impl_mapped_impl_thinned_1_ir : Fn := { np := 2,io := [],res := [.t 4],own := [false],body :=
 (.seq (.reg false [.W 4 (.asg (.c (.nils 1)))] [0,1] []) (.seq (.reg false [.V 10 (.bsl 1 (.sl 1 []) 0 []),.W 5 (.asg (.t 10))] [0,1,5] [5]) (.seq (.seq (.reg false [.V 11 (.mv (.t 0)),.V 12 (.len (.t 11)),.V 13 (.mv (.c (.int .i64 0)))] [1,5,11,12,13] [5]) (.block 0 (.loop impl_mapped_impl_thinned_1_k5))) impl_mapped_impl_thinned_1_k6))) }
noncomputable def impl_mapped_impl_thinned_1_D : List (Nat × Callee) := [(967,impl_thinned_1_c)]
def impl_mapped_impl_thinned_1_H : List (Nat × ET) := [(4,(.one (.sl (.one (.int .i64))))),(5,(.one (.sl (.one (.int .i64))))),(7,(.one (.int .i64))),(8,(.one (.int .i64))),(10,(.one (.sl (.one (.int .i64))))),(11,(.one (.sl (.one (.int .i64))))),(17,(.one (.int .i64))),(18,(.one (.int .i64))),(19,(.one (.int .i64))),(24,(.one (.int .i64))),(30,(.one (.int .i64))),(31,(.one (.int .i64))),(33,(.one (.sl (.one (.int .i64))))),(34,(.one (.int .i64))),(35,(.one (.sl (.one (.int .i64))))),(36,(.one (.sl (.one (.int .i64))))),(38,(.one (.sl (.one (.int .i64)))))]
noncomputable def impl_mapped_impl_thinned_1_c : Callee := mkCallee impl_mapped_impl_thinned_1_D impl_mapped_impl_thinned_1_H impl_mapped_impl_thinned_1_ir [.d (.one (.sl (.one (.sl (.one (.int .i64)))))),.fn 967 [(.one (.sl (.one (.sl (.one (.int .i64)))))),(.one (.int .i64)),(.one (.int .i64))]] [.d (.one (.sl (.one (.sl (.one (.int .i64))))))] []
noncomputable def impl_mapped_impl_thinned_1 (a0 : List (List Int)) (a1 : (List (List Int)) × Int × Int × Unit) : Option (List (List Int)) := impl_mapped_impl_thinned_1_c.f (a0,a1,())
noncomputable def impl_mapped_impl_thinned_1_p0  (v1_0_0 : List (List Int)) (v1_1_0 : Int) (v1_2_0 : Int) (v11 : List (List Int)) (v12 : Int) (v13 : Int) (r5 : List (List Int)) : Option (List (List Int)) :=
 goL impl_mapped_impl_thinned_1_D impl_mapped_impl_thinned_1_H (vleave impl_mapped_impl_thinned_1_ir [.d (.one (.sl (.one (.sl (.one (.int .i64)))))),.fn 967 [(.one (.sl (.one (.sl (.one (.int .i64)))))),(.one (.int .i64)),(.one (.int .i64))]] [.d (.one (.sl (.one (.sl (.one (.int .i64))))))] [] []) [.c impl_mapped_impl_thinned_1_k4,.l impl_mapped_impl_thinned_1_k5,.e 0,.c impl_mapped_impl_thinned_1_k6]
  ⟨[(1,.fn 967 [.ptr [.sl (.one (.sl (.one (.int .i64)))) v1_0_0] 0,.ptr [.int .i64 v1_1_0] 0,.ptr [.int .i64 v1_2_0] 0]),(5,.view 5 0 r5.length),(11,.sl (.one (.sl (.one (.int .i64)))) v11),(12,.int .i64 v12),(13,.int .i64 v13)],[(5,some (.sl (.one (.sl (.one (.int .i64)))) r5))]⟩
noncomputable def impl_mapped_impl_thinned_1_p1  (v1_0_0 : List (List Int)) (v1_1_0 : Int) (v1_2_0 : Int) (v6 : Int) (v11 : List (List Int)) (v12 : Int) (v13 : Int) (v20 : Int) (v21 : Int) (r5 : List (List Int)) (r8 : List Int) : Option (List (List Int)) :=
 goL impl_mapped_impl_thinned_1_D impl_mapped_impl_thinned_1_H (vleave impl_mapped_impl_thinned_1_ir [.d (.one (.sl (.one (.sl (.one (.int .i64)))))),.fn 967 [(.one (.sl (.one (.sl (.one (.int .i64)))))),(.one (.int .i64)),(.one (.int .i64))]] [.d (.one (.sl (.one (.sl (.one (.int .i64))))))] [] []) [.c impl_mapped_impl_thinned_1_k0,.l impl_mapped_impl_thinned_1_k1,.e 2,.c impl_mapped_impl_thinned_1_k2,.e 1,.c impl_mapped_impl_thinned_1_k3,.l impl_mapped_impl_thinned_1_k5,.e 0,.c impl_mapped_impl_thinned_1_k6]
  ⟨[(1,.fn 967 [.ptr [.sl (.one (.sl (.one (.int .i64)))) v1_0_0] 0,.ptr [.int .i64 v1_1_0] 0,.ptr [.int .i64 v1_2_0] 0]),(5,.view 5 0 r5.length),(6,.int .i64 v6),(8,.view 8 0 r8.length),(11,.sl (.one (.sl (.one (.int .i64)))) v11),(12,.int .i64 v12),(13,.int .i64 v13),(20,.int .i64 v20),(21,.int .i64 v21)],[(5,some (.sl (.one (.sl (.one (.int .i64)))) r5)),(8,some (.sl (.one (.int .i64)) r8))]⟩
theorem impl_mapped_impl_thinned_1_eq (a0 : List (List Int)) (a1 : (List (List Int)) × Int × Int × Unit) : impl_mapped_impl_thinned_1 a0 a1 =
 impl_mapped_impl_thinned_1_p0 a1.1 a1.2.1 a1.2.2.1 a0 (a0.length : Int) 0 [] :=
 (mk_f _ _ _ _ _ _ _ 4000).trans (by kernel_rfl)
theorem impl_mapped_impl_thinned_1_p0_eq  (v1_0_0 : List (List Int)) (v1_1_0 : Int) (v1_2_0 : Int) (v11 : List (List Int)) (v12 : Int) (v13 : Int) (r5 : List (List Int)) : impl_mapped_impl_thinned_1_p0 v1_0_0 v1_1_0 v1_2_0 v11 v12 v13 r5 =
 if decide (v13 < v12) then
  if decide (0 ≤ v13) then
   (v11[v13.toNat]?).bind fun x1 =>
    impl_mapped_impl_thinned_1_p1 v1_0_0 v1_1_0 v1_2_0 v13 v11 v12 v13 (x1.length : Int) 0 r5 []
  else
   none
 else
  some (r5.take r5.length) :=
 (goL_dn _ _ _ 4000 _ _).trans (by kernel_rfl)
theorem impl_mapped_impl_thinned_1_p1_eq  (v1_0_0 : List (List Int)) (v1_1_0 : Int) (v1_2_0 : Int) (v6 : Int) (v11 : List (List Int)) (v12 : Int) (v13 : Int) (v20 : Int) (v21 : Int) (r5 : List (List Int)) (r8 : List Int) : impl_mapped_impl_thinned_1_p1 v1_0_0 v1_1_0 v1_2_0 v6 v11 v12 v13 v20 v21 r5 r8 =
 if decide (v21 < v20) then
  (impl_thinned_1 (v6,v21,()) v1_0_0 v1_1_0 v1_2_0).bind fun x1 =>
   if decide (r8.length + 1 < lim) then
    impl_mapped_impl_thinned_1_p1 v1_0_0 v1_1_0 v1_2_0 v6 v11 v12 v13 v20 (IntKind.i64.wrap (v21 + 1)) r5 ((r8.take r8.length) ++ [x1])
   else
    none
 else
  if decide (r5.length + 1 < lim) then
   impl_mapped_impl_thinned_1_p0 v1_0_0 v1_1_0 v1_2_0 v11 v12 (IntKind.i64.wrap (v13 + 1)) ((r5.take r5.length) ++ [(r8.take r8.length)])
  else
   none :=
 (goL_dn _ _ _ 4000 _ _).trans (by kernel_rfl)
def impl_thinned_ir : Fn := { np := 3,io := [],res := [.t 6],own := [false],body :=
 (.seq (.reg false [.W 3 (.box 1 (.t 0)),.W 4 (.box 1 (.t 1)),.W 5 (.box 1 (.t 2)),.W 6 (.asg (.c (.nils 1)))] [3,4,5] [3,4,5,4000]) (.seq (.opn 6000003 (.opn 6000004 (.opn 6000005 (.reg false [.V 7 (.ld none (.t 3)),.V 8 (.mkf 967 [.t 3,.t 4,.t 5]),.W 9 (.call (.c (.fn 1270 [])) [.t 7,.t 8]),.W 6 (.asg (.t 9))] [6] [6])))) .ret)) }
noncomputable def impl_thinned_D : List (Nat × Callee) := [(1270,impl_mapped_impl_thinned_1_c)]
def impl_thinned_H : List (Nat × ET) := [(6,(.one (.sl (.one (.int .i64))))),(7,(.one (.sl (.one (.int .i64))))),(9,(.one (.sl (.one (.int .i64)))))]
noncomputable def impl_thinned_c : Callee := mkCallee impl_thinned_D impl_thinned_H impl_thinned_ir [.d (.one (.sl (.one (.sl (.one (.int .i64)))))),.d (.one (.int .i64)),.d (.one (.int .i64))] [.d (.one (.sl (.one (.sl (.one (.int .i64))))))] []
noncomputable def impl_thinned (a0 : List (List Int)) (a1 : Int) (a2 : Int) : Option (List (List Int)) := impl_thinned_c.f (a0,a1,a2,())
theorem impl_thinned_eq (a0 : List (List Int)) (a1 : Int) (a2 : Int) : impl_thinned a0 a1 a2 =
 (impl_mapped_impl_thinned_1 a0 (a0,a1,a2,())).bind fun x1 =>
  some x1 :=
 (mk_f _ _ _ _ _ _ _ 4000).trans (by kernel_rfl)
def impl_places_k0 : C :=
 .seq (.reg false [.V 18 (.bin .lss (.t 17) (.t 16))] [3,4,8,9,10,16,17,18] [3]) (.seq (.cond (.t 18) .skip (.exit 2)) (.seq (.block 3 (.seq (.reg false [.V 19 (.mv (.t 17)),.V 6 (.asg (.t 19))] [3,4,6,8,9,10,16,17] [3]) (.reg false [.V 20 (.mv (.t 3)),.V 21 (.mv (.t 4)),.V 22 (.mv (.t 6)),.V 23 (.build [.int .i64 0,.int .i64 0] [(0,1,.t 21),(1,1,.t 22)]),.V 24 (.bsl 2 (.agg [.int .i64 0,.int .i64 0]) 1 [(0,.t 23)]),.W 25 (.app 2 16 (.t 20) (.t 24)),.W 3 (.asg (.t 25))] [3,4,8,9,10,16,17] [3]))) (.reg false [.V 26 (.bin .add (.t 17) (.c (.int .i64 1))),.V 17 (.mv (.t 26))] [3,4,8,9,10,16,17] [3])))
def impl_places_k1 : C :=
 .norm [3,4,8,9,10,16,17] [3] impl_places_k0
def impl_places_k2 : C :=
 .reg false [.V 27 (.bin .add (.t 10) (.c (.int .i64 1))),.V 10 (.mv (.t 27))] [3,8,9,10] [3]
def impl_places_k3 : C :=
 .seq (.reg false [.V 11 (.bin .lss (.t 10) (.t 9))] [3,8,9,10,11] [3]) (.seq (.cond (.t 11) .skip (.exit 0)) (.seq (.block 1 (.seq (.reg false [.V 12 (.mv (.t 10)),.V 13 (.ia 1 (.t 8) (.t 10)),.V 14 (.ld none (.t 13)),.V 4 (.asg (.t 12)),.W 5 (.asg (.t 14))] [3,4,5,8,9,10] [3,5]) (.seq (.reg false [.V 15 (.mv (.t 5)),.V 16 (.len (.t 15)),.V 17 (.mv (.c (.int .i64 0)))] [3,4,8,9,10,16,17] [3]) (.block 2 (.loop impl_places_k1))))) impl_places_k2))
def impl_places_k4 : C :=
 .norm [3,8,9,10] [3] impl_places_k3
def impl_places_k5 : C :=
 .seq (.reg false [.V 28 (.mv (.t 3)),.W 2 (.asg (.t 28))] [2] [2,3]) .ret
def impl_places_ir : Fn := { np := 1,io := [],res := [.t 2],own := [true],body :=
 (.seq (.reg false [.W 2 (.asg (.c (.nils 2)))] [0] []) (.seq (.reg false [.V 7 (.bsl 2 (.agg [.int .i64 0,.int .i64 0]) 0 []),.W 3 (.asg (.t 7))] [0,3] [3]) (.seq (.seq (.reg false [.V 8 (.mv (.t 0)),.V 9 (.len (.t 8)),.V 10 (.mv (.c (.int .i64 0)))] [3,8,9,10] [3]) (.block 0 (.loop impl_places_k4))) impl_places_k5))) }
noncomputable def impl_places_D : List (Nat × Callee) := []
def impl_places_H : List (Nat × ET) := [(2,T_Point),(3,T_Point),(5,(.one (.int .i64))),(7,T_Point),(8,(.one (.sl (.one (.int .i64))))),(14,(.one (.int .i64))),(15,(.one (.int .i64))),(20,T_Point),(24,T_Point),(25,T_Point),(28,T_Point)]
noncomputable def impl_places_c : Callee := mkCallee impl_places_D impl_places_H impl_places_ir [.d (.one (.sl (.one (.sl (.one (.int .i64))))))] [.tok T_Point] []
noncomputable def impl_places (a0 : List (List Int)) : Option (List T_Point.ty) := impl_places_c.f (a0,())
noncomputable def impl_places_p0  (v8 : List (List Int)) (v9 : Int) (v10 : Int) (r3 : List T_Point.ty) : Option (List T_Point.ty) :=
 goL impl_places_D impl_places_H (vleave impl_places_ir [.d (.one (.sl (.one (.sl (.one (.int .i64))))))] [.tok T_Point] [] []) [.c impl_places_k3,.l impl_places_k4,.e 0,.c impl_places_k5]
  ⟨[(3,.view 3 0 r3.length),(8,.sl (.one (.sl (.one (.int .i64)))) v8),(9,.int .i64 v9),(10,.int .i64 v10)],[(3,some (.sl T_Point r3))]⟩
noncomputable def impl_places_p1  (v4 : Int) (v8 : List (List Int)) (v9 : Int) (v10 : Int) (v16 : Int) (v17 : Int) (r3 : List T_Point.ty) : Option (List T_Point.ty) :=
 goL impl_places_D impl_places_H (vleave impl_places_ir [.d (.one (.sl (.one (.sl (.one (.int .i64))))))] [.tok T_Point] [] []) [.c impl_places_k0,.l impl_places_k1,.e 2,.e 1,.c impl_places_k2,.l impl_places_k4,.e 0,.c impl_places_k5]
  ⟨[(3,.view 3 0 r3.length),(4,.int .i64 v4),(8,.sl (.one (.sl (.one (.int .i64)))) v8),(9,.int .i64 v9),(10,.int .i64 v10),(16,.int .i64 v16),(17,.int .i64 v17)],[(3,some (.sl T_Point r3))]⟩
theorem impl_places_eq (a0 : List (List Int)) : impl_places a0 =
 impl_places_p0 a0 (a0.length : Int) 0 [] :=
 (mk_f _ _ _ _ _ _ _ 4000).trans (by kernel_rfl)
theorem impl_places_p0_eq  (v8 : List (List Int)) (v9 : Int) (v10 : Int) (r3 : List T_Point.ty) : impl_places_p0 v8 v9 v10 r3 =
 if decide (v10 < v9) then
  if decide (0 ≤ v10) then
   (v8[v10.toNat]?).bind fun x1 =>
    impl_places_p1 v10 v8 v9 v10 (x1.length : Int) 0 r3
  else
   none
 else
  some (r3.take r3.length) :=
 (goL_dn _ _ _ 4000 _ _).trans (by kernel_rfl)
theorem impl_places_p1_eq  (v4 : Int) (v8 : List (List Int)) (v9 : Int) (v10 : Int) (v16 : Int) (v17 : Int) (r3 : List T_Point.ty) : impl_places_p1 v4 v8 v9 v10 v16 v17 r3 =
 if decide (v17 < v16) then
  if decide (r3.length + 1 < lim) then
   impl_places_p1 v4 v8 v9 v10 v16 (IntKind.i64.wrap (v17 + 1)) ((r3.take r3.length) ++ [(v4,v17,())])
  else
   none
 else
  impl_places_p0 v8 v9 (IntKind.i64.wrap (v10 + 1)) r3 :=
 (goL_dn _ _ _ 4000 _ _).trans (by kernel_rfl)
def impl_divRound_ir : Fn := { np := 2,io := [],res := [.t 4],own := [false],body :=
 (.seq (.reg false [.V 4 (.asg (.c (.int .i64 0)))] [0,1] []) (.seq (.reg false [.V 8 (.mv (.t 0)),.V 9 (.bin .lss (.t 8) (.c (.int .i64 0))),.V 10 (.mv (.t 1)),.V 11 (.bin .lss (.t 10) (.c (.int .i64 0))),.V 12 (.eqb true (.t 9) (.t 11)),.V 5 (.asg (.t 12))] [0,1,5] []) (.seq (.reg false [.V 13 (.mv (.t 0)),.V 14 (.mv (.t 0)),.V 15 (.un .neg (.t 14)),.V 16 (.max [.t 13,.t 15]),.V 17 (.mv (.t 1)),.V 18 (.mv (.t 1)),.V 19 (.un .neg (.t 18)),.V 20 (.max [.t 17,.t 19]),.V 0 (.asg (.t 16)),.V 1 (.asg (.t 20))] [0,1,5] []) (.seq (.reg false [.V 21 (.mv (.t 0)),.V 22 (.mv (.t 1)),.V 23 (.bin .quo (.t 21) (.t 22)),.V 6 (.asg (.t 23))] [0,1,5,6] []) (.seq (.seq (.reg false [.V 24 (.mv (.t 0)),.V 25 (.mv (.t 1)),.V 26 (.bin .rem (.t 24) (.t 25)),.V 7 (.asg (.t 26))] [1,5,6,7] []) (.seq (.reg false [.V 27 (.mv (.t 7)),.V 28 (.mv (.t 1)),.V 29 (.mv (.t 7)),.V 30 (.bin .sub (.t 28) (.t 29)),.V 31 (.bin .geq (.t 27) (.t 30))] [5,6,31] []) (.cond (.t 31) (.reg false [.V 32 (.mv (.t 6)),.V 33 (.bin .add (.t 32) (.c (.int .i64 1))),.V 6 (.asg (.t 33))] [5,6] []) .skip))) (.seq (.seq (.reg false [.V 34 (.mv (.t 5))] [6,34] []) (.cond (.t 34) (.seq (.reg false [.V 35 (.mv (.t 6)),.V 36 (.un .neg (.t 35)),.V 4 (.asg (.t 36))] [4] []) .ret) .skip)) (.seq (.reg false [.V 37 (.mv (.t 6)),.V 4 (.asg (.t 37))] [4] []) .ret))))))) }
noncomputable def impl_divRound_D : List (Nat × Callee) := []
def impl_divRound_H : List (Nat × ET) := []
noncomputable def impl_divRound_c : Callee := mkCallee impl_divRound_D impl_divRound_H impl_divRound_ir [.d (.one (.int .i64)),.d (.one (.int .i64))] [.d (.one (.int .i64))] []
noncomputable def impl_divRound (a0 : Int) (a1 : Int) : Option (Int) := impl_divRound_c.f (a0,a1,())
theorem impl_divRound_eq (a0 : Int) (a1 : Int) : impl_divRound a0 a1 =
 if decide ((if IntKind.i64.wrap (0 - a1) > a1 then IntKind.i64.wrap (0 - a1) else a1) = 0) then
  none
 else
  if decide ((if IntKind.i64.wrap (0 - a1) > a1 then IntKind.i64.wrap (0 - a1) else a1) = 0) then
   none
  else
   if decide ((if IntKind.i64.wrap (0 - a0) > a0 then IntKind.i64.wrap (0 - a0) else a0).tmod (if IntKind.i64.wrap (0 - a1) > a1 then IntKind.i64.wrap (0 - a1) else a1) ≥ IntKind.i64.wrap ((if IntKind.i64.wrap (0 - a1) > a1 then IntKind.i64.wrap (0 - a1) else a1) - ((if IntKind.i64.wrap (0 - a0) > a0 then IntKind.i64.wrap (0 - a0) else a0).tmod (if IntKind.i64.wrap (0 - a1) > a1 then IntKind.i64.wrap (0 - a1) else a1)))) then
    if (!(decide (a0 < 0) == decide (a1 < 0))) then
     some (IntKind.i64.wrap (0 - (IntKind.i64.wrap ((IntKind.i64.wrap ((if IntKind.i64.wrap (0 - a0) > a0 then IntKind.i64.wrap (0 - a0) else a0).tdiv (if IntKind.i64.wrap (0 - a1) > a1 then IntKind.i64.wrap (0 - a1) else a1))) + 1))))
    else
     some (IntKind.i64.wrap ((IntKind.i64.wrap ((if IntKind.i64.wrap (0 - a0) > a0 then IntKind.i64.wrap (0 - a0) else a0).tdiv (if IntKind.i64.wrap (0 - a1) > a1 then IntKind.i64.wrap (0 - a1) else a1))) + 1))
   else
    if (!(decide (a0 < 0) == decide (a1 < 0))) then
     some (IntKind.i64.wrap (0 - (IntKind.i64.wrap ((if IntKind.i64.wrap (0 - a0) > a0 then IntKind.i64.wrap (0 - a0) else a0).tdiv (if IntKind.i64.wrap (0 - a1) > a1 then IntKind.i64.wrap (0 - a1) else a1)))))
    else
     some (IntKind.i64.wrap ((if IntKind.i64.wrap (0 - a0) > a0 then IntKind.i64.wrap (0 - a0) else a0).tdiv (if IntKind.i64.wrap (0 - a1) > a1 then IntKind.i64.wrap (0 - a1) else a1))) :=
 (mk_f _ _ _ _ _ _ _ 4000).trans (by kernel_rfl)
def impl_plateMass_k0 : C :=
 .seq (.reg false [.V 14 (.bin .lss (.t 13) (.t 12))] [0,1,2,7,11,12,13,14] []) (.seq (.cond (.t 14) .skip (.exit 0)) (.seq (.block 1 (.seq (.reg false [.V 15 (.ia 2 (.t 11) (.t 13)),.V 16 (.ld (some 2) (.t 15)),.W 9 (.alloc 2 (.agg [.int .i64 0,.int .i64 0])),⟨none,true,.sto 2 (.t 9) (.t 16),none,false,[]⟩] [0,1,2,7,9,11,12,13] [9]) (.reg false [.V 17 (.mv (.t 7)),.V 18 (.ld (some 2) (.t 9)),.V 19 (.mv (.t 0)),.V 20 (.call (.c (.fn 464 [])) [.t 18,.t 19]),.V 21 (.bin .add (.t 17) (.t 20)),.V 7 (.asg (.t 21))] [0,1,2,7,11,12,13] []))) (.reg false [.V 22 (.bin .add (.t 13) (.c (.int .i64 1))),.V 13 (.mv (.t 22))] [0,1,2,7,11,12,13] [])))
def impl_plateMass_k1 : C :=
 .norm [0,1,2,7,11,12,13] [] impl_plateMass_k0
def impl_plateMass_k2 : C :=
 .seq (.reg false [.V 23 (.mv (.t 7)),.V 24 (.mv (.t 1)),.V 25 (.bin .mul (.t 23) (.t 24)),.V 26 (.mv (.t 2)),.V 27 (.bin .mul (.t 25) (.t 26)),.V 28 (.call (.c (.fn 27 [])) [.t 27,.c (.int .i64 10000)]),.V 6 (.asg (.t 28))] [6] []) .ret
def impl_plateMass_ir : Fn := { np := 3,io := [],res := [.t 6],own := [false],body :=
 (.seq (.reg false [.V 6 (.asg (.c (.int .i64 0)))] [0,1,2] []) (.seq (.reg false [.V 7 (.asg (.c (.int .i64 0)))] [0,1,2,7] []) (.seq (.seq (.reg false [.V 10 (.mv (.t 0)),.V 11 (.call (.c (.fn 465 [])) [.t 10]),.V 12 (.len (.t 11)),.V 13 (.mv (.c (.int .i64 0)))] [0,1,2,7,11,12,13] []) (.block 0 (.loop impl_plateMass_k1))) impl_plateMass_k2))) }
noncomputable def impl_plateMass_D : List (Nat × Callee) := [(27,impl_divRound_c),(464,impl_place_of_c),(465,impl_places_c)]
def impl_plateMass_H : List (Nat × ET) := [(10,(.one (.sl (.one (.int .i64))))),(11,T_Point),(19,(.one (.sl (.one (.int .i64)))))]
noncomputable def impl_plateMass_c : Callee := mkCallee impl_plateMass_D impl_plateMass_H impl_plateMass_ir [.d (.one (.sl (.one (.sl (.one (.int .i64)))))),.d (.one (.int .i64)),.d (.one (.int .i64))] [.d (.one (.int .i64))] []
noncomputable def impl_plateMass (a0 : List (List Int)) (a1 : Int) (a2 : Int) : Option (Int) := impl_plateMass_c.f (a0,a1,a2,())
noncomputable def impl_plateMass_p0  (v0 : List (List Int)) (v1 : Int) (v2 : Int) (v7 : Int) (v11 : List T_Point.ty) (v12 : Int) (v13 : Int) : Option (Int) :=
 goL impl_plateMass_D impl_plateMass_H (vleave impl_plateMass_ir [.d (.one (.sl (.one (.sl (.one (.int .i64)))))),.d (.one (.int .i64)),.d (.one (.int .i64))] [.d (.one (.int .i64))] [] []) [.c impl_plateMass_k0,.l impl_plateMass_k1,.e 0,.c impl_plateMass_k2]
  ⟨[(0,.sl (.one (.sl (.one (.int .i64)))) v0),(1,.int .i64 v1),(2,.int .i64 v2),(7,.int .i64 v7),(11,.sl T_Point v11),(12,.int .i64 v12),(13,.int .i64 v13)],[]⟩
theorem impl_plateMass_eq (a0 : List (List Int)) (a1 : Int) (a2 : Int) : impl_plateMass a0 a1 a2 =
 (impl_places a0).bind fun x1 =>
  impl_plateMass_p0 a0 a1 a2 0 x1 (x1.length : Int) 0 :=
 (mk_f _ _ _ _ _ _ _ 4000).trans (by kernel_rfl)
theorem impl_plateMass_p0_eq  (v0 : List (List Int)) (v1 : Int) (v2 : Int) (v7 : Int) (v11 : List T_Point.ty) (v12 : Int) (v13 : Int) : impl_plateMass_p0 v0 v1 v2 v7 v11 v12 v13 =
 if decide (v13 < v12) then
  if decide (0 ≤ v13) then
   (v11[v13.toNat]?).bind fun x1 =>
    (impl_place_of x1 v0).bind fun x2 =>
     impl_plateMass_p0 v0 v1 v2 (IntKind.i64.wrap (v7 + x2)) v11 v12 (IntKind.i64.wrap (v13 + 1))
  else
   none
 else
  (impl_divRound (IntKind.i64.wrap ((IntKind.i64.wrap (v7 * v1)) * v2)) 10000).bind fun x3 =>
   some x3 :=
 (goL_dn _ _ _ 4000 _ _).trans (by kernel_rfl)
def impl_ThinTo_k0 : C :=
 .seq (.seq (.reg false [.V 30 (.mv (.t 12)),.V 31 (.bin .leq (.t 30) (.c (.int .i64 200)))] [0,1,2,3,4,12,31] []) (.cond (.t 31) .skip (.exit 0))) (.seq (.block 1 (.seq (.reg false [.V 34 (.mv (.t 0)),.V 35 (.mv (.t 12)),.V 36 (.mv (.t 4)),.V 37 (.call (.c (.fn 770 [])) [.t 34,.t 35,.t 36]),.V 38 (.mv (.t 1)),.V 39 (.mv (.t 2)),.V 40 (.call (.c (.fn 771 [])) [.t 37,.t 38,.t 39]),.V 41 (.mv (.t 3)),.V 42 (.bin .leq (.t 40) (.t 41))] [0,1,2,3,4,12,42] []) (.cond (.t 42) (.seq (.reg false [.V 43 (.mv (.t 12)),.V 10 (.asg (.t 43)),.V 11 (.asg (.c (.int .i64 0)))] [10,11] []) .ret) .skip))) (.reg false [.V 32 (.mv (.t 12)),.V 33 (.bin .add (.t 32) (.c (.int .i64 1))),.V 12 (.asg (.t 33))] [0,1,2,3,4,12] []))
def impl_ThinTo_k1 : C :=
 .norm [0,1,2,3,4,12] [] impl_ThinTo_k0
def impl_ThinTo_k2 : C :=
 .seq (.reg false [.V 10 (.asg (.c (.int .i64 0))),.V 11 (.asg (.c (.int .i64 3)))] [10,11] []) .ret
def impl_ThinTo_k3 : C :=
 .seq (.seq (.reg false [.V 12 (.asg (.c (.int .i64 0)))] [0,1,2,3,4,12] []) (.block 0 (.loop impl_ThinTo_k1))) impl_ThinTo_k2
def impl_ThinTo_ir : Fn := { np := 5,io := [],res := [.t 10,.t 11],own := [false,false],body :=
 (.seq (.reg false [.V 10 (.asg (.c (.int .i64 0))),.V 11 (.asg (.c (.int .i64 0)))] [0,1,2,3,4] []) (.seq (.seq (.reg false [.V 13 (.mv (.t 0)),.V 14 (.call (.c (.fn 714 [])) [.t 13]),.V 15 (.un .not (.t 14))] [0,1,2,3,4,15] []) (.cond (.t 15) (.seq (.reg false [.V 10 (.asg (.c (.int .i64 0))),.V 11 (.asg (.c (.int .i64 1)))] [10,11] []) .ret) .skip)) (.seq (.seq (.reg false [.V 16 (.mv (.t 1)),.V 17 (.mv (.t 2)),.V 18 (.call (.c (.fn 772 [])) [.t 16,.t 17]),.V 19 (.un .not (.t 18)),.V 20 (.mv (.t 19)),.G 21 (.mv (.t 3)) 4 false,.G 22 (.call (.c (.fn 23 [])) [.t 21,.c (.int .i64 0),.c (.int .i64 1000000000)]) 4 false,.G 23 (.un .not (.t 22)) 4 false,.V 24 (.pick (.t 20) (.c (.bool true)) (.t 23)),.V 25 (.mv (.t 24)),.G 26 (.mv (.t 4)) 9 false,.G 27 (.call (.c (.fn 773 [])) [.t 26]) 9 false,.G 28 (.un .not (.t 27)) 9 false,.V 29 (.pick (.t 25) (.c (.bool true)) (.t 28))] [0,1,2,3,4,29] []) (.cond (.t 29) (.seq (.reg false [.V 10 (.asg (.c (.int .i64 0))),.V 11 (.asg (.c (.int .i64 2)))] [10,11] []) .ret) .skip)) (.norm [0,1,2,3,4] [] impl_ThinTo_k3)))) }
noncomputable def impl_ThinTo_D : List (Nat × Callee) := [(23,impl_within_c),(714,impl_ValidPlate_c),(770,impl_thinned_c),(771,impl_plateMass_c),(772,impl_isCell_c),(773,impl_isLeast_c)]
def impl_ThinTo_H : List (Nat × ET) := [(13,(.one (.sl (.one (.int .i64))))),(34,(.one (.sl (.one (.int .i64))))),(37,(.one (.sl (.one (.int .i64)))))]
noncomputable def impl_ThinTo_c : Callee := mkCallee impl_ThinTo_D impl_ThinTo_H impl_ThinTo_ir [.d (.one (.sl (.one (.sl (.one (.int .i64)))))),.d (.one (.int .i64)),.d (.one (.int .i64)),.d (.one (.int .i64)),.d (.one (.int .i64))] [.d (.one (.int .i64)),.d (.one (.int .i64))] []
noncomputable def impl_ThinTo (a0 : List (List Int)) (a1 : Int) (a2 : Int) (a3 : Int) (a4 : Int) : Option (Int × Int) := impl_ThinTo_c.f (a0,a1,a2,a3,a4,())
noncomputable def impl_ThinTo_p0  (v0 : List (List Int)) (v1 : Int) (v2 : Int) (v3 : Int) (v4 : Int) : Option (Int × Int) :=
 goL impl_ThinTo_D impl_ThinTo_H (vleave impl_ThinTo_ir [.d (.one (.sl (.one (.sl (.one (.int .i64)))))),.d (.one (.int .i64)),.d (.one (.int .i64)),.d (.one (.int .i64)),.d (.one (.int .i64))] [.d (.one (.int .i64)),.d (.one (.int .i64))] [] []) [.c impl_ThinTo_k3]
  ⟨[(0,.sl (.one (.sl (.one (.int .i64)))) v0),(1,.int .i64 v1),(2,.int .i64 v2),(3,.int .i64 v3),(4,.int .i64 v4)],[]⟩
noncomputable def impl_ThinTo_p1  (v0 : List (List Int)) (v1 : Int) (v2 : Int) (v3 : Int) (v4 : Int) (v12 : Int) : Option (Int × Int) :=
 goL impl_ThinTo_D impl_ThinTo_H (vleave impl_ThinTo_ir [.d (.one (.sl (.one (.sl (.one (.int .i64)))))),.d (.one (.int .i64)),.d (.one (.int .i64)),.d (.one (.int .i64)),.d (.one (.int .i64))] [.d (.one (.int .i64)),.d (.one (.int .i64))] [] []) [.c impl_ThinTo_k0,.l impl_ThinTo_k1,.e 0,.c impl_ThinTo_k2]
  ⟨[(0,.sl (.one (.sl (.one (.int .i64)))) v0),(1,.int .i64 v1),(2,.int .i64 v2),(3,.int .i64 v3),(4,.int .i64 v4),(12,.int .i64 v12)],[]⟩
theorem impl_ThinTo_eq (a0 : List (List Int)) (a1 : Int) (a2 : Int) (a3 : Int) (a4 : Int) : impl_ThinTo a0 a1 a2 a3 a4 =
 (impl_ValidPlate a0).bind fun x1 =>
  if (!x1) then
   some (0,1)
  else
   (impl_isCell a1 a2).bind fun x2 =>
    if (!x2) then
     some (0,2)
    else
     (impl_within a3 0 1000000000).bind fun x3 =>
      if (!x3) then
       some (0,2)
      else
       (impl_isLeast a4).bind fun x4 =>
        if (!x4) then
         some (0,2)
        else
         impl_ThinTo_p0 a0 a1 a2 a3 a4 :=
 (mk_f _ _ _ _ _ _ _ 4000).trans (by kernel_rfl)
theorem impl_ThinTo_p0_eq  (v0 : List (List Int)) (v1 : Int) (v2 : Int) (v3 : Int) (v4 : Int) : impl_ThinTo_p0 v0 v1 v2 v3 v4 =
 impl_ThinTo_p1 v0 v1 v2 v3 v4 0 :=
 (goL_dn _ _ _ 4000 _ _).trans (by kernel_rfl)
theorem impl_ThinTo_p1_eq  (v0 : List (List Int)) (v1 : Int) (v2 : Int) (v3 : Int) (v4 : Int) (v12 : Int) : impl_ThinTo_p1 v0 v1 v2 v3 v4 v12 =
 if decide (v12 ≤ 200) then
  (impl_thinned v0 v12 v4).bind fun x1 =>
   (impl_plateMass x1 v1 v2).bind fun x2 =>
    if decide (x2 ≤ v3) then
     some (v12,0)
    else
     impl_ThinTo_p1 v0 v1 v2 v3 v4 (IntKind.i64.wrap (v12 + 1))
 else
  some (0,3) :=
 (goL_dn _ _ _ 4000 _ _).trans (by kernel_rfl)
def impl_isBy_ir : Fn := { np := 1,io := [],res := [.t 2],own := [false],body :=
 (.seq (.reg false [.V 2 (.asg (.c (.bool false)))] [0] []) (.seq (.reg false [.V 3 (.mv (.t 0)),.V 4 (.call (.c (.fn 23 [])) [.t 3,.c (.int .i64 0),.c (.int .i64 200)]),.V 2 (.asg (.t 4))] [2] []) .ret)) }
noncomputable def impl_isBy_D : List (Nat × Callee) := [(23,impl_within_c)]
def impl_isBy_H : List (Nat × ET) := []
noncomputable def impl_isBy_c : Callee := mkCallee impl_isBy_D impl_isBy_H impl_isBy_ir [.d (.one (.int .i64))] [.d (.one .bool)] []
noncomputable def impl_isBy (a0 : Int) : Option (Bool) := impl_isBy_c.f (a0,())
theorem impl_isBy_eq (a0 : Int) : impl_isBy a0 =
 (impl_within a0 0 200).bind fun x1 =>
  some x1 :=
 (mk_f _ _ _ _ _ _ _ 4000).trans (by kernel_rfl)
def impl_ThinAll_k0 : C :=
 .seq (.reg false [.V 19 (.mv (.t 0)),.V 20 (.mv (.t 1)),.V 21 (.mv (.t 2)),.V 22 (.call (.c (.fn 770 [])) [.t 19,.t 20,.t 21]),.W 6 (.asg (.t 22)),.V 7 (.asg (.c (.int .i64 0)))] [6,7] [6]) .ret
def impl_ThinAll_ir : Fn := { np := 3,io := [],res := [.t 6,.t 7],own := [false,false],body :=
 (.seq (.reg false [.W 6 (.asg (.c (.nils 1))),.V 7 (.asg (.c (.int .i64 0)))] [0,1,2] []) (.seq (.seq (.reg false [.V 8 (.mv (.t 0)),.V 9 (.call (.c (.fn 714 [])) [.t 8]),.V 10 (.un .not (.t 9))] [0,1,2,10] []) (.cond (.t 10) (.seq (.reg false [.W 6 (.asg (.c (.nils 1))),.V 7 (.asg (.c (.int .i64 1)))] [6,7] [6]) .ret) .skip)) (.seq (.seq (.reg false [.V 11 (.mv (.t 1)),.V 12 (.call (.c (.fn 774 [])) [.t 11]),.V 13 (.un .not (.t 12)),.V 14 (.mv (.t 13)),.G 15 (.mv (.t 2)) 3 false,.G 16 (.call (.c (.fn 773 [])) [.t 15]) 3 false,.G 17 (.un .not (.t 16)) 3 false,.V 18 (.pick (.t 14) (.c (.bool true)) (.t 17))] [0,1,2,18] []) (.cond (.t 18) (.seq (.reg false [.W 6 (.asg (.c (.nils 1))),.V 7 (.asg (.c (.int .i64 2)))] [6,7] [6]) .ret) .skip)) (.norm [0,1,2] [] impl_ThinAll_k0)))) }
noncomputable def impl_ThinAll_D : List (Nat × Callee) := [(714,impl_ValidPlate_c),(770,impl_thinned_c),(773,impl_isLeast_c),(774,impl_isBy_c)]
def impl_ThinAll_H : List (Nat × ET) := [(6,(.one (.sl (.one (.int .i64))))),(8,(.one (.sl (.one (.int .i64))))),(19,(.one (.sl (.one (.int .i64))))),(22,(.one (.sl (.one (.int .i64)))))]
noncomputable def impl_ThinAll_c : Callee := mkCallee impl_ThinAll_D impl_ThinAll_H impl_ThinAll_ir [.d (.one (.sl (.one (.sl (.one (.int .i64)))))),.d (.one (.int .i64)),.d (.one (.int .i64))] [.d (.one (.sl (.one (.sl (.one (.int .i64)))))),.d (.one (.int .i64))] []
noncomputable def impl_ThinAll (a0 : List (List Int)) (a1 : Int) (a2 : Int) : Option (List (List Int) × Int) := impl_ThinAll_c.f (a0,a1,a2,())
noncomputable def impl_ThinAll_p0  (v0 : List (List Int)) (v1 : Int) (v2 : Int) : Option (List (List Int) × Int) :=
 goL impl_ThinAll_D impl_ThinAll_H (vleave impl_ThinAll_ir [.d (.one (.sl (.one (.sl (.one (.int .i64)))))),.d (.one (.int .i64)),.d (.one (.int .i64))] [.d (.one (.sl (.one (.sl (.one (.int .i64)))))),.d (.one (.int .i64))] [] []) [.c impl_ThinAll_k0]
  ⟨[(0,.sl (.one (.sl (.one (.int .i64)))) v0),(1,.int .i64 v1),(2,.int .i64 v2)],[]⟩
theorem impl_ThinAll_eq (a0 : List (List Int)) (a1 : Int) (a2 : Int) : impl_ThinAll a0 a1 a2 =
 (impl_ValidPlate a0).bind fun x1 =>
  if (!x1) then
   some ([],1)
  else
   (impl_isBy a1).bind fun x2 =>
    if (!x2) then
     some ([],2)
    else
     (impl_isLeast a2).bind fun x3 =>
      if (!x3) then
       some ([],2)
      else
       impl_ThinAll_p0 a0 a1 a2 :=
 (mk_f _ _ _ _ _ _ _ 4000).trans (by kernel_rfl)
theorem impl_ThinAll_p0_eq  (v0 : List (List Int)) (v1 : Int) (v2 : Int) : impl_ThinAll_p0 v0 v1 v2 =
 (impl_thinned v0 v1 v2).bind fun x1 =>
  some (x1,0) :=
 (goL_dn _ _ _ 4000 _ _).trans (by kernel_rfl)
def impl_PlateMass_ir : Fn := { np := 3,io := [],res := [.t 6,.t 7],own := [false,false],body :=
 (.seq (.reg false [.V 6 (.asg (.c (.int .i64 0))),.V 7 (.asg (.c (.int .i64 0)))] [0,1,2] []) (.seq (.seq (.reg false [.V 8 (.mv (.t 0)),.V 9 (.call (.c (.fn 714 [])) [.t 8]),.V 10 (.un .not (.t 9))] [0,1,2,10] []) (.cond (.t 10) (.seq (.reg false [.V 6 (.asg (.c (.int .i64 0))),.V 7 (.asg (.c (.int .i64 1)))] [6,7] []) .ret) .skip)) (.seq (.seq (.reg false [.V 11 (.mv (.t 1)),.V 12 (.mv (.t 2)),.V 13 (.call (.c (.fn 772 [])) [.t 11,.t 12]),.V 14 (.un .not (.t 13))] [0,1,2,14] []) (.cond (.t 14) (.seq (.reg false [.V 6 (.asg (.c (.int .i64 0))),.V 7 (.asg (.c (.int .i64 2)))] [6,7] []) .ret) .skip)) (.seq (.reg false [.V 15 (.mv (.t 0)),.V 16 (.mv (.t 1)),.V 17 (.mv (.t 2)),.V 18 (.call (.c (.fn 771 [])) [.t 15,.t 16,.t 17]),.V 6 (.asg (.t 18)),.V 7 (.asg (.c (.int .i64 0)))] [6,7] []) .ret)))) }
noncomputable def impl_PlateMass_D : List (Nat × Callee) := [(714,impl_ValidPlate_c),(771,impl_plateMass_c),(772,impl_isCell_c)]
def impl_PlateMass_H : List (Nat × ET) := [(8,(.one (.sl (.one (.int .i64))))),(15,(.one (.sl (.one (.int .i64)))))]
noncomputable def impl_PlateMass_c : Callee := mkCallee impl_PlateMass_D impl_PlateMass_H impl_PlateMass_ir [.d (.one (.sl (.one (.sl (.one (.int .i64)))))),.d (.one (.int .i64)),.d (.one (.int .i64))] [.d (.one (.int .i64)),.d (.one (.int .i64))] []
noncomputable def impl_PlateMass (a0 : List (List Int)) (a1 : Int) (a2 : Int) : Option (Int × Int) := impl_PlateMass_c.f (a0,a1,a2,())
theorem impl_PlateMass_eq (a0 : List (List Int)) (a1 : Int) (a2 : Int) : impl_PlateMass a0 a1 a2 =
 (impl_ValidPlate a0).bind fun x1 =>
  if (!x1) then
   some (0,1)
  else
   (impl_isCell a1 a2).bind fun x2 =>
    if (!x2) then
     some (0,2)
    else
     (impl_plateMass a0 a1 a2).bind fun x3 =>
      some (x3,0) :=
 (mk_f _ _ _ _ _ _ _ 4000).trans (by kernel_rfl)
def spec_l00In_ir : Fn := { np := 3,io := [],res := [.t 6],own := [false],body :=
 (.seq (.reg false [.V 6 (.asg (.c (.bool false)))] [0,1,2] []) (.seq (.reg false [.V 7 (.mv (.t 0)),.V 8 (.mv (.t 1)),.V 9 (.bin .geq (.t 7) (.t 8)),.V 10 (.mv (.t 9)),.G 11 (.mv (.t 0)) 3 true,.G 12 (.mv (.t 2)) 3 true,.G 13 (.bin .leq (.t 11) (.t 12)) 3 true,.V 14 (.pick (.t 10) (.t 13) (.c (.bool false))),.V 6 (.asg (.t 14))] [6] []) .ret)) }
noncomputable def spec_l00In_D : List (Nat × Callee) := []
def spec_l00In_H : List (Nat × ET) := []
noncomputable def spec_l00In_c : Callee := mkCallee spec_l00In_D spec_l00In_H spec_l00In_ir [.d (.one (.int .i64)),.d (.one (.int .i64)),.d (.one (.int .i64))] [.d (.one .bool)] []
noncomputable def spec_l00In (a0 : Int) (a1 : Int) (a2 : Int) : Option (Bool) := spec_l00In_c.f (a0,a1,a2,())
theorem spec_l00In_eq (a0 : Int) (a1 : Int) (a2 : Int) : spec_l00In a0 a1 a2 =
 if decide (a0 ≥ a1) then
  some (decide (a0 ≤ a2))
 else
  some false :=
 (mk_f _ _ _ _ _ _ _ 4000).trans (by kernel_rfl)
def spec_l08Thick_ir : Fn := { np := 1,io := [],res := [.t 2],own := [false],body :=
 (.seq (.reg false [.V 2 (.asg (.c (.bool false)))] [0] []) (.seq (.reg false [.V 3 (.mv (.t 0)),.V 4 (.call (.c (.fn 1 [])) [.t 3,.c (.int .i64 1),.c (.int .i64 200)]),.V 2 (.asg (.t 4))] [2] []) .ret)) }
noncomputable def spec_l08Thick_D : List (Nat × Callee) := [(1,spec_l00In_c)]
def spec_l08Thick_H : List (Nat × ET) := []
noncomputable def spec_l08Thick_c : Callee := mkCallee spec_l08Thick_D spec_l08Thick_H spec_l08Thick_ir [.d (.one (.int .i64))] [.d (.one .bool)] []
noncomputable def spec_l08Thick (a0 : Int) : Option (Bool) := spec_l08Thick_c.f (a0,())
theorem spec_l08Thick_eq (a0 : Int) : spec_l08Thick a0 =
 (spec_l00In a0 1 200).bind fun x1 =>
  some x1 :=
 (mk_f _ _ _ _ _ _ _ 4000).trans (by kernel_rfl)
def spec_l08Ok_k0 : C :=
 .seq (.seq (.reg false [.V 37 (.mv (.t 4)),.V 38 (.mv (.t 0)),.V 39 (.mv (.t 3)),.V 40 (.ia 1 (.t 38) (.t 39)),.V 41 (.ld none (.t 40)),.V 42 (.len (.t 41)),.V 43 (.bin .lss (.t 37) (.t 42))] [0,3,4,43] []) (.cond (.t 43) .skip (.exit 2))) (.seq (.block 3 (.seq (.reg false [.V 46 (.mv (.t 0)),.V 47 (.mv (.t 3)),.V 48 (.ia 1 (.t 46) (.t 47)),.V 49 (.ld none (.t 48)),.V 50 (.mv (.t 4)),.V 51 (.ia 1 (.t 49) (.t 50)),.V 52 (.ld none (.t 51)),.V 53 (.call (.c (.fn 968 [])) [.t 52]),.V 54 (.un .not (.t 53))] [0,3,4,54] []) (.cond (.t 54) (.seq (.reg false [.V 2 (.asg (.c (.bool false)))] [2] []) .ret) .skip))) (.reg false [.V 44 (.mv (.t 4)),.V 45 (.bin .add (.t 44) (.c (.int .i64 1))),.V 4 (.asg (.t 45))] [0,3,4] []))
def spec_l08Ok_k1 : C :=
 .norm [0,3,4] [] spec_l08Ok_k0
def spec_l08Ok_k2 : C :=
 .seq (.reg false [.V 4 (.asg (.c (.int .i64 0)))] [0,3,4] []) (.block 2 (.loop spec_l08Ok_k1))
def spec_l08Ok_k3 : C :=
 .reg false [.V 9 (.mv (.t 3)),.V 10 (.bin .add (.t 9) (.c (.int .i64 1))),.V 3 (.asg (.t 10))] [0,3] []
def spec_l08Ok_k4 : C :=
 .seq (.seq (.reg false [.V 5 (.mv (.t 3)),.V 6 (.mv (.t 0)),.V 7 (.len (.t 6)),.V 8 (.bin .lss (.t 5) (.t 7))] [0,3,8] []) (.cond (.t 8) .skip (.exit 0))) (.seq (.block 1 (.seq (.seq (.reg true [.V 11 (.mv (.t 0)),.V 12 (.mv (.t 3)),.V 13 (.ia 1 (.t 11) (.t 12)),.V 14 (.ld none (.t 13)),.V 15 (.len (.t 14)),.V 16 (.bin .lss (.t 15) (.c (.int .i64 1))),.V 17 (.mv (.t 16)),.G 18 (.mv (.t 0)) 6 false,.G 19 (.mv (.t 3)) 6 false,.G 20 (.ia 1 (.t 18) (.t 19)) 6 false,.G 21 (.ld none (.t 20)) 6 false,.G 22 (.len (.t 21)) 6 false,.G 23 (.bin .gtr (.t 22) (.c (.int .i64 10))) 6 false,.V 24 (.pick (.t 17) (.c (.bool true)) (.t 23)),.V 25 (.mv (.t 24)),.G 26 (.mv (.t 0)) 14 false,.G 27 (.mv (.t 3)) 14 false,.G 28 (.ia 1 (.t 26) (.t 27)) 14 false,.G 29 (.ld none (.t 28)) 14 false,.G 30 (.len (.t 29)) 14 false,.G 31 (.mv (.t 0)) 14 false,.G 32 (.ia 1 (.t 31) (.c (.int .i64 0))) 14 false,.G 33 (.ld none (.t 32)) 14 false,.G 34 (.len (.t 33)) 14 false,.G 35 (.bin .neq (.t 30) (.t 34)) 14 false,.V 36 (.pick (.t 25) (.c (.bool true)) (.t 35))] [0,3,36] []) (.cond (.t 36) (.seq (.reg false [.V 2 (.asg (.c (.bool false)))] [2] []) .ret) .skip)) (.norm [0,3] [] spec_l08Ok_k2))) spec_l08Ok_k3)
def spec_l08Ok_k5 : C :=
 .norm [0,3] [] spec_l08Ok_k4
def spec_l08Ok_k6 : C :=
 .seq (.reg false [.V 55 (.mv (.t 0)),.V 56 (.len (.t 55)),.V 57 (.bin .geq (.t 56) (.c (.int .i64 1))),.V 58 (.mv (.t 57)),.G 59 (.mv (.t 0)) 3 true,.G 60 (.len (.t 59)) 3 true,.G 61 (.bin .leq (.t 60) (.c (.int .i64 10))) 3 true,.V 62 (.pick (.t 58) (.t 61) (.c (.bool false))),.V 2 (.asg (.t 62))] [2] []) .ret
def spec_l08Ok_ir : Fn := { np := 1,io := [],res := [.t 2],own := [false],body :=
 (.seq (.reg false [.V 2 (.asg (.c (.bool false)))] [0] []) (.seq (.seq (.reg false [.V 3 (.asg (.c (.int .i64 0)))] [0,3] []) (.block 0 (.loop spec_l08Ok_k5))) spec_l08Ok_k6)) }
noncomputable def spec_l08Ok_D : List (Nat × Callee) := [(968,spec_l08Thick_c)]
def spec_l08Ok_H : List (Nat × ET) := [(6,(.one (.sl (.one (.int .i64))))),(11,(.one (.sl (.one (.int .i64))))),(14,(.one (.int .i64))),(18,(.one (.sl (.one (.int .i64))))),(21,(.one (.int .i64))),(26,(.one (.sl (.one (.int .i64))))),(29,(.one (.int .i64))),(31,(.one (.sl (.one (.int .i64))))),(33,(.one (.int .i64))),(38,(.one (.sl (.one (.int .i64))))),(41,(.one (.int .i64))),(46,(.one (.sl (.one (.int .i64))))),(49,(.one (.int .i64))),(55,(.one (.sl (.one (.int .i64))))),(59,(.one (.sl (.one (.int .i64)))))]
noncomputable def spec_l08Ok_c : Callee := mkCallee spec_l08Ok_D spec_l08Ok_H spec_l08Ok_ir [.d (.one (.sl (.one (.sl (.one (.int .i64))))))] [.d (.one .bool)] []
noncomputable def spec_l08Ok (a0 : List (List Int)) : Option (Bool) := spec_l08Ok_c.f (a0,())
noncomputable def spec_l08Ok_p0  (v0 : List (List Int)) (v3 : Int) : Option (Bool) :=
 goL spec_l08Ok_D spec_l08Ok_H (vleave spec_l08Ok_ir [.d (.one (.sl (.one (.sl (.one (.int .i64))))))] [.d (.one .bool)] [] []) [.c spec_l08Ok_k4,.l spec_l08Ok_k5,.e 0,.c spec_l08Ok_k6]
  ⟨[(0,.sl (.one (.sl (.one (.int .i64)))) v0),(3,.int .i64 v3)],[]⟩
noncomputable def spec_l08Ok_p1  (v0 : List (List Int)) (v3 : Int) : Option (Bool) :=
 goL spec_l08Ok_D spec_l08Ok_H (vleave spec_l08Ok_ir [.d (.one (.sl (.one (.sl (.one (.int .i64))))))] [.d (.one .bool)] [] []) [.c spec_l08Ok_k2,.e 1,.c spec_l08Ok_k3,.l spec_l08Ok_k5,.e 0,.c spec_l08Ok_k6]
  ⟨[(0,.sl (.one (.sl (.one (.int .i64)))) v0),(3,.int .i64 v3)],[]⟩
noncomputable def spec_l08Ok_p2  (v0 : List (List Int)) (v3 : Int) (v4 : Int) : Option (Bool) :=
 goL spec_l08Ok_D spec_l08Ok_H (vleave spec_l08Ok_ir [.d (.one (.sl (.one (.sl (.one (.int .i64))))))] [.d (.one .bool)] [] []) [.c spec_l08Ok_k0,.l spec_l08Ok_k1,.e 2,.e 1,.c spec_l08Ok_k3,.l spec_l08Ok_k5,.e 0,.c spec_l08Ok_k6]
  ⟨[(0,.sl (.one (.sl (.one (.int .i64)))) v0),(3,.int .i64 v3),(4,.int .i64 v4)],[]⟩
theorem spec_l08Ok_eq (a0 : List (List Int)) : spec_l08Ok a0 =
 spec_l08Ok_p0 a0 0 :=
 (mk_f _ _ _ _ _ _ _ 4000).trans (by kernel_rfl)
theorem spec_l08Ok_p0_eq  (v0 : List (List Int)) (v3 : Int) : spec_l08Ok_p0 v0 v3 =
 if decide (v3 < (v0.length : Int)) then
  if decide (0 ≤ v3) then
   (v0[v3.toNat]?).bind fun x1 =>
    if decide ((x1.length : Int) < 1) then
     some false
    else
     if decide (0 ≤ v3) then
      (v0[v3.toNat]?).bind fun x2 =>
       if decide ((x2.length : Int) > 10) then
        some false
       else
        if decide (0 ≤ v3) then
         (v0[v3.toNat]?).bind fun x3 =>
          (v0[0]?).bind fun x4 =>
           if ((x3.length : Int) != (x4.length : Int)) then
            some false
           else
            spec_l08Ok_p1 v0 v3
        else
         none
     else
      none
  else
   none
 else
  if decide ((v0.length : Int) ≥ 1) then
   some (decide ((v0.length : Int) ≤ 10))
  else
   some false :=
 (goL_dn _ _ _ 4000 _ _).trans (by kernel_rfl)
theorem spec_l08Ok_p1_eq  (v0 : List (List Int)) (v3 : Int) : spec_l08Ok_p1 v0 v3 =
 spec_l08Ok_p2 v0 v3 0 :=
 (goL_dn _ _ _ 4000 _ _).trans (by kernel_rfl)
theorem spec_l08Ok_p2_eq  (v0 : List (List Int)) (v3 : Int) (v4 : Int) : spec_l08Ok_p2 v0 v3 v4 =
 if decide (0 ≤ v3) then
  (v0[v3.toNat]?).bind fun x1 =>
   if decide (v4 < (x1.length : Int)) then
    if decide (0 ≤ v3) then
     (v0[v3.toNat]?).bind fun x2 =>
      if decide (0 ≤ v4) then
       (x2[v4.toNat]?).bind fun x3 =>
        (spec_l08Thick x3).bind fun x4 =>
         if (!x4) then
          some false
         else
          spec_l08Ok_p2 v0 v3 (IntKind.i64.wrap (v4 + 1))
      else
       none
    else
     none
   else
    spec_l08Ok_p0 v0 (IntKind.i64.wrap (v3 + 1))
 else
  none :=
 (goL_dn _ _ _ 4000 _ _).trans (by kernel_rfl)
def spec_l08By_ir : Fn := { np := 2,io := [],res := [.t 4],own := [false],body :=
 (.seq (.reg false [.V 4 (.asg (.c (.bool false)))] [0,1] []) (.seq (.reg false [.V 5 (.mv (.t 0)),.V 6 (.call (.c (.fn 1 [])) [.t 5,.c (.int .i64 0),.c (.int .i64 200)]),.V 7 (.mv (.t 6)),.G 8 (.mv (.t 1)) 2 true,.G 9 (.call (.c (.fn 968 [])) [.t 8]) 2 true,.V 10 (.pick (.t 7) (.t 9) (.c (.bool false))),.V 4 (.asg (.t 10))] [4] []) .ret)) }
noncomputable def spec_l08By_D : List (Nat × Callee) := [(1,spec_l00In_c),(968,spec_l08Thick_c)]
def spec_l08By_H : List (Nat × ET) := []
noncomputable def spec_l08By_c : Callee := mkCallee spec_l08By_D spec_l08By_H spec_l08By_ir [.d (.one (.int .i64)),.d (.one (.int .i64))] [.d (.one .bool)] []
noncomputable def spec_l08By (a0 : Int) (a1 : Int) : Option (Bool) := spec_l08By_c.f (a0,a1,())
theorem spec_l08By_eq (a0 : Int) (a1 : Int) : spec_l08By a0 a1 =
 (spec_l00In a0 0 200).bind fun x1 =>
  if x1 then
   (spec_l08Thick a1).bind fun x2 =>
    some x2
  else
   some false :=
 (mk_f _ _ _ _ _ _ _ 4000).trans (by kernel_rfl)
def spec_l00Own_ir : Fn := { np := 1,io := [],res := [.t 2],own := [true],body :=
 (.seq (.reg false [.W 2 (.asg (.c (.nils 1)))] [0] []) (.seq (.reg false [.V 3 (.bsl 1 (.int .i64 0) 0 []),.V 4 (.mv (.t 0)),.W 5 (.app 1 8 (.t 3) (.t 4)),.W 2 (.asg (.t 5))] [2] [2]) .ret)) }
noncomputable def spec_l00Own_D : List (Nat × Callee) := []
def spec_l00Own_H : List (Nat × ET) := [(2,(.one (.int .i64))),(3,(.one (.int .i64))),(4,(.one (.int .i64))),(5,(.one (.int .i64)))]
noncomputable def spec_l00Own_c : Callee := mkCallee spec_l00Own_D spec_l00Own_H spec_l00Own_ir [.d (.one (.sl (.one (.int .i64))))] [.tok (.one (.int .i64))] []
noncomputable def spec_l00Own (a0 : List Int) : Option (List Int) := spec_l00Own_c.f (a0,())
theorem spec_l00Own_eq (a0 : List Int) : spec_l00Own a0 =
 if decide (0 + a0.length < lim) then
  some (([] ++ a0).take (([] ++ a0).length))
 else
  none :=
 (mk_f _ _ _ _ _ _ _ 4000).trans (by kernel_rfl)
noncomputable def spec_l08All_c : Callee := plateAllC spec_l00Own
noncomputable def spec_l08All (a0 : List (List Int)) (a1 : Int) (a2 : Int) : Option (List (List Int)) := spec_l08All_c.f (a0,a1,a2,())
theorem spec_l08All_eq (a0 : List (List Int)) (a1 : Int) (a2 : Int) : spec_l08All a0 a1 a2 = allF spec_l00Own a0 a1 a2 := rfl
def spec_ThinAll_ir : Fn := { np := 3,io := [],res := [.t 6,.t 7],own := [false,false],body :=
 (.seq (.reg false [.W 6 (.asg (.c (.nils 1))),.V 7 (.asg (.c (.int .i64 0)))] [0,1,2] []) (.seq (.seq (.reg false [.V 8 (.mv (.t 0)),.V 9 (.call (.c (.fn 777 [])) [.t 8]),.V 10 (.un .not (.t 9))] [0,1,2,10] []) (.cond (.t 10) (.seq (.reg false [.W 6 (.asg (.c (.nils 1))),.V 7 (.asg (.c (.int .i64 1)))] [6,7] [6]) .ret) .skip)) (.seq (.seq (.reg false [.V 11 (.mv (.t 1)),.V 12 (.mv (.t 2)),.V 13 (.call (.c (.fn 776 [])) [.t 11,.t 12]),.V 14 (.un .not (.t 13))] [0,1,2,14] []) (.cond (.t 14) (.seq (.reg false [.W 6 (.asg (.c (.nils 1))),.V 7 (.asg (.c (.int .i64 2)))] [6,7] [6]) .ret) .skip)) (.seq (.reg false [.V 15 (.mv (.t 0)),.V 16 (.mv (.t 1)),.V 17 (.mv (.t 2)),.V 18 (.call (.c (.fn 775 [])) [.t 15,.t 16,.t 17]),.W 6 (.asg (.t 18)),.V 7 (.asg (.c (.int .i64 0)))] [6,7] [6]) .ret)))) }
noncomputable def spec_ThinAll_D : List (Nat × Callee) := [(775,spec_l08All_c),(776,spec_l08By_c),(777,spec_l08Ok_c)]
def spec_ThinAll_H : List (Nat × ET) := [(6,(.one (.sl (.one (.int .i64))))),(8,(.one (.sl (.one (.int .i64))))),(15,(.one (.sl (.one (.int .i64))))),(18,(.one (.sl (.one (.int .i64)))))]
noncomputable def spec_ThinAll_c : Callee := mkCallee spec_ThinAll_D spec_ThinAll_H spec_ThinAll_ir [.d (.one (.sl (.one (.sl (.one (.int .i64)))))),.d (.one (.int .i64)),.d (.one (.int .i64))] [.d (.one (.sl (.one (.sl (.one (.int .i64)))))),.d (.one (.int .i64))] []
noncomputable def spec_ThinAll (a0 : List (List Int)) (a1 : Int) (a2 : Int) : Option (List (List Int) × Int) := spec_ThinAll_c.f (a0,a1,a2,())
theorem spec_ThinAll_eq (a0 : List (List Int)) (a1 : Int) (a2 : Int) : spec_ThinAll a0 a1 a2 =
 (spec_l08Ok a0).bind fun x1 =>
  if (!x1) then
   some ([],1)
  else
   (spec_l08By a1 a2).bind fun x2 =>
    if (!x2) then
     some ([],2)
    else
     (spec_l08All a0 a1 a2).bind fun x3 =>
      some (x3,0) :=
 (mk_f _ _ _ _ _ _ _ 4000).trans (by kernel_rfl)
def spec_l08Density_ir : Fn := { np := 2,io := [],res := [.t 4],own := [false],body :=
 (.seq (.reg false [.V 4 (.asg (.c (.bool false)))] [0,1] []) (.seq (.reg false [.V 5 (.mv (.t 0)),.V 6 (.call (.c (.fn 1 [])) [.t 5,.c (.int .i64 1),.c (.int .i64 10000)]),.V 7 (.mv (.t 6)),.G 8 (.mv (.t 1)) 2 true,.G 9 (.call (.c (.fn 1 [])) [.t 8,.c (.int .i64 1),.c (.int .i64 2000)]) 2 true,.V 10 (.pick (.t 7) (.t 9) (.c (.bool false))),.V 4 (.asg (.t 10))] [4] []) .ret)) }
noncomputable def spec_l08Density_D : List (Nat × Callee) := [(1,spec_l00In_c)]
def spec_l08Density_H : List (Nat × ET) := []
noncomputable def spec_l08Density_c : Callee := mkCallee spec_l08Density_D spec_l08Density_H spec_l08Density_ir [.d (.one (.int .i64)),.d (.one (.int .i64))] [.d (.one .bool)] []
noncomputable def spec_l08Density (a0 : Int) (a1 : Int) : Option (Bool) := spec_l08Density_c.f (a0,a1,())
theorem spec_l08Density_eq (a0 : Int) (a1 : Int) : spec_l08Density a0 a1 =
 (spec_l00In a0 1 10000).bind fun x1 =>
  if x1 then
   (spec_l00In a1 1 2000).bind fun x2 =>
    some x2
  else
   some false :=
 (mk_f _ _ _ _ _ _ _ 4000).trans (by kernel_rfl)
def spec_l01Div_k0 : C :=
 .seq (.seq (.reg false [.V 11 (.mv (.t 0)),.V 12 (.bin .lss (.t 11) (.c (.int .i64 0)))] [0,1,12] []) (.cond (.t 12) (.seq (.reg false [.V 13 (.mv (.t 1)),.V 14 (.mv (.t 0)),.V 15 (.bin .mul (.c (.int .i64 2)) (.t 14)),.V 16 (.bin .sub (.t 13) (.t 15)),.V 17 (.mv (.t 1)),.V 18 (.bin .mul (.c (.int .i64 2)) (.t 17)),.V 19 (.bin .quo (.t 16) (.t 18)),.V 20 (.un .neg (.t 19)),.V 4 (.asg (.t 20))] [4] []) .ret) .skip)) (.seq (.reg false [.V 21 (.mv (.t 0)),.V 22 (.bin .mul (.c (.int .i64 2)) (.t 21)),.V 23 (.mv (.t 1)),.V 24 (.bin .add (.t 22) (.t 23)),.V 25 (.mv (.t 1)),.V 26 (.bin .mul (.c (.int .i64 2)) (.t 25)),.V 27 (.bin .quo (.t 24) (.t 26)),.V 4 (.asg (.t 27))] [4] []) .ret)
def spec_l01Div_ir : Fn := { np := 2,io := [],res := [.t 4],own := [false],body :=
 (.seq (.reg false [.V 4 (.asg (.c (.int .i64 0)))] [0,1] []) (.seq (.seq (.reg false [.V 5 (.mv (.t 1)),.V 6 (.bin .lss (.t 5) (.c (.int .i64 0)))] [0,1,6] []) (.cond (.t 6) (.seq (.reg false [.V 7 (.mv (.t 0)),.V 8 (.un .neg (.t 7)),.V 0 (.asg (.t 8))] [0,1] []) (.reg false [.V 9 (.mv (.t 1)),.V 10 (.un .neg (.t 9)),.V 1 (.asg (.t 10))] [0,1] [])) .skip)) (.norm [0,1] [] spec_l01Div_k0))) }
noncomputable def spec_l01Div_D : List (Nat × Callee) := []
def spec_l01Div_H : List (Nat × ET) := []
noncomputable def spec_l01Div_c : Callee := mkCallee spec_l01Div_D spec_l01Div_H spec_l01Div_ir [.d (.one (.int .i64)),.d (.one (.int .i64))] [.d (.one (.int .i64))] []
noncomputable def spec_l01Div (a0 : Int) (a1 : Int) : Option (Int) := spec_l01Div_c.f (a0,a1,())
noncomputable def spec_l01Div_p0  (v0 : Int) (v1 : Int) : Option (Int) :=
 goL spec_l01Div_D spec_l01Div_H (vleave spec_l01Div_ir [.d (.one (.int .i64)),.d (.one (.int .i64))] [.d (.one (.int .i64))] [] []) [.c spec_l01Div_k0]
  ⟨[(0,.int .i64 v0),(1,.int .i64 v1)],[]⟩
theorem spec_l01Div_eq (a0 : Int) (a1 : Int) : spec_l01Div a0 a1 =
 if decide (a1 < 0) then
  spec_l01Div_p0 (IntKind.i64.wrap (0 - a0)) (IntKind.i64.wrap (0 - a1))
 else
  spec_l01Div_p0 a0 a1 :=
 (mk_f _ _ _ _ _ _ _ 4000).trans (by kernel_rfl)
theorem spec_l01Div_p0_eq  (v0 : Int) (v1 : Int) : spec_l01Div_p0 v0 v1 =
 if decide (v0 < 0) then
  if decide (IntKind.i64.wrap (2 * v1) = 0) then
   none
  else
   some (IntKind.i64.wrap (0 - (IntKind.i64.wrap ((IntKind.i64.wrap (v1 - (IntKind.i64.wrap (2 * v0)))).tdiv (IntKind.i64.wrap (2 * v1))))))
 else
  if decide (IntKind.i64.wrap (2 * v1) = 0) then
   none
  else
   some (IntKind.i64.wrap ((IntKind.i64.wrap ((IntKind.i64.wrap (2 * v0)) + v1)).tdiv (IntKind.i64.wrap (2 * v1)))) :=
 (goL_dn _ _ _ 4000 _ _).trans (by kernel_rfl)
def spec_l08Mass_k0 : C :=
 .seq (.seq (.reg false [.V 16 (.mv (.t 9)),.V 17 (.mv (.t 0)),.V 18 (.mv (.t 8)),.V 19 (.ia 1 (.t 17) (.t 18)),.V 20 (.ld none (.t 19)),.V 21 (.len (.t 20)),.V 22 (.bin .lss (.t 16) (.t 21))] [0,1,2,7,8,9,22] []) (.cond (.t 22) .skip (.exit 2))) (.seq (.block 3 (.reg false [.V 25 (.mv (.t 7)),.V 26 (.mv (.t 0)),.V 27 (.mv (.t 8)),.V 28 (.ia 1 (.t 26) (.t 27)),.V 29 (.ld none (.t 28)),.V 30 (.mv (.t 9)),.V 31 (.ia 1 (.t 29) (.t 30)),.V 32 (.ld none (.t 31)),.V 33 (.bin .add (.t 25) (.t 32)),.V 7 (.asg (.t 33))] [0,1,2,7,8,9] [])) (.reg false [.V 23 (.mv (.t 9)),.V 24 (.bin .add (.t 23) (.c (.int .i64 1))),.V 9 (.asg (.t 24))] [0,1,2,7,8,9] []))
def spec_l08Mass_k1 : C :=
 .norm [0,1,2,7,8,9] [] spec_l08Mass_k0
def spec_l08Mass_k2 : C :=
 .reg false [.V 14 (.mv (.t 8)),.V 15 (.bin .add (.t 14) (.c (.int .i64 1))),.V 8 (.asg (.t 15))] [0,1,2,7,8] []
def spec_l08Mass_k3 : C :=
 .seq (.seq (.reg false [.V 10 (.mv (.t 8)),.V 11 (.mv (.t 0)),.V 12 (.len (.t 11)),.V 13 (.bin .lss (.t 10) (.t 12))] [0,1,2,7,8,13] []) (.cond (.t 13) .skip (.exit 0))) (.seq (.block 1 (.seq (.reg false [.V 9 (.asg (.c (.int .i64 0)))] [0,1,2,7,8,9] []) (.block 2 (.loop spec_l08Mass_k1)))) spec_l08Mass_k2)
def spec_l08Mass_k4 : C :=
 .norm [0,1,2,7,8] [] spec_l08Mass_k3
def spec_l08Mass_k5 : C :=
 .seq (.reg false [.V 34 (.mv (.t 7)),.V 35 (.mv (.t 1)),.V 36 (.bin .mul (.t 34) (.t 35)),.V 37 (.mv (.t 2)),.V 38 (.bin .mul (.t 36) (.t 37)),.V 39 (.call (.c (.fn 16 [])) [.t 38,.c (.int .i64 10000)]),.V 6 (.asg (.t 39))] [6] []) .ret
def spec_l08Mass_ir : Fn := { np := 3,io := [],res := [.t 6],own := [false],body :=
 (.seq (.reg false [.V 6 (.asg (.c (.int .i64 0)))] [0,1,2] []) (.seq (.reg false [.V 7 (.asg (.c (.int .i64 0)))] [0,1,2,7] []) (.seq (.seq (.reg false [.V 8 (.asg (.c (.int .i64 0)))] [0,1,2,7,8] []) (.block 0 (.loop spec_l08Mass_k4))) spec_l08Mass_k5))) }
noncomputable def spec_l08Mass_D : List (Nat × Callee) := [(16,spec_l01Div_c)]
def spec_l08Mass_H : List (Nat × ET) := [(11,(.one (.sl (.one (.int .i64))))),(17,(.one (.sl (.one (.int .i64))))),(20,(.one (.int .i64))),(26,(.one (.sl (.one (.int .i64))))),(29,(.one (.int .i64)))]
noncomputable def spec_l08Mass_c : Callee := mkCallee spec_l08Mass_D spec_l08Mass_H spec_l08Mass_ir [.d (.one (.sl (.one (.sl (.one (.int .i64)))))),.d (.one (.int .i64)),.d (.one (.int .i64))] [.d (.one (.int .i64))] []
noncomputable def spec_l08Mass (a0 : List (List Int)) (a1 : Int) (a2 : Int) : Option (Int) := spec_l08Mass_c.f (a0,a1,a2,())
noncomputable def spec_l08Mass_p0  (v0 : List (List Int)) (v1 : Int) (v2 : Int) (v7 : Int) (v8 : Int) : Option (Int) :=
 goL spec_l08Mass_D spec_l08Mass_H (vleave spec_l08Mass_ir [.d (.one (.sl (.one (.sl (.one (.int .i64)))))),.d (.one (.int .i64)),.d (.one (.int .i64))] [.d (.one (.int .i64))] [] []) [.c spec_l08Mass_k3,.l spec_l08Mass_k4,.e 0,.c spec_l08Mass_k5]
  ⟨[(0,.sl (.one (.sl (.one (.int .i64)))) v0),(1,.int .i64 v1),(2,.int .i64 v2),(7,.int .i64 v7),(8,.int .i64 v8)],[]⟩
noncomputable def spec_l08Mass_p1  (v0 : List (List Int)) (v1 : Int) (v2 : Int) (v7 : Int) (v8 : Int) (v9 : Int) : Option (Int) :=
 goL spec_l08Mass_D spec_l08Mass_H (vleave spec_l08Mass_ir [.d (.one (.sl (.one (.sl (.one (.int .i64)))))),.d (.one (.int .i64)),.d (.one (.int .i64))] [.d (.one (.int .i64))] [] []) [.c spec_l08Mass_k0,.l spec_l08Mass_k1,.e 2,.e 1,.c spec_l08Mass_k2,.l spec_l08Mass_k4,.e 0,.c spec_l08Mass_k5]
  ⟨[(0,.sl (.one (.sl (.one (.int .i64)))) v0),(1,.int .i64 v1),(2,.int .i64 v2),(7,.int .i64 v7),(8,.int .i64 v8),(9,.int .i64 v9)],[]⟩
theorem spec_l08Mass_eq (a0 : List (List Int)) (a1 : Int) (a2 : Int) : spec_l08Mass a0 a1 a2 =
 spec_l08Mass_p0 a0 a1 a2 0 0 :=
 (mk_f _ _ _ _ _ _ _ 4000).trans (by kernel_rfl)
theorem spec_l08Mass_p0_eq  (v0 : List (List Int)) (v1 : Int) (v2 : Int) (v7 : Int) (v8 : Int) : spec_l08Mass_p0 v0 v1 v2 v7 v8 =
 if decide (v8 < (v0.length : Int)) then
  spec_l08Mass_p1 v0 v1 v2 v7 v8 0
 else
  (spec_l01Div (IntKind.i64.wrap ((IntKind.i64.wrap (v7 * v1)) * v2)) 10000).bind fun x1 =>
   some x1 :=
 (goL_dn _ _ _ 4000 _ _).trans (by kernel_rfl)
theorem spec_l08Mass_p1_eq  (v0 : List (List Int)) (v1 : Int) (v2 : Int) (v7 : Int) (v8 : Int) (v9 : Int) : spec_l08Mass_p1 v0 v1 v2 v7 v8 v9 =
 if decide (0 ≤ v8) then
  (v0[v8.toNat]?).bind fun x1 =>
   if decide (v9 < (x1.length : Int)) then
    if decide (0 ≤ v8) then
     (v0[v8.toNat]?).bind fun x2 =>
      if decide (0 ≤ v9) then
       (x2[v9.toNat]?).bind fun x3 =>
        spec_l08Mass_p1 v0 v1 v2 (IntKind.i64.wrap (v7 + x3)) v8 (IntKind.i64.wrap (v9 + 1))
      else
       none
    else
     none
   else
    spec_l08Mass_p0 v0 v1 v2 v7 (IntKind.i64.wrap (v8 + 1))
 else
  none :=
 (goL_dn _ _ _ 4000 _ _).trans (by kernel_rfl)
def spec_PlateMass_ir : Fn := { np := 3,io := [],res := [.t 6,.t 7],own := [false,false],body :=
 (.seq (.reg false [.V 6 (.asg (.c (.int .i64 0))),.V 7 (.asg (.c (.int .i64 0)))] [0,1,2] []) (.seq (.seq (.reg false [.V 8 (.mv (.t 0)),.V 9 (.call (.c (.fn 777 [])) [.t 8]),.V 10 (.un .not (.t 9))] [0,1,2,10] []) (.cond (.t 10) (.seq (.reg false [.V 6 (.asg (.c (.int .i64 0))),.V 7 (.asg (.c (.int .i64 1)))] [6,7] []) .ret) .skip)) (.seq (.seq (.reg false [.V 11 (.mv (.t 1)),.V 12 (.mv (.t 2)),.V 13 (.call (.c (.fn 779 [])) [.t 11,.t 12]),.V 14 (.un .not (.t 13))] [0,1,2,14] []) (.cond (.t 14) (.seq (.reg false [.V 6 (.asg (.c (.int .i64 0))),.V 7 (.asg (.c (.int .i64 2)))] [6,7] []) .ret) .skip)) (.seq (.reg false [.V 15 (.mv (.t 0)),.V 16 (.mv (.t 1)),.V 17 (.mv (.t 2)),.V 18 (.call (.c (.fn 778 [])) [.t 15,.t 16,.t 17]),.V 6 (.asg (.t 18)),.V 7 (.asg (.c (.int .i64 0)))] [6,7] []) .ret)))) }
noncomputable def spec_PlateMass_D : List (Nat × Callee) := [(777,spec_l08Ok_c),(778,spec_l08Mass_c),(779,spec_l08Density_c)]
def spec_PlateMass_H : List (Nat × ET) := [(8,(.one (.sl (.one (.int .i64))))),(15,(.one (.sl (.one (.int .i64)))))]
noncomputable def spec_PlateMass_c : Callee := mkCallee spec_PlateMass_D spec_PlateMass_H spec_PlateMass_ir [.d (.one (.sl (.one (.sl (.one (.int .i64)))))),.d (.one (.int .i64)),.d (.one (.int .i64))] [.d (.one (.int .i64)),.d (.one (.int .i64))] []
noncomputable def spec_PlateMass (a0 : List (List Int)) (a1 : Int) (a2 : Int) : Option (Int × Int) := spec_PlateMass_c.f (a0,a1,a2,())
theorem spec_PlateMass_eq (a0 : List (List Int)) (a1 : Int) (a2 : Int) : spec_PlateMass a0 a1 a2 =
 (spec_l08Ok a0).bind fun x1 =>
  if (!x1) then
   some (0,1)
  else
   (spec_l08Density a1 a2).bind fun x2 =>
    if (!x2) then
     some (0,2)
    else
     (spec_l08Mass a0 a1 a2).bind fun x3 =>
      some (x3,0) :=
 (mk_f _ _ _ _ _ _ _ 4000).trans (by kernel_rfl)
def spec_DrawWeakestRow_ir : Fn := { np := 1,io := [],res := [.t 2],own := [false],body :=
 (.seq (.reg false [.W 2 (.asg (.c (.nils 1)))] [0] []) (.seq (.reg false [.V 4 (.mv (.t 0)),.W 5 (.call (.c (.fn 441 [])) [.t 4]),.V 3 (.asg (.t 5))] [3] [5,6000]) (.seq (.reg false [.V 6 (.mv (.t 3)),.W 7 (.call (.c (.fn 769 [])) [.t 6]),.W 2 (.asg (.t 7))] [2] [2]) .ret))) }
noncomputable def spec_DrawWeakestRow_D : List (Nat × Callee) := [(441,spec_l00From_c),(769,spec_l08Draw_c)]
def spec_DrawWeakestRow_H : List (Nat × ET) := [(2,(.one (.sl (.one (.int .i64))))),(4,(.one (.int .u8))),(7,(.one (.sl (.one (.int .i64)))))]
noncomputable def spec_DrawWeakestRow_c : Callee := mkCallee spec_DrawWeakestRow_D spec_DrawWeakestRow_H spec_DrawWeakestRow_ir [.d (.one (.sl (.one (.int .u8))))] [.d (.one (.sl (.one (.sl (.one (.int .i64))))))] []
noncomputable def spec_DrawWeakestRow (a0 : List Int) : Option (List (List Int)) := spec_DrawWeakestRow_c.f (a0,())
theorem spec_DrawWeakestRow_eq (a0 : List Int) : spec_DrawWeakestRow a0 =
 (spec_l00From a0).bind fun x1 =>
  (spec_l08Draw x1).bind fun x2 =>
   some x2.1 :=
 (mk_f _ _ _ _ _ _ _ 4000).trans (by kernel_rfl)
def impl_RowStiff_k0 : C :=
 .seq (.reg false [.V 23 (.bin .lss (.t 22) (.t 21))] [4,7,14,15,16,20,21,22,23] [4,6]) (.seq (.cond (.t 23) .skip (.exit 2)) (.seq (.block 3 (.seq (.reg false [.V 24 (.ia 1 (.t 20) (.t 22)),.V 25 (.ld none (.t 24)),.V 9 (.asg (.t 25))] [4,7,9,14,15,16,20,21,22] [4,6]) (.reg false [.V 26 (.mv (.t 7)),.V 27 (.mv (.t 9)),.V 28 (.mv (.t 9)),.V 29 (.bin .mul (.t 27) (.t 28)),.V 30 (.mv (.t 9)),.V 31 (.bin .mul (.t 29) (.t 30)),.V 32 (.bin .add (.t 26) (.t 31)),.V 7 (.asg (.t 32))] [4,7,14,15,16,20,21,22] [4,6]))) (.reg false [.V 33 (.bin .add (.t 22) (.c (.int .i64 1))),.V 22 (.mv (.t 33))] [4,7,14,15,16,20,21,22] [4,6])))
def impl_RowStiff_k1 : C :=
 .norm [4,7,14,15,16,20,21,22] [4,6] impl_RowStiff_k0
def impl_RowStiff_k2 : C :=
 .reg false [.V 34 (.mv (.t 4)),.V 35 (.mv (.t 7)),.V 36 (.bsl 1 (.int .i64 0) 1 [(0,.t 35)]),.W 37 (.app 1 8 (.t 34) (.t 36)),.W 4 (.asg (.t 37))] [4,14,15,16] [4]
def impl_RowStiff_k3 : C :=
 .reg false [.V 38 (.bin .add (.t 16) (.c (.int .i64 1))),.V 16 (.mv (.t 38))] [4,14,15,16] [4]
def impl_RowStiff_k4 : C :=
 .seq (.reg false [.V 17 (.bin .lss (.t 16) (.t 15))] [4,14,15,16,17] [4]) (.seq (.cond (.t 17) .skip (.exit 0)) (.seq (.block 1 (.seq (.reg false [.V 18 (.ia 1 (.t 14) (.t 16)),.V 19 (.ld none (.t 18)),.W 6 (.asg (.t 19))] [4,6,14,15,16] [4,6]) (.seq (.reg false [.V 7 (.asg (.c (.int .i64 0)))] [4,6,7,14,15,16] [4,6]) (.seq (.seq (.reg false [.V 20 (.mv (.t 6)),.V 21 (.len (.t 20)),.V 22 (.mv (.c (.int .i64 0)))] [4,7,14,15,16,20,21,22] [4,6]) (.block 2 (.loop impl_RowStiff_k1))) impl_RowStiff_k2)))) impl_RowStiff_k3))
def impl_RowStiff_k5 : C :=
 .norm [4,14,15,16] [4] impl_RowStiff_k4
def impl_RowStiff_k6 : C :=
 .seq (.reg false [.V 39 (.mv (.t 4)),.W 2 (.asg (.t 39)),.V 3 (.asg (.c (.int .i64 0)))] [2,3] [2,4]) .ret
def impl_RowStiff_ir : Fn := { np := 1,io := [],res := [.t 2,.t 3],own := [true,false],body :=
 (.seq (.reg false [.W 2 (.asg (.c (.nils 1))),.V 3 (.asg (.c (.int .i64 0)))] [0] []) (.seq (.seq (.reg false [.V 10 (.mv (.t 0)),.V 11 (.call (.c (.fn 714 [])) [.t 10]),.V 12 (.un .not (.t 11))] [0,12] []) (.cond (.t 12) (.seq (.reg false [.W 2 (.asg (.c (.nils 1))),.V 3 (.asg (.c (.int .i64 1)))] [2,3] [2,4]) .ret) .skip)) (.seq (.reg false [.V 13 (.bsl 1 (.int .i64 0) 0 []),.W 4 (.asg (.t 13))] [0,4] [4]) (.seq (.seq (.reg false [.V 14 (.mv (.t 0)),.V 15 (.len (.t 14)),.V 16 (.mv (.c (.int .i64 0)))] [4,14,15,16] [4]) (.block 0 (.loop impl_RowStiff_k5))) impl_RowStiff_k6)))) }
noncomputable def impl_RowStiff_D : List (Nat × Callee) := [(714,impl_ValidPlate_c)]
def impl_RowStiff_H : List (Nat × ET) := [(2,(.one (.int .i64))),(4,(.one (.int .i64))),(6,(.one (.int .i64))),(10,(.one (.sl (.one (.int .i64))))),(13,(.one (.int .i64))),(14,(.one (.sl (.one (.int .i64))))),(19,(.one (.int .i64))),(20,(.one (.int .i64))),(34,(.one (.int .i64))),(36,(.one (.int .i64))),(37,(.one (.int .i64))),(39,(.one (.int .i64)))]
noncomputable def impl_RowStiff_c : Callee := mkCallee impl_RowStiff_D impl_RowStiff_H impl_RowStiff_ir [.d (.one (.sl (.one (.sl (.one (.int .i64))))))] [.tok (.one (.int .i64)),.d (.one (.int .i64))] []
noncomputable def impl_RowStiff (a0 : List (List Int)) : Option (List Int × Int) := impl_RowStiff_c.f (a0,())
noncomputable def impl_RowStiff_p0  (v14 : List (List Int)) (v15 : Int) (v16 : Int) (r4 : List Int) : Option (List Int × Int) :=
 goL impl_RowStiff_D impl_RowStiff_H (vleave impl_RowStiff_ir [.d (.one (.sl (.one (.sl (.one (.int .i64))))))] [.tok (.one (.int .i64)),.d (.one (.int .i64))] [] []) [.c impl_RowStiff_k4,.l impl_RowStiff_k5,.e 0,.c impl_RowStiff_k6]
  ⟨[(4,.view 4 0 r4.length),(14,.sl (.one (.sl (.one (.int .i64)))) v14),(15,.int .i64 v15),(16,.int .i64 v16)],[(4,some (.sl (.one (.int .i64)) r4))]⟩
noncomputable def impl_RowStiff_p1  (v7 : Int) (v14 : List (List Int)) (v15 : Int) (v16 : Int) (v20 : List Int) (v21 : Int) (v22 : Int) (r4 : List Int) : Option (List Int × Int) :=
 goL impl_RowStiff_D impl_RowStiff_H (vleave impl_RowStiff_ir [.d (.one (.sl (.one (.sl (.one (.int .i64))))))] [.tok (.one (.int .i64)),.d (.one (.int .i64))] [] []) [.c impl_RowStiff_k0,.l impl_RowStiff_k1,.e 2,.c impl_RowStiff_k2,.e 1,.c impl_RowStiff_k3,.l impl_RowStiff_k5,.e 0,.c impl_RowStiff_k6]
  ⟨[(4,.view 4 0 r4.length),(7,.int .i64 v7),(14,.sl (.one (.sl (.one (.int .i64)))) v14),(15,.int .i64 v15),(16,.int .i64 v16),(20,.sl (.one (.int .i64)) v20),(21,.int .i64 v21),(22,.int .i64 v22)],[(4,some (.sl (.one (.int .i64)) r4)),(6,none)]⟩
theorem impl_RowStiff_eq (a0 : List (List Int)) : impl_RowStiff a0 =
 (impl_ValidPlate a0).bind fun x1 =>
  if (!x1) then
   some ([],1)
  else
   impl_RowStiff_p0 a0 (a0.length : Int) 0 [] :=
 (mk_f _ _ _ _ _ _ _ 4000).trans (by kernel_rfl)
theorem impl_RowStiff_p0_eq  (v14 : List (List Int)) (v15 : Int) (v16 : Int) (r4 : List Int) : impl_RowStiff_p0 v14 v15 v16 r4 =
 if decide (v16 < v15) then
  if decide (0 ≤ v16) then
   (v14[v16.toNat]?).bind fun x1 =>
    impl_RowStiff_p1 0 v14 v15 v16 x1 (x1.length : Int) 0 r4
  else
   none
 else
  some ((r4.take r4.length),0) :=
 (goL_dn _ _ _ 4000 _ _).trans (by kernel_rfl)
theorem impl_RowStiff_p1_eq  (v7 : Int) (v14 : List (List Int)) (v15 : Int) (v16 : Int) (v20 : List Int) (v21 : Int) (v22 : Int) (r4 : List Int) : impl_RowStiff_p1 v7 v14 v15 v16 v20 v21 v22 r4 =
 if decide (v22 < v21) then
  if decide (0 ≤ v22) then
   (v20[v22.toNat]?).bind fun x1 =>
    impl_RowStiff_p1 (IntKind.i64.wrap (v7 + (IntKind.i64.wrap ((IntKind.i64.wrap (x1 * x1)) * x1)))) v14 v15 v16 v20 v21 (IntKind.i64.wrap (v22 + 1)) r4
  else
   none
 else
  if decide (r4.length + 1 < lim) then
   impl_RowStiff_p0 v14 v15 (IntKind.i64.wrap (v16 + 1)) ((r4.take r4.length) ++ [v7])
  else
   none :=
 (goL_dn _ _ _ 4000 _ _).trans (by kernel_rfl)
def impl_WeakestRow_k0 : C :=
 .seq (.reg false [.V 21 (.bin .lss (.t 20) (.t 19))] [5,7,18,19,20,21] [5]) (.seq (.cond (.t 21) .skip (.exit 0)) (.seq (.block 1 (.seq (.reg false [.V 22 (.mv (.t 20)),.V 23 (.ia 1 (.t 18) (.t 20)),.V 24 (.ld none (.t 23)),.V 8 (.asg (.t 22)),.V 9 (.asg (.t 24))] [5,7,8,9,18,19,20] [5]) (.seq (.reg false [.V 25 (.mv (.t 9)),.V 26 (.mv (.t 5)),.V 27 (.mv (.t 7)),.V 28 (.ia 1 (.t 26) (.t 27)),.V 29 (.ld none (.t 28)),.V 30 (.bin .lss (.t 25) (.t 29))] [5,7,8,18,19,20,30] [5]) (.cond (.t 30) (.reg false [.V 31 (.mv (.t 8)),.V 7 (.asg (.t 31))] [5,7,18,19,20] [5]) .skip)))) (.reg false [.V 32 (.bin .add (.t 20) (.c (.int .i64 1))),.V 20 (.mv (.t 32))] [5,7,18,19,20] [5])))
def impl_WeakestRow_k1 : C :=
 .norm [5,7,18,19,20] [5] impl_WeakestRow_k0
def impl_WeakestRow_k2 : C :=
 .seq (.reg true [.V 33 (.mv (.t 7)),.V 34 (.mv (.t 5)),.V 35 (.mv (.t 7)),.V 36 (.ia 1 (.t 34) (.t 35)),.V 37 (.ld none (.t 36)),.V 2 (.asg (.t 33)),.V 3 (.asg (.t 37)),.V 4 (.asg (.c (.int .i64 0)))] [2,3,4] []) .ret
def impl_WeakestRow_ir : Fn := { np := 1,io := [],res := [.t 2,.t 3,.t 4],own := [false,false,false],body :=
 (.seq (.reg false [.V 2 (.asg (.c (.int .i64 0))),.V 3 (.asg (.c (.int .i64 0))),.V 4 (.asg (.c (.int .i64 0)))] [0] []) (.seq (.reg false [.V 11 (.mv (.t 0)),.V 12 (.call (.c (.fn 358 [])) [.t 11]),.V 10 (.mv (.t 12)),.V 13 (.ext (.t 10) 0),.V 14 (.ext (.t 10) 1),.W 5 (.asg (.t 13)),.V 6 (.asg (.t 14))] [5,6] [5]) (.seq (.seq (.reg false [.V 15 (.mv (.t 6)),.V 16 (.bin .neq (.t 15) (.c (.int .i64 0)))] [5,6,16] [5]) (.cond (.t 16) (.seq (.reg false [.V 17 (.mv (.t 6)),.V 2 (.asg (.c (.int .i64 0))),.V 3 (.asg (.c (.int .i64 0))),.V 4 (.asg (.t 17))] [2,3,4] []) .ret) .skip)) (.seq (.reg false [.V 7 (.asg (.c (.int .i64 0)))] [5,7] [5]) (.seq (.seq (.reg false [.V 18 (.mv (.t 5)),.V 19 (.len (.t 18)),.V 20 (.mv (.c (.int .i64 0)))] [5,7,18,19,20] [5]) (.block 0 (.loop impl_WeakestRow_k1))) impl_WeakestRow_k2))))) }
noncomputable def impl_WeakestRow_D : List (Nat × Callee) := [(358,impl_RowStiff_c)]
def impl_WeakestRow_H : List (Nat × ET) := [(5,(.one (.int .i64))),(11,(.one (.sl (.one (.int .i64))))),(13,(.one (.int .i64))),(18,(.one (.int .i64))),(26,(.one (.int .i64))),(34,(.one (.int .i64)))]
noncomputable def impl_WeakestRow_c : Callee := mkCallee impl_WeakestRow_D impl_WeakestRow_H impl_WeakestRow_ir [.d (.one (.sl (.one (.sl (.one (.int .i64))))))] [.d (.one (.int .i64)),.d (.one (.int .i64)),.d (.one (.int .i64))] []
noncomputable def impl_WeakestRow (a0 : List (List Int)) : Option (Int × Int × Int) := impl_WeakestRow_c.f (a0,())
noncomputable def impl_WeakestRow_p0  (v7 : Int) (v19 : Int) (v20 : Int) (r5 : List Int) : Option (Int × Int × Int) :=
 goL impl_WeakestRow_D impl_WeakestRow_H (vleave impl_WeakestRow_ir [.d (.one (.sl (.one (.sl (.one (.int .i64))))))] [.d (.one (.int .i64)),.d (.one (.int .i64)),.d (.one (.int .i64))] [] []) [.c impl_WeakestRow_k0,.l impl_WeakestRow_k1,.e 0,.c impl_WeakestRow_k2]
  ⟨[(5,.view 5 0 r5.length),(7,.int .i64 v7),(18,.view 5 0 r5.length),(19,.int .i64 v19),(20,.int .i64 v20)],[(5,some (.sl (.one (.int .i64)) r5))]⟩
theorem impl_WeakestRow_eq (a0 : List (List Int)) : impl_WeakestRow a0 =
 (impl_RowStiff a0).bind fun x1 =>
  if (x1.2 != 0) then
   some (0,0,x1.2)
  else
   impl_WeakestRow_p0 0 (x1.1.length : Int) 0 x1.1 :=
 (mk_f _ _ _ _ _ _ _ 4000).trans (by kernel_rfl)
theorem impl_WeakestRow_p0_eq  (v7 : Int) (v19 : Int) (v20 : Int) (r5 : List Int) : impl_WeakestRow_p0 v7 v19 v20 r5 =
 if decide (v20 < v19) then
  if decide (0 ≤ v20) && decide (v20 < (r5.length : Int)) then
   (r5[v20.toNat]?).bind fun x1 =>
    if decide (0 ≤ v7) && decide (v7 < (r5.length : Int)) then
     (r5[v7.toNat]?).bind fun x2 =>
      if decide (x1 < x2) then
       impl_WeakestRow_p0 v20 v19 (IntKind.i64.wrap (v20 + 1)) r5
      else
       impl_WeakestRow_p0 v7 v19 (IntKind.i64.wrap (v20 + 1)) r5
    else
     none
  else
   none
 else
  if decide (0 ≤ v7) && decide (v7 < (r5.length : Int)) then
   (r5[v7.toNat]?).bind fun x3 =>
    some (v7,x3,0)
  else
   none :=
 (goL_dn _ _ _ 4000 _ _).trans (by kernel_rfl)
def impl_at_ir : Fn := { np := 2,io := [],res := [.t 4],own := [false],body :=
 (.seq (.reg false [.V 4 (.asg (.c (.bool false)))] [0,1] []) (.seq (.reg false [.V 5 (.mv (.t 0)),.V 6 (.bin .geq (.t 5) (.c (.int .i64 0))),.V 7 (.mv (.t 6)),.G 8 (.mv (.t 0)) 2 true,.G 9 (.mv (.t 1)) 2 true,.G 10 (.bin .lss (.t 8) (.t 9)) 2 true,.V 11 (.pick (.t 7) (.t 10) (.c (.bool false))),.V 4 (.asg (.t 11))] [4] []) .ret)) }
noncomputable def impl_at_D : List (Nat × Callee) := []
def impl_at_H : List (Nat × ET) := []
noncomputable def impl_at_c : Callee := mkCallee impl_at_D impl_at_H impl_at_ir [.d (.one (.int .i64)),.d (.one (.int .i64))] [.d (.one .bool)] []
noncomputable def impl_at (a0 : Int) (a1 : Int) : Option (Bool) := impl_at_c.f (a0,a1,())
theorem impl_at_eq (a0 : Int) (a1 : Int) : impl_at a0 a1 =
 if decide (a0 ≥ 0) then
  some (decide (a0 < a1))
 else
  some false :=
 (mk_f _ _ _ _ _ _ _ 4000).trans (by kernel_rfl)
def impl_ScrapeRow_1_ir : Fn := { np := 5,io := [],res := [.t 6],own := [false],body :=
 (.seq (.reg false [.W 5 (.box 2 (.t 0)),.V 6 (.asg (.c (.int .i64 0)))] [1,2,3,4,5] [5]) (.seq (.seq (.reg false [.V 7 (.fa 0 (.t 5)),.V 8 (.ld none (.t 7)),.V 9 (.ld none (.t 1)),.V 10 (.bin .neq (.t 8) (.t 9))] [2,3,4,5,10] [5]) (.cond (.t 10) (.seq (.reg false [.V 11 (.ld (some 2) (.t 5)),.V 12 (.ld none (.t 2)),.V 13 (.call (.c (.fn 464 [])) [.t 11,.t 12]),.V 6 (.asg (.t 13))] [6] []) .ret) .skip)) (.seq (.reg true [.V 14 (.ld (some 2) (.t 5)),.V 15 (.ld none (.t 2)),.V 16 (.call (.c (.fn 464 [])) [.t 14,.t 15]),.V 17 (.ld none (.t 3)),.V 18 (.ld none (.t 4)),.V 19 (.call (.c (.fn 971 [])) [.t 16,.t 17,.t 18]),.V 6 (.asg (.t 19))] [6] []) .ret))) }
noncomputable def impl_ScrapeRow_1_D : List (Nat × Callee) := [(464,impl_place_of_c),(971,impl_thinner_c)]
def impl_ScrapeRow_1_H : List (Nat × ET) := [(12,(.one (.sl (.one (.int .i64))))),(15,(.one (.sl (.one (.int .i64)))))]
noncomputable def impl_ScrapeRow_1_c : Callee := mkCallee impl_ScrapeRow_1_D impl_ScrapeRow_1_H impl_ScrapeRow_1_ir [.d T_Point,.p (.one (.int .i64)),.p (.one (.sl (.one (.sl (.one (.int .i64)))))),.p (.one (.int .i64)),.p (.one (.int .i64))] [.d (.one (.int .i64))] []
noncomputable def impl_ScrapeRow_1 (a0 : T_Point.ty) (a1 : Int) (a2 : List (List Int)) (a3 : Int) (a4 : Int) : Option (Int) := impl_ScrapeRow_1_c.f (a0,a1,a2,a3,a4,())
theorem impl_ScrapeRow_1_eq (a0 : T_Point.ty) (a1 : Int) (a2 : List (List Int)) (a3 : Int) (a4 : Int) : impl_ScrapeRow_1 a0 a1 a2 a3 a4 =
 if (a0.1 != a1) then
  (impl_place_of a0 a2).bind fun x1 =>
   some x1
 else
  (impl_place_of a0 a2).bind fun x2 =>
   (impl_thinner x2 a3 a4).bind fun x3 =>
    some x3 :=
 (mk_f _ _ _ _ _ _ _ 4000).trans (by kernel_rfl)
def impl_mapped_impl_ScrapeRow_1_k0 : C :=
 .seq (.reg false [.V 22 (.bin .lss (.t 21) (.t 20))] [1,5,6,8,11,12,13,20,21,22] [5,8]) (.seq (.cond (.t 22) .skip (.exit 2)) (.seq (.block 3 (.seq (.reg false [.V 23 (.mv (.t 21)),.V 9 (.asg (.t 23))] [1,5,6,8,9,11,12,13,20,21] [5,8]) (.reg false [.V 24 (.mv (.t 8)),.V 25 (.mv (.t 1)),.V 26 (.mv (.t 6)),.V 27 (.mv (.t 9)),.V 28 (.build [.int .i64 0,.int .i64 0] [(0,1,.t 26),(1,1,.t 27)]),.V 29 (.call (.t 25) [.t 28]),.V 30 (.bsl 1 (.int .i64 0) 1 [(0,.t 29)]),.W 31 (.app 1 8 (.t 24) (.t 30)),.W 8 (.asg (.t 31))] [1,5,6,8,11,12,13,20,21] [5,8]))) (.reg false [.V 32 (.bin .add (.t 21) (.c (.int .i64 1))),.V 21 (.mv (.t 32))] [1,5,6,8,11,12,13,20,21] [5,8])))
def impl_mapped_impl_ScrapeRow_1_k1 : C :=
 .norm [1,5,6,8,11,12,13,20,21] [5,8] impl_mapped_impl_ScrapeRow_1_k0
def impl_mapped_impl_ScrapeRow_1_k2 : C :=
 .reg false [.V 33 (.mv (.t 5)),.V 34 (.mv (.t 8)),.W 35 (.bsl 1 (.sl 1 []) 1 [(0,.t 34)]),.W 36 (.app 1 24 (.t 33) (.t 35)),.W 5 (.asg (.t 36))] [1,5,11,12,13] [5]
def impl_mapped_impl_ScrapeRow_1_k3 : C :=
 .reg false [.V 37 (.bin .add (.t 13) (.c (.int .i64 1))),.V 13 (.mv (.t 37))] [1,5,11,12,13] [5]
def impl_mapped_impl_ScrapeRow_1_k4 : C :=
 .seq (.reg false [.V 14 (.bin .lss (.t 13) (.t 12))] [1,5,11,12,13,14] [5]) (.seq (.cond (.t 14) .skip (.exit 0)) (.seq (.block 1 (.seq (.reg false [.V 15 (.mv (.t 13)),.V 16 (.ia 1 (.t 11) (.t 13)),.V 17 (.ld none (.t 16)),.V 6 (.asg (.t 15)),.W 7 (.asg (.t 17))] [1,5,6,7,11,12,13] [5,7]) (.seq (.reg false [.V 18 (.bsl 1 (.int .i64 0) 0 []),.W 8 (.asg (.t 18))] [1,5,6,7,8,11,12,13] [5,7,8]) (.seq (.seq (.reg false [.V 19 (.mv (.t 7)),.V 20 (.len (.t 19)),.V 21 (.mv (.c (.int .i64 0)))] [1,5,6,8,11,12,13,20,21] [5,8]) (.block 2 (.loop impl_mapped_impl_ScrapeRow_1_k1))) impl_mapped_impl_ScrapeRow_1_k2)))) impl_mapped_impl_ScrapeRow_1_k3))
def impl_mapped_impl_ScrapeRow_1_k5 : C :=
 .norm [1,5,11,12,13] [5] impl_mapped_impl_ScrapeRow_1_k4
def impl_mapped_impl_ScrapeRow_1_k6 : C :=
 .seq (.reg false [.V 38 (.mv (.t 5)),.W 4 (.asg (.t 38))] [4] [4,5]) .ret
def impl_mapped_impl_ScrapeRow_1_ir : Fn := { np := 2,io := [],res := [.t 4],own := [false],body :=
 (.seq (.reg false [.W 4 (.asg (.c (.nils 1)))] [0,1] []) (.seq (.reg false [.V 10 (.bsl 1 (.sl 1 []) 0 []),.W 5 (.asg (.t 10))] [0,1,5] [5]) (.seq (.seq (.reg false [.V 11 (.mv (.t 0)),.V 12 (.len (.t 11)),.V 13 (.mv (.c (.int .i64 0)))] [1,5,11,12,13] [5]) (.block 0 (.loop impl_mapped_impl_ScrapeRow_1_k5))) impl_mapped_impl_ScrapeRow_1_k6))) }
noncomputable def impl_mapped_impl_ScrapeRow_1_D : List (Nat × Callee) := [(780,impl_ScrapeRow_1_c)]
def impl_mapped_impl_ScrapeRow_1_H : List (Nat × ET) := [(4,(.one (.sl (.one (.int .i64))))),(5,(.one (.sl (.one (.int .i64))))),(7,(.one (.int .i64))),(8,(.one (.int .i64))),(10,(.one (.sl (.one (.int .i64))))),(11,(.one (.sl (.one (.int .i64))))),(17,(.one (.int .i64))),(18,(.one (.int .i64))),(19,(.one (.int .i64))),(24,(.one (.int .i64))),(30,(.one (.int .i64))),(31,(.one (.int .i64))),(33,(.one (.sl (.one (.int .i64))))),(34,(.one (.int .i64))),(35,(.one (.sl (.one (.int .i64))))),(36,(.one (.sl (.one (.int .i64))))),(38,(.one (.sl (.one (.int .i64)))))]
noncomputable def impl_mapped_impl_ScrapeRow_1_c : Callee := mkCallee impl_mapped_impl_ScrapeRow_1_D impl_mapped_impl_ScrapeRow_1_H impl_mapped_impl_ScrapeRow_1_ir [.d (.one (.sl (.one (.sl (.one (.int .i64)))))),.fn 780 [(.one (.int .i64)),(.one (.sl (.one (.sl (.one (.int .i64)))))),(.one (.int .i64)),(.one (.int .i64))]] [.d (.one (.sl (.one (.sl (.one (.int .i64))))))] []
noncomputable def impl_mapped_impl_ScrapeRow_1 (a0 : List (List Int)) (a1 : Int × (List (List Int)) × Int × Int × Unit) : Option (List (List Int)) := impl_mapped_impl_ScrapeRow_1_c.f (a0,a1,())
noncomputable def impl_mapped_impl_ScrapeRow_1_p0  (v1_0_0 : Int) (v1_1_0 : List (List Int)) (v1_2_0 : Int) (v1_3_0 : Int) (v11 : List (List Int)) (v12 : Int) (v13 : Int) (r5 : List (List Int)) : Option (List (List Int)) :=
 goL impl_mapped_impl_ScrapeRow_1_D impl_mapped_impl_ScrapeRow_1_H (vleave impl_mapped_impl_ScrapeRow_1_ir [.d (.one (.sl (.one (.sl (.one (.int .i64)))))),.fn 780 [(.one (.int .i64)),(.one (.sl (.one (.sl (.one (.int .i64)))))),(.one (.int .i64)),(.one (.int .i64))]] [.d (.one (.sl (.one (.sl (.one (.int .i64))))))] [] []) [.c impl_mapped_impl_ScrapeRow_1_k4,.l impl_mapped_impl_ScrapeRow_1_k5,.e 0,.c impl_mapped_impl_ScrapeRow_1_k6]
  ⟨[(1,.fn 780 [.ptr [.int .i64 v1_0_0] 0,.ptr [.sl (.one (.sl (.one (.int .i64)))) v1_1_0] 0,.ptr [.int .i64 v1_2_0] 0,.ptr [.int .i64 v1_3_0] 0]),(5,.view 5 0 r5.length),(11,.sl (.one (.sl (.one (.int .i64)))) v11),(12,.int .i64 v12),(13,.int .i64 v13)],[(5,some (.sl (.one (.sl (.one (.int .i64)))) r5))]⟩
noncomputable def impl_mapped_impl_ScrapeRow_1_p1  (v1_0_0 : Int) (v1_1_0 : List (List Int)) (v1_2_0 : Int) (v1_3_0 : Int) (v6 : Int) (v11 : List (List Int)) (v12 : Int) (v13 : Int) (v20 : Int) (v21 : Int) (r5 : List (List Int)) (r8 : List Int) : Option (List (List Int)) :=
 goL impl_mapped_impl_ScrapeRow_1_D impl_mapped_impl_ScrapeRow_1_H (vleave impl_mapped_impl_ScrapeRow_1_ir [.d (.one (.sl (.one (.sl (.one (.int .i64)))))),.fn 780 [(.one (.int .i64)),(.one (.sl (.one (.sl (.one (.int .i64)))))),(.one (.int .i64)),(.one (.int .i64))]] [.d (.one (.sl (.one (.sl (.one (.int .i64))))))] [] []) [.c impl_mapped_impl_ScrapeRow_1_k0,.l impl_mapped_impl_ScrapeRow_1_k1,.e 2,.c impl_mapped_impl_ScrapeRow_1_k2,.e 1,.c impl_mapped_impl_ScrapeRow_1_k3,.l impl_mapped_impl_ScrapeRow_1_k5,.e 0,.c impl_mapped_impl_ScrapeRow_1_k6]
  ⟨[(1,.fn 780 [.ptr [.int .i64 v1_0_0] 0,.ptr [.sl (.one (.sl (.one (.int .i64)))) v1_1_0] 0,.ptr [.int .i64 v1_2_0] 0,.ptr [.int .i64 v1_3_0] 0]),(5,.view 5 0 r5.length),(6,.int .i64 v6),(8,.view 8 0 r8.length),(11,.sl (.one (.sl (.one (.int .i64)))) v11),(12,.int .i64 v12),(13,.int .i64 v13),(20,.int .i64 v20),(21,.int .i64 v21)],[(5,some (.sl (.one (.sl (.one (.int .i64)))) r5)),(8,some (.sl (.one (.int .i64)) r8))]⟩
theorem impl_mapped_impl_ScrapeRow_1_eq (a0 : List (List Int)) (a1 : Int × (List (List Int)) × Int × Int × Unit) : impl_mapped_impl_ScrapeRow_1 a0 a1 =
 impl_mapped_impl_ScrapeRow_1_p0 a1.1 a1.2.1 a1.2.2.1 a1.2.2.2.1 a0 (a0.length : Int) 0 [] :=
 (mk_f _ _ _ _ _ _ _ 4000).trans (by kernel_rfl)
theorem impl_mapped_impl_ScrapeRow_1_p0_eq  (v1_0_0 : Int) (v1_1_0 : List (List Int)) (v1_2_0 : Int) (v1_3_0 : Int) (v11 : List (List Int)) (v12 : Int) (v13 : Int) (r5 : List (List Int)) : impl_mapped_impl_ScrapeRow_1_p0 v1_0_0 v1_1_0 v1_2_0 v1_3_0 v11 v12 v13 r5 =
 if decide (v13 < v12) then
  if decide (0 ≤ v13) then
   (v11[v13.toNat]?).bind fun x1 =>
    impl_mapped_impl_ScrapeRow_1_p1 v1_0_0 v1_1_0 v1_2_0 v1_3_0 v13 v11 v12 v13 (x1.length : Int) 0 r5 []
  else
   none
 else
  some (r5.take r5.length) :=
 (goL_dn _ _ _ 4000 _ _).trans (by kernel_rfl)
theorem impl_mapped_impl_ScrapeRow_1_p1_eq  (v1_0_0 : Int) (v1_1_0 : List (List Int)) (v1_2_0 : Int) (v1_3_0 : Int) (v6 : Int) (v11 : List (List Int)) (v12 : Int) (v13 : Int) (v20 : Int) (v21 : Int) (r5 : List (List Int)) (r8 : List Int) : impl_mapped_impl_ScrapeRow_1_p1 v1_0_0 v1_1_0 v1_2_0 v1_3_0 v6 v11 v12 v13 v20 v21 r5 r8 =
 if decide (v21 < v20) then
  (impl_ScrapeRow_1 (v6,v21,()) v1_0_0 v1_1_0 v1_2_0 v1_3_0).bind fun x1 =>
   if decide (r8.length + 1 < lim) then
    impl_mapped_impl_ScrapeRow_1_p1 v1_0_0 v1_1_0 v1_2_0 v1_3_0 v6 v11 v12 v13 v20 (IntKind.i64.wrap (v21 + 1)) r5 ((r8.take r8.length) ++ [x1])
   else
    none
 else
  if decide (r5.length + 1 < lim) then
   impl_mapped_impl_ScrapeRow_1_p0 v1_0_0 v1_1_0 v1_2_0 v1_3_0 v11 v12 (IntKind.i64.wrap (v13 + 1)) ((r5.take r5.length) ++ [(r8.take r8.length)])
  else
   none :=
 (goL_dn _ _ _ 4000 _ _).trans (by kernel_rfl)
def impl_ScrapeRow_k0 : C :=
 .seq (.opn 6000005 (.opn 6000004 (.opn 6000006 (.opn 6000007 (.reg false [.V 28 (.ld none (.t 4)),.V 29 (.mkf 780 [.t 5,.t 4,.t 6,.t 7]),.W 30 (.call (.c (.fn 1271 [])) [.t 28,.t 29]),.W 8 (.asg (.t 30)),.V 9 (.asg (.c (.int .i64 0)))] [8,9] [8]))))) .ret
def impl_ScrapeRow_ir : Fn := { np := 4,io := [],res := [.t 8,.t 9],own := [false,false],body :=
 (.seq (.reg false [.W 4 (.box 1 (.t 0)),.W 5 (.box 1 (.t 1)),.W 6 (.box 1 (.t 2)),.W 7 (.box 1 (.t 3)),.W 8 (.asg (.c (.nils 1))),.V 9 (.asg (.c (.int .i64 0)))] [4,5,6,7] [4,5,6,7,5000]) (.seq (.seq (.reg false [.V 10 (.ld none (.t 4)),.V 11 (.call (.c (.fn 714 [])) [.t 10]),.V 12 (.un .not (.t 11))] [4,5,6,7,12] [4,5,6,7,5000]) (.cond (.t 12) (.seq (.reg false [.W 8 (.asg (.c (.nils 1))),.V 9 (.asg (.c (.int .i64 1)))] [8,9] [8]) .ret) .skip)) (.seq (.seq (.reg false [.V 13 (.ld none (.t 5)),.V 14 (.ld none (.t 4)),.V 15 (.len (.t 14)),.V 16 (.call (.c (.fn 4 [])) [.t 13,.t 15]),.V 17 (.un .not (.t 16)),.V 18 (.mv (.t 17)),.G 19 (.ld none (.t 6)) 5 false,.G 20 (.call (.c (.fn 774 [])) [.t 19]) 5 false,.G 21 (.un .not (.t 20)) 5 false,.V 22 (.pick (.t 18) (.c (.bool true)) (.t 21)),.V 23 (.mv (.t 22)),.G 24 (.ld none (.t 7)) 10 false,.G 25 (.call (.c (.fn 773 [])) [.t 24]) 10 false,.G 26 (.un .not (.t 25)) 10 false,.V 27 (.pick (.t 23) (.c (.bool true)) (.t 26))] [4,5,6,7,27] [4,5,6,7,5000]) (.cond (.t 27) (.seq (.reg false [.W 8 (.asg (.c (.nils 1))),.V 9 (.asg (.c (.int .i64 2)))] [8,9] [8]) .ret) .skip)) (.norm [4,5,6,7] [4,5,6,7,5000] impl_ScrapeRow_k0)))) }
noncomputable def impl_ScrapeRow_D : List (Nat × Callee) := [(4,impl_at_c),(714,impl_ValidPlate_c),(773,impl_isLeast_c),(774,impl_isBy_c),(1271,impl_mapped_impl_ScrapeRow_1_c)]
def impl_ScrapeRow_H : List (Nat × ET) := [(8,(.one (.sl (.one (.int .i64))))),(10,(.one (.sl (.one (.int .i64))))),(14,(.one (.sl (.one (.int .i64))))),(28,(.one (.sl (.one (.int .i64))))),(30,(.one (.sl (.one (.int .i64)))))]
noncomputable def impl_ScrapeRow_c : Callee := mkCallee impl_ScrapeRow_D impl_ScrapeRow_H impl_ScrapeRow_ir [.d (.one (.sl (.one (.sl (.one (.int .i64)))))),.d (.one (.int .i64)),.d (.one (.int .i64)),.d (.one (.int .i64))] [.d (.one (.sl (.one (.sl (.one (.int .i64)))))),.d (.one (.int .i64))] []
noncomputable def impl_ScrapeRow (a0 : List (List Int)) (a1 : Int) (a2 : Int) (a3 : Int) : Option (List (List Int) × Int) := impl_ScrapeRow_c.f (a0,a1,a2,a3,())
noncomputable def impl_ScrapeRow_p0  (r4 : List (List Int)) (r5 : Int) (r6 : Int) (r7 : Int) : Option (List (List Int) × Int) :=
 goL impl_ScrapeRow_D impl_ScrapeRow_H (vleave impl_ScrapeRow_ir [.d (.one (.sl (.one (.sl (.one (.int .i64)))))),.d (.one (.int .i64)),.d (.one (.int .i64)),.d (.one (.int .i64))] [.d (.one (.sl (.one (.sl (.one (.int .i64)))))),.d (.one (.int .i64))] [] []) [.c impl_ScrapeRow_k0]
  ⟨[(4,.loc 4 0 0),(5,.loc 5 0 0),(6,.loc 6 0 0),(7,.loc 7 0 0)],[(4,some (.var 1 (.sl (.one (.sl (.one (.int .i64)))) r4))),(5,some (.var 1 (.int .i64 r5))),(6,some (.var 1 (.int .i64 r6))),(7,some (.var 1 (.int .i64 r7))),(5000,none)]⟩
theorem impl_ScrapeRow_eq (a0 : List (List Int)) (a1 : Int) (a2 : Int) (a3 : Int) : impl_ScrapeRow a0 a1 a2 a3 =
 (impl_ValidPlate a0).bind fun x1 =>
  if (!x1) then
   some ([],1)
  else
   (impl_at a1 (a0.length : Int)).bind fun x2 =>
    if (!x2) then
     some ([],2)
    else
     (impl_isBy a2).bind fun x3 =>
      if (!x3) then
       some ([],2)
      else
       (impl_isLeast a3).bind fun x4 =>
        if (!x4) then
         some ([],2)
        else
         impl_ScrapeRow_p0 a0 a1 a2 a3 :=
 (mk_f _ _ _ _ _ _ _ 4000).trans (by kernel_rfl)
theorem impl_ScrapeRow_p0_eq  (r4 : List (List Int)) (r5 : Int) (r6 : Int) (r7 : Int) : impl_ScrapeRow_p0 r4 r5 r6 r7 =
 (impl_mapped_impl_ScrapeRow_1 r4 (r5,r4,r6,r7,())).bind fun x1 =>
  some (x1,0) :=
 (goL_dn _ _ _ 4000 _ _).trans (by kernel_rfl)
def impl_sameSize_ir : Fn := { np := 2,io := [],res := [.t 4],own := [false],body :=
 (.seq (.reg false [.V 4 (.asg (.c (.bool false)))] [0,1] []) (.seq (.reg true [.V 5 (.mv (.t 0)),.V 6 (.len (.t 5)),.V 7 (.mv (.t 1)),.V 8 (.len (.t 7)),.V 9 (.bin .eql (.t 6) (.t 8)),.V 10 (.mv (.t 9)),.G 11 (.mv (.t 0)) 5 true,.G 12 (.ia 1 (.t 11) (.c (.int .i64 0))) 5 true,.G 13 (.ld none (.t 12)) 5 true,.G 14 (.len (.t 13)) 5 true,.G 15 (.mv (.t 1)) 5 true,.G 16 (.ia 1 (.t 15) (.c (.int .i64 0))) 5 true,.G 17 (.ld none (.t 16)) 5 true,.G 18 (.len (.t 17)) 5 true,.G 19 (.bin .eql (.t 14) (.t 18)) 5 true,.V 20 (.pick (.t 10) (.t 19) (.c (.bool false))),.V 4 (.asg (.t 20))] [4] []) .ret)) }
noncomputable def impl_sameSize_D : List (Nat × Callee) := []
def impl_sameSize_H : List (Nat × ET) := [(5,(.one (.sl (.one (.int .i64))))),(7,(.one (.sl (.one (.int .i64))))),(11,(.one (.sl (.one (.int .i64))))),(13,(.one (.int .i64))),(15,(.one (.sl (.one (.int .i64))))),(17,(.one (.int .i64)))]
noncomputable def impl_sameSize_c : Callee := mkCallee impl_sameSize_D impl_sameSize_H impl_sameSize_ir [.d (.one (.sl (.one (.sl (.one (.int .i64)))))),.d (.one (.sl (.one (.sl (.one (.int .i64))))))] [.d (.one .bool)] []
noncomputable def impl_sameSize (a0 : List (List Int)) (a1 : List (List Int)) : Option (Bool) := impl_sameSize_c.f (a0,a1,())
theorem impl_sameSize_eq (a0 : List (List Int)) (a1 : List (List Int)) : impl_sameSize a0 a1 =
 if ((a0.length : Int) == (a1.length : Int)) then
  (a0[0]?).bind fun x1 =>
   (a1[0]?).bind fun x2 =>
    some ((x1.length : Int) == (x2.length : Int))
 else
  some false :=
 (mk_f _ _ _ _ _ _ _ 4000).trans (by kernel_rfl)
def impl_distance_ir : Fn := { np := 2,io := [],res := [.t 4],own := [false],body :=
 (.seq (.reg false [.V 4 (.asg (.c (.int .i64 0)))] [0,1] []) (.seq (.reg false [.V 5 (.mv (.t 0)),.V 6 (.mv (.t 1)),.V 7 (.bin .sub (.t 5) (.t 6)),.V 8 (.mv (.t 1)),.V 9 (.mv (.t 0)),.V 10 (.bin .sub (.t 8) (.t 9)),.V 11 (.max [.t 7,.t 10]),.V 4 (.asg (.t 11))] [4] []) .ret)) }
noncomputable def impl_distance_D : List (Nat × Callee) := []
def impl_distance_H : List (Nat × ET) := []
noncomputable def impl_distance_c : Callee := mkCallee impl_distance_D impl_distance_H impl_distance_ir [.d (.one (.int .i64)),.d (.one (.int .i64))] [.d (.one (.int .i64))] []
noncomputable def impl_distance (a0 : Int) (a1 : Int) : Option (Int) := impl_distance_c.f (a0,a1,())
theorem impl_distance_eq (a0 : Int) (a1 : Int) : impl_distance a0 a1 =
 some (if IntKind.i64.wrap (a1 - a0) > IntKind.i64.wrap (a0 - a1) then IntKind.i64.wrap (a1 - a0) else IntKind.i64.wrap (a0 - a1)) :=
 (mk_f _ _ _ _ _ _ _ 4000).trans (by kernel_rfl)
def impl_PlateGap_k0 : C :=
 .seq (.reg false [.V 25 (.bin .lss (.t 24) (.t 23))] [0,1,6,22,23,24,25] []) (.seq (.cond (.t 25) .skip (.exit 0)) (.seq (.block 1 (.seq (.reg false [.V 26 (.ia 2 (.t 22) (.t 24)),.V 27 (.ld (some 2) (.t 26)),.W 8 (.alloc 2 (.agg [.int .i64 0,.int .i64 0])),⟨none,true,.sto 2 (.t 8) (.t 27),none,false,[]⟩] [0,1,6,8,22,23,24] [8]) (.reg true [.V 28 (.mv (.t 6)),.V 29 (.ld (some 2) (.t 8)),.V 30 (.mv (.t 0)),.V 31 (.call (.c (.fn 464 [])) [.t 29,.t 30]),.V 32 (.ld (some 2) (.t 8)),.V 33 (.mv (.t 1)),.V 34 (.call (.c (.fn 464 [])) [.t 32,.t 33]),.V 35 (.call (.c (.fn 448 [])) [.t 31,.t 34]),.V 36 (.max [.t 28,.t 35]),.V 6 (.asg (.t 36))] [0,1,6,22,23,24] []))) (.reg false [.V 37 (.bin .add (.t 24) (.c (.int .i64 1))),.V 24 (.mv (.t 37))] [0,1,6,22,23,24] [])))
def impl_PlateGap_k1 : C :=
 .norm [0,1,6,22,23,24] [] impl_PlateGap_k0
def impl_PlateGap_k2 : C :=
 .seq (.reg false [.V 38 (.mv (.t 6)),.V 4 (.asg (.t 38)),.V 5 (.asg (.c (.int .i64 0)))] [4,5] []) .ret
def impl_PlateGap_k3 : C :=
 .seq (.seq (.reg false [.V 17 (.mv (.t 0)),.V 18 (.mv (.t 1)),.V 19 (.call (.c (.fn 782 [])) [.t 17,.t 18]),.V 20 (.un .not (.t 19))] [0,1,20] []) (.cond (.t 20) (.seq (.reg false [.V 4 (.asg (.c (.int .i64 0))),.V 5 (.asg (.c (.int .i64 7)))] [4,5] []) .ret) .skip)) (.seq (.reg false [.V 6 (.asg (.c (.int .i64 0)))] [0,1,6] []) (.seq (.seq (.reg false [.V 21 (.mv (.t 0)),.V 22 (.call (.c (.fn 465 [])) [.t 21]),.V 23 (.len (.t 22)),.V 24 (.mv (.c (.int .i64 0)))] [0,1,6,22,23,24] []) (.block 0 (.loop impl_PlateGap_k1))) impl_PlateGap_k2))
def impl_PlateGap_ir : Fn := { np := 2,io := [],res := [.t 4,.t 5],own := [false,false],body :=
 (.seq (.reg false [.V 4 (.asg (.c (.int .i64 0))),.V 5 (.asg (.c (.int .i64 0)))] [0,1] []) (.seq (.seq (.reg false [.V 9 (.mv (.t 0)),.V 10 (.call (.c (.fn 714 [])) [.t 9]),.V 11 (.un .not (.t 10)),.V 12 (.mv (.t 11)),.G 13 (.mv (.t 1)) 3 false,.G 14 (.call (.c (.fn 714 [])) [.t 13]) 3 false,.G 15 (.un .not (.t 14)) 3 false,.V 16 (.pick (.t 12) (.c (.bool true)) (.t 15))] [0,1,16] []) (.cond (.t 16) (.seq (.reg false [.V 4 (.asg (.c (.int .i64 0))),.V 5 (.asg (.c (.int .i64 1)))] [4,5] []) .ret) .skip)) (.norm [0,1] [] impl_PlateGap_k3))) }
noncomputable def impl_PlateGap_D : List (Nat × Callee) := [(448,impl_distance_c),(464,impl_place_of_c),(465,impl_places_c),(714,impl_ValidPlate_c),(782,impl_sameSize_c)]
def impl_PlateGap_H : List (Nat × ET) := [(9,(.one (.sl (.one (.int .i64))))),(13,(.one (.sl (.one (.int .i64))))),(17,(.one (.sl (.one (.int .i64))))),(18,(.one (.sl (.one (.int .i64))))),(21,(.one (.sl (.one (.int .i64))))),(22,T_Point),(30,(.one (.sl (.one (.int .i64))))),(33,(.one (.sl (.one (.int .i64)))))]
noncomputable def impl_PlateGap_c : Callee := mkCallee impl_PlateGap_D impl_PlateGap_H impl_PlateGap_ir [.d (.one (.sl (.one (.sl (.one (.int .i64)))))),.d (.one (.sl (.one (.sl (.one (.int .i64))))))] [.d (.one (.int .i64)),.d (.one (.int .i64))] []
noncomputable def impl_PlateGap (a0 : List (List Int)) (a1 : List (List Int)) : Option (Int × Int) := impl_PlateGap_c.f (a0,a1,())
noncomputable def impl_PlateGap_p0  (v0 : List (List Int)) (v1 : List (List Int)) : Option (Int × Int) :=
 goL impl_PlateGap_D impl_PlateGap_H (vleave impl_PlateGap_ir [.d (.one (.sl (.one (.sl (.one (.int .i64)))))),.d (.one (.sl (.one (.sl (.one (.int .i64))))))] [.d (.one (.int .i64)),.d (.one (.int .i64))] [] []) [.c impl_PlateGap_k3]
  ⟨[(0,.sl (.one (.sl (.one (.int .i64)))) v0),(1,.sl (.one (.sl (.one (.int .i64)))) v1)],[]⟩
noncomputable def impl_PlateGap_p1  (v0 : List (List Int)) (v1 : List (List Int)) (v6 : Int) (v22 : List T_Point.ty) (v23 : Int) (v24 : Int) : Option (Int × Int) :=
 goL impl_PlateGap_D impl_PlateGap_H (vleave impl_PlateGap_ir [.d (.one (.sl (.one (.sl (.one (.int .i64)))))),.d (.one (.sl (.one (.sl (.one (.int .i64))))))] [.d (.one (.int .i64)),.d (.one (.int .i64))] [] []) [.c impl_PlateGap_k0,.l impl_PlateGap_k1,.e 0,.c impl_PlateGap_k2]
  ⟨[(0,.sl (.one (.sl (.one (.int .i64)))) v0),(1,.sl (.one (.sl (.one (.int .i64)))) v1),(6,.int .i64 v6),(22,.sl T_Point v22),(23,.int .i64 v23),(24,.int .i64 v24)],[]⟩
theorem impl_PlateGap_eq (a0 : List (List Int)) (a1 : List (List Int)) : impl_PlateGap a0 a1 =
 (impl_ValidPlate a0).bind fun x1 =>
  if (!x1) then
   some (0,1)
  else
   (impl_ValidPlate a1).bind fun x2 =>
    if (!x2) then
     some (0,1)
    else
     impl_PlateGap_p0 a0 a1 :=
 (mk_f _ _ _ _ _ _ _ 4000).trans (by kernel_rfl)
theorem impl_PlateGap_p0_eq  (v0 : List (List Int)) (v1 : List (List Int)) : impl_PlateGap_p0 v0 v1 =
 (impl_sameSize v0 v1).bind fun x1 =>
  if (!x1) then
   some (0,7)
  else
   (impl_places v0).bind fun x2 =>
    impl_PlateGap_p1 v0 v1 0 x2 (x2.length : Int) 0 :=
 (goL_dn _ _ _ 4000 _ _).trans (by kernel_rfl)
theorem impl_PlateGap_p1_eq  (v0 : List (List Int)) (v1 : List (List Int)) (v6 : Int) (v22 : List T_Point.ty) (v23 : Int) (v24 : Int) : impl_PlateGap_p1 v0 v1 v6 v22 v23 v24 =
 if decide (v24 < v23) then
  if decide (0 ≤ v24) then
   (v22[v24.toNat]?).bind fun x1 =>
    (impl_place_of x1 v0).bind fun x2 =>
     (impl_place_of x1 v1).bind fun x3 =>
      (impl_distance x2 x3).bind fun x4 =>
       impl_PlateGap_p1 v0 v1 (if x4 > v6 then x4 else v6) v22 v23 (IntKind.i64.wrap (v24 + 1))
  else
   none
 else
  some (v6,0) :=
 (goL_dn _ _ _ 4000 _ _).trans (by kernel_rfl)
def impl_few_ir : Fn := { np := 2,io := [],res := [.t 4],own := [false],body :=
 (.seq (.reg false [.V 4 (.asg (.c (.bool false)))] [0,1] []) (.seq (.reg false [.V 5 (.mv (.t 0)),.V 6 (.mv (.t 1)),.V 7 (.bin .leq (.t 5) (.t 6)),.V 4 (.asg (.t 7))] [4] []) .ret)) }
noncomputable def impl_few_D : List (Nat × Callee) := []
def impl_few_H : List (Nat × ET) := []
noncomputable def impl_few_c : Callee := mkCallee impl_few_D impl_few_H impl_few_ir [.d (.one (.int .i64)),.d (.one (.int .i64))] [.d (.one .bool)] []
noncomputable def impl_few (a0 : Int) (a1 : Int) : Option (Bool) := impl_few_c.f (a0,a1,())
theorem impl_few_eq (a0 : Int) (a1 : Int) : impl_few a0 a1 =
 some (decide (a0 ≤ a1)) :=
 (mk_f _ _ _ _ _ _ _ 4000).trans (by kernel_rfl)
noncomputable def strconv_FormatInt_c : Callee := formatIntC
noncomputable def strconv_FormatInt (a0 : Int) (a1 : Int) : Option (List UInt8) := strconv_FormatInt_c.f (a0,a1,())
theorem strconv_FormatInt_eq (a0 : Int) (a1 : Int) : strconv_FormatInt a0 a1 = if decide (a1 = 10) && (decide (-9223372036854775808 ≤ a0) && decide (a0 ≤ 9223372036854775807)) then some (Lib.itoa a0) else none := rfl
def impl_Decimal_ir : Fn := { np := 1,io := [],res := [.t 2],own := [false],body :=
 (.seq (.reg false [.V 2 (.asg (.c (.str [])))] [0] []) (.seq (.reg false [.V 3 (.mv (.t 0)),.V 4 (.call (.c (.fn 864 [])) [.t 3,.c (.int .i64 10)]),.V 2 (.asg (.t 4))] [2] []) .ret)) }
noncomputable def impl_Decimal_D : List (Nat × Callee) := [(864,strconv_FormatInt_c)]
def impl_Decimal_H : List (Nat × ET) := []
noncomputable def impl_Decimal_c : Callee := mkCallee impl_Decimal_D impl_Decimal_H impl_Decimal_ir [.d (.one (.int .i64))] [.d (.one .str)] []
noncomputable def impl_Decimal (a0 : Int) : Option (List UInt8) := impl_Decimal_c.f (a0,())
theorem impl_Decimal_eq (a0 : Int) : impl_Decimal a0 =
 (strconv_FormatInt a0 10).bind fun x1 =>
  some x1 :=
 (mk_f _ _ _ _ _ _ _ 4000).trans (by kernel_rfl)
noncomputable def strings_Join_c : Callee := joinC
noncomputable def strings_Join (a0 : List (List UInt8)) (a1 : List UInt8) : Option (List UInt8) := strings_Join_c.f (a0,a1,())
theorem strings_Join_eq (a0 : List (List UInt8)) (a1 : List UInt8) : strings_Join a0 a1 = if decide (a0.length ≤ 140737488355328) && decide ((Lib.join a0 a1).length ≤ 140737488355328) then some (Lib.join a0 a1) else none := rfl
def impl_ListText_k0 : C :=
 .seq (.reg false [.V 17 (.bin .lss (.t 16) (.t 15))] [3,14,15,16,17] [3]) (.seq (.cond (.t 17) .skip (.exit 0)) (.seq (.block 1 (.seq (.reg false [.V 18 (.ia 1 (.t 14) (.t 16)),.V 19 (.ld none (.t 18)),.V 5 (.asg (.t 19))] [3,5,14,15,16] [3]) (.seq (.seq (.reg false [.V 20 (.mv (.t 5)),.V 21 (.call (.c (.fn 23 [])) [.t 20,.c (.int .i64 (-1000000000000)),.c (.int .i64 1000000000000)]),.V 22 (.un .not (.t 21))] [3,5,14,15,16,22] [3]) (.cond (.t 22) (.seq (.reg false [.V 2 (.asg (.c (.str [])))] [2] []) .ret) .skip)) (.reg false [.V 23 (.mv (.t 3)),.V 24 (.mv (.t 5)),.V 25 (.call (.c (.fn 524 [])) [.t 24]),.V 26 (.bsl 1 (.str []) 1 [(0,.t 25)]),.W 27 (.app 1 16 (.t 23) (.t 26)),.W 3 (.asg (.t 27))] [3,14,15,16] [3])))) (.reg false [.V 28 (.bin .add (.t 16) (.c (.int .i64 1))),.V 16 (.mv (.t 28))] [3,14,15,16] [3])))
def impl_ListText_k1 : C :=
 .norm [3,14,15,16] [3] impl_ListText_k0
def impl_ListText_k2 : C :=
 .seq (.reg false [.V 29 (.mv (.t 3)),.V 30 (.call (.c (.fn 630 [])) [.t 29,.c (.str [44])]),.V 2 (.asg (.t 30))] [2] []) .ret
def impl_ListText_ir : Fn := { np := 1,io := [],res := [.t 2],own := [false],body :=
 (.seq (.reg false [.V 2 (.asg (.c (.str [])))] [0] []) (.seq (.seq (.reg false [.V 6 (.mv (.t 0)),.V 7 (.len (.t 6)),.V 8 (.call (.c (.fn 21 [])) [.t 7,.c (.int .i64 64)]),.V 9 (.un .not (.t 8))] [0,9] []) (.cond (.t 9) (.seq (.reg false [.V 2 (.asg (.c (.str [])))] [2] []) .ret) .skip)) (.seq (.seq (.reg false [.V 10 (.mv (.t 0)),.V 11 (.len (.t 10)),.V 12 (.bin .eql (.t 11) (.c (.int .i64 0)))] [0,12] []) (.cond (.t 12) (.seq (.reg false [.V 2 (.asg (.c (.str [45])))] [2] []) .ret) .skip)) (.seq (.reg false [.V 13 (.bsl 1 (.str []) 0 []),.W 3 (.asg (.t 13))] [0,3] [3]) (.seq (.seq (.reg false [.V 14 (.mv (.t 0)),.V 15 (.len (.t 14)),.V 16 (.mv (.c (.int .i64 0)))] [3,14,15,16] [3]) (.block 0 (.loop impl_ListText_k1))) impl_ListText_k2))))) }
noncomputable def impl_ListText_D : List (Nat × Callee) := [(21,impl_few_c),(23,impl_within_c),(524,impl_Decimal_c),(630,strings_Join_c)]
def impl_ListText_H : List (Nat × ET) := [(3,(.one .str)),(6,(.one (.int .i64))),(10,(.one (.int .i64))),(13,(.one .str)),(14,(.one (.int .i64))),(23,(.one .str)),(26,(.one .str)),(27,(.one .str)),(29,(.one .str))]
noncomputable def impl_ListText_c : Callee := mkCallee impl_ListText_D impl_ListText_H impl_ListText_ir [.d (.one (.sl (.one (.int .i64))))] [.d (.one .str)] []
noncomputable def impl_ListText (a0 : List Int) : Option (List UInt8) := impl_ListText_c.f (a0,())
noncomputable def impl_ListText_p0  (v14 : List Int) (v15 : Int) (v16 : Int) (r3 : List (List UInt8)) : Option (List UInt8) :=
 goL impl_ListText_D impl_ListText_H (vleave impl_ListText_ir [.d (.one (.sl (.one (.int .i64))))] [.d (.one .str)] [] []) [.c impl_ListText_k0,.l impl_ListText_k1,.e 0,.c impl_ListText_k2]
  ⟨[(3,.view 3 0 r3.length),(14,.sl (.one (.int .i64)) v14),(15,.int .i64 v15),(16,.int .i64 v16)],[(3,some (.sl (.one .str) r3))]⟩
theorem impl_ListText_eq (a0 : List Int) : impl_ListText a0 =
 (impl_few (a0.length : Int) 64).bind fun x1 =>
  if (!x1) then
   some []
  else
   if ((a0.length : Int) == 0) then
    some [45]
   else
    impl_ListText_p0 a0 (a0.length : Int) 0 [] :=
 (mk_f _ _ _ _ _ _ _ 4000).trans (by kernel_rfl)
theorem impl_ListText_p0_eq  (v14 : List Int) (v15 : Int) (v16 : Int) (r3 : List (List UInt8)) : impl_ListText_p0 v14 v15 v16 r3 =
 if decide (v16 < v15) then
  if decide (0 ≤ v16) then
   (v14[v16.toNat]?).bind fun x1 =>
    (impl_within x1 (-1000000000000) 1000000000000).bind fun x2 =>
     if (!x2) then
      some []
     else
      (impl_Decimal x1).bind fun x3 =>
       if decide (r3.length + 1 < lim) then
        impl_ListText_p0 v14 v15 (IntKind.i64.wrap (v16 + 1)) ((r3.take r3.length) ++ [x3])
       else
        none
  else
   none
 else
  (strings_Join (r3.take r3.length) [44]).bind fun x4 =>
   some x4 :=
 (goL_dn _ _ _ 4000 _ _).trans (by kernel_rfl)
def impl_PlateText_k0 : C :=
 .seq (.reg false [.V 13 (.bin .lss (.t 12) (.t 11))] [3,10,11,12,13] [3]) (.seq (.cond (.t 13) .skip (.exit 0)) (.seq (.block 1 (.seq (.reg false [.V 14 (.ia 1 (.t 10) (.t 12)),.V 15 (.ld none (.t 14)),.W 5 (.asg (.t 15))] [3,5,10,11,12] [3,5]) (.reg false [.V 16 (.mv (.t 3)),.V 17 (.mv (.t 5)),.V 18 (.call (.c (.fn 460 [])) [.t 17]),.V 19 (.bsl 1 (.str []) 1 [(0,.t 18)]),.W 20 (.app 1 16 (.t 16) (.t 19)),.W 3 (.asg (.t 20))] [3,10,11,12] [3]))) (.reg false [.V 21 (.bin .add (.t 12) (.c (.int .i64 1))),.V 12 (.mv (.t 21))] [3,10,11,12] [3])))
def impl_PlateText_k1 : C :=
 .norm [3,10,11,12] [3] impl_PlateText_k0
def impl_PlateText_k2 : C :=
 .seq (.reg false [.V 22 (.mv (.t 3)),.V 23 (.call (.c (.fn 630 [])) [.t 22,.c (.str [47])]),.V 2 (.asg (.t 23))] [2] []) .ret
def impl_PlateText_ir : Fn := { np := 1,io := [],res := [.t 2],own := [false],body :=
 (.seq (.reg false [.V 2 (.asg (.c (.str [])))] [0] []) (.seq (.seq (.reg false [.V 6 (.mv (.t 0)),.V 7 (.call (.c (.fn 714 [])) [.t 6]),.V 8 (.un .not (.t 7))] [0,8] []) (.cond (.t 8) (.seq (.reg false [.V 2 (.asg (.c (.str [])))] [2] []) .ret) .skip)) (.seq (.reg false [.V 9 (.bsl 1 (.str []) 0 []),.W 3 (.asg (.t 9))] [0,3] [3]) (.seq (.seq (.reg false [.V 10 (.mv (.t 0)),.V 11 (.len (.t 10)),.V 12 (.mv (.c (.int .i64 0)))] [3,10,11,12] [3]) (.block 0 (.loop impl_PlateText_k1))) impl_PlateText_k2)))) }
noncomputable def impl_PlateText_D : List (Nat × Callee) := [(460,impl_ListText_c),(630,strings_Join_c),(714,impl_ValidPlate_c)]
def impl_PlateText_H : List (Nat × ET) := [(3,(.one .str)),(5,(.one (.int .i64))),(6,(.one (.sl (.one (.int .i64))))),(9,(.one .str)),(10,(.one (.sl (.one (.int .i64))))),(15,(.one (.int .i64))),(16,(.one .str)),(17,(.one (.int .i64))),(19,(.one .str)),(20,(.one .str)),(22,(.one .str))]
noncomputable def impl_PlateText_c : Callee := mkCallee impl_PlateText_D impl_PlateText_H impl_PlateText_ir [.d (.one (.sl (.one (.sl (.one (.int .i64))))))] [.d (.one .str)] []
noncomputable def impl_PlateText (a0 : List (List Int)) : Option (List UInt8) := impl_PlateText_c.f (a0,())
noncomputable def impl_PlateText_p0  (v10 : List (List Int)) (v11 : Int) (v12 : Int) (r3 : List (List UInt8)) : Option (List UInt8) :=
 goL impl_PlateText_D impl_PlateText_H (vleave impl_PlateText_ir [.d (.one (.sl (.one (.sl (.one (.int .i64))))))] [.d (.one .str)] [] []) [.c impl_PlateText_k0,.l impl_PlateText_k1,.e 0,.c impl_PlateText_k2]
  ⟨[(3,.view 3 0 r3.length),(10,.sl (.one (.sl (.one (.int .i64)))) v10),(11,.int .i64 v11),(12,.int .i64 v12)],[(3,some (.sl (.one .str) r3))]⟩
theorem impl_PlateText_eq (a0 : List (List Int)) : impl_PlateText a0 =
 (impl_ValidPlate a0).bind fun x1 =>
  if (!x1) then
   some []
  else
   impl_PlateText_p0 a0 (a0.length : Int) 0 [] :=
 (mk_f _ _ _ _ _ _ _ 4000).trans (by kernel_rfl)
theorem impl_PlateText_p0_eq  (v10 : List (List Int)) (v11 : Int) (v12 : Int) (r3 : List (List UInt8)) : impl_PlateText_p0 v10 v11 v12 r3 =
 if decide (v12 < v11) then
  if decide (0 ≤ v12) then
   (v10[v12.toNat]?).bind fun x1 =>
    (impl_ListText x1).bind fun x2 =>
     if decide (r3.length + 1 < lim) then
      impl_PlateText_p0 v10 v11 (IntKind.i64.wrap (v12 + 1)) ((r3.take r3.length) ++ [x2])
     else
      none
  else
   none
 else
  (strings_Join (r3.take r3.length) [47]).bind fun x3 =>
   some x3 :=
 (goL_dn _ _ _ 4000 _ _).trans (by kernel_rfl)
noncomputable def strings_Split_c : Callee := splitC
noncomputable def strings_Split (a0 : List UInt8) (a1 : List UInt8) : Option (List (List UInt8)) := strings_Split_c.f (a0,a1,())
theorem strings_Split_eq (a0 : List UInt8) (a1 : List UInt8) : strings_Split a0 a1 = if decide (a0.length < 4294967281) && decide (1 ≤ a1.length) then some (Lib.splitK a1 0 (Lib.count a0 a1) a0) else none := rfl
noncomputable def impl_ReadDecimal_c : Callee := readDecC
noncomputable def impl_ReadDecimal (a0 : List UInt8) : Option (Int × Bool) := impl_ReadDecimal_c.f (a0,())
theorem impl_ReadDecimal_eq (a0 : List UInt8) : impl_ReadDecimal a0 = some (readDecP a0) := rfl
def impl_ReadList_k0 : C :=
 .seq (.reg false [.V 16 (.bin .lss (.t 15) (.t 14))] [4,13,14,15,16] [4]) (.seq (.cond (.t 16) .skip (.exit 0)) (.seq (.block 1 (.seq (.reg false [.V 17 (.ia 1 (.t 13) (.t 15)),.V 18 (.ld none (.t 17)),.V 6 (.asg (.t 18))] [4,6,13,14,15] [4]) (.seq (.reg false [.V 20 (.mv (.t 6)),.V 21 (.call (.c (.fn 522 [])) [.t 20]),.V 19 (.mv (.t 21)),.V 22 (.ext (.t 19) 0),.V 23 (.ext (.t 19) 1),.V 7 (.asg (.t 22)),.V 8 (.asg (.t 23))] [4,7,8,13,14,15] [4]) (.seq (.seq (.reg false [.V 24 (.mv (.t 8)),.V 25 (.un .not (.t 24)),.V 26 (.mv (.t 25)),.G 27 (.mv (.t 7)) 2 false,.G 28 (.call (.c (.fn 23 [])) [.t 27,.c (.int .i64 (-1000000000000)),.c (.int .i64 1000000000000)]) 2 false,.G 29 (.un .not (.t 28)) 2 false,.V 30 (.pick (.t 26) (.c (.bool true)) (.t 29)),.V 31 (.mv (.t 30)),.G 32 (.mv (.t 4)) 7 false,.G 33 (.len (.t 32)) 7 false,.G 34 (.bin .eql (.t 33) (.c (.int .i64 64))) 7 false,.V 35 (.pick (.t 31) (.c (.bool true)) (.t 34))] [4,7,13,14,15,35] [4]) (.cond (.t 35) (.seq (.reg false [.W 2 (.asg (.c (.nils 1))),.V 3 (.asg (.c (.bool false)))] [2,3] [2,4]) .ret) .skip)) (.reg false [.V 36 (.mv (.t 4)),.V 37 (.mv (.t 7)),.V 38 (.bsl 1 (.int .i64 0) 1 [(0,.t 37)]),.W 39 (.app 1 8 (.t 36) (.t 38)),.W 4 (.asg (.t 39))] [4,13,14,15] [4]))))) (.reg false [.V 40 (.bin .add (.t 15) (.c (.int .i64 1))),.V 15 (.mv (.t 40))] [4,13,14,15] [4])))
def impl_ReadList_k1 : C :=
 .norm [4,13,14,15] [4] impl_ReadList_k0
def impl_ReadList_k2 : C :=
 .seq (.reg false [.V 41 (.mv (.t 4)),.W 2 (.asg (.t 41)),.V 3 (.asg (.c (.bool true)))] [2,3] [2,4]) .ret
def impl_ReadList_ir : Fn := { np := 1,io := [],res := [.t 2,.t 3],own := [true,false],body :=
 (.seq (.reg false [.W 2 (.asg (.c (.nils 1))),.V 3 (.asg (.c (.bool false)))] [0] []) (.seq (.seq (.reg false [.V 9 (.mv (.t 0)),.V 10 (.bin .eql (.t 9) (.c (.str [45])))] [0,10] []) (.cond (.t 10) (.seq (.reg false [.W 2 (.asg (.c (.nils 1))),.V 3 (.asg (.c (.bool true)))] [2,3] [2,4]) .ret) .skip)) (.seq (.reg false [.V 11 (.bsl 1 (.int .i64 0) 0 []),.W 4 (.asg (.t 11))] [0,4] [4]) (.seq (.seq (.reg false [.V 12 (.mv (.t 0)),.V 13 (.call (.c (.fn 683 [])) [.t 12,.c (.str [44])]),.V 14 (.len (.t 13)),.V 15 (.mv (.c (.int .i64 0)))] [4,13,14,15] [4]) (.block 0 (.loop impl_ReadList_k1))) impl_ReadList_k2)))) }
noncomputable def impl_ReadList_D : List (Nat × Callee) := [(23,impl_within_c),(522,impl_ReadDecimal_c),(683,strings_Split_c)]
def impl_ReadList_H : List (Nat × ET) := [(2,(.one (.int .i64))),(4,(.one (.int .i64))),(11,(.one (.int .i64))),(13,(.one .str)),(32,(.one (.int .i64))),(36,(.one (.int .i64))),(38,(.one (.int .i64))),(39,(.one (.int .i64))),(41,(.one (.int .i64)))]
noncomputable def impl_ReadList_c : Callee := mkCallee impl_ReadList_D impl_ReadList_H impl_ReadList_ir [.d (.one .str)] [.tok (.one (.int .i64)),.d (.one .bool)] []
noncomputable def impl_ReadList (a0 : List UInt8) : Option (List Int × Bool) := impl_ReadList_c.f (a0,())
noncomputable def impl_ReadList_p0  (v13 : List (List UInt8)) (v14 : Int) (v15 : Int) (r4 : List Int) : Option (List Int × Bool) :=
 goL impl_ReadList_D impl_ReadList_H (vleave impl_ReadList_ir [.d (.one .str)] [.tok (.one (.int .i64)),.d (.one .bool)] [] []) [.c impl_ReadList_k0,.l impl_ReadList_k1,.e 0,.c impl_ReadList_k2]
  ⟨[(4,.view 4 0 r4.length),(13,.sl (.one .str) v13),(14,.int .i64 v14),(15,.int .i64 v15)],[(4,some (.sl (.one (.int .i64)) r4))]⟩
theorem impl_ReadList_eq (a0 : List UInt8) : impl_ReadList a0 =
 if (a0 == [45]) then
  some ([],true)
 else
  (strings_Split a0 [44]).bind fun x1 =>
   impl_ReadList_p0 x1 (x1.length : Int) 0 [] :=
 (mk_f _ _ _ _ _ _ _ 4000).trans (by kernel_rfl)
theorem impl_ReadList_p0_eq  (v13 : List (List UInt8)) (v14 : Int) (v15 : Int) (r4 : List Int) : impl_ReadList_p0 v13 v14 v15 r4 =
 if decide (v15 < v14) then
  if decide (0 ≤ v15) then
   (v13[v15.toNat]?).bind fun x1 =>
    (impl_ReadDecimal x1).bind fun x2 =>
     if (!x2.2) then
      some ([],false)
     else
      (impl_within x2.1 (-1000000000000) 1000000000000).bind fun x3 =>
       if (!x3) then
        some ([],false)
       else
        if ((r4.length : Int) == 64) then
         some ([],false)
        else
         if decide (r4.length + 1 < lim) then
          impl_ReadList_p0 v13 v14 (IntKind.i64.wrap (v15 + 1)) ((r4.take r4.length) ++ [x2.1])
         else
          none
  else
   none
 else
  some ((r4.take r4.length),true) :=
 (goL_dn _ _ _ 4000 _ _).trans (by kernel_rfl)
def impl_ReadPlate_k0 : C :=
 .seq (.reg false [.V 14 (.bin .lss (.t 13) (.t 12))] [4,11,12,13,14] [4]) (.seq (.cond (.t 14) .skip (.exit 0)) (.seq (.block 1 (.seq (.reg false [.V 15 (.ia 1 (.t 11) (.t 13)),.V 16 (.ld none (.t 15)),.V 6 (.asg (.t 16))] [4,6,11,12,13] [4]) (.seq (.reg false [.V 18 (.mv (.t 6)),.V 19 (.call (.c (.fn 457 [])) [.t 18]),.V 17 (.mv (.t 19)),.V 20 (.ext (.t 17) 0),.V 21 (.ext (.t 17) 1),.W 7 (.asg (.t 20)),.V 8 (.asg (.t 21))] [4,7,8,11,12,13] [4,7]) (.seq (.seq (.reg false [.V 22 (.mv (.t 8)),.V 23 (.un .not (.t 22)),.V 24 (.mv (.t 23)),.G 25 (.mv (.t 4)) 2 false,.G 26 (.len (.t 25)) 2 false,.G 27 (.bin .eql (.t 26) (.c (.int .i64 10))) 2 false,.V 28 (.pick (.t 24) (.c (.bool true)) (.t 27))] [4,7,11,12,13,28] [4,7]) (.cond (.t 28) (.seq (.reg false [.W 2 (.asg (.c (.nils 1))),.V 3 (.asg (.c (.bool false)))] [2,3] [2,4]) .ret) .skip)) (.reg false [.V 29 (.mv (.t 4)),.V 30 (.mv (.t 7)),.W 31 (.bsl 1 (.sl 1 []) 1 [(0,.t 30)]),.W 32 (.app 1 24 (.t 29) (.t 31)),.W 4 (.asg (.t 32))] [4,11,12,13] [4]))))) (.reg false [.V 33 (.bin .add (.t 13) (.c (.int .i64 1))),.V 13 (.mv (.t 33))] [4,11,12,13] [4])))
def impl_ReadPlate_k1 : C :=
 .norm [4,11,12,13] [4] impl_ReadPlate_k0
def impl_ReadPlate_k2 : C :=
 .seq (.seq (.reg false [.V 34 (.mv (.t 4)),.V 35 (.call (.c (.fn 714 [])) [.t 34]),.V 36 (.un .not (.t 35))] [4,36] [4]) (.cond (.t 36) (.seq (.reg false [.W 2 (.asg (.c (.nils 1))),.V 3 (.asg (.c (.bool false)))] [2,3] [2,4]) .ret) .skip)) (.seq (.reg false [.V 37 (.mv (.t 4)),.W 2 (.asg (.t 37)),.V 3 (.asg (.c (.bool true)))] [2,3] [2,4]) .ret)
def impl_ReadPlate_ir : Fn := { np := 1,io := [],res := [.t 2,.t 3],own := [false,false],body :=
 (.seq (.reg false [.W 2 (.asg (.c (.nils 1))),.V 3 (.asg (.c (.bool false)))] [0] []) (.seq (.reg false [.V 9 (.bsl 1 (.sl 1 []) 0 []),.W 4 (.asg (.t 9))] [0,4] [4]) (.seq (.seq (.reg false [.V 10 (.mv (.t 0)),.V 11 (.call (.c (.fn 683 [])) [.t 10,.c (.str [47])]),.V 12 (.len (.t 11)),.V 13 (.mv (.c (.int .i64 0)))] [4,11,12,13] [4]) (.block 0 (.loop impl_ReadPlate_k1))) impl_ReadPlate_k2))) }
noncomputable def impl_ReadPlate_D : List (Nat × Callee) := [(457,impl_ReadList_c),(683,strings_Split_c),(714,impl_ValidPlate_c)]
def impl_ReadPlate_H : List (Nat × ET) := [(2,(.one (.sl (.one (.int .i64))))),(4,(.one (.sl (.one (.int .i64))))),(7,(.one (.int .i64))),(9,(.one (.sl (.one (.int .i64))))),(11,(.one .str)),(20,(.one (.int .i64))),(25,(.one (.sl (.one (.int .i64))))),(29,(.one (.sl (.one (.int .i64))))),(30,(.one (.int .i64))),(31,(.one (.sl (.one (.int .i64))))),(32,(.one (.sl (.one (.int .i64))))),(34,(.one (.sl (.one (.int .i64))))),(37,(.one (.sl (.one (.int .i64)))))]
noncomputable def impl_ReadPlate_c : Callee := mkCallee impl_ReadPlate_D impl_ReadPlate_H impl_ReadPlate_ir [.d (.one .str)] [.d (.one (.sl (.one (.sl (.one (.int .i64)))))),.d (.one .bool)] []
noncomputable def impl_ReadPlate (a0 : List UInt8) : Option (List (List Int) × Bool) := impl_ReadPlate_c.f (a0,())
noncomputable def impl_ReadPlate_p0  (v11 : List (List UInt8)) (v12 : Int) (v13 : Int) (r4 : List (List Int)) : Option (List (List Int) × Bool) :=
 goL impl_ReadPlate_D impl_ReadPlate_H (vleave impl_ReadPlate_ir [.d (.one .str)] [.d (.one (.sl (.one (.sl (.one (.int .i64)))))),.d (.one .bool)] [] []) [.c impl_ReadPlate_k0,.l impl_ReadPlate_k1,.e 0,.c impl_ReadPlate_k2]
  ⟨[(4,.view 4 0 r4.length),(11,.sl (.one .str) v11),(12,.int .i64 v12),(13,.int .i64 v13)],[(4,some (.sl (.one (.sl (.one (.int .i64)))) r4))]⟩
theorem impl_ReadPlate_eq (a0 : List UInt8) : impl_ReadPlate a0 =
 (strings_Split a0 [47]).bind fun x1 =>
  impl_ReadPlate_p0 x1 (x1.length : Int) 0 [] :=
 (mk_f _ _ _ _ _ _ _ 4000).trans (by kernel_rfl)
theorem impl_ReadPlate_p0_eq  (v11 : List (List UInt8)) (v12 : Int) (v13 : Int) (r4 : List (List Int)) : impl_ReadPlate_p0 v11 v12 v13 r4 =
 if decide (v13 < v12) then
  if decide (0 ≤ v13) then
   (v11[v13.toNat]?).bind fun x1 =>
    (impl_ReadList x1).bind fun x2 =>
     if (!x2.2) then
      some ([],false)
     else
      if ((r4.length : Int) == 10) then
       some ([],false)
      else
       if decide (r4.length + 1 < lim) then
        impl_ReadPlate_p0 v11 v12 (IntKind.i64.wrap (v13 + 1)) ((r4.take r4.length) ++ [(x2.1.take x2.1.length)])
       else
        none
  else
   none
 else
  (impl_ValidPlate (r4.take r4.length)).bind fun x3 =>
   if (!x3) then
    some ([],false)
   else
    some ((r4.take r4.length),true) :=
 (goL_dn _ _ _ 4000 _ _).trans (by kernel_rfl)
def spec_l00Max_ir : Fn := { np := 2,io := [],res := [.t 4],own := [false],body :=
 (.seq (.reg false [.V 4 (.asg (.c (.int .i64 0)))] [0,1] []) (.seq (.seq (.reg false [.V 5 (.mv (.t 0)),.V 6 (.mv (.t 1)),.V 7 (.bin .gtr (.t 5) (.t 6))] [0,1,7] []) (.cond (.t 7) (.seq (.reg false [.V 8 (.mv (.t 0)),.V 4 (.asg (.t 8))] [4] []) .ret) .skip)) (.seq (.reg false [.V 9 (.mv (.t 1)),.V 4 (.asg (.t 9))] [4] []) .ret))) }
noncomputable def spec_l00Max_D : List (Nat × Callee) := []
def spec_l00Max_H : List (Nat × ET) := []
noncomputable def spec_l00Max_c : Callee := mkCallee spec_l00Max_D spec_l00Max_H spec_l00Max_ir [.d (.one (.int .i64)),.d (.one (.int .i64))] [.d (.one (.int .i64))] []
noncomputable def spec_l00Max (a0 : Int) (a1 : Int) : Option (Int) := spec_l00Max_c.f (a0,a1,())
theorem spec_l00Max_eq (a0 : Int) (a1 : Int) : spec_l00Max a0 a1 =
 if decide (a0 > a1) then
  some a0
 else
  some a1 :=
 (mk_f _ _ _ _ _ _ _ 4000).trans (by kernel_rfl)
def spec_l08Abs_ir : Fn := { np := 1,io := [],res := [.t 2],own := [false],body :=
 (.seq (.reg false [.V 2 (.asg (.c (.int .i64 0)))] [0] []) (.seq (.reg false [.V 3 (.mv (.t 0)),.V 4 (.mv (.t 0)),.V 5 (.un .neg (.t 4)),.V 6 (.call (.c (.fn 17 [])) [.t 3,.t 5]),.V 2 (.asg (.t 6))] [2] []) .ret)) }
noncomputable def spec_l08Abs_D : List (Nat × Callee) := [(17,spec_l00Max_c)]
def spec_l08Abs_H : List (Nat × ET) := []
noncomputable def spec_l08Abs_c : Callee := mkCallee spec_l08Abs_D spec_l08Abs_H spec_l08Abs_ir [.d (.one (.int .i64))] [.d (.one (.int .i64))] []
noncomputable def spec_l08Abs (a0 : Int) : Option (Int) := spec_l08Abs_c.f (a0,())
theorem spec_l08Abs_eq (a0 : Int) : spec_l08Abs a0 =
 (spec_l00Max a0 (IntKind.i64.wrap (0 - a0))).bind fun x1 =>
  some x1 :=
 (mk_f _ _ _ _ _ _ _ 4000).trans (by kernel_rfl)
def spec_PlateGap_k0 : C :=
 .seq (.seq (.reg false [.V 39 (.mv (.t 8)),.V 40 (.mv (.t 0)),.V 41 (.mv (.t 7)),.V 42 (.ia 1 (.t 40) (.t 41)),.V 43 (.ld none (.t 42)),.V 44 (.len (.t 43)),.V 45 (.bin .lss (.t 39) (.t 44))] [0,1,6,7,8,45] []) (.cond (.t 45) .skip (.exit 2))) (.seq (.block 3 (.reg true [.V 48 (.mv (.t 6)),.V 49 (.mv (.t 0)),.V 50 (.mv (.t 7)),.V 51 (.ia 1 (.t 49) (.t 50)),.V 52 (.ld none (.t 51)),.V 53 (.mv (.t 8)),.V 54 (.ia 1 (.t 52) (.t 53)),.V 55 (.ld none (.t 54)),.V 56 (.mv (.t 1)),.V 57 (.mv (.t 7)),.V 58 (.ia 1 (.t 56) (.t 57)),.V 59 (.ld none (.t 58)),.V 60 (.mv (.t 8)),.V 61 (.ia 1 (.t 59) (.t 60)),.V 62 (.ld none (.t 61)),.V 63 (.bin .sub (.t 55) (.t 62)),.V 64 (.call (.c (.fn 783 [])) [.t 63]),.V 65 (.call (.c (.fn 17 [])) [.t 48,.t 64]),.V 6 (.asg (.t 65))] [0,1,6,7,8] [])) (.reg false [.V 46 (.mv (.t 8)),.V 47 (.bin .add (.t 46) (.c (.int .i64 1))),.V 8 (.asg (.t 47))] [0,1,6,7,8] []))
def spec_PlateGap_k1 : C :=
 .norm [0,1,6,7,8] [] spec_PlateGap_k0
def spec_PlateGap_k2 : C :=
 .reg false [.V 37 (.mv (.t 7)),.V 38 (.bin .add (.t 37) (.c (.int .i64 1))),.V 7 (.asg (.t 38))] [0,1,6,7] []
def spec_PlateGap_k3 : C :=
 .seq (.seq (.reg false [.V 33 (.mv (.t 7)),.V 34 (.mv (.t 0)),.V 35 (.len (.t 34)),.V 36 (.bin .lss (.t 33) (.t 35))] [0,1,6,7,36] []) (.cond (.t 36) .skip (.exit 0))) (.seq (.block 1 (.seq (.reg false [.V 8 (.asg (.c (.int .i64 0)))] [0,1,6,7,8] []) (.block 2 (.loop spec_PlateGap_k1)))) spec_PlateGap_k2)
def spec_PlateGap_k4 : C :=
 .norm [0,1,6,7] [] spec_PlateGap_k3
def spec_PlateGap_k5 : C :=
 .seq (.reg false [.V 66 (.mv (.t 6)),.V 4 (.asg (.t 66)),.V 5 (.asg (.c (.int .i64 0)))] [4,5] []) .ret
def spec_PlateGap_k6 : C :=
 .seq (.reg false [.V 6 (.asg (.c (.int .i64 0)))] [0,1,6] []) (.seq (.seq (.reg false [.V 7 (.asg (.c (.int .i64 0)))] [0,1,6,7] []) (.block 0 (.loop spec_PlateGap_k4))) spec_PlateGap_k5)
def spec_PlateGap_k7 : C :=
 .seq (.seq (.reg true [.V 17 (.mv (.t 0)),.V 18 (.len (.t 17)),.V 19 (.mv (.t 1)),.V 20 (.len (.t 19)),.V 21 (.bin .neq (.t 18) (.t 20)),.V 22 (.mv (.t 21)),.G 23 (.mv (.t 0)) 5 false,.G 24 (.ia 1 (.t 23) (.c (.int .i64 0))) 5 false,.G 25 (.ld none (.t 24)) 5 false,.G 26 (.len (.t 25)) 5 false,.G 27 (.mv (.t 1)) 5 false,.G 28 (.ia 1 (.t 27) (.c (.int .i64 0))) 5 false,.G 29 (.ld none (.t 28)) 5 false,.G 30 (.len (.t 29)) 5 false,.G 31 (.bin .neq (.t 26) (.t 30)) 5 false,.V 32 (.pick (.t 22) (.c (.bool true)) (.t 31))] [0,1,32] []) (.cond (.t 32) (.seq (.reg false [.V 4 (.asg (.c (.int .i64 0))),.V 5 (.asg (.c (.int .i64 7)))] [4,5] []) .ret) .skip)) (.norm [0,1] [] spec_PlateGap_k6)
def spec_PlateGap_ir : Fn := { np := 2,io := [],res := [.t 4,.t 5],own := [false,false],body :=
 (.seq (.reg false [.V 4 (.asg (.c (.int .i64 0))),.V 5 (.asg (.c (.int .i64 0)))] [0,1] []) (.seq (.seq (.reg false [.V 9 (.mv (.t 0)),.V 10 (.call (.c (.fn 777 [])) [.t 9]),.V 11 (.un .not (.t 10)),.V 12 (.mv (.t 11)),.G 13 (.mv (.t 1)) 3 false,.G 14 (.call (.c (.fn 777 [])) [.t 13]) 3 false,.G 15 (.un .not (.t 14)) 3 false,.V 16 (.pick (.t 12) (.c (.bool true)) (.t 15))] [0,1,16] []) (.cond (.t 16) (.seq (.reg false [.V 4 (.asg (.c (.int .i64 0))),.V 5 (.asg (.c (.int .i64 1)))] [4,5] []) .ret) .skip)) (.norm [0,1] [] spec_PlateGap_k7))) }
noncomputable def spec_PlateGap_D : List (Nat × Callee) := [(17,spec_l00Max_c),(777,spec_l08Ok_c),(783,spec_l08Abs_c)]
def spec_PlateGap_H : List (Nat × ET) := [(9,(.one (.sl (.one (.int .i64))))),(13,(.one (.sl (.one (.int .i64))))),(17,(.one (.sl (.one (.int .i64))))),(19,(.one (.sl (.one (.int .i64))))),(23,(.one (.sl (.one (.int .i64))))),(25,(.one (.int .i64))),(27,(.one (.sl (.one (.int .i64))))),(29,(.one (.int .i64))),(34,(.one (.sl (.one (.int .i64))))),(40,(.one (.sl (.one (.int .i64))))),(43,(.one (.int .i64))),(49,(.one (.sl (.one (.int .i64))))),(52,(.one (.int .i64))),(56,(.one (.sl (.one (.int .i64))))),(59,(.one (.int .i64)))]
noncomputable def spec_PlateGap_c : Callee := mkCallee spec_PlateGap_D spec_PlateGap_H spec_PlateGap_ir [.d (.one (.sl (.one (.sl (.one (.int .i64)))))),.d (.one (.sl (.one (.sl (.one (.int .i64))))))] [.d (.one (.int .i64)),.d (.one (.int .i64))] []
noncomputable def spec_PlateGap (a0 : List (List Int)) (a1 : List (List Int)) : Option (Int × Int) := spec_PlateGap_c.f (a0,a1,())
noncomputable def spec_PlateGap_p0  (v0 : List (List Int)) (v1 : List (List Int)) : Option (Int × Int) :=
 goL spec_PlateGap_D spec_PlateGap_H (vleave spec_PlateGap_ir [.d (.one (.sl (.one (.sl (.one (.int .i64)))))),.d (.one (.sl (.one (.sl (.one (.int .i64))))))] [.d (.one (.int .i64)),.d (.one (.int .i64))] [] []) [.c spec_PlateGap_k7]
  ⟨[(0,.sl (.one (.sl (.one (.int .i64)))) v0),(1,.sl (.one (.sl (.one (.int .i64)))) v1)],[]⟩
noncomputable def spec_PlateGap_p1  (v0 : List (List Int)) (v1 : List (List Int)) : Option (Int × Int) :=
 goL spec_PlateGap_D spec_PlateGap_H (vleave spec_PlateGap_ir [.d (.one (.sl (.one (.sl (.one (.int .i64)))))),.d (.one (.sl (.one (.sl (.one (.int .i64))))))] [.d (.one (.int .i64)),.d (.one (.int .i64))] [] []) [.c spec_PlateGap_k6]
  ⟨[(0,.sl (.one (.sl (.one (.int .i64)))) v0),(1,.sl (.one (.sl (.one (.int .i64)))) v1)],[]⟩
noncomputable def spec_PlateGap_p2  (v0 : List (List Int)) (v1 : List (List Int)) (v6 : Int) (v7 : Int) : Option (Int × Int) :=
 goL spec_PlateGap_D spec_PlateGap_H (vleave spec_PlateGap_ir [.d (.one (.sl (.one (.sl (.one (.int .i64)))))),.d (.one (.sl (.one (.sl (.one (.int .i64))))))] [.d (.one (.int .i64)),.d (.one (.int .i64))] [] []) [.c spec_PlateGap_k3,.l spec_PlateGap_k4,.e 0,.c spec_PlateGap_k5]
  ⟨[(0,.sl (.one (.sl (.one (.int .i64)))) v0),(1,.sl (.one (.sl (.one (.int .i64)))) v1),(6,.int .i64 v6),(7,.int .i64 v7)],[]⟩
noncomputable def spec_PlateGap_p3  (v0 : List (List Int)) (v1 : List (List Int)) (v6 : Int) (v7 : Int) (v8 : Int) : Option (Int × Int) :=
 goL spec_PlateGap_D spec_PlateGap_H (vleave spec_PlateGap_ir [.d (.one (.sl (.one (.sl (.one (.int .i64)))))),.d (.one (.sl (.one (.sl (.one (.int .i64))))))] [.d (.one (.int .i64)),.d (.one (.int .i64))] [] []) [.c spec_PlateGap_k0,.l spec_PlateGap_k1,.e 2,.e 1,.c spec_PlateGap_k2,.l spec_PlateGap_k4,.e 0,.c spec_PlateGap_k5]
  ⟨[(0,.sl (.one (.sl (.one (.int .i64)))) v0),(1,.sl (.one (.sl (.one (.int .i64)))) v1),(6,.int .i64 v6),(7,.int .i64 v7),(8,.int .i64 v8)],[]⟩
theorem spec_PlateGap_eq (a0 : List (List Int)) (a1 : List (List Int)) : spec_PlateGap a0 a1 =
 (spec_l08Ok a0).bind fun x1 =>
  if (!x1) then
   some (0,1)
  else
   (spec_l08Ok a1).bind fun x2 =>
    if (!x2) then
     some (0,1)
    else
     spec_PlateGap_p0 a0 a1 :=
 (mk_f _ _ _ _ _ _ _ 4000).trans (by kernel_rfl)
theorem spec_PlateGap_p0_eq  (v0 : List (List Int)) (v1 : List (List Int)) : spec_PlateGap_p0 v0 v1 =
 if ((v0.length : Int) != (v1.length : Int)) then
  some (0,7)
 else
  (v0[0]?).bind fun x1 =>
   (v1[0]?).bind fun x2 =>
    if ((x1.length : Int) != (x2.length : Int)) then
     some (0,7)
    else
     spec_PlateGap_p1 v0 v1 :=
 (goL_dn _ _ _ 4000 _ _).trans (by kernel_rfl)
theorem spec_PlateGap_p1_eq  (v0 : List (List Int)) (v1 : List (List Int)) : spec_PlateGap_p1 v0 v1 =
 spec_PlateGap_p2 v0 v1 0 0 :=
 (goL_dn _ _ _ 4000 _ _).trans (by kernel_rfl)
theorem spec_PlateGap_p2_eq  (v0 : List (List Int)) (v1 : List (List Int)) (v6 : Int) (v7 : Int) : spec_PlateGap_p2 v0 v1 v6 v7 =
 if decide (v7 < (v0.length : Int)) then
  spec_PlateGap_p3 v0 v1 v6 v7 0
 else
  some (v6,0) :=
 (goL_dn _ _ _ 4000 _ _).trans (by kernel_rfl)
theorem spec_PlateGap_p3_eq  (v0 : List (List Int)) (v1 : List (List Int)) (v6 : Int) (v7 : Int) (v8 : Int) : spec_PlateGap_p3 v0 v1 v6 v7 v8 =
 if decide (0 ≤ v7) then
  (v0[v7.toNat]?).bind fun x1 =>
   if decide (v8 < (x1.length : Int)) then
    if decide (0 ≤ v7) then
     (v0[v7.toNat]?).bind fun x2 =>
      if decide (0 ≤ v8) then
       (x2[v8.toNat]?).bind fun x3 =>
        if decide (0 ≤ v7) then
         (v1[v7.toNat]?).bind fun x4 =>
          if decide (0 ≤ v8) then
           (x4[v8.toNat]?).bind fun x5 =>
            (spec_l08Abs (IntKind.i64.wrap (x3 - x5))).bind fun x6 =>
             (spec_l00Max v6 x6).bind fun x7 =>
              spec_PlateGap_p3 v0 v1 x7 v7 (IntKind.i64.wrap (v8 + 1))
          else
           none
        else
         none
      else
       none
    else
     none
   else
    spec_PlateGap_p2 v0 v1 v6 (IntKind.i64.wrap (v7 + 1))
 else
  none :=
 (goL_dn _ _ _ 4000 _ _).trans (by kernel_rfl)
def laws_FnPlates_k0 : C :=
 .seq (.reg false [.V 91 (.mv (.t 10)),.V 92 (.bin .gtr (.t 91) (.c (.int .i64 0)))] [1,5,6,7,8,9,10,92] [5]) (.cond (.t 92) (.seq (.reg false [.V 94 (.mv (.t 5)),.V 95 (.mv (.t 10)),.V 96 (.bin .sub (.t 95) (.c (.int .i64 1))),.V 97 (.mv (.t 9)),.W 98 (.call (.c (.fn 361 [])) [.t 94,.t 96,.t 97]),.V 93 (.mv (.t 98)),.V 99 (.ext (.t 93) 0),.V 100 (.ext (.t 93) 1),.W 16 (.asg (.t 99)),.V 17 (.asg (.t 100))] [1,6,7,8,16,17] [16]) (.seq (.reg false [.V 102 (.mv (.t 16)),.V 103 (.mv (.t 6)),.V 104 (.mv (.t 7)),.V 105 (.call (.c (.fn 360 [])) [.t 102,.t 103,.t 104]),.V 101 (.mv (.t 105)),.V 106 (.ext (.t 101) 0),.V 107 (.ext (.t 101) 1),.V 18 (.asg (.t 106)),.V 19 (.asg (.t 107))] [1,8,17,18,19] []) (.seq (.reg false [.V 108 (.mv (.t 17)),.V 109 (.bin .neq (.t 108) (.c (.int .i64 0))),.V 110 (.mv (.t 109)),.G 111 (.mv (.t 19)) 2 false,.G 112 (.bin .neq (.t 111) (.c (.int .i64 0))) 2 false,.V 113 (.pick (.t 110) (.c (.bool true)) (.t 112)),.V 114 (.mv (.t 113)),.G 115 (.mv (.t 18)) 6 false,.G 116 (.mv (.t 8)) 6 false,.G 117 (.bin .leq (.t 115) (.t 116)) 6 false,.V 118 (.pick (.t 114) (.c (.bool true)) (.t 117))] [1,118] []) (.cond (.t 118) (.seq (.reg false [.V 4 (.asg (.c (.bool false)))] [4] []) .ret) .skip)))) .skip)
def laws_FnPlates_k1 : C :=
 .seq (.seq (.reg false [.V 179 (.mv (.t 28)),.V 180 (.mv (.t 20)),.V 181 (.mv (.t 26)),.V 182 (.ia 1 (.t 180) (.t 181)),.V 183 (.ld none (.t 182)),.V 184 (.len (.t 183)),.V 185 (.bin .lss (.t 179) (.t 184))] [20,21,23,24,26,27,28,185] [20,21]) (.cond (.t 185) .skip (.exit 2))) (.seq (.block 3 (.reg true [.V 188 (.mv (.t 27)),.V 189 (.mv (.t 20)),.V 190 (.mv (.t 26)),.V 191 (.ia 1 (.t 189) (.t 190)),.V 192 (.ld none (.t 191)),.V 193 (.mv (.t 28)),.V 194 (.ia 1 (.t 192) (.t 193)),.V 195 (.ld none (.t 194)),.V 196 (.mv (.t 20)),.V 197 (.mv (.t 26)),.V 198 (.ia 1 (.t 196) (.t 197)),.V 199 (.ld none (.t 198)),.V 200 (.mv (.t 28)),.V 201 (.ia 1 (.t 199) (.t 200)),.V 202 (.ld none (.t 201)),.V 203 (.bin .mul (.t 195) (.t 202)),.V 204 (.mv (.t 20)),.V 205 (.mv (.t 26)),.V 206 (.ia 1 (.t 204) (.t 205)),.V 207 (.ld none (.t 206)),.V 208 (.mv (.t 28)),.V 209 (.ia 1 (.t 207) (.t 208)),.V 210 (.ld none (.t 209)),.V 211 (.bin .mul (.t 203) (.t 210)),.V 212 (.bin .add (.t 188) (.t 211)),.V 27 (.asg (.t 212))] [20,21,23,24,26,27,28] [20,21])) (.reg false [.V 186 (.mv (.t 28)),.V 187 (.bin .add (.t 186) (.c (.int .i64 1))),.V 28 (.asg (.t 187))] [20,21,23,24,26,27,28] [20,21]))
def laws_FnPlates_k2 : C :=
 .norm [20,21,23,24,26,27,28] [20,21] laws_FnPlates_k1
def laws_FnPlates_k3 : C :=
 .seq (.reg false [.V 213 (.mv (.t 21)),.V 214 (.mv (.t 26)),.V 215 (.ia 1 (.t 213) (.t 214)),.V 216 (.ld none (.t 215)),.V 217 (.mv (.t 27)),.V 218 (.bin .neq (.t 216) (.t 217)),.V 219 (.mv (.t 218)),.G 220 (.mv (.t 27)) 6 false,.G 221 (.mv (.t 24)) 6 false,.G 222 (.bin .lss (.t 220) (.t 221)) 6 false,.V 223 (.pick (.t 219) (.c (.bool true)) (.t 222)),.V 224 (.mv (.t 223)),.G 225 (.mv (.t 26)) 11 false,.G 226 (.mv (.t 23)) 11 false,.G 227 (.bin .lss (.t 225) (.t 226)) 11 false,.G 228 (.mv (.t 227)) 11 false,.G 229 (.mv (.t 27)) 15 true,.G 230 (.mv (.t 24)) 15 true,.G 231 (.bin .eql (.t 229) (.t 230)) 15 true,.G 232 (.pick (.t 228) (.t 231) (.c (.bool false))) 11 false,.V 233 (.pick (.t 224) (.c (.bool true)) (.t 232))] [20,21,23,24,26,233] [20,21]) (.cond (.t 233) (.seq (.reg false [.V 4 (.asg (.c (.bool false)))] [4] []) .ret) .skip)
def laws_FnPlates_k4 : C :=
 .reg false [.V 177 (.mv (.t 26)),.V 178 (.bin .add (.t 177) (.c (.int .i64 1))),.V 26 (.asg (.t 178))] [20,21,23,24,26] [20,21]
def laws_FnPlates_k5 : C :=
 .seq (.seq (.reg false [.V 173 (.mv (.t 26)),.V 174 (.mv (.t 20)),.V 175 (.len (.t 174)),.V 176 (.bin .lss (.t 173) (.t 175))] [20,21,23,24,26,176] [20,21]) (.cond (.t 176) .skip (.exit 0))) (.seq (.block 1 (.seq (.reg false [.V 27 (.asg (.c (.int .i64 0)))] [20,21,23,24,26,27] [20,21]) (.seq (.seq (.reg false [.V 28 (.asg (.c (.int .i64 0)))] [20,21,23,24,26,27,28] [20,21]) (.block 2 (.loop laws_FnPlates_k2))) laws_FnPlates_k3))) laws_FnPlates_k4)
def laws_FnPlates_k6 : C :=
 .norm [20,21,23,24,26] [20,21] laws_FnPlates_k5
def laws_FnPlates_k7 : C :=
 .seq (.reg false [.V 235 (.mv (.t 20)),.V 236 (.mv (.t 23)),.W 237 (.call (.c (.fn 356 [])) [.t 235,.t 236,.c (.int .i64 2),.c (.int .i64 1)]),.V 234 (.mv (.t 237)),.V 238 (.ext (.t 234) 0),.V 239 (.ext (.t 234) 1),.W 29 (.asg (.t 238)),.V 30 (.asg (.t 239))] [20,29,30] [20,29]) (.seq (.reg false [.V 241 (.mv (.t 20)),.V 242 (.mv (.t 29)),.V 243 (.call (.c (.fn 355 [])) [.t 241,.t 242]),.V 240 (.mv (.t 243)),.V 244 (.ext (.t 240) 0),.V 245 (.ext (.t 240) 1),.V 31 (.asg (.t 244)),.V 32 (.asg (.t 245))] [20,30,31,32] [20]) (.seq (.reg false [.V 247 (.mv (.t 20)),.V 248 (.call (.c (.fn 353 [])) [.t 247]),.V 249 (.call (.c (.fn 354 [])) [.t 248]),.V 246 (.mv (.t 249)),.V 250 (.ext (.t 246) 0),.V 251 (.ext (.t 246) 1),.W 33 (.asg (.t 250)),.V 34 (.asg (.t 251))] [20,30,31,32,33,34] [20,33]) (.seq (.reg false [.V 253 (.mv (.t 20)),.V 254 (.mv (.t 33)),.V 255 (.call (.c (.fn 352 [])) [.t 253,.t 254]),.V 252 (.mv (.t 255)),.V 256 (.ext (.t 252) 0),.V 257 (.ext (.t 252) 1),.V 35 (.asg (.t 256)),.V 36 (.asg (.t 257))] [30,31,32,34,35,36] []) (.seq (.reg false [.V 258 (.mv (.t 30)),.V 259 (.bin .eql (.t 258) (.c (.int .i64 0))),.V 260 (.mv (.t 259)),.G 261 (.mv (.t 32)) 2 true,.G 262 (.bin .eql (.t 261) (.c (.int .i64 0))) 2 true,.V 263 (.pick (.t 260) (.t 262) (.c (.bool false))),.V 264 (.mv (.t 263)),.G 265 (.mv (.t 31)) 6 true,.G 266 (.bin .leq (.t 265) (.c (.int .i64 2))) 6 true,.V 267 (.pick (.t 264) (.t 266) (.c (.bool false))),.V 268 (.mv (.t 267)),.G 269 (.mv (.t 34)) 10 true,.V 270 (.pick (.t 268) (.t 269) (.c (.bool false))),.V 271 (.mv (.t 270)),.G 272 (.mv (.t 36)) 13 true,.G 273 (.bin .eql (.t 272) (.c (.int .i64 0))) 13 true,.V 274 (.pick (.t 271) (.t 273) (.c (.bool false))),.V 275 (.mv (.t 274)),.G 276 (.mv (.t 35)) 17 true,.G 277 (.bin .eql (.t 276) (.c (.int .i64 0))) 17 true,.V 278 (.pick (.t 275) (.t 277) (.c (.bool false))),.V 4 (.asg (.t 278))] [4] []) .ret))))
def laws_FnPlates_k8 : C :=
 .seq (.seq (.reg false [.V 26 (.asg (.c (.int .i64 0)))] [20,21,23,24,26] [20,21]) (.block 0 (.loop laws_FnPlates_k6))) laws_FnPlates_k7
def laws_FnPlates_k9 : C :=
 .seq (.reg false [.V 121 (.mv (.t 1)),.V 122 (.call (.c (.fn 359 [])) [.t 121]),.W 20 (.asg (.t 122))] [20] [20]) (.seq (.reg false [.V 124 (.mv (.t 20)),.V 125 (.call (.c (.fn 358 [])) [.t 124]),.V 123 (.mv (.t 125)),.V 126 (.ext (.t 123) 0),.V 127 (.ext (.t 123) 1),.W 21 (.asg (.t 126)),.V 22 (.asg (.t 127))] [20,21,22] [20,21]) (.seq (.reg false [.V 129 (.mv (.t 20)),.V 130 (.call (.c (.fn 357 [])) [.t 129]),.V 128 (.mv (.t 130)),.V 131 (.ext (.t 128) 0),.V 132 (.ext (.t 128) 1),.V 133 (.ext (.t 128) 2),.V 23 (.asg (.t 131)),.V 24 (.asg (.t 132)),.V 25 (.asg (.t 133))] [20,21,22,23,24,25] [20,21]) (.seq (.seq (.reg false [.V 134 (.mv (.t 22)),.V 135 (.mv (.t 25)),.V 136 (.bin .neq (.t 134) (.t 135))] [20,21,22,23,24,136] [20,21]) (.cond (.t 136) (.seq (.reg false [.V 4 (.asg (.c (.bool false)))] [4] []) .ret) .skip)) (.seq (.seq (.reg false [.V 137 (.mv (.t 22)),.V 138 (.bin .neq (.t 137) (.c (.int .i64 0)))] [20,21,23,24,138] [20,21]) (.cond (.t 138) (.seq (.reg false [.V 139 (.mv (.t 21)),.V 140 (.len (.t 139)),.V 141 (.bin .eql (.t 140) (.c (.int .i64 0))),.V 142 (.mv (.t 141)),.G 143 (.mv (.t 23)) 3 true,.G 144 (.bin .eql (.t 143) (.c (.int .i64 0))) 3 true,.V 145 (.pick (.t 142) (.t 144) (.c (.bool false))),.V 146 (.mv (.t 145)),.G 147 (.mv (.t 24)) 7 true,.G 148 (.bin .eql (.t 147) (.c (.int .i64 0))) 7 true,.V 149 (.pick (.t 146) (.t 148) (.c (.bool false))),.V 4 (.asg (.t 149))] [4] []) .ret) .skip)) (.seq (.seq (.reg false [.V 150 (.mv (.t 21)),.V 151 (.len (.t 150)),.V 152 (.mv (.t 20)),.V 153 (.len (.t 152)),.V 154 (.bin .neq (.t 151) (.t 153)),.V 155 (.mv (.t 154)),.G 156 (.mv (.t 23)) 5 false,.G 157 (.bin .lss (.t 156) (.c (.int .i64 0))) 5 false,.V 158 (.pick (.t 155) (.c (.bool true)) (.t 157)),.V 159 (.mv (.t 158)),.G 160 (.mv (.t 23)) 9 false,.G 161 (.mv (.t 20)) 9 false,.G 162 (.len (.t 161)) 9 false,.G 163 (.bin .geq (.t 160) (.t 162)) 9 false,.V 164 (.pick (.t 159) (.c (.bool true)) (.t 163)),.V 165 (.mv (.t 164)),.G 166 (.mv (.t 21)) 15 false,.G 167 (.mv (.t 23)) 15 false,.G 168 (.ia 1 (.t 166) (.t 167)) 15 false,.G 169 (.ld none (.t 168)) 15 false,.G 170 (.mv (.t 24)) 15 false,.G 171 (.bin .neq (.t 169) (.t 170)) 15 false,.V 172 (.pick (.t 165) (.c (.bool true)) (.t 171))] [20,21,23,24,172] [20,21]) (.cond (.t 172) (.seq (.reg false [.V 4 (.asg (.c (.bool false)))] [4] []) .ret) .skip)) (.norm [20,21,23,24] [20,21] laws_FnPlates_k8))))))
def laws_FnPlates_k10 : C :=
 .norm [1] [] laws_FnPlates_k9
def laws_FnPlates_k11 : C :=
 .seq (.reg false [.V 44 (.mv (.t 0)),.V 45 (.call (.c (.fn 365 [])) [.t 44]),.V 43 (.mv (.t 45)),.V 46 (.ext (.t 43) 0),.V 47 (.ext (.t 43) 1),.V 48 (.ext (.t 43) 2),.V 49 (.ext (.t 43) 3),.V 50 (.ext (.t 43) 4),.W 5 (.asg (.t 46)),.V 6 (.asg (.t 47)),.V 7 (.asg (.t 48)),.V 8 (.asg (.t 49)),.V 9 (.asg (.t 50))] [1,5,6,7,8,9] [5]) (.seq (.reg false [.V 52 (.mv (.t 5)),.V 53 (.mv (.t 6)),.V 54 (.mv (.t 7)),.V 55 (.mv (.t 8)),.V 56 (.mv (.t 9)),.V 57 (.call (.c (.fn 364 [])) [.t 52,.t 53,.t 54,.t 55,.t 56]),.V 51 (.mv (.t 57)),.V 58 (.ext (.t 51) 0),.V 59 (.ext (.t 51) 1),.V 10 (.asg (.t 58)),.V 11 (.asg (.t 59))] [1,5,6,7,8,9,10,11] [5]) (.seq (.seq (.reg false [.V 60 (.mv (.t 11)),.V 61 (.bin .eql (.t 60) (.c (.int .i64 0)))] [1,5,6,7,8,9,10,61] [5]) (.cond (.t 61) (.seq (.reg false [.V 63 (.mv (.t 5)),.V 64 (.mv (.t 10)),.V 65 (.mv (.t 9)),.W 66 (.call (.c (.fn 363 [])) [.t 63,.t 64,.t 65]),.V 62 (.mv (.t 66)),.V 67 (.ext (.t 62) 0),.V 68 (.ext (.t 62) 1),.W 12 (.asg (.t 67)),.V 13 (.asg (.t 68))] [1,5,6,7,8,9,10,12,13] [5,12]) (.seq (.reg false [.V 70 (.mv (.t 12)),.V 71 (.mv (.t 6)),.V 72 (.mv (.t 7)),.V 73 (.call (.c (.fn 362 [])) [.t 70,.t 71,.t 72]),.V 69 (.mv (.t 73)),.V 74 (.ext (.t 69) 0),.V 75 (.ext (.t 69) 1),.V 14 (.asg (.t 74)),.V 15 (.asg (.t 75))] [1,5,6,7,8,9,10,13,14,15] [5]) (.seq (.seq (.reg false [.V 76 (.mv (.t 13)),.V 77 (.bin .neq (.t 76) (.c (.int .i64 0))),.V 78 (.mv (.t 77)),.G 79 (.mv (.t 15)) 2 false,.G 80 (.bin .neq (.t 79) (.c (.int .i64 0))) 2 false,.V 81 (.pick (.t 78) (.c (.bool true)) (.t 80)),.V 82 (.mv (.t 81)),.G 83 (.mv (.t 14)) 6 false,.G 84 (.mv (.t 8)) 6 false,.G 85 (.bin .gtr (.t 83) (.t 84)) 6 false,.V 86 (.pick (.t 82) (.c (.bool true)) (.t 85)),.V 87 (.mv (.t 86)),.G 88 (.mv (.t 10)) 11 false,.G 89 (.bin .lss (.t 88) (.c (.int .i64 0))) 11 false,.V 90 (.pick (.t 87) (.c (.bool true)) (.t 89))] [1,5,6,7,8,9,10,90] [5]) (.cond (.t 90) (.seq (.reg false [.V 4 (.asg (.c (.bool false)))] [4] []) .ret) .skip)) (.norm [1,5,6,7,8,9,10] [5] laws_FnPlates_k0)))) (.seq (.reg false [.V 119 (.mv (.t 10)),.V 120 (.bin .neq (.t 119) (.c (.int .i64 0)))] [1,120] []) (.cond (.t 120) (.seq (.reg false [.V 4 (.asg (.c (.bool false)))] [4] []) .ret) .skip)))) laws_FnPlates_k10))
def laws_FnPlates_ir : Fn := { np := 2,io := [],res := [.t 4],own := [false],body :=
 (.seq (.reg false [.V 4 (.asg (.c (.bool false)))] [0,1] []) (.seq (.seq (.reg false [.V 37 (.mv (.t 0)),.V 38 (.call (.c (.fn 76 [])) [.t 37]),.V 39 (.mv (.t 38)),.G 40 (.mv (.t 1)) 2 false,.G 41 (.call (.c (.fn 76 [])) [.t 40]) 2 false,.V 42 (.pick (.t 39) (.c (.bool true)) (.t 41))] [0,1,42] []) (.cond (.t 42) (.seq (.reg false [.V 4 (.asg (.c (.bool true)))] [4] []) .ret) .skip)) (.norm [0,1] [] laws_FnPlates_k11))) }
noncomputable def laws_FnPlates_D : List (Nat × Callee) := [(76,laws_b10Long_c),(352,spec_PlateGap_c),(353,impl_PlateText_c),(354,impl_ReadPlate_c),(355,impl_PlateGap_c),(356,impl_ScrapeRow_c),(357,impl_WeakestRow_c),(358,impl_RowStiff_c),(359,spec_DrawWeakestRow_c),(360,spec_PlateMass_c),(361,spec_ThinAll_c),(362,impl_PlateMass_c),(363,impl_ThinAll_c),(364,impl_ThinTo_c),(365,spec_DrawThinTo_c)]
def laws_FnPlates_H : List (Nat × ET) := [(5,(.one (.sl (.one (.int .i64))))),(12,(.one (.sl (.one (.int .i64))))),(16,(.one (.sl (.one (.int .i64))))),(20,(.one (.sl (.one (.int .i64))))),(21,(.one (.int .i64))),(29,(.one (.sl (.one (.int .i64))))),(33,(.one (.sl (.one (.int .i64))))),(37,(.one (.int .u8))),(40,(.one (.int .u8))),(44,(.one (.int .u8))),(46,(.one (.sl (.one (.int .i64))))),(52,(.one (.sl (.one (.int .i64))))),(63,(.one (.sl (.one (.int .i64))))),(67,(.one (.sl (.one (.int .i64))))),(70,(.one (.sl (.one (.int .i64))))),(94,(.one (.sl (.one (.int .i64))))),(99,(.one (.sl (.one (.int .i64))))),(102,(.one (.sl (.one (.int .i64))))),(121,(.one (.int .u8))),(122,(.one (.sl (.one (.int .i64))))),(124,(.one (.sl (.one (.int .i64))))),(126,(.one (.int .i64))),(129,(.one (.sl (.one (.int .i64))))),(139,(.one (.int .i64))),(150,(.one (.int .i64))),(152,(.one (.sl (.one (.int .i64))))),(161,(.one (.sl (.one (.int .i64))))),(166,(.one (.int .i64))),(174,(.one (.sl (.one (.int .i64))))),(180,(.one (.sl (.one (.int .i64))))),(183,(.one (.int .i64))),(189,(.one (.sl (.one (.int .i64))))),(192,(.one (.int .i64))),(196,(.one (.sl (.one (.int .i64))))),(199,(.one (.int .i64))),(204,(.one (.sl (.one (.int .i64))))),(207,(.one (.int .i64))),(213,(.one (.int .i64))),(235,(.one (.sl (.one (.int .i64))))),(238,(.one (.sl (.one (.int .i64))))),(241,(.one (.sl (.one (.int .i64))))),(242,(.one (.sl (.one (.int .i64))))),(247,(.one (.sl (.one (.int .i64))))),(250,(.one (.sl (.one (.int .i64))))),(253,(.one (.sl (.one (.int .i64))))),(254,(.one (.sl (.one (.int .i64)))))]
noncomputable def laws_FnPlates_c : Callee := mkCallee laws_FnPlates_D laws_FnPlates_H laws_FnPlates_ir [.d (.one (.sl (.one (.int .u8)))),.d (.one (.sl (.one (.int .u8))))] [.d (.one .bool)] []
noncomputable def laws_FnPlates (a0 : List Int) (a1 : List Int) : Option (Bool) := laws_FnPlates_c.f (a0,a1,())
noncomputable def laws_FnPlates_p0  (v0 : List Int) (v1 : List Int) : Option (Bool) :=
 goL laws_FnPlates_D laws_FnPlates_H (vleave laws_FnPlates_ir [.d (.one (.sl (.one (.int .u8)))),.d (.one (.sl (.one (.int .u8))))] [.d (.one .bool)] [] []) [.c laws_FnPlates_k11]
  ⟨[(0,.sl (.one (.int .u8)) v0),(1,.sl (.one (.int .u8)) v1)],[]⟩
noncomputable def laws_FnPlates_p1  (v1 : List Int) (v5 : List (List Int)) (v6 : Int) (v7 : Int) (v8 : Int) (v9 : Int) (v10 : Int) : Option (Bool) :=
 goL laws_FnPlates_D laws_FnPlates_H (vleave laws_FnPlates_ir [.d (.one (.sl (.one (.int .u8)))),.d (.one (.sl (.one (.int .u8))))] [.d (.one .bool)] [] []) [.c laws_FnPlates_k0,.c laws_FnPlates_k10]
  ⟨[(1,.sl (.one (.int .u8)) v1),(5,.sl (.one (.sl (.one (.int .i64)))) v5),(6,.int .i64 v6),(7,.int .i64 v7),(8,.int .i64 v8),(9,.int .i64 v9),(10,.int .i64 v10)],[(5,none)]⟩
noncomputable def laws_FnPlates_p2  (v1 : List Int) : Option (Bool) :=
 goL laws_FnPlates_D laws_FnPlates_H (vleave laws_FnPlates_ir [.d (.one (.sl (.one (.int .u8)))),.d (.one (.sl (.one (.int .u8))))] [.d (.one .bool)] [] []) [.c laws_FnPlates_k9]
  ⟨[(1,.sl (.one (.int .u8)) v1)],[]⟩
noncomputable def laws_FnPlates_p3  (v20 : List (List Int)) (v23 : Int) (v24 : Int) (r21 : List Int) : Option (Bool) :=
 goL laws_FnPlates_D laws_FnPlates_H (vleave laws_FnPlates_ir [.d (.one (.sl (.one (.int .u8)))),.d (.one (.sl (.one (.int .u8))))] [.d (.one .bool)] [] []) [.c laws_FnPlates_k8]
  ⟨[(20,.sl (.one (.sl (.one (.int .i64)))) v20),(21,.view 21 0 r21.length),(23,.int .i64 v23),(24,.int .i64 v24)],[(20,none),(21,some (.sl (.one (.int .i64)) r21))]⟩
noncomputable def laws_FnPlates_p4  (v20 : List (List Int)) (v23 : Int) (v24 : Int) (v26 : Int) (r21 : List Int) : Option (Bool) :=
 goL laws_FnPlates_D laws_FnPlates_H (vleave laws_FnPlates_ir [.d (.one (.sl (.one (.int .u8)))),.d (.one (.sl (.one (.int .u8))))] [.d (.one .bool)] [] []) [.c laws_FnPlates_k5,.l laws_FnPlates_k6,.e 0,.c laws_FnPlates_k7]
  ⟨[(20,.sl (.one (.sl (.one (.int .i64)))) v20),(21,.view 21 0 r21.length),(23,.int .i64 v23),(24,.int .i64 v24),(26,.int .i64 v26)],[(20,none),(21,some (.sl (.one (.int .i64)) r21))]⟩
noncomputable def laws_FnPlates_p5  (v20 : List (List Int)) (v23 : Int) (v24 : Int) (v26 : Int) (v27 : Int) (v28 : Int) (r21 : List Int) : Option (Bool) :=
 goL laws_FnPlates_D laws_FnPlates_H (vleave laws_FnPlates_ir [.d (.one (.sl (.one (.int .u8)))),.d (.one (.sl (.one (.int .u8))))] [.d (.one .bool)] [] []) [.c laws_FnPlates_k1,.l laws_FnPlates_k2,.e 2,.c laws_FnPlates_k3,.e 1,.c laws_FnPlates_k4,.l laws_FnPlates_k6,.e 0,.c laws_FnPlates_k7]
  ⟨[(20,.sl (.one (.sl (.one (.int .i64)))) v20),(21,.view 21 0 r21.length),(23,.int .i64 v23),(24,.int .i64 v24),(26,.int .i64 v26),(27,.int .i64 v27),(28,.int .i64 v28)],[(20,none),(21,some (.sl (.one (.int .i64)) r21))]⟩
theorem laws_FnPlates_eq (a0 : List Int) (a1 : List Int) : laws_FnPlates a0 a1 =
 (laws_b10Long a0).bind fun x1 =>
  if x1 then
   some true
  else
   (laws_b10Long a1).bind fun x2 =>
    if x2 then
     some true
    else
     laws_FnPlates_p0 a0 a1 :=
 (mk_f _ _ _ _ _ _ _ 4000).trans (by kernel_rfl)
theorem laws_FnPlates_p0_eq  (v0 : List Int) (v1 : List Int) : laws_FnPlates_p0 v0 v1 =
 (spec_DrawThinTo v0).bind fun x1 =>
  (impl_ThinTo x1.1 x1.2.1 x1.2.2.1 x1.2.2.2.1 x1.2.2.2.2).bind fun x2 =>
   if (x2.2 == 0) then
    (impl_ThinAll x1.1 x2.1 x1.2.2.2.2).bind fun x3 =>
     (impl_PlateMass x3.1 x1.2.1 x1.2.2.1).bind fun x4 =>
      if (x3.2 != 0) then
       some false
      else
       if (x4.2 != 0) then
        some false
       else
        if decide (x4.1 > x1.2.2.2.1) then
         some false
        else
         if decide (x2.1 < 0) then
          some false
         else
          laws_FnPlates_p1 v1 x1.1 x1.2.1 x1.2.2.1 x1.2.2.2.1 x1.2.2.2.2 x2.1
   else
    if (x2.1 != 0) then
     some false
    else
     laws_FnPlates_p2 v1 :=
 (goL_dn _ _ _ 4000 _ _).trans (by kernel_rfl)
theorem laws_FnPlates_p1_eq  (v1 : List Int) (v5 : List (List Int)) (v6 : Int) (v7 : Int) (v8 : Int) (v9 : Int) (v10 : Int) : laws_FnPlates_p1 v1 v5 v6 v7 v8 v9 v10 =
 if decide (v10 > 0) then
  (spec_ThinAll v5 (IntKind.i64.wrap (v10 - 1)) v9).bind fun x1 =>
   (spec_PlateMass x1.1 v6 v7).bind fun x2 =>
    if (x1.2 != 0) then
     some false
    else
     if (x2.2 != 0) then
      some false
     else
      if decide (x2.1 ≤ v8) then
       some false
      else
       laws_FnPlates_p2 v1
 else
  laws_FnPlates_p2 v1 :=
 (goL_dn _ _ _ 4000 _ _).trans (by kernel_rfl)
theorem laws_FnPlates_p2_eq  (v1 : List Int) : laws_FnPlates_p2 v1 =
 (spec_DrawWeakestRow v1).bind fun x1 =>
  (impl_RowStiff x1).bind fun x2 =>
   (impl_WeakestRow x1).bind fun x3 =>
    if (x2.2 != x3.2.2) then
     some false
    else
     if (x2.2 != 0) then
      if ((x2.1.length : Int) == 0) then
       if (x3.1 == 0) then
        some (x3.2.1 == 0)
       else
        some false
      else
       some false
     else
      if ((x2.1.length : Int) != (x1.length : Int)) then
       some false
      else
       if decide (x3.1 < 0) then
        some false
       else
        if decide (x3.1 ≥ (x1.length : Int)) then
         some false
        else
         if decide (0 ≤ x3.1) && decide (x3.1 < (x2.1.length : Int)) then
          (x2.1[x3.1.toNat]?).bind fun x4 =>
           if (x4 != x3.2.1) then
            some false
           else
            laws_FnPlates_p3 x1 x3.1 x3.2.1 x2.1
         else
          none :=
 (goL_dn _ _ _ 4000 _ _).trans (by kernel_rfl)
theorem laws_FnPlates_p3_eq  (v20 : List (List Int)) (v23 : Int) (v24 : Int) (r21 : List Int) : laws_FnPlates_p3 v20 v23 v24 r21 =
 laws_FnPlates_p4 v20 v23 v24 0 r21 :=
 (goL_dn _ _ _ 4000 _ _).trans (by kernel_rfl)
theorem laws_FnPlates_p4_eq  (v20 : List (List Int)) (v23 : Int) (v24 : Int) (v26 : Int) (r21 : List Int) : laws_FnPlates_p4 v20 v23 v24 v26 r21 =
 if decide (v26 < (v20.length : Int)) then
  laws_FnPlates_p5 v20 v23 v24 v26 0 0 r21
 else
  (impl_ScrapeRow v20 v23 2 1).bind fun x1 =>
   (impl_PlateGap v20 x1.1).bind fun x2 =>
    (impl_PlateText v20).bind fun x3 =>
     (impl_ReadPlate x3).bind fun x4 =>
      (spec_PlateGap v20 x4.1).bind fun x5 =>
       if (x1.2 == 0) then
        if (x2.2 == 0) then
         if decide (x2.1 ≤ 2) then
          if x4.2 then
           if (x5.2 == 0) then
            some (x5.1 == 0)
           else
            some false
          else
           some false
         else
          some false
        else
         some false
       else
        some false :=
 (goL_dn _ _ _ 4000 _ _).trans (by kernel_rfl)
theorem laws_FnPlates_p5_eq  (v20 : List (List Int)) (v23 : Int) (v24 : Int) (v26 : Int) (v27 : Int) (v28 : Int) (r21 : List Int) : laws_FnPlates_p5 v20 v23 v24 v26 v27 v28 r21 =
 if decide (0 ≤ v26) then
  (v20[v26.toNat]?).bind fun x1 =>
   if decide (v28 < (x1.length : Int)) then
    if decide (0 ≤ v26) then
     (v20[v26.toNat]?).bind fun x2 =>
      if decide (0 ≤ v28) then
       (x2[v28.toNat]?).bind fun x3 =>
        if decide (0 ≤ v26) then
         (v20[v26.toNat]?).bind fun x4 =>
          if decide (0 ≤ v28) then
           (x4[v28.toNat]?).bind fun x5 =>
            if decide (0 ≤ v26) then
             (v20[v26.toNat]?).bind fun x6 =>
              if decide (0 ≤ v28) then
               (x6[v28.toNat]?).bind fun x7 =>
                laws_FnPlates_p5 v20 v23 v24 v26 (IntKind.i64.wrap (v27 + (IntKind.i64.wrap ((IntKind.i64.wrap (x3 * x5)) * x7)))) (IntKind.i64.wrap (v28 + 1)) r21
              else
               none
            else
             none
          else
           none
        else
         none
      else
       none
    else
     none
   else
    if decide (0 ≤ v26) && decide (v26 < (r21.length : Int)) then
     (r21[v26.toNat]?).bind fun x8 =>
      if (x8 != v27) then
       some false
      else
       if decide (v27 < v24) then
        some false
       else
        if decide (v26 < v23) then
         if (v27 == v24) then
          some false
         else
          laws_FnPlates_p4 v20 v23 v24 (IntKind.i64.wrap (v26 + 1)) r21
        else
         laws_FnPlates_p4 v20 v23 v24 (IntKind.i64.wrap (v26 + 1)) r21
    else
     none
 else
  none :=
 (goL_dn _ _ _ 4000 _ _).trans (by kernel_rfl)
end Go.Ab.P
