/- Functions of the program: abstract forms, and what their runs give. Conditions: none. -/
import Derived.Test.YtknkhfhabagfeaaGreatDoorLD
set_option maxRecDepth 100000
set_option linter.unusedVariables false
namespace Go.Ab.P
open Go.Ab
@[reducible] def T_Paper : ET := .agg (.cons .str (.cons .str (.cons (.int .i64) (.cons (.int .i64) (.cons (.int .i64) .nil)))))
@[reducible] def T_l00Src : ET := .agg (.cons (.sl (.one (.int .u8))) (.cons (.int .i64) (.cons (.int .u64) .nil)))
@[reducible] def T_trustingO : ET := .agg (.cons (.sl T_Paper) (.cons (.int .i64) (.cons (.own (.one (.int .i64))) (.cons (.int .i64) (.cons (.own (.one (.int .i64))) (.cons (.int .i64) .nil))))))
def laws_b10Long_ir : Fn := { np := 1,io := [],res := [.t 2],own := [false],body :=
 (.seq (.reg false [.V 2 (.asg (.c (.bool false)))] [0] []) (.seq (.reg false [.V 3 (.mv (.t 0)),.V 4 (.len (.t 3)),.V 5 (.bin .gtr (.t 4) (.c (.int .i64 1048576))),.V 2 (.asg (.t 5))] [2] []) .ret)) }
noncomputable def laws_b10Long_D : List (Nat × Callee) := []
def laws_b10Long_H : List (Nat × ET) := [(3,(.one (.int .u8)))]
noncomputable def laws_b10Long_c : Callee := mkCallee laws_b10Long_D laws_b10Long_H laws_b10Long_ir [.d (.one (.sl (.one (.int .u8))))] [.d (.one .bool)] []
noncomputable def laws_b10Long (a0 : List Int) : Option (Bool) := laws_b10Long_c.f (a0,())
theorem laws_b10Long_eq (a0 : List Int) : laws_b10Long a0 =
 some (decide ((a0.length : Int) > 1048576)) :=
 (mk_f _ _ _ _ _ _ _ 4000).trans (by kernel_rfl)
def spec_l00From_ir : Fn := { np := 1,io := [],res := [.t 2],own := [true],body :=
 (.seq (.reg false [.V 2 (.asg (.c (.cst (.pointer none))))] [0] []) (.seq (.reg false [.V 3 (.mv (.t 0)),.V 4 (.build [.nils 1,.int .i64 0,.int .u64 0] [(0,1,.t 3)]),.W 5 (.box 3 (.t 4)),.V 2 (.asg (.t 5))] [2] [5,6000]) .ret)) }
noncomputable def spec_l00From_D : List (Nat × Callee) := []
def spec_l00From_H : List (Nat × ET) := [(3,(.one (.int .u8)))]
noncomputable def spec_l00From_c : Callee := mkCallee spec_l00From_D spec_l00From_H spec_l00From_ir [.d (.one (.sl (.one (.int .u8))))] [.box T_l00Src] []
noncomputable def spec_l00From (a0 : List Int) : Option (T_l00Src.ty) := spec_l00From_c.f (a0,())
theorem spec_l00From_eq (a0 : List Int) : spec_l00From a0 =
 some (a0,0,0,()) :=
 (mk_f _ _ _ _ _ _ _ 4000).trans (by kernel_rfl)
def spec_l00Src_next_k0 : C :=
 .seq (.reg false [.V 25 (.mv (.t 0)),.V 26 (.nilck (.t 25)),.V 27 (.fa 1 (.t 26)),.V 28 (.ld none (.t 27)),.V 29 (.bin .add (.t 28) (.c (.int .i64 1))),.V 30 (.nilck (.t 25)),.V 31 (.fa 1 (.t 30)),⟨none,true,.sto 1 (.t 31) (.t 29),none,false,[]⟩] [0,3] [0,1000]) (.seq (.reg false [.V 32 (.mv (.t 0)),.V 33 (.mv (.t 0)),.V 34 (.nilck (.t 33)),.V 35 (.fa 2 (.t 34)),.V 36 (.ld none (.t 35)),.V 37 (.bin .mul (.t 36) (.c (.int .u64 6364136223846793005))),.V 38 (.mv (.t 3)),.V 39 (.conv (.int .u64) (.t 38)),.V 40 (.bin .add (.t 37) (.t 39)),.V 41 (.bin .add (.t 40) (.c (.int .u64 1442695040888963407))),.V 42 (.nilck (.t 32)),.V 43 (.fa 2 (.t 42)),⟨none,true,.sto 1 (.t 43) (.t 41),none,false,[]⟩] [0,3] [0,1000]) (.seq (.seq (.reg true [.V 44 (.mv (.t 0)),.V 45 (.nilck (.t 44)),.V 46 (.fa 1 (.t 45)),.V 47 (.ld none (.t 46)),.V 48 (.mv (.t 0)),.V 49 (.nilck (.t 48)),.V 50 (.fa 0 (.t 49)),.V 51 (.ld none (.t 50)),.V 52 (.len (.t 51)),.V 53 (.bin .leq (.t 47) (.t 52))] [0,3,53] [0,1000]) (.cond (.t 53) (.seq (.reg false [.V 54 (.mv (.t 3)),.V 2 (.asg (.t 54))] [0,2] [0,1000]) .ret) .skip)) (.seq (.reg false [.V 55 (.mv (.t 0)),.V 56 (.nilck (.t 55)),.V 57 (.fa 2 (.t 56)),.V 58 (.ld none (.t 57)),.V 59 (.bin .shr (.t 58) (.c (.int .u64 40))),.V 60 (.bin .and (.t 59) (.c (.int .u64 255))),.V 61 (.conv (.int .i64) (.t 60)),.V 2 (.asg (.t 61))] [0,2] [0,1000]) .ret)))
def spec_l00Src_next_ir : Fn := { np := 1,io := [true],res := [.t 2],own := [false],body :=
 (.seq (.reg false [.V 2 (.asg (.c (.int .i64 0)))] [0] [0,1000]) (.seq (.reg false [.V 3 (.asg (.c (.int .i64 0)))] [0,3] [0,1000]) (.seq (.seq (.reg true [.V 4 (.mv (.t 0)),.V 5 (.nilck (.t 4)),.V 6 (.fa 1 (.t 5)),.V 7 (.ld none (.t 6)),.V 8 (.mv (.t 0)),.V 9 (.nilck (.t 8)),.V 10 (.fa 0 (.t 9)),.V 11 (.ld none (.t 10)),.V 12 (.len (.t 11)),.V 13 (.bin .lss (.t 7) (.t 12))] [0,3,13] [0,1000]) (.cond (.t 13) (.reg true [.V 14 (.mv (.t 0)),.V 15 (.nilck (.t 14)),.V 16 (.fa 0 (.t 15)),.V 17 (.ld none (.t 16)),.V 18 (.mv (.t 0)),.V 19 (.nilck (.t 18)),.V 20 (.fa 1 (.t 19)),.V 21 (.ld none (.t 20)),.V 22 (.ia 1 (.t 17) (.t 21)),.V 23 (.ld none (.t 22)),.V 24 (.conv (.int .i64) (.t 23)),.V 3 (.asg (.t 24))] [0,3] [0,1000]) .skip)) (.norm [0,3] [0,1000] spec_l00Src_next_k0)))) }
noncomputable def spec_l00Src_next_D : List (Nat × Callee) := []
def spec_l00Src_next_H : List (Nat × ET) := [(11,(.one (.int .u8))),(17,(.one (.int .u8))),(51,(.one (.int .u8)))]
noncomputable def spec_l00Src_next_c : Callee := mkCallee spec_l00Src_next_D spec_l00Src_next_H spec_l00Src_next_ir [.box T_l00Src] [.d (.one (.int .i64))] [.box T_l00Src]
noncomputable def spec_l00Src_next (a0 : T_l00Src.ty) : Option (Int × T_l00Src.ty) := spec_l00Src_next_c.f (a0,())
noncomputable def spec_l00Src_next_p0  (v3 : Int) (r0_0 : List Int) (r0_1 : Int) (r0_2 : Int) : Option (Int × T_l00Src.ty) :=
 goL spec_l00Src_next_D spec_l00Src_next_H (vleave spec_l00Src_next_ir [.box T_l00Src] [.d (.one (.int .i64))] [.box T_l00Src] []) [.c spec_l00Src_next_k0]
  ⟨[(0,.loc 0 0 0),(3,.int .i64 v3)],[(0,some (.var 3 (.agg [.sl (.one (.int .u8)) r0_0,.int .i64 r0_1,.int .u64 r0_2]))),(1000,none)]⟩
theorem spec_l00Src_next_eq (a0 : T_l00Src.ty) : spec_l00Src_next a0 =
 if decide (a0.2.1 < (a0.1.length : Int)) then
  if decide (0 ≤ a0.2.1) then
   (a0.1[a0.2.1.toNat]?).bind fun x1 =>
    spec_l00Src_next_p0 (IntKind.i64.wrap x1) a0.1 a0.2.1 a0.2.2.1
  else
   none
 else
  spec_l00Src_next_p0 0 a0.1 a0.2.1 a0.2.2.1 :=
 (mk_f _ _ _ _ _ _ _ 4000).trans (by kernel_rfl)
theorem spec_l00Src_next_p0_eq  (v3 : Int) (r0_0 : List Int) (r0_1 : Int) (r0_2 : Int) : spec_l00Src_next_p0 v3 r0_0 r0_1 r0_2 =
 if decide (IntKind.i64.wrap (r0_1 + 1) ≤ (r0_0.length : Int)) then
  some (v3,(r0_0,IntKind.i64.wrap (r0_1 + 1),IntKind.u64.wrap ((IntKind.u64.wrap ((IntKind.u64.wrap (r0_2 * 6364136223846793005)) + (IntKind.u64.wrap v3))) + 1442695040888963407),()))
 else
  some (IntKind.i64.wrap (IntKind.u64.wrap ((BitVec.ofInt IntKind.u64.bits (Int.fdiv (IntKind.u64.wrap ((IntKind.u64.wrap ((IntKind.u64.wrap (r0_2 * 6364136223846793005)) + (IntKind.u64.wrap v3))) + 1442695040888963407)) (2 ^ (min (40 : Int).toNat IntKind.u64.bits))) &&& BitVec.ofInt IntKind.u64.bits 255).toNat : Int)),(r0_0,IntKind.i64.wrap (r0_1 + 1),IntKind.u64.wrap ((IntKind.u64.wrap ((IntKind.u64.wrap (r0_2 * 6364136223846793005)) + (IntKind.u64.wrap v3))) + 1442695040888963407),())) :=
 (goL_dn _ _ _ 4000 _ _).trans (by kernel_rfl)
def spec_l00Src_pick_ir : Fn := { np := 2,io := [true,false],res := [.t 4],own := [false],body :=
 (.seq (.reg false [.V 4 (.asg (.c (.int .i64 0)))] [0,1] [0,1000]) (.seq (.seq (.reg false [.V 6 (.mv (.t 1)),.V 7 (.bin .leq (.t 6) (.c (.int .i64 1)))] [0,1,7] [0,1000]) (.cond (.t 7) (.seq (.reg false [.V 4 (.asg (.c (.int .i64 0)))] [0,4] [0,1000]) .ret) .skip)) (.seq (.reg false [.V 8 (.mv (.t 0)),.W 9 (.call (.c (.fn 847 [])) [.t 8]),.V 5 (.asg (.t 9))] [0,1,5] [0,1000]) (.seq (.seq (.reg false [.V 10 (.mv (.t 1)),.V 11 (.bin .gtr (.t 10) (.c (.int .i64 200)))] [0,1,5,11] [0,1000]) (.cond (.t 11) (.reg false [.V 12 (.mv (.t 5)),.V 13 (.bin .mul (.t 12) (.c (.int .i64 256))),.V 14 (.mv (.t 0)),.W 15 (.call (.c (.fn 847 [])) [.t 14]),.V 16 (.bin .add (.t 13) (.t 15)),.V 5 (.asg (.t 16))] [0,1,5] [0,1000]) .skip)) (.seq (.reg false [.V 17 (.mv (.t 5)),.V 18 (.mv (.t 1)),.V 19 (.bin .rem (.t 17) (.t 18)),.V 4 (.asg (.t 19))] [0,4] [0,1000]) .ret))))) }
noncomputable def spec_l00Src_pick_D : List (Nat × Callee) := [(847,spec_l00Src_next_c)]
def spec_l00Src_pick_H : List (Nat × ET) := []
noncomputable def spec_l00Src_pick_c : Callee := mkCallee spec_l00Src_pick_D spec_l00Src_pick_H spec_l00Src_pick_ir [.box T_l00Src,.d (.one (.int .i64))] [.d (.one (.int .i64))] [.box T_l00Src]
noncomputable def spec_l00Src_pick (a0 : T_l00Src.ty) (a1 : Int) : Option (Int × T_l00Src.ty) := spec_l00Src_pick_c.f (a0,a1,())
theorem spec_l00Src_pick_eq (a0 : T_l00Src.ty) (a1 : Int) : spec_l00Src_pick a0 a1 =
 if decide (a1 ≤ 1) then
  some (0,a0)
 else
  (spec_l00Src_next a0).bind fun x1 =>
   if decide (a1 > 200) then
    (spec_l00Src_next (x1.2.1,x1.2.2.1,x1.2.2.2.1,())).bind fun x2 =>
     if decide (a1 = 0) then
      none
     else
      some ((IntKind.i64.wrap ((IntKind.i64.wrap (x1.1 * 256)) + x2.1)).tmod a1,(x2.2.1,x2.2.2.1,x2.2.2.2.1,()))
   else
    if decide (a1 = 0) then
     none
    else
     some (x1.1.tmod a1,(x1.2.1,x1.2.2.1,x1.2.2.2.1,())) :=
 (mk_f _ _ _ _ _ _ _ 4000).trans (by kernel_rfl)
def spec_l00Src_one_ir : Fn := { np := 2,io := [true,false],res := [.t 4],own := [false],body :=
 (.seq (.reg false [.V 4 (.asg (.c (.bool false)))] [0,1] [0,1000]) (.seq (.reg false [.V 5 (.mv (.t 0)),.V 6 (.mv (.t 1)),.W 7 (.call (.c (.fn 463 [])) [.t 5,.t 6]),.V 8 (.bin .eql (.t 7) (.c (.int .i64 0))),.V 4 (.asg (.t 8))] [0,4] [0,1000]) .ret)) }
noncomputable def spec_l00Src_one_D : List (Nat × Callee) := [(463,spec_l00Src_pick_c)]
def spec_l00Src_one_H : List (Nat × ET) := []
noncomputable def spec_l00Src_one_c : Callee := mkCallee spec_l00Src_one_D spec_l00Src_one_H spec_l00Src_one_ir [.box T_l00Src,.d (.one (.int .i64))] [.d (.one .bool)] [.box T_l00Src]
noncomputable def spec_l00Src_one (a0 : T_l00Src.ty) (a1 : Int) : Option (Bool × T_l00Src.ty) := spec_l00Src_one_c.f (a0,a1,())
theorem spec_l00Src_one_eq (a0 : T_l00Src.ty) (a1 : Int) : spec_l00Src_one a0 a1 =
 (spec_l00Src_pick a0 a1).bind fun x1 =>
  some ((x1.1 == 0),(x1.2.1,x1.2.2.1,x1.2.2.2.1,())) :=
 (mk_f _ _ _ _ _ _ _ 4000).trans (by kernel_rfl)
def spec_l00Src_text_ir : Fn := { np := 2,io := [true,false],res := [.t 4],own := [false],body :=
 (.seq (.reg false [.V 4 (.asg (.c (.str [])))] [0,1] [0,1000]) (.seq (.reg false [.V 5 (.mv (.t 1)),.V 6 (.mv (.t 0)),.V 7 (.mv (.t 1)),.V 8 (.len (.t 7)),.W 9 (.call (.c (.fn 463 [])) [.t 6,.t 8]),.V 10 (.ia 1 (.t 5) (.t 9)),.V 11 (.ld none (.t 10)),.V 4 (.asg (.t 11))] [0,4] [0,1000]) .ret)) }
noncomputable def spec_l00Src_text_D : List (Nat × Callee) := [(463,spec_l00Src_pick_c)]
def spec_l00Src_text_H : List (Nat × ET) := [(5,(.one .str)),(7,(.one .str))]
noncomputable def spec_l00Src_text_c : Callee := mkCallee spec_l00Src_text_D spec_l00Src_text_H spec_l00Src_text_ir [.box T_l00Src,.d (.one (.sl (.one .str)))] [.d (.one .str)] [.box T_l00Src]
noncomputable def spec_l00Src_text (a0 : T_l00Src.ty) (a1 : List (List UInt8)) : Option (List UInt8 × T_l00Src.ty) := spec_l00Src_text_c.f (a0,a1,())
theorem spec_l00Src_text_eq (a0 : T_l00Src.ty) (a1 : List (List UInt8)) : spec_l00Src_text a0 a1 =
 (spec_l00Src_pick a0 (a1.length : Int)).bind fun x1 =>
  if decide (0 ≤ x1.1) then
   (a1[x1.1.toNat]?).bind fun x2 =>
    some (x2,(x1.2.1,x1.2.2.1,x1.2.2.2.1,()))
  else
   none :=
 (mk_f _ _ _ _ _ _ _ 4000).trans (by kernel_rfl)
def spec_l20DrawOne_ir : Fn := { np := 2,io := [true,false],res := [.cell 4 (some 5)],own := [false],body :=
 (.seq (.reg false [.W 4 (.alloc 5 (.agg [.str [],.str [],.int .i64 0,.int .i64 0,.int .i64 0]))] [0,1,4] [0,4,1000]) (.seq (.reg false [.V 6 (.mv (.t 1)),.V 7 (.mv (.t 0)),.V 8 (.bsl 1 (.str []) 4 [(0,.c (.str [97,109,97,116,105])),(1,.c (.str [103,117,97,100,97,103,110,105,110,105])),(2,.c (.str [114,111,99,99,97])),(3,.c (.str [97,109,97,116,105]))]),.W 9 (.call (.c (.fn 557 [])) [.t 7,.t 8]),.V 10 (.build [.str [],.str [],.int .i64 0,.int .i64 0,.int .i64 0] [(0,1,.t 6),(1,1,.t 9)]),.W 5 (.alloc 5 (.agg [.str [],.str [],.int .i64 0,.int .i64 0,.int .i64 0])),⟨none,true,.sto 5 (.t 5) (.t 10),none,false,[]⟩] [0,4,5] [0,4,5,1000]) (.seq (.reg false [.V 11 (.mv (.t 0)),.W 12 (.call (.c (.fn 463 [])) [.t 11,.c (.int .i64 60)]),.V 13 (.bin .add (.c (.int .i64 1680)) (.t 12)),.V 14 (.fa 2 (.t 5)),⟨none,true,.sto 1 (.t 14) (.t 13),none,false,[]⟩] [0,4,5] [0,4,5,1000]) (.seq (.reg true [⟨some 15,false,.fa 2 (.t 5),none,false,[1000000]⟩,⟨some 16,false,.ld none (.t 15),none,true,[]⟩,.V 17 (.mv (.t 0)),⟨some 18,true,.call (.c (.fn 463 [])) [.t 17,.c (.int .i64 30)],none,false,[5,15]⟩,.V 19 (.bin .add (.t 16) (.t 18)),.V 20 (.fa 3 (.t 5)),⟨none,true,.sto 1 (.t 20) (.t 19),none,false,[]⟩] [0,4,5] [0,4,5,1000]) (.seq (.reg false [.V 21 (.mv (.t 0)),.W 22 (.call (.c (.fn 463 [])) [.t 21,.c (.int .i64 20)]),.V 23 (.bin .add (.c (.int .i64 1)) (.t 22)),.V 24 (.bin .mul (.c (.int .i64 50)) (.t 23)),.V 25 (.fa 4 (.t 5)),⟨none,true,.sto 1 (.t 25) (.t 24),none,false,[]⟩] [0,4,5] [0,4,5,1000]) (.seq (.reg false [.V 26 (.ld (some 5) (.t 5)),⟨none,true,.sto 5 (.t 4) (.t 26),none,false,[]⟩] [0,4] [0,4,1000]) .ret)))))) }
noncomputable def spec_l20DrawOne_D : List (Nat × Callee) := [(463,spec_l00Src_pick_c),(557,spec_l00Src_text_c)]
def spec_l20DrawOne_H : List (Nat × ET) := [(8,(.one .str))]
noncomputable def spec_l20DrawOne_c : Callee := mkCallee spec_l20DrawOne_D spec_l20DrawOne_H spec_l20DrawOne_ir [.box T_l00Src,.d (.one .str)] [.d T_Paper] [.box T_l00Src]
noncomputable def spec_l20DrawOne (a0 : T_l00Src.ty) (a1 : List UInt8) : Option (T_Paper.ty × T_l00Src.ty) := spec_l20DrawOne_c.f (a0,a1,())
theorem spec_l20DrawOne_eq (a0 : T_l00Src.ty) (a1 : List UInt8) : spec_l20DrawOne a0 a1 =
 (spec_l00Src_text a0 [[97,109,97,116,105],[103,117,97,100,97,103,110,105,110,105],[114,111,99,99,97],[97,109,97,116,105]]).bind fun x1 =>
  (spec_l00Src_pick (x1.2.1,x1.2.2.1,x1.2.2.2.1,()) 60).bind fun x2 =>
   (spec_l00Src_pick (x2.2.1,x2.2.2.1,x2.2.2.2.1,()) 30).bind fun x3 =>
    (spec_l00Src_pick (x3.2.1,x3.2.2.1,x3.2.2.2.1,()) 20).bind fun x4 =>
     some ((a1,x1.1,IntKind.i64.wrap (1680 + x2.1),IntKind.i64.wrap ((IntKind.i64.wrap (1680 + x2.1)) + x3.1),IntKind.i64.wrap (50 * (IntKind.i64.wrap (1 + x4.1))),()),(x4.2.1,x4.2.2.1,x4.2.2.2.1,())) :=
 (mk_f _ _ _ _ _ _ _ 4000).trans (by kernel_rfl)
def spec_l00Src_among_ir : Fn := { np := 2,io := [true,false],res := [.t 4],own := [false],body :=
 (.seq (.reg false [.V 4 (.asg (.c (.int .i64 0)))] [0,1] [0,1000]) (.seq (.reg false [.V 5 (.mv (.t 1)),.V 6 (.mv (.t 0)),.V 7 (.mv (.t 1)),.V 8 (.len (.t 7)),.W 9 (.call (.c (.fn 463 [])) [.t 6,.t 8]),.V 10 (.ia 1 (.t 5) (.t 9)),.V 11 (.ld none (.t 10)),.V 4 (.asg (.t 11))] [0,4] [0,1000]) .ret)) }
noncomputable def spec_l00Src_among_D : List (Nat × Callee) := [(463,spec_l00Src_pick_c)]
def spec_l00Src_among_H : List (Nat × ET) := [(5,(.one (.int .i64))),(7,(.one (.int .i64)))]
noncomputable def spec_l00Src_among_c : Callee := mkCallee spec_l00Src_among_D spec_l00Src_among_H spec_l00Src_among_ir [.box T_l00Src,.d (.one (.sl (.one (.int .i64))))] [.d (.one (.int .i64))] [.box T_l00Src]
noncomputable def spec_l00Src_among (a0 : T_l00Src.ty) (a1 : List Int) : Option (Int × T_l00Src.ty) := spec_l00Src_among_c.f (a0,a1,())
theorem spec_l00Src_among_eq (a0 : T_l00Src.ty) (a1 : List Int) : spec_l00Src_among a0 a1 =
 (spec_l00Src_pick a0 (a1.length : Int)).bind fun x1 =>
  if decide (0 ≤ x1.1) then
   (a1[x1.1.toNat]?).bind fun x2 =>
    some (x2,(x1.2.1,x1.2.2.1,x1.2.2.2.1,()))
  else
   none :=
 (mk_f _ _ _ _ _ _ _ 4000).trans (by kernel_rfl)
def spec_l20Bent_ir : Fn := { np := 2,io := [true,false],res := [.cell 4 (some 5)],own := [false],body :=
 (.seq (.reg false [.W 3 (.box 5 (.t 1)),.W 4 (.alloc 5 (.agg [.str [],.str [],.int .i64 0,.int .i64 0,.int .i64 0]))] [0,3,4] [0,3,4,1000]) (.seq (.seq (.reg false [.V 5 (.mv (.t 0)),.W 6 (.call (.c (.fn 463 [])) [.t 5,.c (.int .i64 18)])] [0,3,4,6] [0,3,4,1000]) (.block 0 (.seq (.reg false [.V 8 (.bin .eql (.t 6) (.c (.int .i64 0))),.V 7 (.asg (.t 8))] [0,3,4,6,7] [0,3,4,1000]) (.cond (.t 7) (.reg false [.V 9 (.mv (.t 0)),.V 10 (.fa 3 (.t 3)),.V 11 (.ld none (.t 10)),.V 12 (.fa 3 (.t 3)),.V 13 (.ld none (.t 12)),.V 14 (.bin .add (.t 13) (.c (.int .i64 1))),.V 15 (.bsl 1 (.int .i64 0) 4 [(0,.c (.int .i64 1499)),(1,.c (.int .i64 1500)),(2,.t 11),(3,.t 14)]),.W 16 (.call (.c (.fn 445 [])) [.t 9,.t 15]),.V 17 (.fa 2 (.t 3)),⟨none,true,.sto 1 (.t 17) (.t 16),none,false,[]⟩] [0,3,4] [0,3,4,1000]) (.seq (.reg false [.V 19 (.bin .eql (.t 6) (.c (.int .i64 1))),.V 18 (.asg (.t 19))] [0,3,4,6,18] [0,3,4,1000]) (.cond (.t 18) (.reg false [.V 20 (.mv (.t 0)),.V 21 (.bsl 1 (.int .i64 0) 2 [(0,.c (.int .i64 2100)),(1,.c (.int .i64 2101))]),.W 22 (.call (.c (.fn 445 [])) [.t 20,.t 21]),.V 23 (.fa 3 (.t 3)),⟨none,true,.sto 1 (.t 23) (.t 22),none,false,[]⟩] [0,3,4] [0,3,4,1000]) (.seq (.reg false [.V 25 (.bin .eql (.t 6) (.c (.int .i64 2))),.V 24 (.asg (.t 25))] [0,3,4,24] [0,3,4,1000]) (.cond (.t 24) (.reg false [.V 26 (.mv (.t 0)),.V 27 (.bsl 1 (.int .i64 0) 4 [(0,.c (.int .i64 0)),(1,.c (.int .i64 1)),(2,.c (.int .i64 1000)),(3,.c (.int .i64 1001))]),.W 28 (.call (.c (.fn 445 [])) [.t 26,.t 27]),.V 29 (.fa 4 (.t 3)),⟨none,true,.sto 1 (.t 29) (.t 28),none,false,[]⟩] [0,3,4] [0,3,4,1000]) .skip)))))))) (.seq (.reg false [.V 30 (.ld (some 5) (.t 3)),⟨none,true,.sto 5 (.t 4) (.t 30),none,false,[]⟩] [0,4] [0,4,1000]) .ret))) }
noncomputable def spec_l20Bent_D : List (Nat × Callee) := [(445,spec_l00Src_among_c),(463,spec_l00Src_pick_c)]
def spec_l20Bent_H : List (Nat × ET) := [(15,(.one (.int .i64))),(21,(.one (.int .i64))),(27,(.one (.int .i64)))]
noncomputable def spec_l20Bent_c : Callee := mkCallee spec_l20Bent_D spec_l20Bent_H spec_l20Bent_ir [.box T_l00Src,.d T_Paper] [.d T_Paper] [.box T_l00Src]
noncomputable def spec_l20Bent (a0 : T_l00Src.ty) (a1 : T_Paper.ty) : Option (T_Paper.ty × T_l00Src.ty) := spec_l20Bent_c.f (a0,a1,())
theorem spec_l20Bent_eq (a0 : T_l00Src.ty) (a1 : T_Paper.ty) : spec_l20Bent a0 a1 =
 (spec_l00Src_pick a0 18).bind fun x1 =>
  if (x1.1 == 0) then
   (spec_l00Src_among (x1.2.1,x1.2.2.1,x1.2.2.2.1,()) [1499,1500,a1.2.2.2.1,IntKind.i64.wrap (a1.2.2.2.1 + 1)]).bind fun x2 =>
    some ((a1.1,a1.2.1,x2.1,a1.2.2.2.1,a1.2.2.2.2.1,()),(x2.2.1,x2.2.2.1,x2.2.2.2.1,()))
  else
   if (x1.1 == 1) then
    (spec_l00Src_among (x1.2.1,x1.2.2.1,x1.2.2.2.1,()) [2100,2101]).bind fun x3 =>
     some ((a1.1,a1.2.1,a1.2.2.1,x3.1,a1.2.2.2.2.1,()),(x3.2.1,x3.2.2.1,x3.2.2.2.1,()))
   else
    if (x1.1 == 2) then
     (spec_l00Src_among (x1.2.1,x1.2.2.1,x1.2.2.2.1,()) [0,1,1000,1001]).bind fun x4 =>
      some ((a1.1,a1.2.1,a1.2.2.1,a1.2.2.2.1,x4.1,()),(x4.2.1,x4.2.2.1,x4.2.2.2.1,()))
    else
     some (a1,(x1.2.1,x1.2.2.1,x1.2.2.2.1,())) :=
 (mk_f _ _ _ _ _ _ _ 4000).trans (by kernel_rfl)
def spec_l20Draw_k0 : C :=
 .seq (.seq (.reg false [.V 10 (.mv (.t 5)),.V 11 (.mv (.t 3)),.V 12 (.len (.t 11)),.V 13 (.bin .lss (.t 10) (.t 12))] [0,3,4,5,13] [0,3,4,1000]) (.cond (.t 13) .skip (.exit 0))) (.seq (.block 1 (.seq (.reg false [.V 16 (.mv (.t 0)),.W 17 (.call (.c (.fn 642 [])) [.t 16,.c (.int .i64 3)]),.V 18 (.un .not (.t 17))] [0,3,4,5,18] [0,3,4,1000]) (.cond (.t 18) (.reg false [.V 19 (.mv (.t 4)),.V 20 (.mv (.t 0)),.V 21 (.mv (.t 3)),.V 22 (.mv (.t 5)),.V 23 (.ia 1 (.t 21) (.t 22)),.V 24 (.ld none (.t 23)),.W 25 (.call (.c (.fn 806 [])) [.t 20,.t 24]),.V 26 (.bsl 5 (.agg [.str [],.str [],.int .i64 0,.int .i64 0,.int .i64 0]) 1 [(0,.t 25)]),.W 27 (.app 5 56 (.t 19) (.t 26)),.W 4 (.asg (.t 27))] [0,3,4,5] [0,3,4,1000]) .skip))) (.reg false [.V 14 (.mv (.t 5)),.V 15 (.bin .add (.t 14) (.c (.int .i64 1))),.V 5 (.asg (.t 15))] [0,3,4,5] [0,3,4,1000]))
def spec_l20Draw_k1 : C :=
 .norm [0,3,4,5] [0,3,4,1000] spec_l20Draw_k0
def spec_l20Draw_k2 : C :=
 .seq (.seq (.reg false [.V 45 (.mv (.t 7)),.V 46 (.mv (.t 6)),.V 47 (.bin .lss (.t 45) (.t 46))] [0,4,6,7,47] [0,4,1000]) (.cond (.t 47) .skip (.exit 3))) (.seq (.block 4 (.reg false [.V 50 (.mv (.t 4)),.V 51 (.mv (.t 0)),.V 52 (.mv (.t 7)),.V 53 (.bin .add (.c (.int .i64 97)) (.t 52)),.V 54 (.conv (.int .u8) (.t 53)),.V 55 (.bsl 1 (.int .u8 0) 1 [(0,.t 54)]),.V 56 (.conv .bytesStr (.t 55)),.V 57 (.bin .add (.c (.str [110])) (.t 56)),.W 58 (.call (.c (.fn 806 [])) [.t 51,.t 57]),.V 59 (.bsl 5 (.agg [.str [],.str [],.int .i64 0,.int .i64 0,.int .i64 0]) 1 [(0,.t 58)]),.W 60 (.app 5 56 (.t 50) (.t 59)),.W 4 (.asg (.t 60))] [0,4,6,7] [0,4,1000])) (.reg false [.V 48 (.mv (.t 7)),.V 49 (.bin .add (.t 48) (.c (.int .i64 1))),.V 7 (.asg (.t 49))] [0,4,6,7] [0,4,1000]))
def spec_l20Draw_k3 : C :=
 .norm [0,4,6,7] [0,4,1000] spec_l20Draw_k2
def spec_l20Draw_k4 : C :=
 .seq (.reg false [.V 61 (.mv (.t 4)),.W 2 (.asg (.t 61))] [0,2] [0,2,4,1000]) .ret
def spec_l20Draw_k5 : C :=
 .seq (.seq (.reg false [.V 28 (.mv (.t 0)),.W 29 (.call (.c (.fn 463 [])) [.t 28,.c (.int .i64 20)])] [0,4,29] [0,4,1000]) (.block 2 (.seq (.reg false [.V 31 (.bin .eql (.t 29) (.c (.int .i64 0))),.V 30 (.asg (.t 31))] [0,4,29,30] [0,4,1000]) (.cond (.t 30) (.reg false [.V 32 (.mv (.t 4)),.V 33 (.mv (.t 0)),.V 34 (.mv (.t 0)),.W 35 (.call (.c (.fn 806 [])) [.t 34,.c (.str [122,122])]),.W 36 (.call (.c (.fn 807 [])) [.t 33,.t 35]),.V 37 (.bsl 5 (.agg [.str [],.str [],.int .i64 0,.int .i64 0,.int .i64 0]) 1 [(0,.t 36)]),.W 38 (.app 5 56 (.t 32) (.t 37)),.W 4 (.asg (.t 38))] [0,4] [0,4,1000]) (.seq (.reg false [.V 40 (.bin .eql (.t 29) (.c (.int .i64 1))),.V 39 (.asg (.t 40))] [0,4,39] [0,4,1000]) (.cond (.t 39) (.seq (.reg false [.V 41 (.mv (.t 0)),.V 42 (.bsl 1 (.int .i64 0) 2 [(0,.c (.int .i64 12)),(1,.c (.int .i64 13))]),.W 43 (.call (.c (.fn 445 [])) [.t 41,.t 42]),.V 6 (.asg (.t 43))] [0,6] [0,1000]) (.seq (.reg false [.V 44 (.bsl 5 (.agg [.str [],.str [],.int .i64 0,.int .i64 0,.int .i64 0]) 0 []),.W 4 (.asg (.t 44))] [0,4,6] [0,4,1000]) (.seq (.reg false [.V 7 (.asg (.c (.int .i64 0)))] [0,4,6,7] [0,4,1000]) (.block 3 (.loop spec_l20Draw_k3))))) .skip)))))) spec_l20Draw_k4
def spec_l20Draw_ir : Fn := { np := 1,io := [true],res := [.t 2],own := [true],body :=
 (.seq (.reg false [.W 2 (.asg (.c (.nils 5)))] [0] [0,1000]) (.seq (.reg false [.V 8 (.bsl 1 (.str []) 6 [(0,.c (.str [112,97])),(1,.c (.str [112,98])),(2,.c (.str [112,99])),(3,.c (.str [112,100])),(4,.c (.str [112,101])),(5,.c (.str [112,102]))]),.W 3 (.asg (.t 8))] [0,3] [0,3,1000]) (.seq (.reg false [.V 9 (.bsl 5 (.agg [.str [],.str [],.int .i64 0,.int .i64 0,.int .i64 0]) 0 []),.W 4 (.asg (.t 9))] [0,3,4] [0,3,4,1000]) (.seq (.seq (.reg false [.V 5 (.asg (.c (.int .i64 0)))] [0,3,4,5] [0,3,4,1000]) (.block 0 (.loop spec_l20Draw_k1))) spec_l20Draw_k5)))) }
noncomputable def spec_l20Draw_D : List (Nat × Callee) := [(445,spec_l00Src_among_c),(463,spec_l00Src_pick_c),(642,spec_l00Src_one_c),(806,spec_l20DrawOne_c),(807,spec_l20Bent_c)]
def spec_l20Draw_H : List (Nat × ET) := [(2,T_Paper),(3,(.one .str)),(4,T_Paper),(8,(.one .str)),(9,T_Paper),(11,(.one .str)),(19,T_Paper),(21,(.one .str)),(26,T_Paper),(27,T_Paper),(32,T_Paper),(37,T_Paper),(38,T_Paper),(42,(.one (.int .i64))),(44,T_Paper),(50,T_Paper),(55,(.one (.int .u8))),(59,T_Paper),(60,T_Paper),(61,T_Paper)]
noncomputable def spec_l20Draw_c : Callee := mkCallee spec_l20Draw_D spec_l20Draw_H spec_l20Draw_ir [.box T_l00Src] [.tok T_Paper] [.box T_l00Src]
noncomputable def spec_l20Draw (a0 : T_l00Src.ty) : Option (List T_Paper.ty × T_l00Src.ty) := spec_l20Draw_c.f (a0,())
noncomputable def spec_l20Draw_p0  (v5 : Int) (r0_0 : List Int) (r0_1 : Int) (r0_2 : Int) (r3 : List (List UInt8)) (r4 : List T_Paper.ty) : Option (List T_Paper.ty × T_l00Src.ty) :=
 goL spec_l20Draw_D spec_l20Draw_H (vleave spec_l20Draw_ir [.box T_l00Src] [.tok T_Paper] [.box T_l00Src] []) [.c spec_l20Draw_k0,.l spec_l20Draw_k1,.e 0,.c spec_l20Draw_k5]
  ⟨[(0,.loc 0 0 0),(3,.view 3 0 r3.length),(4,.view 4 0 r4.length),(5,.int .i64 v5)],[(0,some (.var 3 (.agg [.sl (.one (.int .u8)) r0_0,.int .i64 r0_1,.int .u64 r0_2]))),(3,some (.sl (.one .str) r3)),(4,some (.sl T_Paper r4)),(1000,none)]⟩
noncomputable def spec_l20Draw_p1  (v6 : Int) (v7 : Int) (r0_0 : List Int) (r0_1 : Int) (r0_2 : Int) (r4 : List T_Paper.ty) : Option (List T_Paper.ty × T_l00Src.ty) :=
 goL spec_l20Draw_D spec_l20Draw_H (vleave spec_l20Draw_ir [.box T_l00Src] [.tok T_Paper] [.box T_l00Src] []) [.c spec_l20Draw_k2,.l spec_l20Draw_k3,.e 3,.e 2,.c spec_l20Draw_k4]
  ⟨[(0,.loc 0 0 0),(4,.view 4 0 r4.length),(6,.int .i64 v6),(7,.int .i64 v7)],[(0,some (.var 3 (.agg [.sl (.one (.int .u8)) r0_0,.int .i64 r0_1,.int .u64 r0_2]))),(4,some (.sl T_Paper r4)),(1000,none)]⟩
theorem spec_l20Draw_eq (a0 : T_l00Src.ty) : spec_l20Draw a0 =
 spec_l20Draw_p0 0 a0.1 a0.2.1 a0.2.2.1 [[112,97],[112,98],[112,99],[112,100],[112,101],[112,102]] [] :=
 (mk_f _ _ _ _ _ _ _ 4000).trans (by kernel_rfl)
theorem spec_l20Draw_p0_eq  (v5 : Int) (r0_0 : List Int) (r0_1 : Int) (r0_2 : Int) (r3 : List (List UInt8)) (r4 : List T_Paper.ty) : spec_l20Draw_p0 v5 r0_0 r0_1 r0_2 r3 r4 =
 if decide (v5 < (r3.length : Int)) then
  (spec_l00Src_one (r0_0,r0_1,r0_2,()) 3).bind fun x1 =>
   if (!x1.1) then
    if decide (0 ≤ v5) && decide (v5 < (r3.length : Int)) then
     (r3[v5.toNat]?).bind fun x2 =>
      (spec_l20DrawOne (x1.2.1,x1.2.2.1,x1.2.2.2.1,()) x2).bind fun x3 =>
       if decide (r4.length + 1 < lim) then
        spec_l20Draw_p0 (IntKind.i64.wrap (v5 + 1)) x3.2.1 x3.2.2.1 x3.2.2.2.1 r3 ((r4.take r4.length) ++ [(x3.1.1,x3.1.2.1,x3.1.2.2.1,x3.1.2.2.2.1,x3.1.2.2.2.2.1,())])
       else
        none
    else
     none
   else
    spec_l20Draw_p0 (IntKind.i64.wrap (v5 + 1)) x1.2.1 x1.2.2.1 x1.2.2.2.1 r3 r4
 else
  (spec_l00Src_pick (r0_0,r0_1,r0_2,()) 20).bind fun x4 =>
   if (x4.1 == 0) then
    (spec_l20DrawOne (x4.2.1,x4.2.2.1,x4.2.2.2.1,()) [122,122]).bind fun x5 =>
     (spec_l20Bent (x5.2.1,x5.2.2.1,x5.2.2.2.1,()) (x5.1.1,x5.1.2.1,x5.1.2.2.1,x5.1.2.2.2.1,x5.1.2.2.2.2.1,())).bind fun x6 =>
      if decide (r4.length + 1 < lim) then
       some ((((r4.take r4.length) ++ [(x6.1.1,x6.1.2.1,x6.1.2.2.1,x6.1.2.2.2.1,x6.1.2.2.2.2.1,())]).take (((r4.take r4.length) ++ [(x6.1.1,x6.1.2.1,x6.1.2.2.1,x6.1.2.2.2.1,x6.1.2.2.2.2.1,())]).length)),(x6.2.1,x6.2.2.1,x6.2.2.2.1,()))
      else
       none
   else
    if (x4.1 == 1) then
     (spec_l00Src_among (x4.2.1,x4.2.2.1,x4.2.2.2.1,()) [12,13]).bind fun x7 =>
      spec_l20Draw_p1 x7.1 0 x7.2.1 x7.2.2.1 x7.2.2.2.1 []
    else
     some ((r4.take r4.length),(x4.2.1,x4.2.2.1,x4.2.2.2.1,())) :=
 (goL_dn _ _ _ 4000 _ _).trans (by kernel_rfl)
theorem spec_l20Draw_p1_eq  (v6 : Int) (v7 : Int) (r0_0 : List Int) (r0_1 : Int) (r0_2 : Int) (r4 : List T_Paper.ty) : spec_l20Draw_p1 v6 v7 r0_0 r0_1 r0_2 r4 =
 if decide (v7 < v6) then
  if decide ([110].length + ([IntKind.u8.wrap (IntKind.i64.wrap (97 + v7))].map vu8).length ≤ strMax) then
   (spec_l20DrawOne (r0_0,r0_1,r0_2,()) ([110] ++ ([IntKind.u8.wrap (IntKind.i64.wrap (97 + v7))].map vu8))).bind fun x1 =>
    if decide (r4.length + 1 < lim) then
     spec_l20Draw_p1 v6 (IntKind.i64.wrap (v7 + 1)) x1.2.1 x1.2.2.1 x1.2.2.2.1 ((r4.take r4.length) ++ [(x1.1.1,x1.1.2.1,x1.1.2.2.1,x1.1.2.2.2.1,x1.1.2.2.2.2.1,())])
    else
     none
  else
   none
 else
  some ((r4.take r4.length),(r0_0,r0_1,r0_2,())) :=
 (goL_dn _ _ _ 4000 _ _).trans (by kernel_rfl)
def spec_l06DrawBudget_ir : Fn := { np := 1,io := [true],res := [.t 2],own := [false],body :=
 (.seq (.reg false [.V 2 (.asg (.c (.int .i64 0)))] [0] [0,1000]) (.seq (.reg false [.V 3 (.mv (.t 0)),.V 4 (.bsl 1 (.int .i64 0) 7 [(0,.c (.int .i64 1)),(1,.c (.int .i64 10)),(2,.c (.int .i64 100)),(3,.c (.int .i64 1000)),(4,.c (.int .i64 20000)),(5,.c (.int .i64 0)),(6,.c (.int .i64 20001))]),.W 5 (.call (.c (.fn 445 [])) [.t 3,.t 4]),.V 2 (.asg (.t 5))] [0,2] [0,1000]) .ret)) }
noncomputable def spec_l06DrawBudget_D : List (Nat × Callee) := [(445,spec_l00Src_among_c)]
def spec_l06DrawBudget_H : List (Nat × ET) := [(4,(.one (.int .i64)))]
noncomputable def spec_l06DrawBudget_c : Callee := mkCallee spec_l06DrawBudget_D spec_l06DrawBudget_H spec_l06DrawBudget_ir [.box T_l00Src] [.d (.one (.int .i64))] [.box T_l00Src]
noncomputable def spec_l06DrawBudget (a0 : T_l00Src.ty) : Option (Int × T_l00Src.ty) := spec_l06DrawBudget_c.f (a0,())
theorem spec_l06DrawBudget_eq (a0 : T_l00Src.ty) : spec_l06DrawBudget a0 =
 (spec_l00Src_among a0 [1,10,100,1000,20000,0,20001]).bind fun x1 =>
  some (x1.1,(x1.2.1,x1.2.2.1,x1.2.2.2.1,())) :=
 (mk_f _ _ _ _ _ _ _ 4000).trans (by kernel_rfl)
def spec_DrawMostTrusted_ir : Fn := { np := 1,io := [],res := [.t 2,.t 3],own := [true,false],body :=
 (.seq (.reg false [.W 2 (.asg (.c (.nils 5))),.V 3 (.asg (.c (.int .i64 0)))] [0] []) (.seq (.reg false [.V 6 (.mv (.t 0)),.W 7 (.call (.c (.fn 441 [])) [.t 6]),.V 4 (.asg (.t 7))] [4] [7,8000]) (.seq (.reg false [.V 8 (.mv (.t 4)),.W 9 (.call (.c (.fn 633 [])) [.t 8]),.W 5 (.asg (.t 9))] [4,5] [5,7,8000]) (.seq (.reg false [.V 10 (.mv (.t 5)),.V 11 (.mv (.t 4)),.W 12 (.call (.c (.fn 469 [])) [.t 11]),.W 2 (.asg (.t 10)),.V 3 (.asg (.t 12))] [2,3] [2,5]) .ret)))) }
noncomputable def spec_DrawMostTrusted_D : List (Nat × Callee) := [(441,spec_l00From_c),(469,spec_l06DrawBudget_c),(633,spec_l20Draw_c)]
def spec_DrawMostTrusted_H : List (Nat × ET) := [(2,T_Paper),(5,T_Paper),(6,(.one (.int .u8))),(9,T_Paper),(10,T_Paper)]
noncomputable def spec_DrawMostTrusted_c : Callee := mkCallee spec_DrawMostTrusted_D spec_DrawMostTrusted_H spec_DrawMostTrusted_ir [.d (.one (.sl (.one (.int .u8))))] [.tok T_Paper,.d (.one (.int .i64))] []
noncomputable def spec_DrawMostTrusted (a0 : List Int) : Option (List T_Paper.ty × Int) := spec_DrawMostTrusted_c.f (a0,())
theorem spec_DrawMostTrusted_eq (a0 : List Int) : spec_DrawMostTrusted a0 =
 (spec_l00From a0).bind fun x1 =>
  (spec_l20Draw x1).bind fun x2 =>
   (spec_l06DrawBudget (x2.2.1,x2.2.2.1,x2.2.2.2.1,())).bind fun x3 =>
    some ((x2.1.take x2.1.length),x3.1) :=
 (mk_f _ _ _ _ _ _ _ 4000).trans (by kernel_rfl)
def impl_isDigit_ir : Fn := { np := 1,io := [],res := [.t 2],own := [false],body :=
 (.seq (.reg false [.V 2 (.asg (.c (.bool false)))] [0] []) (.seq (.reg false [.V 3 (.mv (.t 0)),.V 4 (.bin .geq (.t 3) (.c (.int .u8 48))),.V 5 (.mv (.t 4)),.G 6 (.mv (.t 0)) 2 true,.G 7 (.bin .leq (.t 6) (.c (.int .u8 57))) 2 true,.V 8 (.pick (.t 5) (.t 7) (.c (.bool false))),.V 2 (.asg (.t 8))] [2] []) .ret)) }
noncomputable def impl_isDigit_D : List (Nat × Callee) := []
def impl_isDigit_H : List (Nat × ET) := []
noncomputable def impl_isDigit_c : Callee := mkCallee impl_isDigit_D impl_isDigit_H impl_isDigit_ir [.d (.one (.int .u8))] [.d (.one .bool)] []
noncomputable def impl_isDigit (a0 : Int) : Option (Bool) := impl_isDigit_c.f (a0,())
theorem impl_isDigit_eq (a0 : Int) : impl_isDigit a0 =
 if decide (a0 ≥ 48) then
  some (decide (a0 ≤ 57))
 else
  some false :=
 (mk_f _ _ _ _ _ _ _ 4000).trans (by kernel_rfl)
def impl_few_ir : Fn := { np := 2,io := [],res := [.t 4],own := [false],body :=
 (.seq (.reg false [.V 4 (.asg (.c (.bool false)))] [0,1] []) (.seq (.reg false [.V 5 (.mv (.t 0)),.V 6 (.mv (.t 1)),.V 7 (.bin .leq (.t 5) (.t 6)),.V 4 (.asg (.t 7))] [4] []) .ret)) }
noncomputable def impl_few_D : List (Nat × Callee) := []
def impl_few_H : List (Nat × ET) := []
noncomputable def impl_few_c : Callee := mkCallee impl_few_D impl_few_H impl_few_ir [.d (.one (.int .i64)),.d (.one (.int .i64))] [.d (.one .bool)] []
noncomputable def impl_few (a0 : Int) (a1 : Int) : Option (Bool) := impl_few_c.f (a0,a1,())
theorem impl_few_eq (a0 : Int) (a1 : Int) : impl_few a0 a1 =
 some (decide (a0 ≤ a1)) :=
 (mk_f _ _ _ _ _ _ _ 4000).trans (by kernel_rfl)
def impl_IsName_k0 : C :=
 .seq (.reg false [.V 21 (.mv (.t 4)),.V 22 (.un .not (.t 21)),.V 23 (.mv (.t 22)),.G 24 (.mv (.t 3)) 2 true,.G 25 (.bin .eql (.t 24) (.c (.int .i64 0))) 2 true,.G 26 (.mv (.t 25)) 2 true,.G 27 (.mv (.t 0)) 5 false,.G 28 (.mv (.t 3)) 5 false,.G 29 (.ix (.t 27) (.t 28)) 5 false,.G 30 (.call (.c (.fn 22 [])) [.t 29]) 5 false,.G 31 (.un .not (.t 30)) 5 false,.G 32 (.pick (.t 26) (.c (.bool true)) (.t 31)) 2 true,.V 33 (.pick (.t 23) (.t 32) (.c (.bool false)))] [0,3,33] []) (.cond (.t 33) (.seq (.reg false [.V 2 (.asg (.c (.bool false)))] [2] []) .ret) .skip)
def impl_IsName_k1 : C :=
 .reg false [.V 9 (.mv (.t 3)),.V 10 (.bin .add (.t 9) (.c (.int .i64 1))),.V 3 (.asg (.t 10))] [0,3] []
def impl_IsName_k2 : C :=
 .seq (.seq (.reg false [.V 5 (.mv (.t 3)),.V 6 (.mv (.t 0)),.V 7 (.lens (.t 6)),.V 8 (.bin .lss (.t 5) (.t 7))] [0,3,8] []) (.cond (.t 8) .skip (.exit 0))) (.seq (.block 1 (.seq (.reg false [.V 11 (.mv (.t 0)),.V 12 (.mv (.t 3)),.V 13 (.ix (.t 11) (.t 12)),.V 14 (.bin .geq (.t 13) (.c (.int .u8 97))),.V 15 (.mv (.t 14)),.G 16 (.mv (.t 0)) 4 true,.G 17 (.mv (.t 3)) 4 true,.G 18 (.ix (.t 16) (.t 17)) 4 true,.G 19 (.bin .leq (.t 18) (.c (.int .u8 122))) 4 true,.V 20 (.pick (.t 15) (.t 19) (.c (.bool false))),.V 4 (.asg (.t 20))] [0,3,4] []) (.norm [0,3,4] [] impl_IsName_k0))) impl_IsName_k1)
def impl_IsName_k3 : C :=
 .norm [0,3] [] impl_IsName_k2
def impl_IsName_k4 : C :=
 .seq (.reg false [.V 34 (.mv (.t 0)),.V 35 (.bin .neq (.t 34) (.c (.str []))),.V 36 (.mv (.t 35)),.G 37 (.mv (.t 0)) 2 true,.G 38 (.lens (.t 37)) 2 true,.G 39 (.call (.c (.fn 21 [])) [.t 38,.c (.int .i64 10)]) 2 true,.V 40 (.pick (.t 36) (.t 39) (.c (.bool false))),.V 2 (.asg (.t 40))] [2] []) .ret
def impl_IsName_ir : Fn := { np := 1,io := [],res := [.t 2],own := [false],body :=
 (.seq (.reg false [.V 2 (.asg (.c (.bool false)))] [0] []) (.seq (.seq (.reg false [.V 3 (.asg (.c (.int .i64 0)))] [0,3] []) (.block 0 (.loop impl_IsName_k3))) impl_IsName_k4)) }
noncomputable def impl_IsName_D : List (Nat × Callee) := [(21,impl_few_c),(22,impl_isDigit_c)]
def impl_IsName_H : List (Nat × ET) := []
noncomputable def impl_IsName_c : Callee := mkCallee impl_IsName_D impl_IsName_H impl_IsName_ir [.d (.one .str)] [.d (.one .bool)] []
noncomputable def impl_IsName (a0 : List UInt8) : Option (Bool) := impl_IsName_c.f (a0,())
noncomputable def impl_IsName_p0  (v0 : List UInt8) (v3 : Int) : Option (Bool) :=
 goL impl_IsName_D impl_IsName_H (vleave impl_IsName_ir [.d (.one .str)] [.d (.one .bool)] [] []) [.c impl_IsName_k2,.l impl_IsName_k3,.e 0,.c impl_IsName_k4]
  ⟨[(0,.str v0),(3,.int .i64 v3)],[]⟩
noncomputable def impl_IsName_p1  (v0 : List UInt8) (v3 : Int) (v4 : Bool) : Option (Bool) :=
 goL impl_IsName_D impl_IsName_H (vleave impl_IsName_ir [.d (.one .str)] [.d (.one .bool)] [] []) [.c impl_IsName_k0,.e 1,.c impl_IsName_k1,.l impl_IsName_k3,.e 0,.c impl_IsName_k4]
  ⟨[(0,.str v0),(3,.int .i64 v3),(4,.bool v4)],[]⟩
theorem impl_IsName_eq (a0 : List UInt8) : impl_IsName a0 =
 impl_IsName_p0 a0 0 :=
 (mk_f _ _ _ _ _ _ _ 4000).trans (by kernel_rfl)
theorem impl_IsName_p0_eq  (v0 : List UInt8) (v3 : Int) : impl_IsName_p0 v0 v3 =
 if decide (v3 < (v0.length : Int)) then
  if decide (0 ≤ v3) then
   (v0[v3.toNat]?).bind fun x1 =>
    if decide ((x1.toNat : Int) ≥ 97) then
     if decide (0 ≤ v3) then
      (v0[v3.toNat]?).bind fun x2 =>
       impl_IsName_p1 v0 v3 (decide ((x2.toNat : Int) ≤ 122))
     else
      none
    else
     impl_IsName_p1 v0 v3 false
  else
   none
 else
  if (!(v0 == [])) then
   (impl_few (v0.length : Int) 10).bind fun x3 =>
    some x3
  else
   some false :=
 (goL_dn _ _ _ 4000 _ _).trans (by kernel_rfl)
theorem impl_IsName_p1_eq  (v0 : List UInt8) (v3 : Int) (v4 : Bool) : impl_IsName_p1 v0 v3 v4 =
 if (!v4) then
  if (v3 == 0) then
   some false
  else
   if decide (0 ≤ v3) then
    (v0[v3.toNat]?).bind fun x1 =>
     (impl_isDigit (x1.toNat : Int)).bind fun x2 =>
      if (!x2) then
       some false
      else
       impl_IsName_p0 v0 (IntKind.i64.wrap (v3 + 1))
   else
    none
 else
  impl_IsName_p0 v0 (IntKind.i64.wrap (v3 + 1)) :=
 (goL_dn _ _ _ 4000 _ _).trans (by kernel_rfl)
def impl_within_ir : Fn := { np := 3,io := [],res := [.t 6],own := [false],body :=
 (.seq (.reg false [.V 6 (.asg (.c (.bool false)))] [0,1,2] []) (.seq (.reg false [.V 7 (.mv (.t 1)),.V 8 (.mv (.t 0)),.V 9 (.bin .leq (.t 7) (.t 8)),.V 10 (.mv (.t 9)),.G 11 (.mv (.t 0)) 3 true,.G 12 (.mv (.t 2)) 3 true,.G 13 (.bin .leq (.t 11) (.t 12)) 3 true,.V 14 (.pick (.t 10) (.t 13) (.c (.bool false))),.V 6 (.asg (.t 14))] [6] []) .ret)) }
noncomputable def impl_within_D : List (Nat × Callee) := []
def impl_within_H : List (Nat × ET) := []
noncomputable def impl_within_c : Callee := mkCallee impl_within_D impl_within_H impl_within_ir [.d (.one (.int .i64)),.d (.one (.int .i64)),.d (.one (.int .i64))] [.d (.one .bool)] []
noncomputable def impl_within (a0 : Int) (a1 : Int) (a2 : Int) : Option (Bool) := impl_within_c.f (a0,a1,a2,())
theorem impl_within_eq (a0 : Int) (a1 : Int) (a2 : Int) : impl_within a0 a1 a2 =
 if decide (a1 ≤ a0) then
  some (decide (a0 ≤ a2))
 else
  some false :=
 (mk_f _ _ _ _ _ _ _ 4000).trans (by kernel_rfl)
def impl_Paper_valid_ir : Fn := { np := 1,io := [],res := [.t 2],own := [false],body :=
 (.seq (.reg false [.W 1 (.box 5 (.t 0)),.V 2 (.asg (.c (.bool false)))] [1] [1]) (.seq (.reg false [.V 3 (.fa 0 (.t 1)),.V 4 (.ld none (.t 3)),.V 5 (.call (.c (.fn 24 [])) [.t 4]),.V 6 (.mv (.t 5)),.G 7 (.fa 1 (.t 1)) 3 true,.G 8 (.ld none (.t 7)) 3 true,.G 9 (.call (.c (.fn 24 [])) [.t 8]) 3 true,.V 10 (.pick (.t 6) (.t 9) (.c (.bool false))),.V 11 (.mv (.t 10)),.G 12 (.fa 2 (.t 1)) 8 true,.G 13 (.ld none (.t 12)) 8 true,.G 14 (.bin .leq (.c (.int .i64 1500)) (.t 13)) 8 true,.V 15 (.pick (.t 11) (.t 14) (.c (.bool false))),.V 16 (.mv (.t 15)),.G 17 (.fa 2 (.t 1)) 13 true,.G 18 (.ld none (.t 17)) 13 true,.G 19 (.fa 3 (.t 1)) 13 true,.G 20 (.ld none (.t 19)) 13 true,.G 21 (.bin .leq (.t 18) (.t 20)) 13 true,.V 22 (.pick (.t 16) (.t 21) (.c (.bool false))),.V 23 (.mv (.t 22)),.G 24 (.fa 3 (.t 1)) 20 true,.G 25 (.ld none (.t 24)) 20 true,.G 26 (.bin .leq (.t 25) (.c (.int .i64 2100))) 20 true,.V 27 (.pick (.t 23) (.t 26) (.c (.bool false))),.V 28 (.mv (.t 27)),.G 29 (.fa 4 (.t 1)) 25 true,.G 30 (.ld none (.t 29)) 25 true,.G 31 (.call (.c (.fn 23 [])) [.t 30,.c (.int .i64 1),.c (.int .i64 1000)]) 25 true,.V 32 (.pick (.t 28) (.t 31) (.c (.bool false))),.V 2 (.asg (.t 32))] [2] []) .ret)) }
noncomputable def impl_Paper_valid_D : List (Nat × Callee) := [(23,impl_within_c),(24,impl_IsName_c)]
def impl_Paper_valid_H : List (Nat × ET) := []
noncomputable def impl_Paper_valid_c : Callee := mkCallee impl_Paper_valid_D impl_Paper_valid_H impl_Paper_valid_ir [.d T_Paper] [.d (.one .bool)] []
noncomputable def impl_Paper_valid (a0 : T_Paper.ty) : Option (Bool) := impl_Paper_valid_c.f (a0,())
theorem impl_Paper_valid_eq (a0 : T_Paper.ty) : impl_Paper_valid a0 =
 (impl_IsName a0.1).bind fun x1 =>
  if x1 then
   (impl_IsName a0.2.1).bind fun x2 =>
    if x2 then
     if decide (1500 ≤ a0.2.2.1) then
      if decide (a0.2.2.1 ≤ a0.2.2.2.1) then
       if decide (a0.2.2.2.1 ≤ 2100) then
        (impl_within a0.2.2.2.2.1 1 1000).bind fun x3 =>
         some x3
       else
        some false
      else
       some false
     else
      some false
    else
     some false
  else
   some false :=
 (mk_f _ _ _ _ _ _ _ 4000).trans (by kernel_rfl)
def impl_ValidPapers_k0 : C :=
 .seq (.reg false [.V 8 (.bin .lss (.t 7) (.t 6))] [0,5,6,7,8] []) (.seq (.cond (.t 8) .skip (.exit 0)) (.seq (.block 1 (.seq (.reg false [.V 9 (.mv (.t 7)),.V 10 (.ia 5 (.t 5) (.t 7)),.V 11 (.ld (some 5) (.t 10)),.W 4 (.alloc 5 (.agg [.str [],.str [],.int .i64 0,.int .i64 0,.int .i64 0])),.V 3 (.asg (.t 9)),⟨none,true,.sto 5 (.t 4) (.t 11),none,false,[]⟩] [0,3,4,5,6,7] [4]) (.seq (.reg true [.V 12 (.ld (some 5) (.t 4)),.V 13 (.call (.c (.fn 809 [])) [.t 12]),.V 14 (.un .not (.t 13)),.V 15 (.mv (.t 14)),.G 16 (.mv (.t 3)) 3 false,.G 17 (.bin .gtr (.t 16) (.c (.int .i64 0))) 3 false,.G 18 (.mv (.t 17)) 3 false,.G 19 (.mv (.t 0)) 6 true,.G 20 (.mv (.t 3)) 6 true,.G 21 (.bin .sub (.t 20) (.c (.int .i64 1))) 6 true,.G 22 (.ia 5 (.t 19) (.t 21)) 6 true,.G 23 (.fa 0 (.t 22)) 6 true,.G 24 (.ld none (.t 23)) 6 true,.G 25 (.fa 0 (.t 4)) 6 true,.G 26 (.ld none (.t 25)) 6 true,.G 27 (.bin .geq (.t 24) (.t 26)) 6 true,.G 28 (.pick (.t 18) (.t 27) (.c (.bool false))) 3 false,.V 29 (.pick (.t 15) (.c (.bool true)) (.t 28))] [0,5,6,7,29] []) (.cond (.t 29) (.seq (.reg false [.V 2 (.asg (.c (.bool false)))] [2] []) .ret) .skip)))) (.reg false [.V 30 (.bin .add (.t 7) (.c (.int .i64 1))),.V 7 (.mv (.t 30))] [0,5,6,7] [])))
def impl_ValidPapers_k1 : C :=
 .norm [0,5,6,7] [] impl_ValidPapers_k0
def impl_ValidPapers_k2 : C :=
 .seq (.reg false [.V 31 (.mv (.t 0)),.V 32 (.len (.t 31)),.V 33 (.call (.c (.fn 21 [])) [.t 32,.c (.int .i64 12)]),.V 2 (.asg (.t 33))] [2] []) .ret
def impl_ValidPapers_ir : Fn := { np := 1,io := [],res := [.t 2],own := [false],body :=
 (.seq (.reg false [.V 2 (.asg (.c (.bool false)))] [0] []) (.seq (.seq (.reg false [.V 5 (.mv (.t 0)),.V 6 (.len (.t 5)),.V 7 (.mv (.c (.int .i64 0)))] [0,5,6,7] []) (.block 0 (.loop impl_ValidPapers_k1))) impl_ValidPapers_k2)) }
noncomputable def impl_ValidPapers_D : List (Nat × Callee) := [(21,impl_few_c),(809,impl_Paper_valid_c)]
def impl_ValidPapers_H : List (Nat × ET) := [(5,T_Paper),(19,T_Paper),(31,T_Paper)]
noncomputable def impl_ValidPapers_c : Callee := mkCallee impl_ValidPapers_D impl_ValidPapers_H impl_ValidPapers_ir [.d (.one (.sl T_Paper))] [.d (.one .bool)] []
noncomputable def impl_ValidPapers (a0 : List T_Paper.ty) : Option (Bool) := impl_ValidPapers_c.f (a0,())
noncomputable def impl_ValidPapers_p0  (v0 : List T_Paper.ty) (v5 : List T_Paper.ty) (v6 : Int) (v7 : Int) : Option (Bool) :=
 goL impl_ValidPapers_D impl_ValidPapers_H (vleave impl_ValidPapers_ir [.d (.one (.sl T_Paper))] [.d (.one .bool)] [] []) [.c impl_ValidPapers_k0,.l impl_ValidPapers_k1,.e 0,.c impl_ValidPapers_k2]
  ⟨[(0,.sl T_Paper v0),(5,.sl T_Paper v5),(6,.int .i64 v6),(7,.int .i64 v7)],[]⟩
theorem impl_ValidPapers_eq (a0 : List T_Paper.ty) : impl_ValidPapers a0 =
 impl_ValidPapers_p0 a0 a0 (a0.length : Int) 0 :=
 (mk_f _ _ _ _ _ _ _ 4000).trans (by kernel_rfl)
theorem impl_ValidPapers_p0_eq  (v0 : List T_Paper.ty) (v5 : List T_Paper.ty) (v6 : Int) (v7 : Int) : impl_ValidPapers_p0 v0 v5 v6 v7 =
 if decide (v7 < v6) then
  if decide (0 ≤ v7) then
   (v5[v7.toNat]?).bind fun x1 =>
    (impl_Paper_valid x1).bind fun x2 =>
     if (!x2) then
      some false
     else
      if decide (v7 > 0) then
       if decide (0 ≤ IntKind.i64.wrap (v7 - 1)) then
        (v0[(IntKind.i64.wrap (v7 - 1)).toNat]?).bind fun x3 =>
         if (!Op.bytesLess x3.1 x1.1) then
          some false
         else
          impl_ValidPapers_p0 v0 v5 v6 (IntKind.i64.wrap (v7 + 1))
       else
        none
      else
       impl_ValidPapers_p0 v0 v5 v6 (IntKind.i64.wrap (v7 + 1))
  else
   none
 else
  (impl_few (v0.length : Int) 12).bind fun x4 =>
   some x4 :=
 (goL_dn _ _ _ 4000 _ _).trans (by kernel_rfl)
def impl_clone_int64__ir : Fn := { np := 1,io := [],res := [.t 2],own := [true],body :=
 (.seq (.reg false [.W 2 (.asg (.c (.nils 1)))] [0] []) (.seq (.reg false [.V 3 (.mv (.t 0)),.V 4 (.len (.t 3)),.V 5 (.mks 1 8 (.int .i64 0) (.c (.int .i64 0)) (.t 4)),.V 6 (.mv (.t 0)),.W 7 (.app 1 8 (.t 5) (.t 6)),.W 2 (.asg (.t 7))] [2] [2]) .ret)) }
noncomputable def impl_clone_int64__D : List (Nat × Callee) := []
def impl_clone_int64__H : List (Nat × ET) := [(2,(.one (.int .i64))),(3,(.one (.int .i64))),(5,(.one (.int .i64))),(6,(.one (.int .i64))),(7,(.one (.int .i64)))]
noncomputable def impl_clone_int64__c : Callee := mkCallee impl_clone_int64__D impl_clone_int64__H impl_clone_int64__ir [.d (.one (.sl (.one (.int .i64))))] [.tok (.one (.int .i64))] []
noncomputable def impl_clone_int64_ (a0 : List Int) : Option (List Int) := impl_clone_int64__c.f (a0,())
theorem impl_clone_int64__eq (a0 : List Int) : impl_clone_int64_ a0 =
 if decide (0 ≤ (a0.length : Int)) && decide ((a0.length : Int).toNat < lim) then
  if decide (0 + a0.length < lim) then
   some (([] ++ a0).take (([] ++ a0).length))
  else
   none
 else
  none :=
 (mk_f _ _ _ _ _ _ _ 4000).trans (by kernel_rfl)
def impl_clash_ir : Fn := { np := 2,io := [],res := [.t 4],own := [false],body :=
 (.seq (.reg false [.W 2 (.box 5 (.t 0)),.W 3 (.box 5 (.t 1)),.V 4 (.asg (.c (.bool false)))] [2,3] [2,3]) (.seq (.reg false [.V 5 (.fa 1 (.t 2)),.V 6 (.ld none (.t 5)),.V 7 (.fa 1 (.t 3)),.V 8 (.ld none (.t 7)),.V 9 (.bin .neq (.t 6) (.t 8)),.V 10 (.mv (.t 9)),.G 11 (.fa 2 (.t 2)) 5 false,.G 12 (.ld none (.t 11)) 5 false,.G 13 (.fa 2 (.t 3)) 5 false,.G 14 (.ld none (.t 13)) 5 false,.G 15 (.max [.t 12,.t 14]) 5 false,.G 16 (.fa 3 (.t 2)) 5 false,.G 17 (.ld none (.t 16)) 5 false,.G 18 (.fa 3 (.t 3)) 5 false,.G 19 (.ld none (.t 18)) 5 false,.G 20 (.min [.t 17,.t 19]) 5 false,.G 21 (.bin .gtr (.t 15) (.t 20)) 5 false,.V 22 (.pick (.t 10) (.c (.bool true)) (.t 21)),.V 4 (.asg (.t 22))] [4] []) .ret)) }
noncomputable def impl_clash_D : List (Nat × Callee) := []
def impl_clash_H : List (Nat × ET) := []
noncomputable def impl_clash_c : Callee := mkCallee impl_clash_D impl_clash_H impl_clash_ir [.d T_Paper,.d T_Paper] [.d (.one .bool)] []
noncomputable def impl_clash (a0 : T_Paper.ty) (a1 : T_Paper.ty) : Option (Bool) := impl_clash_c.f (a0,a1,())
theorem impl_clash_eq (a0 : T_Paper.ty) (a1 : T_Paper.ty) : impl_clash a0 a1 =
 if (!(a0.2.1 == a1.2.1)) then
  some true
 else
  some (decide ((if a1.2.2.1 > a0.2.2.1 then a1.2.2.1 else a0.2.2.1) > (if a1.2.2.2.1 < a0.2.2.2.1 then a1.2.2.2.1 else a0.2.2.2.1))) :=
 (mk_f _ _ _ _ _ _ _ 4000).trans (by kernel_rfl)
def impl_clashesWith_1_ir : Fn := { np := 3,io := [],res := [.t 4],own := [false],body :=
 (.seq (.reg false [.V 4 (.asg (.c (.bool false)))] [0,1,2] []) (.seq (.reg true [.V 5 (.ld none (.t 1)),.V 6 (.mv (.t 0)),.V 7 (.ia 5 (.t 5) (.t 6)),.V 8 (.ld (some 5) (.t 7)),.V 9 (.ld (some 5) (.t 2)),.V 10 (.call (.c (.fn 641 [])) [.t 8,.t 9]),.V 4 (.asg (.t 10))] [4] []) .ret)) }
noncomputable def impl_clashesWith_1_D : List (Nat × Callee) := [(641,impl_clash_c)]
def impl_clashesWith_1_H : List (Nat × ET) := [(5,T_Paper)]
noncomputable def impl_clashesWith_1_c : Callee := mkCallee impl_clashesWith_1_D impl_clashesWith_1_H impl_clashesWith_1_ir [.d (.one (.int .i64)),.p (.one (.sl T_Paper)),.p T_Paper] [.d (.one .bool)] []
noncomputable def impl_clashesWith_1 (a0 : Int) (a1 : List T_Paper.ty) (a2 : T_Paper.ty) : Option (Bool) := impl_clashesWith_1_c.f (a0,a1,a2,())
theorem impl_clashesWith_1_eq (a0 : Int) (a1 : List T_Paper.ty) (a2 : T_Paper.ty) : impl_clashesWith_1 a0 a1 a2 =
 if decide (0 ≤ a0) then
  (a1[a0.toNat]?).bind fun x1 =>
   (impl_clash x1 a2).bind fun x2 =>
    some x2
 else
  none :=
 (mk_f _ _ _ _ _ _ _ 4000).trans (by kernel_rfl)
def slices_IndexFunc___int64_int64__impl_clashesWith_1_k0 : C :=
 .seq (.reg false [.V 9 (.bin .lss (.t 8) (.t 7))] [0,1,7,8,9] []) (.seq (.cond (.t 9) .skip (.exit 0)) (.seq (.block 1 (.seq (.reg false [.V 10 (.mv (.t 8)),.V 5 (.asg (.t 10))] [0,1,5,7,8] []) (.seq (.reg false [.V 11 (.mv (.t 1)),.V 12 (.mv (.t 0)),.V 13 (.mv (.t 5)),.V 14 (.ia 1 (.t 12) (.t 13)),.V 15 (.ld none (.t 14)),.V 16 (.call (.t 11) [.t 15])] [0,1,5,7,8,16] []) (.cond (.t 16) (.seq (.reg false [.V 17 (.mv (.t 5)),.V 4 (.asg (.t 17))] [4] []) .ret) .skip)))) (.reg false [.V 18 (.bin .add (.t 8) (.c (.int .i64 1))),.V 8 (.mv (.t 18))] [0,1,7,8] [])))
def slices_IndexFunc___int64_int64__impl_clashesWith_1_k1 : C :=
 .norm [0,1,7,8] [] slices_IndexFunc___int64_int64__impl_clashesWith_1_k0
def slices_IndexFunc___int64_int64__impl_clashesWith_1_k2 : C :=
 .seq (.reg false [.V 4 (.asg (.c (.int .i64 (-1))))] [4] []) .ret
def slices_IndexFunc___int64_int64__impl_clashesWith_1_ir : Fn := { np := 2,io := [],res := [.t 4],own := [false],body :=
 (.seq (.reg false [.V 4 (.asg (.c (.int .i64 0)))] [0,1] []) (.seq (.seq (.reg false [.V 6 (.mv (.t 0)),.V 7 (.len (.t 6)),.V 8 (.mv (.c (.int .i64 0)))] [0,1,7,8] []) (.block 0 (.loop slices_IndexFunc___int64_int64__impl_clashesWith_1_k1))) slices_IndexFunc___int64_int64__impl_clashesWith_1_k2)) }
noncomputable def slices_IndexFunc___int64_int64__impl_clashesWith_1_D : List (Nat × Callee) := [(980,impl_clashesWith_1_c)]
def slices_IndexFunc___int64_int64__impl_clashesWith_1_H : List (Nat × ET) := [(6,(.one (.int .i64))),(12,(.one (.int .i64)))]
noncomputable def slices_IndexFunc___int64_int64__impl_clashesWith_1_c : Callee := mkCallee slices_IndexFunc___int64_int64__impl_clashesWith_1_D slices_IndexFunc___int64_int64__impl_clashesWith_1_H slices_IndexFunc___int64_int64__impl_clashesWith_1_ir [.d (.one (.sl (.one (.int .i64)))),.fn 980 [(.one (.sl T_Paper)),T_Paper]] [.d (.one (.int .i64))] []
noncomputable def slices_IndexFunc___int64_int64__impl_clashesWith_1 (a0 : List Int) (a1 : (List T_Paper.ty) × T_Paper.ty × Unit) : Option (Int) := slices_IndexFunc___int64_int64__impl_clashesWith_1_c.f (a0,a1,())
noncomputable def slices_IndexFunc___int64_int64__impl_clashesWith_1_p0  (v0 : List Int) (v1_0_0 : List T_Paper.ty) (v1_1_0 : List UInt8) (v1_1_1 : List UInt8) (v1_1_2 : Int) (v1_1_3 : Int) (v1_1_4 : Int) (v7 : Int) (v8 : Int) : Option (Int) :=
 goL slices_IndexFunc___int64_int64__impl_clashesWith_1_D slices_IndexFunc___int64_int64__impl_clashesWith_1_H (vleave slices_IndexFunc___int64_int64__impl_clashesWith_1_ir [.d (.one (.sl (.one (.int .i64)))),.fn 980 [(.one (.sl T_Paper)),T_Paper]] [.d (.one (.int .i64))] [] []) [.c slices_IndexFunc___int64_int64__impl_clashesWith_1_k0,.l slices_IndexFunc___int64_int64__impl_clashesWith_1_k1,.e 0,.c slices_IndexFunc___int64_int64__impl_clashesWith_1_k2]
  ⟨[(0,.sl (.one (.int .i64)) v0),(1,.fn 980 [.ptr [.sl T_Paper v1_0_0] 0,.ptr [.str v1_1_0,.str v1_1_1,.int .i64 v1_1_2,.int .i64 v1_1_3,.int .i64 v1_1_4] 0]),(7,.int .i64 v7),(8,.int .i64 v8)],[]⟩
theorem slices_IndexFunc___int64_int64__impl_clashesWith_1_eq (a0 : List Int) (a1 : (List T_Paper.ty) × T_Paper.ty × Unit) : slices_IndexFunc___int64_int64__impl_clashesWith_1 a0 a1 =
 slices_IndexFunc___int64_int64__impl_clashesWith_1_p0 a0 a1.1 a1.2.1.1 a1.2.1.2.1 a1.2.1.2.2.1 a1.2.1.2.2.2.1 a1.2.1.2.2.2.2.1 (a0.length : Int) 0 :=
 (mk_f _ _ _ _ _ _ _ 4000).trans (by kernel_rfl)
theorem slices_IndexFunc___int64_int64__impl_clashesWith_1_p0_eq  (v0 : List Int) (v1_0_0 : List T_Paper.ty) (v1_1_0 : List UInt8) (v1_1_1 : List UInt8) (v1_1_2 : Int) (v1_1_3 : Int) (v1_1_4 : Int) (v7 : Int) (v8 : Int) : slices_IndexFunc___int64_int64__impl_clashesWith_1_p0 v0 v1_0_0 v1_1_0 v1_1_1 v1_1_2 v1_1_3 v1_1_4 v7 v8 =
 if decide (v8 < v7) then
  if decide (0 ≤ v8) then
   (v0[v8.toNat]?).bind fun x1 =>
    (impl_clashesWith_1 x1 v1_0_0 (v1_1_0,v1_1_1,v1_1_2,v1_1_3,v1_1_4,())).bind fun x2 =>
     if x2 then
      some v8
     else
      slices_IndexFunc___int64_int64__impl_clashesWith_1_p0 v0 v1_0_0 v1_1_0 v1_1_1 v1_1_2 v1_1_3 v1_1_4 v7 (IntKind.i64.wrap (v8 + 1))
  else
   none
 else
  some (-1) :=
 (goL_dn _ _ _ 4000 _ _).trans (by kernel_rfl)
def slices_ContainsFunc___int64_int64__impl_clashesWith_1_ir : Fn := { np := 2,io := [],res := [.t 4],own := [false],body :=
 (.seq (.reg false [.V 4 (.asg (.c (.bool false)))] [0,1] []) (.seq (.reg false [.V 5 (.mv (.t 0)),.V 6 (.mv (.t 1)),.V 7 (.call (.c (.fn 1264 [])) [.t 5,.t 6]),.V 8 (.bin .geq (.t 7) (.c (.int .i64 0))),.V 4 (.asg (.t 8))] [4] []) .ret)) }
noncomputable def slices_ContainsFunc___int64_int64__impl_clashesWith_1_D : List (Nat × Callee) := [(980,impl_clashesWith_1_c),(1264,slices_IndexFunc___int64_int64__impl_clashesWith_1_c)]
def slices_ContainsFunc___int64_int64__impl_clashesWith_1_H : List (Nat × ET) := [(5,(.one (.int .i64)))]
noncomputable def slices_ContainsFunc___int64_int64__impl_clashesWith_1_c : Callee := mkCallee slices_ContainsFunc___int64_int64__impl_clashesWith_1_D slices_ContainsFunc___int64_int64__impl_clashesWith_1_H slices_ContainsFunc___int64_int64__impl_clashesWith_1_ir [.d (.one (.sl (.one (.int .i64)))),.fn 980 [(.one (.sl T_Paper)),T_Paper]] [.d (.one .bool)] []
noncomputable def slices_ContainsFunc___int64_int64__impl_clashesWith_1 (a0 : List Int) (a1 : (List T_Paper.ty) × T_Paper.ty × Unit) : Option (Bool) := slices_ContainsFunc___int64_int64__impl_clashesWith_1_c.f (a0,a1,())
theorem slices_ContainsFunc___int64_int64__impl_clashesWith_1_eq (a0 : List Int) (a1 : (List T_Paper.ty) × T_Paper.ty × Unit) : slices_ContainsFunc___int64_int64__impl_clashesWith_1 a0 a1 =
 (slices_IndexFunc___int64_int64__impl_clashesWith_1 a0 (a1.1,(a1.2.1.1,a1.2.1.2.1,a1.2.1.2.2.1,a1.2.1.2.2.2.1,a1.2.1.2.2.2.2.1,()),())).bind fun x1 =>
  some (decide (x1 ≥ 0)) :=
 (mk_f _ _ _ _ _ _ _ 4000).trans (by kernel_rfl)
def impl_clashesWith_ir : Fn := { np := 3,io := [],res := [.t 6],own := [false],body :=
 (.seq (.reg false [.W 3 (.box 1 (.t 0)),.W 5 (.box 5 (.t 2)),.V 6 (.asg (.c (.bool false)))] [1,3,5] [3,5,4000]) (.seq (.reg false [.V 7 (.mv (.t 1)),.V 8 (.mkf 980 [.t 3,.t 5]),.V 9 (.call (.c (.fn 1265 [])) [.t 7,.t 8]),.V 6 (.asg (.t 9))] [6] []) .ret)) }
noncomputable def impl_clashesWith_D : List (Nat × Callee) := [(1265,slices_ContainsFunc___int64_int64__impl_clashesWith_1_c)]
def impl_clashesWith_H : List (Nat × ET) := [(7,(.one (.int .i64)))]
noncomputable def impl_clashesWith_c : Callee := mkCallee impl_clashesWith_D impl_clashesWith_H impl_clashesWith_ir [.d (.one (.sl T_Paper)),.d (.one (.sl (.one (.int .i64)))),.d T_Paper] [.d (.one .bool)] []
noncomputable def impl_clashesWith (a0 : List T_Paper.ty) (a1 : List Int) (a2 : T_Paper.ty) : Option (Bool) := impl_clashesWith_c.f (a0,a1,a2,())
theorem impl_clashesWith_eq (a0 : List T_Paper.ty) (a1 : List Int) (a2 : T_Paper.ty) : impl_clashesWith a0 a1 a2 =
 (slices_ContainsFunc___int64_int64__impl_clashesWith_1 a1 (a0,a2,())).bind fun x1 =>
  some x1 :=
 (mk_f _ _ _ _ _ _ _ 4000).trans (by kernel_rfl)
def impl_trusting_node_ir : Fn := { np := 1,io := [true],res := [.t 2],own := [false],body :=
 (.seq (.reg false [.V 2 (.asg (.c (.bool false)))] [0] [0,1000,1002,1004]) (.seq (.reg false [.V 3 (.mv (.t 0)),.V 4 (.nilck (.t 3)),.V 5 (.fa 1 (.t 4)),.V 6 (.ld none (.t 5)),.V 7 (.bin .sub (.t 6) (.c (.int .i64 1))),.V 8 (.nilck (.t 3)),.V 9 (.fa 1 (.t 8)),⟨none,true,.sto 1 (.t 9) (.t 7),none,false,[]⟩] [0] [0,1000,1002,1004]) (.seq (.reg false [.V 10 (.mv (.t 0)),.V 11 (.nilck (.t 10)),.V 12 (.fa 1 (.t 11)),.V 13 (.ld none (.t 12)),.V 14 (.bin .geq (.t 13) (.c (.int .i64 0))),.V 2 (.asg (.t 14))] [0,2] [0,1000,1002,1004]) .ret))) }
noncomputable def impl_trusting_node_D : List (Nat × Callee) := []
def impl_trusting_node_H : List (Nat × ET) := []
noncomputable def impl_trusting_node_c : Callee := mkCallee impl_trusting_node_D impl_trusting_node_H impl_trusting_node_ir [.box T_trustingO] [.d (.one .bool)] [.box T_trustingO]
noncomputable def impl_trusting_node (a0 : T_trustingO.ty) : Option (Bool × T_trustingO.ty) := impl_trusting_node_c.f (a0,())
theorem impl_trusting_node_eq (a0 : T_trustingO.ty) : impl_trusting_node a0 =
 some (decide (IntKind.i64.wrap (a0.2.1 - 1) ≥ 0),(a0.1,IntKind.i64.wrap (a0.2.1 - 1),(a0.2.2.1.take a0.2.2.1.length),a0.2.2.2.1,(a0.2.2.2.2.1.take a0.2.2.2.2.1.length),a0.2.2.2.2.2.1,())) :=
 (mk_f _ _ _ _ _ _ _ 4000).trans (by kernel_rfl)
def impl_trusting_search_k0 : C :=
 .seq (.reg false [.V 110 (.mv (.t 0)),.W 111 (.call (.c (.fn 979 [])) [.t 110]),.V 112 (.mv (.t 111)),.G 113 (.mv (.t 0)) 2 true,.G 114 (.mv (.t 1)) 2 true,.G 115 (.bin .add (.t 114) (.c (.int .i64 1))) 2 true,⟨some 116,true,.call (.c (.fn 802 [])) [.t 113,.t 115],some (2,true),false,[]⟩,.V 117 (.pick (.t 112) (.t 116) (.c (.bool false))),.V 4 (.asg (.t 117))] [0,4] [0,1000,1002,1004]) .ret
def impl_trusting_search_ir : Fn := { np := 2,io := [true,false],res := [.t 4],own := [false],body :=
 (.seq (.reg false [.V 4 (.asg (.c (.bool false)))] [0,1] [0,1000,1002,1004]) (.seq (.seq (.reg false [.V 8 (.mv (.t 1)),.V 9 (.mv (.t 0)),.V 10 (.nilck (.t 9)),.V 11 (.fa 0 (.t 10)),.V 12 (.ld none (.t 11)),.V 13 (.len (.t 12)),.V 14 (.bin .eql (.t 8) (.t 13))] [0,1,14] [0,1000,1002,1004]) (.cond (.t 14) (.seq (.seq (.reg true [.V 15 (.mv (.t 0)),.V 16 (.nilck (.t 15)),.V 17 (.fa 3 (.t 16)),.V 18 (.ld none (.t 17)),.V 19 (.mv (.t 0)),.V 20 (.nilck (.t 19)),.V 21 (.fa 5 (.t 20)),.V 22 (.ld none (.t 21)),.V 23 (.bin .gtr (.t 18) (.t 22))] [0,23] [0,1000,1002,1004]) (.cond (.t 23) (.reg true [.V 24 (.mv (.t 0)),.V 25 (.mv (.t 0)),.V 26 (.mv (.t 0)),.V 27 (.nilck (.t 26)),.V 28 (.fa 2 (.t 27)),.V 29 (.ld none (.t 28)),.V 30 (.call (.c (.fn 624 [])) [.t 29]),.V 31 (.mv (.t 0)),.V 32 (.nilck (.t 31)),.V 33 (.fa 3 (.t 32)),.V 34 (.ld none (.t 33)),.V 35 (.nilck (.t 24)),.V 36 (.fa 4 (.t 35)),⟨none,true,.sto 1 (.t 36) (.t 30),none,true,[0]⟩,.V 37 (.nilck (.t 25)),.V 38 (.fa 5 (.t 37)),⟨none,true,.sto 1 (.t 38) (.t 34),none,false,[]⟩] [0] [0,1000,1002,1004]) .skip)) (.seq (.reg false [.V 4 (.asg (.c (.bool true)))] [0,4] [0,1000,1002,1004]) .ret)) .skip)) (.seq (.reg true [⟨some 39,false,.mv (.t 0),none,false,[5]⟩,⟨some 40,false,.nilck (.t 39),none,false,[5]⟩,⟨some 41,false,.fa 0 (.t 40),none,false,[5]⟩,⟨some 42,false,.ld none (.t 41),none,false,[5]⟩,⟨some 43,false,.mv (.t 1),none,false,[5]⟩,⟨some 44,false,.ia 5 (.t 42) (.t 43),none,false,[5]⟩,⟨some 45,false,.ld (some 5) (.t 44),none,false,[5]⟩,⟨some 46,false,.mv (.t 0),none,false,[5]⟩,⟨some 47,false,.nilck (.t 46),none,false,[5]⟩,⟨some 48,false,.fa 2 (.t 47),none,false,[5]⟩,⟨some 49,false,.ld none (.t 48),none,false,[5]⟩,⟨some 50,false,.len (.t 49),none,false,[5]⟩,.W 5 (.alloc 5 (.agg [.str [],.str [],.int .i64 0,.int .i64 0,.int .i64 0])),⟨none,true,.sto 5 (.t 5) (.t 45),none,true,[3000005]⟩,.V 6 (.asg (.t 50))] [0,1,5,6] [0,5,1000,1002,1004]) (.seq (.seq (.reg true [.V 51 (.mv (.t 0)),.V 52 (.nilck (.t 51)),.V 53 (.fa 0 (.t 52)),.V 54 (.ld none (.t 53)),.V 55 (.mv (.t 0)),.V 56 (.nilck (.t 55)),.V 57 (.fa 2 (.t 56)),.V 58 (.ld none (.t 57)),.V 59 (.ld (some 5) (.t 5)),.V 60 (.call (.c (.fn 803 [])) [.t 54,.t 58,.t 59]),.V 61 (.un .not (.t 60))] [0,1,5,6,61] [0,5,1000,1002,1004]) (.cond (.t 61) (.seq (.seq (.reg false [.V 62 (.mv (.t 0)),.W 63 (.call (.c (.fn 979 [])) [.t 62]),.V 64 (.un .not (.t 63))] [0,1,5,6,64] [0,5,1000,1002,1004]) (.cond (.t 64) (.seq (.reg false [.V 4 (.asg (.c (.bool false)))] [0,4] [0,1000,1002,1004]) .ret) .skip)) (.seq (.reg true [⟨some 65,false,.mv (.t 0),none,false,[1000000,1000001,1000002]⟩,⟨some 66,false,.mv (.t 0),none,false,[1000000,1000001,1000002]⟩,.V 67 (.mv (.t 0)),.V 68 (.nilck (.t 67)),.V 69 (.fa 2 (.t 68)),.V 70 (.ld none (.t 69)),.V 71 (.mv (.t 1)),.V 72 (.bsl 1 (.int .i64 0) 1 [(0,.t 71)]),⟨some 73,true,.app 1 8 (.t 70) (.t 72),none,true,[0,5,65,66,74,75,76,77,78,79,80]⟩,⟨some 74,false,.mv (.t 0),none,false,[1000000,1000001,1000002]⟩,⟨some 75,false,.nilck (.t 74),none,false,[1000000,1000001,1000002]⟩,⟨some 76,false,.fa 3 (.t 75),none,false,[1000000,1000001,1000002]⟩,⟨some 77,false,.ld none (.t 76),none,false,[1000000,1000001,1000002]⟩,⟨some 78,false,.fa 4 (.t 5),none,false,[1000000,1000001,1000002]⟩,⟨some 79,false,.ld none (.t 78),none,true,[1000000,1000001,1000002]⟩,⟨some 80,false,.bin .add (.t 77) (.t 79),none,true,[1000000,1000001,1000002]⟩,.V 81 (.nilck (.t 65)),.V 82 (.fa 2 (.t 81)),⟨none,true,.sto 1 (.t 82) (.t 73),none,true,[0,5,66,77,78,79,80,2000005,2000078]⟩,.V 83 (.nilck (.t 66)),.V 84 (.fa 3 (.t 83)),⟨none,true,.sto 1 (.t 84) (.t 80),none,false,[]⟩] [0,1,5,6] [0,5,1000,1002,1004]) (.seq (.reg false [.V 85 (.mv (.t 0)),.V 86 (.mv (.t 1)),.V 87 (.bin .add (.t 86) (.c (.int .i64 1))),.W 88 (.call (.c (.fn 802 [])) [.t 85,.t 87]),.V 7 (.asg (.t 88))] [0,1,5,6,7] [0,5,1000,1002,1004]) (.seq (.reg true [.V 89 (.mv (.t 0)),.V 90 (.mv (.t 0)),.V 91 (.mv (.t 0)),.V 92 (.nilck (.t 91)),.V 93 (.fa 2 (.t 92)),.V 94 (.ld none (.t 93)),.V 95 (.mv (.t 6)),.V 96 (.slc 1 (.t 94) none (some (.t 95))),.V 97 (.mv (.t 0)),.V 98 (.nilck (.t 97)),.V 99 (.fa 3 (.t 98)),.V 100 (.ld none (.t 99)),⟨some 101,false,.fa 4 (.t 5),none,false,[1000000]⟩,⟨some 102,false,.ld none (.t 101),none,true,[1000000]⟩,⟨some 103,false,.bin .sub (.t 100) (.t 102),none,true,[]⟩,.V 104 (.nilck (.t 89)),.V 105 (.fa 2 (.t 104)),⟨none,true,.sto 1 (.t 105) (.t 96),none,true,[0,5,100,101,102,2000005,2000101]⟩,.V 106 (.nilck (.t 90)),.V 107 (.fa 3 (.t 106)),⟨none,true,.sto 1 (.t 107) (.t 103),none,false,[]⟩] [0,1,7] [0,1000,1002,1004]) (.seq (.reg false [.V 108 (.mv (.t 7)),.V 109 (.un .not (.t 108))] [0,1,109] [0,1000,1002,1004]) (.cond (.t 109) (.seq (.reg false [.V 4 (.asg (.c (.bool false)))] [0,4] [0,1000,1002,1004]) .ret) .skip)))))) .skip)) (.norm [0,1] [0,1000,1002,1004] impl_trusting_search_k0))))) }
def impl_trusting_search_H : List (Nat × ET) := [(12,T_Paper),(29,(.one (.int .i64))),(30,(.one (.int .i64))),(42,T_Paper),(49,(.one (.int .i64))),(54,T_Paper),(58,(.one (.int .i64))),(70,(.one (.int .i64))),(72,(.one (.int .i64))),(73,(.one (.int .i64))),(94,(.one (.int .i64))),(96,(.one (.int .i64)))]
noncomputable def impl_trusting_search_F : Nat → tysU [.box T_trustingO,.d (.one (.int .i64))] → Option (tys1 ([.d (.one .bool)] ++ [.box T_trustingO]))
 | 0 => fun _ => none
 | n + 1 => (mkCallee [(624,impl_clone_int64__c),(802,⟨[true,false],[.box T_trustingO,.d (.one (.int .i64))],[.d (.one .bool)],[.box T_trustingO],impl_trusting_search_F n⟩),(803,impl_clashesWith_c),(979,impl_trusting_node_c)] impl_trusting_search_H impl_trusting_search_ir [.box T_trustingO,.d (.one (.int .i64))] [.d (.one .bool)] [.box T_trustingO]).f
noncomputable def impl_trusting_search_D (n : Nat) : List (Nat × Callee) := [(624,impl_clone_int64__c),(802,⟨[true,false],[.box T_trustingO,.d (.one (.int .i64))],[.d (.one .bool)],[.box T_trustingO],impl_trusting_search_F n⟩),(803,impl_clashesWith_c),(979,impl_trusting_node_c)]
noncomputable def impl_trusting_search_c : Callee := ⟨[true,false],[.box T_trustingO,.d (.one (.int .i64))],[.d (.one .bool)],[.box T_trustingO],impl_trusting_search_F 1000⟩
noncomputable def impl_trusting_search_N (n : Nat) : Callee := ⟨[true,false],[.box T_trustingO,.d (.one (.int .i64))],[.d (.one .bool)],[.box T_trustingO],impl_trusting_search_F n⟩
theorem impl_trusting_search_N_eq (n : Nat) : impl_trusting_search_N (n + 1) = mkCallee (impl_trusting_search_D n) impl_trusting_search_H impl_trusting_search_ir [.box T_trustingO,.d (.one (.int .i64))] [.d (.one .bool)] [.box T_trustingO] := rfl
noncomputable def impl_trusting_search (n : Nat) (a0 : T_trustingO.ty) (a1 : Int) : Option (Bool × T_trustingO.ty) := impl_trusting_search_F n (a0,a1,())
noncomputable def impl_trusting_search_p0 (n : Nat)  (v1 : Int) (r0_0 : List T_Paper.ty) (r0_1 : Int) (r0_2n : Nat) (r0_3 : Int) (r0_5 : Int) (r1002 : List Int) (r1004 : List Int) : Option (Bool × T_trustingO.ty) :=
 goL (impl_trusting_search_D n) impl_trusting_search_H (vleave impl_trusting_search_ir [.box T_trustingO,.d (.one (.int .i64))] [.d (.one .bool)] [.box T_trustingO] []) [.c impl_trusting_search_k0]
  ⟨[(0,.loc 0 0 0),(1,.int .i64 v1)],[(0,some (.var 6 (.agg [.sl T_Paper r0_0,.int .i64 r0_1,.view 1002 0 r0_2n,.int .i64 r0_3,.view 1004 0 r1004.length,.int .i64 r0_5]))),(1000,none),(1002,some (.sl (.one (.int .i64)) r1002)),(1004,some (.sl (.one (.int .i64)) r1004))]⟩
theorem impl_trusting_search_eq (n : Nat) (a0 : T_trustingO.ty) (a1 : Int) : impl_trusting_search (n + 1) a0 a1 =
 if (a1 == (a0.1.length : Int)) then
  if decide (a0.2.2.2.1 > a0.2.2.2.2.2.1) then
   (impl_clone_int64_ (a0.2.2.1.take a0.2.2.1.length)).bind fun x1 =>
    some (true,(a0.1,a0.2.1,(a0.2.2.1.take a0.2.2.1.length),a0.2.2.2.1,(x1.take x1.length),a0.2.2.2.1,()))
  else
   some (true,(a0.1,a0.2.1,(a0.2.2.1.take a0.2.2.1.length),a0.2.2.2.1,(a0.2.2.2.2.1.take a0.2.2.2.2.1.length),a0.2.2.2.2.2.1,()))
 else
  if decide (0 ≤ a1) then
   (a0.1[a1.toNat]?).bind fun x2 =>
    (impl_clashesWith a0.1 (a0.2.2.1.take a0.2.2.1.length) x2).bind fun x3 =>
     if (!x3) then
      (impl_trusting_node (a0.1,a0.2.1,(a0.2.2.1.take a0.2.2.1.length),a0.2.2.2.1,(a0.2.2.2.2.1.take a0.2.2.2.2.1.length),a0.2.2.2.2.2.1,())).bind fun x4 =>
       if (!x4.1) then
        some (false,(x4.2.1,x4.2.2.1,(x4.2.2.2.1.take x4.2.2.2.1.length),x4.2.2.2.2.1,(x4.2.2.2.2.2.1.take x4.2.2.2.2.2.1.length),x4.2.2.2.2.2.2.1,()))
       else
        if decide (x4.2.2.2.1.length + 1 < lim) then
         (impl_trusting_search n (x4.2.1,x4.2.2.1,(((x4.2.2.2.1.take x4.2.2.2.1.length) ++ [a1]).take (((x4.2.2.2.1.take x4.2.2.2.1.length) ++ [a1]).length)),IntKind.i64.wrap (x4.2.2.2.2.1 + x2.2.2.2.2.1),(x4.2.2.2.2.2.1.take x4.2.2.2.2.2.1.length),x4.2.2.2.2.2.2.1,()) (IntKind.i64.wrap (a1 + 1))).bind fun x5 =>
          if decide (0 ≤ (a0.2.2.1.length : Int)) && decide ((a0.2.2.1.length : Int) ≤ (x5.2.2.2.1.length : Int)) then
           if (!x5.1) then
            some (false,(x5.2.1,x5.2.2.1,(x5.2.2.2.1.take ((a0.2.2.1.length : Int).toNat)),IntKind.i64.wrap (x5.2.2.2.2.1 - x2.2.2.2.2.1),(x5.2.2.2.2.2.1.take x5.2.2.2.2.2.1.length),x5.2.2.2.2.2.2.1,()))
           else
            impl_trusting_search_p0 n a1 x5.2.1 x5.2.2.1 ((a0.2.2.1.length : Int).toNat) (IntKind.i64.wrap (x5.2.2.2.2.1 - x2.2.2.2.2.1)) x5.2.2.2.2.2.2.1 x5.2.2.2.1 x5.2.2.2.2.2.1
          else
           none
        else
         none
     else
      impl_trusting_search_p0 n a1 a0.1 a0.2.1 a0.2.2.1.length a0.2.2.2.1 a0.2.2.2.2.2.1 a0.2.2.1 a0.2.2.2.2.1
  else
   none :=
 (mk_f (impl_trusting_search_D n) impl_trusting_search_H impl_trusting_search_ir [.box T_trustingO,.d (.one (.int .i64))] [.d (.one .bool)] [.box T_trustingO] (a0,a1,()) 4000).trans (by kernel_rfl)
theorem impl_trusting_search_p0_eq (n : Nat)  (v1 : Int) (r0_0 : List T_Paper.ty) (r0_1 : Int) (r0_2n : Nat) (r0_3 : Int) (r0_5 : Int) (r1002 : List Int) (r1004 : List Int) : impl_trusting_search_p0 n v1 r0_0 r0_1 r0_2n r0_3 r0_5 r1002 r1004 =
 (impl_trusting_node (r0_0,r0_1,(r1002.take r0_2n),r0_3,(r1004.take r1004.length),r0_5,())).bind fun x1 =>
  if x1.1 then
   (impl_trusting_search n (x1.2.1,x1.2.2.1,(x1.2.2.2.1.take x1.2.2.2.1.length),x1.2.2.2.2.1,(x1.2.2.2.2.2.1.take x1.2.2.2.2.2.1.length),x1.2.2.2.2.2.2.1,()) (IntKind.i64.wrap (v1 + 1))).bind fun x2 =>
    some (x2.1,(x2.2.1,x2.2.2.1,(x2.2.2.2.1.take x2.2.2.2.1.length),x2.2.2.2.2.1,(x2.2.2.2.2.2.1.take x2.2.2.2.2.2.1.length),x2.2.2.2.2.2.2.1,()))
  else
   some (false,(x1.2.1,x1.2.2.1,(x1.2.2.2.1.take x1.2.2.2.1.length),x1.2.2.2.2.1,(x1.2.2.2.2.2.1.take x1.2.2.2.2.2.1.length),x1.2.2.2.2.2.2.1,())) :=
 (goL_dn _ _ _ 4000 _ _).trans (by kernel_rfl)
def impl_MostTrusted_ir : Fn := { np := 2,io := [],res := [.t 4,.t 5,.t 6],own := [false,false,false],body :=
 (.seq (.reg false [.W 4 (.asg (.c (.nils 1))),.V 5 (.asg (.c (.int .i64 0))),.V 6 (.asg (.c (.int .i64 0)))] [0,1] []) (.seq (.seq (.reg false [.V 8 (.mv (.t 0)),.V 9 (.call (.c (.fn 635 [])) [.t 8]),.V 10 (.un .not (.t 9))] [0,1,10] []) (.cond (.t 10) (.seq (.reg false [.W 4 (.asg (.c (.nils 1))),.V 5 (.asg (.c (.int .i64 0))),.V 6 (.asg (.c (.int .i64 1)))] [4,5,6] [4,18002,18004]) .ret) .skip)) (.seq (.seq (.reg false [.V 11 (.mv (.t 1)),.V 12 (.call (.c (.fn 23 [])) [.t 11,.c (.int .i64 1),.c (.int .i64 20000)]),.V 13 (.un .not (.t 12))] [0,1,13] []) (.cond (.t 13) (.seq (.reg false [.W 4 (.asg (.c (.nils 1))),.V 5 (.asg (.c (.int .i64 0))),.V 6 (.asg (.c (.int .i64 2)))] [4,5,6] [4,18002,18004]) .ret) .skip)) (.seq (.reg false [.V 14 (.mv (.t 0)),.V 15 (.mv (.t 1)),.V 16 (.build [.nils 5,.int .i64 0,.nils 1,.int .i64 0,.nils 1,.int .i64 0] [(0,1,.t 14),(1,1,.t 15)]),.W 17 (.box 6 (.t 16)),.V 7 (.asg (.t 17))] [7] [17,18000,18002,18004]) (.seq (.seq (.opn 18002 (.opn 18004 (.reg false [.V 18 (.mv (.t 7)),.W 19 (.call (.c (.fn 802 [])) [.t 18,.c (.int .i64 0)]),.V 20 (.un .not (.t 19))] [7,20] [17,18000,18002,18004]))) (.cond (.t 20) (.seq (.reg false [.W 4 (.asg (.c (.nils 1))),.V 5 (.asg (.c (.int .i64 0))),.V 6 (.asg (.c (.int .i64 5)))] [4,5,6] [4,18002,18004]) .ret) .skip)) (.seq (.reg true [.V 21 (.mv (.t 7)),.V 22 (.nilck (.t 21)),.V 23 (.fa 4 (.t 22)),.V 24 (.ld none (.t 23)),⟨some 25,false,.mv (.t 7),none,false,[1000000]⟩,⟨some 26,false,.nilck (.t 25),none,false,[1000000]⟩,⟨some 27,false,.fa 5 (.t 26),none,false,[1000000]⟩,⟨some 28,false,.ld none (.t 27),none,true,[]⟩,⟨some 4,true,.asg (.t 24),none,false,[7,25,26,27]⟩,.V 5 (.asg (.t 28)),.V 6 (.asg (.c (.int .i64 0)))] [4,5,6] [4,18002,18004]) .ret)))))) }
noncomputable def impl_MostTrusted_D : List (Nat × Callee) := [(23,impl_within_c),(635,impl_ValidPapers_c),(802,impl_trusting_search_c)]
def impl_MostTrusted_H : List (Nat × ET) := [(4,(.one (.int .i64))),(8,T_Paper),(14,T_Paper),(24,(.one (.int .i64))),(18002,(.one (.int .i64))),(18004,(.one (.int .i64)))]
noncomputable def impl_MostTrusted_c : Callee := mkCallee impl_MostTrusted_D impl_MostTrusted_H impl_MostTrusted_ir [.d (.one (.sl T_Paper)),.d (.one (.int .i64))] [.d (.one (.sl (.one (.int .i64)))),.d (.one (.int .i64)),.d (.one (.int .i64))] []
noncomputable def impl_MostTrusted (a0 : List T_Paper.ty) (a1 : Int) : Option (List Int × Int × Int) := impl_MostTrusted_c.f (a0,a1,())
theorem impl_MostTrusted_eq (a0 : List T_Paper.ty) (a1 : Int) : impl_MostTrusted a0 a1 =
 (impl_ValidPapers a0).bind fun x1 =>
  if (!x1) then
   some ([],0,1)
  else
   (impl_within a1 1 20000).bind fun x2 =>
    if (!x2) then
     some ([],0,2)
    else
     (impl_trusting_search 1000 (a0,a1,[],0,[],0,()) 0).bind fun x3 =>
      if (!x3.1) then
       some ([],0,5)
      else
       some ((x3.2.2.2.2.2.1.take x3.2.2.2.2.2.1.length),x3.2.2.2.2.2.2.1,0) :=
 (mk_f _ _ _ _ _ _ _ 4000).trans (by kernel_rfl)
def laws_b10Rises_k0 : C :=
 .seq (.seq (.reg false [.V 6 (.mv (.t 5)),.V 7 (.mv (.t 0)),.V 8 (.len (.t 7)),.V 9 (.bin .lss (.t 6) (.t 8))] [0,1,5,9] []) (.cond (.t 9) .skip (.exit 0))) (.seq (.block 1 (.seq (.reg true [.V 12 (.mv (.t 0)),.V 13 (.mv (.t 5)),.V 14 (.ia 1 (.t 12) (.t 13)),.V 15 (.ld none (.t 14)),.V 16 (.bin .lss (.t 15) (.c (.int .i64 0))),.V 17 (.mv (.t 16)),.G 18 (.mv (.t 0)) 5 false,.G 19 (.mv (.t 5)) 5 false,.G 20 (.ia 1 (.t 18) (.t 19)) 5 false,.G 21 (.ld none (.t 20)) 5 false,.G 22 (.mv (.t 1)) 5 false,.G 23 (.bin .geq (.t 21) (.t 22)) 5 false,.V 24 (.pick (.t 17) (.c (.bool true)) (.t 23)),.V 25 (.mv (.t 24)),.G 26 (.mv (.t 5)) 13 false,.G 27 (.bin .gtr (.t 26) (.c (.int .i64 0))) 13 false,.G 28 (.mv (.t 27)) 13 false,.G 29 (.mv (.t 0)) 16 true,.G 30 (.mv (.t 5)) 16 true,.G 31 (.bin .sub (.t 30) (.c (.int .i64 1))) 16 true,.G 32 (.ia 1 (.t 29) (.t 31)) 16 true,.G 33 (.ld none (.t 32)) 16 true,.G 34 (.mv (.t 0)) 16 true,.G 35 (.mv (.t 5)) 16 true,.G 36 (.ia 1 (.t 34) (.t 35)) 16 true,.G 37 (.ld none (.t 36)) 16 true,.G 38 (.bin .geq (.t 33) (.t 37)) 16 true,.G 39 (.pick (.t 28) (.t 38) (.c (.bool false))) 13 false,.V 40 (.pick (.t 25) (.c (.bool true)) (.t 39))] [0,1,5,40] []) (.cond (.t 40) (.seq (.reg false [.V 4 (.asg (.c (.bool false)))] [4] []) .ret) .skip))) (.reg false [.V 10 (.mv (.t 5)),.V 11 (.bin .add (.t 10) (.c (.int .i64 1))),.V 5 (.asg (.t 11))] [0,1,5] []))
def laws_b10Rises_k1 : C :=
 .norm [0,1,5] [] laws_b10Rises_k0
def laws_b10Rises_k2 : C :=
 .seq (.reg false [.V 4 (.asg (.c (.bool true)))] [4] []) .ret
def laws_b10Rises_ir : Fn := { np := 2,io := [],res := [.t 4],own := [false],body :=
 (.seq (.reg false [.V 4 (.asg (.c (.bool false)))] [0,1] []) (.seq (.seq (.reg false [.V 5 (.asg (.c (.int .i64 0)))] [0,1,5] []) (.block 0 (.loop laws_b10Rises_k1))) laws_b10Rises_k2)) }
noncomputable def laws_b10Rises_D : List (Nat × Callee) := []
def laws_b10Rises_H : List (Nat × ET) := [(7,(.one (.int .i64))),(12,(.one (.int .i64))),(18,(.one (.int .i64))),(29,(.one (.int .i64))),(34,(.one (.int .i64)))]
noncomputable def laws_b10Rises_c : Callee := mkCallee laws_b10Rises_D laws_b10Rises_H laws_b10Rises_ir [.d (.one (.sl (.one (.int .i64)))),.d (.one (.int .i64))] [.d (.one .bool)] []
noncomputable def laws_b10Rises (a0 : List Int) (a1 : Int) : Option (Bool) := laws_b10Rises_c.f (a0,a1,())
noncomputable def laws_b10Rises_p0  (v0 : List Int) (v1 : Int) (v5 : Int) : Option (Bool) :=
 goL laws_b10Rises_D laws_b10Rises_H (vleave laws_b10Rises_ir [.d (.one (.sl (.one (.int .i64)))),.d (.one (.int .i64))] [.d (.one .bool)] [] []) [.c laws_b10Rises_k0,.l laws_b10Rises_k1,.e 0,.c laws_b10Rises_k2]
  ⟨[(0,.sl (.one (.int .i64)) v0),(1,.int .i64 v1),(5,.int .i64 v5)],[]⟩
theorem laws_b10Rises_eq (a0 : List Int) (a1 : Int) : laws_b10Rises a0 a1 =
 laws_b10Rises_p0 a0 a1 0 :=
 (mk_f _ _ _ _ _ _ _ 4000).trans (by kernel_rfl)
theorem laws_b10Rises_p0_eq  (v0 : List Int) (v1 : Int) (v5 : Int) : laws_b10Rises_p0 v0 v1 v5 =
 if decide (v5 < (v0.length : Int)) then
  if decide (0 ≤ v5) then
   (v0[v5.toNat]?).bind fun x1 =>
    if decide (x1 < 0) then
     some false
    else
     if decide (0 ≤ v5) then
      (v0[v5.toNat]?).bind fun x2 =>
       if decide (x2 ≥ v1) then
        some false
       else
        if decide (v5 > 0) then
         if decide (0 ≤ IntKind.i64.wrap (v5 - 1)) then
          (v0[(IntKind.i64.wrap (v5 - 1)).toNat]?).bind fun x3 =>
           if decide (0 ≤ v5) then
            (v0[v5.toNat]?).bind fun x4 =>
             if decide (x3 ≥ x4) then
              some false
             else
              laws_b10Rises_p0 v0 v1 (IntKind.i64.wrap (v5 + 1))
           else
            none
         else
          none
        else
         laws_b10Rises_p0 v0 v1 (IntKind.i64.wrap (v5 + 1))
     else
      none
  else
   none
 else
  some true :=
 (goL_dn _ _ _ 4000 _ _).trans (by kernel_rfl)
def impl_at_ir : Fn := { np := 2,io := [],res := [.t 4],own := [false],body :=
 (.seq (.reg false [.V 4 (.asg (.c (.bool false)))] [0,1] []) (.seq (.reg false [.V 5 (.mv (.t 0)),.V 6 (.bin .geq (.t 5) (.c (.int .i64 0))),.V 7 (.mv (.t 6)),.G 8 (.mv (.t 0)) 2 true,.G 9 (.mv (.t 1)) 2 true,.G 10 (.bin .lss (.t 8) (.t 9)) 2 true,.V 11 (.pick (.t 7) (.t 10) (.c (.bool false))),.V 4 (.asg (.t 11))] [4] []) .ret)) }
noncomputable def impl_at_D : List (Nat × Callee) := []
def impl_at_H : List (Nat × ET) := []
noncomputable def impl_at_c : Callee := mkCallee impl_at_D impl_at_H impl_at_ir [.d (.one (.int .i64)),.d (.one (.int .i64))] [.d (.one .bool)] []
noncomputable def impl_at (a0 : Int) (a1 : Int) : Option (Bool) := impl_at_c.f (a0,a1,())
theorem impl_at_eq (a0 : Int) (a1 : Int) : impl_at a0 a1 =
 if decide (a0 ≥ 0) then
  some (decide (a0 < a1))
 else
  some false :=
 (mk_f _ _ _ _ _ _ _ 4000).trans (by kernel_rfl)
def impl_Agrees_k0 : C :=
 .seq (.reg false [.V 13 (.bin .lss (.t 12) (.t 11))] [0,1,10,11,12,13] []) (.seq (.cond (.t 13) .skip (.exit 0)) (.seq (.block 1 (.seq (.reg false [.V 14 (.mv (.t 12)),.V 15 (.ia 1 (.t 10) (.t 12)),.V 16 (.ld none (.t 15)),.V 5 (.asg (.t 14)),.V 6 (.asg (.t 16))] [0,1,5,6,10,11,12] []) (.seq (.reg true [.V 17 (.mv (.t 6)),.V 18 (.mv (.t 0)),.V 19 (.len (.t 18)),.V 20 (.call (.c (.fn 4 [])) [.t 17,.t 19]),.V 21 (.un .not (.t 20)),.V 22 (.mv (.t 21)),.G 23 (.mv (.t 5)) 5 false,.G 24 (.bin .gtr (.t 23) (.c (.int .i64 0))) 5 false,.G 25 (.mv (.t 24)) 5 false,.G 26 (.mv (.t 1)) 8 true,.G 27 (.mv (.t 5)) 8 true,.G 28 (.bin .sub (.t 27) (.c (.int .i64 1))) 8 true,.G 29 (.ia 1 (.t 26) (.t 28)) 8 true,.G 30 (.ld none (.t 29)) 8 true,.G 31 (.mv (.t 6)) 8 true,.G 32 (.bin .geq (.t 30) (.t 31)) 8 true,.G 33 (.pick (.t 25) (.t 32) (.c (.bool false))) 5 false,.V 34 (.pick (.t 22) (.c (.bool true)) (.t 33)),.V 35 (.mv (.t 34)),.G 36 (.mv (.t 0)) 18 false,.G 37 (.mv (.t 1)) 18 false,.G 38 (.mv (.t 5)) 18 false,.G 39 (.slc 1 (.t 37) none (some (.t 38))) 18 false,.G 40 (.mv (.t 0)) 18 false,.G 41 (.mv (.t 6)) 18 false,.G 42 (.ia 5 (.t 40) (.t 41)) 18 false,.G 43 (.ld (some 5) (.t 42)) 18 false,.G 44 (.call (.c (.fn 803 [])) [.t 36,.t 39,.t 43]) 18 false,.V 45 (.pick (.t 35) (.c (.bool true)) (.t 44))] [0,1,10,11,12,45] []) (.cond (.t 45) (.seq (.reg false [.V 4 (.asg (.c (.bool false)))] [4] []) .ret) .skip)))) (.reg false [.V 46 (.bin .add (.t 12) (.c (.int .i64 1))),.V 12 (.mv (.t 46))] [0,1,10,11,12] [])))
def impl_Agrees_k1 : C :=
 .norm [0,1,10,11,12] [] impl_Agrees_k0
def impl_Agrees_k2 : C :=
 .seq (.reg false [.V 4 (.asg (.c (.bool true)))] [4] []) .ret
def impl_Agrees_ir : Fn := { np := 2,io := [],res := [.t 4],own := [false],body :=
 (.seq (.reg false [.V 4 (.asg (.c (.bool false)))] [0,1] []) (.seq (.seq (.reg false [.V 7 (.mv (.t 0)),.V 8 (.call (.c (.fn 635 [])) [.t 7]),.V 9 (.un .not (.t 8))] [0,1,9] []) (.cond (.t 9) (.seq (.reg false [.V 4 (.asg (.c (.bool false)))] [4] []) .ret) .skip)) (.seq (.seq (.reg false [.V 10 (.mv (.t 1)),.V 11 (.len (.t 10)),.V 12 (.mv (.c (.int .i64 0)))] [0,1,10,11,12] []) (.block 0 (.loop impl_Agrees_k1))) impl_Agrees_k2))) }
noncomputable def impl_Agrees_D : List (Nat × Callee) := [(4,impl_at_c),(635,impl_ValidPapers_c),(803,impl_clashesWith_c)]
def impl_Agrees_H : List (Nat × ET) := [(7,T_Paper),(10,(.one (.int .i64))),(18,T_Paper),(26,(.one (.int .i64))),(36,T_Paper),(37,(.one (.int .i64))),(39,(.one (.int .i64))),(40,T_Paper)]
noncomputable def impl_Agrees_c : Callee := mkCallee impl_Agrees_D impl_Agrees_H impl_Agrees_ir [.d (.one (.sl T_Paper)),.d (.one (.sl (.one (.int .i64))))] [.d (.one .bool)] []
noncomputable def impl_Agrees (a0 : List T_Paper.ty) (a1 : List Int) : Option (Bool) := impl_Agrees_c.f (a0,a1,())
noncomputable def impl_Agrees_p0  (v0 : List T_Paper.ty) (v1 : List Int) (v10 : List Int) (v11 : Int) (v12 : Int) : Option (Bool) :=
 goL impl_Agrees_D impl_Agrees_H (vleave impl_Agrees_ir [.d (.one (.sl T_Paper)),.d (.one (.sl (.one (.int .i64))))] [.d (.one .bool)] [] []) [.c impl_Agrees_k0,.l impl_Agrees_k1,.e 0,.c impl_Agrees_k2]
  ⟨[(0,.sl T_Paper v0),(1,.sl (.one (.int .i64)) v1),(10,.sl (.one (.int .i64)) v10),(11,.int .i64 v11),(12,.int .i64 v12)],[]⟩
theorem impl_Agrees_eq (a0 : List T_Paper.ty) (a1 : List Int) : impl_Agrees a0 a1 =
 (impl_ValidPapers a0).bind fun x1 =>
  if (!x1) then
   some false
  else
   impl_Agrees_p0 a0 a1 a1 (a1.length : Int) 0 :=
 (mk_f _ _ _ _ _ _ _ 4000).trans (by kernel_rfl)
theorem impl_Agrees_p0_eq  (v0 : List T_Paper.ty) (v1 : List Int) (v10 : List Int) (v11 : Int) (v12 : Int) : impl_Agrees_p0 v0 v1 v10 v11 v12 =
 if decide (v12 < v11) then
  if decide (0 ≤ v12) then
   (v10[v12.toNat]?).bind fun x1 =>
    (impl_at x1 (v0.length : Int)).bind fun x2 =>
     if (!x2) then
      some false
     else
      if decide (v12 > 0) then
       if decide (0 ≤ IntKind.i64.wrap (v12 - 1)) then
        (v1[(IntKind.i64.wrap (v12 - 1)).toNat]?).bind fun x3 =>
         if decide (x3 ≥ x1) then
          some false
         else
          if decide (0 ≤ v12) && decide (v12 ≤ (v1.length : Int)) then
           if decide (0 ≤ x1) then
            (v0[x1.toNat]?).bind fun x4 =>
             (impl_clashesWith v0 (v1.take v12.toNat) x4).bind fun x5 =>
              if x5 then
               some false
              else
               impl_Agrees_p0 v0 v1 v10 v11 (IntKind.i64.wrap (v12 + 1))
           else
            none
          else
           none
       else
        none
      else
       if decide (0 ≤ v12) && decide (v12 ≤ (v1.length : Int)) then
        if decide (0 ≤ x1) then
         (v0[x1.toNat]?).bind fun x6 =>
          (impl_clashesWith v0 (v1.take v12.toNat) x6).bind fun x7 =>
           if x7 then
            some false
           else
            impl_Agrees_p0 v0 v1 v10 v11 (IntKind.i64.wrap (v12 + 1))
        else
         none
       else
        none
  else
   none
 else
  some true :=
 (goL_dn _ _ _ 4000 _ _).trans (by kernel_rfl)
def spec_l01Small_ir : Fn := { np := 1,io := [],res := [.t 2],own := [false],body :=
 (.seq (.reg false [.V 2 (.asg (.c (.bool false)))] [0] []) (.seq (.reg false [.V 3 (.mv (.t 0)),.V 4 (.bin .geq (.t 3) (.c (.int .u8 97))),.V 5 (.mv (.t 4)),.G 6 (.mv (.t 0)) 2 true,.G 7 (.bin .leq (.t 6) (.c (.int .u8 122))) 2 true,.V 8 (.pick (.t 5) (.t 7) (.c (.bool false))),.V 2 (.asg (.t 8))] [2] []) .ret)) }
noncomputable def spec_l01Small_D : List (Nat × Callee) := []
def spec_l01Small_H : List (Nat × ET) := []
noncomputable def spec_l01Small_c : Callee := mkCallee spec_l01Small_D spec_l01Small_H spec_l01Small_ir [.d (.one (.int .u8))] [.d (.one .bool)] []
noncomputable def spec_l01Small (a0 : Int) : Option (Bool) := spec_l01Small_c.f (a0,())
theorem spec_l01Small_eq (a0 : Int) : spec_l01Small a0 =
 if decide (a0 ≥ 97) then
  some (decide (a0 ≤ 122))
 else
  some false :=
 (mk_f _ _ _ _ _ _ _ 4000).trans (by kernel_rfl)
def spec_l01Digit_ir : Fn := { np := 1,io := [],res := [.t 2],own := [false],body :=
 (.seq (.reg false [.V 2 (.asg (.c (.bool false)))] [0] []) (.seq (.reg false [.V 3 (.mv (.t 0)),.V 4 (.bin .geq (.t 3) (.c (.int .u8 48))),.V 5 (.mv (.t 4)),.G 6 (.mv (.t 0)) 2 true,.G 7 (.bin .leq (.t 6) (.c (.int .u8 57))) 2 true,.V 8 (.pick (.t 5) (.t 7) (.c (.bool false))),.V 2 (.asg (.t 8))] [2] []) .ret)) }
noncomputable def spec_l01Digit_D : List (Nat × Callee) := []
def spec_l01Digit_H : List (Nat × ET) := []
noncomputable def spec_l01Digit_c : Callee := mkCallee spec_l01Digit_D spec_l01Digit_H spec_l01Digit_ir [.d (.one (.int .u8))] [.d (.one .bool)] []
noncomputable def spec_l01Digit (a0 : Int) : Option (Bool) := spec_l01Digit_c.f (a0,())
theorem spec_l01Digit_eq (a0 : Int) : spec_l01Digit a0 =
 if decide (a0 ≥ 48) then
  some (decide (a0 ≤ 57))
 else
  some false :=
 (mk_f _ _ _ _ _ _ _ 4000).trans (by kernel_rfl)
def spec_l01Name_k0 : C :=
 .seq (.seq (.reg false [.V 17 (.mv (.t 3)),.V 18 (.mv (.t 0)),.V 19 (.lens (.t 18)),.V 20 (.bin .lss (.t 17) (.t 19))] [0,3,20] []) (.cond (.t 20) .skip (.exit 0))) (.seq (.block 1 (.seq (.reg false [.V 23 (.mv (.t 0)),.V 24 (.mv (.t 3)),.V 25 (.ix (.t 23) (.t 24)),.V 26 (.call (.c (.fn 11 [])) [.t 25]),.V 27 (.un .not (.t 26)),.V 28 (.mv (.t 27)),.G 29 (.mv (.t 0)) 5 true,.G 30 (.mv (.t 3)) 5 true,.G 31 (.ix (.t 29) (.t 30)) 5 true,.G 32 (.call (.c (.fn 12 [])) [.t 31]) 5 true,.G 33 (.un .not (.t 32)) 5 true,.V 34 (.pick (.t 28) (.t 33) (.c (.bool false)))] [0,3,34] []) (.cond (.t 34) (.seq (.reg false [.V 2 (.asg (.c (.bool false)))] [2] []) .ret) .skip))) (.reg false [.V 21 (.mv (.t 3)),.V 22 (.bin .add (.t 21) (.c (.int .i64 1))),.V 3 (.asg (.t 22))] [0,3] []))
def spec_l01Name_k1 : C :=
 .norm [0,3] [] spec_l01Name_k0
def spec_l01Name_k2 : C :=
 .seq (.reg false [.V 2 (.asg (.c (.bool true)))] [2] []) .ret
def spec_l01Name_k3 : C :=
 .seq (.seq (.reg false [.V 3 (.asg (.c (.int .i64 0)))] [0,3] []) (.block 0 (.loop spec_l01Name_k1))) spec_l01Name_k2
def spec_l01Name_ir : Fn := { np := 1,io := [],res := [.t 2],own := [false],body :=
 (.seq (.reg false [.V 2 (.asg (.c (.bool false)))] [0] []) (.seq (.seq (.reg false [.V 4 (.mv (.t 0)),.V 5 (.bin .eql (.t 4) (.c (.str []))),.V 6 (.mv (.t 5)),.G 7 (.mv (.t 0)) 2 false,.G 8 (.lens (.t 7)) 2 false,.G 9 (.bin .gtr (.t 8) (.c (.int .i64 10))) 2 false,.V 10 (.pick (.t 6) (.c (.bool true)) (.t 9)),.V 11 (.mv (.t 10)),.G 12 (.mv (.t 0)) 7 false,.G 13 (.ix (.t 12) (.c (.int .i64 0))) 7 false,.G 14 (.call (.c (.fn 11 [])) [.t 13]) 7 false,.G 15 (.un .not (.t 14)) 7 false,.V 16 (.pick (.t 11) (.c (.bool true)) (.t 15))] [0,16] []) (.cond (.t 16) (.seq (.reg false [.V 2 (.asg (.c (.bool false)))] [2] []) .ret) .skip)) (.norm [0] [] spec_l01Name_k3))) }
noncomputable def spec_l01Name_D : List (Nat × Callee) := [(11,spec_l01Small_c),(12,spec_l01Digit_c)]
def spec_l01Name_H : List (Nat × ET) := []
noncomputable def spec_l01Name_c : Callee := mkCallee spec_l01Name_D spec_l01Name_H spec_l01Name_ir [.d (.one .str)] [.d (.one .bool)] []
noncomputable def spec_l01Name (a0 : List UInt8) : Option (Bool) := spec_l01Name_c.f (a0,())
noncomputable def spec_l01Name_p0  (v0 : List UInt8) : Option (Bool) :=
 goL spec_l01Name_D spec_l01Name_H (vleave spec_l01Name_ir [.d (.one .str)] [.d (.one .bool)] [] []) [.c spec_l01Name_k3]
  ⟨[(0,.str v0)],[]⟩
noncomputable def spec_l01Name_p1  (v0 : List UInt8) (v3 : Int) : Option (Bool) :=
 goL spec_l01Name_D spec_l01Name_H (vleave spec_l01Name_ir [.d (.one .str)] [.d (.one .bool)] [] []) [.c spec_l01Name_k0,.l spec_l01Name_k1,.e 0,.c spec_l01Name_k2]
  ⟨[(0,.str v0),(3,.int .i64 v3)],[]⟩
theorem spec_l01Name_eq (a0 : List UInt8) : spec_l01Name a0 =
 if (a0 == []) then
  some false
 else
  if decide ((a0.length : Int) > 10) then
   some false
  else
   (a0[0]?).bind fun x1 =>
    (spec_l01Small (x1.toNat : Int)).bind fun x2 =>
     if (!x2) then
      some false
     else
      spec_l01Name_p0 a0 :=
 (mk_f _ _ _ _ _ _ _ 4000).trans (by kernel_rfl)
theorem spec_l01Name_p0_eq  (v0 : List UInt8) : spec_l01Name_p0 v0 =
 spec_l01Name_p1 v0 0 :=
 (goL_dn _ _ _ 4000 _ _).trans (by kernel_rfl)
theorem spec_l01Name_p1_eq  (v0 : List UInt8) (v3 : Int) : spec_l01Name_p1 v0 v3 =
 if decide (v3 < (v0.length : Int)) then
  if decide (0 ≤ v3) then
   (v0[v3.toNat]?).bind fun x1 =>
    (spec_l01Small (x1.toNat : Int)).bind fun x2 =>
     if (!x2) then
      if decide (0 ≤ v3) then
       (v0[v3.toNat]?).bind fun x3 =>
        (spec_l01Digit (x3.toNat : Int)).bind fun x4 =>
         if (!x4) then
          some false
         else
          spec_l01Name_p1 v0 (IntKind.i64.wrap (v3 + 1))
      else
       none
     else
      spec_l01Name_p1 v0 (IntKind.i64.wrap (v3 + 1))
  else
   none
 else
  some true :=
 (goL_dn _ _ _ 4000 _ _).trans (by kernel_rfl)
def spec_l00In_ir : Fn := { np := 3,io := [],res := [.t 6],own := [false],body :=
 (.seq (.reg false [.V 6 (.asg (.c (.bool false)))] [0,1,2] []) (.seq (.reg false [.V 7 (.mv (.t 0)),.V 8 (.mv (.t 1)),.V 9 (.bin .geq (.t 7) (.t 8)),.V 10 (.mv (.t 9)),.G 11 (.mv (.t 0)) 3 true,.G 12 (.mv (.t 2)) 3 true,.G 13 (.bin .leq (.t 11) (.t 12)) 3 true,.V 14 (.pick (.t 10) (.t 13) (.c (.bool false))),.V 6 (.asg (.t 14))] [6] []) .ret)) }
noncomputable def spec_l00In_D : List (Nat × Callee) := []
def spec_l00In_H : List (Nat × ET) := []
noncomputable def spec_l00In_c : Callee := mkCallee spec_l00In_D spec_l00In_H spec_l00In_ir [.d (.one (.int .i64)),.d (.one (.int .i64)),.d (.one (.int .i64))] [.d (.one .bool)] []
noncomputable def spec_l00In (a0 : Int) (a1 : Int) (a2 : Int) : Option (Bool) := spec_l00In_c.f (a0,a1,a2,())
theorem spec_l00In_eq (a0 : Int) (a1 : Int) (a2 : Int) : spec_l00In a0 a1 a2 =
 if decide (a0 ≥ a1) then
  some (decide (a0 ≤ a2))
 else
  some false :=
 (mk_f _ _ _ _ _ _ _ 4000).trans (by kernel_rfl)
def spec_l20Year_ir : Fn := { np := 1,io := [],res := [.t 2],own := [false],body :=
 (.seq (.reg false [.V 2 (.asg (.c (.bool false)))] [0] []) (.seq (.reg false [.V 3 (.mv (.t 0)),.V 4 (.call (.c (.fn 1 [])) [.t 3,.c (.int .i64 1500),.c (.int .i64 2100)]),.V 2 (.asg (.t 4))] [2] []) .ret)) }
noncomputable def spec_l20Year_D : List (Nat × Callee) := [(1,spec_l00In_c)]
def spec_l20Year_H : List (Nat × ET) := []
noncomputable def spec_l20Year_c : Callee := mkCallee spec_l20Year_D spec_l20Year_H spec_l20Year_ir [.d (.one (.int .i64))] [.d (.one .bool)] []
noncomputable def spec_l20Year (a0 : Int) : Option (Bool) := spec_l20Year_c.f (a0,())
theorem spec_l20Year_eq (a0 : Int) : spec_l20Year a0 =
 (spec_l00In a0 1500 2100).bind fun x1 =>
  some x1 :=
 (mk_f _ _ _ _ _ _ _ 4000).trans (by kernel_rfl)
def spec_l20One_ir : Fn := { np := 1,io := [],res := [.t 2],own := [false],body :=
 (.seq (.reg false [.V 2 (.asg (.c (.bool false)))] [0] []) (.seq (.reg true [.V 3 (.mv (.t 0)),.V 4 (.nilck (.t 3)),.V 5 (.fa 0 (.t 4)),.V 6 (.ld none (.t 5)),.V 7 (.call (.c (.fn 13 [])) [.t 6]),.V 8 (.mv (.t 7)),.G 9 (.mv (.t 0)) 5 true,.G 10 (.nilck (.t 9)) 5 true,.G 11 (.fa 1 (.t 10)) 5 true,.G 12 (.ld none (.t 11)) 5 true,.G 13 (.call (.c (.fn 13 [])) [.t 12]) 5 true,.V 14 (.pick (.t 8) (.t 13) (.c (.bool false))),.V 15 (.mv (.t 14)),.G 16 (.mv (.t 0)) 12 true,.G 17 (.nilck (.t 16)) 12 true,.G 18 (.fa 2 (.t 17)) 12 true,.G 19 (.ld none (.t 18)) 12 true,.G 20 (.call (.c (.fn 645 [])) [.t 19]) 12 true,.V 21 (.pick (.t 15) (.t 20) (.c (.bool false))),.V 22 (.mv (.t 21)),.G 23 (.mv (.t 0)) 19 true,.G 24 (.nilck (.t 23)) 19 true,.G 25 (.fa 3 (.t 24)) 19 true,.G 26 (.ld none (.t 25)) 19 true,.G 27 (.call (.c (.fn 645 [])) [.t 26]) 19 true,.V 28 (.pick (.t 22) (.t 27) (.c (.bool false))),.V 29 (.mv (.t 28)),.G 30 (.mv (.t 0)) 26 true,.G 31 (.nilck (.t 30)) 26 true,.G 32 (.fa 2 (.t 31)) 26 true,.G 33 (.ld none (.t 32)) 26 true,.G 34 (.mv (.t 0)) 26 true,.G 35 (.nilck (.t 34)) 26 true,.G 36 (.fa 3 (.t 35)) 26 true,.G 37 (.ld none (.t 36)) 26 true,.G 38 (.bin .leq (.t 33) (.t 37)) 26 true,.V 39 (.pick (.t 29) (.t 38) (.c (.bool false))),.V 40 (.mv (.t 39)),.G 41 (.mv (.t 0)) 37 true,.G 42 (.nilck (.t 41)) 37 true,.G 43 (.fa 4 (.t 42)) 37 true,.G 44 (.ld none (.t 43)) 37 true,.G 45 (.call (.c (.fn 1 [])) [.t 44,.c (.int .i64 1),.c (.int .i64 1000)]) 37 true,.V 46 (.pick (.t 40) (.t 45) (.c (.bool false))),.V 2 (.asg (.t 46))] [2] []) .ret)) }
noncomputable def spec_l20One_D : List (Nat × Callee) := [(1,spec_l00In_c),(13,spec_l01Name_c),(645,spec_l20Year_c)]
def spec_l20One_H : List (Nat × ET) := []
noncomputable def spec_l20One_c : Callee := mkCallee spec_l20One_D spec_l20One_H spec_l20One_ir [.p T_Paper] [.d (.one .bool)] []
noncomputable def spec_l20One (a0 : T_Paper.ty) : Option (Bool) := spec_l20One_c.f (a0,())
theorem spec_l20One_eq (a0 : T_Paper.ty) : spec_l20One a0 =
 (spec_l01Name a0.1).bind fun x1 =>
  if x1 then
   (spec_l01Name a0.2.1).bind fun x2 =>
    if x2 then
     (spec_l20Year a0.2.2.1).bind fun x3 =>
      if x3 then
       (spec_l20Year a0.2.2.2.1).bind fun x4 =>
        if x4 then
         if decide (a0.2.2.1 ≤ a0.2.2.2.1) then
          (spec_l00In a0.2.2.2.2.1 1 1000).bind fun x5 =>
           some x5
         else
          some false
        else
         some false
      else
       some false
    else
     some false
  else
   some false :=
 (mk_f _ _ _ _ _ _ _ 4000).trans (by kernel_rfl)
def spec_l20Ok_k0 : C :=
 .seq (.seq (.reg false [.V 4 (.mv (.t 3)),.V 5 (.mv (.t 0)),.V 6 (.len (.t 5)),.V 7 (.bin .lss (.t 4) (.t 6))] [0,3,7] []) (.cond (.t 7) .skip (.exit 0))) (.seq (.block 1 (.seq (.reg true [.V 10 (.mv (.t 0)),.V 11 (.mv (.t 3)),.V 12 (.ia 5 (.t 10) (.t 11)),.V 13 (.call (.c (.fn 912 [])) [.t 12]),.V 14 (.un .not (.t 13)),.V 15 (.mv (.t 14)),.G 16 (.mv (.t 3)) 5 false,.G 17 (.bin .gtr (.t 16) (.c (.int .i64 0))) 5 false,.G 18 (.mv (.t 17)) 5 false,.G 19 (.mv (.t 0)) 8 true,.G 20 (.mv (.t 3)) 8 true,.G 21 (.bin .sub (.t 20) (.c (.int .i64 1))) 8 true,.G 22 (.ia 5 (.t 19) (.t 21)) 8 true,.G 23 (.fa 0 (.t 22)) 8 true,.G 24 (.ld none (.t 23)) 8 true,.G 25 (.mv (.t 0)) 8 true,.G 26 (.mv (.t 3)) 8 true,.G 27 (.ia 5 (.t 25) (.t 26)) 8 true,.G 28 (.fa 0 (.t 27)) 8 true,.G 29 (.ld none (.t 28)) 8 true,.G 30 (.bin .geq (.t 24) (.t 29)) 8 true,.G 31 (.pick (.t 18) (.t 30) (.c (.bool false))) 5 false,.V 32 (.pick (.t 15) (.c (.bool true)) (.t 31))] [0,3,32] []) (.cond (.t 32) (.seq (.reg false [.V 2 (.asg (.c (.bool false)))] [2] []) .ret) .skip))) (.reg false [.V 8 (.mv (.t 3)),.V 9 (.bin .add (.t 8) (.c (.int .i64 1))),.V 3 (.asg (.t 9))] [0,3] []))
def spec_l20Ok_k1 : C :=
 .norm [0,3] [] spec_l20Ok_k0
def spec_l20Ok_k2 : C :=
 .seq (.reg false [.V 33 (.mv (.t 0)),.V 34 (.len (.t 33)),.V 35 (.bin .leq (.t 34) (.c (.int .i64 12))),.V 2 (.asg (.t 35))] [2] []) .ret
def spec_l20Ok_ir : Fn := { np := 1,io := [],res := [.t 2],own := [false],body :=
 (.seq (.reg false [.V 2 (.asg (.c (.bool false)))] [0] []) (.seq (.seq (.reg false [.V 3 (.asg (.c (.int .i64 0)))] [0,3] []) (.block 0 (.loop spec_l20Ok_k1))) spec_l20Ok_k2)) }
noncomputable def spec_l20Ok_D : List (Nat × Callee) := [(912,spec_l20One_c)]
def spec_l20Ok_H : List (Nat × ET) := [(5,T_Paper),(10,T_Paper),(19,T_Paper),(25,T_Paper),(33,T_Paper)]
noncomputable def spec_l20Ok_c : Callee := mkCallee spec_l20Ok_D spec_l20Ok_H spec_l20Ok_ir [.d (.one (.sl T_Paper))] [.d (.one .bool)] []
noncomputable def spec_l20Ok (a0 : List T_Paper.ty) : Option (Bool) := spec_l20Ok_c.f (a0,())
noncomputable def spec_l20Ok_p0  (v0 : List T_Paper.ty) (v3 : Int) : Option (Bool) :=
 goL spec_l20Ok_D spec_l20Ok_H (vleave spec_l20Ok_ir [.d (.one (.sl T_Paper))] [.d (.one .bool)] [] []) [.c spec_l20Ok_k0,.l spec_l20Ok_k1,.e 0,.c spec_l20Ok_k2]
  ⟨[(0,.sl T_Paper v0),(3,.int .i64 v3)],[]⟩
theorem spec_l20Ok_eq (a0 : List T_Paper.ty) : spec_l20Ok a0 =
 spec_l20Ok_p0 a0 0 :=
 (mk_f _ _ _ _ _ _ _ 4000).trans (by kernel_rfl)
theorem spec_l20Ok_p0_eq  (v0 : List T_Paper.ty) (v3 : Int) : spec_l20Ok_p0 v0 v3 =
 if decide (v3 < (v0.length : Int)) then
  if decide (0 ≤ v3) then
   (v0[v3.toNat]?).bind fun x1 =>
    (spec_l20One x1).bind fun x2 =>
     if (!x2) then
      some false
     else
      if decide (v3 > 0) then
       if decide (0 ≤ IntKind.i64.wrap (v3 - 1)) then
        (v0[(IntKind.i64.wrap (v3 - 1)).toNat]?).bind fun x3 =>
         if decide (0 ≤ v3) then
          (v0[v3.toNat]?).bind fun x4 =>
           if (!Op.bytesLess x3.1 x4.1) then
            some false
           else
            spec_l20Ok_p0 v0 (IntKind.i64.wrap (v3 + 1))
         else
          none
       else
        none
      else
       spec_l20Ok_p0 v0 (IntKind.i64.wrap (v3 + 1))
  else
   none
 else
  some (decide ((v0.length : Int) ≤ 12)) :=
 (goL_dn _ _ _ 4000 _ _).trans (by kernel_rfl)
def spec_l00Rises_k0 : C :=
 .seq (.seq (.reg false [.V 8 (.mv (.t 7)),.V 9 (.mv (.t 0)),.V 10 (.len (.t 9)),.V 11 (.bin .lss (.t 8) (.t 10))] [0,1,2,7,11] []) (.cond (.t 11) .skip (.exit 0))) (.seq (.block 1 (.seq (.reg true [.V 14 (.mv (.t 0)),.V 15 (.mv (.t 7)),.V 16 (.ia 1 (.t 14) (.t 15)),.V 17 (.ld none (.t 16)),.V 18 (.mv (.t 1)),.V 19 (.mv (.t 2)),.V 20 (.call (.c (.fn 1 [])) [.t 17,.t 18,.t 19]),.V 21 (.un .not (.t 20)),.V 22 (.mv (.t 21)),.G 23 (.mv (.t 7)) 8 false,.G 24 (.bin .gtr (.t 23) (.c (.int .i64 0))) 8 false,.G 25 (.mv (.t 24)) 8 false,.G 26 (.mv (.t 0)) 11 true,.G 27 (.mv (.t 7)) 11 true,.G 28 (.bin .sub (.t 27) (.c (.int .i64 1))) 11 true,.G 29 (.ia 1 (.t 26) (.t 28)) 11 true,.G 30 (.ld none (.t 29)) 11 true,.G 31 (.mv (.t 0)) 11 true,.G 32 (.mv (.t 7)) 11 true,.G 33 (.ia 1 (.t 31) (.t 32)) 11 true,.G 34 (.ld none (.t 33)) 11 true,.G 35 (.bin .geq (.t 30) (.t 34)) 11 true,.G 36 (.pick (.t 25) (.t 35) (.c (.bool false))) 8 false,.V 37 (.pick (.t 22) (.c (.bool true)) (.t 36))] [0,1,2,7,37] []) (.cond (.t 37) (.seq (.reg false [.V 6 (.asg (.c (.bool false)))] [6] []) .ret) .skip))) (.reg false [.V 12 (.mv (.t 7)),.V 13 (.bin .add (.t 12) (.c (.int .i64 1))),.V 7 (.asg (.t 13))] [0,1,2,7] []))
def spec_l00Rises_k1 : C :=
 .norm [0,1,2,7] [] spec_l00Rises_k0
def spec_l00Rises_k2 : C :=
 .seq (.reg false [.V 6 (.asg (.c (.bool true)))] [6] []) .ret
def spec_l00Rises_ir : Fn := { np := 3,io := [],res := [.t 6],own := [false],body :=
 (.seq (.reg false [.V 6 (.asg (.c (.bool false)))] [0,1,2] []) (.seq (.seq (.reg false [.V 7 (.asg (.c (.int .i64 0)))] [0,1,2,7] []) (.block 0 (.loop spec_l00Rises_k1))) spec_l00Rises_k2)) }
noncomputable def spec_l00Rises_D : List (Nat × Callee) := [(1,spec_l00In_c)]
def spec_l00Rises_H : List (Nat × ET) := [(9,(.one (.int .i64))),(14,(.one (.int .i64))),(26,(.one (.int .i64))),(31,(.one (.int .i64)))]
noncomputable def spec_l00Rises_c : Callee := mkCallee spec_l00Rises_D spec_l00Rises_H spec_l00Rises_ir [.d (.one (.sl (.one (.int .i64)))),.d (.one (.int .i64)),.d (.one (.int .i64))] [.d (.one .bool)] []
noncomputable def spec_l00Rises (a0 : List Int) (a1 : Int) (a2 : Int) : Option (Bool) := spec_l00Rises_c.f (a0,a1,a2,())
noncomputable def spec_l00Rises_p0  (v0 : List Int) (v1 : Int) (v2 : Int) (v7 : Int) : Option (Bool) :=
 goL spec_l00Rises_D spec_l00Rises_H (vleave spec_l00Rises_ir [.d (.one (.sl (.one (.int .i64)))),.d (.one (.int .i64)),.d (.one (.int .i64))] [.d (.one .bool)] [] []) [.c spec_l00Rises_k0,.l spec_l00Rises_k1,.e 0,.c spec_l00Rises_k2]
  ⟨[(0,.sl (.one (.int .i64)) v0),(1,.int .i64 v1),(2,.int .i64 v2),(7,.int .i64 v7)],[]⟩
theorem spec_l00Rises_eq (a0 : List Int) (a1 : Int) (a2 : Int) : spec_l00Rises a0 a1 a2 =
 spec_l00Rises_p0 a0 a1 a2 0 :=
 (mk_f _ _ _ _ _ _ _ 4000).trans (by kernel_rfl)
theorem spec_l00Rises_p0_eq  (v0 : List Int) (v1 : Int) (v2 : Int) (v7 : Int) : spec_l00Rises_p0 v0 v1 v2 v7 =
 if decide (v7 < (v0.length : Int)) then
  if decide (0 ≤ v7) then
   (v0[v7.toNat]?).bind fun x1 =>
    (spec_l00In x1 v1 v2).bind fun x2 =>
     if (!x2) then
      some false
     else
      if decide (v7 > 0) then
       if decide (0 ≤ IntKind.i64.wrap (v7 - 1)) then
        (v0[(IntKind.i64.wrap (v7 - 1)).toNat]?).bind fun x3 =>
         if decide (0 ≤ v7) then
          (v0[v7.toNat]?).bind fun x4 =>
           if decide (x3 ≥ x4) then
            some false
           else
            spec_l00Rises_p0 v0 v1 v2 (IntKind.i64.wrap (v7 + 1))
         else
          none
       else
        none
      else
       spec_l00Rises_p0 v0 v1 v2 (IntKind.i64.wrap (v7 + 1))
  else
   none
 else
  some true :=
 (goL_dn _ _ _ 4000 _ _).trans (by kernel_rfl)
def spec_l20Clash_ir : Fn := { np := 2,io := [],res := [.t 4],own := [false],body :=
 (.seq (.reg false [.V 4 (.asg (.c (.bool false)))] [0,1] []) (.seq (.reg true [.V 5 (.mv (.t 0)),.V 6 (.nilck (.t 5)),.V 7 (.fa 1 (.t 6)),.V 8 (.ld none (.t 7)),.V 9 (.mv (.t 1)),.V 10 (.nilck (.t 9)),.V 11 (.fa 1 (.t 10)),.V 12 (.ld none (.t 11)),.V 13 (.bin .neq (.t 8) (.t 12)),.V 14 (.mv (.t 13)),.G 15 (.mv (.t 0)) 9 false,.G 16 (.nilck (.t 15)) 9 false,.G 17 (.fa 3 (.t 16)) 9 false,.G 18 (.ld none (.t 17)) 9 false,.G 19 (.mv (.t 1)) 9 false,.G 20 (.nilck (.t 19)) 9 false,.G 21 (.fa 2 (.t 20)) 9 false,.G 22 (.ld none (.t 21)) 9 false,.G 23 (.bin .lss (.t 18) (.t 22)) 9 false,.V 24 (.pick (.t 14) (.c (.bool true)) (.t 23)),.V 25 (.mv (.t 24)),.G 26 (.mv (.t 1)) 20 false,.G 27 (.nilck (.t 26)) 20 false,.G 28 (.fa 3 (.t 27)) 20 false,.G 29 (.ld none (.t 28)) 20 false,.G 30 (.mv (.t 0)) 20 false,.G 31 (.nilck (.t 30)) 20 false,.G 32 (.fa 2 (.t 31)) 20 false,.G 33 (.ld none (.t 32)) 20 false,.G 34 (.bin .lss (.t 29) (.t 33)) 20 false,.V 35 (.pick (.t 25) (.c (.bool true)) (.t 34)),.V 4 (.asg (.t 35))] [4] []) .ret)) }
noncomputable def spec_l20Clash_D : List (Nat × Callee) := []
def spec_l20Clash_H : List (Nat × ET) := []
noncomputable def spec_l20Clash_c : Callee := mkCallee spec_l20Clash_D spec_l20Clash_H spec_l20Clash_ir [.p T_Paper,.p T_Paper] [.d (.one .bool)] []
noncomputable def spec_l20Clash (a0 : T_Paper.ty) (a1 : T_Paper.ty) : Option (Bool) := spec_l20Clash_c.f (a0,a1,())
theorem spec_l20Clash_eq (a0 : T_Paper.ty) (a1 : T_Paper.ty) : spec_l20Clash a0 a1 =
 if (!(a0.2.1 == a1.2.1)) then
  some true
 else
  if decide (a0.2.2.2.1 < a1.2.2.1) then
   some true
  else
   some (decide (a1.2.2.2.1 < a0.2.2.1)) :=
 (mk_f _ _ _ _ _ _ _ 4000).trans (by kernel_rfl)
def spec_l20Agrees_k0 : C :=
 .seq (.seq (.reg false [.V 13 (.mv (.t 6)),.V 14 (.mv (.t 5)),.V 15 (.bin .lss (.t 13) (.t 14))] [0,1,5,6,15] []) (.cond (.t 15) .skip (.exit 2))) (.seq (.block 3 (.seq (.reg true [.V 18 (.mv (.t 0)),.V 19 (.mv (.t 1)),.V 20 (.mv (.t 5)),.V 21 (.ia 1 (.t 19) (.t 20)),.V 22 (.ld none (.t 21)),.V 23 (.ia 5 (.t 18) (.t 22)),.V 24 (.mv (.t 0)),.V 25 (.mv (.t 1)),.V 26 (.mv (.t 6)),.V 27 (.ia 1 (.t 25) (.t 26)),.V 28 (.ld none (.t 27)),.V 29 (.ia 5 (.t 24) (.t 28)),.V 30 (.call (.c (.fn 639 [])) [.t 23,.t 29])] [0,1,5,6,30] []) (.cond (.t 30) (.seq (.reg false [.V 4 (.asg (.c (.bool false)))] [4] []) .ret) .skip))) (.reg false [.V 16 (.mv (.t 6)),.V 17 (.bin .add (.t 16) (.c (.int .i64 1))),.V 6 (.asg (.t 17))] [0,1,5,6] []))
def spec_l20Agrees_k1 : C :=
 .norm [0,1,5,6] [] spec_l20Agrees_k0
def spec_l20Agrees_k2 : C :=
 .reg false [.V 11 (.mv (.t 5)),.V 12 (.bin .add (.t 11) (.c (.int .i64 1))),.V 5 (.asg (.t 12))] [0,1,5] []
def spec_l20Agrees_k3 : C :=
 .seq (.seq (.reg false [.V 7 (.mv (.t 5)),.V 8 (.mv (.t 1)),.V 9 (.len (.t 8)),.V 10 (.bin .lss (.t 7) (.t 9))] [0,1,5,10] []) (.cond (.t 10) .skip (.exit 0))) (.seq (.block 1 (.seq (.reg false [.V 6 (.asg (.c (.int .i64 0)))] [0,1,5,6] []) (.block 2 (.loop spec_l20Agrees_k1)))) spec_l20Agrees_k2)
def spec_l20Agrees_k4 : C :=
 .norm [0,1,5] [] spec_l20Agrees_k3
def spec_l20Agrees_k5 : C :=
 .seq (.reg false [.V 4 (.asg (.c (.bool true)))] [4] []) .ret
def spec_l20Agrees_ir : Fn := { np := 2,io := [],res := [.t 4],own := [false],body :=
 (.seq (.reg false [.V 4 (.asg (.c (.bool false)))] [0,1] []) (.seq (.seq (.reg false [.V 5 (.asg (.c (.int .i64 0)))] [0,1,5] []) (.block 0 (.loop spec_l20Agrees_k4))) spec_l20Agrees_k5)) }
noncomputable def spec_l20Agrees_D : List (Nat × Callee) := [(639,spec_l20Clash_c)]
def spec_l20Agrees_H : List (Nat × ET) := [(8,(.one (.int .i64))),(18,T_Paper),(19,(.one (.int .i64))),(24,T_Paper),(25,(.one (.int .i64)))]
noncomputable def spec_l20Agrees_c : Callee := mkCallee spec_l20Agrees_D spec_l20Agrees_H spec_l20Agrees_ir [.d (.one (.sl T_Paper)),.d (.one (.sl (.one (.int .i64))))] [.d (.one .bool)] []
noncomputable def spec_l20Agrees (a0 : List T_Paper.ty) (a1 : List Int) : Option (Bool) := spec_l20Agrees_c.f (a0,a1,())
noncomputable def spec_l20Agrees_p0  (v0 : List T_Paper.ty) (v1 : List Int) (v5 : Int) : Option (Bool) :=
 goL spec_l20Agrees_D spec_l20Agrees_H (vleave spec_l20Agrees_ir [.d (.one (.sl T_Paper)),.d (.one (.sl (.one (.int .i64))))] [.d (.one .bool)] [] []) [.c spec_l20Agrees_k3,.l spec_l20Agrees_k4,.e 0,.c spec_l20Agrees_k5]
  ⟨[(0,.sl T_Paper v0),(1,.sl (.one (.int .i64)) v1),(5,.int .i64 v5)],[]⟩
noncomputable def spec_l20Agrees_p1  (v0 : List T_Paper.ty) (v1 : List Int) (v5 : Int) (v6 : Int) : Option (Bool) :=
 goL spec_l20Agrees_D spec_l20Agrees_H (vleave spec_l20Agrees_ir [.d (.one (.sl T_Paper)),.d (.one (.sl (.one (.int .i64))))] [.d (.one .bool)] [] []) [.c spec_l20Agrees_k0,.l spec_l20Agrees_k1,.e 2,.e 1,.c spec_l20Agrees_k2,.l spec_l20Agrees_k4,.e 0,.c spec_l20Agrees_k5]
  ⟨[(0,.sl T_Paper v0),(1,.sl (.one (.int .i64)) v1),(5,.int .i64 v5),(6,.int .i64 v6)],[]⟩
theorem spec_l20Agrees_eq (a0 : List T_Paper.ty) (a1 : List Int) : spec_l20Agrees a0 a1 =
 spec_l20Agrees_p0 a0 a1 0 :=
 (mk_f _ _ _ _ _ _ _ 4000).trans (by kernel_rfl)
theorem spec_l20Agrees_p0_eq  (v0 : List T_Paper.ty) (v1 : List Int) (v5 : Int) : spec_l20Agrees_p0 v0 v1 v5 =
 if decide (v5 < (v1.length : Int)) then
  spec_l20Agrees_p1 v0 v1 v5 0
 else
  some true :=
 (goL_dn _ _ _ 4000 _ _).trans (by kernel_rfl)
theorem spec_l20Agrees_p1_eq  (v0 : List T_Paper.ty) (v1 : List Int) (v5 : Int) (v6 : Int) : spec_l20Agrees_p1 v0 v1 v5 v6 =
 if decide (v6 < v5) then
  if decide (0 ≤ v5) then
   (v1[v5.toNat]?).bind fun x1 =>
    if decide (0 ≤ x1) then
     (v0[x1.toNat]?).bind fun x2 =>
      if decide (0 ≤ v6) then
       (v1[v6.toNat]?).bind fun x3 =>
        if decide (0 ≤ x3) then
         (v0[x3.toNat]?).bind fun x4 =>
          (spec_l20Clash x2 x4).bind fun x5 =>
           if x5 then
            some false
           else
            spec_l20Agrees_p1 v0 v1 v5 (IntKind.i64.wrap (v6 + 1))
        else
         none
      else
       none
    else
     none
  else
   none
 else
  spec_l20Agrees_p0 v0 v1 (IntKind.i64.wrap (v5 + 1)) :=
 (goL_dn _ _ _ 4000 _ _).trans (by kernel_rfl)
def spec_Agrees_ir : Fn := { np := 2,io := [],res := [.t 4],own := [false],body :=
 (.seq (.reg false [.V 4 (.asg (.c (.bool false)))] [0,1] []) (.seq (.reg false [.V 5 (.mv (.t 0)),.V 6 (.call (.c (.fn 640 [])) [.t 5]),.V 7 (.mv (.t 6)),.G 8 (.mv (.t 1)) 2 true,.G 9 (.mv (.t 0)) 2 true,.G 10 (.len (.t 9)) 2 true,.G 11 (.bin .sub (.t 10) (.c (.int .i64 1))) 2 true,.G 12 (.call (.c (.fn 804 [])) [.t 8,.c (.int .i64 0),.t 11]) 2 true,.V 13 (.pick (.t 7) (.t 12) (.c (.bool false))),.V 14 (.mv (.t 13)),.G 15 (.mv (.t 0)) 9 true,.G 16 (.mv (.t 1)) 9 true,.G 17 (.call (.c (.fn 805 [])) [.t 15,.t 16]) 9 true,.V 18 (.pick (.t 14) (.t 17) (.c (.bool false))),.V 4 (.asg (.t 18))] [4] []) .ret)) }
noncomputable def spec_Agrees_D : List (Nat × Callee) := [(640,spec_l20Ok_c),(804,spec_l00Rises_c),(805,spec_l20Agrees_c)]
def spec_Agrees_H : List (Nat × ET) := [(5,T_Paper),(8,(.one (.int .i64))),(9,T_Paper),(15,T_Paper),(16,(.one (.int .i64)))]
noncomputable def spec_Agrees_c : Callee := mkCallee spec_Agrees_D spec_Agrees_H spec_Agrees_ir [.d (.one (.sl T_Paper)),.d (.one (.sl (.one (.int .i64))))] [.d (.one .bool)] []
noncomputable def spec_Agrees (a0 : List T_Paper.ty) (a1 : List Int) : Option (Bool) := spec_Agrees_c.f (a0,a1,())
theorem spec_Agrees_eq (a0 : List T_Paper.ty) (a1 : List Int) : spec_Agrees a0 a1 =
 (spec_l20Ok a0).bind fun x1 =>
  if x1 then
   (spec_l00Rises a1 0 (IntKind.i64.wrap ((a0.length : Int) - 1))).bind fun x2 =>
    if x2 then
     (spec_l20Agrees a0 a1).bind fun x3 =>
      some x3
    else
     some false
  else
   some false :=
 (mk_f _ _ _ _ _ _ _ 4000).trans (by kernel_rfl)
def impl_SpanOf_k0 : C :=
 .seq (.reg false [.V 28 (.bin .lss (.t 27) (.t 26))] [0,1,8,9,25,26,27,28] []) (.seq (.cond (.t 28) .skip (.exit 1)) (.seq (.block 2 (.seq (.reg false [.V 29 (.ia 1 (.t 25) (.t 27)),.V 30 (.ld none (.t 29)),.V 11 (.asg (.t 30))] [0,1,8,9,11,25,26,27] []) (.reg true [.V 31 (.mv (.t 8)),.V 32 (.mv (.t 0)),.V 33 (.mv (.t 11)),.V 34 (.ia 5 (.t 32) (.t 33)),.V 35 (.fa 2 (.t 34)),.V 36 (.ld none (.t 35)),.V 37 (.max [.t 31,.t 36]),.V 38 (.mv (.t 9)),.V 39 (.mv (.t 0)),.V 40 (.mv (.t 11)),.V 41 (.ia 5 (.t 39) (.t 40)),.V 42 (.fa 3 (.t 41)),.V 43 (.ld none (.t 42)),.V 44 (.min [.t 38,.t 43]),.V 8 (.asg (.t 37)),.V 9 (.asg (.t 44))] [0,1,8,9,25,26,27] []))) (.reg false [.V 45 (.bin .add (.t 27) (.c (.int .i64 1))),.V 27 (.mv (.t 45))] [0,1,8,9,25,26,27] [])))
def impl_SpanOf_k1 : C :=
 .norm [0,1,8,9,25,26,27] [] impl_SpanOf_k0
def impl_SpanOf_k2 : C :=
 .seq (.reg false [.V 46 (.mv (.t 0)),.V 47 (.mv (.t 1)),.V 48 (.ia 1 (.t 47) (.c (.int .i64 0))),.V 49 (.ld none (.t 48)),.V 50 (.ia 5 (.t 46) (.t 49)),.V 51 (.fa 1 (.t 50)),.V 52 (.ld none (.t 51)),.V 53 (.mv (.t 8)),.V 54 (.mv (.t 9)),.V 4 (.asg (.t 52)),.V 5 (.asg (.t 53)),.V 6 (.asg (.t 54)),.V 7 (.asg (.c (.int .i64 0)))] [4,5,6,7] []) .ret
def impl_SpanOf_ir : Fn := { np := 2,io := [],res := [.t 4,.t 5,.t 6,.t 7],own := [false,false,false,false],body :=
 (.seq (.reg false [.V 4 (.asg (.c (.str []))),.V 5 (.asg (.c (.int .i64 0))),.V 6 (.asg (.c (.int .i64 0))),.V 7 (.asg (.c (.int .i64 0)))] [0,1] []) (.seq (.block 0 (.seq (.reg false [.V 13 (.mv (.t 0)),.V 14 (.call (.c (.fn 635 [])) [.t 13]),.V 15 (.un .not (.t 14)),.V 12 (.asg (.t 15))] [0,1,12] []) (.cond (.t 12) (.seq (.reg false [.V 4 (.asg (.c (.str []))),.V 5 (.asg (.c (.int .i64 0))),.V 6 (.asg (.c (.int .i64 0))),.V 7 (.asg (.c (.int .i64 1)))] [4,5,6,7] []) .ret) (.seq (.reg false [.V 17 (.mv (.t 0)),.V 18 (.mv (.t 1)),.V 19 (.call (.c (.fn 393 [])) [.t 17,.t 18]),.V 20 (.un .not (.t 19)),.V 16 (.asg (.t 20))] [0,1,16] []) (.cond (.t 16) (.seq (.reg false [.V 4 (.asg (.c (.str []))),.V 5 (.asg (.c (.int .i64 0))),.V 6 (.asg (.c (.int .i64 0))),.V 7 (.asg (.c (.int .i64 7)))] [4,5,6,7] []) .ret) (.seq (.reg false [.V 22 (.mv (.t 1)),.V 23 (.len (.t 22)),.V 24 (.bin .eql (.t 23) (.c (.int .i64 0))),.V 21 (.asg (.t 24))] [0,1,21] []) (.cond (.t 21) (.seq (.reg false [.V 4 (.asg (.c (.str []))),.V 5 (.asg (.c (.int .i64 0))),.V 6 (.asg (.c (.int .i64 0))),.V 7 (.asg (.c (.int .i64 3)))] [4,5,6,7] []) .ret) .skip))))))) (.seq (.reg false [.V 8 (.asg (.c (.int .i64 1500))),.V 9 (.asg (.c (.int .i64 2100)))] [0,1,8,9] []) (.seq (.seq (.reg false [.V 25 (.mv (.t 1)),.V 26 (.len (.t 25)),.V 27 (.mv (.c (.int .i64 0)))] [0,1,8,9,25,26,27] []) (.block 1 (.loop impl_SpanOf_k1))) impl_SpanOf_k2)))) }
noncomputable def impl_SpanOf_D : List (Nat × Callee) := [(393,impl_Agrees_c),(635,impl_ValidPapers_c)]
def impl_SpanOf_H : List (Nat × ET) := [(13,T_Paper),(17,T_Paper),(18,(.one (.int .i64))),(22,(.one (.int .i64))),(25,(.one (.int .i64))),(32,T_Paper),(39,T_Paper),(46,T_Paper),(47,(.one (.int .i64)))]
noncomputable def impl_SpanOf_c : Callee := mkCallee impl_SpanOf_D impl_SpanOf_H impl_SpanOf_ir [.d (.one (.sl T_Paper)),.d (.one (.sl (.one (.int .i64))))] [.d (.one .str),.d (.one (.int .i64)),.d (.one (.int .i64)),.d (.one (.int .i64))] []
noncomputable def impl_SpanOf (a0 : List T_Paper.ty) (a1 : List Int) : Option (List UInt8 × Int × Int × Int) := impl_SpanOf_c.f (a0,a1,())
noncomputable def impl_SpanOf_p0  (v0 : List T_Paper.ty) (v1 : List Int) (v8 : Int) (v9 : Int) (v25 : List Int) (v26 : Int) (v27 : Int) : Option (List UInt8 × Int × Int × Int) :=
 goL impl_SpanOf_D impl_SpanOf_H (vleave impl_SpanOf_ir [.d (.one (.sl T_Paper)),.d (.one (.sl (.one (.int .i64))))] [.d (.one .str),.d (.one (.int .i64)),.d (.one (.int .i64)),.d (.one (.int .i64))] [] []) [.c impl_SpanOf_k0,.l impl_SpanOf_k1,.e 1,.c impl_SpanOf_k2]
  ⟨[(0,.sl T_Paper v0),(1,.sl (.one (.int .i64)) v1),(8,.int .i64 v8),(9,.int .i64 v9),(25,.sl (.one (.int .i64)) v25),(26,.int .i64 v26),(27,.int .i64 v27)],[]⟩
theorem impl_SpanOf_eq (a0 : List T_Paper.ty) (a1 : List Int) : impl_SpanOf a0 a1 =
 (impl_ValidPapers a0).bind fun x1 =>
  if (!x1) then
   some ([],0,0,1)
  else
   (impl_Agrees a0 a1).bind fun x2 =>
    if (!x2) then
     some ([],0,0,7)
    else
     if ((a1.length : Int) == 0) then
      some ([],0,0,3)
     else
      impl_SpanOf_p0 a0 a1 1500 2100 a1 (a1.length : Int) 0 :=
 (mk_f _ _ _ _ _ _ _ 4000).trans (by kernel_rfl)
theorem impl_SpanOf_p0_eq  (v0 : List T_Paper.ty) (v1 : List Int) (v8 : Int) (v9 : Int) (v25 : List Int) (v26 : Int) (v27 : Int) : impl_SpanOf_p0 v0 v1 v8 v9 v25 v26 v27 =
 if decide (v27 < v26) then
  if decide (0 ≤ v27) then
   (v25[v27.toNat]?).bind fun x1 =>
    if decide (0 ≤ x1) then
     (v0[x1.toNat]?).bind fun x2 =>
      if decide (0 ≤ x1) then
       (v0[x1.toNat]?).bind fun x3 =>
        impl_SpanOf_p0 v0 v1 (if x2.2.2.1 > v8 then x2.2.2.1 else v8) (if x3.2.2.2.1 < v9 then x3.2.2.2.1 else v9) v25 v26 (IntKind.i64.wrap (v27 + 1))
      else
       none
    else
     none
  else
   none
 else
  (v1[0]?).bind fun x4 =>
   if decide (0 ≤ x4) then
    (v0[x4.toNat]?).bind fun x5 =>
     some (x5.2.1,v8,v9,0)
   else
    none :=
 (goL_dn _ _ _ 4000 _ _).trans (by kernel_rfl)
def spec_DrawAddPaper_ir : Fn := { np := 1,io := [],res := [.t 2,.cell 3 (some 5)],own := [true,false],body :=
 (.seq (.reg false [.W 2 (.asg (.c (.nils 5))),.W 3 (.alloc 5 (.agg [.str [],.str [],.int .i64 0,.int .i64 0,.int .i64 0]))] [0,3] [3]) (.seq (.reg false [.V 7 (.mv (.t 0)),.W 8 (.call (.c (.fn 441 [])) [.t 7]),.V 4 (.asg (.t 8))] [3,4] [3,8,9000]) (.seq (.reg false [.V 9 (.mv (.t 4)),.W 10 (.call (.c (.fn 633 [])) [.t 9]),.W 5 (.asg (.t 10))] [3,4,5] [3,5,8,9000]) (.seq (.reg false [.V 11 (.mv (.t 4)),.V 12 (.bsl 1 (.str []) 4 [(0,.c (.str [97,97])),(1,.c (.str [112,99,99])),(2,.c (.str [122,122])),(3,.c (.str [112,97]))]),.W 13 (.call (.c (.fn 557 [])) [.t 11,.t 12]),.V 6 (.asg (.t 13))] [3,4,5,6] [3,5,8,9000]) (.seq (.reg false [.V 14 (.mv (.t 5)),.V 15 (.mv (.t 4)),.V 16 (.mv (.t 4)),.V 17 (.mv (.t 6)),.W 18 (.call (.c (.fn 806 [])) [.t 16,.t 17]),.W 19 (.call (.c (.fn 807 [])) [.t 15,.t 18]),.W 2 (.asg (.t 14)),⟨none,true,.sto 5 (.t 3) (.t 19),none,false,[]⟩] [2,3] [2,3,5]) .ret))))) }
noncomputable def spec_DrawAddPaper_D : List (Nat × Callee) := [(441,spec_l00From_c),(557,spec_l00Src_text_c),(633,spec_l20Draw_c),(806,spec_l20DrawOne_c),(807,spec_l20Bent_c)]
def spec_DrawAddPaper_H : List (Nat × ET) := [(2,T_Paper),(5,T_Paper),(7,(.one (.int .u8))),(10,T_Paper),(12,(.one .str)),(14,T_Paper)]
noncomputable def spec_DrawAddPaper_c : Callee := mkCallee spec_DrawAddPaper_D spec_DrawAddPaper_H spec_DrawAddPaper_ir [.d (.one (.sl (.one (.int .u8))))] [.tok T_Paper,.d T_Paper] []
noncomputable def spec_DrawAddPaper (a0 : List Int) : Option (List T_Paper.ty × T_Paper.ty) := spec_DrawAddPaper_c.f (a0,())
theorem spec_DrawAddPaper_eq (a0 : List Int) : spec_DrawAddPaper a0 =
 (spec_l00From a0).bind fun x1 =>
  (spec_l20Draw x1).bind fun x2 =>
   (spec_l00Src_text (x2.2.1,x2.2.2.1,x2.2.2.2.1,()) [[97,97],[112,99,99],[122,122],[112,97]]).bind fun x3 =>
    (spec_l20DrawOne (x3.2.1,x3.2.2.1,x3.2.2.2.1,()) x3.1).bind fun x4 =>
     (spec_l20Bent (x4.2.1,x4.2.2.1,x4.2.2.2.1,()) (x4.1.1,x4.1.2.1,x4.1.2.2.1,x4.1.2.2.2.1,x4.1.2.2.2.2.1,())).bind fun x5 =>
      some ((x2.1.take x2.1.length),(x5.1.1,x5.1.2.1,x5.1.2.2.1,x5.1.2.2.2.1,x5.1.2.2.2.2.1,())) :=
 (mk_f _ _ _ _ _ _ _ 4000).trans (by kernel_rfl)
def impl_clone_impl_Paper__ir : Fn := { np := 1,io := [],res := [.t 2],own := [true],body :=
 (.seq (.reg false [.W 2 (.asg (.c (.nils 5)))] [0] []) (.seq (.reg false [.V 3 (.mv (.t 0)),.V 4 (.len (.t 3)),.V 5 (.mks 5 56 (.agg [.str [],.str [],.int .i64 0,.int .i64 0,.int .i64 0]) (.c (.int .i64 0)) (.t 4)),.V 6 (.mv (.t 0)),.W 7 (.app 5 56 (.t 5) (.t 6)),.W 2 (.asg (.t 7))] [2] [2]) .ret)) }
noncomputable def impl_clone_impl_Paper__D : List (Nat × Callee) := []
def impl_clone_impl_Paper__H : List (Nat × ET) := [(2,T_Paper),(3,T_Paper),(5,T_Paper),(6,T_Paper),(7,T_Paper)]
noncomputable def impl_clone_impl_Paper__c : Callee := mkCallee impl_clone_impl_Paper__D impl_clone_impl_Paper__H impl_clone_impl_Paper__ir [.d (.one (.sl T_Paper))] [.tok T_Paper] []
noncomputable def impl_clone_impl_Paper_ (a0 : List T_Paper.ty) : Option (List T_Paper.ty) := impl_clone_impl_Paper__c.f (a0,())
theorem impl_clone_impl_Paper__eq (a0 : List T_Paper.ty) : impl_clone_impl_Paper_ a0 =
 if decide (0 ≤ (a0.length : Int)) && decide ((a0.length : Int).toNat < lim) then
  if decide (0 + a0.length < lim) then
   some (([] ++ a0).take (([] ++ a0).length))
  else
   none
 else
  none :=
 (mk_f _ _ _ _ _ _ _ 4000).trans (by kernel_rfl)
noncomputable def slices_Insert___impl_Paper_impl_Paper__c : Callee := insertC T_Paper
noncomputable def slices_Insert___impl_Paper_impl_Paper_ (a0 : List T_Paper.ty) (a1 : Int) (a2 : List T_Paper.ty) : Option (List T_Paper.ty × Unit) := slices_Insert___impl_Paper_impl_Paper__c.f (a0,a1,a2,())
theorem slices_Insert___impl_Paper_impl_Paper__eq (a0 : List T_Paper.ty) (a1 : Int) (a2 : List T_Paper.ty) : slices_Insert___impl_Paper_impl_Paper_ a0 a1 a2 = if decide (a2.length = 1) && (decide (0 ≤ a1) && (decide (a1 ≤ (a0.length : Int)) && decide (a0.length + 1 < 1099511627776))) then some (a0.take a1.toNat ++ a2 ++ a0.drop a1.toNat,()) else none := rfl
def impl_AddPaper_k0 : C :=
 .seq (.seq (.reg true [.V 13 (.mv (.t 6)),.V 14 (.mv (.t 0)),.V 15 (.len (.t 14)),.V 16 (.bin .lss (.t 13) (.t 15)),.V 17 (.mv (.t 16)),.G 18 (.mv (.t 0)) 4 true,.G 19 (.mv (.t 6)) 4 true,.G 20 (.ia 5 (.t 18) (.t 19)) 4 true,.G 21 (.fa 0 (.t 20)) 4 true,.G 22 (.ld none (.t 21)) 4 true,.G 23 (.fa 0 (.t 3)) 4 true,.G 24 (.ld none (.t 23)) 4 true,.G 25 (.bin .lss (.t 22) (.t 24)) 4 true,.V 26 (.pick (.t 17) (.t 25) (.c (.bool false)))] [0,3,6,26] [3]) (.cond (.t 26) .skip (.exit 0))) (.block 1 (.reg false [.V 27 (.mv (.t 6)),.V 28 (.bin .add (.t 27) (.c (.int .i64 1))),.V 6 (.asg (.t 28))] [0,3,6] [3]))
def impl_AddPaper_k1 : C :=
 .norm [0,3,6] [3] impl_AddPaper_k0
def impl_AddPaper_k2 : C :=
 .seq (.reg true [.V 48 (.mv (.t 0)),.V 49 (.call (.c (.fn 638 [])) [.t 48]),.V 50 (.mv (.t 6)),.V 51 (.ld (some 5) (.t 3)),.V 52 (.bsl 5 (.agg [.str [],.str [],.int .i64 0,.int .i64 0,.int .i64 0]) 1 [(0,.t 51)]),.W 53 (.call (.c (.fn 808 [])) [.t 49,.t 50,.t 52]),.W 4 (.asg (.t 53)),.V 5 (.asg (.c (.int .i64 0)))] [4,5] [4]) .ret
def impl_AddPaper_k3 : C :=
 .seq (.block 2 (.seq (.reg true [.V 30 (.mv (.t 6)),.V 31 (.mv (.t 0)),.V 32 (.len (.t 31)),.V 33 (.bin .lss (.t 30) (.t 32)),.V 34 (.mv (.t 33)),.G 35 (.mv (.t 0)) 4 true,.G 36 (.mv (.t 6)) 4 true,.G 37 (.ia 5 (.t 35) (.t 36)) 4 true,.G 38 (.fa 0 (.t 37)) 4 true,.G 39 (.ld none (.t 38)) 4 true,.G 40 (.fa 0 (.t 3)) 4 true,.G 41 (.ld none (.t 40)) 4 true,.G 42 (.bin .eql (.t 39) (.t 41)) 4 true,.V 43 (.pick (.t 34) (.t 42) (.c (.bool false))),.V 29 (.asg (.t 43))] [0,3,6,29] [3]) (.cond (.t 29) (.seq (.reg false [.W 4 (.asg (.c (.nils 5))),.V 5 (.asg (.c (.int .i64 4)))] [4,5] [4]) .ret) (.seq (.reg false [.V 45 (.mv (.t 0)),.V 46 (.len (.t 45)),.V 47 (.bin .eql (.t 46) (.c (.int .i64 12))),.V 44 (.asg (.t 47))] [0,3,6,44] [3]) (.cond (.t 44) (.seq (.reg false [.W 4 (.asg (.c (.nils 5))),.V 5 (.asg (.c (.int .i64 5)))] [4,5] [4]) .ret) .skip))))) (.norm [0,3,6] [3] impl_AddPaper_k2)
def impl_AddPaper_k4 : C :=
 .norm [0,3,6] [3] impl_AddPaper_k3
def impl_AddPaper_ir : Fn := { np := 2,io := [],res := [.t 4,.t 5],own := [false,false],body :=
 (.seq (.reg false [.W 3 (.box 5 (.t 1)),.W 4 (.asg (.c (.nils 5))),.V 5 (.asg (.c (.int .i64 0)))] [0,3] [3]) (.seq (.seq (.reg false [.V 7 (.mv (.t 0)),.V 8 (.call (.c (.fn 635 [])) [.t 7]),.V 9 (.un .not (.t 8))] [0,3,9] [3]) (.cond (.t 9) (.seq (.reg false [.W 4 (.asg (.c (.nils 5))),.V 5 (.asg (.c (.int .i64 1)))] [4,5] [4]) .ret) .skip)) (.seq (.seq (.reg false [.V 10 (.ld (some 5) (.t 3)),.V 11 (.call (.c (.fn 809 [])) [.t 10]),.V 12 (.un .not (.t 11))] [0,3,12] [3]) (.cond (.t 12) (.seq (.reg false [.W 4 (.asg (.c (.nils 5))),.V 5 (.asg (.c (.int .i64 2)))] [4,5] [4]) .ret) .skip)) (.seq (.reg false [.V 6 (.asg (.c (.int .i64 0)))] [0,3,6] [3]) (.seq (.block 0 (.loop impl_AddPaper_k1)) impl_AddPaper_k4))))) }
noncomputable def impl_AddPaper_D : List (Nat × Callee) := [(635,impl_ValidPapers_c),(638,impl_clone_impl_Paper__c),(808,slices_Insert___impl_Paper_impl_Paper__c),(809,impl_Paper_valid_c)]
def impl_AddPaper_H : List (Nat × ET) := [(4,T_Paper),(7,T_Paper),(14,T_Paper),(18,T_Paper),(31,T_Paper),(35,T_Paper),(45,T_Paper),(48,T_Paper),(49,T_Paper),(52,T_Paper),(53,T_Paper)]
noncomputable def impl_AddPaper_c : Callee := mkCallee impl_AddPaper_D impl_AddPaper_H impl_AddPaper_ir [.d (.one (.sl T_Paper)),.d T_Paper] [.d (.one (.sl T_Paper)),.d (.one (.int .i64))] []
noncomputable def impl_AddPaper (a0 : List T_Paper.ty) (a1 : T_Paper.ty) : Option (List T_Paper.ty × Int) := impl_AddPaper_c.f (a0,a1,())
noncomputable def impl_AddPaper_p0  (v0 : List T_Paper.ty) (v6 : Int) (r3_0 : List UInt8) (r3_1 : List UInt8) (r3_2 : Int) (r3_3 : Int) (r3_4 : Int) : Option (List T_Paper.ty × Int) :=
 goL impl_AddPaper_D impl_AddPaper_H (vleave impl_AddPaper_ir [.d (.one (.sl T_Paper)),.d T_Paper] [.d (.one (.sl T_Paper)),.d (.one (.int .i64))] [] []) [.c impl_AddPaper_k0,.l impl_AddPaper_k1,.e 0,.c impl_AddPaper_k4]
  ⟨[(0,.sl T_Paper v0),(3,.loc 3 0 0),(6,.int .i64 v6)],[(3,some (.var 5 (.agg [.str r3_0,.str r3_1,.int .i64 r3_2,.int .i64 r3_3,.int .i64 r3_4])))]⟩
noncomputable def impl_AddPaper_p1  (v0 : List T_Paper.ty) (v6 : Int) (r3_0 : List UInt8) (r3_1 : List UInt8) (r3_2 : Int) (r3_3 : Int) (r3_4 : Int) : Option (List T_Paper.ty × Int) :=
 goL impl_AddPaper_D impl_AddPaper_H (vleave impl_AddPaper_ir [.d (.one (.sl T_Paper)),.d T_Paper] [.d (.one (.sl T_Paper)),.d (.one (.int .i64))] [] []) [.c impl_AddPaper_k3]
  ⟨[(0,.sl T_Paper v0),(3,.loc 3 0 0),(6,.int .i64 v6)],[(3,some (.var 5 (.agg [.str r3_0,.str r3_1,.int .i64 r3_2,.int .i64 r3_3,.int .i64 r3_4])))]⟩
noncomputable def impl_AddPaper_p2  (v0 : List T_Paper.ty) (v6 : Int) (r3_0 : List UInt8) (r3_1 : List UInt8) (r3_2 : Int) (r3_3 : Int) (r3_4 : Int) : Option (List T_Paper.ty × Int) :=
 goL impl_AddPaper_D impl_AddPaper_H (vleave impl_AddPaper_ir [.d (.one (.sl T_Paper)),.d T_Paper] [.d (.one (.sl T_Paper)),.d (.one (.int .i64))] [] []) [.c impl_AddPaper_k2]
  ⟨[(0,.sl T_Paper v0),(3,.loc 3 0 0),(6,.int .i64 v6)],[(3,some (.var 5 (.agg [.str r3_0,.str r3_1,.int .i64 r3_2,.int .i64 r3_3,.int .i64 r3_4])))]⟩
theorem impl_AddPaper_eq (a0 : List T_Paper.ty) (a1 : T_Paper.ty) : impl_AddPaper a0 a1 =
 (impl_ValidPapers a0).bind fun x1 =>
  if (!x1) then
   some ([],1)
  else
   (impl_Paper_valid a1).bind fun x2 =>
    if (!x2) then
     some ([],2)
    else
     impl_AddPaper_p0 a0 0 a1.1 a1.2.1 a1.2.2.1 a1.2.2.2.1 a1.2.2.2.2.1 :=
 (mk_f _ _ _ _ _ _ _ 4000).trans (by kernel_rfl)
theorem impl_AddPaper_p0_eq  (v0 : List T_Paper.ty) (v6 : Int) (r3_0 : List UInt8) (r3_1 : List UInt8) (r3_2 : Int) (r3_3 : Int) (r3_4 : Int) : impl_AddPaper_p0 v0 v6 r3_0 r3_1 r3_2 r3_3 r3_4 =
 if decide (v6 < (v0.length : Int)) then
  if decide (0 ≤ v6) then
   (v0[v6.toNat]?).bind fun x1 =>
    if Op.bytesLess x1.1 r3_0 then
     impl_AddPaper_p0 v0 (IntKind.i64.wrap (v6 + 1)) r3_0 r3_1 r3_2 r3_3 r3_4
    else
     impl_AddPaper_p1 v0 v6 r3_0 r3_1 r3_2 r3_3 r3_4
  else
   none
 else
  impl_AddPaper_p1 v0 v6 r3_0 r3_1 r3_2 r3_3 r3_4 :=
 (goL_dn _ _ _ 4000 _ _).trans (by kernel_rfl)
theorem impl_AddPaper_p1_eq  (v0 : List T_Paper.ty) (v6 : Int) (r3_0 : List UInt8) (r3_1 : List UInt8) (r3_2 : Int) (r3_3 : Int) (r3_4 : Int) : impl_AddPaper_p1 v0 v6 r3_0 r3_1 r3_2 r3_3 r3_4 =
 if decide (v6 < (v0.length : Int)) then
  if decide (0 ≤ v6) then
   (v0[v6.toNat]?).bind fun x1 =>
    if (x1.1 == r3_0) then
     some ([],4)
    else
     if ((v0.length : Int) == 12) then
      some ([],5)
     else
      impl_AddPaper_p2 v0 v6 r3_0 r3_1 r3_2 r3_3 r3_4
  else
   none
 else
  if ((v0.length : Int) == 12) then
   some ([],5)
  else
   impl_AddPaper_p2 v0 v6 r3_0 r3_1 r3_2 r3_3 r3_4 :=
 (goL_dn _ _ _ 4000 _ _).trans (by kernel_rfl)
theorem impl_AddPaper_p2_eq  (v0 : List T_Paper.ty) (v6 : Int) (r3_0 : List UInt8) (r3_1 : List UInt8) (r3_2 : Int) (r3_3 : Int) (r3_4 : Int) : impl_AddPaper_p2 v0 v6 r3_0 r3_1 r3_2 r3_3 r3_4 =
 (impl_clone_impl_Paper_ v0).bind fun x1 =>
  if decide (x1.length = x1.length) then
   (slices_Insert___impl_Paper_impl_Paper_ x1 v6 [(r3_0,r3_1,r3_2,r3_3,r3_4,())]).bind fun x2 =>
    some ((x2.1.take x2.1.length),0)
  else
   none :=
 (goL_dn _ _ _ 4000 _ _).trans (by kernel_rfl)
noncomputable def strconv_FormatInt_c : Callee := formatIntC
noncomputable def strconv_FormatInt (a0 : Int) (a1 : Int) : Option (List UInt8) := strconv_FormatInt_c.f (a0,a1,())
theorem strconv_FormatInt_eq (a0 : Int) (a1 : Int) : strconv_FormatInt a0 a1 = if decide (a1 = 10) && (decide (-9223372036854775808 ≤ a0) && decide (a0 ≤ 9223372036854775807)) then some (Lib.itoa a0) else none := rfl
def impl_Decimal_ir : Fn := { np := 1,io := [],res := [.t 2],own := [false],body :=
 (.seq (.reg false [.V 2 (.asg (.c (.str [])))] [0] []) (.seq (.reg false [.V 3 (.mv (.t 0)),.V 4 (.call (.c (.fn 864 [])) [.t 3,.c (.int .i64 10)]),.V 2 (.asg (.t 4))] [2] []) .ret)) }
noncomputable def impl_Decimal_D : List (Nat × Callee) := [(864,strconv_FormatInt_c)]
def impl_Decimal_H : List (Nat × ET) := []
noncomputable def impl_Decimal_c : Callee := mkCallee impl_Decimal_D impl_Decimal_H impl_Decimal_ir [.d (.one (.int .i64))] [.d (.one .str)] []
noncomputable def impl_Decimal (a0 : Int) : Option (List UInt8) := impl_Decimal_c.f (a0,())
theorem impl_Decimal_eq (a0 : Int) : impl_Decimal a0 =
 (strconv_FormatInt a0 10).bind fun x1 =>
  some x1 :=
 (mk_f _ _ _ _ _ _ _ 4000).trans (by kernel_rfl)
noncomputable def strings_Join_c : Callee := joinC
noncomputable def strings_Join (a0 : List (List UInt8)) (a1 : List UInt8) : Option (List UInt8) := strings_Join_c.f (a0,a1,())
theorem strings_Join_eq (a0 : List (List UInt8)) (a1 : List UInt8) : strings_Join a0 a1 = if decide (a0.length ≤ 140737488355328) && decide ((Lib.join a0 a1).length ≤ 140737488355328) then some (Lib.join a0 a1) else none := rfl
def impl_ListText_k0 : C :=
 .seq (.reg false [.V 17 (.bin .lss (.t 16) (.t 15))] [3,14,15,16,17] [3]) (.seq (.cond (.t 17) .skip (.exit 0)) (.seq (.block 1 (.seq (.reg false [.V 18 (.ia 1 (.t 14) (.t 16)),.V 19 (.ld none (.t 18)),.V 5 (.asg (.t 19))] [3,5,14,15,16] [3]) (.seq (.seq (.reg false [.V 20 (.mv (.t 5)),.V 21 (.call (.c (.fn 23 [])) [.t 20,.c (.int .i64 (-1000000000000)),.c (.int .i64 1000000000000)]),.V 22 (.un .not (.t 21))] [3,5,14,15,16,22] [3]) (.cond (.t 22) (.seq (.reg false [.V 2 (.asg (.c (.str [])))] [2] []) .ret) .skip)) (.reg false [.V 23 (.mv (.t 3)),.V 24 (.mv (.t 5)),.V 25 (.call (.c (.fn 524 [])) [.t 24]),.V 26 (.bsl 1 (.str []) 1 [(0,.t 25)]),.W 27 (.app 1 16 (.t 23) (.t 26)),.W 3 (.asg (.t 27))] [3,14,15,16] [3])))) (.reg false [.V 28 (.bin .add (.t 16) (.c (.int .i64 1))),.V 16 (.mv (.t 28))] [3,14,15,16] [3])))
def impl_ListText_k1 : C :=
 .norm [3,14,15,16] [3] impl_ListText_k0
def impl_ListText_k2 : C :=
 .seq (.reg false [.V 29 (.mv (.t 3)),.V 30 (.call (.c (.fn 630 [])) [.t 29,.c (.str [44])]),.V 2 (.asg (.t 30))] [2] []) .ret
def impl_ListText_ir : Fn := { np := 1,io := [],res := [.t 2],own := [false],body :=
 (.seq (.reg false [.V 2 (.asg (.c (.str [])))] [0] []) (.seq (.seq (.reg false [.V 6 (.mv (.t 0)),.V 7 (.len (.t 6)),.V 8 (.call (.c (.fn 21 [])) [.t 7,.c (.int .i64 64)]),.V 9 (.un .not (.t 8))] [0,9] []) (.cond (.t 9) (.seq (.reg false [.V 2 (.asg (.c (.str [])))] [2] []) .ret) .skip)) (.seq (.seq (.reg false [.V 10 (.mv (.t 0)),.V 11 (.len (.t 10)),.V 12 (.bin .eql (.t 11) (.c (.int .i64 0)))] [0,12] []) (.cond (.t 12) (.seq (.reg false [.V 2 (.asg (.c (.str [45])))] [2] []) .ret) .skip)) (.seq (.reg false [.V 13 (.bsl 1 (.str []) 0 []),.W 3 (.asg (.t 13))] [0,3] [3]) (.seq (.seq (.reg false [.V 14 (.mv (.t 0)),.V 15 (.len (.t 14)),.V 16 (.mv (.c (.int .i64 0)))] [3,14,15,16] [3]) (.block 0 (.loop impl_ListText_k1))) impl_ListText_k2))))) }
noncomputable def impl_ListText_D : List (Nat × Callee) := [(21,impl_few_c),(23,impl_within_c),(524,impl_Decimal_c),(630,strings_Join_c)]
def impl_ListText_H : List (Nat × ET) := [(3,(.one .str)),(6,(.one (.int .i64))),(10,(.one (.int .i64))),(13,(.one .str)),(14,(.one (.int .i64))),(23,(.one .str)),(26,(.one .str)),(27,(.one .str)),(29,(.one .str))]
noncomputable def impl_ListText_c : Callee := mkCallee impl_ListText_D impl_ListText_H impl_ListText_ir [.d (.one (.sl (.one (.int .i64))))] [.d (.one .str)] []
noncomputable def impl_ListText (a0 : List Int) : Option (List UInt8) := impl_ListText_c.f (a0,())
noncomputable def impl_ListText_p0  (v14 : List Int) (v15 : Int) (v16 : Int) (r3 : List (List UInt8)) : Option (List UInt8) :=
 goL impl_ListText_D impl_ListText_H (vleave impl_ListText_ir [.d (.one (.sl (.one (.int .i64))))] [.d (.one .str)] [] []) [.c impl_ListText_k0,.l impl_ListText_k1,.e 0,.c impl_ListText_k2]
  ⟨[(3,.view 3 0 r3.length),(14,.sl (.one (.int .i64)) v14),(15,.int .i64 v15),(16,.int .i64 v16)],[(3,some (.sl (.one .str) r3))]⟩
theorem impl_ListText_eq (a0 : List Int) : impl_ListText a0 =
 (impl_few (a0.length : Int) 64).bind fun x1 =>
  if (!x1) then
   some []
  else
   if ((a0.length : Int) == 0) then
    some [45]
   else
    impl_ListText_p0 a0 (a0.length : Int) 0 [] :=
 (mk_f _ _ _ _ _ _ _ 4000).trans (by kernel_rfl)
theorem impl_ListText_p0_eq  (v14 : List Int) (v15 : Int) (v16 : Int) (r3 : List (List UInt8)) : impl_ListText_p0 v14 v15 v16 r3 =
 if decide (v16 < v15) then
  if decide (0 ≤ v16) then
   (v14[v16.toNat]?).bind fun x1 =>
    (impl_within x1 (-1000000000000) 1000000000000).bind fun x2 =>
     if (!x2) then
      some []
     else
      (impl_Decimal x1).bind fun x3 =>
       if decide (r3.length + 1 < lim) then
        impl_ListText_p0 v14 v15 (IntKind.i64.wrap (v16 + 1)) ((r3.take r3.length) ++ [x3])
       else
        none
  else
   none
 else
  (strings_Join (r3.take r3.length) [44]).bind fun x4 =>
   some x4 :=
 (goL_dn _ _ _ 4000 _ _).trans (by kernel_rfl)
def impl_named_ir : Fn := { np := 2,io := [],res := [.t 4],own := [false],body :=
 (.seq (.reg false [.V 4 (.asg (.c (.str [])))] [0,1] []) (.seq (.reg false [.V 5 (.mv (.t 0)),.V 6 (.bin .add (.t 5) (.c (.str [32]))),.V 7 (.mv (.t 1)),.V 8 (.call (.c (.fn 460 [])) [.t 7]),.V 9 (.bin .add (.t 6) (.t 8)),.V 4 (.asg (.t 9))] [4] []) .ret)) }
noncomputable def impl_named_D : List (Nat × Callee) := [(460,impl_ListText_c)]
def impl_named_H : List (Nat × ET) := [(7,(.one (.int .i64)))]
noncomputable def impl_named_c : Callee := mkCallee impl_named_D impl_named_H impl_named_ir [.d (.one .str),.d (.one (.sl (.one (.int .i64))))] [.d (.one .str)] []
noncomputable def impl_named (a0 : List UInt8) (a1 : List Int) : Option (List UInt8) := impl_named_c.f (a0,a1,())
theorem impl_named_eq (a0 : List UInt8) (a1 : List Int) : impl_named a0 a1 =
 if decide (a0.length + [32].length ≤ strMax) then
  (impl_ListText a1).bind fun x1 =>
   if decide ((a0 ++ [32]).length + x1.length ≤ strMax) then
    some ((a0 ++ [32]) ++ x1)
   else
    none
 else
  none :=
 (mk_f _ _ _ _ _ _ _ 4000).trans (by kernel_rfl)
def impl_PaperText_ir : Fn := { np := 1,io := [],res := [.t 2],own := [false],body :=
 (.seq (.reg false [.W 1 (.box 5 (.t 0)),.V 2 (.asg (.c (.str [])))] [1] [1]) (.seq (.seq (.reg false [.V 3 (.ld (some 5) (.t 1)),.V 4 (.call (.c (.fn 809 [])) [.t 3]),.V 5 (.un .not (.t 4))] [1,5] [1]) (.cond (.t 5) (.seq (.reg false [.V 2 (.asg (.c (.str [])))] [2] []) .ret) .skip)) (.seq (.reg true [.V 6 (.fa 0 (.t 1)),.V 7 (.ld none (.t 6)),.V 8 (.bin .add (.t 7) (.c (.str [32]))),.V 9 (.fa 1 (.t 1)),.V 10 (.ld none (.t 9)),.V 11 (.fa 2 (.t 1)),.V 12 (.ld none (.t 11)),.V 13 (.fa 3 (.t 1)),.V 14 (.ld none (.t 13)),.V 15 (.fa 4 (.t 1)),.V 16 (.ld none (.t 15)),.V 17 (.bsl 1 (.int .i64 0) 3 [(0,.t 12),(1,.t 14),(2,.t 16)]),.V 18 (.call (.c (.fn 459 [])) [.t 10,.t 17]),.V 19 (.bin .add (.t 8) (.t 18)),.V 2 (.asg (.t 19))] [2] []) .ret))) }
noncomputable def impl_PaperText_D : List (Nat × Callee) := [(459,impl_named_c),(809,impl_Paper_valid_c)]
def impl_PaperText_H : List (Nat × ET) := [(17,(.one (.int .i64)))]
noncomputable def impl_PaperText_c : Callee := mkCallee impl_PaperText_D impl_PaperText_H impl_PaperText_ir [.d T_Paper] [.d (.one .str)] []
noncomputable def impl_PaperText (a0 : T_Paper.ty) : Option (List UInt8) := impl_PaperText_c.f (a0,())
theorem impl_PaperText_eq (a0 : T_Paper.ty) : impl_PaperText a0 =
 (impl_Paper_valid a0).bind fun x1 =>
  if (!x1) then
   some []
  else
   if decide (a0.1.length + [32].length ≤ strMax) then
    (impl_named a0.2.1 [a0.2.2.1,a0.2.2.2.1,a0.2.2.2.2.1]).bind fun x2 =>
     if decide ((a0.1 ++ [32]).length + x2.length ≤ strMax) then
      some ((a0.1 ++ [32]) ++ x2)
     else
      none
   else
    none :=
 (mk_f _ _ _ _ _ _ _ 4000).trans (by kernel_rfl)
noncomputable def strings_Split_c : Callee := splitC
noncomputable def strings_Split (a0 : List UInt8) (a1 : List UInt8) : Option (List (List UInt8)) := strings_Split_c.f (a0,a1,())
theorem strings_Split_eq (a0 : List UInt8) (a1 : List UInt8) : strings_Split a0 a1 = if decide (a0.length < 4294967281) && decide (1 ≤ a1.length) then some (Lib.splitK a1 0 (Lib.count a0 a1) a0) else none := rfl
def impl_SplitWords_k0 : C :=
 .seq (.reg false [.V 11 (.bin .lss (.t 10) (.t 9))] [3,8,9,10,11] [3]) (.seq (.cond (.t 11) .skip (.exit 0)) (.seq (.block 1 (.seq (.reg false [.V 12 (.ia 1 (.t 8) (.t 10)),.V 13 (.ld none (.t 12)),.V 5 (.asg (.t 13))] [3,5,8,9,10] [3]) (.seq (.reg false [.V 14 (.mv (.t 5)),.V 15 (.bin .neq (.t 14) (.c (.str [])))] [3,5,8,9,10,15] [3]) (.cond (.t 15) (.reg false [.V 16 (.mv (.t 3)),.V 17 (.mv (.t 5)),.V 18 (.bsl 1 (.str []) 1 [(0,.t 17)]),.W 19 (.app 1 16 (.t 16) (.t 18)),.W 3 (.asg (.t 19))] [3,8,9,10] [3]) .skip)))) (.reg false [.V 20 (.bin .add (.t 10) (.c (.int .i64 1))),.V 10 (.mv (.t 20))] [3,8,9,10] [3])))
def impl_SplitWords_k1 : C :=
 .norm [3,8,9,10] [3] impl_SplitWords_k0
def impl_SplitWords_k2 : C :=
 .seq (.reg false [.V 21 (.mv (.t 3)),.W 2 (.asg (.t 21))] [2] [2,3]) .ret
def impl_SplitWords_ir : Fn := { np := 1,io := [],res := [.t 2],own := [true],body :=
 (.seq (.reg false [.W 2 (.asg (.c (.nils 1)))] [0] []) (.seq (.reg false [.V 6 (.bsl 1 (.str []) 0 []),.W 3 (.asg (.t 6))] [0,3] [3]) (.seq (.seq (.reg false [.V 7 (.mv (.t 0)),.V 8 (.call (.c (.fn 683 [])) [.t 7,.c (.str [32])]),.V 9 (.len (.t 8)),.V 10 (.mv (.c (.int .i64 0)))] [3,8,9,10] [3]) (.block 0 (.loop impl_SplitWords_k1))) impl_SplitWords_k2))) }
noncomputable def impl_SplitWords_D : List (Nat × Callee) := [(683,strings_Split_c)]
def impl_SplitWords_H : List (Nat × ET) := [(2,(.one .str)),(3,(.one .str)),(6,(.one .str)),(8,(.one .str)),(16,(.one .str)),(18,(.one .str)),(19,(.one .str)),(21,(.one .str))]
noncomputable def impl_SplitWords_c : Callee := mkCallee impl_SplitWords_D impl_SplitWords_H impl_SplitWords_ir [.d (.one .str)] [.tok (.one .str)] []
noncomputable def impl_SplitWords (a0 : List UInt8) : Option (List (List UInt8)) := impl_SplitWords_c.f (a0,())
noncomputable def impl_SplitWords_p0  (v8 : List (List UInt8)) (v9 : Int) (v10 : Int) (r3 : List (List UInt8)) : Option (List (List UInt8)) :=
 goL impl_SplitWords_D impl_SplitWords_H (vleave impl_SplitWords_ir [.d (.one .str)] [.tok (.one .str)] [] []) [.c impl_SplitWords_k0,.l impl_SplitWords_k1,.e 0,.c impl_SplitWords_k2]
  ⟨[(3,.view 3 0 r3.length),(8,.sl (.one .str) v8),(9,.int .i64 v9),(10,.int .i64 v10)],[(3,some (.sl (.one .str) r3))]⟩
theorem impl_SplitWords_eq (a0 : List UInt8) : impl_SplitWords a0 =
 (strings_Split a0 [32]).bind fun x1 =>
  impl_SplitWords_p0 x1 (x1.length : Int) 0 [] :=
 (mk_f _ _ _ _ _ _ _ 4000).trans (by kernel_rfl)
theorem impl_SplitWords_p0_eq  (v8 : List (List UInt8)) (v9 : Int) (v10 : Int) (r3 : List (List UInt8)) : impl_SplitWords_p0 v8 v9 v10 r3 =
 if decide (v10 < v9) then
  if decide (0 ≤ v10) then
   (v8[v10.toNat]?).bind fun x1 =>
    if (!(x1 == [])) then
     if decide (r3.length + 1 < lim) then
      impl_SplitWords_p0 v8 v9 (IntKind.i64.wrap (v10 + 1)) ((r3.take r3.length) ++ [x1])
     else
      none
    else
     impl_SplitWords_p0 v8 v9 (IntKind.i64.wrap (v10 + 1)) r3
  else
   none
 else
  some (r3.take r3.length) :=
 (goL_dn _ _ _ 4000 _ _).trans (by kernel_rfl)
noncomputable def impl_ReadDecimal_c : Callee := readDecC
noncomputable def impl_ReadDecimal (a0 : List UInt8) : Option (Int × Bool) := impl_ReadDecimal_c.f (a0,())
theorem impl_ReadDecimal_eq (a0 : List UInt8) : impl_ReadDecimal a0 = some (readDecP a0) := rfl
def impl_ReadList_k0 : C :=
 .seq (.reg false [.V 16 (.bin .lss (.t 15) (.t 14))] [4,13,14,15,16] [4]) (.seq (.cond (.t 16) .skip (.exit 0)) (.seq (.block 1 (.seq (.reg false [.V 17 (.ia 1 (.t 13) (.t 15)),.V 18 (.ld none (.t 17)),.V 6 (.asg (.t 18))] [4,6,13,14,15] [4]) (.seq (.reg false [.V 20 (.mv (.t 6)),.V 21 (.call (.c (.fn 522 [])) [.t 20]),.V 19 (.mv (.t 21)),.V 22 (.ext (.t 19) 0),.V 23 (.ext (.t 19) 1),.V 7 (.asg (.t 22)),.V 8 (.asg (.t 23))] [4,7,8,13,14,15] [4]) (.seq (.seq (.reg false [.V 24 (.mv (.t 8)),.V 25 (.un .not (.t 24)),.V 26 (.mv (.t 25)),.G 27 (.mv (.t 7)) 2 false,.G 28 (.call (.c (.fn 23 [])) [.t 27,.c (.int .i64 (-1000000000000)),.c (.int .i64 1000000000000)]) 2 false,.G 29 (.un .not (.t 28)) 2 false,.V 30 (.pick (.t 26) (.c (.bool true)) (.t 29)),.V 31 (.mv (.t 30)),.G 32 (.mv (.t 4)) 7 false,.G 33 (.len (.t 32)) 7 false,.G 34 (.bin .eql (.t 33) (.c (.int .i64 64))) 7 false,.V 35 (.pick (.t 31) (.c (.bool true)) (.t 34))] [4,7,13,14,15,35] [4]) (.cond (.t 35) (.seq (.reg false [.W 2 (.asg (.c (.nils 1))),.V 3 (.asg (.c (.bool false)))] [2,3] [2,4]) .ret) .skip)) (.reg false [.V 36 (.mv (.t 4)),.V 37 (.mv (.t 7)),.V 38 (.bsl 1 (.int .i64 0) 1 [(0,.t 37)]),.W 39 (.app 1 8 (.t 36) (.t 38)),.W 4 (.asg (.t 39))] [4,13,14,15] [4]))))) (.reg false [.V 40 (.bin .add (.t 15) (.c (.int .i64 1))),.V 15 (.mv (.t 40))] [4,13,14,15] [4])))
def impl_ReadList_k1 : C :=
 .norm [4,13,14,15] [4] impl_ReadList_k0
def impl_ReadList_k2 : C :=
 .seq (.reg false [.V 41 (.mv (.t 4)),.W 2 (.asg (.t 41)),.V 3 (.asg (.c (.bool true)))] [2,3] [2,4]) .ret
def impl_ReadList_ir : Fn := { np := 1,io := [],res := [.t 2,.t 3],own := [true,false],body :=
 (.seq (.reg false [.W 2 (.asg (.c (.nils 1))),.V 3 (.asg (.c (.bool false)))] [0] []) (.seq (.seq (.reg false [.V 9 (.mv (.t 0)),.V 10 (.bin .eql (.t 9) (.c (.str [45])))] [0,10] []) (.cond (.t 10) (.seq (.reg false [.W 2 (.asg (.c (.nils 1))),.V 3 (.asg (.c (.bool true)))] [2,3] [2,4]) .ret) .skip)) (.seq (.reg false [.V 11 (.bsl 1 (.int .i64 0) 0 []),.W 4 (.asg (.t 11))] [0,4] [4]) (.seq (.seq (.reg false [.V 12 (.mv (.t 0)),.V 13 (.call (.c (.fn 683 [])) [.t 12,.c (.str [44])]),.V 14 (.len (.t 13)),.V 15 (.mv (.c (.int .i64 0)))] [4,13,14,15] [4]) (.block 0 (.loop impl_ReadList_k1))) impl_ReadList_k2)))) }
noncomputable def impl_ReadList_D : List (Nat × Callee) := [(23,impl_within_c),(522,impl_ReadDecimal_c),(683,strings_Split_c)]
def impl_ReadList_H : List (Nat × ET) := [(2,(.one (.int .i64))),(4,(.one (.int .i64))),(11,(.one (.int .i64))),(13,(.one .str)),(32,(.one (.int .i64))),(36,(.one (.int .i64))),(38,(.one (.int .i64))),(39,(.one (.int .i64))),(41,(.one (.int .i64)))]
noncomputable def impl_ReadList_c : Callee := mkCallee impl_ReadList_D impl_ReadList_H impl_ReadList_ir [.d (.one .str)] [.tok (.one (.int .i64)),.d (.one .bool)] []
noncomputable def impl_ReadList (a0 : List UInt8) : Option (List Int × Bool) := impl_ReadList_c.f (a0,())
noncomputable def impl_ReadList_p0  (v13 : List (List UInt8)) (v14 : Int) (v15 : Int) (r4 : List Int) : Option (List Int × Bool) :=
 goL impl_ReadList_D impl_ReadList_H (vleave impl_ReadList_ir [.d (.one .str)] [.tok (.one (.int .i64)),.d (.one .bool)] [] []) [.c impl_ReadList_k0,.l impl_ReadList_k1,.e 0,.c impl_ReadList_k2]
  ⟨[(4,.view 4 0 r4.length),(13,.sl (.one .str) v13),(14,.int .i64 v14),(15,.int .i64 v15)],[(4,some (.sl (.one (.int .i64)) r4))]⟩
theorem impl_ReadList_eq (a0 : List UInt8) : impl_ReadList a0 =
 if (a0 == [45]) then
  some ([],true)
 else
  (strings_Split a0 [44]).bind fun x1 =>
   impl_ReadList_p0 x1 (x1.length : Int) 0 [] :=
 (mk_f _ _ _ _ _ _ _ 4000).trans (by kernel_rfl)
theorem impl_ReadList_p0_eq  (v13 : List (List UInt8)) (v14 : Int) (v15 : Int) (r4 : List Int) : impl_ReadList_p0 v13 v14 v15 r4 =
 if decide (v15 < v14) then
  if decide (0 ≤ v15) then
   (v13[v15.toNat]?).bind fun x1 =>
    (impl_ReadDecimal x1).bind fun x2 =>
     if (!x2.2) then
      some ([],false)
     else
      (impl_within x2.1 (-1000000000000) 1000000000000).bind fun x3 =>
       if (!x3) then
        some ([],false)
       else
        if ((r4.length : Int) == 64) then
         some ([],false)
        else
         if decide (r4.length + 1 < lim) then
          impl_ReadList_p0 v13 v14 (IntKind.i64.wrap (v15 + 1)) ((r4.take r4.length) ++ [x2.1])
         else
          none
  else
   none
 else
  some ((r4.take r4.length),true) :=
 (goL_dn _ _ _ 4000 _ _).trans (by kernel_rfl)
def impl_ReadPaper_k0 : C :=
 .seq (.reg true [⟨some 29,false,.mv (.t 4),none,false,[7]⟩,⟨some 30,false,.ia 1 (.t 29) (.c (.int .i64 0)),none,false,[7]⟩,⟨some 31,false,.ld none (.t 30),none,false,[7]⟩,⟨some 32,false,.mv (.t 4),none,false,[7]⟩,⟨some 33,false,.ia 1 (.t 32) (.c (.int .i64 1)),none,false,[7]⟩,⟨some 34,false,.ld none (.t 33),none,false,[7]⟩,⟨some 35,false,.mv (.t 5),none,false,[7]⟩,⟨some 36,false,.ia 1 (.t 35) (.c (.int .i64 0)),none,false,[7]⟩,⟨some 37,false,.ld none (.t 36),none,false,[7]⟩,⟨some 38,false,.mv (.t 5),none,false,[7]⟩,⟨some 39,false,.ia 1 (.t 38) (.c (.int .i64 1)),none,false,[7]⟩,⟨some 40,false,.ld none (.t 39),none,false,[7]⟩,⟨some 41,false,.mv (.t 5),none,false,[7]⟩,⟨some 42,false,.ia 1 (.t 41) (.c (.int .i64 2)),none,false,[7]⟩,⟨some 43,false,.ld none (.t 42),none,false,[7]⟩,⟨some 44,false,.build [.str [],.str [],.int .i64 0,.int .i64 0,.int .i64 0] [(0,1,.t 31),(1,1,.t 34),(2,1,.t 37),(3,1,.t 40),(4,1,.t 43)],none,false,[7]⟩,.W 7 (.alloc 5 (.agg [.str [],.str [],.int .i64 0,.int .i64 0,.int .i64 0])),⟨none,true,.sto 5 (.t 7) (.t 44),none,false,[]⟩] [0,2,7] [2,7]) (.seq (.seq (.reg false [.V 45 (.ld (some 5) (.t 7)),.V 46 (.call (.c (.fn 387 [])) [.t 45]),.V 47 (.mv (.t 0)),.V 48 (.bin .neq (.t 46) (.t 47))] [2,7,48] [2,7]) (.cond (.t 48) (.seq (.reg false [.V 49 (.build [.str [],.str [],.int .i64 0,.int .i64 0,.int .i64 0] []),⟨none,true,.sto 5 (.t 2) (.t 49),none,false,[]⟩,.V 3 (.asg (.c (.bool false)))] [2,3] [2]) .ret) .skip)) (.seq (.reg false [.V 50 (.ld (some 5) (.t 7)),⟨none,true,.sto 5 (.t 2) (.t 50),none,false,[]⟩,.V 3 (.asg (.c (.bool true)))] [2,3] [2]) .ret))
def impl_ReadPaper_ir : Fn := { np := 1,io := [],res := [.cell 2 (some 5),.t 3],own := [false,false],body :=
 (.seq (.reg false [.W 2 (.alloc 5 (.agg [.str [],.str [],.int .i64 0,.int .i64 0,.int .i64 0])),.V 3 (.asg (.c (.bool false)))] [0,2] [2]) (.seq (.reg false [.V 8 (.mv (.t 0)),.V 9 (.call (.c (.fn 458 [])) [.t 8]),.W 4 (.asg (.t 9))] [0,2,4] [2,4]) (.seq (.seq (.reg false [.V 10 (.mv (.t 4)),.V 11 (.len (.t 10)),.V 12 (.bin .neq (.t 11) (.c (.int .i64 3)))] [0,2,4,12] [2,4]) (.cond (.t 12) (.seq (.reg false [.V 13 (.build [.str [],.str [],.int .i64 0,.int .i64 0,.int .i64 0] []),⟨none,true,.sto 5 (.t 2) (.t 13),none,false,[]⟩,.V 3 (.asg (.c (.bool false)))] [2,3] [2]) .ret) .skip)) (.seq (.reg false [.V 15 (.mv (.t 4)),.V 16 (.ia 1 (.t 15) (.c (.int .i64 2))),.V 17 (.ld none (.t 16)),.V 18 (.call (.c (.fn 457 [])) [.t 17]),.V 14 (.mv (.t 18)),.V 19 (.ext (.t 14) 0),.V 20 (.ext (.t 14) 1),.W 5 (.asg (.t 19)),.V 6 (.asg (.t 20))] [0,2,4,5,6] [2,4,5]) (.seq (.seq (.reg false [.V 21 (.mv (.t 6)),.V 22 (.un .not (.t 21)),.V 23 (.mv (.t 22)),.G 24 (.mv (.t 5)) 2 false,.G 25 (.len (.t 24)) 2 false,.G 26 (.bin .neq (.t 25) (.c (.int .i64 3))) 2 false,.V 27 (.pick (.t 23) (.c (.bool true)) (.t 26))] [0,2,4,5,27] [2,4,5]) (.cond (.t 27) (.seq (.reg false [.V 28 (.build [.str [],.str [],.int .i64 0,.int .i64 0,.int .i64 0] []),⟨none,true,.sto 5 (.t 2) (.t 28),none,false,[]⟩,.V 3 (.asg (.c (.bool false)))] [2,3] [2]) .ret) .skip)) (.norm [0,2,4,5] [2,4,5] impl_ReadPaper_k0)))))) }
noncomputable def impl_ReadPaper_D : List (Nat × Callee) := [(387,impl_PaperText_c),(457,impl_ReadList_c),(458,impl_SplitWords_c)]
def impl_ReadPaper_H : List (Nat × ET) := [(4,(.one .str)),(5,(.one (.int .i64))),(9,(.one .str)),(10,(.one .str)),(15,(.one .str)),(19,(.one (.int .i64))),(24,(.one (.int .i64))),(29,(.one .str)),(32,(.one .str)),(35,(.one (.int .i64))),(38,(.one (.int .i64))),(41,(.one (.int .i64)))]
noncomputable def impl_ReadPaper_c : Callee := mkCallee impl_ReadPaper_D impl_ReadPaper_H impl_ReadPaper_ir [.d (.one .str)] [.d T_Paper,.d (.one .bool)] []
noncomputable def impl_ReadPaper (a0 : List UInt8) : Option (T_Paper.ty × Bool) := impl_ReadPaper_c.f (a0,())
noncomputable def impl_ReadPaper_p0  (v0 : List UInt8) (r2_0 : List UInt8) (r2_1 : List UInt8) (r2_2 : Int) (r2_3 : Int) (r2_4 : Int) (r4 : List (List UInt8)) (r5 : List Int) : Option (T_Paper.ty × Bool) :=
 goL impl_ReadPaper_D impl_ReadPaper_H (vleave impl_ReadPaper_ir [.d (.one .str)] [.d T_Paper,.d (.one .bool)] [] []) [.c impl_ReadPaper_k0]
  ⟨[(0,.str v0),(2,.loc 2 0 0),(4,.view 4 0 r4.length),(5,.view 5 0 r5.length)],[(2,some (.var 5 (.agg [.str r2_0,.str r2_1,.int .i64 r2_2,.int .i64 r2_3,.int .i64 r2_4]))),(4,some (.sl (.one .str) r4)),(5,some (.sl (.one (.int .i64)) r5))]⟩
theorem impl_ReadPaper_eq (a0 : List UInt8) : impl_ReadPaper a0 =
 (impl_SplitWords a0).bind fun x1 =>
  if ((x1.length : Int) != 3) then
   some (([],[],0,0,0,()),false)
  else
   if decide (2 < (x1.length : Int)) then
    (x1[2]?).bind fun x2 =>
     (impl_ReadList x2).bind fun x3 =>
      if (!x3.2) then
       some (([],[],0,0,0,()),false)
      else
       if ((x3.1.length : Int) != 3) then
        some (([],[],0,0,0,()),false)
       else
        impl_ReadPaper_p0 a0 [] [] 0 0 0 x1 x3.1
   else
    none :=
 (mk_f _ _ _ _ _ _ _ 4000).trans (by kernel_rfl)
theorem impl_ReadPaper_p0_eq  (v0 : List UInt8) (r2_0 : List UInt8) (r2_1 : List UInt8) (r2_2 : Int) (r2_3 : Int) (r2_4 : Int) (r4 : List (List UInt8)) (r5 : List Int) : impl_ReadPaper_p0 v0 r2_0 r2_1 r2_2 r2_3 r2_4 r4 r5 =
 if decide (0 < (r4.length : Int)) then
  (r4[0]?).bind fun x1 =>
   if decide (1 < (r4.length : Int)) then
    (r4[1]?).bind fun x2 =>
     if decide (0 < (r5.length : Int)) then
      (r5[0]?).bind fun x3 =>
       if decide (1 < (r5.length : Int)) then
        (r5[1]?).bind fun x4 =>
         if decide (2 < (r5.length : Int)) then
          (r5[2]?).bind fun x5 =>
           (impl_PaperText (x1,x2,x3,x4,x5,())).bind fun x6 =>
            if (!(x6 == v0)) then
             some (([],[],0,0,0,()),false)
            else
             some ((x1,x2,x3,x4,x5,()),true)
         else
          none
       else
        none
     else
      none
   else
    none
 else
  none :=
 (goL_dn _ _ _ 4000 _ _).trans (by kernel_rfl)
def spec_ValidPapers_ir : Fn := { np := 1,io := [],res := [.t 2],own := [false],body :=
 (.seq (.reg false [.V 2 (.asg (.c (.bool false)))] [0] []) (.seq (.reg false [.V 3 (.mv (.t 0)),.V 4 (.call (.c (.fn 640 [])) [.t 3]),.V 2 (.asg (.t 4))] [2] []) .ret)) }
noncomputable def spec_ValidPapers_D : List (Nat × Callee) := [(640,spec_l20Ok_c)]
def spec_ValidPapers_H : List (Nat × ET) := [(3,T_Paper)]
noncomputable def spec_ValidPapers_c : Callee := mkCallee spec_ValidPapers_D spec_ValidPapers_H spec_ValidPapers_ir [.d (.one (.sl T_Paper))] [.d (.one .bool)] []
noncomputable def spec_ValidPapers (a0 : List T_Paper.ty) : Option (Bool) := spec_ValidPapers_c.f (a0,())
theorem spec_ValidPapers_eq (a0 : List T_Paper.ty) : spec_ValidPapers a0 =
 (spec_l20Ok a0).bind fun x1 =>
  some x1 :=
 (mk_f _ _ _ _ _ _ _ 4000).trans (by kernel_rfl)
def laws_FnDocuments_k0 : C :=
 .seq (.seq (.reg false [.V 76 (.mv (.t 11)),.V 77 (.mv (.t 7)),.V 78 (.len (.t 77)),.V 79 (.bin .lss (.t 76) (.t 78))] [1,5,7,8,10,11,79] [5,7]) (.cond (.t 79) .skip (.exit 0))) (.seq (.block 1 (.reg false [.V 82 (.mv (.t 10)),.V 83 (.mv (.t 5)),.V 84 (.mv (.t 7)),.V 85 (.mv (.t 11)),.V 86 (.ia 1 (.t 84) (.t 85)),.V 87 (.ld none (.t 86)),.V 88 (.ia 5 (.t 83) (.t 87)),.V 89 (.fa 4 (.t 88)),.V 90 (.ld none (.t 89)),.V 91 (.bin .add (.t 82) (.t 90)),.V 10 (.asg (.t 91))] [1,5,7,8,10,11] [5,7])) (.reg false [.V 80 (.mv (.t 11)),.V 81 (.bin .add (.t 80) (.c (.int .i64 1))),.V 11 (.asg (.t 81))] [1,5,7,8,10,11] [5,7]))
def laws_FnDocuments_k1 : C :=
 .norm [1,5,7,8,10,11] [5,7] laws_FnDocuments_k0
def laws_FnDocuments_k2 : C :=
 .seq (.seq (.reg false [.V 108 (.mv (.t 14)),.V 109 (.mv (.t 5)),.V 110 (.len (.t 109)),.V 111 (.bin .lss (.t 108) (.t 110))] [1,5,7,8,12,13,14,111] [5,7]) (.cond (.t 111) .skip (.exit 4))) (.seq (.block 5 (.seq (.reg false [.V 114 (.mv (.t 5)),.V 115 (.mv (.t 12)),.V 116 (.mv (.t 14)),.V 117 (.bsl 1 (.int .i64 0) 2 [(0,.t 115),(1,.t 116)]),.V 118 (.call (.c (.fn 392 [])) [.t 114,.t 117])] [1,5,7,8,12,13,14,118] [5,7]) (.cond (.t 118) (.reg true [.V 119 (.mv (.t 13)),.V 120 (.mv (.t 5)),.V 121 (.mv (.t 12)),.V 122 (.ia 5 (.t 120) (.t 121)),.V 123 (.fa 4 (.t 122)),.V 124 (.ld none (.t 123)),.V 125 (.mv (.t 5)),.V 126 (.mv (.t 14)),.V 127 (.ia 5 (.t 125) (.t 126)),.V 128 (.fa 4 (.t 127)),.V 129 (.ld none (.t 128)),.V 130 (.bin .add (.t 124) (.t 129)),.V 131 (.max [.t 119,.t 130]),.V 13 (.asg (.t 131))] [1,5,7,8,12,13,14] [5,7]) .skip))) (.reg false [.V 112 (.mv (.t 14)),.V 113 (.bin .add (.t 112) (.c (.int .i64 1))),.V 14 (.asg (.t 113))] [1,5,7,8,12,13,14] [5,7]))
def laws_FnDocuments_k3 : C :=
 .norm [1,5,7,8,12,13,14] [5,7] laws_FnDocuments_k2
def laws_FnDocuments_k4 : C :=
 .seq (.reg false [.V 132 (.mv (.t 13)),.V 133 (.mv (.t 8)),.V 134 (.bin .gtr (.t 132) (.t 133))] [1,5,7,8,12,134] [5,7]) (.cond (.t 134) (.seq (.reg false [.V 4 (.asg (.c (.bool false)))] [4] []) .ret) .skip)
def laws_FnDocuments_k5 : C :=
 .reg false [.V 99 (.mv (.t 12)),.V 100 (.bin .add (.t 99) (.c (.int .i64 1))),.V 12 (.asg (.t 100))] [1,5,7,8,12] [5,7]
def laws_FnDocuments_k6 : C :=
 .seq (.seq (.reg false [.V 95 (.mv (.t 12)),.V 96 (.mv (.t 5)),.V 97 (.len (.t 96)),.V 98 (.bin .lss (.t 95) (.t 97))] [1,5,7,8,12,98] [5,7]) (.cond (.t 98) .skip (.exit 2))) (.seq (.block 3 (.seq (.reg false [.V 101 (.mv (.t 5)),.V 102 (.mv (.t 12)),.V 103 (.ia 5 (.t 101) (.t 102)),.V 104 (.fa 4 (.t 103)),.V 105 (.ld none (.t 104)),.V 13 (.asg (.t 105))] [1,5,7,8,12,13] [5,7]) (.seq (.seq (.reg false [.V 106 (.mv (.t 12)),.V 107 (.bin .add (.t 106) (.c (.int .i64 1))),.V 14 (.asg (.t 107))] [1,5,7,8,12,13,14] [5,7]) (.block 4 (.loop laws_FnDocuments_k3))) laws_FnDocuments_k4))) laws_FnDocuments_k5)
def laws_FnDocuments_k7 : C :=
 .norm [1,5,7,8,12] [5,7] laws_FnDocuments_k6
def laws_FnDocuments_k8 : C :=
 .seq (.seq (.reg false [.V 153 (.mv (.t 19)),.V 154 (.mv (.t 7)),.V 155 (.len (.t 154)),.V 156 (.bin .lss (.t 153) (.t 155))] [1,5,7,15,16,17,19,156] [5,7]) (.cond (.t 156) .skip (.exit 6))) (.seq (.block 7 (.seq (.reg false [.V 159 (.mv (.t 5)),.V 160 (.mv (.t 7)),.V 161 (.mv (.t 19)),.V 162 (.ia 1 (.t 160) (.t 161)),.V 163 (.ld none (.t 162)),.V 164 (.ia 5 (.t 159) (.t 163)),.V 165 (.ld (some 5) (.t 164)),.W 20 (.alloc 5 (.agg [.str [],.str [],.int .i64 0,.int .i64 0,.int .i64 0])),⟨none,true,.sto 5 (.t 20) (.t 165),none,false,[]⟩] [1,5,7,15,16,17,19,20] [5,7,20]) (.seq (.reg false [.V 166 (.fa 1 (.t 20)),.V 167 (.ld none (.t 166)),.V 168 (.mv (.t 15)),.V 169 (.bin .neq (.t 167) (.t 168)),.V 170 (.mv (.t 169)),.G 171 (.fa 2 (.t 20)) 4 false,.G 172 (.ld none (.t 171)) 4 false,.G 173 (.mv (.t 16)) 4 false,.G 174 (.bin .gtr (.t 172) (.t 173)) 4 false,.V 175 (.pick (.t 170) (.c (.bool true)) (.t 174)),.V 176 (.mv (.t 175)),.G 177 (.fa 3 (.t 20)) 10 false,.G 178 (.ld none (.t 177)) 10 false,.G 179 (.mv (.t 17)) 10 false,.G 180 (.bin .lss (.t 178) (.t 179)) 10 false,.V 181 (.pick (.t 176) (.c (.bool true)) (.t 180))] [1,5,7,15,16,17,19,181] [5,7]) (.cond (.t 181) (.seq (.reg false [.V 4 (.asg (.c (.bool false)))] [4] []) .ret) .skip)))) (.reg false [.V 157 (.mv (.t 19)),.V 158 (.bin .add (.t 157) (.c (.int .i64 1))),.V 19 (.asg (.t 158))] [1,5,7,15,16,17,19] [5,7]))
def laws_FnDocuments_k9 : C :=
 .norm [1,5,7,15,16,17,19] [5,7] laws_FnDocuments_k8
def laws_FnDocuments_k10 : C :=
 .seq (.reg false [.V 19 (.asg (.c (.int .i64 0)))] [1,5,7,15,16,17,19] [5,7]) (.block 6 (.loop laws_FnDocuments_k9))
def laws_FnDocuments_k11 : C :=
 .seq (.reg false [.V 135 (.mv (.t 7)),.V 136 (.len (.t 135)),.V 137 (.bin .gtr (.t 136) (.c (.int .i64 0)))] [1,5,7,137] [5,7]) (.cond (.t 137) (.seq (.reg false [.V 139 (.mv (.t 5)),.V 140 (.mv (.t 7)),.V 141 (.call (.c (.fn 391 [])) [.t 139,.t 140]),.V 138 (.mv (.t 141)),.V 142 (.ext (.t 138) 0),.V 143 (.ext (.t 138) 1),.V 144 (.ext (.t 138) 2),.V 145 (.ext (.t 138) 3),.V 15 (.asg (.t 142)),.V 16 (.asg (.t 143)),.V 17 (.asg (.t 144)),.V 18 (.asg (.t 145))] [1,5,7,15,16,17,18] [5,7]) (.seq (.seq (.reg false [.V 146 (.mv (.t 18)),.V 147 (.bin .neq (.t 146) (.c (.int .i64 0))),.V 148 (.mv (.t 147)),.G 149 (.mv (.t 16)) 2 false,.G 150 (.mv (.t 17)) 2 false,.G 151 (.bin .gtr (.t 149) (.t 150)) 2 false,.V 152 (.pick (.t 148) (.c (.bool true)) (.t 151))] [1,5,7,15,16,17,152] [5,7]) (.cond (.t 152) (.seq (.reg false [.V 4 (.asg (.c (.bool false)))] [4] []) .ret) .skip)) (.norm [1,5,7,15,16,17] [5,7] laws_FnDocuments_k10))) .skip)
def laws_FnDocuments_k12 : C :=
 .seq (.seq (.reg false [.V 92 (.mv (.t 10)),.V 93 (.mv (.t 8)),.V 94 (.bin .neq (.t 92) (.t 93))] [1,5,7,8,94] [5,7]) (.cond (.t 94) (.seq (.reg false [.V 4 (.asg (.c (.bool false)))] [4] []) .ret) .skip)) (.seq (.seq (.reg false [.V 12 (.asg (.c (.int .i64 0)))] [1,5,7,8,12] [5,7]) (.block 2 (.loop laws_FnDocuments_k7))) laws_FnDocuments_k11)
def laws_FnDocuments_k13 : C :=
 .seq (.seq (.reg false [.V 11 (.asg (.c (.int .i64 0)))] [1,5,7,8,10,11] [5,7]) (.block 0 (.loop laws_FnDocuments_k1))) laws_FnDocuments_k12
def laws_FnDocuments_k14 : C :=
 .seq (.seq (.reg false [.V 211 (.mv (.t 28)),.V 212 (.mv (.t 23)),.V 213 (.len (.t 212)),.V 214 (.bin .lss (.t 211) (.t 213))] [21,22,23,25,26,27,28,214] [21,22,23,25]) (.cond (.t 214) .skip (.exit 8))) (.seq (.block 9 (.reg true [.V 217 (.mv (.t 27)),.V 218 (.mv (.t 217)),.G 219 (.mv (.t 23)) 1 false,.G 220 (.mv (.t 28)) 1 false,.G 221 (.ia 5 (.t 219) (.t 220)) 1 false,.G 222 (.ld (some 5) (.t 221)) 1 false,.G 223 (.ld (some 5) (.t 22)) 1 false,.G 224 (.eqs false [.s,.s,.i,.i,.i] (.t 222) (.t 223)) 1 false,.V 225 (.pick (.t 218) (.c (.bool true)) (.t 224)),.V 27 (.asg (.t 225))] [21,22,23,25,26,27,28] [21,22,23,25])) (.reg false [.V 215 (.mv (.t 28)),.V 216 (.bin .add (.t 215) (.c (.int .i64 1))),.V 28 (.asg (.t 216))] [21,22,23,25,26,27,28] [21,22,23,25]))
def laws_FnDocuments_k15 : C :=
 .norm [21,22,23,25,26,27,28] [21,22,23,25] laws_FnDocuments_k14
def laws_FnDocuments_k16 : C :=
 .seq (.reg false [.V 226 (.mv (.t 23)),.V 227 (.call (.c (.fn 229 [])) [.t 226]),.V 228 (.mv (.t 227)),.G 229 (.mv (.t 23)) 2 true,.G 230 (.len (.t 229)) 2 true,.G 231 (.mv (.t 21)) 2 true,.G 232 (.len (.t 231)) 2 true,.G 233 (.bin .add (.t 232) (.c (.int .i64 1))) 2 true,.G 234 (.bin .eql (.t 230) (.t 233)) 2 true,.V 235 (.pick (.t 228) (.t 234) (.c (.bool false))),.V 236 (.mv (.t 235)),.G 237 (.mv (.t 27)) 10 true,.V 238 (.pick (.t 236) (.t 237) (.c (.bool false))),.V 239 (.mv (.t 238)),.G 240 (.mv (.t 26)) 13 true,.V 241 (.pick (.t 239) (.t 240) (.c (.bool false))),.V 242 (.mv (.t 241)),.G 243 (.ld (some 5) (.t 25)) 16 true,.G 244 (.ld (some 5) (.t 22)) 16 true,.G 245 (.eqs false [.s,.s,.i,.i,.i] (.t 243) (.t 244)) 16 true,.V 246 (.pick (.t 242) (.t 245) (.c (.bool false))),.V 4 (.asg (.t 246))] [4] []) .ret
def laws_FnDocuments_k17 : C :=
 .seq (.reg false [.V 190 (.mv (.t 1)),.V 191 (.call (.c (.fn 390 [])) [.t 190]),.V 189 (.mv (.t 191)),.V 192 (.ext (.t 189) 0),.V 193 (.ext (.t 189) 1),.W 22 (.alloc 5 (.agg [.str [],.str [],.int .i64 0,.int .i64 0,.int .i64 0])),.W 21 (.asg (.t 192)),⟨none,true,.sto 5 (.t 22) (.t 193),none,false,[]⟩] [21,22] [21,22]) (.seq (.reg false [.V 195 (.mv (.t 21)),.V 196 (.ld (some 5) (.t 22)),.W 197 (.call (.c (.fn 389 [])) [.t 195,.t 196]),.V 194 (.mv (.t 197)),.V 198 (.ext (.t 194) 0),.V 199 (.ext (.t 194) 1),.W 23 (.asg (.t 198)),.V 24 (.asg (.t 199))] [21,22,23,24] [21,22,23]) (.seq (.seq (.reg false [.V 200 (.mv (.t 24)),.V 201 (.bin .neq (.t 200) (.c (.int .i64 0)))] [21,22,23,201] [21,22,23]) (.cond (.t 201) (.seq (.reg false [.V 202 (.mv (.t 23)),.V 203 (.len (.t 202)),.V 204 (.bin .eql (.t 203) (.c (.int .i64 0))),.V 4 (.asg (.t 204))] [4] []) .ret) .skip)) (.seq (.reg false [.V 206 (.ld (some 5) (.t 22)),.V 207 (.call (.c (.fn 387 [])) [.t 206]),.V 208 (.call (.c (.fn 388 [])) [.t 207]),.V 205 (.mv (.t 208)),.V 209 (.ext (.t 205) 0),.V 210 (.ext (.t 205) 1),.W 25 (.alloc 5 (.agg [.str [],.str [],.int .i64 0,.int .i64 0,.int .i64 0])),⟨none,true,.sto 5 (.t 25) (.t 209),none,false,[]⟩,.V 26 (.asg (.t 210))] [21,22,23,25,26] [21,22,23,25]) (.seq (.reg false [.V 27 (.asg (.c (.bool false)))] [21,22,23,25,26,27] [21,22,23,25]) (.seq (.seq (.reg false [.V 28 (.asg (.c (.int .i64 0)))] [21,22,23,25,26,27,28] [21,22,23,25]) (.block 8 (.loop laws_FnDocuments_k15))) laws_FnDocuments_k16)))))
def laws_FnDocuments_k18 : C :=
 .norm [1] [] laws_FnDocuments_k17
def laws_FnDocuments_k19 : C :=
 .seq (.reg false [.V 36 (.mv (.t 0)),.V 37 (.call (.c (.fn 395 [])) [.t 36]),.V 35 (.mv (.t 37)),.V 38 (.ext (.t 35) 0),.V 39 (.ext (.t 35) 1),.W 5 (.asg (.t 38)),.V 6 (.asg (.t 39))] [1,5,6] [5]) (.seq (.reg false [.V 41 (.mv (.t 5)),.V 42 (.mv (.t 6)),.W 43 (.call (.c (.fn 394 [])) [.t 41,.t 42]),.V 40 (.mv (.t 43)),.V 44 (.ext (.t 40) 0),.V 45 (.ext (.t 40) 1),.V 46 (.ext (.t 40) 2),.W 7 (.asg (.t 44)),.V 8 (.asg (.t 45)),.V 9 (.asg (.t 46))] [1,5,7,8,9] [5,7]) (.seq (.seq (.reg false [.V 47 (.mv (.t 9)),.V 48 (.bin .eql (.t 47) (.c (.int .i64 0)))] [1,5,7,8,48] [5,7]) (.cond (.t 48) (.seq (.reg false [.V 10 (.asg (.c (.int .i64 0)))] [1,5,7,8,10] [5,7]) (.seq (.seq (.reg false [.V 49 (.mv (.t 7)),.V 50 (.mv (.t 5)),.V 51 (.len (.t 50)),.V 52 (.call (.c (.fn 71 [])) [.t 49,.t 51]),.V 53 (.un .not (.t 52)),.V 54 (.mv (.t 53)),.G 55 (.mv (.t 5)) 5 false,.G 56 (.mv (.t 7)) 5 false,.G 57 (.call (.c (.fn 393 [])) [.t 55,.t 56]) 5 false,.G 58 (.un .not (.t 57)) 5 false,.V 59 (.pick (.t 54) (.c (.bool true)) (.t 58)),.V 60 (.mv (.t 59)),.G 61 (.mv (.t 5)) 11 false,.G 62 (.mv (.t 7)) 11 false,.G 63 (.call (.c (.fn 392 [])) [.t 61,.t 62]) 11 false,.G 64 (.un .not (.t 63)) 11 false,.V 65 (.pick (.t 60) (.c (.bool true)) (.t 64)),.V 66 (.mv (.t 65)),.G 67 (.mv (.t 5)) 17 false,.G 68 (.len (.t 67)) 17 false,.G 69 (.bin .gtr (.t 68) (.c (.int .i64 0))) 17 false,.G 70 (.mv (.t 69)) 17 false,.G 71 (.mv (.t 7)) 21 true,.G 72 (.len (.t 71)) 21 true,.G 73 (.bin .eql (.t 72) (.c (.int .i64 0))) 21 true,.G 74 (.pick (.t 70) (.t 73) (.c (.bool false))) 17 false,.V 75 (.pick (.t 66) (.c (.bool true)) (.t 74))] [1,5,7,8,10,75] [5,7]) (.cond (.t 75) (.seq (.reg false [.V 4 (.asg (.c (.bool false)))] [4] []) .ret) .skip)) (.norm [1,5,7,8,10] [5,7] laws_FnDocuments_k13))) (.seq (.reg false [.V 182 (.mv (.t 7)),.V 183 (.len (.t 182)),.V 184 (.bin .neq (.t 183) (.c (.int .i64 0))),.V 185 (.mv (.t 184)),.G 186 (.mv (.t 8)) 3 false,.G 187 (.bin .neq (.t 186) (.c (.int .i64 0))) 3 false,.V 188 (.pick (.t 185) (.c (.bool true)) (.t 187))] [1,188] []) (.cond (.t 188) (.seq (.reg false [.V 4 (.asg (.c (.bool false)))] [4] []) .ret) .skip)))) laws_FnDocuments_k18))
def laws_FnDocuments_ir : Fn := { np := 2,io := [],res := [.t 4],own := [false],body :=
 (.seq (.reg false [.V 4 (.asg (.c (.bool false)))] [0,1] []) (.seq (.seq (.reg false [.V 29 (.mv (.t 0)),.V 30 (.call (.c (.fn 76 [])) [.t 29]),.V 31 (.mv (.t 30)),.G 32 (.mv (.t 1)) 2 false,.G 33 (.call (.c (.fn 76 [])) [.t 32]) 2 false,.V 34 (.pick (.t 31) (.c (.bool true)) (.t 33))] [0,1,34] []) (.cond (.t 34) (.seq (.reg false [.V 4 (.asg (.c (.bool true)))] [4] []) .ret) .skip)) (.norm [0,1] [] laws_FnDocuments_k19))) }
noncomputable def laws_FnDocuments_D : List (Nat × Callee) := [(71,laws_b10Rises_c),(76,laws_b10Long_c),(229,spec_ValidPapers_c),(387,impl_PaperText_c),(388,impl_ReadPaper_c),(389,impl_AddPaper_c),(390,spec_DrawAddPaper_c),(391,impl_SpanOf_c),(392,spec_Agrees_c),(393,impl_Agrees_c),(394,impl_MostTrusted_c),(395,spec_DrawMostTrusted_c)]
def laws_FnDocuments_H : List (Nat × ET) := [(5,T_Paper),(7,(.one (.int .i64))),(21,T_Paper),(23,T_Paper),(29,(.one (.int .u8))),(32,(.one (.int .u8))),(36,(.one (.int .u8))),(38,T_Paper),(41,T_Paper),(44,(.one (.int .i64))),(49,(.one (.int .i64))),(50,T_Paper),(55,T_Paper),(56,(.one (.int .i64))),(61,T_Paper),(62,(.one (.int .i64))),(67,T_Paper),(71,(.one (.int .i64))),(77,(.one (.int .i64))),(83,T_Paper),(84,(.one (.int .i64))),(96,T_Paper),(101,T_Paper),(109,T_Paper),(114,T_Paper),(117,(.one (.int .i64))),(120,T_Paper),(125,T_Paper),(135,(.one (.int .i64))),(139,T_Paper),(140,(.one (.int .i64))),(154,(.one (.int .i64))),(159,T_Paper),(160,(.one (.int .i64))),(182,(.one (.int .i64))),(190,(.one (.int .u8))),(192,T_Paper),(195,T_Paper),(198,T_Paper),(202,T_Paper),(212,T_Paper),(219,T_Paper),(226,T_Paper),(229,T_Paper),(231,T_Paper)]
noncomputable def laws_FnDocuments_c : Callee := mkCallee laws_FnDocuments_D laws_FnDocuments_H laws_FnDocuments_ir [.d (.one (.sl (.one (.int .u8)))),.d (.one (.sl (.one (.int .u8))))] [.d (.one .bool)] []
noncomputable def laws_FnDocuments (a0 : List Int) (a1 : List Int) : Option (Bool) := laws_FnDocuments_c.f (a0,a1,())
noncomputable def laws_FnDocuments_p0  (v0 : List Int) (v1 : List Int) : Option (Bool) :=
 goL laws_FnDocuments_D laws_FnDocuments_H (vleave laws_FnDocuments_ir [.d (.one (.sl (.one (.int .u8)))),.d (.one (.sl (.one (.int .u8))))] [.d (.one .bool)] [] []) [.c laws_FnDocuments_k19]
  ⟨[(0,.sl (.one (.int .u8)) v0),(1,.sl (.one (.int .u8)) v1)],[]⟩
noncomputable def laws_FnDocuments_p1  (v1 : List Int) (v5 : List T_Paper.ty) (v7 : List Int) (v8 : Int) (v10 : Int) : Option (Bool) :=
 goL laws_FnDocuments_D laws_FnDocuments_H (vleave laws_FnDocuments_ir [.d (.one (.sl (.one (.int .u8)))),.d (.one (.sl (.one (.int .u8))))] [.d (.one .bool)] [] []) [.c laws_FnDocuments_k13,.c laws_FnDocuments_k18]
  ⟨[(1,.sl (.one (.int .u8)) v1),(5,.sl T_Paper v5),(7,.sl (.one (.int .i64)) v7),(8,.int .i64 v8),(10,.int .i64 v10)],[(5,none),(7,none)]⟩
noncomputable def laws_FnDocuments_p2  (v1 : List Int) : Option (Bool) :=
 goL laws_FnDocuments_D laws_FnDocuments_H (vleave laws_FnDocuments_ir [.d (.one (.sl (.one (.int .u8)))),.d (.one (.sl (.one (.int .u8))))] [.d (.one .bool)] [] []) [.c laws_FnDocuments_k17]
  ⟨[(1,.sl (.one (.int .u8)) v1)],[]⟩
noncomputable def laws_FnDocuments_p3  (v1 : List Int) (v5 : List T_Paper.ty) (v7 : List Int) (v8 : Int) (v10 : Int) (v11 : Int) : Option (Bool) :=
 goL laws_FnDocuments_D laws_FnDocuments_H (vleave laws_FnDocuments_ir [.d (.one (.sl (.one (.int .u8)))),.d (.one (.sl (.one (.int .u8))))] [.d (.one .bool)] [] []) [.c laws_FnDocuments_k0,.l laws_FnDocuments_k1,.e 0,.c laws_FnDocuments_k12,.c laws_FnDocuments_k18]
  ⟨[(1,.sl (.one (.int .u8)) v1),(5,.sl T_Paper v5),(7,.sl (.one (.int .i64)) v7),(8,.int .i64 v8),(10,.int .i64 v10),(11,.int .i64 v11)],[(5,none),(7,none)]⟩
noncomputable def laws_FnDocuments_p4  (v21 : List T_Paper.ty) (v23 : List T_Paper.ty) (v26 : Bool) (v27 : Bool) (v28 : Int) (r22_0 : List UInt8) (r22_1 : List UInt8) (r22_2 : Int) (r22_3 : Int) (r22_4 : Int) (r25_0 : List UInt8) (r25_1 : List UInt8) (r25_2 : Int) (r25_3 : Int) (r25_4 : Int) : Option (Bool) :=
 goL laws_FnDocuments_D laws_FnDocuments_H (vleave laws_FnDocuments_ir [.d (.one (.sl (.one (.int .u8)))),.d (.one (.sl (.one (.int .u8))))] [.d (.one .bool)] [] []) [.c laws_FnDocuments_k14,.l laws_FnDocuments_k15,.e 8,.c laws_FnDocuments_k16]
  ⟨[(21,.sl T_Paper v21),(22,.loc 22 0 0),(23,.sl T_Paper v23),(25,.loc 25 0 0),(26,.bool v26),(27,.bool v27),(28,.int .i64 v28)],[(21,none),(22,some (.var 5 (.agg [.str r22_0,.str r22_1,.int .i64 r22_2,.int .i64 r22_3,.int .i64 r22_4]))),(23,none),(25,some (.var 5 (.agg [.str r25_0,.str r25_1,.int .i64 r25_2,.int .i64 r25_3,.int .i64 r25_4])))]⟩
noncomputable def laws_FnDocuments_p5  (v1 : List Int) (v5 : List T_Paper.ty) (v7 : List Int) (v8 : Int) (v12 : Int) : Option (Bool) :=
 goL laws_FnDocuments_D laws_FnDocuments_H (vleave laws_FnDocuments_ir [.d (.one (.sl (.one (.int .u8)))),.d (.one (.sl (.one (.int .u8))))] [.d (.one .bool)] [] []) [.c laws_FnDocuments_k6,.l laws_FnDocuments_k7,.e 2,.c laws_FnDocuments_k11,.c laws_FnDocuments_k18]
  ⟨[(1,.sl (.one (.int .u8)) v1),(5,.sl T_Paper v5),(7,.sl (.one (.int .i64)) v7),(8,.int .i64 v8),(12,.int .i64 v12)],[(5,none),(7,none)]⟩
noncomputable def laws_FnDocuments_p6  (v1 : List Int) (v5 : List T_Paper.ty) (v7 : List Int) (v8 : Int) (v12 : Int) (v13 : Int) (v14 : Int) : Option (Bool) :=
 goL laws_FnDocuments_D laws_FnDocuments_H (vleave laws_FnDocuments_ir [.d (.one (.sl (.one (.int .u8)))),.d (.one (.sl (.one (.int .u8))))] [.d (.one .bool)] [] []) [.c laws_FnDocuments_k2,.l laws_FnDocuments_k3,.e 4,.c laws_FnDocuments_k4,.e 3,.c laws_FnDocuments_k5,.l laws_FnDocuments_k7,.e 2,.c laws_FnDocuments_k11,.c laws_FnDocuments_k18]
  ⟨[(1,.sl (.one (.int .u8)) v1),(5,.sl T_Paper v5),(7,.sl (.one (.int .i64)) v7),(8,.int .i64 v8),(12,.int .i64 v12),(13,.int .i64 v13),(14,.int .i64 v14)],[(5,none),(7,none)]⟩
noncomputable def laws_FnDocuments_p7  (v1 : List Int) (v5 : List T_Paper.ty) (v7 : List Int) (v15 : List UInt8) (v16 : Int) (v17 : Int) : Option (Bool) :=
 goL laws_FnDocuments_D laws_FnDocuments_H (vleave laws_FnDocuments_ir [.d (.one (.sl (.one (.int .u8)))),.d (.one (.sl (.one (.int .u8))))] [.d (.one .bool)] [] []) [.c laws_FnDocuments_k10,.c laws_FnDocuments_k18]
  ⟨[(1,.sl (.one (.int .u8)) v1),(5,.sl T_Paper v5),(7,.sl (.one (.int .i64)) v7),(15,.str v15),(16,.int .i64 v16),(17,.int .i64 v17)],[(5,none),(7,none)]⟩
noncomputable def laws_FnDocuments_p8  (v1 : List Int) (v5 : List T_Paper.ty) (v7 : List Int) (v15 : List UInt8) (v16 : Int) (v17 : Int) (v19 : Int) : Option (Bool) :=
 goL laws_FnDocuments_D laws_FnDocuments_H (vleave laws_FnDocuments_ir [.d (.one (.sl (.one (.int .u8)))),.d (.one (.sl (.one (.int .u8))))] [.d (.one .bool)] [] []) [.c laws_FnDocuments_k8,.l laws_FnDocuments_k9,.e 6,.c laws_FnDocuments_k18]
  ⟨[(1,.sl (.one (.int .u8)) v1),(5,.sl T_Paper v5),(7,.sl (.one (.int .i64)) v7),(15,.str v15),(16,.int .i64 v16),(17,.int .i64 v17),(19,.int .i64 v19)],[(5,none),(7,none)]⟩
theorem laws_FnDocuments_eq (a0 : List Int) (a1 : List Int) : laws_FnDocuments a0 a1 =
 (laws_b10Long a0).bind fun x1 =>
  if x1 then
   some true
  else
   (laws_b10Long a1).bind fun x2 =>
    if x2 then
     some true
    else
     laws_FnDocuments_p0 a0 a1 :=
 (mk_f _ _ _ _ _ _ _ 4000).trans (by kernel_rfl)
theorem laws_FnDocuments_p0_eq  (v0 : List Int) (v1 : List Int) : laws_FnDocuments_p0 v0 v1 =
 (spec_DrawMostTrusted v0).bind fun x1 =>
  (impl_MostTrusted (x1.1.take x1.1.length) x1.2).bind fun x2 =>
   if (x2.2.2 == 0) then
    (laws_b10Rises x2.1 ((x1.1.take x1.1.length).length : Int)).bind fun x3 =>
     if (!x3) then
      some false
     else
      (impl_Agrees (x1.1.take x1.1.length) x2.1).bind fun x4 =>
       if (!x4) then
        some false
       else
        (spec_Agrees (x1.1.take x1.1.length) x2.1).bind fun x5 =>
         if (!x5) then
          some false
         else
          if decide (((x1.1.take x1.1.length).length : Int) > 0) then
           if ((x2.1.length : Int) == 0) then
            some false
           else
            laws_FnDocuments_p1 v1 (x1.1.take x1.1.length) x2.1 x2.2.1 0
          else
           laws_FnDocuments_p1 v1 (x1.1.take x1.1.length) x2.1 x2.2.1 0
   else
    if ((x2.1.length : Int) != 0) then
     some false
    else
     if (x2.2.1 != 0) then
      some false
     else
      laws_FnDocuments_p2 v1 :=
 (goL_dn _ _ _ 4000 _ _).trans (by kernel_rfl)
theorem laws_FnDocuments_p1_eq  (v1 : List Int) (v5 : List T_Paper.ty) (v7 : List Int) (v8 : Int) (v10 : Int) : laws_FnDocuments_p1 v1 v5 v7 v8 v10 =
 laws_FnDocuments_p3 v1 v5 v7 v8 v10 0 :=
 (goL_dn _ _ _ 4000 _ _).trans (by kernel_rfl)
theorem laws_FnDocuments_p2_eq  (v1 : List Int) : laws_FnDocuments_p2 v1 =
 (spec_DrawAddPaper v1).bind fun x1 =>
  (impl_AddPaper (x1.1.take x1.1.length) (x1.2.1,x1.2.2.1,x1.2.2.2.1,x1.2.2.2.2.1,x1.2.2.2.2.2.1,())).bind fun x2 =>
   if (x2.2 != 0) then
    some ((x2.1.length : Int) == 0)
   else
    (impl_PaperText (x1.2.1,x1.2.2.1,x1.2.2.2.1,x1.2.2.2.2.1,x1.2.2.2.2.2.1,())).bind fun x3 =>
     (impl_ReadPaper x3).bind fun x4 =>
      laws_FnDocuments_p4 (x1.1.take x1.1.length) x2.1 x4.2 false 0 x1.2.1 x1.2.2.1 x1.2.2.2.1 x1.2.2.2.2.1 x1.2.2.2.2.2.1 x4.1.1 x4.1.2.1 x4.1.2.2.1 x4.1.2.2.2.1 x4.1.2.2.2.2.1 :=
 (goL_dn _ _ _ 4000 _ _).trans (by kernel_rfl)
theorem laws_FnDocuments_p3_eq  (v1 : List Int) (v5 : List T_Paper.ty) (v7 : List Int) (v8 : Int) (v10 : Int) (v11 : Int) : laws_FnDocuments_p3 v1 v5 v7 v8 v10 v11 =
 if decide (v11 < (v7.length : Int)) then
  if decide (0 ≤ v11) then
   (v7[v11.toNat]?).bind fun x1 =>
    if decide (0 ≤ x1) then
     (v5[x1.toNat]?).bind fun x2 =>
      laws_FnDocuments_p3 v1 v5 v7 v8 (IntKind.i64.wrap (v10 + x2.2.2.2.2.1)) (IntKind.i64.wrap (v11 + 1))
    else
     none
  else
   none
 else
  if (v10 != v8) then
   some false
  else
   laws_FnDocuments_p5 v1 v5 v7 v8 0 :=
 (goL_dn _ _ _ 4000 _ _).trans (by kernel_rfl)
theorem laws_FnDocuments_p4_eq  (v21 : List T_Paper.ty) (v23 : List T_Paper.ty) (v26 : Bool) (v27 : Bool) (v28 : Int) (r22_0 : List UInt8) (r22_1 : List UInt8) (r22_2 : Int) (r22_3 : Int) (r22_4 : Int) (r25_0 : List UInt8) (r25_1 : List UInt8) (r25_2 : Int) (r25_3 : Int) (r25_4 : Int) : laws_FnDocuments_p4 v21 v23 v26 v27 v28 r22_0 r22_1 r22_2 r22_3 r22_4 r25_0 r25_1 r25_2 r25_3 r25_4 =
 if decide (v28 < (v23.length : Int)) then
  if v27 then
   laws_FnDocuments_p4 v21 v23 v26 true (IntKind.i64.wrap (v28 + 1)) r22_0 r22_1 r22_2 r22_3 r22_4 r25_0 r25_1 r25_2 r25_3 r25_4
  else
   if decide (0 ≤ v28) then
    (v23[v28.toNat]?).bind fun x1 =>
     laws_FnDocuments_p4 v21 v23 v26 ((x1.1 == r22_0) && ((x1.2.1 == r22_1) && ((x1.2.2.1 == r22_2) && ((x1.2.2.2.1 == r22_3) && (x1.2.2.2.2.1 == r22_4))))) (IntKind.i64.wrap (v28 + 1)) r22_0 r22_1 r22_2 r22_3 r22_4 r25_0 r25_1 r25_2 r25_3 r25_4
   else
    none
 else
  (spec_ValidPapers v23).bind fun x2 =>
   if x2 then
    if ((v23.length : Int) == IntKind.i64.wrap ((v21.length : Int) + 1)) then
     if v27 then
      if v26 then
       some ((r25_0 == r22_0) && ((r25_1 == r22_1) && ((r25_2 == r22_2) && ((r25_3 == r22_3) && (r25_4 == r22_4)))))
      else
       some false
     else
      some false
    else
     some false
   else
    some false :=
 (goL_dn _ _ _ 4000 _ _).trans (by kernel_rfl)
theorem laws_FnDocuments_p5_eq  (v1 : List Int) (v5 : List T_Paper.ty) (v7 : List Int) (v8 : Int) (v12 : Int) : laws_FnDocuments_p5 v1 v5 v7 v8 v12 =
 if decide (v12 < (v5.length : Int)) then
  if decide (0 ≤ v12) then
   (v5[v12.toNat]?).bind fun x1 =>
    laws_FnDocuments_p6 v1 v5 v7 v8 v12 x1.2.2.2.2.1 (IntKind.i64.wrap (v12 + 1))
  else
   none
 else
  if decide ((v7.length : Int) > 0) then
   (impl_SpanOf v5 v7).bind fun x2 =>
    if (x2.2.2.2 != 0) then
     some false
    else
     if decide (x2.2.1 > x2.2.2.1) then
      some false
     else
      laws_FnDocuments_p7 v1 v5 v7 x2.1 x2.2.1 x2.2.2.1
  else
   laws_FnDocuments_p2 v1 :=
 (goL_dn _ _ _ 4000 _ _).trans (by kernel_rfl)
theorem laws_FnDocuments_p6_eq  (v1 : List Int) (v5 : List T_Paper.ty) (v7 : List Int) (v8 : Int) (v12 : Int) (v13 : Int) (v14 : Int) : laws_FnDocuments_p6 v1 v5 v7 v8 v12 v13 v14 =
 if decide (v14 < (v5.length : Int)) then
  (spec_Agrees v5 [v12,v14]).bind fun x1 =>
   if x1 then
    if decide (0 ≤ v12) then
     (v5[v12.toNat]?).bind fun x2 =>
      if decide (0 ≤ v14) then
       (v5[v14.toNat]?).bind fun x3 =>
        laws_FnDocuments_p6 v1 v5 v7 v8 v12 (if IntKind.i64.wrap (x2.2.2.2.2.1 + x3.2.2.2.2.1) > v13 then IntKind.i64.wrap (x2.2.2.2.2.1 + x3.2.2.2.2.1) else v13) (IntKind.i64.wrap (v14 + 1))
      else
       none
    else
     none
   else
    laws_FnDocuments_p6 v1 v5 v7 v8 v12 v13 (IntKind.i64.wrap (v14 + 1))
 else
  if decide (v13 > v8) then
   some false
  else
   laws_FnDocuments_p5 v1 v5 v7 v8 (IntKind.i64.wrap (v12 + 1)) :=
 (goL_dn _ _ _ 4000 _ _).trans (by kernel_rfl)
theorem laws_FnDocuments_p7_eq  (v1 : List Int) (v5 : List T_Paper.ty) (v7 : List Int) (v15 : List UInt8) (v16 : Int) (v17 : Int) : laws_FnDocuments_p7 v1 v5 v7 v15 v16 v17 =
 laws_FnDocuments_p8 v1 v5 v7 v15 v16 v17 0 :=
 (goL_dn _ _ _ 4000 _ _).trans (by kernel_rfl)
theorem laws_FnDocuments_p8_eq  (v1 : List Int) (v5 : List T_Paper.ty) (v7 : List Int) (v15 : List UInt8) (v16 : Int) (v17 : Int) (v19 : Int) : laws_FnDocuments_p8 v1 v5 v7 v15 v16 v17 v19 =
 if decide (v19 < (v7.length : Int)) then
  if decide (0 ≤ v19) then
   (v7[v19.toNat]?).bind fun x1 =>
    if decide (0 ≤ x1) then
     (v5[x1.toNat]?).bind fun x2 =>
      if (!(x2.2.1 == v15)) then
       some false
      else
       if decide (x2.2.2.1 > v16) then
        some false
       else
        if decide (x2.2.2.2.1 < v17) then
         some false
        else
         laws_FnDocuments_p8 v1 v5 v7 v15 v16 v17 (IntKind.i64.wrap (v19 + 1))
    else
     none
  else
   none
 else
  laws_FnDocuments_p2 v1 :=
 (goL_dn _ _ _ 4000 _ _).trans (by kernel_rfl)
end Go.Ab.P
