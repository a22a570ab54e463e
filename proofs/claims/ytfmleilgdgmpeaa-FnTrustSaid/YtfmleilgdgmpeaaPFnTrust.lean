/- Functions of the program: abstract forms, and what their runs give. Conditions: none. -/
import Derived.Test.YtfmleilgdgmpeaaLD
import Derived.Test.YtfmleilgdgmpeaaL8
set_option maxRecDepth 100000
set_option linter.unusedVariables false
namespace Go.Ab.P
open Go.Ab
@[reducible] def T_Paper : ET := .agg (.cons .str (.cons .str (.cons (.int .i64) (.cons (.int .i64) (.cons (.int .i64) .nil)))))
@[reducible] def T_l00Src : ET := .agg (.cons (.sl (.one (.int .u8))) (.cons (.int .i64) (.cons (.int .u64) .nil)))
def laws_b10Long_ir : Fn := { np := 1,io := [],res := [.t 2],own := [false],body :=
 (.seq (.reg false [.V 2 (.asg (.c (.bool false)))] [0] []) (.seq (.reg false [.V 3 (.mv (.t 0)),.V 4 (.len (.t 3)),.V 5 (.bin .gtr (.t 4) (.c (.int .i64 1048576))),.V 2 (.asg (.t 5))] [2] []) .ret)) }
noncomputable def laws_b10Long_D : List (Nat × Callee) := []
def laws_b10Long_H : List (Nat × ET) := [(3,(.one (.int .u8)))]
noncomputable def laws_b10Long_c : Callee := mkCallee laws_b10Long_D laws_b10Long_H laws_b10Long_ir [.d (.one (.sl (.one (.int .u8))))] [.d (.one .bool)] []
noncomputable def laws_b10Long (a0 : List Int) : Option (Bool) := laws_b10Long_c.f (a0,())
theorem laws_b10Long_eq (a0 : List Int) : laws_b10Long a0 =
 some (decide ((a0.length : Int) > 1048576)) :=
 (mk_f _ _ _ _ _ _ _ 4000).trans (by kernel_rfl)
def spec_l00From_ir : Fn := { np := 1,io := [],res := [.t 2],own := [true],body :=
 (.seq (.reg false [.V 2 (.asg (.c (.cst (.pointer none))))] [0] []) (.seq (.reg false [.V 3 (.mv (.t 0)),.V 4 (.build [.nils 1,.int .i64 0,.int .u64 0] [(0,1,.t 3)]),.W 5 (.box 3 (.t 4)),.V 2 (.asg (.t 5))] [2] [5,6000]) .ret)) }
noncomputable def spec_l00From_D : List (Nat × Callee) := []
def spec_l00From_H : List (Nat × ET) := [(3,(.one (.int .u8)))]
noncomputable def spec_l00From_c : Callee := mkCallee spec_l00From_D spec_l00From_H spec_l00From_ir [.d (.one (.sl (.one (.int .u8))))] [.box T_l00Src] []
noncomputable def spec_l00From (a0 : List Int) : Option (T_l00Src.ty) := spec_l00From_c.f (a0,())
theorem spec_l00From_eq (a0 : List Int) : spec_l00From a0 =
 some (a0,0,0,()) :=
 (mk_f _ _ _ _ _ _ _ 4000).trans (by kernel_rfl)
def spec_l00Src_next_k0 : C :=
 .seq (.reg false [.V 25 (.mv (.t 0)),.V 26 (.nilck (.t 25)),.V 27 (.fa 1 (.t 26)),.V 28 (.ld none (.t 27)),.V 29 (.bin .add (.t 28) (.c (.int .i64 1))),.V 30 (.nilck (.t 25)),.V 31 (.fa 1 (.t 30)),⟨none,true,.sto 1 (.t 31) (.t 29),none,false,[]⟩] [0,3] [0,1000]) (.seq (.reg false [.V 32 (.mv (.t 0)),.V 33 (.mv (.t 0)),.V 34 (.nilck (.t 33)),.V 35 (.fa 2 (.t 34)),.V 36 (.ld none (.t 35)),.V 37 (.bin .mul (.t 36) (.c (.int .u64 6364136223846793005))),.V 38 (.mv (.t 3)),.V 39 (.conv (.int .u64) (.t 38)),.V 40 (.bin .add (.t 37) (.t 39)),.V 41 (.bin .add (.t 40) (.c (.int .u64 1442695040888963407))),.V 42 (.nilck (.t 32)),.V 43 (.fa 2 (.t 42)),⟨none,true,.sto 1 (.t 43) (.t 41),none,false,[]⟩] [0,3] [0,1000]) (.seq (.seq (.reg true [.V 44 (.mv (.t 0)),.V 45 (.nilck (.t 44)),.V 46 (.fa 1 (.t 45)),.V 47 (.ld none (.t 46)),.V 48 (.mv (.t 0)),.V 49 (.nilck (.t 48)),.V 50 (.fa 0 (.t 49)),.V 51 (.ld none (.t 50)),.V 52 (.len (.t 51)),.V 53 (.bin .leq (.t 47) (.t 52))] [0,3,53] [0,1000]) (.cond (.t 53) (.seq (.reg false [.V 54 (.mv (.t 3)),.V 2 (.asg (.t 54))] [0,2] [0,1000]) .ret) .skip)) (.seq (.reg false [.V 55 (.mv (.t 0)),.V 56 (.nilck (.t 55)),.V 57 (.fa 2 (.t 56)),.V 58 (.ld none (.t 57)),.V 59 (.bin .shr (.t 58) (.c (.int .u64 40))),.V 60 (.bin .and (.t 59) (.c (.int .u64 255))),.V 61 (.conv (.int .i64) (.t 60)),.V 2 (.asg (.t 61))] [0,2] [0,1000]) .ret)))
def spec_l00Src_next_ir : Fn := { np := 1,io := [true],res := [.t 2],own := [false],body :=
 (.seq (.reg false [.V 2 (.asg (.c (.int .i64 0)))] [0] [0,1000]) (.seq (.reg false [.V 3 (.asg (.c (.int .i64 0)))] [0,3] [0,1000]) (.seq (.seq (.reg true [.V 4 (.mv (.t 0)),.V 5 (.nilck (.t 4)),.V 6 (.fa 1 (.t 5)),.V 7 (.ld none (.t 6)),.V 8 (.mv (.t 0)),.V 9 (.nilck (.t 8)),.V 10 (.fa 0 (.t 9)),.V 11 (.ld none (.t 10)),.V 12 (.len (.t 11)),.V 13 (.bin .lss (.t 7) (.t 12))] [0,3,13] [0,1000]) (.cond (.t 13) (.reg true [.V 14 (.mv (.t 0)),.V 15 (.nilck (.t 14)),.V 16 (.fa 0 (.t 15)),.V 17 (.ld none (.t 16)),.V 18 (.mv (.t 0)),.V 19 (.nilck (.t 18)),.V 20 (.fa 1 (.t 19)),.V 21 (.ld none (.t 20)),.V 22 (.ia 1 (.t 17) (.t 21)),.V 23 (.ld none (.t 22)),.V 24 (.conv (.int .i64) (.t 23)),.V 3 (.asg (.t 24))] [0,3] [0,1000]) .skip)) (.norm [0,3] [0,1000] spec_l00Src_next_k0)))) }
noncomputable def spec_l00Src_next_D : List (Nat × Callee) := []
def spec_l00Src_next_H : List (Nat × ET) := [(11,(.one (.int .u8))),(17,(.one (.int .u8))),(51,(.one (.int .u8)))]
noncomputable def spec_l00Src_next_c : Callee := mkCallee spec_l00Src_next_D spec_l00Src_next_H spec_l00Src_next_ir [.box T_l00Src] [.d (.one (.int .i64))] [.box T_l00Src]
noncomputable def spec_l00Src_next (a0 : T_l00Src.ty) : Option (Int × T_l00Src.ty) := spec_l00Src_next_c.f (a0,())
noncomputable def spec_l00Src_next_p0  (v3 : Int) (r0_0 : List Int) (r0_1 : Int) (r0_2 : Int) : Option (Int × T_l00Src.ty) :=
 goL spec_l00Src_next_D spec_l00Src_next_H (vleave spec_l00Src_next_ir [.box T_l00Src] [.d (.one (.int .i64))] [.box T_l00Src] []) [.c spec_l00Src_next_k0]
  ⟨[(0,.loc 0 0 0),(3,.int .i64 v3)],[(0,some (.var 3 (.agg [.sl (.one (.int .u8)) r0_0,.int .i64 r0_1,.int .u64 r0_2]))),(1000,none)]⟩
theorem spec_l00Src_next_eq (a0 : T_l00Src.ty) : spec_l00Src_next a0 =
 if decide (a0.2.1 < (a0.1.length : Int)) then
  if decide (0 ≤ a0.2.1) then
   (a0.1[a0.2.1.toNat]?).bind fun x1 =>
    spec_l00Src_next_p0 (IntKind.i64.wrap x1) a0.1 a0.2.1 a0.2.2.1
  else
   none
 else
  spec_l00Src_next_p0 0 a0.1 a0.2.1 a0.2.2.1 :=
 (mk_f _ _ _ _ _ _ _ 4000).trans (by kernel_rfl)
theorem spec_l00Src_next_p0_eq  (v3 : Int) (r0_0 : List Int) (r0_1 : Int) (r0_2 : Int) : spec_l00Src_next_p0 v3 r0_0 r0_1 r0_2 =
 if decide (IntKind.i64.wrap (r0_1 + 1) ≤ (r0_0.length : Int)) then
  some (v3,(r0_0,IntKind.i64.wrap (r0_1 + 1),IntKind.u64.wrap ((IntKind.u64.wrap ((IntKind.u64.wrap (r0_2 * 6364136223846793005)) + (IntKind.u64.wrap v3))) + 1442695040888963407),()))
 else
  some (IntKind.i64.wrap (IntKind.u64.wrap ((BitVec.ofInt IntKind.u64.bits (Int.fdiv (IntKind.u64.wrap ((IntKind.u64.wrap ((IntKind.u64.wrap (r0_2 * 6364136223846793005)) + (IntKind.u64.wrap v3))) + 1442695040888963407)) (2 ^ (min (40 : Int).toNat IntKind.u64.bits))) &&& BitVec.ofInt IntKind.u64.bits 255).toNat : Int)),(r0_0,IntKind.i64.wrap (r0_1 + 1),IntKind.u64.wrap ((IntKind.u64.wrap ((IntKind.u64.wrap (r0_2 * 6364136223846793005)) + (IntKind.u64.wrap v3))) + 1442695040888963407),())) :=
 (goL_dn _ _ _ 4000 _ _).trans (by kernel_rfl)
def spec_l00Src_pick_ir : Fn := { np := 2,io := [true,false],res := [.t 4],own := [false],body :=
 (.seq (.reg false [.V 4 (.asg (.c (.int .i64 0)))] [0,1] [0,1000]) (.seq (.seq (.reg false [.V 6 (.mv (.t 1)),.V 7 (.bin .leq (.t 6) (.c (.int .i64 1)))] [0,1,7] [0,1000]) (.cond (.t 7) (.seq (.reg false [.V 4 (.asg (.c (.int .i64 0)))] [0,4] [0,1000]) .ret) .skip)) (.seq (.reg false [.V 8 (.mv (.t 0)),.W 9 (.call (.c (.fn 847 [])) [.t 8]),.V 5 (.asg (.t 9))] [0,1,5] [0,1000]) (.seq (.seq (.reg false [.V 10 (.mv (.t 1)),.V 11 (.bin .gtr (.t 10) (.c (.int .i64 200)))] [0,1,5,11] [0,1000]) (.cond (.t 11) (.reg false [.V 12 (.mv (.t 5)),.V 13 (.bin .mul (.t 12) (.c (.int .i64 256))),.V 14 (.mv (.t 0)),.W 15 (.call (.c (.fn 847 [])) [.t 14]),.V 16 (.bin .add (.t 13) (.t 15)),.V 5 (.asg (.t 16))] [0,1,5] [0,1000]) .skip)) (.seq (.reg false [.V 17 (.mv (.t 5)),.V 18 (.mv (.t 1)),.V 19 (.bin .rem (.t 17) (.t 18)),.V 4 (.asg (.t 19))] [0,4] [0,1000]) .ret))))) }
noncomputable def spec_l00Src_pick_D : List (Nat × Callee) := [(847,spec_l00Src_next_c)]
def spec_l00Src_pick_H : List (Nat × ET) := []
noncomputable def spec_l00Src_pick_c : Callee := mkCallee spec_l00Src_pick_D spec_l00Src_pick_H spec_l00Src_pick_ir [.box T_l00Src,.d (.one (.int .i64))] [.d (.one (.int .i64))] [.box T_l00Src]
noncomputable def spec_l00Src_pick (a0 : T_l00Src.ty) (a1 : Int) : Option (Int × T_l00Src.ty) := spec_l00Src_pick_c.f (a0,a1,())
theorem spec_l00Src_pick_eq (a0 : T_l00Src.ty) (a1 : Int) : spec_l00Src_pick a0 a1 =
 if decide (a1 ≤ 1) then
  some (0,a0)
 else
  (spec_l00Src_next a0).bind fun x1 =>
   if decide (a1 > 200) then
    (spec_l00Src_next (x1.2.1,x1.2.2.1,x1.2.2.2.1,())).bind fun x2 =>
     if decide (a1 = 0) then
      none
     else
      some ((IntKind.i64.wrap ((IntKind.i64.wrap (x1.1 * 256)) + x2.1)).tmod a1,(x2.2.1,x2.2.2.1,x2.2.2.2.1,()))
   else
    if decide (a1 = 0) then
     none
    else
     some (x1.1.tmod a1,(x1.2.1,x1.2.2.1,x1.2.2.2.1,())) :=
 (mk_f _ _ _ _ _ _ _ 4000).trans (by kernel_rfl)
def spec_l00Src_one_ir : Fn := { np := 2,io := [true,false],res := [.t 4],own := [false],body :=
 (.seq (.reg false [.V 4 (.asg (.c (.bool false)))] [0,1] [0,1000]) (.seq (.reg false [.V 5 (.mv (.t 0)),.V 6 (.mv (.t 1)),.W 7 (.call (.c (.fn 463 [])) [.t 5,.t 6]),.V 8 (.bin .eql (.t 7) (.c (.int .i64 0))),.V 4 (.asg (.t 8))] [0,4] [0,1000]) .ret)) }
noncomputable def spec_l00Src_one_D : List (Nat × Callee) := [(463,spec_l00Src_pick_c)]
def spec_l00Src_one_H : List (Nat × ET) := []
noncomputable def spec_l00Src_one_c : Callee := mkCallee spec_l00Src_one_D spec_l00Src_one_H spec_l00Src_one_ir [.box T_l00Src,.d (.one (.int .i64))] [.d (.one .bool)] [.box T_l00Src]
noncomputable def spec_l00Src_one (a0 : T_l00Src.ty) (a1 : Int) : Option (Bool × T_l00Src.ty) := spec_l00Src_one_c.f (a0,a1,())
theorem spec_l00Src_one_eq (a0 : T_l00Src.ty) (a1 : Int) : spec_l00Src_one a0 a1 =
 (spec_l00Src_pick a0 a1).bind fun x1 =>
  some ((x1.1 == 0),(x1.2.1,x1.2.2.1,x1.2.2.2.1,())) :=
 (mk_f _ _ _ _ _ _ _ 4000).trans (by kernel_rfl)
def spec_l00Src_text_ir : Fn := { np := 2,io := [true,false],res := [.t 4],own := [false],body :=
 (.seq (.reg false [.V 4 (.asg (.c (.str [])))] [0,1] [0,1000]) (.seq (.reg false [.V 5 (.mv (.t 1)),.V 6 (.mv (.t 0)),.V 7 (.mv (.t 1)),.V 8 (.len (.t 7)),.W 9 (.call (.c (.fn 463 [])) [.t 6,.t 8]),.V 10 (.ia 1 (.t 5) (.t 9)),.V 11 (.ld none (.t 10)),.V 4 (.asg (.t 11))] [0,4] [0,1000]) .ret)) }
noncomputable def spec_l00Src_text_D : List (Nat × Callee) := [(463,spec_l00Src_pick_c)]
def spec_l00Src_text_H : List (Nat × ET) := [(5,(.one .str)),(7,(.one .str))]
noncomputable def spec_l00Src_text_c : Callee := mkCallee spec_l00Src_text_D spec_l00Src_text_H spec_l00Src_text_ir [.box T_l00Src,.d (.one (.sl (.one .str)))] [.d (.one .str)] [.box T_l00Src]
noncomputable def spec_l00Src_text (a0 : T_l00Src.ty) (a1 : List (List UInt8)) : Option (List UInt8 × T_l00Src.ty) := spec_l00Src_text_c.f (a0,a1,())
theorem spec_l00Src_text_eq (a0 : T_l00Src.ty) (a1 : List (List UInt8)) : spec_l00Src_text a0 a1 =
 (spec_l00Src_pick a0 (a1.length : Int)).bind fun x1 =>
  if decide (0 ≤ x1.1) then
   (a1[x1.1.toNat]?).bind fun x2 =>
    some (x2,(x1.2.1,x1.2.2.1,x1.2.2.2.1,()))
  else
   none :=
 (mk_f _ _ _ _ _ _ _ 4000).trans (by kernel_rfl)
def spec_l20DrawOne_ir : Fn := { np := 2,io := [true,false],res := [.cell 4 (some 5)],own := [false],body :=
 (.seq (.reg false [.W 4 (.alloc 5 (.agg [.str [],.str [],.int .i64 0,.int .i64 0,.int .i64 0]))] [0,1,4] [0,4,1000]) (.seq (.reg false [.V 6 (.mv (.t 1)),.V 7 (.mv (.t 0)),.V 8 (.bsl 1 (.str []) 4 [(0,.c (.str [97,109,97,116,105])),(1,.c (.str [103,117,97,100,97,103,110,105,110,105])),(2,.c (.str [114,111,99,99,97])),(3,.c (.str [97,109,97,116,105]))]),.W 9 (.call (.c (.fn 557 [])) [.t 7,.t 8]),.V 10 (.build [.str [],.str [],.int .i64 0,.int .i64 0,.int .i64 0] [(0,1,.t 6),(1,1,.t 9)]),.W 5 (.alloc 5 (.agg [.str [],.str [],.int .i64 0,.int .i64 0,.int .i64 0])),⟨none,true,.sto 5 (.t 5) (.t 10),none,false,[]⟩] [0,4,5] [0,4,5,1000]) (.seq (.reg false [.V 11 (.mv (.t 0)),.W 12 (.call (.c (.fn 463 [])) [.t 11,.c (.int .i64 60)]),.V 13 (.bin .add (.c (.int .i64 1680)) (.t 12)),.V 14 (.fa 2 (.t 5)),⟨none,true,.sto 1 (.t 14) (.t 13),none,false,[]⟩] [0,4,5] [0,4,5,1000]) (.seq (.reg true [⟨some 15,false,.fa 2 (.t 5),none,false,[1000000]⟩,⟨some 16,false,.ld none (.t 15),none,true,[]⟩,.V 17 (.mv (.t 0)),⟨some 18,true,.call (.c (.fn 463 [])) [.t 17,.c (.int .i64 30)],none,false,[5,15]⟩,.V 19 (.bin .add (.t 16) (.t 18)),.V 20 (.fa 3 (.t 5)),⟨none,true,.sto 1 (.t 20) (.t 19),none,false,[]⟩] [0,4,5] [0,4,5,1000]) (.seq (.reg false [.V 21 (.mv (.t 0)),.W 22 (.call (.c (.fn 463 [])) [.t 21,.c (.int .i64 20)]),.V 23 (.bin .add (.c (.int .i64 1)) (.t 22)),.V 24 (.bin .mul (.c (.int .i64 50)) (.t 23)),.V 25 (.fa 4 (.t 5)),⟨none,true,.sto 1 (.t 25) (.t 24),none,false,[]⟩] [0,4,5] [0,4,5,1000]) (.seq (.reg false [.V 26 (.ld (some 5) (.t 5)),⟨none,true,.sto 5 (.t 4) (.t 26),none,false,[]⟩] [0,4] [0,4,1000]) .ret)))))) }
noncomputable def spec_l20DrawOne_D : List (Nat × Callee) := [(463,spec_l00Src_pick_c),(557,spec_l00Src_text_c)]
def spec_l20DrawOne_H : List (Nat × ET) := [(8,(.one .str))]
noncomputable def spec_l20DrawOne_c : Callee := mkCallee spec_l20DrawOne_D spec_l20DrawOne_H spec_l20DrawOne_ir [.box T_l00Src,.d (.one .str)] [.d T_Paper] [.box T_l00Src]
noncomputable def spec_l20DrawOne (a0 : T_l00Src.ty) (a1 : List UInt8) : Option (T_Paper.ty × T_l00Src.ty) := spec_l20DrawOne_c.f (a0,a1,())
theorem spec_l20DrawOne_eq (a0 : T_l00Src.ty) (a1 : List UInt8) : spec_l20DrawOne a0 a1 =
 (spec_l00Src_text a0 [[97,109,97,116,105],[103,117,97,100,97,103,110,105,110,105],[114,111,99,99,97],[97,109,97,116,105]]).bind fun x1 =>
  (spec_l00Src_pick (x1.2.1,x1.2.2.1,x1.2.2.2.1,()) 60).bind fun x2 =>
   (spec_l00Src_pick (x2.2.1,x2.2.2.1,x2.2.2.2.1,()) 30).bind fun x3 =>
    (spec_l00Src_pick (x3.2.1,x3.2.2.1,x3.2.2.2.1,()) 20).bind fun x4 =>
     some ((a1,x1.1,IntKind.i64.wrap (1680 + x2.1),IntKind.i64.wrap ((IntKind.i64.wrap (1680 + x2.1)) + x3.1),IntKind.i64.wrap (50 * (IntKind.i64.wrap (1 + x4.1))),()),(x4.2.1,x4.2.2.1,x4.2.2.2.1,())) :=
 (mk_f _ _ _ _ _ _ _ 4000).trans (by kernel_rfl)
def spec_l00Src_among_ir : Fn := { np := 2,io := [true,false],res := [.t 4],own := [false],body :=
 (.seq (.reg false [.V 4 (.asg (.c (.int .i64 0)))] [0,1] [0,1000]) (.seq (.reg false [.V 5 (.mv (.t 1)),.V 6 (.mv (.t 0)),.V 7 (.mv (.t 1)),.V 8 (.len (.t 7)),.W 9 (.call (.c (.fn 463 [])) [.t 6,.t 8]),.V 10 (.ia 1 (.t 5) (.t 9)),.V 11 (.ld none (.t 10)),.V 4 (.asg (.t 11))] [0,4] [0,1000]) .ret)) }
noncomputable def spec_l00Src_among_D : List (Nat × Callee) := [(463,spec_l00Src_pick_c)]
def spec_l00Src_among_H : List (Nat × ET) := [(5,(.one (.int .i64))),(7,(.one (.int .i64)))]
noncomputable def spec_l00Src_among_c : Callee := mkCallee spec_l00Src_among_D spec_l00Src_among_H spec_l00Src_among_ir [.box T_l00Src,.d (.one (.sl (.one (.int .i64))))] [.d (.one (.int .i64))] [.box T_l00Src]
noncomputable def spec_l00Src_among (a0 : T_l00Src.ty) (a1 : List Int) : Option (Int × T_l00Src.ty) := spec_l00Src_among_c.f (a0,a1,())
theorem spec_l00Src_among_eq (a0 : T_l00Src.ty) (a1 : List Int) : spec_l00Src_among a0 a1 =
 (spec_l00Src_pick a0 (a1.length : Int)).bind fun x1 =>
  if decide (0 ≤ x1.1) then
   (a1[x1.1.toNat]?).bind fun x2 =>
    some (x2,(x1.2.1,x1.2.2.1,x1.2.2.2.1,()))
  else
   none :=
 (mk_f _ _ _ _ _ _ _ 4000).trans (by kernel_rfl)
def spec_l20Bent_ir : Fn := { np := 2,io := [true,false],res := [.cell 4 (some 5)],own := [false],body :=
 (.seq (.reg false [.W 3 (.box 5 (.t 1)),.W 4 (.alloc 5 (.agg [.str [],.str [],.int .i64 0,.int .i64 0,.int .i64 0]))] [0,3,4] [0,3,4,1000]) (.seq (.seq (.reg false [.V 5 (.mv (.t 0)),.W 6 (.call (.c (.fn 463 [])) [.t 5,.c (.int .i64 18)])] [0,3,4,6] [0,3,4,1000]) (.block 0 (.seq (.reg false [.V 8 (.bin .eql (.t 6) (.c (.int .i64 0))),.V 7 (.asg (.t 8))] [0,3,4,6,7] [0,3,4,1000]) (.cond (.t 7) (.reg false [.V 9 (.mv (.t 0)),.V 10 (.fa 3 (.t 3)),.V 11 (.ld none (.t 10)),.V 12 (.fa 3 (.t 3)),.V 13 (.ld none (.t 12)),.V 14 (.bin .add (.t 13) (.c (.int .i64 1))),.V 15 (.bsl 1 (.int .i64 0) 4 [(0,.c (.int .i64 1499)),(1,.c (.int .i64 1500)),(2,.t 11),(3,.t 14)]),.W 16 (.call (.c (.fn 445 [])) [.t 9,.t 15]),.V 17 (.fa 2 (.t 3)),⟨none,true,.sto 1 (.t 17) (.t 16),none,false,[]⟩] [0,3,4] [0,3,4,1000]) (.seq (.reg false [.V 19 (.bin .eql (.t 6) (.c (.int .i64 1))),.V 18 (.asg (.t 19))] [0,3,4,6,18] [0,3,4,1000]) (.cond (.t 18) (.reg false [.V 20 (.mv (.t 0)),.V 21 (.bsl 1 (.int .i64 0) 2 [(0,.c (.int .i64 2100)),(1,.c (.int .i64 2101))]),.W 22 (.call (.c (.fn 445 [])) [.t 20,.t 21]),.V 23 (.fa 3 (.t 3)),⟨none,true,.sto 1 (.t 23) (.t 22),none,false,[]⟩] [0,3,4] [0,3,4,1000]) (.seq (.reg false [.V 25 (.bin .eql (.t 6) (.c (.int .i64 2))),.V 24 (.asg (.t 25))] [0,3,4,24] [0,3,4,1000]) (.cond (.t 24) (.reg false [.V 26 (.mv (.t 0)),.V 27 (.bsl 1 (.int .i64 0) 4 [(0,.c (.int .i64 0)),(1,.c (.int .i64 1)),(2,.c (.int .i64 1000)),(3,.c (.int .i64 1001))]),.W 28 (.call (.c (.fn 445 [])) [.t 26,.t 27]),.V 29 (.fa 4 (.t 3)),⟨none,true,.sto 1 (.t 29) (.t 28),none,false,[]⟩] [0,3,4] [0,3,4,1000]) .skip)))))))) (.seq (.reg false [.V 30 (.ld (some 5) (.t 3)),⟨none,true,.sto 5 (.t 4) (.t 30),none,false,[]⟩] [0,4] [0,4,1000]) .ret))) }
noncomputable def spec_l20Bent_D : List (Nat × Callee) := [(445,spec_l00Src_among_c),(463,spec_l00Src_pick_c)]
def spec_l20Bent_H : List (Nat × ET) := [(15,(.one (.int .i64))),(21,(.one (.int .i64))),(27,(.one (.int .i64)))]
noncomputable def spec_l20Bent_c : Callee := mkCallee spec_l20Bent_D spec_l20Bent_H spec_l20Bent_ir [.box T_l00Src,.d T_Paper] [.d T_Paper] [.box T_l00Src]
noncomputable def spec_l20Bent (a0 : T_l00Src.ty) (a1 : T_Paper.ty) : Option (T_Paper.ty × T_l00Src.ty) := spec_l20Bent_c.f (a0,a1,())
theorem spec_l20Bent_eq (a0 : T_l00Src.ty) (a1 : T_Paper.ty) : spec_l20Bent a0 a1 =
 (spec_l00Src_pick a0 18).bind fun x1 =>
  if (x1.1 == 0) then
   (spec_l00Src_among (x1.2.1,x1.2.2.1,x1.2.2.2.1,()) [1499,1500,a1.2.2.2.1,IntKind.i64.wrap (a1.2.2.2.1 + 1)]).bind fun x2 =>
    some ((a1.1,a1.2.1,x2.1,a1.2.2.2.1,a1.2.2.2.2.1,()),(x2.2.1,x2.2.2.1,x2.2.2.2.1,()))
  else
   if (x1.1 == 1) then
    (spec_l00Src_among (x1.2.1,x1.2.2.1,x1.2.2.2.1,()) [2100,2101]).bind fun x3 =>
     some ((a1.1,a1.2.1,a1.2.2.1,x3.1,a1.2.2.2.2.1,()),(x3.2.1,x3.2.2.1,x3.2.2.2.1,()))
   else
    if (x1.1 == 2) then
     (spec_l00Src_among (x1.2.1,x1.2.2.1,x1.2.2.2.1,()) [0,1,1000,1001]).bind fun x4 =>
      some ((a1.1,a1.2.1,a1.2.2.1,a1.2.2.2.1,x4.1,()),(x4.2.1,x4.2.2.1,x4.2.2.2.1,()))
    else
     some (a1,(x1.2.1,x1.2.2.1,x1.2.2.2.1,())) :=
 (mk_f _ _ _ _ _ _ _ 4000).trans (by kernel_rfl)
def spec_l20Draw_k0 : C :=
 .seq (.seq (.reg false [.V 10 (.mv (.t 5)),.V 11 (.mv (.t 3)),.V 12 (.len (.t 11)),.V 13 (.bin .lss (.t 10) (.t 12))] [0,3,4,5,13] [0,3,4,1000]) (.cond (.t 13) .skip (.exit 0))) (.seq (.block 1 (.seq (.reg false [.V 16 (.mv (.t 0)),.W 17 (.call (.c (.fn 642 [])) [.t 16,.c (.int .i64 3)]),.V 18 (.un .not (.t 17))] [0,3,4,5,18] [0,3,4,1000]) (.cond (.t 18) (.reg false [.V 19 (.mv (.t 4)),.V 20 (.mv (.t 0)),.V 21 (.mv (.t 3)),.V 22 (.mv (.t 5)),.V 23 (.ia 1 (.t 21) (.t 22)),.V 24 (.ld none (.t 23)),.W 25 (.call (.c (.fn 806 [])) [.t 20,.t 24]),.V 26 (.bsl 5 (.agg [.str [],.str [],.int .i64 0,.int .i64 0,.int .i64 0]) 1 [(0,.t 25)]),.W 27 (.app 5 56 (.t 19) (.t 26)),.W 4 (.asg (.t 27))] [0,3,4,5] [0,3,4,1000]) .skip))) (.reg false [.V 14 (.mv (.t 5)),.V 15 (.bin .add (.t 14) (.c (.int .i64 1))),.V 5 (.asg (.t 15))] [0,3,4,5] [0,3,4,1000]))
def spec_l20Draw_k1 : C :=
 .norm [0,3,4,5] [0,3,4,1000] spec_l20Draw_k0
def spec_l20Draw_k2 : C :=
 .seq (.seq (.reg false [.V 45 (.mv (.t 7)),.V 46 (.mv (.t 6)),.V 47 (.bin .lss (.t 45) (.t 46))] [0,4,6,7,47] [0,4,1000]) (.cond (.t 47) .skip (.exit 3))) (.seq (.block 4 (.reg false [.V 50 (.mv (.t 4)),.V 51 (.mv (.t 0)),.V 52 (.mv (.t 7)),.V 53 (.bin .add (.c (.int .i64 97)) (.t 52)),.V 54 (.conv (.int .u8) (.t 53)),.V 55 (.bsl 1 (.int .u8 0) 1 [(0,.t 54)]),.V 56 (.conv .bytesStr (.t 55)),.V 57 (.bin .add (.c (.str [110])) (.t 56)),.W 58 (.call (.c (.fn 806 [])) [.t 51,.t 57]),.V 59 (.bsl 5 (.agg [.str [],.str [],.int .i64 0,.int .i64 0,.int .i64 0]) 1 [(0,.t 58)]),.W 60 (.app 5 56 (.t 50) (.t 59)),.W 4 (.asg (.t 60))] [0,4,6,7] [0,4,1000])) (.reg false [.V 48 (.mv (.t 7)),.V 49 (.bin .add (.t 48) (.c (.int .i64 1))),.V 7 (.asg (.t 49))] [0,4,6,7] [0,4,1000]))
def spec_l20Draw_k3 : C :=
 .norm [0,4,6,7] [0,4,1000] spec_l20Draw_k2
def spec_l20Draw_k4 : C :=
 .seq (.reg false [.V 61 (.mv (.t 4)),.W 2 (.asg (.t 61))] [0,2] [0,2,4,1000]) .ret
def spec_l20Draw_k5 : C :=
 .seq (.seq (.reg false [.V 28 (.mv (.t 0)),.W 29 (.call (.c (.fn 463 [])) [.t 28,.c (.int .i64 20)])] [0,4,29] [0,4,1000]) (.block 2 (.seq (.reg false [.V 31 (.bin .eql (.t 29) (.c (.int .i64 0))),.V 30 (.asg (.t 31))] [0,4,29,30] [0,4,1000]) (.cond (.t 30) (.reg false [.V 32 (.mv (.t 4)),.V 33 (.mv (.t 0)),.V 34 (.mv (.t 0)),.W 35 (.call (.c (.fn 806 [])) [.t 34,.c (.str [122,122])]),.W 36 (.call (.c (.fn 807 [])) [.t 33,.t 35]),.V 37 (.bsl 5 (.agg [.str [],.str [],.int .i64 0,.int .i64 0,.int .i64 0]) 1 [(0,.t 36)]),.W 38 (.app 5 56 (.t 32) (.t 37)),.W 4 (.asg (.t 38))] [0,4] [0,4,1000]) (.seq (.reg false [.V 40 (.bin .eql (.t 29) (.c (.int .i64 1))),.V 39 (.asg (.t 40))] [0,4,39] [0,4,1000]) (.cond (.t 39) (.seq (.reg false [.V 41 (.mv (.t 0)),.V 42 (.bsl 1 (.int .i64 0) 2 [(0,.c (.int .i64 12)),(1,.c (.int .i64 13))]),.W 43 (.call (.c (.fn 445 [])) [.t 41,.t 42]),.V 6 (.asg (.t 43))] [0,6] [0,1000]) (.seq (.reg false [.V 44 (.bsl 5 (.agg [.str [],.str [],.int .i64 0,.int .i64 0,.int .i64 0]) 0 []),.W 4 (.asg (.t 44))] [0,4,6] [0,4,1000]) (.seq (.reg false [.V 7 (.asg (.c (.int .i64 0)))] [0,4,6,7] [0,4,1000]) (.block 3 (.loop spec_l20Draw_k3))))) .skip)))))) spec_l20Draw_k4
def spec_l20Draw_ir : Fn := { np := 1,io := [true],res := [.t 2],own := [true],body :=
 (.seq (.reg false [.W 2 (.asg (.c (.nils 5)))] [0] [0,1000]) (.seq (.reg false [.V 8 (.bsl 1 (.str []) 6 [(0,.c (.str [112,97])),(1,.c (.str [112,98])),(2,.c (.str [112,99])),(3,.c (.str [112,100])),(4,.c (.str [112,101])),(5,.c (.str [112,102]))]),.W 3 (.asg (.t 8))] [0,3] [0,3,1000]) (.seq (.reg false [.V 9 (.bsl 5 (.agg [.str [],.str [],.int .i64 0,.int .i64 0,.int .i64 0]) 0 []),.W 4 (.asg (.t 9))] [0,3,4] [0,3,4,1000]) (.seq (.seq (.reg false [.V 5 (.asg (.c (.int .i64 0)))] [0,3,4,5] [0,3,4,1000]) (.block 0 (.loop spec_l20Draw_k1))) spec_l20Draw_k5)))) }
noncomputable def spec_l20Draw_D : List (Nat × Callee) := [(445,spec_l00Src_among_c),(463,spec_l00Src_pick_c),(642,spec_l00Src_one_c),(806,spec_l20DrawOne_c),(807,spec_l20Bent_c)]
def spec_l20Draw_H : List (Nat × ET) := [(2,T_Paper),(3,(.one .str)),(4,T_Paper),(8,(.one .str)),(9,T_Paper),(11,(.one .str)),(19,T_Paper),(21,(.one .str)),(26,T_Paper),(27,T_Paper),(32,T_Paper),(37,T_Paper),(38,T_Paper),(42,(.one (.int .i64))),(44,T_Paper),(50,T_Paper),(55,(.one (.int .u8))),(59,T_Paper),(60,T_Paper),(61,T_Paper)]
noncomputable def spec_l20Draw_c : Callee := mkCallee spec_l20Draw_D spec_l20Draw_H spec_l20Draw_ir [.box T_l00Src] [.tok T_Paper] [.box T_l00Src]
noncomputable def spec_l20Draw (a0 : T_l00Src.ty) : Option (List T_Paper.ty × T_l00Src.ty) := spec_l20Draw_c.f (a0,())
noncomputable def spec_l20Draw_p0  (v5 : Int) (r0_0 : List Int) (r0_1 : Int) (r0_2 : Int) (r3 : List (List UInt8)) (r4 : List T_Paper.ty) : Option (List T_Paper.ty × T_l00Src.ty) :=
 goL spec_l20Draw_D spec_l20Draw_H (vleave spec_l20Draw_ir [.box T_l00Src] [.tok T_Paper] [.box T_l00Src] []) [.c spec_l20Draw_k0,.l spec_l20Draw_k1,.e 0,.c spec_l20Draw_k5]
  ⟨[(0,.loc 0 0 0),(3,.view 3 0 r3.length),(4,.view 4 0 r4.length),(5,.int .i64 v5)],[(0,some (.var 3 (.agg [.sl (.one (.int .u8)) r0_0,.int .i64 r0_1,.int .u64 r0_2]))),(3,some (.sl (.one .str) r3)),(4,some (.sl T_Paper r4)),(1000,none)]⟩
noncomputable def spec_l20Draw_p1  (v6 : Int) (v7 : Int) (r0_0 : List Int) (r0_1 : Int) (r0_2 : Int) (r4 : List T_Paper.ty) : Option (List T_Paper.ty × T_l00Src.ty) :=
 goL spec_l20Draw_D spec_l20Draw_H (vleave spec_l20Draw_ir [.box T_l00Src] [.tok T_Paper] [.box T_l00Src] []) [.c spec_l20Draw_k2,.l spec_l20Draw_k3,.e 3,.e 2,.c spec_l20Draw_k4]
  ⟨[(0,.loc 0 0 0),(4,.view 4 0 r4.length),(6,.int .i64 v6),(7,.int .i64 v7)],[(0,some (.var 3 (.agg [.sl (.one (.int .u8)) r0_0,.int .i64 r0_1,.int .u64 r0_2]))),(4,some (.sl T_Paper r4)),(1000,none)]⟩
theorem spec_l20Draw_eq (a0 : T_l00Src.ty) : spec_l20Draw a0 =
 spec_l20Draw_p0 0 a0.1 a0.2.1 a0.2.2.1 [[112,97],[112,98],[112,99],[112,100],[112,101],[112,102]] [] :=
 (mk_f _ _ _ _ _ _ _ 4000).trans (by kernel_rfl)
theorem spec_l20Draw_p0_eq  (v5 : Int) (r0_0 : List Int) (r0_1 : Int) (r0_2 : Int) (r3 : List (List UInt8)) (r4 : List T_Paper.ty) : spec_l20Draw_p0 v5 r0_0 r0_1 r0_2 r3 r4 =
 if decide (v5 < (r3.length : Int)) then
  (spec_l00Src_one (r0_0,r0_1,r0_2,()) 3).bind fun x1 =>
   if (!x1.1) then
    if decide (0 ≤ v5) && decide (v5 < (r3.length : Int)) then
     (r3[v5.toNat]?).bind fun x2 =>
      (spec_l20DrawOne (x1.2.1,x1.2.2.1,x1.2.2.2.1,()) x2).bind fun x3 =>
       if decide (r4.length + 1 < lim) then
        spec_l20Draw_p0 (IntKind.i64.wrap (v5 + 1)) x3.2.1 x3.2.2.1 x3.2.2.2.1 r3 ((r4.take r4.length) ++ [(x3.1.1,x3.1.2.1,x3.1.2.2.1,x3.1.2.2.2.1,x3.1.2.2.2.2.1,())])
       else
        none
    else
     none
   else
    spec_l20Draw_p0 (IntKind.i64.wrap (v5 + 1)) x1.2.1 x1.2.2.1 x1.2.2.2.1 r3 r4
 else
  (spec_l00Src_pick (r0_0,r0_1,r0_2,()) 20).bind fun x4 =>
   if (x4.1 == 0) then
    (spec_l20DrawOne (x4.2.1,x4.2.2.1,x4.2.2.2.1,()) [122,122]).bind fun x5 =>
     (spec_l20Bent (x5.2.1,x5.2.2.1,x5.2.2.2.1,()) (x5.1.1,x5.1.2.1,x5.1.2.2.1,x5.1.2.2.2.1,x5.1.2.2.2.2.1,())).bind fun x6 =>
      if decide (r4.length + 1 < lim) then
       some ((((r4.take r4.length) ++ [(x6.1.1,x6.1.2.1,x6.1.2.2.1,x6.1.2.2.2.1,x6.1.2.2.2.2.1,())]).take (((r4.take r4.length) ++ [(x6.1.1,x6.1.2.1,x6.1.2.2.1,x6.1.2.2.2.1,x6.1.2.2.2.2.1,())]).length)),(x6.2.1,x6.2.2.1,x6.2.2.2.1,()))
      else
       none
   else
    if (x4.1 == 1) then
     (spec_l00Src_among (x4.2.1,x4.2.2.1,x4.2.2.2.1,()) [12,13]).bind fun x7 =>
      spec_l20Draw_p1 x7.1 0 x7.2.1 x7.2.2.1 x7.2.2.2.1 []
    else
     some ((r4.take r4.length),(x4.2.1,x4.2.2.1,x4.2.2.2.1,())) :=
 (goL_dn _ _ _ 4000 _ _).trans (by kernel_rfl)
theorem spec_l20Draw_p1_eq  (v6 : Int) (v7 : Int) (r0_0 : List Int) (r0_1 : Int) (r0_2 : Int) (r4 : List T_Paper.ty) : spec_l20Draw_p1 v6 v7 r0_0 r0_1 r0_2 r4 =
 if decide (v7 < v6) then
  if decide ([110].length + ([IntKind.u8.wrap (IntKind.i64.wrap (97 + v7))].map vu8).length ≤ strMax) then
   (spec_l20DrawOne (r0_0,r0_1,r0_2,()) ([110] ++ ([IntKind.u8.wrap (IntKind.i64.wrap (97 + v7))].map vu8))).bind fun x1 =>
    if decide (r4.length + 1 < lim) then
     spec_l20Draw_p1 v6 (IntKind.i64.wrap (v7 + 1)) x1.2.1 x1.2.2.1 x1.2.2.2.1 ((r4.take r4.length) ++ [(x1.1.1,x1.1.2.1,x1.1.2.2.1,x1.1.2.2.2.1,x1.1.2.2.2.2.1,())])
    else
     none
  else
   none
 else
  some ((r4.take r4.length),(r0_0,r0_1,r0_2,())) :=
 (goL_dn _ _ _ 4000 _ _).trans (by kernel_rfl)
def spec_DrawTrustBy_ir : Fn := { np := 1,io := [],res := [.t 2],own := [true],body :=
 (.seq (.reg false [.W 2 (.asg (.c (.nils 5)))] [0] []) (.seq (.reg false [.V 4 (.mv (.t 0)),.W 5 (.call (.c (.fn 441 [])) [.t 4]),.V 3 (.asg (.t 5))] [3] [5,6000]) (.seq (.reg false [.V 6 (.mv (.t 3)),.W 7 (.call (.c (.fn 633 [])) [.t 6]),.W 2 (.asg (.t 7))] [2] [2]) .ret))) }
noncomputable def spec_DrawTrustBy_D : List (Nat × Callee) := [(441,spec_l00From_c),(633,spec_l20Draw_c)]
def spec_DrawTrustBy_H : List (Nat × ET) := [(2,T_Paper),(4,(.one (.int .u8))),(7,T_Paper)]
noncomputable def spec_DrawTrustBy_c : Callee := mkCallee spec_DrawTrustBy_D spec_DrawTrustBy_H spec_DrawTrustBy_ir [.d (.one (.sl (.one (.int .u8))))] [.tok T_Paper] []
noncomputable def spec_DrawTrustBy (a0 : List Int) : Option (List T_Paper.ty) := spec_DrawTrustBy_c.f (a0,())
theorem spec_DrawTrustBy_eq (a0 : List Int) : spec_DrawTrustBy a0 =
 (spec_l00From a0).bind fun x1 =>
  (spec_l20Draw x1).bind fun x2 =>
   some (x2.1.take x2.1.length) :=
 (mk_f _ _ _ _ _ _ _ 4000).trans (by kernel_rfl)
def impl_isDigit_ir : Fn := { np := 1,io := [],res := [.t 2],own := [false],body :=
 (.seq (.reg false [.V 2 (.asg (.c (.bool false)))] [0] []) (.seq (.reg false [.V 3 (.mv (.t 0)),.V 4 (.bin .geq (.t 3) (.c (.int .u8 48))),.V 5 (.mv (.t 4)),.G 6 (.mv (.t 0)) 2 true,.G 7 (.bin .leq (.t 6) (.c (.int .u8 57))) 2 true,.V 8 (.pick (.t 5) (.t 7) (.c (.bool false))),.V 2 (.asg (.t 8))] [2] []) .ret)) }
noncomputable def impl_isDigit_D : List (Nat × Callee) := []
def impl_isDigit_H : List (Nat × ET) := []
noncomputable def impl_isDigit_c : Callee := mkCallee impl_isDigit_D impl_isDigit_H impl_isDigit_ir [.d (.one (.int .u8))] [.d (.one .bool)] []
noncomputable def impl_isDigit (a0 : Int) : Option (Bool) := impl_isDigit_c.f (a0,())
theorem impl_isDigit_eq (a0 : Int) : impl_isDigit a0 =
 if decide (a0 ≥ 48) then
  some (decide (a0 ≤ 57))
 else
  some false :=
 (mk_f _ _ _ _ _ _ _ 4000).trans (by kernel_rfl)
def impl_few_ir : Fn := { np := 2,io := [],res := [.t 4],own := [false],body :=
 (.seq (.reg false [.V 4 (.asg (.c (.bool false)))] [0,1] []) (.seq (.reg false [.V 5 (.mv (.t 0)),.V 6 (.mv (.t 1)),.V 7 (.bin .leq (.t 5) (.t 6)),.V 4 (.asg (.t 7))] [4] []) .ret)) }
noncomputable def impl_few_D : List (Nat × Callee) := []
def impl_few_H : List (Nat × ET) := []
noncomputable def impl_few_c : Callee := mkCallee impl_few_D impl_few_H impl_few_ir [.d (.one (.int .i64)),.d (.one (.int .i64))] [.d (.one .bool)] []
noncomputable def impl_few (a0 : Int) (a1 : Int) : Option (Bool) := impl_few_c.f (a0,a1,())
theorem impl_few_eq (a0 : Int) (a1 : Int) : impl_few a0 a1 =
 some (decide (a0 ≤ a1)) :=
 (mk_f _ _ _ _ _ _ _ 4000).trans (by kernel_rfl)
def impl_IsName_k0 : C :=
 .seq (.reg false [.V 21 (.mv (.t 4)),.V 22 (.un .not (.t 21)),.V 23 (.mv (.t 22)),.G 24 (.mv (.t 3)) 2 true,.G 25 (.bin .eql (.t 24) (.c (.int .i64 0))) 2 true,.G 26 (.mv (.t 25)) 2 true,.G 27 (.mv (.t 0)) 5 false,.G 28 (.mv (.t 3)) 5 false,.G 29 (.ix (.t 27) (.t 28)) 5 false,.G 30 (.call (.c (.fn 22 [])) [.t 29]) 5 false,.G 31 (.un .not (.t 30)) 5 false,.G 32 (.pick (.t 26) (.c (.bool true)) (.t 31)) 2 true,.V 33 (.pick (.t 23) (.t 32) (.c (.bool false)))] [0,3,33] []) (.cond (.t 33) (.seq (.reg false [.V 2 (.asg (.c (.bool false)))] [2] []) .ret) .skip)
def impl_IsName_k1 : C :=
 .reg false [.V 9 (.mv (.t 3)),.V 10 (.bin .add (.t 9) (.c (.int .i64 1))),.V 3 (.asg (.t 10))] [0,3] []
def impl_IsName_k2 : C :=
 .seq (.seq (.reg false [.V 5 (.mv (.t 3)),.V 6 (.mv (.t 0)),.V 7 (.lens (.t 6)),.V 8 (.bin .lss (.t 5) (.t 7))] [0,3,8] []) (.cond (.t 8) .skip (.exit 0))) (.seq (.block 1 (.seq (.reg false [.V 11 (.mv (.t 0)),.V 12 (.mv (.t 3)),.V 13 (.ix (.t 11) (.t 12)),.V 14 (.bin .geq (.t 13) (.c (.int .u8 97))),.V 15 (.mv (.t 14)),.G 16 (.mv (.t 0)) 4 true,.G 17 (.mv (.t 3)) 4 true,.G 18 (.ix (.t 16) (.t 17)) 4 true,.G 19 (.bin .leq (.t 18) (.c (.int .u8 122))) 4 true,.V 20 (.pick (.t 15) (.t 19) (.c (.bool false))),.V 4 (.asg (.t 20))] [0,3,4] []) (.norm [0,3,4] [] impl_IsName_k0))) impl_IsName_k1)
def impl_IsName_k3 : C :=
 .norm [0,3] [] impl_IsName_k2
def impl_IsName_k4 : C :=
 .seq (.reg false [.V 34 (.mv (.t 0)),.V 35 (.bin .neq (.t 34) (.c (.str []))),.V 36 (.mv (.t 35)),.G 37 (.mv (.t 0)) 2 true,.G 38 (.lens (.t 37)) 2 true,.G 39 (.call (.c (.fn 21 [])) [.t 38,.c (.int .i64 10)]) 2 true,.V 40 (.pick (.t 36) (.t 39) (.c (.bool false))),.V 2 (.asg (.t 40))] [2] []) .ret
def impl_IsName_ir : Fn := { np := 1,io := [],res := [.t 2],own := [false],body :=
 (.seq (.reg false [.V 2 (.asg (.c (.bool false)))] [0] []) (.seq (.seq (.reg false [.V 3 (.asg (.c (.int .i64 0)))] [0,3] []) (.block 0 (.loop impl_IsName_k3))) impl_IsName_k4)) }
noncomputable def impl_IsName_D : List (Nat × Callee) := [(21,impl_few_c),(22,impl_isDigit_c)]
def impl_IsName_H : List (Nat × ET) := []
noncomputable def impl_IsName_c : Callee := mkCallee impl_IsName_D impl_IsName_H impl_IsName_ir [.d (.one .str)] [.d (.one .bool)] []
noncomputable def impl_IsName (a0 : List UInt8) : Option (Bool) := impl_IsName_c.f (a0,())
noncomputable def impl_IsName_p0  (v0 : List UInt8) (v3 : Int) : Option (Bool) :=
 goL impl_IsName_D impl_IsName_H (vleave impl_IsName_ir [.d (.one .str)] [.d (.one .bool)] [] []) [.c impl_IsName_k2,.l impl_IsName_k3,.e 0,.c impl_IsName_k4]
  ⟨[(0,.str v0),(3,.int .i64 v3)],[]⟩
noncomputable def impl_IsName_p1  (v0 : List UInt8) (v3 : Int) (v4 : Bool) : Option (Bool) :=
 goL impl_IsName_D impl_IsName_H (vleave impl_IsName_ir [.d (.one .str)] [.d (.one .bool)] [] []) [.c impl_IsName_k0,.e 1,.c impl_IsName_k1,.l impl_IsName_k3,.e 0,.c impl_IsName_k4]
  ⟨[(0,.str v0),(3,.int .i64 v3),(4,.bool v4)],[]⟩
theorem impl_IsName_eq (a0 : List UInt8) : impl_IsName a0 =
 impl_IsName_p0 a0 0 :=
 (mk_f _ _ _ _ _ _ _ 4000).trans (by kernel_rfl)
theorem impl_IsName_p0_eq  (v0 : List UInt8) (v3 : Int) : impl_IsName_p0 v0 v3 =
 if decide (v3 < (v0.length : Int)) then
  if decide (0 ≤ v3) then
   (v0[v3.toNat]?).bind fun x1 =>
    if decide ((x1.toNat : Int) ≥ 97) then
     if decide (0 ≤ v3) then
      (v0[v3.toNat]?).bind fun x2 =>
       impl_IsName_p1 v0 v3 (decide ((x2.toNat : Int) ≤ 122))
     else
      none
    else
     impl_IsName_p1 v0 v3 false
  else
   none
 else
  if (!(v0 == [])) then
   (impl_few (v0.length : Int) 10).bind fun x3 =>
    some x3
  else
   some false :=
 (goL_dn _ _ _ 4000 _ _).trans (by kernel_rfl)
theorem impl_IsName_p1_eq  (v0 : List UInt8) (v3 : Int) (v4 : Bool) : impl_IsName_p1 v0 v3 v4 =
 if (!v4) then
  if (v3 == 0) then
   some false
  else
   if decide (0 ≤ v3) then
    (v0[v3.toNat]?).bind fun x1 =>
     (impl_isDigit (x1.toNat : Int)).bind fun x2 =>
      if (!x2) then
       some false
      else
       impl_IsName_p0 v0 (IntKind.i64.wrap (v3 + 1))
   else
    none
 else
  impl_IsName_p0 v0 (IntKind.i64.wrap (v3 + 1)) :=
 (goL_dn _ _ _ 4000 _ _).trans (by kernel_rfl)
def impl_within_ir : Fn := { np := 3,io := [],res := [.t 6],own := [false],body :=
 (.seq (.reg false [.V 6 (.asg (.c (.bool false)))] [0,1,2] []) (.seq (.reg false [.V 7 (.mv (.t 1)),.V 8 (.mv (.t 0)),.V 9 (.bin .leq (.t 7) (.t 8)),.V 10 (.mv (.t 9)),.G 11 (.mv (.t 0)) 3 true,.G 12 (.mv (.t 2)) 3 true,.G 13 (.bin .leq (.t 11) (.t 12)) 3 true,.V 14 (.pick (.t 10) (.t 13) (.c (.bool false))),.V 6 (.asg (.t 14))] [6] []) .ret)) }
noncomputable def impl_within_D : List (Nat × Callee) := []
def impl_within_H : List (Nat × ET) := []
noncomputable def impl_within_c : Callee := mkCallee impl_within_D impl_within_H impl_within_ir [.d (.one (.int .i64)),.d (.one (.int .i64)),.d (.one (.int .i64))] [.d (.one .bool)] []
noncomputable def impl_within (a0 : Int) (a1 : Int) (a2 : Int) : Option (Bool) := impl_within_c.f (a0,a1,a2,())
theorem impl_within_eq (a0 : Int) (a1 : Int) (a2 : Int) : impl_within a0 a1 a2 =
 if decide (a1 ≤ a0) then
  some (decide (a0 ≤ a2))
 else
  some false :=
 (mk_f _ _ _ _ _ _ _ 4000).trans (by kernel_rfl)
def impl_Paper_valid_ir : Fn := { np := 1,io := [],res := [.t 2],own := [false],body :=
 (.seq (.reg false [.W 1 (.box 5 (.t 0)),.V 2 (.asg (.c (.bool false)))] [1] [1]) (.seq (.reg false [.V 3 (.fa 0 (.t 1)),.V 4 (.ld none (.t 3)),.V 5 (.call (.c (.fn 24 [])) [.t 4]),.V 6 (.mv (.t 5)),.G 7 (.fa 1 (.t 1)) 3 true,.G 8 (.ld none (.t 7)) 3 true,.G 9 (.call (.c (.fn 24 [])) [.t 8]) 3 true,.V 10 (.pick (.t 6) (.t 9) (.c (.bool false))),.V 11 (.mv (.t 10)),.G 12 (.fa 2 (.t 1)) 8 true,.G 13 (.ld none (.t 12)) 8 true,.G 14 (.bin .leq (.c (.int .i64 1500)) (.t 13)) 8 true,.V 15 (.pick (.t 11) (.t 14) (.c (.bool false))),.V 16 (.mv (.t 15)),.G 17 (.fa 2 (.t 1)) 13 true,.G 18 (.ld none (.t 17)) 13 true,.G 19 (.fa 3 (.t 1)) 13 true,.G 20 (.ld none (.t 19)) 13 true,.G 21 (.bin .leq (.t 18) (.t 20)) 13 true,.V 22 (.pick (.t 16) (.t 21) (.c (.bool false))),.V 23 (.mv (.t 22)),.G 24 (.fa 3 (.t 1)) 20 true,.G 25 (.ld none (.t 24)) 20 true,.G 26 (.bin .leq (.t 25) (.c (.int .i64 2100))) 20 true,.V 27 (.pick (.t 23) (.t 26) (.c (.bool false))),.V 28 (.mv (.t 27)),.G 29 (.fa 4 (.t 1)) 25 true,.G 30 (.ld none (.t 29)) 25 true,.G 31 (.call (.c (.fn 23 [])) [.t 30,.c (.int .i64 1),.c (.int .i64 1000)]) 25 true,.V 32 (.pick (.t 28) (.t 31) (.c (.bool false))),.V 2 (.asg (.t 32))] [2] []) .ret)) }
noncomputable def impl_Paper_valid_D : List (Nat × Callee) := [(23,impl_within_c),(24,impl_IsName_c)]
def impl_Paper_valid_H : List (Nat × ET) := []
noncomputable def impl_Paper_valid_c : Callee := mkCallee impl_Paper_valid_D impl_Paper_valid_H impl_Paper_valid_ir [.d T_Paper] [.d (.one .bool)] []
noncomputable def impl_Paper_valid (a0 : T_Paper.ty) : Option (Bool) := impl_Paper_valid_c.f (a0,())
theorem impl_Paper_valid_eq (a0 : T_Paper.ty) : impl_Paper_valid a0 =
 (impl_IsName a0.1).bind fun x1 =>
  if x1 then
   (impl_IsName a0.2.1).bind fun x2 =>
    if x2 then
     if decide (1500 ≤ a0.2.2.1) then
      if decide (a0.2.2.1 ≤ a0.2.2.2.1) then
       if decide (a0.2.2.2.1 ≤ 2100) then
        (impl_within a0.2.2.2.2.1 1 1000).bind fun x3 =>
         some x3
       else
        some false
      else
       some false
     else
      some false
    else
     some false
  else
   some false :=
 (mk_f _ _ _ _ _ _ _ 4000).trans (by kernel_rfl)
def impl_ValidPapers_k0 : C :=
 .seq (.reg false [.V 8 (.bin .lss (.t 7) (.t 6))] [0,5,6,7,8] []) (.seq (.cond (.t 8) .skip (.exit 0)) (.seq (.block 1 (.seq (.reg false [.V 9 (.mv (.t 7)),.V 10 (.ia 5 (.t 5) (.t 7)),.V 11 (.ld (some 5) (.t 10)),.W 4 (.alloc 5 (.agg [.str [],.str [],.int .i64 0,.int .i64 0,.int .i64 0])),.V 3 (.asg (.t 9)),⟨none,true,.sto 5 (.t 4) (.t 11),none,false,[]⟩] [0,3,4,5,6,7] [4]) (.seq (.reg true [.V 12 (.ld (some 5) (.t 4)),.V 13 (.call (.c (.fn 809 [])) [.t 12]),.V 14 (.un .not (.t 13)),.V 15 (.mv (.t 14)),.G 16 (.mv (.t 3)) 3 false,.G 17 (.bin .gtr (.t 16) (.c (.int .i64 0))) 3 false,.G 18 (.mv (.t 17)) 3 false,.G 19 (.mv (.t 0)) 6 true,.G 20 (.mv (.t 3)) 6 true,.G 21 (.bin .sub (.t 20) (.c (.int .i64 1))) 6 true,.G 22 (.ia 5 (.t 19) (.t 21)) 6 true,.G 23 (.fa 0 (.t 22)) 6 true,.G 24 (.ld none (.t 23)) 6 true,.G 25 (.fa 0 (.t 4)) 6 true,.G 26 (.ld none (.t 25)) 6 true,.G 27 (.bin .geq (.t 24) (.t 26)) 6 true,.G 28 (.pick (.t 18) (.t 27) (.c (.bool false))) 3 false,.V 29 (.pick (.t 15) (.c (.bool true)) (.t 28))] [0,5,6,7,29] []) (.cond (.t 29) (.seq (.reg false [.V 2 (.asg (.c (.bool false)))] [2] []) .ret) .skip)))) (.reg false [.V 30 (.bin .add (.t 7) (.c (.int .i64 1))),.V 7 (.mv (.t 30))] [0,5,6,7] [])))
def impl_ValidPapers_k1 : C :=
 .norm [0,5,6,7] [] impl_ValidPapers_k0
def impl_ValidPapers_k2 : C :=
 .seq (.reg false [.V 31 (.mv (.t 0)),.V 32 (.len (.t 31)),.V 33 (.call (.c (.fn 21 [])) [.t 32,.c (.int .i64 12)]),.V 2 (.asg (.t 33))] [2] []) .ret
def impl_ValidPapers_ir : Fn := { np := 1,io := [],res := [.t 2],own := [false],body :=
 (.seq (.reg false [.V 2 (.asg (.c (.bool false)))] [0] []) (.seq (.seq (.reg false [.V 5 (.mv (.t 0)),.V 6 (.len (.t 5)),.V 7 (.mv (.c (.int .i64 0)))] [0,5,6,7] []) (.block 0 (.loop impl_ValidPapers_k1))) impl_ValidPapers_k2)) }
noncomputable def impl_ValidPapers_D : List (Nat × Callee) := [(21,impl_few_c),(809,impl_Paper_valid_c)]
def impl_ValidPapers_H : List (Nat × ET) := [(5,T_Paper),(19,T_Paper),(31,T_Paper)]
noncomputable def impl_ValidPapers_c : Callee := mkCallee impl_ValidPapers_D impl_ValidPapers_H impl_ValidPapers_ir [.d (.one (.sl T_Paper))] [.d (.one .bool)] []
noncomputable def impl_ValidPapers (a0 : List T_Paper.ty) : Option (Bool) := impl_ValidPapers_c.f (a0,())
noncomputable def impl_ValidPapers_p0  (v0 : List T_Paper.ty) (v5 : List T_Paper.ty) (v6 : Int) (v7 : Int) : Option (Bool) :=
 goL impl_ValidPapers_D impl_ValidPapers_H (vleave impl_ValidPapers_ir [.d (.one (.sl T_Paper))] [.d (.one .bool)] [] []) [.c impl_ValidPapers_k0,.l impl_ValidPapers_k1,.e 0,.c impl_ValidPapers_k2]
  ⟨[(0,.sl T_Paper v0),(5,.sl T_Paper v5),(6,.int .i64 v6),(7,.int .i64 v7)],[]⟩
theorem impl_ValidPapers_eq (a0 : List T_Paper.ty) : impl_ValidPapers a0 =
 impl_ValidPapers_p0 a0 a0 (a0.length : Int) 0 :=
 (mk_f _ _ _ _ _ _ _ 4000).trans (by kernel_rfl)
theorem impl_ValidPapers_p0_eq  (v0 : List T_Paper.ty) (v5 : List T_Paper.ty) (v6 : Int) (v7 : Int) : impl_ValidPapers_p0 v0 v5 v6 v7 =
 if decide (v7 < v6) then
  if decide (0 ≤ v7) then
   (v5[v7.toNat]?).bind fun x1 =>
    (impl_Paper_valid x1).bind fun x2 =>
     if (!x2) then
      some false
     else
      if decide (v7 > 0) then
       if decide (0 ≤ IntKind.i64.wrap (v7 - 1)) then
        (v0[(IntKind.i64.wrap (v7 - 1)).toNat]?).bind fun x3 =>
         if (!Op.bytesLess x3.1 x1.1) then
          some false
         else
          impl_ValidPapers_p0 v0 v5 v6 (IntKind.i64.wrap (v7 + 1))
       else
        none
      else
       impl_ValidPapers_p0 v0 v5 v6 (IntKind.i64.wrap (v7 + 1))
  else
   none
 else
  (impl_few (v0.length : Int) 12).bind fun x4 =>
   some x4 :=
 (goL_dn _ _ _ 4000 _ _).trans (by kernel_rfl)
noncomputable def slices_Sort___string_string__c : Callee := sortSC
noncomputable def slices_Sort___string_string_ (a0 : List (List UInt8)) : Option (List (List UInt8)) := slices_Sort___string_string__c.f (a0,())
theorem slices_Sort___string_string__eq (a0 : List (List UInt8)) : slices_Sort___string_string_ a0 = if decide (a0.length < 4611686018427387904) then some (a0.mergeSort fun a b => decide (a ≤ b)) else none := rfl
noncomputable def slices_Compact___string_string__c : Callee := compactSC
noncomputable def slices_Compact___string_string_ (a0 : List (List UInt8)) : Option (List (List UInt8) × Unit) := slices_Compact___string_string__c.f (a0,())
theorem slices_Compact___string_string__eq (a0 : List (List UInt8)) : slices_Compact___string_string_ a0 = if decide (a0.length ≤ 9223372036854775807) then some (Lib.compact a0,()) else none := rfl
def impl_sortedSet_ir : Fn := { np := 1,io := [true],res := [.t 2],own := [false],body :=
 (.seq (.reg false [.W 2 (.asg (.c (.nils 1)))] [0] [0]) (.seq (.reg false [.V 3 (.mv (.t 0)),.W 4 (.call (.c (.fn 823 [])) [.t 3])] [0] [0]) (.seq (.reg false [.V 5 (.mv (.t 0)),.W 6 (.call (.c (.fn 861 [])) [.t 5]),.W 2 (.asg (.t 6))] [0,2] [0,2]) .ret))),gone := [0] }
noncomputable def impl_sortedSet_D : List (Nat × Callee) := [(823,slices_Sort___string_string__c),(861,slices_Compact___string_string__c)]
def impl_sortedSet_H : List (Nat × ET) := [(2,(.one .str)),(3,(.one .str)),(5,(.one .str)),(6,(.one .str))]
noncomputable def impl_sortedSet_c : Callee := mkCallee impl_sortedSet_D impl_sortedSet_H impl_sortedSet_ir [.ios (.one .str)] [.d (.one (.sl (.one .str)))] [.gone]
noncomputable def impl_sortedSet (a0 : List (List UInt8)) : Option (List (List UInt8) × Unit) := impl_sortedSet_c.f (a0,())
theorem impl_sortedSet_eq (a0 : List (List UInt8)) : impl_sortedSet a0 =
 if decide (a0.length = a0.length) then
  (slices_Sort___string_string_ a0).bind fun x1 =>
   if decide (a0.length = x1.length) then
    (slices_Compact___string_string_ x1).bind fun x2 =>
     some ((x2.1.take x2.1.length),())
   else
    none
 else
  none :=
 (mk_f _ _ _ _ _ _ _ 4000).trans (by kernel_rfl)
def slices_Index___string_string__k0 : C :=
 .seq (.reg false [.V 9 (.bin .lss (.t 8) (.t 7))] [0,1,7,8,9] []) (.seq (.cond (.t 9) .skip (.exit 0)) (.seq (.block 1 (.seq (.reg false [.V 10 (.mv (.t 8)),.V 5 (.asg (.t 10))] [0,1,5,7,8] []) (.seq (.reg false [.V 11 (.mv (.t 1)),.V 12 (.mv (.t 0)),.V 13 (.mv (.t 5)),.V 14 (.ia 1 (.t 12) (.t 13)),.V 15 (.ld none (.t 14)),.V 16 (.bin .eql (.t 11) (.t 15))] [0,1,5,7,8,16] []) (.cond (.t 16) (.seq (.reg false [.V 17 (.mv (.t 5)),.V 4 (.asg (.t 17))] [4] []) .ret) .skip)))) (.reg false [.V 18 (.bin .add (.t 8) (.c (.int .i64 1))),.V 8 (.mv (.t 18))] [0,1,7,8] [])))
def slices_Index___string_string__k1 : C :=
 .norm [0,1,7,8] [] slices_Index___string_string__k0
def slices_Index___string_string__k2 : C :=
 .seq (.reg false [.V 4 (.asg (.c (.int .i64 (-1))))] [4] []) .ret
def slices_Index___string_string__ir : Fn := { np := 2,io := [],res := [.t 4],own := [false],body :=
 (.seq (.reg false [.V 4 (.asg (.c (.int .i64 0)))] [0,1] []) (.seq (.seq (.reg false [.V 6 (.mv (.t 0)),.V 7 (.len (.t 6)),.V 8 (.mv (.c (.int .i64 0)))] [0,1,7,8] []) (.block 0 (.loop slices_Index___string_string__k1))) slices_Index___string_string__k2)) }
noncomputable def slices_Index___string_string__D : List (Nat × Callee) := []
def slices_Index___string_string__H : List (Nat × ET) := [(6,(.one .str)),(12,(.one .str))]
noncomputable def slices_Index___string_string__c : Callee := mkCallee slices_Index___string_string__D slices_Index___string_string__H slices_Index___string_string__ir [.d (.one (.sl (.one .str))),.d (.one .str)] [.d (.one (.int .i64))] []
noncomputable def slices_Index___string_string_ (a0 : List (List UInt8)) (a1 : List UInt8) : Option (Int) := slices_Index___string_string__c.f (a0,a1,())
noncomputable def slices_Index___string_string__p0  (v0 : List (List UInt8)) (v1 : List UInt8) (v7 : Int) (v8 : Int) : Option (Int) :=
 goL slices_Index___string_string__D slices_Index___string_string__H (vleave slices_Index___string_string__ir [.d (.one (.sl (.one .str))),.d (.one .str)] [.d (.one (.int .i64))] [] []) [.c slices_Index___string_string__k0,.l slices_Index___string_string__k1,.e 0,.c slices_Index___string_string__k2]
  ⟨[(0,.sl (.one .str) v0),(1,.str v1),(7,.int .i64 v7),(8,.int .i64 v8)],[]⟩
theorem slices_Index___string_string__eq (a0 : List (List UInt8)) (a1 : List UInt8) : slices_Index___string_string_ a0 a1 =
 slices_Index___string_string__p0 a0 a1 (a0.length : Int) 0 :=
 (mk_f _ _ _ _ _ _ _ 4000).trans (by kernel_rfl)
theorem slices_Index___string_string__p0_eq  (v0 : List (List UInt8)) (v1 : List UInt8) (v7 : Int) (v8 : Int) : slices_Index___string_string__p0 v0 v1 v7 v8 =
 if decide (v8 < v7) then
  if decide (0 ≤ v8) then
   (v0[v8.toNat]?).bind fun x1 =>
    if (v1 == x1) then
     some v8
    else
     slices_Index___string_string__p0 v0 v1 v7 (IntKind.i64.wrap (v8 + 1))
  else
   none
 else
  some (-1) :=
 (goL_dn _ _ _ 4000 _ _).trans (by kernel_rfl)
def impl_TrustBy_k0 : C :=
 .seq (.reg false [.V 18 (.bin .lss (.t 17) (.t 16))] [0,5,15,16,17,18] [5]) (.seq (.cond (.t 18) .skip (.exit 0)) (.seq (.block 1 (.seq (.reg false [.V 19 (.ia 5 (.t 15) (.t 17)),.V 20 (.ld (some 5) (.t 19)),.W 7 (.alloc 5 (.agg [.str [],.str [],.int .i64 0,.int .i64 0,.int .i64 0])),⟨none,true,.sto 5 (.t 7) (.t 20),none,false,[]⟩] [0,5,7,15,16,17] [5,7]) (.reg false [.V 21 (.mv (.t 5)),.V 22 (.fa 1 (.t 7)),.V 23 (.ld none (.t 22)),.V 24 (.bsl 1 (.str []) 1 [(0,.t 23)]),.W 25 (.app 1 16 (.t 21) (.t 24)),.W 5 (.asg (.t 25))] [0,5,15,16,17] [5]))) (.reg false [.V 26 (.bin .add (.t 17) (.c (.int .i64 1))),.V 17 (.mv (.t 26))] [0,5,15,16,17] [5])))
def impl_TrustBy_k1 : C :=
 .norm [0,5,15,16,17] [5] impl_TrustBy_k0
def impl_TrustBy_k2 : C :=
 .seq (.reg false [.V 35 (.bin .lss (.t 34) (.t 33))] [5,8,32,33,34,35] [5,8]) (.seq (.cond (.t 35) .skip (.exit 2)) (.seq (.block 3 (.seq (.reg false [.V 36 (.ia 5 (.t 32) (.t 34)),.V 37 (.ld (some 5) (.t 36)),.W 10 (.alloc 5 (.agg [.str [],.str [],.int .i64 0,.int .i64 0,.int .i64 0])),⟨none,true,.sto 5 (.t 10) (.t 37),none,false,[]⟩] [5,8,10,32,33,34] [5,8,10]) (.reg true [.V 38 (.mv (.t 8)),.V 39 (.mv (.t 5)),.V 40 (.fa 1 (.t 10)),.V 41 (.ld none (.t 40)),.V 42 (.call (.c (.fn 634 [])) [.t 39,.t 41]),.V 43 (.ia 1 (.t 38) (.t 42)),.V 44 (.ld none (.t 43)),.V 45 (.fa 4 (.t 10)),.V 46 (.ld none (.t 45)),.V 47 (.bin .add (.t 44) (.t 46)),.V 48 (.ia 1 (.t 38) (.t 42)),⟨none,true,.sto 1 (.t 48) (.t 47),none,false,[]⟩] [5,8,32,33,34] [5,8]))) (.reg false [.V 49 (.bin .add (.t 34) (.c (.int .i64 1))),.V 34 (.mv (.t 49))] [5,8,32,33,34] [5,8])))
def impl_TrustBy_k3 : C :=
 .norm [5,8,32,33,34] [5,8] impl_TrustBy_k2
def impl_TrustBy_k4 : C :=
 .seq (.reg false [.V 50 (.mv (.t 5)),.V 51 (.mv (.t 8)),.W 2 (.asg (.t 50)),.W 3 (.asg (.t 51)),.V 4 (.asg (.c (.int .i64 0)))] [2,3,4] [2,3,5,8]) .ret
def impl_TrustBy_k5 : C :=
 .seq (.reg false [.V 27 (.mv (.t 5)),.W 28 (.call (.c (.fn 520 [])) [.t 27]),.W 5 (.asg (.t 28))] [0,5] [5]) (.seq (.reg false [.V 29 (.mv (.t 5)),.V 30 (.len (.t 29)),.V 31 (.mks 1 8 (.int .i64 0) (.t 30) (.t 30)),.W 8 (.asg (.t 31))] [0,5,8] [5,8]) (.seq (.seq (.reg false [.V 32 (.mv (.t 0)),.V 33 (.len (.t 32)),.V 34 (.mv (.c (.int .i64 0)))] [5,8,32,33,34] [5,8]) (.block 2 (.loop impl_TrustBy_k3))) impl_TrustBy_k4))
def impl_TrustBy_ir : Fn := { np := 1,io := [],res := [.t 2,.t 3,.t 4],own := [false,true,false],body :=
 (.seq (.reg false [.W 2 (.asg (.c (.nils 1))),.W 3 (.asg (.c (.nils 1))),.V 4 (.asg (.c (.int .i64 0)))] [0] []) (.seq (.seq (.reg false [.V 11 (.mv (.t 0)),.V 12 (.call (.c (.fn 635 [])) [.t 11]),.V 13 (.un .not (.t 12))] [0,13] []) (.cond (.t 13) (.seq (.reg false [.W 2 (.asg (.c (.nils 1))),.W 3 (.asg (.c (.nils 1))),.V 4 (.asg (.c (.int .i64 1)))] [2,3,4] [2,3,5,8]) .ret) .skip)) (.seq (.reg false [.V 14 (.bsl 1 (.str []) 0 []),.W 5 (.asg (.t 14))] [0,5] [5]) (.seq (.seq (.reg false [.V 15 (.mv (.t 0)),.V 16 (.len (.t 15)),.V 17 (.mv (.c (.int .i64 0)))] [0,5,15,16,17] [5]) (.block 0 (.loop impl_TrustBy_k1))) impl_TrustBy_k5)))) }
noncomputable def impl_TrustBy_D : List (Nat × Callee) := [(520,impl_sortedSet_c),(634,slices_Index___string_string__c),(635,impl_ValidPapers_c)]
def impl_TrustBy_H : List (Nat × ET) := [(2,(.one .str)),(3,(.one (.int .i64))),(5,(.one .str)),(8,(.one (.int .i64))),(11,T_Paper),(14,(.one .str)),(15,T_Paper),(21,(.one .str)),(24,(.one .str)),(25,(.one .str)),(27,(.one .str)),(28,(.one .str)),(29,(.one .str)),(31,(.one (.int .i64))),(32,T_Paper),(38,(.one (.int .i64))),(39,(.one .str)),(50,(.one .str)),(51,(.one (.int .i64)))]
noncomputable def impl_TrustBy_c : Callee := mkCallee impl_TrustBy_D impl_TrustBy_H impl_TrustBy_ir [.d (.one (.sl T_Paper))] [.d (.one (.sl (.one .str))),.tok (.one (.int .i64)),.d (.one (.int .i64))] []
noncomputable def impl_TrustBy (a0 : List T_Paper.ty) : Option (List (List UInt8) × List Int × Int) := impl_TrustBy_c.f (a0,())
noncomputable def impl_TrustBy_p0  (v0 : List T_Paper.ty) (v15 : List T_Paper.ty) (v16 : Int) (v17 : Int) (r5 : List (List UInt8)) : Option (List (List UInt8) × List Int × Int) :=
 goL impl_TrustBy_D impl_TrustBy_H (vleave impl_TrustBy_ir [.d (.one (.sl T_Paper))] [.d (.one (.sl (.one .str))),.tok (.one (.int .i64)),.d (.one (.int .i64))] [] []) [.c impl_TrustBy_k0,.l impl_TrustBy_k1,.e 0,.c impl_TrustBy_k5]
  ⟨[(0,.sl T_Paper v0),(5,.view 5 0 r5.length),(15,.sl T_Paper v15),(16,.int .i64 v16),(17,.int .i64 v17)],[(5,some (.sl (.one .str) r5))]⟩
noncomputable def impl_TrustBy_p1  (v5 : List (List UInt8)) (v8n : Nat) (v32 : List T_Paper.ty) (v33 : Int) (v34 : Int) (r8 : List Int) : Option (List (List UInt8) × List Int × Int) :=
 goL impl_TrustBy_D impl_TrustBy_H (vleave impl_TrustBy_ir [.d (.one (.sl T_Paper))] [.d (.one (.sl (.one .str))),.tok (.one (.int .i64)),.d (.one (.int .i64))] [] []) [.c impl_TrustBy_k2,.l impl_TrustBy_k3,.e 2,.c impl_TrustBy_k4]
  ⟨[(5,.sl (.one .str) v5),(8,.view 8 0 v8n),(32,.sl T_Paper v32),(33,.int .i64 v33),(34,.int .i64 v34)],[(5,none),(8,some (.sl (.one (.int .i64)) r8))]⟩
theorem impl_TrustBy_eq (a0 : List T_Paper.ty) : impl_TrustBy a0 =
 (impl_ValidPapers a0).bind fun x1 =>
  if (!x1) then
   some ([],[],1)
  else
   impl_TrustBy_p0 a0 a0 (a0.length : Int) 0 [] :=
 (mk_f _ _ _ _ _ _ _ 4000).trans (by kernel_rfl)
theorem impl_TrustBy_p0_eq  (v0 : List T_Paper.ty) (v15 : List T_Paper.ty) (v16 : Int) (v17 : Int) (r5 : List (List UInt8)) : impl_TrustBy_p0 v0 v15 v16 v17 r5 =
 if decide (v17 < v16) then
  if decide (0 ≤ v17) then
   (v15[v17.toNat]?).bind fun x1 =>
    if decide (r5.length + 1 < lim) then
     impl_TrustBy_p0 v0 v15 v16 (IntKind.i64.wrap (v17 + 1)) ((r5.take r5.length) ++ [x1.2.1])
    else
     none
  else
   none
 else
  if decide (r5.length = r5.length) then
   (impl_sortedSet r5).bind fun x2 =>
    if decide (0 ≤ (x2.1.length : Int)) && decide ((x2.1.length : Int) ≤ (x2.1.length : Int)) && decide ((x2.1.length : Int).toNat < lim) then
     impl_TrustBy_p1 x2.1 ((List.replicate ((x2.1.length : Int).toNat) (0 : Int)).length) v0 (v0.length : Int) 0 (List.replicate ((x2.1.length : Int).toNat) (0 : Int))
    else
     none
  else
   none :=
 (goL_dn _ _ _ 4000 _ _).trans (by kernel_rfl)
theorem impl_TrustBy_p1_eq  (v5 : List (List UInt8)) (v8n : Nat) (v32 : List T_Paper.ty) (v33 : Int) (v34 : Int) (r8 : List Int) : impl_TrustBy_p1 v5 v8n v32 v33 v34 r8 =
 if decide (v34 < v33) then
  if decide (0 ≤ v34) then
   (v32[v34.toNat]?).bind fun x1 =>
    (slices_Index___string_string_ v5 x1.2.1).bind fun x2 =>
     if decide (0 ≤ x2) && decide (x2 < (v8n : Int)) then
      (r8[x2.toNat]?).bind fun x3 =>
       if decide (0 ≤ x2) && decide (x2 < (v8n : Int)) then
        (r8[x2.toNat]?).bind fun x4 =>
         impl_TrustBy_p1 v5 v8n v32 v33 (IntKind.i64.wrap (v34 + 1)) (r8.set x2.toNat (IntKind.i64.wrap (x3 + x1.2.2.2.2.1)))
       else
        none
     else
      none
  else
   none
 else
  some (v5,(r8.take v8n),0) :=
 (goL_dn _ _ _ 4000 _ _).trans (by kernel_rfl)
def impl_clone_impl_Paper__ir : Fn := { np := 1,io := [],res := [.t 2],own := [true],body :=
 (.seq (.reg false [.W 2 (.asg (.c (.nils 5)))] [0] []) (.seq (.reg false [.V 3 (.mv (.t 0)),.V 4 (.len (.t 3)),.V 5 (.mks 5 56 (.agg [.str [],.str [],.int .i64 0,.int .i64 0,.int .i64 0]) (.c (.int .i64 0)) (.t 4)),.V 6 (.mv (.t 0)),.W 7 (.app 5 56 (.t 5) (.t 6)),.W 2 (.asg (.t 7))] [2] [2]) .ret)) }
noncomputable def impl_clone_impl_Paper__D : List (Nat × Callee) := []
def impl_clone_impl_Paper__H : List (Nat × ET) := [(2,T_Paper),(3,T_Paper),(5,T_Paper),(6,T_Paper),(7,T_Paper)]
noncomputable def impl_clone_impl_Paper__c : Callee := mkCallee impl_clone_impl_Paper__D impl_clone_impl_Paper__H impl_clone_impl_Paper__ir [.d (.one (.sl T_Paper))] [.tok T_Paper] []
noncomputable def impl_clone_impl_Paper_ (a0 : List T_Paper.ty) : Option (List T_Paper.ty) := impl_clone_impl_Paper__c.f (a0,())
theorem impl_clone_impl_Paper__eq (a0 : List T_Paper.ty) : impl_clone_impl_Paper_ a0 =
 if decide (0 ≤ (a0.length : Int)) && decide ((a0.length : Int).toNat < lim) then
  if decide (0 + a0.length < lim) then
   some (([] ++ a0).take (([] ++ a0).length))
  else
   none
 else
  none :=
 (mk_f _ _ _ _ _ _ _ 4000).trans (by kernel_rfl)
def impl_clash_ir : Fn := { np := 2,io := [],res := [.t 4],own := [false],body :=
 (.seq (.reg false [.W 2 (.box 5 (.t 0)),.W 3 (.box 5 (.t 1)),.V 4 (.asg (.c (.bool false)))] [2,3] [2,3]) (.seq (.reg false [.V 5 (.fa 1 (.t 2)),.V 6 (.ld none (.t 5)),.V 7 (.fa 1 (.t 3)),.V 8 (.ld none (.t 7)),.V 9 (.bin .neq (.t 6) (.t 8)),.V 10 (.mv (.t 9)),.G 11 (.fa 2 (.t 2)) 5 false,.G 12 (.ld none (.t 11)) 5 false,.G 13 (.fa 2 (.t 3)) 5 false,.G 14 (.ld none (.t 13)) 5 false,.G 15 (.max [.t 12,.t 14]) 5 false,.G 16 (.fa 3 (.t 2)) 5 false,.G 17 (.ld none (.t 16)) 5 false,.G 18 (.fa 3 (.t 3)) 5 false,.G 19 (.ld none (.t 18)) 5 false,.G 20 (.min [.t 17,.t 19]) 5 false,.G 21 (.bin .gtr (.t 15) (.t 20)) 5 false,.V 22 (.pick (.t 10) (.c (.bool true)) (.t 21)),.V 4 (.asg (.t 22))] [4] []) .ret)) }
noncomputable def impl_clash_D : List (Nat × Callee) := []
def impl_clash_H : List (Nat × ET) := []
noncomputable def impl_clash_c : Callee := mkCallee impl_clash_D impl_clash_H impl_clash_ir [.d T_Paper,.d T_Paper] [.d (.one .bool)] []
noncomputable def impl_clash (a0 : T_Paper.ty) (a1 : T_Paper.ty) : Option (Bool) := impl_clash_c.f (a0,a1,())
theorem impl_clash_eq (a0 : T_Paper.ty) (a1 : T_Paper.ty) : impl_clash a0 a1 =
 if (!(a0.2.1 == a1.2.1)) then
  some true
 else
  some (decide ((if a1.2.2.1 > a0.2.2.1 then a1.2.2.1 else a0.2.2.1) > (if a1.2.2.2.1 < a0.2.2.2.1 then a1.2.2.2.1 else a0.2.2.2.1))) :=
 (mk_f _ _ _ _ _ _ _ 4000).trans (by kernel_rfl)
def impl_worst_k0 : C :=
 .seq (.reg false [.V 20 (.bin .lss (.t 19) (.t 18))] [0,3,4,5,6,7,10,11,12,17,18,19,20] [6]) (.seq (.cond (.t 20) .skip (.exit 2)) (.seq (.block 3 (.seq (.reg false [.V 21 (.mv (.t 19)),.V 22 (.ia 5 (.t 17) (.t 19)),.V 23 (.ld (some 5) (.t 22)),.W 9 (.alloc 5 (.agg [.str [],.str [],.int .i64 0,.int .i64 0,.int .i64 0])),.V 8 (.asg (.t 21)),⟨none,true,.sto 5 (.t 9) (.t 23),none,false,[]⟩] [0,3,4,5,6,7,8,9,10,11,12,17,18,19] [6,9]) (.seq (.reg false [.V 24 (.mv (.t 5)),.V 25 (.mv (.t 8)),.V 26 (.bin .neq (.t 24) (.t 25)),.V 27 (.mv (.t 26)),.G 28 (.ld (some 5) (.t 6)) 3 true,.G 29 (.ld (some 5) (.t 9)) 3 true,.G 30 (.call (.c (.fn 641 [])) [.t 28,.t 29]) 3 true,.V 31 (.pick (.t 27) (.t 30) (.c (.bool false)))] [0,3,4,5,6,7,9,10,11,12,17,18,19,31] [6,9]) (.cond (.t 31) (.reg false [.V 32 (.mv (.t 7)),.V 33 (.fa 4 (.t 9)),.V 34 (.ld none (.t 33)),.V 35 (.bin .add (.t 32) (.t 34)),.V 7 (.asg (.t 35))] [0,3,4,5,6,7,10,11,12,17,18,19] [6]) .skip)))) (.reg false [.V 36 (.bin .add (.t 19) (.c (.int .i64 1))),.V 19 (.mv (.t 36))] [0,3,4,5,6,7,10,11,12,17,18,19] [6])))
def impl_worst_k1 : C :=
 .norm [0,3,4,5,6,7,10,11,12,17,18,19] [6] impl_worst_k0
def impl_worst_k2 : C :=
 .seq (.reg false [.V 37 (.mv (.t 7)),.V 38 (.mv (.t 4)),.V 39 (.bin .gtr (.t 37) (.t 38))] [0,3,4,5,7,10,11,12,39] []) (.cond (.t 39) (.reg false [.V 40 (.mv (.t 5)),.V 41 (.mv (.t 7)),.V 3 (.asg (.t 40)),.V 4 (.asg (.t 41))] [0,3,4,10,11,12] []) .skip)
def impl_worst_k3 : C :=
 .reg false [.V 42 (.bin .add (.t 12) (.c (.int .i64 1))),.V 12 (.mv (.t 42))] [0,3,4,10,11,12] []
def impl_worst_k4 : C :=
 .seq (.reg false [.V 13 (.bin .lss (.t 12) (.t 11))] [0,3,4,10,11,12,13] []) (.seq (.cond (.t 13) .skip (.exit 0)) (.seq (.block 1 (.seq (.reg false [.V 14 (.mv (.t 12)),.V 15 (.ia 5 (.t 10) (.t 12)),.V 16 (.ld (some 5) (.t 15)),.W 6 (.alloc 5 (.agg [.str [],.str [],.int .i64 0,.int .i64 0,.int .i64 0])),.V 5 (.asg (.t 14)),⟨none,true,.sto 5 (.t 6) (.t 16),none,false,[]⟩] [0,3,4,5,6,10,11,12] [6]) (.seq (.reg false [.V 7 (.asg (.c (.int .i64 0)))] [0,3,4,5,6,7,10,11,12] [6]) (.seq (.seq (.reg false [.V 17 (.mv (.t 0)),.V 18 (.len (.t 17)),.V 19 (.mv (.c (.int .i64 0)))] [0,3,4,5,6,7,10,11,12,17,18,19] [6]) (.block 2 (.loop impl_worst_k1))) impl_worst_k2)))) impl_worst_k3))
def impl_worst_k5 : C :=
 .norm [0,3,4,10,11,12] [] impl_worst_k4
def impl_worst_k6 : C :=
 .seq (.reg false [.V 43 (.mv (.t 3)),.V 2 (.asg (.t 43))] [2] []) .ret
def impl_worst_ir : Fn := { np := 1,io := [],res := [.t 2],own := [false],body :=
 (.seq (.reg false [.V 2 (.asg (.c (.int .i64 0)))] [0] []) (.seq (.reg false [.V 3 (.asg (.c (.int .i64 (-1)))),.V 4 (.asg (.c (.int .i64 0)))] [0,3,4] []) (.seq (.seq (.reg false [.V 10 (.mv (.t 0)),.V 11 (.len (.t 10)),.V 12 (.mv (.c (.int .i64 0)))] [0,3,4,10,11,12] []) (.block 0 (.loop impl_worst_k5))) impl_worst_k6))) }
noncomputable def impl_worst_D : List (Nat × Callee) := [(641,impl_clash_c)]
def impl_worst_H : List (Nat × ET) := [(10,T_Paper),(17,T_Paper)]
noncomputable def impl_worst_c : Callee := mkCallee impl_worst_D impl_worst_H impl_worst_ir [.d (.one (.sl T_Paper))] [.d (.one (.int .i64))] []
noncomputable def impl_worst (a0 : List T_Paper.ty) : Option (Int) := impl_worst_c.f (a0,())
noncomputable def impl_worst_p0  (v0 : List T_Paper.ty) (v3 : Int) (v4 : Int) (v10 : List T_Paper.ty) (v11 : Int) (v12 : Int) : Option (Int) :=
 goL impl_worst_D impl_worst_H (vleave impl_worst_ir [.d (.one (.sl T_Paper))] [.d (.one (.int .i64))] [] []) [.c impl_worst_k4,.l impl_worst_k5,.e 0,.c impl_worst_k6]
  ⟨[(0,.sl T_Paper v0),(3,.int .i64 v3),(4,.int .i64 v4),(10,.sl T_Paper v10),(11,.int .i64 v11),(12,.int .i64 v12)],[]⟩
noncomputable def impl_worst_p1  (v0 : List T_Paper.ty) (v3 : Int) (v4 : Int) (v5 : Int) (v7 : Int) (v10 : List T_Paper.ty) (v11 : Int) (v12 : Int) (v17 : List T_Paper.ty) (v18 : Int) (v19 : Int) (r6_0 : List UInt8) (r6_1 : List UInt8) (r6_2 : Int) (r6_3 : Int) (r6_4 : Int) : Option (Int) :=
 goL impl_worst_D impl_worst_H (vleave impl_worst_ir [.d (.one (.sl T_Paper))] [.d (.one (.int .i64))] [] []) [.c impl_worst_k0,.l impl_worst_k1,.e 2,.c impl_worst_k2,.e 1,.c impl_worst_k3,.l impl_worst_k5,.e 0,.c impl_worst_k6]
  ⟨[(0,.sl T_Paper v0),(3,.int .i64 v3),(4,.int .i64 v4),(5,.int .i64 v5),(6,.loc 6 0 0),(7,.int .i64 v7),(10,.sl T_Paper v10),(11,.int .i64 v11),(12,.int .i64 v12),(17,.sl T_Paper v17),(18,.int .i64 v18),(19,.int .i64 v19)],[(6,some (.var 5 (.agg [.str r6_0,.str r6_1,.int .i64 r6_2,.int .i64 r6_3,.int .i64 r6_4])))]⟩
theorem impl_worst_eq (a0 : List T_Paper.ty) : impl_worst a0 =
 impl_worst_p0 a0 (-1) 0 a0 (a0.length : Int) 0 :=
 (mk_f _ _ _ _ _ _ _ 4000).trans (by kernel_rfl)
theorem impl_worst_p0_eq  (v0 : List T_Paper.ty) (v3 : Int) (v4 : Int) (v10 : List T_Paper.ty) (v11 : Int) (v12 : Int) : impl_worst_p0 v0 v3 v4 v10 v11 v12 =
 if decide (v12 < v11) then
  if decide (0 ≤ v12) then
   (v10[v12.toNat]?).bind fun x1 =>
    impl_worst_p1 v0 v3 v4 v12 0 v10 v11 v12 v0 (v0.length : Int) 0 x1.1 x1.2.1 x1.2.2.1 x1.2.2.2.1 x1.2.2.2.2.1
  else
   none
 else
  some v3 :=
 (goL_dn _ _ _ 4000 _ _).trans (by kernel_rfl)
theorem impl_worst_p1_eq  (v0 : List T_Paper.ty) (v3 : Int) (v4 : Int) (v5 : Int) (v7 : Int) (v10 : List T_Paper.ty) (v11 : Int) (v12 : Int) (v17 : List T_Paper.ty) (v18 : Int) (v19 : Int) (r6_0 : List UInt8) (r6_1 : List UInt8) (r6_2 : Int) (r6_3 : Int) (r6_4 : Int) : impl_worst_p1 v0 v3 v4 v5 v7 v10 v11 v12 v17 v18 v19 r6_0 r6_1 r6_2 r6_3 r6_4 =
 if decide (v19 < v18) then
  if decide (0 ≤ v19) then
   (v17[v19.toNat]?).bind fun x1 =>
    if (v5 != v19) then
     (impl_clash (r6_0,r6_1,r6_2,r6_3,r6_4,()) x1).bind fun x2 =>
      if x2 then
       impl_worst_p1 v0 v3 v4 v5 (IntKind.i64.wrap (v7 + x1.2.2.2.2.1)) v10 v11 v12 v17 v18 (IntKind.i64.wrap (v19 + 1)) r6_0 r6_1 r6_2 r6_3 r6_4
      else
       impl_worst_p1 v0 v3 v4 v5 v7 v10 v11 v12 v17 v18 (IntKind.i64.wrap (v19 + 1)) r6_0 r6_1 r6_2 r6_3 r6_4
    else
     impl_worst_p1 v0 v3 v4 v5 v7 v10 v11 v12 v17 v18 (IntKind.i64.wrap (v19 + 1)) r6_0 r6_1 r6_2 r6_3 r6_4
  else
   none
 else
  if decide (v7 > v4) then
   impl_worst_p0 v0 v5 v7 v10 v11 (IntKind.i64.wrap (v12 + 1))
  else
   impl_worst_p0 v0 v3 v4 v10 v11 (IntKind.i64.wrap (v12 + 1)) :=
 (goL_dn _ _ _ 4000 _ _).trans (by kernel_rfl)
noncomputable def slices_Delete___impl_Paper_impl_Paper__c : Callee := deleteC T_Paper
noncomputable def slices_Delete___impl_Paper_impl_Paper_ (a0 : List T_Paper.ty) (a1 : Int) (a2 : Int) : Option (List T_Paper.ty × Unit) := slices_Delete___impl_Paper_impl_Paper__c.f (a0,a1,a2,())
theorem slices_Delete___impl_Paper_impl_Paper__eq (a0 : List T_Paper.ty) (a1 : Int) (a2 : Int) : slices_Delete___impl_Paper_impl_Paper_ a0 a1 a2 = if decide (0 ≤ a1) && (decide (a1 < a2) && (decide (a2 ≤ (a0.length : Int)) && decide (a0.length < 1099511627776))) then some (a0.take a1.toNat ++ a0.drop a2.toNat,()) else none := rfl
def impl_DropClashes_k0 : C :=
 .seq (.seq (.reg false [.V 13 (.mv (.t 5)),.V 14 (.bin .geq (.t 13) (.c (.int .i64 0)))] [4,5,14] [4]) (.cond (.t 14) .skip (.exit 0))) (.seq (.block 1 (.reg false [.V 17 (.mv (.t 4)),.V 18 (.mv (.t 5)),.V 19 (.mv (.t 5)),.V 20 (.bin .add (.t 19) (.c (.int .i64 1))),.W 21 (.call (.c (.fn 637 [])) [.t 17,.t 18,.t 20]),.W 4 (.asg (.t 21))] [4] [4])) (.reg false [.V 15 (.mv (.t 4)),.V 16 (.call (.c (.fn 636 [])) [.t 15]),.V 5 (.asg (.t 16))] [4,5] [4]))
def impl_DropClashes_k1 : C :=
 .norm [4,5] [4] impl_DropClashes_k0
def impl_DropClashes_k2 : C :=
 .seq (.reg false [.V 22 (.mv (.t 4)),.W 2 (.asg (.t 22)),.V 3 (.asg (.c (.int .i64 0)))] [2,3] [2,4]) .ret
def impl_DropClashes_ir : Fn := { np := 1,io := [],res := [.t 2,.t 3],own := [false,false],body :=
 (.seq (.reg false [.W 2 (.asg (.c (.nils 5))),.V 3 (.asg (.c (.int .i64 0)))] [0] []) (.seq (.seq (.reg false [.V 6 (.mv (.t 0)),.V 7 (.call (.c (.fn 635 [])) [.t 6]),.V 8 (.un .not (.t 7))] [0,8] []) (.cond (.t 8) (.seq (.reg false [.W 2 (.asg (.c (.nils 5))),.V 3 (.asg (.c (.int .i64 1)))] [2,3] [2,4]) .ret) .skip)) (.seq (.reg false [.V 9 (.mv (.t 0)),.V 10 (.call (.c (.fn 638 [])) [.t 9]),.W 4 (.asg (.t 10))] [4] [4]) (.seq (.seq (.reg false [.V 11 (.mv (.t 4)),.V 12 (.call (.c (.fn 636 [])) [.t 11]),.V 5 (.asg (.t 12))] [4,5] [4]) (.block 0 (.loop impl_DropClashes_k1))) impl_DropClashes_k2)))) }
noncomputable def impl_DropClashes_D : List (Nat × Callee) := [(635,impl_ValidPapers_c),(636,impl_worst_c),(637,slices_Delete___impl_Paper_impl_Paper__c),(638,impl_clone_impl_Paper__c)]
def impl_DropClashes_H : List (Nat × ET) := [(2,T_Paper),(4,T_Paper),(6,T_Paper),(9,T_Paper),(10,T_Paper),(11,T_Paper),(15,T_Paper),(17,T_Paper),(21,T_Paper),(22,T_Paper)]
noncomputable def impl_DropClashes_c : Callee := mkCallee impl_DropClashes_D impl_DropClashes_H impl_DropClashes_ir [.d (.one (.sl T_Paper))] [.d (.one (.sl T_Paper)),.d (.one (.int .i64))] []
noncomputable def impl_DropClashes (a0 : List T_Paper.ty) : Option (List T_Paper.ty × Int) := impl_DropClashes_c.f (a0,())
noncomputable def impl_DropClashes_p0  (v5 : Int) (r4 : List T_Paper.ty) : Option (List T_Paper.ty × Int) :=
 goL impl_DropClashes_D impl_DropClashes_H (vleave impl_DropClashes_ir [.d (.one (.sl T_Paper))] [.d (.one (.sl T_Paper)),.d (.one (.int .i64))] [] []) [.c impl_DropClashes_k0,.l impl_DropClashes_k1,.e 0,.c impl_DropClashes_k2]
  ⟨[(4,.view 4 0 r4.length),(5,.int .i64 v5)],[(4,some (.sl T_Paper r4))]⟩
theorem impl_DropClashes_eq (a0 : List T_Paper.ty) : impl_DropClashes a0 =
 (impl_ValidPapers a0).bind fun x1 =>
  if (!x1) then
   some ([],1)
  else
   (impl_clone_impl_Paper_ a0).bind fun x2 =>
    (impl_worst (x2.take x2.length)).bind fun x3 =>
     impl_DropClashes_p0 x3 x2 :=
 (mk_f _ _ _ _ _ _ _ 4000).trans (by kernel_rfl)
theorem impl_DropClashes_p0_eq  (v5 : Int) (r4 : List T_Paper.ty) : impl_DropClashes_p0 v5 r4 =
 if decide (v5 ≥ 0) then
  if decide (r4.length = r4.length) then
   (slices_Delete___impl_Paper_impl_Paper_ r4 v5 (IntKind.i64.wrap (v5 + 1))).bind fun x1 =>
    (impl_worst (x1.1.take x1.1.length)).bind fun x2 =>
     impl_DropClashes_p0 x2 x1.1
  else
   none
 else
  some ((r4.take r4.length),0) :=
 (goL_dn _ _ _ 4000 _ _).trans (by kernel_rfl)
def impl_WorstPaper_ir : Fn := { np := 1,io := [],res := [.t 2,.t 3],own := [false,false],body :=
 (.seq (.reg false [.V 2 (.asg (.c (.str []))),.V 3 (.asg (.c (.int .i64 0)))] [0] []) (.seq (.seq (.reg false [.V 5 (.mv (.t 0)),.V 6 (.call (.c (.fn 635 [])) [.t 5]),.V 7 (.un .not (.t 6))] [0,7] []) (.cond (.t 7) (.seq (.reg false [.V 2 (.asg (.c (.str []))),.V 3 (.asg (.c (.int .i64 1)))] [2,3] []) .ret) .skip)) (.seq (.reg false [.V 8 (.mv (.t 0)),.V 9 (.call (.c (.fn 636 [])) [.t 8]),.V 4 (.asg (.t 9))] [0,4] []) (.seq (.seq (.reg false [.V 10 (.mv (.t 4)),.V 11 (.bin .lss (.t 10) (.c (.int .i64 0)))] [0,4,11] []) (.cond (.t 11) (.seq (.reg false [.V 2 (.asg (.c (.str []))),.V 3 (.asg (.c (.int .i64 3)))] [2,3] []) .ret) .skip)) (.seq (.reg false [.V 12 (.mv (.t 0)),.V 13 (.mv (.t 4)),.V 14 (.ia 5 (.t 12) (.t 13)),.V 15 (.fa 0 (.t 14)),.V 16 (.ld none (.t 15)),.V 2 (.asg (.t 16)),.V 3 (.asg (.c (.int .i64 0)))] [2,3] []) .ret))))) }
noncomputable def impl_WorstPaper_D : List (Nat × Callee) := [(635,impl_ValidPapers_c),(636,impl_worst_c)]
def impl_WorstPaper_H : List (Nat × ET) := [(5,T_Paper),(8,T_Paper),(12,T_Paper)]
noncomputable def impl_WorstPaper_c : Callee := mkCallee impl_WorstPaper_D impl_WorstPaper_H impl_WorstPaper_ir [.d (.one (.sl T_Paper))] [.d (.one .str),.d (.one (.int .i64))] []
noncomputable def impl_WorstPaper (a0 : List T_Paper.ty) : Option (List UInt8 × Int) := impl_WorstPaper_c.f (a0,())
theorem impl_WorstPaper_eq (a0 : List T_Paper.ty) : impl_WorstPaper a0 =
 (impl_ValidPapers a0).bind fun x1 =>
  if (!x1) then
   some ([],1)
  else
   (impl_worst a0).bind fun x2 =>
    if decide (x2 < 0) then
     some ([],3)
    else
     if decide (0 ≤ x2) then
      (a0[x2.toNat]?).bind fun x3 =>
       some (x3.1,0)
     else
      none :=
 (mk_f _ _ _ _ _ _ _ 4000).trans (by kernel_rfl)
def laws_b10Inside_k0 : C :=
 .seq (.seq (.reg false [.V 6 (.mv (.t 5)),.V 7 (.mv (.t 0)),.V 8 (.len (.t 7)),.V 9 (.bin .lss (.t 6) (.t 8))] [0,1,5,9] []) (.cond (.t 9) .skip (.exit 0))) (.seq (.block 1 (.seq (.reg false [.V 12 (.mv (.t 0)),.V 13 (.mv (.t 5)),.V 14 (.ia 1 (.t 12) (.t 13)),.V 15 (.ld none (.t 14)),.V 16 (.mv (.t 1)),.V 17 (.bin .eql (.t 15) (.t 16))] [0,1,5,17] []) (.cond (.t 17) (.seq (.reg false [.V 4 (.asg (.c (.bool true)))] [4] []) .ret) .skip))) (.reg false [.V 10 (.mv (.t 5)),.V 11 (.bin .add (.t 10) (.c (.int .i64 1))),.V 5 (.asg (.t 11))] [0,1,5] []))
def laws_b10Inside_k1 : C :=
 .norm [0,1,5] [] laws_b10Inside_k0
def laws_b10Inside_k2 : C :=
 .seq (.reg false [.V 4 (.asg (.c (.bool false)))] [4] []) .ret
def laws_b10Inside_ir : Fn := { np := 2,io := [],res := [.t 4],own := [false],body :=
 (.seq (.reg false [.V 4 (.asg (.c (.bool false)))] [0,1] []) (.seq (.seq (.reg false [.V 5 (.asg (.c (.int .i64 0)))] [0,1,5] []) (.block 0 (.loop laws_b10Inside_k1))) laws_b10Inside_k2)) }
noncomputable def laws_b10Inside_D : List (Nat × Callee) := []
def laws_b10Inside_H : List (Nat × ET) := [(7,(.one .str)),(12,(.one .str))]
noncomputable def laws_b10Inside_c : Callee := mkCallee laws_b10Inside_D laws_b10Inside_H laws_b10Inside_ir [.d (.one (.sl (.one .str))),.d (.one .str)] [.d (.one .bool)] []
noncomputable def laws_b10Inside (a0 : List (List UInt8)) (a1 : List UInt8) : Option (Bool) := laws_b10Inside_c.f (a0,a1,())
noncomputable def laws_b10Inside_p0  (v0 : List (List UInt8)) (v1 : List UInt8) (v5 : Int) : Option (Bool) :=
 goL laws_b10Inside_D laws_b10Inside_H (vleave laws_b10Inside_ir [.d (.one (.sl (.one .str))),.d (.one .str)] [.d (.one .bool)] [] []) [.c laws_b10Inside_k0,.l laws_b10Inside_k1,.e 0,.c laws_b10Inside_k2]
  ⟨[(0,.sl (.one .str) v0),(1,.str v1),(5,.int .i64 v5)],[]⟩
theorem laws_b10Inside_eq (a0 : List (List UInt8)) (a1 : List UInt8) : laws_b10Inside a0 a1 =
 laws_b10Inside_p0 a0 a1 0 :=
 (mk_f _ _ _ _ _ _ _ 4000).trans (by kernel_rfl)
theorem laws_b10Inside_p0_eq  (v0 : List (List UInt8)) (v1 : List UInt8) (v5 : Int) : laws_b10Inside_p0 v0 v1 v5 =
 if decide (v5 < (v0.length : Int)) then
  if decide (0 ≤ v5) then
   (v0[v5.toNat]?).bind fun x1 =>
    if (x1 == v1) then
     some true
    else
     laws_b10Inside_p0 v0 v1 (IntKind.i64.wrap (v5 + 1))
  else
   none
 else
  some false :=
 (goL_dn _ _ _ 4000 _ _).trans (by kernel_rfl)
def laws_b10Sum_k0 : C :=
 .seq (.seq (.reg false [.V 5 (.mv (.t 4)),.V 6 (.mv (.t 0)),.V 7 (.len (.t 6)),.V 8 (.bin .lss (.t 5) (.t 7))] [0,3,4,8] []) (.cond (.t 8) .skip (.exit 0))) (.seq (.block 1 (.reg false [.V 11 (.mv (.t 3)),.V 12 (.mv (.t 0)),.V 13 (.mv (.t 4)),.V 14 (.ia 1 (.t 12) (.t 13)),.V 15 (.ld none (.t 14)),.V 16 (.bin .add (.t 11) (.t 15)),.V 3 (.asg (.t 16))] [0,3,4] [])) (.reg false [.V 9 (.mv (.t 4)),.V 10 (.bin .add (.t 9) (.c (.int .i64 1))),.V 4 (.asg (.t 10))] [0,3,4] []))
def laws_b10Sum_k1 : C :=
 .norm [0,3,4] [] laws_b10Sum_k0
def laws_b10Sum_k2 : C :=
 .seq (.reg false [.V 17 (.mv (.t 3)),.V 2 (.asg (.t 17))] [2] []) .ret
def laws_b10Sum_ir : Fn := { np := 1,io := [],res := [.t 2],own := [false],body :=
 (.seq (.reg false [.V 2 (.asg (.c (.int .i64 0)))] [0] []) (.seq (.reg false [.V 3 (.asg (.c (.int .i64 0)))] [0,3] []) (.seq (.seq (.reg false [.V 4 (.asg (.c (.int .i64 0)))] [0,3,4] []) (.block 0 (.loop laws_b10Sum_k1))) laws_b10Sum_k2))) }
noncomputable def laws_b10Sum_D : List (Nat × Callee) := []
def laws_b10Sum_H : List (Nat × ET) := [(6,(.one (.int .i64))),(12,(.one (.int .i64)))]
noncomputable def laws_b10Sum_c : Callee := mkCallee laws_b10Sum_D laws_b10Sum_H laws_b10Sum_ir [.d (.one (.sl (.one (.int .i64))))] [.d (.one (.int .i64))] []
noncomputable def laws_b10Sum (a0 : List Int) : Option (Int) := laws_b10Sum_c.f (a0,())
noncomputable def laws_b10Sum_p0  (v0 : List Int) (v3 : Int) (v4 : Int) : Option (Int) :=
 goL laws_b10Sum_D laws_b10Sum_H (vleave laws_b10Sum_ir [.d (.one (.sl (.one (.int .i64))))] [.d (.one (.int .i64))] [] []) [.c laws_b10Sum_k0,.l laws_b10Sum_k1,.e 0,.c laws_b10Sum_k2]
  ⟨[(0,.sl (.one (.int .i64)) v0),(3,.int .i64 v3),(4,.int .i64 v4)],[]⟩
theorem laws_b10Sum_eq (a0 : List Int) : laws_b10Sum a0 =
 laws_b10Sum_p0 a0 0 0 :=
 (mk_f _ _ _ _ _ _ _ 4000).trans (by kernel_rfl)
theorem laws_b10Sum_p0_eq  (v0 : List Int) (v3 : Int) (v4 : Int) : laws_b10Sum_p0 v0 v3 v4 =
 if decide (v4 < (v0.length : Int)) then
  if decide (0 ≤ v4) then
   (v0[v4.toNat]?).bind fun x1 =>
    laws_b10Sum_p0 v0 (IntKind.i64.wrap (v3 + x1)) (IntKind.i64.wrap (v4 + 1))
  else
   none
 else
  some v3 :=
 (goL_dn _ _ _ 4000 _ _).trans (by kernel_rfl)
def spec_l01Small_ir : Fn := { np := 1,io := [],res := [.t 2],own := [false],body :=
 (.seq (.reg false [.V 2 (.asg (.c (.bool false)))] [0] []) (.seq (.reg false [.V 3 (.mv (.t 0)),.V 4 (.bin .geq (.t 3) (.c (.int .u8 97))),.V 5 (.mv (.t 4)),.G 6 (.mv (.t 0)) 2 true,.G 7 (.bin .leq (.t 6) (.c (.int .u8 122))) 2 true,.V 8 (.pick (.t 5) (.t 7) (.c (.bool false))),.V 2 (.asg (.t 8))] [2] []) .ret)) }
noncomputable def spec_l01Small_D : List (Nat × Callee) := []
def spec_l01Small_H : List (Nat × ET) := []
noncomputable def spec_l01Small_c : Callee := mkCallee spec_l01Small_D spec_l01Small_H spec_l01Small_ir [.d (.one (.int .u8))] [.d (.one .bool)] []
noncomputable def spec_l01Small (a0 : Int) : Option (Bool) := spec_l01Small_c.f (a0,())
theorem spec_l01Small_eq (a0 : Int) : spec_l01Small a0 =
 if decide (a0 ≥ 97) then
  some (decide (a0 ≤ 122))
 else
  some false :=
 (mk_f _ _ _ _ _ _ _ 4000).trans (by kernel_rfl)
def spec_l01Digit_ir : Fn := { np := 1,io := [],res := [.t 2],own := [false],body :=
 (.seq (.reg false [.V 2 (.asg (.c (.bool false)))] [0] []) (.seq (.reg false [.V 3 (.mv (.t 0)),.V 4 (.bin .geq (.t 3) (.c (.int .u8 48))),.V 5 (.mv (.t 4)),.G 6 (.mv (.t 0)) 2 true,.G 7 (.bin .leq (.t 6) (.c (.int .u8 57))) 2 true,.V 8 (.pick (.t 5) (.t 7) (.c (.bool false))),.V 2 (.asg (.t 8))] [2] []) .ret)) }
noncomputable def spec_l01Digit_D : List (Nat × Callee) := []
def spec_l01Digit_H : List (Nat × ET) := []
noncomputable def spec_l01Digit_c : Callee := mkCallee spec_l01Digit_D spec_l01Digit_H spec_l01Digit_ir [.d (.one (.int .u8))] [.d (.one .bool)] []
noncomputable def spec_l01Digit (a0 : Int) : Option (Bool) := spec_l01Digit_c.f (a0,())
theorem spec_l01Digit_eq (a0 : Int) : spec_l01Digit a0 =
 if decide (a0 ≥ 48) then
  some (decide (a0 ≤ 57))
 else
  some false :=
 (mk_f _ _ _ _ _ _ _ 4000).trans (by kernel_rfl)
def spec_l01Name_k0 : C :=
 .seq (.seq (.reg false [.V 17 (.mv (.t 3)),.V 18 (.mv (.t 0)),.V 19 (.lens (.t 18)),.V 20 (.bin .lss (.t 17) (.t 19))] [0,3,20] []) (.cond (.t 20) .skip (.exit 0))) (.seq (.block 1 (.seq (.reg false [.V 23 (.mv (.t 0)),.V 24 (.mv (.t 3)),.V 25 (.ix (.t 23) (.t 24)),.V 26 (.call (.c (.fn 11 [])) [.t 25]),.V 27 (.un .not (.t 26)),.V 28 (.mv (.t 27)),.G 29 (.mv (.t 0)) 5 true,.G 30 (.mv (.t 3)) 5 true,.G 31 (.ix (.t 29) (.t 30)) 5 true,.G 32 (.call (.c (.fn 12 [])) [.t 31]) 5 true,.G 33 (.un .not (.t 32)) 5 true,.V 34 (.pick (.t 28) (.t 33) (.c (.bool false)))] [0,3,34] []) (.cond (.t 34) (.seq (.reg false [.V 2 (.asg (.c (.bool false)))] [2] []) .ret) .skip))) (.reg false [.V 21 (.mv (.t 3)),.V 22 (.bin .add (.t 21) (.c (.int .i64 1))),.V 3 (.asg (.t 22))] [0,3] []))
def spec_l01Name_k1 : C :=
 .norm [0,3] [] spec_l01Name_k0
def spec_l01Name_k2 : C :=
 .seq (.reg false [.V 2 (.asg (.c (.bool true)))] [2] []) .ret
def spec_l01Name_k3 : C :=
 .seq (.seq (.reg false [.V 3 (.asg (.c (.int .i64 0)))] [0,3] []) (.block 0 (.loop spec_l01Name_k1))) spec_l01Name_k2
def spec_l01Name_ir : Fn := { np := 1,io := [],res := [.t 2],own := [false],body :=
 (.seq (.reg false [.V 2 (.asg (.c (.bool false)))] [0] []) (.seq (.seq (.reg false [.V 4 (.mv (.t 0)),.V 5 (.bin .eql (.t 4) (.c (.str []))),.V 6 (.mv (.t 5)),.G 7 (.mv (.t 0)) 2 false,.G 8 (.lens (.t 7)) 2 false,.G 9 (.bin .gtr (.t 8) (.c (.int .i64 10))) 2 false,.V 10 (.pick (.t 6) (.c (.bool true)) (.t 9)),.V 11 (.mv (.t 10)),.G 12 (.mv (.t 0)) 7 false,.G 13 (.ix (.t 12) (.c (.int .i64 0))) 7 false,.G 14 (.call (.c (.fn 11 [])) [.t 13]) 7 false,.G 15 (.un .not (.t 14)) 7 false,.V 16 (.pick (.t 11) (.c (.bool true)) (.t 15))] [0,16] []) (.cond (.t 16) (.seq (.reg false [.V 2 (.asg (.c (.bool false)))] [2] []) .ret) .skip)) (.norm [0] [] spec_l01Name_k3))) }
noncomputable def spec_l01Name_D : List (Nat × Callee) := [(11,spec_l01Small_c),(12,spec_l01Digit_c)]
def spec_l01Name_H : List (Nat × ET) := []
noncomputable def spec_l01Name_c : Callee := mkCallee spec_l01Name_D spec_l01Name_H spec_l01Name_ir [.d (.one .str)] [.d (.one .bool)] []
noncomputable def spec_l01Name (a0 : List UInt8) : Option (Bool) := spec_l01Name_c.f (a0,())
noncomputable def spec_l01Name_p0  (v0 : List UInt8) : Option (Bool) :=
 goL spec_l01Name_D spec_l01Name_H (vleave spec_l01Name_ir [.d (.one .str)] [.d (.one .bool)] [] []) [.c spec_l01Name_k3]
  ⟨[(0,.str v0)],[]⟩
noncomputable def spec_l01Name_p1  (v0 : List UInt8) (v3 : Int) : Option (Bool) :=
 goL spec_l01Name_D spec_l01Name_H (vleave spec_l01Name_ir [.d (.one .str)] [.d (.one .bool)] [] []) [.c spec_l01Name_k0,.l spec_l01Name_k1,.e 0,.c spec_l01Name_k2]
  ⟨[(0,.str v0),(3,.int .i64 v3)],[]⟩
theorem spec_l01Name_eq (a0 : List UInt8) : spec_l01Name a0 =
 if (a0 == []) then
  some false
 else
  if decide ((a0.length : Int) > 10) then
   some false
  else
   (a0[0]?).bind fun x1 =>
    (spec_l01Small (x1.toNat : Int)).bind fun x2 =>
     if (!x2) then
      some false
     else
      spec_l01Name_p0 a0 :=
 (mk_f _ _ _ _ _ _ _ 4000).trans (by kernel_rfl)
theorem spec_l01Name_p0_eq  (v0 : List UInt8) : spec_l01Name_p0 v0 =
 spec_l01Name_p1 v0 0 :=
 (goL_dn _ _ _ 4000 _ _).trans (by kernel_rfl)
theorem spec_l01Name_p1_eq  (v0 : List UInt8) (v3 : Int) : spec_l01Name_p1 v0 v3 =
 if decide (v3 < (v0.length : Int)) then
  if decide (0 ≤ v3) then
   (v0[v3.toNat]?).bind fun x1 =>
    (spec_l01Small (x1.toNat : Int)).bind fun x2 =>
     if (!x2) then
      if decide (0 ≤ v3) then
       (v0[v3.toNat]?).bind fun x3 =>
        (spec_l01Digit (x3.toNat : Int)).bind fun x4 =>
         if (!x4) then
          some false
         else
          spec_l01Name_p1 v0 (IntKind.i64.wrap (v3 + 1))
      else
       none
     else
      spec_l01Name_p1 v0 (IntKind.i64.wrap (v3 + 1))
  else
   none
 else
  some true :=
 (goL_dn _ _ _ 4000 _ _).trans (by kernel_rfl)
def spec_l00In_ir : Fn := { np := 3,io := [],res := [.t 6],own := [false],body :=
 (.seq (.reg false [.V 6 (.asg (.c (.bool false)))] [0,1,2] []) (.seq (.reg false [.V 7 (.mv (.t 0)),.V 8 (.mv (.t 1)),.V 9 (.bin .geq (.t 7) (.t 8)),.V 10 (.mv (.t 9)),.G 11 (.mv (.t 0)) 3 true,.G 12 (.mv (.t 2)) 3 true,.G 13 (.bin .leq (.t 11) (.t 12)) 3 true,.V 14 (.pick (.t 10) (.t 13) (.c (.bool false))),.V 6 (.asg (.t 14))] [6] []) .ret)) }
noncomputable def spec_l00In_D : List (Nat × Callee) := []
def spec_l00In_H : List (Nat × ET) := []
noncomputable def spec_l00In_c : Callee := mkCallee spec_l00In_D spec_l00In_H spec_l00In_ir [.d (.one (.int .i64)),.d (.one (.int .i64)),.d (.one (.int .i64))] [.d (.one .bool)] []
noncomputable def spec_l00In (a0 : Int) (a1 : Int) (a2 : Int) : Option (Bool) := spec_l00In_c.f (a0,a1,a2,())
theorem spec_l00In_eq (a0 : Int) (a1 : Int) (a2 : Int) : spec_l00In a0 a1 a2 =
 if decide (a0 ≥ a1) then
  some (decide (a0 ≤ a2))
 else
  some false :=
 (mk_f _ _ _ _ _ _ _ 4000).trans (by kernel_rfl)
def spec_l20Year_ir : Fn := { np := 1,io := [],res := [.t 2],own := [false],body :=
 (.seq (.reg false [.V 2 (.asg (.c (.bool false)))] [0] []) (.seq (.reg false [.V 3 (.mv (.t 0)),.V 4 (.call (.c (.fn 1 [])) [.t 3,.c (.int .i64 1500),.c (.int .i64 2100)]),.V 2 (.asg (.t 4))] [2] []) .ret)) }
noncomputable def spec_l20Year_D : List (Nat × Callee) := [(1,spec_l00In_c)]
def spec_l20Year_H : List (Nat × ET) := []
noncomputable def spec_l20Year_c : Callee := mkCallee spec_l20Year_D spec_l20Year_H spec_l20Year_ir [.d (.one (.int .i64))] [.d (.one .bool)] []
noncomputable def spec_l20Year (a0 : Int) : Option (Bool) := spec_l20Year_c.f (a0,())
theorem spec_l20Year_eq (a0 : Int) : spec_l20Year a0 =
 (spec_l00In a0 1500 2100).bind fun x1 =>
  some x1 :=
 (mk_f _ _ _ _ _ _ _ 4000).trans (by kernel_rfl)
def spec_l20One_ir : Fn := { np := 1,io := [],res := [.t 2],own := [false],body :=
 (.seq (.reg false [.V 2 (.asg (.c (.bool false)))] [0] []) (.seq (.reg true [.V 3 (.mv (.t 0)),.V 4 (.nilck (.t 3)),.V 5 (.fa 0 (.t 4)),.V 6 (.ld none (.t 5)),.V 7 (.call (.c (.fn 13 [])) [.t 6]),.V 8 (.mv (.t 7)),.G 9 (.mv (.t 0)) 5 true,.G 10 (.nilck (.t 9)) 5 true,.G 11 (.fa 1 (.t 10)) 5 true,.G 12 (.ld none (.t 11)) 5 true,.G 13 (.call (.c (.fn 13 [])) [.t 12]) 5 true,.V 14 (.pick (.t 8) (.t 13) (.c (.bool false))),.V 15 (.mv (.t 14)),.G 16 (.mv (.t 0)) 12 true,.G 17 (.nilck (.t 16)) 12 true,.G 18 (.fa 2 (.t 17)) 12 true,.G 19 (.ld none (.t 18)) 12 true,.G 20 (.call (.c (.fn 645 [])) [.t 19]) 12 true,.V 21 (.pick (.t 15) (.t 20) (.c (.bool false))),.V 22 (.mv (.t 21)),.G 23 (.mv (.t 0)) 19 true,.G 24 (.nilck (.t 23)) 19 true,.G 25 (.fa 3 (.t 24)) 19 true,.G 26 (.ld none (.t 25)) 19 true,.G 27 (.call (.c (.fn 645 [])) [.t 26]) 19 true,.V 28 (.pick (.t 22) (.t 27) (.c (.bool false))),.V 29 (.mv (.t 28)),.G 30 (.mv (.t 0)) 26 true,.G 31 (.nilck (.t 30)) 26 true,.G 32 (.fa 2 (.t 31)) 26 true,.G 33 (.ld none (.t 32)) 26 true,.G 34 (.mv (.t 0)) 26 true,.G 35 (.nilck (.t 34)) 26 true,.G 36 (.fa 3 (.t 35)) 26 true,.G 37 (.ld none (.t 36)) 26 true,.G 38 (.bin .leq (.t 33) (.t 37)) 26 true,.V 39 (.pick (.t 29) (.t 38) (.c (.bool false))),.V 40 (.mv (.t 39)),.G 41 (.mv (.t 0)) 37 true,.G 42 (.nilck (.t 41)) 37 true,.G 43 (.fa 4 (.t 42)) 37 true,.G 44 (.ld none (.t 43)) 37 true,.G 45 (.call (.c (.fn 1 [])) [.t 44,.c (.int .i64 1),.c (.int .i64 1000)]) 37 true,.V 46 (.pick (.t 40) (.t 45) (.c (.bool false))),.V 2 (.asg (.t 46))] [2] []) .ret)) }
noncomputable def spec_l20One_D : List (Nat × Callee) := [(1,spec_l00In_c),(13,spec_l01Name_c),(645,spec_l20Year_c)]
def spec_l20One_H : List (Nat × ET) := []
noncomputable def spec_l20One_c : Callee := mkCallee spec_l20One_D spec_l20One_H spec_l20One_ir [.p T_Paper] [.d (.one .bool)] []
noncomputable def spec_l20One (a0 : T_Paper.ty) : Option (Bool) := spec_l20One_c.f (a0,())
theorem spec_l20One_eq (a0 : T_Paper.ty) : spec_l20One a0 =
 (spec_l01Name a0.1).bind fun x1 =>
  if x1 then
   (spec_l01Name a0.2.1).bind fun x2 =>
    if x2 then
     (spec_l20Year a0.2.2.1).bind fun x3 =>
      if x3 then
       (spec_l20Year a0.2.2.2.1).bind fun x4 =>
        if x4 then
         if decide (a0.2.2.1 ≤ a0.2.2.2.1) then
          (spec_l00In a0.2.2.2.2.1 1 1000).bind fun x5 =>
           some x5
         else
          some false
        else
         some false
      else
       some false
    else
     some false
  else
   some false :=
 (mk_f _ _ _ _ _ _ _ 4000).trans (by kernel_rfl)
def spec_l20Ok_k0 : C :=
 .seq (.seq (.reg false [.V 4 (.mv (.t 3)),.V 5 (.mv (.t 0)),.V 6 (.len (.t 5)),.V 7 (.bin .lss (.t 4) (.t 6))] [0,3,7] []) (.cond (.t 7) .skip (.exit 0))) (.seq (.block 1 (.seq (.reg true [.V 10 (.mv (.t 0)),.V 11 (.mv (.t 3)),.V 12 (.ia 5 (.t 10) (.t 11)),.V 13 (.call (.c (.fn 912 [])) [.t 12]),.V 14 (.un .not (.t 13)),.V 15 (.mv (.t 14)),.G 16 (.mv (.t 3)) 5 false,.G 17 (.bin .gtr (.t 16) (.c (.int .i64 0))) 5 false,.G 18 (.mv (.t 17)) 5 false,.G 19 (.mv (.t 0)) 8 true,.G 20 (.mv (.t 3)) 8 true,.G 21 (.bin .sub (.t 20) (.c (.int .i64 1))) 8 true,.G 22 (.ia 5 (.t 19) (.t 21)) 8 true,.G 23 (.fa 0 (.t 22)) 8 true,.G 24 (.ld none (.t 23)) 8 true,.G 25 (.mv (.t 0)) 8 true,.G 26 (.mv (.t 3)) 8 true,.G 27 (.ia 5 (.t 25) (.t 26)) 8 true,.G 28 (.fa 0 (.t 27)) 8 true,.G 29 (.ld none (.t 28)) 8 true,.G 30 (.bin .geq (.t 24) (.t 29)) 8 true,.G 31 (.pick (.t 18) (.t 30) (.c (.bool false))) 5 false,.V 32 (.pick (.t 15) (.c (.bool true)) (.t 31))] [0,3,32] []) (.cond (.t 32) (.seq (.reg false [.V 2 (.asg (.c (.bool false)))] [2] []) .ret) .skip))) (.reg false [.V 8 (.mv (.t 3)),.V 9 (.bin .add (.t 8) (.c (.int .i64 1))),.V 3 (.asg (.t 9))] [0,3] []))
def spec_l20Ok_k1 : C :=
 .norm [0,3] [] spec_l20Ok_k0
def spec_l20Ok_k2 : C :=
 .seq (.reg false [.V 33 (.mv (.t 0)),.V 34 (.len (.t 33)),.V 35 (.bin .leq (.t 34) (.c (.int .i64 12))),.V 2 (.asg (.t 35))] [2] []) .ret
def spec_l20Ok_ir : Fn := { np := 1,io := [],res := [.t 2],own := [false],body :=
 (.seq (.reg false [.V 2 (.asg (.c (.bool false)))] [0] []) (.seq (.seq (.reg false [.V 3 (.asg (.c (.int .i64 0)))] [0,3] []) (.block 0 (.loop spec_l20Ok_k1))) spec_l20Ok_k2)) }
noncomputable def spec_l20Ok_D : List (Nat × Callee) := [(912,spec_l20One_c)]
def spec_l20Ok_H : List (Nat × ET) := [(5,T_Paper),(10,T_Paper),(19,T_Paper),(25,T_Paper),(33,T_Paper)]
noncomputable def spec_l20Ok_c : Callee := mkCallee spec_l20Ok_D spec_l20Ok_H spec_l20Ok_ir [.d (.one (.sl T_Paper))] [.d (.one .bool)] []
noncomputable def spec_l20Ok (a0 : List T_Paper.ty) : Option (Bool) := spec_l20Ok_c.f (a0,())
noncomputable def spec_l20Ok_p0  (v0 : List T_Paper.ty) (v3 : Int) : Option (Bool) :=
 goL spec_l20Ok_D spec_l20Ok_H (vleave spec_l20Ok_ir [.d (.one (.sl T_Paper))] [.d (.one .bool)] [] []) [.c spec_l20Ok_k0,.l spec_l20Ok_k1,.e 0,.c spec_l20Ok_k2]
  ⟨[(0,.sl T_Paper v0),(3,.int .i64 v3)],[]⟩
theorem spec_l20Ok_eq (a0 : List T_Paper.ty) : spec_l20Ok a0 =
 spec_l20Ok_p0 a0 0 :=
 (mk_f _ _ _ _ _ _ _ 4000).trans (by kernel_rfl)
theorem spec_l20Ok_p0_eq  (v0 : List T_Paper.ty) (v3 : Int) : spec_l20Ok_p0 v0 v3 =
 if decide (v3 < (v0.length : Int)) then
  if decide (0 ≤ v3) then
   (v0[v3.toNat]?).bind fun x1 =>
    (spec_l20One x1).bind fun x2 =>
     if (!x2) then
      some false
     else
      if decide (v3 > 0) then
       if decide (0 ≤ IntKind.i64.wrap (v3 - 1)) then
        (v0[(IntKind.i64.wrap (v3 - 1)).toNat]?).bind fun x3 =>
         if decide (0 ≤ v3) then
          (v0[v3.toNat]?).bind fun x4 =>
           if (!Op.bytesLess x3.1 x4.1) then
            some false
           else
            spec_l20Ok_p0 v0 (IntKind.i64.wrap (v3 + 1))
         else
          none
       else
        none
      else
       spec_l20Ok_p0 v0 (IntKind.i64.wrap (v3 + 1))
  else
   none
 else
  some (decide ((v0.length : Int) ≤ 12)) :=
 (goL_dn _ _ _ 4000 _ _).trans (by kernel_rfl)
def spec_l20Clash_ir : Fn := { np := 2,io := [],res := [.t 4],own := [false],body :=
 (.seq (.reg false [.V 4 (.asg (.c (.bool false)))] [0,1] []) (.seq (.reg true [.V 5 (.mv (.t 0)),.V 6 (.nilck (.t 5)),.V 7 (.fa 1 (.t 6)),.V 8 (.ld none (.t 7)),.V 9 (.mv (.t 1)),.V 10 (.nilck (.t 9)),.V 11 (.fa 1 (.t 10)),.V 12 (.ld none (.t 11)),.V 13 (.bin .neq (.t 8) (.t 12)),.V 14 (.mv (.t 13)),.G 15 (.mv (.t 0)) 9 false,.G 16 (.nilck (.t 15)) 9 false,.G 17 (.fa 3 (.t 16)) 9 false,.G 18 (.ld none (.t 17)) 9 false,.G 19 (.mv (.t 1)) 9 false,.G 20 (.nilck (.t 19)) 9 false,.G 21 (.fa 2 (.t 20)) 9 false,.G 22 (.ld none (.t 21)) 9 false,.G 23 (.bin .lss (.t 18) (.t 22)) 9 false,.V 24 (.pick (.t 14) (.c (.bool true)) (.t 23)),.V 25 (.mv (.t 24)),.G 26 (.mv (.t 1)) 20 false,.G 27 (.nilck (.t 26)) 20 false,.G 28 (.fa 3 (.t 27)) 20 false,.G 29 (.ld none (.t 28)) 20 false,.G 30 (.mv (.t 0)) 20 false,.G 31 (.nilck (.t 30)) 20 false,.G 32 (.fa 2 (.t 31)) 20 false,.G 33 (.ld none (.t 32)) 20 false,.G 34 (.bin .lss (.t 29) (.t 33)) 20 false,.V 35 (.pick (.t 25) (.c (.bool true)) (.t 34)),.V 4 (.asg (.t 35))] [4] []) .ret)) }
noncomputable def spec_l20Clash_D : List (Nat × Callee) := []
def spec_l20Clash_H : List (Nat × ET) := []
noncomputable def spec_l20Clash_c : Callee := mkCallee spec_l20Clash_D spec_l20Clash_H spec_l20Clash_ir [.p T_Paper,.p T_Paper] [.d (.one .bool)] []
noncomputable def spec_l20Clash (a0 : T_Paper.ty) (a1 : T_Paper.ty) : Option (Bool) := spec_l20Clash_c.f (a0,a1,())
theorem spec_l20Clash_eq (a0 : T_Paper.ty) (a1 : T_Paper.ty) : spec_l20Clash a0 a1 =
 if (!(a0.2.1 == a1.2.1)) then
  some true
 else
  if decide (a0.2.2.2.1 < a1.2.2.1) then
   some true
  else
   some (decide (a1.2.2.2.1 < a0.2.2.1)) :=
 (mk_f _ _ _ _ _ _ _ 4000).trans (by kernel_rfl)
def spec_ClashPairs_k0 : C :=
 .seq (.seq (.reg false [.V 19 (.mv (.t 6)),.V 20 (.mv (.t 0)),.V 21 (.len (.t 20)),.V 22 (.bin .lss (.t 19) (.t 21))] [0,4,5,6,22] [4]) (.cond (.t 22) .skip (.exit 2))) (.seq (.block 3 (.seq (.reg true [.V 25 (.mv (.t 0)),.V 26 (.mv (.t 5)),.V 27 (.ia 5 (.t 25) (.t 26)),.V 28 (.mv (.t 0)),.V 29 (.mv (.t 6)),.V 30 (.ia 5 (.t 28) (.t 29)),.V 31 (.call (.c (.fn 639 [])) [.t 27,.t 30])] [0,4,5,6,31] [4]) (.cond (.t 31) (.reg false [.V 32 (.mv (.t 4)),.V 33 (.mv (.t 5)),.V 34 (.mv (.t 6)),.V 35 (.bsl 1 (.int .i64 0) 2 [(0,.t 33),(1,.t 34)]),.W 36 (.bsl 1 (.sl 1 []) 1 [(0,.t 35)]),.W 37 (.app 1 24 (.t 32) (.t 36)),.W 4 (.asg (.t 37))] [0,4,5,6] [4]) .skip))) (.reg false [.V 23 (.mv (.t 6)),.V 24 (.bin .add (.t 23) (.c (.int .i64 1))),.V 6 (.asg (.t 24))] [0,4,5,6] [4]))
def spec_ClashPairs_k1 : C :=
 .norm [0,4,5,6] [4] spec_ClashPairs_k0
def spec_ClashPairs_k2 : C :=
 .reg false [.V 15 (.mv (.t 5)),.V 16 (.bin .add (.t 15) (.c (.int .i64 1))),.V 5 (.asg (.t 16))] [0,4,5] [4]
def spec_ClashPairs_k3 : C :=
 .seq (.seq (.reg false [.V 11 (.mv (.t 5)),.V 12 (.mv (.t 0)),.V 13 (.len (.t 12)),.V 14 (.bin .lss (.t 11) (.t 13))] [0,4,5,14] [4]) (.cond (.t 14) .skip (.exit 0))) (.seq (.block 1 (.seq (.reg false [.V 17 (.mv (.t 5)),.V 18 (.bin .add (.t 17) (.c (.int .i64 1))),.V 6 (.asg (.t 18))] [0,4,5,6] [4]) (.block 2 (.loop spec_ClashPairs_k1)))) spec_ClashPairs_k2)
def spec_ClashPairs_k4 : C :=
 .norm [0,4,5] [4] spec_ClashPairs_k3
def spec_ClashPairs_k5 : C :=
 .seq (.seq (.reg false [.V 38 (.mv (.t 4)),.V 39 (.len (.t 38)),.V 40 (.bin .gtr (.t 39) (.c (.int .i64 24)))] [4,40] [4]) (.cond (.t 40) (.seq (.reg false [.W 2 (.asg (.c (.nils 1))),.V 3 (.asg (.c (.int .i64 5)))] [2,3] [2,4]) .ret) .skip)) (.seq (.reg false [.V 41 (.mv (.t 4)),.W 2 (.asg (.t 41)),.V 3 (.asg (.c (.int .i64 0)))] [2,3] [2,4]) .ret)
def spec_ClashPairs_ir : Fn := { np := 1,io := [],res := [.t 2,.t 3],own := [false,false],body :=
 (.seq (.reg false [.W 2 (.asg (.c (.nils 1))),.V 3 (.asg (.c (.int .i64 0)))] [0] []) (.seq (.seq (.reg false [.V 7 (.mv (.t 0)),.V 8 (.call (.c (.fn 640 [])) [.t 7]),.V 9 (.un .not (.t 8))] [0,9] []) (.cond (.t 9) (.seq (.reg false [.W 2 (.asg (.c (.nils 1))),.V 3 (.asg (.c (.int .i64 1)))] [2,3] [2,4]) .ret) .skip)) (.seq (.reg false [.V 10 (.bsl 1 (.sl 1 []) 0 []),.W 4 (.asg (.t 10))] [0,4] [4]) (.seq (.seq (.reg false [.V 5 (.asg (.c (.int .i64 0)))] [0,4,5] [4]) (.block 0 (.loop spec_ClashPairs_k4))) spec_ClashPairs_k5)))) }
noncomputable def spec_ClashPairs_D : List (Nat × Callee) := [(639,spec_l20Clash_c),(640,spec_l20Ok_c)]
def spec_ClashPairs_H : List (Nat × ET) := [(2,(.one (.sl (.one (.int .i64))))),(4,(.one (.sl (.one (.int .i64))))),(7,T_Paper),(10,(.one (.sl (.one (.int .i64))))),(12,T_Paper),(20,T_Paper),(25,T_Paper),(28,T_Paper),(32,(.one (.sl (.one (.int .i64))))),(35,(.one (.int .i64))),(36,(.one (.sl (.one (.int .i64))))),(37,(.one (.sl (.one (.int .i64))))),(38,(.one (.sl (.one (.int .i64))))),(41,(.one (.sl (.one (.int .i64)))))]
noncomputable def spec_ClashPairs_c : Callee := mkCallee spec_ClashPairs_D spec_ClashPairs_H spec_ClashPairs_ir [.d (.one (.sl T_Paper))] [.d (.one (.sl (.one (.sl (.one (.int .i64)))))),.d (.one (.int .i64))] []
noncomputable def spec_ClashPairs (a0 : List T_Paper.ty) : Option (List (List Int) × Int) := spec_ClashPairs_c.f (a0,())
noncomputable def spec_ClashPairs_p0  (v0 : List T_Paper.ty) (v5 : Int) (r4 : List (List Int)) : Option (List (List Int) × Int) :=
 goL spec_ClashPairs_D spec_ClashPairs_H (vleave spec_ClashPairs_ir [.d (.one (.sl T_Paper))] [.d (.one (.sl (.one (.sl (.one (.int .i64)))))),.d (.one (.int .i64))] [] []) [.c spec_ClashPairs_k3,.l spec_ClashPairs_k4,.e 0,.c spec_ClashPairs_k5]
  ⟨[(0,.sl T_Paper v0),(4,.view 4 0 r4.length),(5,.int .i64 v5)],[(4,some (.sl (.one (.sl (.one (.int .i64)))) r4))]⟩
noncomputable def spec_ClashPairs_p1  (v0 : List T_Paper.ty) (v5 : Int) (v6 : Int) (r4 : List (List Int)) : Option (List (List Int) × Int) :=
 goL spec_ClashPairs_D spec_ClashPairs_H (vleave spec_ClashPairs_ir [.d (.one (.sl T_Paper))] [.d (.one (.sl (.one (.sl (.one (.int .i64)))))),.d (.one (.int .i64))] [] []) [.c spec_ClashPairs_k0,.l spec_ClashPairs_k1,.e 2,.e 1,.c spec_ClashPairs_k2,.l spec_ClashPairs_k4,.e 0,.c spec_ClashPairs_k5]
  ⟨[(0,.sl T_Paper v0),(4,.view 4 0 r4.length),(5,.int .i64 v5),(6,.int .i64 v6)],[(4,some (.sl (.one (.sl (.one (.int .i64)))) r4))]⟩
theorem spec_ClashPairs_eq (a0 : List T_Paper.ty) : spec_ClashPairs a0 =
 (spec_l20Ok a0).bind fun x1 =>
  if (!x1) then
   some ([],1)
  else
   spec_ClashPairs_p0 a0 0 [] :=
 (mk_f _ _ _ _ _ _ _ 4000).trans (by kernel_rfl)
theorem spec_ClashPairs_p0_eq  (v0 : List T_Paper.ty) (v5 : Int) (r4 : List (List Int)) : spec_ClashPairs_p0 v0 v5 r4 =
 if decide (v5 < (v0.length : Int)) then
  spec_ClashPairs_p1 v0 v5 (IntKind.i64.wrap (v5 + 1)) r4
 else
  if decide ((r4.length : Int) > 24) then
   some ([],5)
  else
   some ((r4.take r4.length),0) :=
 (goL_dn _ _ _ 4000 _ _).trans (by kernel_rfl)
theorem spec_ClashPairs_p1_eq  (v0 : List T_Paper.ty) (v5 : Int) (v6 : Int) (r4 : List (List Int)) : spec_ClashPairs_p1 v0 v5 v6 r4 =
 if decide (v6 < (v0.length : Int)) then
  if decide (0 ≤ v5) then
   (v0[v5.toNat]?).bind fun x1 =>
    if decide (0 ≤ v6) then
     (v0[v6.toNat]?).bind fun x2 =>
      (spec_l20Clash x1 x2).bind fun x3 =>
       if x3 then
        if decide (r4.length + 1 < lim) then
         spec_ClashPairs_p1 v0 v5 (IntKind.i64.wrap (v6 + 1)) ((r4.take r4.length) ++ [[v5,v6]])
        else
         none
       else
        spec_ClashPairs_p1 v0 v5 (IntKind.i64.wrap (v6 + 1)) r4
    else
     none
  else
   none
 else
  spec_ClashPairs_p0 v0 (IntKind.i64.wrap (v5 + 1)) r4 :=
 (goL_dn _ _ _ 4000 _ _).trans (by kernel_rfl)
def spec_ValidPapers_ir : Fn := { np := 1,io := [],res := [.t 2],own := [false],body :=
 (.seq (.reg false [.V 2 (.asg (.c (.bool false)))] [0] []) (.seq (.reg false [.V 3 (.mv (.t 0)),.V 4 (.call (.c (.fn 640 [])) [.t 3]),.V 2 (.asg (.t 4))] [2] []) .ret)) }
noncomputable def spec_ValidPapers_D : List (Nat × Callee) := [(640,spec_l20Ok_c)]
def spec_ValidPapers_H : List (Nat × ET) := [(3,T_Paper)]
noncomputable def spec_ValidPapers_c : Callee := mkCallee spec_ValidPapers_D spec_ValidPapers_H spec_ValidPapers_ir [.d (.one (.sl T_Paper))] [.d (.one .bool)] []
noncomputable def spec_ValidPapers (a0 : List T_Paper.ty) : Option (Bool) := spec_ValidPapers_c.f (a0,())
theorem spec_ValidPapers_eq (a0 : List T_Paper.ty) : spec_ValidPapers a0 =
 (spec_l20Ok a0).bind fun x1 =>
  some x1 :=
 (mk_f _ _ _ _ _ _ _ 4000).trans (by kernel_rfl)
def impl_ClashPairs_k0 : C :=
 .seq (.seq (.reg false [.V 21 (.mv (.t 7)),.V 22 (.mv (.t 0)),.V 23 (.len (.t 22)),.V 24 (.bin .lss (.t 21) (.t 23))] [0,4,5,6,7,12,13,14,24] [4,6]) (.cond (.t 24) .skip (.exit 2))) (.seq (.block 3 (.seq (.reg true [.V 27 (.ld (some 5) (.t 6)),.V 28 (.mv (.t 0)),.V 29 (.mv (.t 7)),.V 30 (.ia 5 (.t 28) (.t 29)),.V 31 (.ld (some 5) (.t 30)),.V 32 (.call (.c (.fn 641 [])) [.t 27,.t 31])] [0,4,5,6,7,12,13,14,32] [4,6]) (.cond (.t 32) (.reg false [.V 33 (.mv (.t 4)),.V 34 (.mv (.t 5)),.V 35 (.mv (.t 7)),.V 36 (.bsl 1 (.int .i64 0) 2 [(0,.t 34),(1,.t 35)]),.W 37 (.bsl 1 (.sl 1 []) 1 [(0,.t 36)]),.W 38 (.app 1 24 (.t 33) (.t 37)),.W 4 (.asg (.t 38))] [0,4,5,6,7,12,13,14] [4,6]) .skip))) (.reg false [.V 25 (.mv (.t 7)),.V 26 (.bin .add (.t 25) (.c (.int .i64 1))),.V 7 (.asg (.t 26))] [0,4,5,6,7,12,13,14] [4,6]))
def impl_ClashPairs_k1 : C :=
 .norm [0,4,5,6,7,12,13,14] [4,6] impl_ClashPairs_k0
def impl_ClashPairs_k2 : C :=
 .reg false [.V 39 (.bin .add (.t 14) (.c (.int .i64 1))),.V 14 (.mv (.t 39))] [0,4,12,13,14] [4]
def impl_ClashPairs_k3 : C :=
 .seq (.reg false [.V 15 (.bin .lss (.t 14) (.t 13))] [0,4,12,13,14,15] [4]) (.seq (.cond (.t 15) .skip (.exit 0)) (.seq (.block 1 (.seq (.reg false [.V 16 (.mv (.t 14)),.V 17 (.ia 5 (.t 12) (.t 14)),.V 18 (.ld (some 5) (.t 17)),.W 6 (.alloc 5 (.agg [.str [],.str [],.int .i64 0,.int .i64 0,.int .i64 0])),.V 5 (.asg (.t 16)),⟨none,true,.sto 5 (.t 6) (.t 18),none,false,[]⟩] [0,4,5,6,12,13,14] [4,6]) (.seq (.reg false [.V 19 (.mv (.t 5)),.V 20 (.bin .add (.t 19) (.c (.int .i64 1))),.V 7 (.asg (.t 20))] [0,4,5,6,7,12,13,14] [4,6]) (.block 2 (.loop impl_ClashPairs_k1))))) impl_ClashPairs_k2))
def impl_ClashPairs_k4 : C :=
 .norm [0,4,12,13,14] [4] impl_ClashPairs_k3
def impl_ClashPairs_k5 : C :=
 .seq (.seq (.reg false [.V 40 (.mv (.t 4)),.V 41 (.len (.t 40)),.V 42 (.call (.c (.fn 21 [])) [.t 41,.c (.int .i64 24)]),.V 43 (.un .not (.t 42))] [4,43] [4]) (.cond (.t 43) (.seq (.reg false [.W 2 (.asg (.c (.nils 1))),.V 3 (.asg (.c (.int .i64 5)))] [2,3] [2,4]) .ret) .skip)) (.seq (.reg false [.V 44 (.mv (.t 4)),.W 2 (.asg (.t 44)),.V 3 (.asg (.c (.int .i64 0)))] [2,3] [2,4]) .ret)
def impl_ClashPairs_ir : Fn := { np := 1,io := [],res := [.t 2,.t 3],own := [false,false],body :=
 (.seq (.reg false [.W 2 (.asg (.c (.nils 1))),.V 3 (.asg (.c (.int .i64 0)))] [0] []) (.seq (.seq (.reg false [.V 8 (.mv (.t 0)),.V 9 (.call (.c (.fn 635 [])) [.t 8]),.V 10 (.un .not (.t 9))] [0,10] []) (.cond (.t 10) (.seq (.reg false [.W 2 (.asg (.c (.nils 1))),.V 3 (.asg (.c (.int .i64 1)))] [2,3] [2,4]) .ret) .skip)) (.seq (.reg false [.V 11 (.bsl 1 (.sl 1 []) 0 []),.W 4 (.asg (.t 11))] [0,4] [4]) (.seq (.seq (.reg false [.V 12 (.mv (.t 0)),.V 13 (.len (.t 12)),.V 14 (.mv (.c (.int .i64 0)))] [0,4,12,13,14] [4]) (.block 0 (.loop impl_ClashPairs_k4))) impl_ClashPairs_k5)))) }
noncomputable def impl_ClashPairs_D : List (Nat × Callee) := [(21,impl_few_c),(635,impl_ValidPapers_c),(641,impl_clash_c)]
def impl_ClashPairs_H : List (Nat × ET) := [(2,(.one (.sl (.one (.int .i64))))),(4,(.one (.sl (.one (.int .i64))))),(8,T_Paper),(11,(.one (.sl (.one (.int .i64))))),(12,T_Paper),(22,T_Paper),(28,T_Paper),(33,(.one (.sl (.one (.int .i64))))),(36,(.one (.int .i64))),(37,(.one (.sl (.one (.int .i64))))),(38,(.one (.sl (.one (.int .i64))))),(40,(.one (.sl (.one (.int .i64))))),(44,(.one (.sl (.one (.int .i64)))))]
noncomputable def impl_ClashPairs_c : Callee := mkCallee impl_ClashPairs_D impl_ClashPairs_H impl_ClashPairs_ir [.d (.one (.sl T_Paper))] [.d (.one (.sl (.one (.sl (.one (.int .i64)))))),.d (.one (.int .i64))] []
noncomputable def impl_ClashPairs (a0 : List T_Paper.ty) : Option (List (List Int) × Int) := impl_ClashPairs_c.f (a0,())
noncomputable def impl_ClashPairs_p0  (v0 : List T_Paper.ty) (v12 : List T_Paper.ty) (v13 : Int) (v14 : Int) (r4 : List (List Int)) : Option (List (List Int) × Int) :=
 goL impl_ClashPairs_D impl_ClashPairs_H (vleave impl_ClashPairs_ir [.d (.one (.sl T_Paper))] [.d (.one (.sl (.one (.sl (.one (.int .i64)))))),.d (.one (.int .i64))] [] []) [.c impl_ClashPairs_k3,.l impl_ClashPairs_k4,.e 0,.c impl_ClashPairs_k5]
  ⟨[(0,.sl T_Paper v0),(4,.view 4 0 r4.length),(12,.sl T_Paper v12),(13,.int .i64 v13),(14,.int .i64 v14)],[(4,some (.sl (.one (.sl (.one (.int .i64)))) r4))]⟩
noncomputable def impl_ClashPairs_p1  (v0 : List T_Paper.ty) (v5 : Int) (v7 : Int) (v12 : List T_Paper.ty) (v13 : Int) (v14 : Int) (r4 : List (List Int)) (r6_0 : List UInt8) (r6_1 : List UInt8) (r6_2 : Int) (r6_3 : Int) (r6_4 : Int) : Option (List (List Int) × Int) :=
 goL impl_ClashPairs_D impl_ClashPairs_H (vleave impl_ClashPairs_ir [.d (.one (.sl T_Paper))] [.d (.one (.sl (.one (.sl (.one (.int .i64)))))),.d (.one (.int .i64))] [] []) [.c impl_ClashPairs_k0,.l impl_ClashPairs_k1,.e 2,.e 1,.c impl_ClashPairs_k2,.l impl_ClashPairs_k4,.e 0,.c impl_ClashPairs_k5]
  ⟨[(0,.sl T_Paper v0),(4,.view 4 0 r4.length),(5,.int .i64 v5),(6,.loc 6 0 0),(7,.int .i64 v7),(12,.sl T_Paper v12),(13,.int .i64 v13),(14,.int .i64 v14)],[(4,some (.sl (.one (.sl (.one (.int .i64)))) r4)),(6,some (.var 5 (.agg [.str r6_0,.str r6_1,.int .i64 r6_2,.int .i64 r6_3,.int .i64 r6_4])))]⟩
theorem impl_ClashPairs_eq (a0 : List T_Paper.ty) : impl_ClashPairs a0 =
 (impl_ValidPapers a0).bind fun x1 =>
  if (!x1) then
   some ([],1)
  else
   impl_ClashPairs_p0 a0 a0 (a0.length : Int) 0 [] :=
 (mk_f _ _ _ _ _ _ _ 4000).trans (by kernel_rfl)
theorem impl_ClashPairs_p0_eq  (v0 : List T_Paper.ty) (v12 : List T_Paper.ty) (v13 : Int) (v14 : Int) (r4 : List (List Int)) : impl_ClashPairs_p0 v0 v12 v13 v14 r4 =
 if decide (v14 < v13) then
  if decide (0 ≤ v14) then
   (v12[v14.toNat]?).bind fun x1 =>
    impl_ClashPairs_p1 v0 v14 (IntKind.i64.wrap (v14 + 1)) v12 v13 v14 r4 x1.1 x1.2.1 x1.2.2.1 x1.2.2.2.1 x1.2.2.2.2.1
  else
   none
 else
  (impl_few (r4.length : Int) 24).bind fun x2 =>
   if (!x2) then
    some ([],5)
   else
    some ((r4.take r4.length),0) :=
 (goL_dn _ _ _ 4000 _ _).trans (by kernel_rfl)
theorem impl_ClashPairs_p1_eq  (v0 : List T_Paper.ty) (v5 : Int) (v7 : Int) (v12 : List T_Paper.ty) (v13 : Int) (v14 : Int) (r4 : List (List Int)) (r6_0 : List UInt8) (r6_1 : List UInt8) (r6_2 : Int) (r6_3 : Int) (r6_4 : Int) : impl_ClashPairs_p1 v0 v5 v7 v12 v13 v14 r4 r6_0 r6_1 r6_2 r6_3 r6_4 =
 if decide (v7 < (v0.length : Int)) then
  if decide (0 ≤ v7) then
   (v0[v7.toNat]?).bind fun x1 =>
    (impl_clash (r6_0,r6_1,r6_2,r6_3,r6_4,()) x1).bind fun x2 =>
     if x2 then
      if decide (r4.length + 1 < lim) then
       impl_ClashPairs_p1 v0 v5 (IntKind.i64.wrap (v7 + 1)) v12 v13 v14 ((r4.take r4.length) ++ [[v5,v7]]) r6_0 r6_1 r6_2 r6_3 r6_4
      else
       none
     else
      impl_ClashPairs_p1 v0 v5 (IntKind.i64.wrap (v7 + 1)) v12 v13 v14 r4 r6_0 r6_1 r6_2 r6_3 r6_4
  else
   none
 else
  impl_ClashPairs_p0 v0 v12 v13 (IntKind.i64.wrap (v14 + 1)) r4 :=
 (goL_dn _ _ _ 4000 _ _).trans (by kernel_rfl)
def spec_DrawYearTrust_ir : Fn := { np := 1,io := [],res := [.t 2,.t 3],own := [true,false],body :=
 (.seq (.reg false [.W 2 (.asg (.c (.nils 5))),.V 3 (.asg (.c (.int .i64 0)))] [0] []) (.seq (.reg false [.V 6 (.mv (.t 0)),.W 7 (.call (.c (.fn 441 [])) [.t 6]),.V 4 (.asg (.t 7))] [4] [7,8000]) (.seq (.reg false [.V 8 (.mv (.t 4)),.W 9 (.call (.c (.fn 633 [])) [.t 8]),.W 5 (.asg (.t 9))] [4,5] [5,7,8000]) (.seq (.seq (.reg false [.V 10 (.mv (.t 4)),.W 11 (.call (.c (.fn 642 [])) [.t 10,.c (.int .i64 8)])] [4,5,11] [5,7,8000]) (.cond (.t 11) (.seq (.reg false [.V 12 (.mv (.t 5)),.V 13 (.mv (.t 4)),.V 14 (.bsl 1 (.int .i64 0) 4 [(0,.c (.int .i64 1499)),(1,.c (.int .i64 1500)),(2,.c (.int .i64 2100)),(3,.c (.int .i64 2101))]),.W 15 (.call (.c (.fn 445 [])) [.t 13,.t 14]),.W 2 (.asg (.t 12)),.V 3 (.asg (.t 15))] [2,3] [2,5]) .ret) .skip)) (.seq (.reg false [.V 16 (.mv (.t 5)),.V 17 (.mv (.t 4)),.W 18 (.call (.c (.fn 463 [])) [.t 17,.c (.int .i64 100)]),.V 19 (.bin .add (.c (.int .i64 1675)) (.t 18)),.W 2 (.asg (.t 16)),.V 3 (.asg (.t 19))] [2,3] [2,5]) .ret))))) }
noncomputable def spec_DrawYearTrust_D : List (Nat × Callee) := [(441,spec_l00From_c),(445,spec_l00Src_among_c),(463,spec_l00Src_pick_c),(633,spec_l20Draw_c),(642,spec_l00Src_one_c)]
def spec_DrawYearTrust_H : List (Nat × ET) := [(2,T_Paper),(5,T_Paper),(6,(.one (.int .u8))),(9,T_Paper),(12,T_Paper),(14,(.one (.int .i64))),(16,T_Paper)]
noncomputable def spec_DrawYearTrust_c : Callee := mkCallee spec_DrawYearTrust_D spec_DrawYearTrust_H spec_DrawYearTrust_ir [.d (.one (.sl (.one (.int .u8))))] [.tok T_Paper,.d (.one (.int .i64))] []
noncomputable def spec_DrawYearTrust (a0 : List Int) : Option (List T_Paper.ty × Int) := spec_DrawYearTrust_c.f (a0,())
theorem spec_DrawYearTrust_eq (a0 : List Int) : spec_DrawYearTrust a0 =
 (spec_l00From a0).bind fun x1 =>
  (spec_l20Draw x1).bind fun x2 =>
   (spec_l00Src_one (x2.2.1,x2.2.2.1,x2.2.2.2.1,()) 8).bind fun x3 =>
    if x3.1 then
     (spec_l00Src_among (x3.2.1,x3.2.2.1,x3.2.2.2.1,()) [1499,1500,2100,2101]).bind fun x4 =>
      some ((x2.1.take x2.1.length),x4.1)
    else
     (spec_l00Src_pick (x3.2.1,x3.2.2.1,x3.2.2.2.1,()) 100).bind fun x5 =>
      some ((x2.1.take x2.1.length),IntKind.i64.wrap (1675 + x5.1)) :=
 (mk_f _ _ _ _ _ _ _ 4000).trans (by kernel_rfl)
def impl_yearTrust_k0 : C :=
 .seq (.reg false [.V 11 (.bin .lss (.t 10) (.t 9))] [1,5,8,9,10,11] []) (.seq (.cond (.t 11) .skip (.exit 0)) (.seq (.block 1 (.seq (.reg false [.V 12 (.ia 5 (.t 8) (.t 10)),.V 13 (.ld (some 5) (.t 12)),.W 7 (.alloc 5 (.agg [.str [],.str [],.int .i64 0,.int .i64 0,.int .i64 0])),⟨none,true,.sto 5 (.t 7) (.t 13),none,false,[]⟩] [1,5,7,8,9,10] [7]) (.seq (.reg false [.V 14 (.mv (.t 1)),.V 15 (.fa 2 (.t 7)),.V 16 (.ld none (.t 15)),.V 17 (.fa 3 (.t 7)),.V 18 (.ld none (.t 17)),.V 19 (.call (.c (.fn 23 [])) [.t 14,.t 16,.t 18])] [1,5,7,8,9,10,19] [7]) (.cond (.t 19) (.reg false [.V 20 (.mv (.t 5)),.V 21 (.fa 4 (.t 7)),.V 22 (.ld none (.t 21)),.V 23 (.bin .add (.t 20) (.t 22)),.V 5 (.asg (.t 23))] [1,5,8,9,10] []) .skip)))) (.reg false [.V 24 (.bin .add (.t 10) (.c (.int .i64 1))),.V 10 (.mv (.t 24))] [1,5,8,9,10] [])))
def impl_yearTrust_k1 : C :=
 .norm [1,5,8,9,10] [] impl_yearTrust_k0
def impl_yearTrust_k2 : C :=
 .seq (.reg false [.V 25 (.mv (.t 5)),.V 4 (.asg (.t 25))] [4] []) .ret
def impl_yearTrust_ir : Fn := { np := 2,io := [],res := [.t 4],own := [false],body :=
 (.seq (.reg false [.V 4 (.asg (.c (.int .i64 0)))] [0,1] []) (.seq (.reg false [.V 5 (.asg (.c (.int .i64 0)))] [0,1,5] []) (.seq (.seq (.reg false [.V 8 (.mv (.t 0)),.V 9 (.len (.t 8)),.V 10 (.mv (.c (.int .i64 0)))] [1,5,8,9,10] []) (.block 0 (.loop impl_yearTrust_k1))) impl_yearTrust_k2))) }
noncomputable def impl_yearTrust_D : List (Nat × Callee) := [(23,impl_within_c)]
def impl_yearTrust_H : List (Nat × ET) := [(8,T_Paper)]
noncomputable def impl_yearTrust_c : Callee := mkCallee impl_yearTrust_D impl_yearTrust_H impl_yearTrust_ir [.d (.one (.sl T_Paper)),.d (.one (.int .i64))] [.d (.one (.int .i64))] []
noncomputable def impl_yearTrust (a0 : List T_Paper.ty) (a1 : Int) : Option (Int) := impl_yearTrust_c.f (a0,a1,())
noncomputable def impl_yearTrust_p0  (v1 : Int) (v5 : Int) (v8 : List T_Paper.ty) (v9 : Int) (v10 : Int) : Option (Int) :=
 goL impl_yearTrust_D impl_yearTrust_H (vleave impl_yearTrust_ir [.d (.one (.sl T_Paper)),.d (.one (.int .i64))] [.d (.one (.int .i64))] [] []) [.c impl_yearTrust_k0,.l impl_yearTrust_k1,.e 0,.c impl_yearTrust_k2]
  ⟨[(1,.int .i64 v1),(5,.int .i64 v5),(8,.sl T_Paper v8),(9,.int .i64 v9),(10,.int .i64 v10)],[]⟩
theorem impl_yearTrust_eq (a0 : List T_Paper.ty) (a1 : Int) : impl_yearTrust a0 a1 =
 impl_yearTrust_p0 a1 0 a0 (a0.length : Int) 0 :=
 (mk_f _ _ _ _ _ _ _ 4000).trans (by kernel_rfl)
theorem impl_yearTrust_p0_eq  (v1 : Int) (v5 : Int) (v8 : List T_Paper.ty) (v9 : Int) (v10 : Int) : impl_yearTrust_p0 v1 v5 v8 v9 v10 =
 if decide (v10 < v9) then
  if decide (0 ≤ v10) then
   (v8[v10.toNat]?).bind fun x1 =>
    (impl_within v1 x1.2.2.1 x1.2.2.2.1).bind fun x2 =>
     if x2 then
      impl_yearTrust_p0 v1 (IntKind.i64.wrap (v5 + x1.2.2.2.2.1)) v8 v9 (IntKind.i64.wrap (v10 + 1))
     else
      impl_yearTrust_p0 v1 v5 v8 v9 (IntKind.i64.wrap (v10 + 1))
  else
   none
 else
  some v5 :=
 (goL_dn _ _ _ 4000 _ _).trans (by kernel_rfl)
def impl_YearTrust_ir : Fn := { np := 2,io := [],res := [.t 4,.t 5],own := [false,false],body :=
 (.seq (.reg false [.V 4 (.asg (.c (.int .i64 0))),.V 5 (.asg (.c (.int .i64 0)))] [0,1] []) (.seq (.seq (.reg false [.V 6 (.mv (.t 0)),.V 7 (.call (.c (.fn 635 [])) [.t 6]),.V 8 (.un .not (.t 7))] [0,1,8] []) (.cond (.t 8) (.seq (.reg false [.V 4 (.asg (.c (.int .i64 0))),.V 5 (.asg (.c (.int .i64 1)))] [4,5] []) .ret) .skip)) (.seq (.seq (.reg false [.V 9 (.mv (.t 1)),.V 10 (.call (.c (.fn 23 [])) [.t 9,.c (.int .i64 1500),.c (.int .i64 2100)]),.V 11 (.un .not (.t 10))] [0,1,11] []) (.cond (.t 11) (.seq (.reg false [.V 4 (.asg (.c (.int .i64 0))),.V 5 (.asg (.c (.int .i64 2)))] [4,5] []) .ret) .skip)) (.seq (.reg false [.V 12 (.mv (.t 0)),.V 13 (.mv (.t 1)),.V 14 (.call (.c (.fn 643 [])) [.t 12,.t 13]),.V 4 (.asg (.t 14)),.V 5 (.asg (.c (.int .i64 0)))] [4,5] []) .ret)))) }
noncomputable def impl_YearTrust_D : List (Nat × Callee) := [(23,impl_within_c),(635,impl_ValidPapers_c),(643,impl_yearTrust_c)]
def impl_YearTrust_H : List (Nat × ET) := [(6,T_Paper),(12,T_Paper)]
noncomputable def impl_YearTrust_c : Callee := mkCallee impl_YearTrust_D impl_YearTrust_H impl_YearTrust_ir [.d (.one (.sl T_Paper)),.d (.one (.int .i64))] [.d (.one (.int .i64)),.d (.one (.int .i64))] []
noncomputable def impl_YearTrust (a0 : List T_Paper.ty) (a1 : Int) : Option (Int × Int) := impl_YearTrust_c.f (a0,a1,())
theorem impl_YearTrust_eq (a0 : List T_Paper.ty) (a1 : Int) : impl_YearTrust a0 a1 =
 (impl_ValidPapers a0).bind fun x1 =>
  if (!x1) then
   some (0,1)
  else
   (impl_within a1 1500 2100).bind fun x2 =>
    if (!x2) then
     some (0,2)
    else
     (impl_yearTrust a0 a1).bind fun x3 =>
      some (x3,0) :=
 (mk_f _ _ _ _ _ _ _ 4000).trans (by kernel_rfl)
def impl_BestYear_k0 : C :=
 .seq (.seq (.reg false [.V 14 (.mv (.t 6)),.V 15 (.bin .leq (.t 14) (.c (.int .i64 2100)))] [0,5,6,15] []) (.cond (.t 15) .skip (.exit 0))) (.seq (.block 1 (.seq (.reg false [.V 18 (.mv (.t 0)),.V 19 (.mv (.t 6)),.V 20 (.call (.c (.fn 643 [])) [.t 18,.t 19]),.V 21 (.mv (.t 0)),.V 22 (.mv (.t 5)),.V 23 (.call (.c (.fn 643 [])) [.t 21,.t 22]),.V 24 (.bin .gtr (.t 20) (.t 23))] [0,5,6,24] []) (.cond (.t 24) (.reg false [.V 25 (.mv (.t 6)),.V 5 (.asg (.t 25))] [0,5,6] []) .skip))) (.reg false [.V 16 (.mv (.t 6)),.V 17 (.bin .add (.t 16) (.c (.int .i64 1))),.V 6 (.asg (.t 17))] [0,5,6] []))
def impl_BestYear_k1 : C :=
 .norm [0,5,6] [] impl_BestYear_k0
def impl_BestYear_k2 : C :=
 .seq (.reg false [.V 26 (.mv (.t 5)),.V 27 (.mv (.t 0)),.V 28 (.mv (.t 5)),.V 29 (.call (.c (.fn 643 [])) [.t 27,.t 28]),.V 2 (.asg (.t 26)),.V 3 (.asg (.t 29)),.V 4 (.asg (.c (.int .i64 0)))] [2,3,4] []) .ret
def impl_BestYear_ir : Fn := { np := 1,io := [],res := [.t 2,.t 3,.t 4],own := [false,false,false],body :=
 (.seq (.reg false [.V 2 (.asg (.c (.int .i64 0))),.V 3 (.asg (.c (.int .i64 0))),.V 4 (.asg (.c (.int .i64 0)))] [0] []) (.seq (.seq (.reg false [.V 7 (.mv (.t 0)),.V 8 (.call (.c (.fn 635 [])) [.t 7]),.V 9 (.un .not (.t 8))] [0,9] []) (.cond (.t 9) (.seq (.reg false [.V 2 (.asg (.c (.int .i64 0))),.V 3 (.asg (.c (.int .i64 0))),.V 4 (.asg (.c (.int .i64 1)))] [2,3,4] []) .ret) .skip)) (.seq (.seq (.reg false [.V 10 (.mv (.t 0)),.V 11 (.len (.t 10)),.V 12 (.bin .eql (.t 11) (.c (.int .i64 0)))] [0,12] []) (.cond (.t 12) (.seq (.reg false [.V 2 (.asg (.c (.int .i64 0))),.V 3 (.asg (.c (.int .i64 0))),.V 4 (.asg (.c (.int .i64 3)))] [2,3,4] []) .ret) .skip)) (.seq (.reg false [.V 5 (.asg (.c (.int .i64 1500)))] [0,5] []) (.seq (.seq (.reg false [.V 13 (.mv (.t 5)),.V 6 (.asg (.t 13))] [0,5,6] []) (.block 0 (.loop impl_BestYear_k1))) impl_BestYear_k2))))) }
noncomputable def impl_BestYear_D : List (Nat × Callee) := [(635,impl_ValidPapers_c),(643,impl_yearTrust_c)]
def impl_BestYear_H : List (Nat × ET) := [(7,T_Paper),(10,T_Paper),(18,T_Paper),(21,T_Paper),(27,T_Paper)]
noncomputable def impl_BestYear_c : Callee := mkCallee impl_BestYear_D impl_BestYear_H impl_BestYear_ir [.d (.one (.sl T_Paper))] [.d (.one (.int .i64)),.d (.one (.int .i64)),.d (.one (.int .i64))] []
noncomputable def impl_BestYear (a0 : List T_Paper.ty) : Option (Int × Int × Int) := impl_BestYear_c.f (a0,())
noncomputable def impl_BestYear_p0  (v0 : List T_Paper.ty) (v5 : Int) (v6 : Int) : Option (Int × Int × Int) :=
 goL impl_BestYear_D impl_BestYear_H (vleave impl_BestYear_ir [.d (.one (.sl T_Paper))] [.d (.one (.int .i64)),.d (.one (.int .i64)),.d (.one (.int .i64))] [] []) [.c impl_BestYear_k0,.l impl_BestYear_k1,.e 0,.c impl_BestYear_k2]
  ⟨[(0,.sl T_Paper v0),(5,.int .i64 v5),(6,.int .i64 v6)],[]⟩
theorem impl_BestYear_eq (a0 : List T_Paper.ty) : impl_BestYear a0 =
 (impl_ValidPapers a0).bind fun x1 =>
  if (!x1) then
   some (0,0,1)
  else
   if ((a0.length : Int) == 0) then
    some (0,0,3)
   else
    impl_BestYear_p0 a0 1500 1500 :=
 (mk_f _ _ _ _ _ _ _ 4000).trans (by kernel_rfl)
theorem impl_BestYear_p0_eq  (v0 : List T_Paper.ty) (v5 : Int) (v6 : Int) : impl_BestYear_p0 v0 v5 v6 =
 if decide (v6 ≤ 2100) then
  (impl_yearTrust v0 v6).bind fun x1 =>
   (impl_yearTrust v0 v5).bind fun x2 =>
    if decide (x1 > x2) then
     impl_BestYear_p0 v0 v6 (IntKind.i64.wrap (v6 + 1))
    else
     impl_BestYear_p0 v0 v5 (IntKind.i64.wrap (v6 + 1))
 else
  (impl_yearTrust v0 v5).bind fun x3 =>
   some (v5,x3,0) :=
 (goL_dn _ _ _ 4000 _ _).trans (by kernel_rfl)
def spec_l20Trust_k0 : C :=
 .reg false [.V 29 (.mv (.t 5)),.V 30 (.mv (.t 0)),.V 31 (.mv (.t 6)),.V 32 (.ia 5 (.t 30) (.t 31)),.V 33 (.fa 4 (.t 32)),.V 34 (.ld none (.t 33)),.V 35 (.bin .add (.t 29) (.t 34)),.V 5 (.asg (.t 35))] [0,1,5,6] []
def spec_l20Trust_k1 : C :=
 .reg false [.V 11 (.mv (.t 6)),.V 12 (.bin .add (.t 11) (.c (.int .i64 1))),.V 6 (.asg (.t 12))] [0,1,5,6] []
def spec_l20Trust_k2 : C :=
 .seq (.seq (.reg false [.V 7 (.mv (.t 6)),.V 8 (.mv (.t 0)),.V 9 (.len (.t 8)),.V 10 (.bin .lss (.t 7) (.t 9))] [0,1,5,6,10] []) (.cond (.t 10) .skip (.exit 0))) (.seq (.block 1 (.seq (.reg false [.V 13 (.mv (.t 0)),.V 14 (.mv (.t 6)),.V 15 (.ia 5 (.t 13) (.t 14)),.V 16 (.fa 2 (.t 15)),.V 17 (.ld none (.t 16)),.V 18 (.mv (.t 1)),.V 19 (.bin .leq (.t 17) (.t 18)),.V 20 (.mv (.t 19)),.G 21 (.mv (.t 0)) 7 true,.G 22 (.mv (.t 6)) 7 true,.G 23 (.ia 5 (.t 21) (.t 22)) 7 true,.G 24 (.fa 3 (.t 23)) 7 true,.G 25 (.ld none (.t 24)) 7 true,.G 26 (.mv (.t 1)) 7 true,.G 27 (.bin .geq (.t 25) (.t 26)) 7 true,.V 28 (.pick (.t 20) (.t 27) (.c (.bool false)))] [0,1,5,6,28] []) (.cond (.t 28) (.norm [0,1,5,6] [] spec_l20Trust_k0) .skip))) spec_l20Trust_k1)
def spec_l20Trust_k3 : C :=
 .norm [0,1,5,6] [] spec_l20Trust_k2
def spec_l20Trust_k4 : C :=
 .seq (.reg false [.V 36 (.mv (.t 5)),.V 4 (.asg (.t 36))] [4] []) .ret
def spec_l20Trust_ir : Fn := { np := 2,io := [],res := [.t 4],own := [false],body :=
 (.seq (.reg false [.V 4 (.asg (.c (.int .i64 0)))] [0,1] []) (.seq (.reg false [.V 5 (.asg (.c (.int .i64 0)))] [0,1,5] []) (.seq (.seq (.reg false [.V 6 (.asg (.c (.int .i64 0)))] [0,1,5,6] []) (.block 0 (.loop spec_l20Trust_k3))) spec_l20Trust_k4))) }
noncomputable def spec_l20Trust_D : List (Nat × Callee) := []
def spec_l20Trust_H : List (Nat × ET) := [(8,T_Paper),(13,T_Paper),(21,T_Paper),(30,T_Paper)]
noncomputable def spec_l20Trust_c : Callee := mkCallee spec_l20Trust_D spec_l20Trust_H spec_l20Trust_ir [.d (.one (.sl T_Paper)),.d (.one (.int .i64))] [.d (.one (.int .i64))] []
noncomputable def spec_l20Trust (a0 : List T_Paper.ty) (a1 : Int) : Option (Int) := spec_l20Trust_c.f (a0,a1,())
noncomputable def spec_l20Trust_p0  (v0 : List T_Paper.ty) (v1 : Int) (v5 : Int) (v6 : Int) : Option (Int) :=
 goL spec_l20Trust_D spec_l20Trust_H (vleave spec_l20Trust_ir [.d (.one (.sl T_Paper)),.d (.one (.int .i64))] [.d (.one (.int .i64))] [] []) [.c spec_l20Trust_k2,.l spec_l20Trust_k3,.e 0,.c spec_l20Trust_k4]
  ⟨[(0,.sl T_Paper v0),(1,.int .i64 v1),(5,.int .i64 v5),(6,.int .i64 v6)],[]⟩
noncomputable def spec_l20Trust_p1  (v0 : List T_Paper.ty) (v1 : Int) (v5 : Int) (v6 : Int) : Option (Int) :=
 goL spec_l20Trust_D spec_l20Trust_H (vleave spec_l20Trust_ir [.d (.one (.sl T_Paper)),.d (.one (.int .i64))] [.d (.one (.int .i64))] [] []) [.c spec_l20Trust_k0,.e 1,.c spec_l20Trust_k1,.l spec_l20Trust_k3,.e 0,.c spec_l20Trust_k4]
  ⟨[(0,.sl T_Paper v0),(1,.int .i64 v1),(5,.int .i64 v5),(6,.int .i64 v6)],[]⟩
theorem spec_l20Trust_eq (a0 : List T_Paper.ty) (a1 : Int) : spec_l20Trust a0 a1 =
 spec_l20Trust_p0 a0 a1 0 0 :=
 (mk_f _ _ _ _ _ _ _ 4000).trans (by kernel_rfl)
theorem spec_l20Trust_p0_eq  (v0 : List T_Paper.ty) (v1 : Int) (v5 : Int) (v6 : Int) : spec_l20Trust_p0 v0 v1 v5 v6 =
 if decide (v6 < (v0.length : Int)) then
  if decide (0 ≤ v6) then
   (v0[v6.toNat]?).bind fun x1 =>
    if decide (x1.2.2.1 ≤ v1) then
     if decide (0 ≤ v6) then
      (v0[v6.toNat]?).bind fun x2 =>
       if decide (x2.2.2.2.1 ≥ v1) then
        spec_l20Trust_p1 v0 v1 v5 v6
       else
        spec_l20Trust_p0 v0 v1 v5 (IntKind.i64.wrap (v6 + 1))
     else
      none
    else
     spec_l20Trust_p0 v0 v1 v5 (IntKind.i64.wrap (v6 + 1))
  else
   none
 else
  some v5 :=
 (goL_dn _ _ _ 4000 _ _).trans (by kernel_rfl)
theorem spec_l20Trust_p1_eq  (v0 : List T_Paper.ty) (v1 : Int) (v5 : Int) (v6 : Int) : spec_l20Trust_p1 v0 v1 v5 v6 =
 if decide (0 ≤ v6) then
  (v0[v6.toNat]?).bind fun x1 =>
   spec_l20Trust_p0 v0 v1 (IntKind.i64.wrap (v5 + x1.2.2.2.2.1)) (IntKind.i64.wrap (v6 + 1))
 else
  none :=
 (goL_dn _ _ _ 4000 _ _).trans (by kernel_rfl)
def spec_YearTrust_ir : Fn := { np := 2,io := [],res := [.t 4,.t 5],own := [false,false],body :=
 (.seq (.reg false [.V 4 (.asg (.c (.int .i64 0))),.V 5 (.asg (.c (.int .i64 0)))] [0,1] []) (.seq (.seq (.reg false [.V 6 (.mv (.t 0)),.V 7 (.call (.c (.fn 640 [])) [.t 6]),.V 8 (.un .not (.t 7))] [0,1,8] []) (.cond (.t 8) (.seq (.reg false [.V 4 (.asg (.c (.int .i64 0))),.V 5 (.asg (.c (.int .i64 1)))] [4,5] []) .ret) .skip)) (.seq (.seq (.reg false [.V 9 (.mv (.t 1)),.V 10 (.call (.c (.fn 645 [])) [.t 9]),.V 11 (.un .not (.t 10))] [0,1,11] []) (.cond (.t 11) (.seq (.reg false [.V 4 (.asg (.c (.int .i64 0))),.V 5 (.asg (.c (.int .i64 2)))] [4,5] []) .ret) .skip)) (.seq (.reg false [.V 12 (.mv (.t 0)),.V 13 (.mv (.t 1)),.V 14 (.call (.c (.fn 644 [])) [.t 12,.t 13]),.V 4 (.asg (.t 14)),.V 5 (.asg (.c (.int .i64 0)))] [4,5] []) .ret)))) }
noncomputable def spec_YearTrust_D : List (Nat × Callee) := [(640,spec_l20Ok_c),(644,spec_l20Trust_c),(645,spec_l20Year_c)]
def spec_YearTrust_H : List (Nat × ET) := [(6,T_Paper),(12,T_Paper)]
noncomputable def spec_YearTrust_c : Callee := mkCallee spec_YearTrust_D spec_YearTrust_H spec_YearTrust_ir [.d (.one (.sl T_Paper)),.d (.one (.int .i64))] [.d (.one (.int .i64)),.d (.one (.int .i64))] []
noncomputable def spec_YearTrust (a0 : List T_Paper.ty) (a1 : Int) : Option (Int × Int) := spec_YearTrust_c.f (a0,a1,())
theorem spec_YearTrust_eq (a0 : List T_Paper.ty) (a1 : Int) : spec_YearTrust a0 a1 =
 (spec_l20Ok a0).bind fun x1 =>
  if (!x1) then
   some (0,1)
  else
   (spec_l20Year a1).bind fun x2 =>
    if (!x2) then
     some (0,2)
    else
     (spec_l20Trust a0 a1).bind fun x3 =>
      some (x3,0) :=
 (mk_f _ _ _ _ _ _ _ 4000).trans (by kernel_rfl)
def laws_FnTrust_k0 : C :=
 .seq (.seq (.reg false [.V 62 (.mv (.t 14)),.V 63 (.mv (.t 5)),.V 64 (.len (.t 63)),.V 65 (.bin .lss (.t 62) (.t 64))] [1,5,6,7,9,11,12,13,14,65] [5,6,7,9]) (.cond (.t 65) .skip (.exit 0))) (.seq (.block 1 (.seq (.reg false [.V 68 (.mv (.t 13)),.V 69 (.mv (.t 5)),.V 70 (.mv (.t 14)),.V 71 (.ia 5 (.t 69) (.t 70)),.V 72 (.fa 4 (.t 71)),.V 73 (.ld none (.t 72)),.V 74 (.bin .add (.t 68) (.t 73)),.V 13 (.asg (.t 74))] [1,5,6,7,9,11,12,13,14] [5,6,7,9]) (.seq (.reg false [.V 75 (.mv (.t 6)),.V 76 (.mv (.t 5)),.V 77 (.mv (.t 14)),.V 78 (.ia 5 (.t 76) (.t 77)),.V 79 (.fa 1 (.t 78)),.V 80 (.ld none (.t 79)),.V 81 (.call (.c (.fn 232 [])) [.t 75,.t 80]),.V 82 (.un .not (.t 81))] [1,5,6,7,9,11,12,13,14,82] [5,6,7,9]) (.cond (.t 82) (.seq (.reg false [.V 4 (.asg (.c (.bool false)))] [4] []) .ret) .skip)))) (.reg false [.V 66 (.mv (.t 14)),.V 67 (.bin .add (.t 66) (.c (.int .i64 1))),.V 14 (.asg (.t 67))] [1,5,6,7,9,11,12,13,14] [5,6,7,9]))
def laws_FnTrust_k1 : C :=
 .norm [1,5,6,7,9,11,12,13,14] [5,6,7,9] laws_FnTrust_k0
def laws_FnTrust_k2 : C :=
 .seq (.seq (.reg false [.V 94 (.mv (.t 15)),.V 95 (.mv (.t 6)),.V 96 (.len (.t 95)),.V 97 (.bin .lss (.t 94) (.t 96))] [1,5,6,9,11,12,15,97] [5,6,9]) (.cond (.t 97) .skip (.exit 2))) (.seq (.block 3 (.seq (.reg true [.V 100 (.mv (.t 6)),.V 101 (.mv (.t 15)),.V 102 (.bin .sub (.t 101) (.c (.int .i64 1))),.V 103 (.ia 1 (.t 100) (.t 102)),.V 104 (.ld none (.t 103)),.V 105 (.mv (.t 6)),.V 106 (.mv (.t 15)),.V 107 (.ia 1 (.t 105) (.t 106)),.V 108 (.ld none (.t 107)),.V 109 (.bin .geq (.t 104) (.t 108))] [1,5,6,9,11,12,15,109] [5,6,9]) (.cond (.t 109) (.seq (.reg false [.V 4 (.asg (.c (.bool false)))] [4] []) .ret) .skip))) (.reg false [.V 98 (.mv (.t 15)),.V 99 (.bin .add (.t 98) (.c (.int .i64 1))),.V 15 (.asg (.t 99))] [1,5,6,9,11,12,15] [5,6,9]))
def laws_FnTrust_k3 : C :=
 .norm [1,5,6,9,11,12,15] [5,6,9] laws_FnTrust_k2
def laws_FnTrust_k4 : C :=
 .seq (.reg false [.V 172 (.mv (.t 5)),.W 173 (.call (.c (.fn 228 [])) [.t 172]),.V 171 (.mv (.t 173)),.V 174 (.ext (.t 171) 0),.V 175 (.ext (.t 171) 1),.W 20 (.asg (.t 174)),.V 21 (.asg (.t 175))] [1,5,9,20,21] [5,9,20]) (.seq (.reg false [.V 176 (.mv (.t 21)),.V 177 (.bin .eql (.t 176) (.c (.int .i64 0))),.V 178 (.mv (.t 177)),.G 179 (.mv (.t 20)) 2 true,.G 180 (.len (.t 179)) 2 true,.G 181 (.bin .eql (.t 180) (.c (.int .i64 0))) 2 true,.G 182 (.mv (.t 9)) 2 true,.G 183 (.len (.t 182)) 2 true,.G 184 (.mv (.t 5)) 2 true,.G 185 (.len (.t 184)) 2 true,.G 186 (.bin .eql (.t 183) (.t 185)) 2 true,.G 187 (.eqb true (.t 181) (.t 186)) 2 true,.V 188 (.pick (.t 178) (.t 187) (.c (.bool false)))] [1,188] []) (.cond (.t 188) (.seq (.reg false [.V 4 (.asg (.c (.bool false)))] [4] []) .ret) .skip))
def laws_FnTrust_k5 : C :=
 .seq (.reg false [.V 111 (.mv (.t 9)),.W 112 (.call (.c (.fn 231 [])) [.t 111]),.V 110 (.mv (.t 112)),.V 113 (.ext (.t 110) 0),.V 114 (.ext (.t 110) 1),.W 16 (.asg (.t 113)),.V 17 (.asg (.t 114))] [1,5,9,11,12,16,17] [5,9,16]) (.seq (.reg false [.V 116 (.mv (.t 9)),.V 117 (.call (.c (.fn 230 [])) [.t 116]),.V 115 (.mv (.t 117)),.V 118 (.ext (.t 115) 0),.V 119 (.ext (.t 115) 1),.V 18 (.asg (.t 118)),.V 19 (.asg (.t 119))] [1,5,9,11,12,16,17,19] [5,9,16]) (.seq (.seq (.reg false [.V 120 (.mv (.t 9)),.V 121 (.call (.c (.fn 229 [])) [.t 120]),.V 122 (.un .not (.t 121)),.V 123 (.mv (.t 122)),.G 124 (.mv (.t 17)) 3 false,.G 125 (.bin .neq (.t 124) (.c (.int .i64 0))) 3 false,.V 126 (.pick (.t 123) (.c (.bool true)) (.t 125)),.V 127 (.mv (.t 126)),.G 128 (.mv (.t 16)) 7 false,.G 129 (.len (.t 128)) 7 false,.G 130 (.bin .neq (.t 129) (.c (.int .i64 0))) 7 false,.V 131 (.pick (.t 127) (.c (.bool true)) (.t 130)),.V 132 (.mv (.t 131)),.G 133 (.mv (.t 19)) 12 false,.G 134 (.bin .neq (.t 133) (.c (.int .i64 3))) 12 false,.V 135 (.pick (.t 132) (.c (.bool true)) (.t 134)),.V 136 (.mv (.t 135)),.G 137 (.mv (.t 9)) 16 false,.G 138 (.len (.t 137)) 16 false,.G 139 (.mv (.t 5)) 16 false,.G 140 (.len (.t 139)) 16 false,.G 141 (.bin .gtr (.t 138) (.t 140)) 16 false,.V 142 (.pick (.t 136) (.c (.bool true)) (.t 141)),.V 143 (.mv (.t 142)),.G 144 (.mv (.t 5)) 23 false,.G 145 (.len (.t 144)) 23 false,.G 146 (.bin .gtr (.t 145) (.c (.int .i64 0))) 23 false,.G 147 (.mv (.t 146)) 23 false,.G 148 (.mv (.t 9)) 27 true,.G 149 (.len (.t 148)) 27 true,.G 150 (.bin .eql (.t 149) (.c (.int .i64 0))) 27 true,.G 151 (.pick (.t 147) (.t 150) (.c (.bool false))) 23 false,.V 152 (.pick (.t 143) (.c (.bool true)) (.t 151)),.V 153 (.mv (.t 152)),.G 154 (.mv (.t 12)) 33 false,.G 155 (.bin .eql (.t 154) (.c (.int .i64 3))) 33 false,.G 156 (.mv (.t 9)) 33 false,.G 157 (.len (.t 156)) 33 false,.G 158 (.mv (.t 5)) 33 false,.G 159 (.len (.t 158)) 33 false,.G 160 (.bin .eql (.t 157) (.t 159)) 33 false,.G 161 (.eqb true (.t 155) (.t 160)) 33 false,.V 162 (.pick (.t 153) (.c (.bool true)) (.t 161)),.V 163 (.mv (.t 162)),.G 164 (.mv (.t 12)) 43 false,.G 165 (.bin .eql (.t 164) (.c (.int .i64 0))) 43 false,.G 166 (.mv (.t 165)) 43 false,.G 167 (.mv (.t 11)) 46 true,.G 168 (.bin .eql (.t 167) (.c (.str []))) 46 true,.G 169 (.pick (.t 166) (.t 168) (.c (.bool false))) 43 false,.V 170 (.pick (.t 163) (.c (.bool true)) (.t 169))] [1,5,9,170] [5,9]) (.cond (.t 170) (.seq (.reg false [.V 4 (.asg (.c (.bool false)))] [4] []) .ret) .skip)) (.norm [1,5,9] [5,9] laws_FnTrust_k4)))
def laws_FnTrust_k6 : C :=
 .seq (.seq (.reg false [.V 15 (.asg (.c (.int .i64 1)))] [1,5,6,9,11,12,15] [5,6,9]) (.block 2 (.loop laws_FnTrust_k3))) laws_FnTrust_k5
def laws_FnTrust_k7 : C :=
 .seq (.seq (.reg false [.V 83 (.mv (.t 6)),.V 84 (.len (.t 83)),.V 85 (.mv (.t 7)),.V 86 (.len (.t 85)),.V 87 (.bin .neq (.t 84) (.t 86)),.V 88 (.mv (.t 87)),.G 89 (.mv (.t 7)) 5 false,.G 90 (.call (.c (.fn 176 [])) [.t 89]) 5 false,.G 91 (.mv (.t 13)) 5 false,.G 92 (.bin .neq (.t 90) (.t 91)) 5 false,.V 93 (.pick (.t 88) (.c (.bool true)) (.t 92))] [1,5,6,9,11,12,93] [5,6,9]) (.cond (.t 93) (.seq (.reg false [.V 4 (.asg (.c (.bool false)))] [4] []) .ret) .skip)) (.norm [1,5,6,9,11,12] [5,6,9] laws_FnTrust_k6)
def laws_FnTrust_k8 : C :=
 .seq (.reg false [.V 203 (.mv (.t 1)),.V 204 (.call (.c (.fn 227 [])) [.t 203]),.V 202 (.mv (.t 204)),.V 205 (.ext (.t 202) 0),.V 206 (.ext (.t 202) 1),.W 22 (.asg (.t 205)),.V 23 (.asg (.t 206))] [22,23] [22]) (.seq (.reg false [.V 208 (.mv (.t 22)),.V 209 (.mv (.t 23)),.V 210 (.call (.c (.fn 226 [])) [.t 208,.t 209]),.V 207 (.mv (.t 210)),.V 211 (.ext (.t 207) 0),.V 212 (.ext (.t 207) 1),.V 24 (.asg (.t 211)),.V 25 (.asg (.t 212))] [22,24,25] [22]) (.seq (.reg false [.V 214 (.mv (.t 22)),.V 215 (.call (.c (.fn 225 [])) [.t 214]),.V 213 (.mv (.t 215)),.V 216 (.ext (.t 213) 0),.V 217 (.ext (.t 213) 1),.V 218 (.ext (.t 213) 2),.V 26 (.asg (.t 216)),.V 27 (.asg (.t 217)),.V 28 (.asg (.t 218))] [22,24,25,26,27,28] [22]) (.seq (.seq (.reg false [.V 219 (.mv (.t 28)),.V 220 (.bin .neq (.t 219) (.c (.int .i64 0)))] [22,24,25,26,27,220] [22]) (.cond (.t 220) (.seq (.reg false [.V 221 (.mv (.t 26)),.V 222 (.bin .eql (.t 221) (.c (.int .i64 0))),.V 223 (.mv (.t 222)),.G 224 (.mv (.t 27)) 2 true,.G 225 (.bin .eql (.t 224) (.c (.int .i64 0))) 2 true,.V 226 (.pick (.t 223) (.t 225) (.c (.bool false))),.V 4 (.asg (.t 226))] [4] []) .ret) .skip)) (.seq (.reg false [.V 228 (.mv (.t 22)),.V 229 (.mv (.t 26)),.V 230 (.call (.c (.fn 224 [])) [.t 228,.t 229]),.V 227 (.mv (.t 230)),.V 231 (.ext (.t 227) 0),.V 232 (.ext (.t 227) 1),.V 29 (.asg (.t 231)),.V 30 (.asg (.t 232))] [22,24,25,26,27,29,30] [22]) (.seq (.reg false [.V 234 (.mv (.t 22)),.V 235 (.mv (.t 26)),.V 236 (.bin .sub (.t 235) (.c (.int .i64 1))),.V 237 (.call (.c (.fn 224 [])) [.t 234,.t 236]),.V 233 (.mv (.t 237)),.V 238 (.ext (.t 233) 0),.V 239 (.ext (.t 233) 1),.V 31 (.asg (.t 238)),.V 32 (.asg (.t 239))] [24,25,27,29,30,31,32] []) (.seq (.reg false [.V 240 (.mv (.t 30)),.V 241 (.bin .eql (.t 240) (.c (.int .i64 0))),.V 242 (.mv (.t 241)),.G 243 (.mv (.t 29)) 2 true,.G 244 (.mv (.t 27)) 2 true,.G 245 (.bin .eql (.t 243) (.t 244)) 2 true,.V 246 (.pick (.t 242) (.t 245) (.c (.bool false))),.V 247 (.mv (.t 246)),.G 248 (.mv (.t 25)) 7 true,.G 249 (.bin .neq (.t 248) (.c (.int .i64 0))) 7 true,.G 250 (.mv (.t 249)) 7 true,.G 251 (.mv (.t 24)) 10 false,.G 252 (.mv (.t 27)) 10 false,.G 253 (.bin .leq (.t 251) (.t 252)) 10 false,.G 254 (.mv (.t 253)) 10 false,.G 255 (.mv (.t 24)) 14 true,.G 256 (.bin .geq (.t 255) (.c (.int .i64 0))) 14 true,.G 257 (.pick (.t 254) (.t 256) (.c (.bool false))) 10 false,.G 258 (.pick (.t 250) (.c (.bool true)) (.t 257)) 7 true,.V 259 (.pick (.t 247) (.t 258) (.c (.bool false))),.V 260 (.mv (.t 259)),.G 261 (.mv (.t 32)) 20 true,.G 262 (.bin .neq (.t 261) (.c (.int .i64 0))) 20 true,.G 263 (.mv (.t 262)) 20 true,.G 264 (.mv (.t 31)) 23 false,.G 265 (.mv (.t 27)) 23 false,.G 266 (.bin .lss (.t 264) (.t 265)) 23 false,.G 267 (.pick (.t 263) (.c (.bool true)) (.t 266)) 20 true,.V 268 (.pick (.t 260) (.t 267) (.c (.bool false))),.V 4 (.asg (.t 268))] [4] []) .ret))))))
def laws_FnTrust_k9 : C :=
 .norm [1] [] laws_FnTrust_k8
def laws_FnTrust_k10 : C :=
 .seq (.reg false [.V 39 (.mv (.t 0)),.V 40 (.call (.c (.fn 235 [])) [.t 39]),.W 5 (.asg (.t 40))] [1,5] [5]) (.seq (.reg false [.V 42 (.mv (.t 5)),.W 43 (.call (.c (.fn 234 [])) [.t 42]),.V 41 (.mv (.t 43)),.V 44 (.ext (.t 41) 0),.V 45 (.ext (.t 41) 1),.V 46 (.ext (.t 41) 2),.W 6 (.asg (.t 44)),.W 7 (.asg (.t 45)),.V 8 (.asg (.t 46))] [1,5,6,7,8] [5,6,7]) (.seq (.reg false [.V 48 (.mv (.t 5)),.W 49 (.call (.c (.fn 233 [])) [.t 48]),.V 47 (.mv (.t 49)),.V 50 (.ext (.t 47) 0),.V 51 (.ext (.t 47) 1),.W 9 (.asg (.t 50)),.V 10 (.asg (.t 51))] [1,5,6,7,8,9,10] [5,6,7,9]) (.seq (.reg false [.V 53 (.mv (.t 5)),.V 54 (.call (.c (.fn 230 [])) [.t 53]),.V 52 (.mv (.t 54)),.V 55 (.ext (.t 52) 0),.V 56 (.ext (.t 52) 1),.V 11 (.asg (.t 55)),.V 12 (.asg (.t 56))] [1,5,6,7,8,9,10,11,12] [5,6,7,9]) (.seq (.seq (.reg false [.V 57 (.mv (.t 8)),.V 58 (.mv (.t 10)),.V 59 (.bin .neq (.t 57) (.t 58))] [1,5,6,7,8,9,11,12,59] [5,6,7,9]) (.cond (.t 59) (.seq (.reg false [.V 4 (.asg (.c (.bool false)))] [4] []) .ret) .skip)) (.seq (.seq (.reg false [.V 60 (.mv (.t 8)),.V 61 (.bin .eql (.t 60) (.c (.int .i64 0)))] [1,5,6,7,9,11,12,61] [5,6,7,9]) (.cond (.t 61) (.seq (.reg false [.V 13 (.asg (.c (.int .i64 0)))] [1,5,6,7,9,11,12,13] [5,6,7,9]) (.seq (.seq (.reg false [.V 14 (.asg (.c (.int .i64 0)))] [1,5,6,7,9,11,12,13,14] [5,6,7,9]) (.block 0 (.loop laws_FnTrust_k1))) laws_FnTrust_k7)) (.seq (.reg false [.V 189 (.mv (.t 6)),.V 190 (.len (.t 189)),.V 191 (.bin .neq (.t 190) (.c (.int .i64 0))),.V 192 (.mv (.t 191)),.G 193 (.mv (.t 7)) 3 false,.G 194 (.len (.t 193)) 3 false,.G 195 (.bin .neq (.t 194) (.c (.int .i64 0))) 3 false,.V 196 (.pick (.t 192) (.c (.bool true)) (.t 195)),.V 197 (.mv (.t 196)),.G 198 (.mv (.t 9)) 8 false,.G 199 (.len (.t 198)) 8 false,.G 200 (.bin .neq (.t 199) (.c (.int .i64 0))) 8 false,.V 201 (.pick (.t 197) (.c (.bool true)) (.t 200))] [1,201] []) (.cond (.t 201) (.seq (.reg false [.V 4 (.asg (.c (.bool false)))] [4] []) .ret) .skip)))) laws_FnTrust_k9)))))
def laws_FnTrust_ir : Fn := { np := 2,io := [],res := [.t 4],own := [false],body :=
 (.seq (.reg false [.V 4 (.asg (.c (.bool false)))] [0,1] []) (.seq (.seq (.reg false [.V 33 (.mv (.t 0)),.V 34 (.call (.c (.fn 76 [])) [.t 33]),.V 35 (.mv (.t 34)),.G 36 (.mv (.t 1)) 2 false,.G 37 (.call (.c (.fn 76 [])) [.t 36]) 2 false,.V 38 (.pick (.t 35) (.c (.bool true)) (.t 37))] [0,1,38] []) (.cond (.t 38) (.seq (.reg false [.V 4 (.asg (.c (.bool true)))] [4] []) .ret) .skip)) (.norm [0,1] [] laws_FnTrust_k10))) }
noncomputable def laws_FnTrust_D : List (Nat × Callee) := [(76,laws_b10Long_c),(176,laws_b10Sum_c),(224,spec_YearTrust_c),(225,impl_BestYear_c),(226,impl_YearTrust_c),(227,spec_DrawYearTrust_c),(228,impl_ClashPairs_c),(229,spec_ValidPapers_c),(230,impl_WorstPaper_c),(231,spec_ClashPairs_c),(232,laws_b10Inside_c),(233,impl_DropClashes_c),(234,impl_TrustBy_c),(235,spec_DrawTrustBy_c)]
def laws_FnTrust_H : List (Nat × ET) := [(5,T_Paper),(6,(.one .str)),(7,(.one (.int .i64))),(9,T_Paper),(16,(.one (.sl (.one (.int .i64))))),(20,(.one (.sl (.one (.int .i64))))),(22,T_Paper),(33,(.one (.int .u8))),(36,(.one (.int .u8))),(39,(.one (.int .u8))),(40,T_Paper),(42,T_Paper),(44,(.one .str)),(45,(.one (.int .i64))),(48,T_Paper),(50,T_Paper),(53,T_Paper),(63,T_Paper),(69,T_Paper),(75,(.one .str)),(76,T_Paper),(83,(.one .str)),(85,(.one (.int .i64))),(89,(.one (.int .i64))),(95,(.one .str)),(100,(.one .str)),(105,(.one .str)),(111,T_Paper),(113,(.one (.sl (.one (.int .i64))))),(116,T_Paper),(120,T_Paper),(128,(.one (.sl (.one (.int .i64))))),(137,T_Paper),(139,T_Paper),(144,T_Paper),(148,T_Paper),(156,T_Paper),(158,T_Paper),(172,T_Paper),(174,(.one (.sl (.one (.int .i64))))),(179,(.one (.sl (.one (.int .i64))))),(182,T_Paper),(184,T_Paper),(189,(.one .str)),(193,(.one (.int .i64))),(198,T_Paper),(203,(.one (.int .u8))),(205,T_Paper),(208,T_Paper),(214,T_Paper),(228,T_Paper),(234,T_Paper)]
noncomputable def laws_FnTrust_c : Callee := mkCallee laws_FnTrust_D laws_FnTrust_H laws_FnTrust_ir [.d (.one (.sl (.one (.int .u8)))),.d (.one (.sl (.one (.int .u8))))] [.d (.one .bool)] []
noncomputable def laws_FnTrust (a0 : List Int) (a1 : List Int) : Option (Bool) := laws_FnTrust_c.f (a0,a1,())
noncomputable def laws_FnTrust_p0  (v0 : List Int) (v1 : List Int) : Option (Bool) :=
 goL laws_FnTrust_D laws_FnTrust_H (vleave laws_FnTrust_ir [.d (.one (.sl (.one (.int .u8)))),.d (.one (.sl (.one (.int .u8))))] [.d (.one .bool)] [] []) [.c laws_FnTrust_k10]
  ⟨[(0,.sl (.one (.int .u8)) v0),(1,.sl (.one (.int .u8)) v1)],[]⟩
noncomputable def laws_FnTrust_p1  (v1 : List Int) (v5 : List T_Paper.ty) (v6 : List (List UInt8)) (v9 : List T_Paper.ty) (v11 : List UInt8) (v12 : Int) (v13 : Int) (v14 : Int) (r7 : List Int) : Option (Bool) :=
 goL laws_FnTrust_D laws_FnTrust_H (vleave laws_FnTrust_ir [.d (.one (.sl (.one (.int .u8)))),.d (.one (.sl (.one (.int .u8))))] [.d (.one .bool)] [] []) [.c laws_FnTrust_k0,.l laws_FnTrust_k1,.e 0,.c laws_FnTrust_k7,.c laws_FnTrust_k9]
  ⟨[(1,.sl (.one (.int .u8)) v1),(5,.sl T_Paper v5),(6,.sl (.one .str) v6),(7,.view 7 0 r7.length),(9,.sl T_Paper v9),(11,.str v11),(12,.int .i64 v12),(13,.int .i64 v13),(14,.int .i64 v14)],[(5,none),(6,none),(7,some (.sl (.one (.int .i64)) r7)),(9,none)]⟩
noncomputable def laws_FnTrust_p2  (v1 : List Int) : Option (Bool) :=
 goL laws_FnTrust_D laws_FnTrust_H (vleave laws_FnTrust_ir [.d (.one (.sl (.one (.int .u8)))),.d (.one (.sl (.one (.int .u8))))] [.d (.one .bool)] [] []) [.c laws_FnTrust_k8]
  ⟨[(1,.sl (.one (.int .u8)) v1)],[]⟩
noncomputable def laws_FnTrust_p3  (v1 : List Int) (v5 : List T_Paper.ty) (v6 : List (List UInt8)) (v9 : List T_Paper.ty) (v11 : List UInt8) (v12 : Int) : Option (Bool) :=
 goL laws_FnTrust_D laws_FnTrust_H (vleave laws_FnTrust_ir [.d (.one (.sl (.one (.int .u8)))),.d (.one (.sl (.one (.int .u8))))] [.d (.one .bool)] [] []) [.c laws_FnTrust_k6,.c laws_FnTrust_k9]
  ⟨[(1,.sl (.one (.int .u8)) v1),(5,.sl T_Paper v5),(6,.sl (.one .str) v6),(9,.sl T_Paper v9),(11,.str v11),(12,.int .i64 v12)],[(5,none),(6,none),(9,none)]⟩
noncomputable def laws_FnTrust_p4  (v1 : List Int) (v5 : List T_Paper.ty) (v6 : List (List UInt8)) (v9 : List T_Paper.ty) (v11 : List UInt8) (v12 : Int) (v15 : Int) : Option (Bool) :=
 goL laws_FnTrust_D laws_FnTrust_H (vleave laws_FnTrust_ir [.d (.one (.sl (.one (.int .u8)))),.d (.one (.sl (.one (.int .u8))))] [.d (.one .bool)] [] []) [.c laws_FnTrust_k2,.l laws_FnTrust_k3,.e 2,.c laws_FnTrust_k5,.c laws_FnTrust_k9]
  ⟨[(1,.sl (.one (.int .u8)) v1),(5,.sl T_Paper v5),(6,.sl (.one .str) v6),(9,.sl T_Paper v9),(11,.str v11),(12,.int .i64 v12),(15,.int .i64 v15)],[(5,none),(6,none),(9,none)]⟩
noncomputable def laws_FnTrust_p5  (v1 : List Int) (v5 : List T_Paper.ty) (v9 : List T_Paper.ty) : Option (Bool) :=
 goL laws_FnTrust_D laws_FnTrust_H (vleave laws_FnTrust_ir [.d (.one (.sl (.one (.int .u8)))),.d (.one (.sl (.one (.int .u8))))] [.d (.one .bool)] [] []) [.c laws_FnTrust_k4,.c laws_FnTrust_k9]
  ⟨[(1,.sl (.one (.int .u8)) v1),(5,.sl T_Paper v5),(9,.sl T_Paper v9)],[(5,none),(9,none)]⟩
theorem laws_FnTrust_eq (a0 : List Int) (a1 : List Int) : laws_FnTrust a0 a1 =
 (laws_b10Long a0).bind fun x1 =>
  if x1 then
   some true
  else
   (laws_b10Long a1).bind fun x2 =>
    if x2 then
     some true
    else
     laws_FnTrust_p0 a0 a1 :=
 (mk_f _ _ _ _ _ _ _ 4000).trans (by kernel_rfl)
theorem laws_FnTrust_p0_eq  (v0 : List Int) (v1 : List Int) : laws_FnTrust_p0 v0 v1 =
 (spec_DrawTrustBy v0).bind fun x1 =>
  (impl_TrustBy (x1.take x1.length)).bind fun x2 =>
   (impl_DropClashes (x1.take x1.length)).bind fun x3 =>
    (impl_WorstPaper (x1.take x1.length)).bind fun x4 =>
     if (x2.2.2 != x3.2) then
      some false
     else
      if (x2.2.2 == 0) then
       laws_FnTrust_p1 v1 (x1.take x1.length) x2.1 x3.1 x4.1 x4.2 0 0 x2.2.1
      else
       if ((x2.1.length : Int) != 0) then
        some false
       else
        if ((x2.2.1.length : Int) != 0) then
         some false
        else
         if ((x3.1.length : Int) != 0) then
          some false
         else
          laws_FnTrust_p2 v1 :=
 (goL_dn _ _ _ 4000 _ _).trans (by kernel_rfl)
theorem laws_FnTrust_p1_eq  (v1 : List Int) (v5 : List T_Paper.ty) (v6 : List (List UInt8)) (v9 : List T_Paper.ty) (v11 : List UInt8) (v12 : Int) (v13 : Int) (v14 : Int) (r7 : List Int) : laws_FnTrust_p1 v1 v5 v6 v9 v11 v12 v13 v14 r7 =
 if decide (v14 < (v5.length : Int)) then
  if decide (0 ≤ v14) then
   (v5[v14.toNat]?).bind fun x1 =>
    if decide (0 ≤ v14) then
     (v5[v14.toNat]?).bind fun x2 =>
      (laws_b10Inside v6 x2.2.1).bind fun x3 =>
       if (!x3) then
        some false
       else
        laws_FnTrust_p1 v1 v5 v6 v9 v11 v12 (IntKind.i64.wrap (v13 + x1.2.2.2.2.1)) (IntKind.i64.wrap (v14 + 1)) r7
    else
     none
  else
   none
 else
  if ((v6.length : Int) != (r7.length : Int)) then
   some false
  else
   (laws_b10Sum (r7.take r7.length)).bind fun x4 =>
    if (x4 != v13) then
     some false
    else
     laws_FnTrust_p3 v1 v5 v6 v9 v11 v12 :=
 (goL_dn _ _ _ 4000 _ _).trans (by kernel_rfl)
theorem laws_FnTrust_p2_eq  (v1 : List Int) : laws_FnTrust_p2 v1 =
 (spec_DrawYearTrust v1).bind fun x1 =>
  (impl_YearTrust (x1.1.take x1.1.length) x1.2).bind fun x2 =>
   (impl_BestYear (x1.1.take x1.1.length)).bind fun x3 =>
    if (x3.2.2 != 0) then
     if (x3.1 == 0) then
      some (x3.2.1 == 0)
     else
      some false
    else
     (spec_YearTrust (x1.1.take x1.1.length) x3.1).bind fun x4 =>
      (spec_YearTrust (x1.1.take x1.1.length) (IntKind.i64.wrap (x3.1 - 1))).bind fun x5 =>
       if (x4.2 == 0) then
        if (x4.1 == x3.2.1) then
         if (x2.2 != 0) then
          if (x5.2 != 0) then
           some true
          else
           some (decide (x5.1 < x3.2.1))
         else
          if decide (x2.1 ≤ x3.2.1) then
           if decide (x2.1 ≥ 0) then
            if (x5.2 != 0) then
             some true
            else
             some (decide (x5.1 < x3.2.1))
           else
            some false
          else
           some false
        else
         some false
       else
        some false :=
 (goL_dn _ _ _ 4000 _ _).trans (by kernel_rfl)
theorem laws_FnTrust_p3_eq  (v1 : List Int) (v5 : List T_Paper.ty) (v6 : List (List UInt8)) (v9 : List T_Paper.ty) (v11 : List UInt8) (v12 : Int) : laws_FnTrust_p3 v1 v5 v6 v9 v11 v12 =
 laws_FnTrust_p4 v1 v5 v6 v9 v11 v12 1 :=
 (goL_dn _ _ _ 4000 _ _).trans (by kernel_rfl)
theorem laws_FnTrust_p4_eq  (v1 : List Int) (v5 : List T_Paper.ty) (v6 : List (List UInt8)) (v9 : List T_Paper.ty) (v11 : List UInt8) (v12 : Int) (v15 : Int) : laws_FnTrust_p4 v1 v5 v6 v9 v11 v12 v15 =
 if decide (v15 < (v6.length : Int)) then
  if decide (0 ≤ IntKind.i64.wrap (v15 - 1)) then
   (v6[(IntKind.i64.wrap (v15 - 1)).toNat]?).bind fun x1 =>
    if decide (0 ≤ v15) then
     (v6[v15.toNat]?).bind fun x2 =>
      if (!Op.bytesLess x1 x2) then
       some false
      else
       laws_FnTrust_p4 v1 v5 v6 v9 v11 v12 (IntKind.i64.wrap (v15 + 1))
    else
     none
  else
   none
 else
  (spec_ClashPairs v9).bind fun x3 =>
   (impl_WorstPaper v9).bind fun x4 =>
    (spec_ValidPapers v9).bind fun x5 =>
     if (!x5) then
      some false
     else
      if (x3.2 != 0) then
       some false
      else
       if ((x3.1.length : Int) != 0) then
        some false
       else
        if (x4.2 != 3) then
         some false
        else
         if decide ((v9.length : Int) > (v5.length : Int)) then
          some false
         else
          if decide ((v5.length : Int) > 0) then
           if ((v9.length : Int) == 0) then
            some false
           else
            if (!((v12 == 3) == ((v9.length : Int) == (v5.length : Int)))) then
             some false
            else
             if (v12 == 0) then
              if (v11 == []) then
               some false
              else
               laws_FnTrust_p5 v1 v5 v9
             else
              laws_FnTrust_p5 v1 v5 v9
          else
           if (!((v12 == 3) == ((v9.length : Int) == (v5.length : Int)))) then
            some false
           else
            if (v12 == 0) then
             if (v11 == []) then
              some false
             else
              laws_FnTrust_p5 v1 v5 v9
            else
             laws_FnTrust_p5 v1 v5 v9 :=
 (goL_dn _ _ _ 4000 _ _).trans (by kernel_rfl)
theorem laws_FnTrust_p5_eq  (v1 : List Int) (v5 : List T_Paper.ty) (v9 : List T_Paper.ty) : laws_FnTrust_p5 v1 v5 v9 =
 (impl_ClashPairs v5).bind fun x1 =>
  if (x1.2 == 0) then
   if (!(((x1.1.length : Int) == 0) == ((v9.length : Int) == (v5.length : Int)))) then
    some false
   else
    laws_FnTrust_p2 v1
  else
   laws_FnTrust_p2 v1 :=
 (goL_dn _ _ _ 4000 _ _).trans (by kernel_rfl)
end Go.Ab.P
