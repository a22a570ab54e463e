/- Functions of the program: abstract forms, and what their runs give. Conditions: none. -/
import Derived.Test.YtamogjebinmacaaGreatDoorLD
set_option maxRecDepth 100000
set_option linter.unusedVariables false
namespace Go.Ab.P
open Go.Ab
@[reducible] def T_Block : ET := .agg (.cons .str (.cons .str (.cons .str .nil)))
@[reducible] def T_Paper : ET := .agg (.cons .str (.cons .str (.cons (.int .i64) (.cons (.int .i64) (.cons (.int .i64) .nil)))))
@[reducible] def T_l00Src : ET := .agg (.cons (.sl (.one (.int .u8))) (.cons (.int .i64) (.cons (.int .u64) .nil)))
def laws_r8Long_ir : Fn := { np := 2,io := [],res := [.t 4],own := [false],body :=
 (.seq (.reg false [.V 4 (.asg (.c (.bool false)))] [0,1] []) (.seq (.reg false [.V 5 (.mv (.t 0)),.V 6 (.len (.t 5)),.V 7 (.bin .gtr (.t 6) (.c (.int .i64 1048576))),.V 8 (.mv (.t 7)),.G 9 (.mv (.t 1)) 3 false,.G 10 (.len (.t 9)) 3 false,.G 11 (.bin .gtr (.t 10) (.c (.int .i64 1048576))) 3 false,.V 12 (.pick (.t 8) (.c (.bool true)) (.t 11)),.V 4 (.asg (.t 12))] [4] []) .ret)) }
noncomputable def laws_r8Long_D : List (Nat × Callee) := []
def laws_r8Long_H : List (Nat × ET) := [(5,(.one (.int .u8))),(9,(.one (.int .u8)))]
noncomputable def laws_r8Long_c : Callee := mkCallee laws_r8Long_D laws_r8Long_H laws_r8Long_ir [.d (.one (.sl (.one (.int .u8)))),.d (.one (.sl (.one (.int .u8))))] [.d (.one .bool)] []
noncomputable def laws_r8Long (a0 : List Int) (a1 : List Int) : Option (Bool) := laws_r8Long_c.f (a0,a1,())
theorem laws_r8Long_eq (a0 : List Int) (a1 : List Int) : laws_r8Long a0 a1 =
 if decide ((a0.length : Int) > 1048576) then
  some true
 else
  some (decide ((a1.length : Int) > 1048576)) :=
 (mk_f _ _ _ _ _ _ _ 4000).trans (by kernel_rfl)
def spec_l00From_ir : Fn := { np := 1,io := [],res := [.t 2],own := [true],body :=
 (.seq (.reg false [.V 2 (.asg (.c (.cst (.pointer none))))] [0] []) (.seq (.reg false [.V 3 (.mv (.t 0)),.V 4 (.build [.nils 1,.int .i64 0,.int .u64 0] [(0,1,.t 3)]),.W 5 (.box 3 (.t 4)),.V 2 (.asg (.t 5))] [2] [5,6000]) .ret)) }
noncomputable def spec_l00From_D : List (Nat × Callee) := []
def spec_l00From_H : List (Nat × ET) := [(3,(.one (.int .u8)))]
noncomputable def spec_l00From_c : Callee := mkCallee spec_l00From_D spec_l00From_H spec_l00From_ir [.d (.one (.sl (.one (.int .u8))))] [.box T_l00Src] []
noncomputable def spec_l00From (a0 : List Int) : Option (T_l00Src.ty) := spec_l00From_c.f (a0,())
theorem spec_l00From_eq (a0 : List Int) : spec_l00From a0 =
 some (a0,0,0,()) :=
 (mk_f _ _ _ _ _ _ _ 4000).trans (by kernel_rfl)
def spec_l00Src_next_k0 : C :=
 .seq (.reg false [.V 25 (.mv (.t 0)),.V 26 (.nilck (.t 25)),.V 27 (.fa 1 (.t 26)),.V 28 (.ld none (.t 27)),.V 29 (.bin .add (.t 28) (.c (.int .i64 1))),.V 30 (.nilck (.t 25)),.V 31 (.fa 1 (.t 30)),⟨none,true,.sto 1 (.t 31) (.t 29),none,false,[]⟩] [0,3] [0,1000]) (.seq (.reg false [.V 32 (.mv (.t 0)),.V 33 (.mv (.t 0)),.V 34 (.nilck (.t 33)),.V 35 (.fa 2 (.t 34)),.V 36 (.ld none (.t 35)),.V 37 (.bin .mul (.t 36) (.c (.int .u64 6364136223846793005))),.V 38 (.mv (.t 3)),.V 39 (.conv (.int .u64) (.t 38)),.V 40 (.bin .add (.t 37) (.t 39)),.V 41 (.bin .add (.t 40) (.c (.int .u64 1442695040888963407))),.V 42 (.nilck (.t 32)),.V 43 (.fa 2 (.t 42)),⟨none,true,.sto 1 (.t 43) (.t 41),none,false,[]⟩] [0,3] [0,1000]) (.seq (.seq (.reg true [.V 44 (.mv (.t 0)),.V 45 (.nilck (.t 44)),.V 46 (.fa 1 (.t 45)),.V 47 (.ld none (.t 46)),.V 48 (.mv (.t 0)),.V 49 (.nilck (.t 48)),.V 50 (.fa 0 (.t 49)),.V 51 (.ld none (.t 50)),.V 52 (.len (.t 51)),.V 53 (.bin .leq (.t 47) (.t 52))] [0,3,53] [0,1000]) (.cond (.t 53) (.seq (.reg false [.V 54 (.mv (.t 3)),.V 2 (.asg (.t 54))] [0,2] [0,1000]) .ret) .skip)) (.seq (.reg false [.V 55 (.mv (.t 0)),.V 56 (.nilck (.t 55)),.V 57 (.fa 2 (.t 56)),.V 58 (.ld none (.t 57)),.V 59 (.bin .shr (.t 58) (.c (.int .u64 40))),.V 60 (.bin .and (.t 59) (.c (.int .u64 255))),.V 61 (.conv (.int .i64) (.t 60)),.V 2 (.asg (.t 61))] [0,2] [0,1000]) .ret)))
def spec_l00Src_next_ir : Fn := { np := 1,io := [true],res := [.t 2],own := [false],body :=
 (.seq (.reg false [.V 2 (.asg (.c (.int .i64 0)))] [0] [0,1000]) (.seq (.reg false [.V 3 (.asg (.c (.int .i64 0)))] [0,3] [0,1000]) (.seq (.seq (.reg true [.V 4 (.mv (.t 0)),.V 5 (.nilck (.t 4)),.V 6 (.fa 1 (.t 5)),.V 7 (.ld none (.t 6)),.V 8 (.mv (.t 0)),.V 9 (.nilck (.t 8)),.V 10 (.fa 0 (.t 9)),.V 11 (.ld none (.t 10)),.V 12 (.len (.t 11)),.V 13 (.bin .lss (.t 7) (.t 12))] [0,3,13] [0,1000]) (.cond (.t 13) (.reg true [.V 14 (.mv (.t 0)),.V 15 (.nilck (.t 14)),.V 16 (.fa 0 (.t 15)),.V 17 (.ld none (.t 16)),.V 18 (.mv (.t 0)),.V 19 (.nilck (.t 18)),.V 20 (.fa 1 (.t 19)),.V 21 (.ld none (.t 20)),.V 22 (.ia 1 (.t 17) (.t 21)),.V 23 (.ld none (.t 22)),.V 24 (.conv (.int .i64) (.t 23)),.V 3 (.asg (.t 24))] [0,3] [0,1000]) .skip)) (.norm [0,3] [0,1000] spec_l00Src_next_k0)))) }
noncomputable def spec_l00Src_next_D : List (Nat × Callee) := []
def spec_l00Src_next_H : List (Nat × ET) := [(11,(.one (.int .u8))),(17,(.one (.int .u8))),(51,(.one (.int .u8)))]
noncomputable def spec_l00Src_next_c : Callee := mkCallee spec_l00Src_next_D spec_l00Src_next_H spec_l00Src_next_ir [.box T_l00Src] [.d (.one (.int .i64))] [.box T_l00Src]
noncomputable def spec_l00Src_next (a0 : T_l00Src.ty) : Option (Int × T_l00Src.ty) := spec_l00Src_next_c.f (a0,())
noncomputable def spec_l00Src_next_p0  (v3 : Int) (r0_0 : List Int) (r0_1 : Int) (r0_2 : Int) : Option (Int × T_l00Src.ty) :=
 goL spec_l00Src_next_D spec_l00Src_next_H (vleave spec_l00Src_next_ir [.box T_l00Src] [.d (.one (.int .i64))] [.box T_l00Src] []) [.c spec_l00Src_next_k0]
  ⟨[(0,.loc 0 0 0),(3,.int .i64 v3)],[(0,some (.var 3 (.agg [.sl (.one (.int .u8)) r0_0,.int .i64 r0_1,.int .u64 r0_2]))),(1000,none)]⟩
theorem spec_l00Src_next_eq (a0 : T_l00Src.ty) : spec_l00Src_next a0 =
 if decide (a0.2.1 < (a0.1.length : Int)) then
  if decide (0 ≤ a0.2.1) then
   (a0.1[a0.2.1.toNat]?).bind fun x1 =>
    spec_l00Src_next_p0 (IntKind.i64.wrap x1) a0.1 a0.2.1 a0.2.2.1
  else
   none
 else
  spec_l00Src_next_p0 0 a0.1 a0.2.1 a0.2.2.1 :=
 (mk_f _ _ _ _ _ _ _ 4000).trans (by kernel_rfl)
theorem spec_l00Src_next_p0_eq  (v3 : Int) (r0_0 : List Int) (r0_1 : Int) (r0_2 : Int) : spec_l00Src_next_p0 v3 r0_0 r0_1 r0_2 =
 if decide (IntKind.i64.wrap (r0_1 + 1) ≤ (r0_0.length : Int)) then
  some (v3,(r0_0,IntKind.i64.wrap (r0_1 + 1),IntKind.u64.wrap ((IntKind.u64.wrap ((IntKind.u64.wrap (r0_2 * 6364136223846793005)) + (IntKind.u64.wrap v3))) + 1442695040888963407),()))
 else
  some (IntKind.i64.wrap (IntKind.u64.wrap ((BitVec.ofInt IntKind.u64.bits (Int.fdiv (IntKind.u64.wrap ((IntKind.u64.wrap ((IntKind.u64.wrap (r0_2 * 6364136223846793005)) + (IntKind.u64.wrap v3))) + 1442695040888963407)) (2 ^ (min (40 : Int).toNat IntKind.u64.bits))) &&& BitVec.ofInt IntKind.u64.bits 255).toNat : Int)),(r0_0,IntKind.i64.wrap (r0_1 + 1),IntKind.u64.wrap ((IntKind.u64.wrap ((IntKind.u64.wrap (r0_2 * 6364136223846793005)) + (IntKind.u64.wrap v3))) + 1442695040888963407),())) :=
 (goL_dn _ _ _ 4000 _ _).trans (by kernel_rfl)
def spec_l00Src_pick_ir : Fn := { np := 2,io := [true,false],res := [.t 4],own := [false],body :=
 (.seq (.reg false [.V 4 (.asg (.c (.int .i64 0)))] [0,1] [0,1000]) (.seq (.seq (.reg false [.V 6 (.mv (.t 1)),.V 7 (.bin .leq (.t 6) (.c (.int .i64 1)))] [0,1,7] [0,1000]) (.cond (.t 7) (.seq (.reg false [.V 4 (.asg (.c (.int .i64 0)))] [0,4] [0,1000]) .ret) .skip)) (.seq (.reg false [.V 8 (.mv (.t 0)),.W 9 (.call (.c (.fn 847 [])) [.t 8]),.V 5 (.asg (.t 9))] [0,1,5] [0,1000]) (.seq (.seq (.reg false [.V 10 (.mv (.t 1)),.V 11 (.bin .gtr (.t 10) (.c (.int .i64 200)))] [0,1,5,11] [0,1000]) (.cond (.t 11) (.reg false [.V 12 (.mv (.t 5)),.V 13 (.bin .mul (.t 12) (.c (.int .i64 256))),.V 14 (.mv (.t 0)),.W 15 (.call (.c (.fn 847 [])) [.t 14]),.V 16 (.bin .add (.t 13) (.t 15)),.V 5 (.asg (.t 16))] [0,1,5] [0,1000]) .skip)) (.seq (.reg false [.V 17 (.mv (.t 5)),.V 18 (.mv (.t 1)),.V 19 (.bin .rem (.t 17) (.t 18)),.V 4 (.asg (.t 19))] [0,4] [0,1000]) .ret))))) }
noncomputable def spec_l00Src_pick_D : List (Nat × Callee) := [(847,spec_l00Src_next_c)]
def spec_l00Src_pick_H : List (Nat × ET) := []
noncomputable def spec_l00Src_pick_c : Callee := mkCallee spec_l00Src_pick_D spec_l00Src_pick_H spec_l00Src_pick_ir [.box T_l00Src,.d (.one (.int .i64))] [.d (.one (.int .i64))] [.box T_l00Src]
noncomputable def spec_l00Src_pick (a0 : T_l00Src.ty) (a1 : Int) : Option (Int × T_l00Src.ty) := spec_l00Src_pick_c.f (a0,a1,())
theorem spec_l00Src_pick_eq (a0 : T_l00Src.ty) (a1 : Int) : spec_l00Src_pick a0 a1 =
 if decide (a1 ≤ 1) then
  some (0,a0)
 else
  (spec_l00Src_next a0).bind fun x1 =>
   if decide (a1 > 200) then
    (spec_l00Src_next (x1.2.1,x1.2.2.1,x1.2.2.2.1,())).bind fun x2 =>
     if decide (a1 = 0) then
      none
     else
      some ((IntKind.i64.wrap ((IntKind.i64.wrap (x1.1 * 256)) + x2.1)).tmod a1,(x2.2.1,x2.2.2.1,x2.2.2.2.1,()))
   else
    if decide (a1 = 0) then
     none
    else
     some (x1.1.tmod a1,(x1.2.1,x1.2.2.1,x1.2.2.2.1,())) :=
 (mk_f _ _ _ _ _ _ _ 4000).trans (by kernel_rfl)
def spec_l00Src_text_ir : Fn := { np := 2,io := [true,false],res := [.t 4],own := [false],body :=
 (.seq (.reg false [.V 4 (.asg (.c (.str [])))] [0,1] [0,1000]) (.seq (.reg false [.V 5 (.mv (.t 1)),.V 6 (.mv (.t 0)),.V 7 (.mv (.t 1)),.V 8 (.len (.t 7)),.W 9 (.call (.c (.fn 463 [])) [.t 6,.t 8]),.V 10 (.ia 1 (.t 5) (.t 9)),.V 11 (.ld none (.t 10)),.V 4 (.asg (.t 11))] [0,4] [0,1000]) .ret)) }
noncomputable def spec_l00Src_text_D : List (Nat × Callee) := [(463,spec_l00Src_pick_c)]
def spec_l00Src_text_H : List (Nat × ET) := [(5,(.one .str)),(7,(.one .str))]
noncomputable def spec_l00Src_text_c : Callee := mkCallee spec_l00Src_text_D spec_l00Src_text_H spec_l00Src_text_ir [.box T_l00Src,.d (.one (.sl (.one .str)))] [.d (.one .str)] [.box T_l00Src]
noncomputable def spec_l00Src_text (a0 : T_l00Src.ty) (a1 : List (List UInt8)) : Option (List UInt8 × T_l00Src.ty) := spec_l00Src_text_c.f (a0,a1,())
theorem spec_l00Src_text_eq (a0 : T_l00Src.ty) (a1 : List (List UInt8)) : spec_l00Src_text a0 a1 =
 (spec_l00Src_pick a0 (a1.length : Int)).bind fun x1 =>
  if decide (0 ≤ x1.1) then
   (a1[x1.1.toNat]?).bind fun x2 =>
    some (x2,(x1.2.1,x1.2.2.1,x1.2.2.2.1,()))
  else
   none :=
 (mk_f _ _ _ _ _ _ _ 4000).trans (by kernel_rfl)
def spec_l00Src_one_ir : Fn := { np := 2,io := [true,false],res := [.t 4],own := [false],body :=
 (.seq (.reg false [.V 4 (.asg (.c (.bool false)))] [0,1] [0,1000]) (.seq (.reg false [.V 5 (.mv (.t 0)),.V 6 (.mv (.t 1)),.W 7 (.call (.c (.fn 463 [])) [.t 5,.t 6]),.V 8 (.bin .eql (.t 7) (.c (.int .i64 0))),.V 4 (.asg (.t 8))] [0,4] [0,1000]) .ret)) }
noncomputable def spec_l00Src_one_D : List (Nat × Callee) := [(463,spec_l00Src_pick_c)]
def spec_l00Src_one_H : List (Nat × ET) := []
noncomputable def spec_l00Src_one_c : Callee := mkCallee spec_l00Src_one_D spec_l00Src_one_H spec_l00Src_one_ir [.box T_l00Src,.d (.one (.int .i64))] [.d (.one .bool)] [.box T_l00Src]
noncomputable def spec_l00Src_one (a0 : T_l00Src.ty) (a1 : Int) : Option (Bool × T_l00Src.ty) := spec_l00Src_one_c.f (a0,a1,())
theorem spec_l00Src_one_eq (a0 : T_l00Src.ty) (a1 : Int) : spec_l00Src_one a0 a1 =
 (spec_l00Src_pick a0 a1).bind fun x1 =>
  some ((x1.1 == 0),(x1.2.1,x1.2.2.1,x1.2.2.2.1,())) :=
 (mk_f _ _ _ _ _ _ _ 4000).trans (by kernel_rfl)
def spec_l00Src_word_k0 : C :=
 .seq (.seq (.reg false [.V 11 (.mv (.t 6)),.V 12 (.bin .gtr (.t 11) (.c (.int .i64 0)))] [0,5,6,12] [0,5,1000]) (.cond (.t 12) .skip (.exit 0))) (.seq (.block 1 (.reg false [.V 15 (.mv (.t 5)),.V 16 (.mv (.t 0)),.W 17 (.call (.c (.fn 847 [])) [.t 16]),.V 18 (.conv (.int .u8) (.t 17)),.V 19 (.bsl 1 (.int .u8 0) 1 [(0,.t 18)]),.W 20 (.app 1 1 (.t 15) (.t 19)),.W 5 (.asg (.t 20))] [0,5,6] [0,5,1000])) (.reg false [.V 13 (.mv (.t 6)),.V 14 (.bin .sub (.t 13) (.c (.int .i64 1))),.V 6 (.asg (.t 14))] [0,5,6] [0,5,1000]))
def spec_l00Src_word_k1 : C :=
 .norm [0,5,6] [0,5,1000] spec_l00Src_word_k0
def spec_l00Src_word_k2 : C :=
 .seq (.reg false [.V 21 (.mv (.t 5)),.V 22 (.conv .bytesStr (.t 21)),.V 4 (.asg (.t 22))] [0,4] [0,1000]) .ret
def spec_l00Src_word_ir : Fn := { np := 2,io := [true,false],res := [.t 4],own := [false],body :=
 (.seq (.reg false [.V 4 (.asg (.c (.str [])))] [0,1] [0,1000]) (.seq (.reg false [.V 7 (.bsl 1 (.int .u8 0) 0 []),.W 5 (.asg (.t 7))] [0,1,5] [0,5,1000]) (.seq (.seq (.reg false [.V 8 (.mv (.t 0)),.V 9 (.mv (.t 1)),.W 10 (.call (.c (.fn 463 [])) [.t 8,.t 9]),.V 6 (.asg (.t 10))] [0,5,6] [0,5,1000]) (.block 0 (.loop spec_l00Src_word_k1))) spec_l00Src_word_k2))) }
noncomputable def spec_l00Src_word_D : List (Nat × Callee) := [(463,spec_l00Src_pick_c),(847,spec_l00Src_next_c)]
def spec_l00Src_word_H : List (Nat × ET) := [(5,(.one (.int .u8))),(7,(.one (.int .u8))),(15,(.one (.int .u8))),(19,(.one (.int .u8))),(20,(.one (.int .u8))),(21,(.one (.int .u8)))]
noncomputable def spec_l00Src_word_c : Callee := mkCallee spec_l00Src_word_D spec_l00Src_word_H spec_l00Src_word_ir [.box T_l00Src,.d (.one (.int .i64))] [.d (.one .str)] [.box T_l00Src]
noncomputable def spec_l00Src_word (a0 : T_l00Src.ty) (a1 : Int) : Option (List UInt8 × T_l00Src.ty) := spec_l00Src_word_c.f (a0,a1,())
noncomputable def spec_l00Src_word_p0  (v6 : Int) (r0_0 : List Int) (r0_1 : Int) (r0_2 : Int) (r5 : List Int) : Option (List UInt8 × T_l00Src.ty) :=
 goL spec_l00Src_word_D spec_l00Src_word_H (vleave spec_l00Src_word_ir [.box T_l00Src,.d (.one (.int .i64))] [.d (.one .str)] [.box T_l00Src] []) [.c spec_l00Src_word_k0,.l spec_l00Src_word_k1,.e 0,.c spec_l00Src_word_k2]
  ⟨[(0,.loc 0 0 0),(5,.view 5 0 r5.length),(6,.int .i64 v6)],[(0,some (.var 3 (.agg [.sl (.one (.int .u8)) r0_0,.int .i64 r0_1,.int .u64 r0_2]))),(5,some (.sl (.one (.int .u8)) r5)),(1000,none)]⟩
theorem spec_l00Src_word_eq (a0 : T_l00Src.ty) (a1 : Int) : spec_l00Src_word a0 a1 =
 (spec_l00Src_pick a0 a1).bind fun x1 =>
  spec_l00Src_word_p0 x1.1 x1.2.1 x1.2.2.1 x1.2.2.2.1 [] :=
 (mk_f _ _ _ _ _ _ _ 4000).trans (by kernel_rfl)
theorem spec_l00Src_word_p0_eq  (v6 : Int) (r0_0 : List Int) (r0_1 : Int) (r0_2 : Int) (r5 : List Int) : spec_l00Src_word_p0 v6 r0_0 r0_1 r0_2 r5 =
 if decide (v6 > 0) then
  (spec_l00Src_next (r0_0,r0_1,r0_2,())).bind fun x1 =>
   if decide (r5.length + 1 < lim) then
    spec_l00Src_word_p0 (IntKind.i64.wrap (v6 - 1)) x1.2.1 x1.2.2.1 x1.2.2.2.1 ((r5.take r5.length) ++ [IntKind.u8.wrap x1.1])
   else
    none
 else
  some (((r5.take r5.length).map vu8),(r0_0,r0_1,r0_2,())) :=
 (goL_dn _ _ _ 4000 _ _).trans (by kernel_rfl)
def spec_l21DrawOne_ir : Fn := { np := 2,io := [true,false],res := [.cell 4 (some 5)],own := [false],body :=
 (.seq (.reg false [.W 4 (.alloc 5 (.agg [.str [],.str [],.int .i64 0,.int .i64 0,.int .i64 0]))] [0,1,4] [0,4,1000]) (.seq (.reg false [.V 6 (.mv (.t 1)),.V 7 (.mv (.t 0)),.V 8 (.bsl 1 (.str []) 3 [(0,.c (.str [118,105,111,108,97])),(1,.c (.str [118,105,111,108,105,110])),(2,.c (.str [118,105,111,108,105,110,50]))]),.W 9 (.call (.c (.fn 557 [])) [.t 7,.t 8]),.V 10 (.mv (.t 0)),.W 11 (.call (.c (.fn 463 [])) [.t 10,.c (.int .i64 90)]),.V 12 (.bin .mul (.c (.int .i64 10)) (.t 11)),.V 13 (.build [.str [],.str [],.int .i64 0,.int .i64 0,.int .i64 0] [(0,1,.t 6),(1,1,.t 9),(2,1,.t 12)]),.W 5 (.alloc 5 (.agg [.str [],.str [],.int .i64 0,.int .i64 0,.int .i64 0])),⟨none,true,.sto 5 (.t 5) (.t 13),none,false,[]⟩] [0,4,5] [0,4,5,1000]) (.seq (.reg false [.V 14 (.mv (.t 0)),.W 15 (.call (.c (.fn 463 [])) [.t 14,.c (.int .i64 12)]),.V 16 (.bin .add (.c (.int .i64 1)) (.t 15)),.V 17 (.fa 3 (.t 5)),⟨none,true,.sto 1 (.t 17) (.t 16),none,false,[]⟩] [0,4,5] [0,4,5,1000]) (.seq (.reg false [.V 18 (.mv (.t 0)),.W 19 (.call (.c (.fn 463 [])) [.t 18,.c (.int .i64 50)]),.V 20 (.bin .mul (.c (.int .i64 100)) (.t 19)),.V 21 (.fa 4 (.t 5)),⟨none,true,.sto 1 (.t 21) (.t 20),none,false,[]⟩] [0,4,5] [0,4,5,1000]) (.seq (.reg false [.V 22 (.ld (some 5) (.t 5)),⟨none,true,.sto 5 (.t 4) (.t 22),none,false,[]⟩] [0,4] [0,4,1000]) .ret))))) }
noncomputable def spec_l21DrawOne_D : List (Nat × Callee) := [(463,spec_l00Src_pick_c),(557,spec_l00Src_text_c)]
def spec_l21DrawOne_H : List (Nat × ET) := [(8,(.one .str))]
noncomputable def spec_l21DrawOne_c : Callee := mkCallee spec_l21DrawOne_D spec_l21DrawOne_H spec_l21DrawOne_ir [.box T_l00Src,.d (.one .str)] [.d T_Paper] [.box T_l00Src]
noncomputable def spec_l21DrawOne (a0 : T_l00Src.ty) (a1 : List UInt8) : Option (T_Paper.ty × T_l00Src.ty) := spec_l21DrawOne_c.f (a0,a1,())
theorem spec_l21DrawOne_eq (a0 : T_l00Src.ty) (a1 : List UInt8) : spec_l21DrawOne a0 a1 =
 (spec_l00Src_text a0 [[118,105,111,108,97],[118,105,111,108,105,110],[118,105,111,108,105,110,50]]).bind fun x1 =>
  (spec_l00Src_pick (x1.2.1,x1.2.2.1,x1.2.2.2.1,()) 90).bind fun x2 =>
   (spec_l00Src_pick (x2.2.1,x2.2.2.1,x2.2.2.2.1,()) 12).bind fun x3 =>
    (spec_l00Src_pick (x3.2.1,x3.2.2.1,x3.2.2.2.1,()) 50).bind fun x4 =>
     some ((a1,x1.1,IntKind.i64.wrap (10 * x2.1),IntKind.i64.wrap (1 + x3.1),IntKind.i64.wrap (100 * x4.1),()),(x4.2.1,x4.2.2.1,x4.2.2.2.1,())) :=
 (mk_f _ _ _ _ _ _ _ 4000).trans (by kernel_rfl)
def spec_l01Dec_k0 : C :=
 .reg false [.V 22 (.mv (.t 3)),.V 23 (.mv (.t 5)),.V 24 (.bin .add (.c (.int .i64 48)) (.t 23)),.V 25 (.conv (.int .u8) (.t 24)),.V 26 (.bsl 1 (.int .u8 0) 1 [(0,.t 25)]),.W 27 (.app 1 1 (.t 22) (.t 26)),.W 3 (.asg (.t 27))] [0,3,4] [3]
def spec_l01Dec_k1 : C :=
 .reg false [.V 14 (.mv (.t 4)),.V 15 (.bin .quo (.t 14) (.c (.int .i64 10))),.V 4 (.asg (.t 15))] [0,3,4] [3]
def spec_l01Dec_k2 : C :=
 .seq (.seq (.reg false [.V 12 (.mv (.t 4)),.V 13 (.bin .neq (.t 12) (.c (.int .i64 0)))] [0,3,4,13] [3]) (.cond (.t 13) .skip (.exit 0))) (.seq (.block 1 (.seq (.reg false [.V 16 (.mv (.t 4)),.V 17 (.bin .rem (.t 16) (.c (.int .i64 10))),.V 5 (.asg (.t 17))] [0,3,4,5] [3]) (.seq (.seq (.reg false [.V 18 (.mv (.t 5)),.V 19 (.bin .lss (.t 18) (.c (.int .i64 0)))] [0,3,4,5,19] [3]) (.cond (.t 19) (.reg false [.V 20 (.mv (.t 5)),.V 21 (.un .neg (.t 20)),.V 5 (.asg (.t 21))] [0,3,4,5] [3]) .skip)) (.norm [0,3,4,5] [3] spec_l01Dec_k0)))) spec_l01Dec_k1)
def spec_l01Dec_k3 : C :=
 .norm [0,3,4] [3] spec_l01Dec_k2
def spec_l01Dec_k4 : C :=
 .seq (.seq (.reg false [.V 37 (.mv (.t 7)),.V 38 (.bin .geq (.t 37) (.c (.int .i64 0)))] [3,6,7,38] [3,6]) (.cond (.t 38) .skip (.exit 2))) (.seq (.block 3 (.reg false [.V 41 (.mv (.t 6)),.V 42 (.mv (.t 3)),.V 43 (.mv (.t 7)),.V 44 (.ia 1 (.t 42) (.t 43)),.V 45 (.ld none (.t 44)),.V 46 (.bsl 1 (.int .u8 0) 1 [(0,.t 45)]),.W 47 (.app 1 1 (.t 41) (.t 46)),.W 6 (.asg (.t 47))] [3,6,7] [3,6])) (.reg false [.V 39 (.mv (.t 7)),.V 40 (.bin .sub (.t 39) (.c (.int .i64 1))),.V 7 (.asg (.t 40))] [3,6,7] [3,6]))
def spec_l01Dec_k5 : C :=
 .norm [3,6,7] [3,6] spec_l01Dec_k4
def spec_l01Dec_k6 : C :=
 .seq (.reg false [.V 48 (.mv (.t 6)),.V 49 (.conv .bytesStr (.t 48)),.V 2 (.asg (.t 49))] [2] []) .ret
def spec_l01Dec_k7 : C :=
 .seq (.reg false [.V 33 (.bsl 1 (.int .u8 0) 0 []),.W 6 (.asg (.t 33))] [3,6] [3,6]) (.seq (.seq (.reg false [.V 34 (.mv (.t 3)),.V 35 (.len (.t 34)),.V 36 (.bin .sub (.t 35) (.c (.int .i64 1))),.V 7 (.asg (.t 36))] [3,6,7] [3,6]) (.block 2 (.loop spec_l01Dec_k5))) spec_l01Dec_k6)
def spec_l01Dec_k8 : C :=
 .seq (.seq (.reg false [.V 28 (.mv (.t 0)),.V 29 (.bin .lss (.t 28) (.c (.int .i64 0)))] [3,29] [3]) (.cond (.t 29) (.reg false [.V 30 (.mv (.t 3)),.V 31 (.bsl 1 (.int .u8 0) 1 [(0,.c (.int .u8 45))]),.W 32 (.app 1 1 (.t 30) (.t 31)),.W 3 (.asg (.t 32))] [3] [3]) .skip)) (.norm [3] [3] spec_l01Dec_k7)
def spec_l01Dec_ir : Fn := { np := 1,io := [],res := [.t 2],own := [false],body :=
 (.seq (.reg false [.V 2 (.asg (.c (.str [])))] [0] []) (.seq (.seq (.reg false [.V 8 (.mv (.t 0)),.V 9 (.bin .eql (.t 8) (.c (.int .i64 0)))] [0,9] []) (.cond (.t 9) (.seq (.reg false [.V 2 (.asg (.c (.str [48])))] [2] []) .ret) .skip)) (.seq (.reg false [.V 10 (.bsl 1 (.int .u8 0) 0 []),.W 3 (.asg (.t 10))] [0,3] [3]) (.seq (.seq (.reg false [.V 11 (.mv (.t 0)),.V 4 (.asg (.t 11))] [0,3,4] [3]) (.block 0 (.loop spec_l01Dec_k3))) spec_l01Dec_k8)))) }
noncomputable def spec_l01Dec_D : List (Nat × Callee) := []
def spec_l01Dec_H : List (Nat × ET) := [(3,(.one (.int .u8))),(6,(.one (.int .u8))),(10,(.one (.int .u8))),(22,(.one (.int .u8))),(26,(.one (.int .u8))),(27,(.one (.int .u8))),(30,(.one (.int .u8))),(31,(.one (.int .u8))),(32,(.one (.int .u8))),(33,(.one (.int .u8))),(34,(.one (.int .u8))),(41,(.one (.int .u8))),(42,(.one (.int .u8))),(46,(.one (.int .u8))),(47,(.one (.int .u8))),(48,(.one (.int .u8)))]
noncomputable def spec_l01Dec_c : Callee := mkCallee spec_l01Dec_D spec_l01Dec_H spec_l01Dec_ir [.d (.one (.int .i64))] [.d (.one .str)] []
noncomputable def spec_l01Dec (a0 : Int) : Option (List UInt8) := spec_l01Dec_c.f (a0,())
noncomputable def spec_l01Dec_p0  (v0 : Int) (v4 : Int) (r3 : List Int) : Option (List UInt8) :=
 goL spec_l01Dec_D spec_l01Dec_H (vleave spec_l01Dec_ir [.d (.one (.int .i64))] [.d (.one .str)] [] []) [.c spec_l01Dec_k2,.l spec_l01Dec_k3,.e 0,.c spec_l01Dec_k8]
  ⟨[(0,.int .i64 v0),(3,.view 3 0 r3.length),(4,.int .i64 v4)],[(3,some (.sl (.one (.int .u8)) r3))]⟩
noncomputable def spec_l01Dec_p1  (v0 : Int) (v4 : Int) (v5 : Int) (r3 : List Int) : Option (List UInt8) :=
 goL spec_l01Dec_D spec_l01Dec_H (vleave spec_l01Dec_ir [.d (.one (.int .i64))] [.d (.one .str)] [] []) [.c spec_l01Dec_k0,.e 1,.c spec_l01Dec_k1,.l spec_l01Dec_k3,.e 0,.c spec_l01Dec_k8]
  ⟨[(0,.int .i64 v0),(3,.view 3 0 r3.length),(4,.int .i64 v4),(5,.int .i64 v5)],[(3,some (.sl (.one (.int .u8)) r3))]⟩
noncomputable def spec_l01Dec_p2  (r3 : List Int) : Option (List UInt8) :=
 goL spec_l01Dec_D spec_l01Dec_H (vleave spec_l01Dec_ir [.d (.one (.int .i64))] [.d (.one .str)] [] []) [.c spec_l01Dec_k7]
  ⟨[(3,.view 3 0 r3.length)],[(3,some (.sl (.one (.int .u8)) r3))]⟩
noncomputable def spec_l01Dec_p3  (v7 : Int) (r3 : List Int) (r6 : List Int) : Option (List UInt8) :=
 goL spec_l01Dec_D spec_l01Dec_H (vleave spec_l01Dec_ir [.d (.one (.int .i64))] [.d (.one .str)] [] []) [.c spec_l01Dec_k4,.l spec_l01Dec_k5,.e 2,.c spec_l01Dec_k6]
  ⟨[(3,.view 3 0 r3.length),(6,.view 6 0 r6.length),(7,.int .i64 v7)],[(3,some (.sl (.one (.int .u8)) r3)),(6,some (.sl (.one (.int .u8)) r6))]⟩
theorem spec_l01Dec_eq (a0 : Int) : spec_l01Dec a0 =
 if (a0 == 0) then
  some [48]
 else
  spec_l01Dec_p0 a0 a0 [] :=
 (mk_f _ _ _ _ _ _ _ 4000).trans (by kernel_rfl)
theorem spec_l01Dec_p0_eq  (v0 : Int) (v4 : Int) (r3 : List Int) : spec_l01Dec_p0 v0 v4 r3 =
 if (v4 != 0) then
  if decide (v4.tmod 10 < 0) then
   spec_l01Dec_p1 v0 v4 (IntKind.i64.wrap (0 - (v4.tmod 10))) r3
  else
   spec_l01Dec_p1 v0 v4 (v4.tmod 10) r3
 else
  if decide (v0 < 0) then
   if decide (r3.length + 1 < lim) then
    spec_l01Dec_p2 ((r3.take r3.length) ++ [45])
   else
    none
  else
   spec_l01Dec_p2 r3 :=
 (goL_dn _ _ _ 4000 _ _).trans (by kernel_rfl)
theorem spec_l01Dec_p1_eq  (v0 : Int) (v4 : Int) (v5 : Int) (r3 : List Int) : spec_l01Dec_p1 v0 v4 v5 r3 =
 if decide (r3.length + 1 < lim) then
  spec_l01Dec_p0 v0 (IntKind.i64.wrap (v4.tdiv 10)) ((r3.take r3.length) ++ [IntKind.u8.wrap (IntKind.i64.wrap (48 + v5))])
 else
  none :=
 (goL_dn _ _ _ 4000 _ _).trans (by kernel_rfl)
theorem spec_l01Dec_p2_eq  (r3 : List Int) : spec_l01Dec_p2 r3 =
 spec_l01Dec_p3 (IntKind.i64.wrap ((r3.length : Int) - 1)) r3 [] :=
 (goL_dn _ _ _ 4000 _ _).trans (by kernel_rfl)
theorem spec_l01Dec_p3_eq  (v7 : Int) (r3 : List Int) (r6 : List Int) : spec_l01Dec_p3 v7 r3 r6 =
 if decide (v7 ≥ 0) then
  if decide (0 ≤ v7) && decide (v7 < (r3.length : Int)) then
   (r3[v7.toNat]?).bind fun x1 =>
    if decide (r6.length + 1 < lim) then
     spec_l01Dec_p3 (IntKind.i64.wrap (v7 - 1)) r3 ((r6.take r6.length) ++ [x1])
    else
     none
  else
   none
 else
  some ((r6.take r6.length).map vu8) :=
 (goL_dn _ _ _ 4000 _ _).trans (by kernel_rfl)
def spec_l01List_k0 : C :=
 .reg false [.V 18 (.mv (.t 3)),.V 19 (.mv (.t 0)),.V 20 (.mv (.t 4)),.V 21 (.ia 1 (.t 19) (.t 20)),.V 22 (.ld none (.t 21)),.V 23 (.call (.c (.fn 726 [])) [.t 22]),.V 24 (.bin .add (.t 18) (.t 23)),.V 3 (.asg (.t 24))] [0,3,4] []
def spec_l01List_k1 : C :=
 .reg false [.V 12 (.mv (.t 4)),.V 13 (.bin .add (.t 12) (.c (.int .i64 1))),.V 4 (.asg (.t 13))] [0,3,4] []
def spec_l01List_k2 : C :=
 .seq (.seq (.reg false [.V 8 (.mv (.t 4)),.V 9 (.mv (.t 0)),.V 10 (.len (.t 9)),.V 11 (.bin .lss (.t 8) (.t 10))] [0,3,4,11] []) (.cond (.t 11) .skip (.exit 0))) (.seq (.block 1 (.seq (.seq (.reg false [.V 14 (.mv (.t 4)),.V 15 (.bin .gtr (.t 14) (.c (.int .i64 0)))] [0,3,4,15] []) (.cond (.t 15) (.reg false [.V 16 (.mv (.t 3)),.V 17 (.bin .add (.t 16) (.c (.str [44]))),.V 3 (.asg (.t 17))] [0,3,4] []) .skip)) (.norm [0,3,4] [] spec_l01List_k0))) spec_l01List_k1)
def spec_l01List_k3 : C :=
 .norm [0,3,4] [] spec_l01List_k2
def spec_l01List_k4 : C :=
 .seq (.reg false [.V 25 (.mv (.t 3)),.V 2 (.asg (.t 25))] [2] []) .ret
def spec_l01List_ir : Fn := { np := 1,io := [],res := [.t 2],own := [false],body :=
 (.seq (.reg false [.V 2 (.asg (.c (.str [])))] [0] []) (.seq (.seq (.reg false [.V 5 (.mv (.t 0)),.V 6 (.len (.t 5)),.V 7 (.bin .eql (.t 6) (.c (.int .i64 0)))] [0,7] []) (.cond (.t 7) (.seq (.reg false [.V 2 (.asg (.c (.str [45])))] [2] []) .ret) .skip)) (.seq (.reg false [.V 3 (.asg (.c (.str [])))] [0,3] []) (.seq (.seq (.reg false [.V 4 (.asg (.c (.int .i64 0)))] [0,3,4] []) (.block 0 (.loop spec_l01List_k3))) spec_l01List_k4)))) }
noncomputable def spec_l01List_D : List (Nat × Callee) := [(726,spec_l01Dec_c)]
def spec_l01List_H : List (Nat × ET) := [(5,(.one (.int .i64))),(9,(.one (.int .i64))),(19,(.one (.int .i64)))]
noncomputable def spec_l01List_c : Callee := mkCallee spec_l01List_D spec_l01List_H spec_l01List_ir [.d (.one (.sl (.one (.int .i64))))] [.d (.one .str)] []
noncomputable def spec_l01List (a0 : List Int) : Option (List UInt8) := spec_l01List_c.f (a0,())
noncomputable def spec_l01List_p0  (v0 : List Int) (v3 : List UInt8) (v4 : Int) : Option (List UInt8) :=
 goL spec_l01List_D spec_l01List_H (vleave spec_l01List_ir [.d (.one (.sl (.one (.int .i64))))] [.d (.one .str)] [] []) [.c spec_l01List_k2,.l spec_l01List_k3,.e 0,.c spec_l01List_k4]
  ⟨[(0,.sl (.one (.int .i64)) v0),(3,.str v3),(4,.int .i64 v4)],[]⟩
noncomputable def spec_l01List_p1  (v0 : List Int) (v3 : List UInt8) (v4 : Int) : Option (List UInt8) :=
 goL spec_l01List_D spec_l01List_H (vleave spec_l01List_ir [.d (.one (.sl (.one (.int .i64))))] [.d (.one .str)] [] []) [.c spec_l01List_k0,.e 1,.c spec_l01List_k1,.l spec_l01List_k3,.e 0,.c spec_l01List_k4]
  ⟨[(0,.sl (.one (.int .i64)) v0),(3,.str v3),(4,.int .i64 v4)],[]⟩
theorem spec_l01List_eq (a0 : List Int) : spec_l01List a0 =
 if ((a0.length : Int) == 0) then
  some [45]
 else
  spec_l01List_p0 a0 [] 0 :=
 (mk_f _ _ _ _ _ _ _ 4000).trans (by kernel_rfl)
theorem spec_l01List_p0_eq  (v0 : List Int) (v3 : List UInt8) (v4 : Int) : spec_l01List_p0 v0 v3 v4 =
 if decide (v4 < (v0.length : Int)) then
  if decide (v4 > 0) then
   if decide (v3.length + [44].length ≤ strMax) then
    spec_l01List_p1 v0 (v3 ++ [44]) v4
   else
    none
  else
   spec_l01List_p1 v0 v3 v4
 else
  some v3 :=
 (goL_dn _ _ _ 4000 _ _).trans (by kernel_rfl)
theorem spec_l01List_p1_eq  (v0 : List Int) (v3 : List UInt8) (v4 : Int) : spec_l01List_p1 v0 v3 v4 =
 if decide (0 ≤ v4) then
  (v0[v4.toNat]?).bind fun x1 =>
   (spec_l01Dec x1).bind fun x2 =>
    if decide (v3.length + x2.length ≤ strMax) then
     spec_l01List_p0 v0 (v3 ++ x2) (IntKind.i64.wrap (v4 + 1))
    else
     none
 else
  none :=
 (goL_dn _ _ _ 4000 _ _).trans (by kernel_rfl)
def spec_l21Text_ir : Fn := { np := 1,io := [],res := [.t 2],own := [false],body :=
 (.seq (.reg false [.V 2 (.asg (.c (.str [])))] [0] []) (.seq (.reg true [.V 3 (.mv (.t 0)),.V 4 (.nilck (.t 3)),.V 5 (.fa 0 (.t 4)),.V 6 (.ld none (.t 5)),.V 7 (.bin .add (.t 6) (.c (.str [32]))),.V 8 (.mv (.t 0)),.V 9 (.nilck (.t 8)),.V 10 (.fa 1 (.t 9)),.V 11 (.ld none (.t 10)),.V 12 (.bin .add (.t 7) (.t 11)),.V 13 (.bin .add (.t 12) (.c (.str [32]))),.V 14 (.mv (.t 0)),.V 15 (.nilck (.t 14)),.V 16 (.fa 2 (.t 15)),.V 17 (.ld none (.t 16)),.V 18 (.mv (.t 0)),.V 19 (.nilck (.t 18)),.V 20 (.fa 3 (.t 19)),.V 21 (.ld none (.t 20)),.V 22 (.mv (.t 0)),.V 23 (.nilck (.t 22)),.V 24 (.fa 4 (.t 23)),.V 25 (.ld none (.t 24)),.V 26 (.bsl 1 (.int .i64 0) 3 [(0,.t 17),(1,.t 21),(2,.t 25)]),.V 27 (.call (.c (.fn 963 [])) [.t 26]),.V 28 (.bin .add (.t 13) (.t 27)),.V 2 (.asg (.t 28))] [2] []) .ret)) }
noncomputable def spec_l21Text_D : List (Nat × Callee) := [(963,spec_l01List_c)]
def spec_l21Text_H : List (Nat × ET) := [(26,(.one (.int .i64)))]
noncomputable def spec_l21Text_c : Callee := mkCallee spec_l21Text_D spec_l21Text_H spec_l21Text_ir [.p T_Paper] [.d (.one .str)] []
noncomputable def spec_l21Text (a0 : T_Paper.ty) : Option (List UInt8) := spec_l21Text_c.f (a0,())
theorem spec_l21Text_eq (a0 : T_Paper.ty) : spec_l21Text a0 =
 if decide (a0.1.length + [32].length ≤ strMax) then
  if decide ((a0.1 ++ [32]).length + a0.2.1.length ≤ strMax) then
   if decide (((a0.1 ++ [32]) ++ a0.2.1).length + [32].length ≤ strMax) then
    (spec_l01List [a0.2.2.1,a0.2.2.2.1,a0.2.2.2.2.1]).bind fun x1 =>
     if decide ((((a0.1 ++ [32]) ++ a0.2.1) ++ [32]).length + x1.length ≤ strMax) then
      some ((((a0.1 ++ [32]) ++ a0.2.1) ++ [32]) ++ x1)
     else
      none
   else
    none
  else
   none
 else
  none :=
 (mk_f _ _ _ _ _ _ _ 4000).trans (by kernel_rfl)
def spec_l29DrawOne_k0 : C :=
 .seq (.reg false [.V 32 (.mv (.t 0)),.V 33 (.fa 1 (.t 3)),.V 34 (.ld none (.t 33)),.W 35 (.call (.c (.fn 992 [])) [.t 32,.t 34]),.W 4 (.alloc 5 (.agg [.str [],.str [],.int .i64 0,.int .i64 0,.int .i64 0])),⟨none,true,.sto 5 (.t 4) (.t 35),none,false,[]⟩] [0,2,3,4] [0,2,3,4,1000]) (.reg false [.V 36 (.call (.c (.fn 833 [])) [.t 4]),.V 37 (.fa 2 (.t 3)),⟨none,true,.sto 1 (.t 37) (.t 36),none,false,[]⟩] [0,2,3] [0,2,3,1000])
def spec_l29DrawOne_k1 : C :=
 .seq (.seq (.reg false [.V 38 (.mv (.t 0)),.W 39 (.call (.c (.fn 642 [])) [.t 38,.c (.int .i64 24)])] [0,2,3,39] [0,2,3,1000]) (.cond (.t 39) (.reg false [.V 40 (.mv (.t 0)),.W 41 (.call (.c (.fn 463 [])) [.t 40,.c (.int .i64 3)]),.V 42 (.bin .add (.c (.int .i64 399)) (.t 41)),.V 43 (.mks 1 1 (.int .u8 0) (.t 42) (.t 42)),.V 44 (.conv .bytesStr (.t 43)),.V 45 (.fa 2 (.t 3)),⟨none,true,.sto 1 (.t 45) (.t 44),none,false,[]⟩] [0,2,3] [0,2,3,1000]) .skip)) (.seq (.reg false [.V 46 (.ld (some 3) (.t 3)),⟨none,true,.sto 3 (.t 2) (.t 46),none,false,[]⟩] [0,2] [0,2,1000]) .ret)
def spec_l29DrawOne_k2 : C :=
 .norm [0,2,3] [0,2,3,1000] spec_l29DrawOne_k1
def spec_l29DrawOne_k3 : C :=
 .seq (.seq (.reg false [.V 25 (.fa 0 (.t 3)),.V 26 (.ld none (.t 25)),.V 27 (.bin .eql (.t 26) (.c (.str [114,101,110,116,97,108]))),.V 28 (.mv (.t 27)),.G 29 (.mv (.t 0)) 3 true,⟨some 30,true,.call (.c (.fn 642 [])) [.t 29,.c (.int .i64 2)],some (3,true),false,[]⟩,.V 31 (.pick (.t 28) (.t 30) (.c (.bool false)))] [0,2,3,31] [0,2,3,1000]) (.cond (.t 31) (.norm [0,2,3] [0,2,3,1000] spec_l29DrawOne_k0) .skip)) spec_l29DrawOne_k2
def spec_l29DrawOne_ir : Fn := { np := 1,io := [true],res := [.cell 2 (some 3)],own := [false],body :=
 (.seq (.reg false [.W 2 (.alloc 3 (.agg [.str [],.str [],.str []]))] [0,2] [0,2,1000]) (.seq (.reg false [.V 5 (.mv (.t 0)),.V 6 (.bsl 1 (.str []) 3 [(0,.c (.str [114,101,110,116,97,108])),(1,.c (.str [110,111,116,101])),(2,.c (.str [102,97,99,101]))]),.W 7 (.call (.c (.fn 557 [])) [.t 5,.t 6]),.V 8 (.build [.str [],.str [],.str []] [(0,1,.t 7)]),.W 3 (.alloc 3 (.agg [.str [],.str [],.str []])),⟨none,true,.sto 3 (.t 3) (.t 8),none,false,[]⟩] [0,2,3] [0,2,3,1000]) (.seq (.reg false [.V 9 (.mv (.t 0)),.V 10 (.bsl 1 (.str []) 4 [(0,.c (.str [97])),(1,.c (.str [98])),(2,.c (.str [99])),(3,.c (.str [100]))]),.W 11 (.call (.c (.fn 557 [])) [.t 9,.t 10]),.V 12 (.fa 1 (.t 3)),⟨none,true,.sto 1 (.t 12) (.t 11),none,false,[]⟩] [0,2,3] [0,2,3,1000]) (.seq (.reg false [.V 13 (.mv (.t 0)),.V 14 (.bsl 1 (.str []) 5 [(0,.c (.str [])),(1,.c (.str [120])),(2,.c (.str [97,32,98,32,99])),(3,.c (.str [49,50,32,51,52])),(4,.c (.str [111,97,107,47,52,48]))]),.W 15 (.call (.c (.fn 557 [])) [.t 13,.t 14]),.V 16 (.fa 2 (.t 3)),⟨none,true,.sto 1 (.t 16) (.t 15),none,false,[]⟩] [0,2,3] [0,2,3,1000]) (.seq (.seq (.reg false [.V 17 (.mv (.t 0)),.W 18 (.call (.c (.fn 642 [])) [.t 17,.c (.int .i64 4)])] [0,2,3,18] [0,2,3,1000]) (.cond (.t 18) (.reg true [⟨some 19,false,.fa 2 (.t 3),none,false,[1000000]⟩,⟨some 20,false,.ld none (.t 19),none,true,[]⟩,.V 21 (.mv (.t 0)),⟨some 22,true,.call (.c (.fn 1026 [])) [.t 21,.c (.int .i64 9)],none,false,[3,19]⟩,.V 23 (.bin .add (.t 20) (.t 22)),.V 24 (.fa 2 (.t 3)),⟨none,true,.sto 1 (.t 24) (.t 23),none,false,[]⟩] [0,2,3] [0,2,3,1000]) .skip)) (.norm [0,2,3] [0,2,3,1000] spec_l29DrawOne_k3)))))) }
noncomputable def spec_l29DrawOne_D : List (Nat × Callee) := [(463,spec_l00Src_pick_c),(557,spec_l00Src_text_c),(642,spec_l00Src_one_c),(833,spec_l21Text_c),(992,spec_l21DrawOne_c),(1026,spec_l00Src_word_c)]
def spec_l29DrawOne_H : List (Nat × ET) := [(6,(.one .str)),(10,(.one .str)),(14,(.one .str)),(43,(.one (.int .u8)))]
noncomputable def spec_l29DrawOne_c : Callee := mkCallee spec_l29DrawOne_D spec_l29DrawOne_H spec_l29DrawOne_ir [.box T_l00Src] [.d T_Block] [.box T_l00Src]
noncomputable def spec_l29DrawOne (a0 : T_l00Src.ty) : Option (T_Block.ty × T_l00Src.ty) := spec_l29DrawOne_c.f (a0,())
noncomputable def spec_l29DrawOne_p0  (r0_0 : List Int) (r0_1 : Int) (r0_2 : Int) (r2_0 : List UInt8) (r2_1 : List UInt8) (r2_2 : List UInt8) (r3_0 : List UInt8) (r3_1 : List UInt8) (r3_2 : List UInt8) : Option (T_Block.ty × T_l00Src.ty) :=
 goL spec_l29DrawOne_D spec_l29DrawOne_H (vleave spec_l29DrawOne_ir [.box T_l00Src] [.d T_Block] [.box T_l00Src] []) [.c spec_l29DrawOne_k3]
  ⟨[(0,.loc 0 0 0),(2,.loc 2 0 0),(3,.loc 3 0 0)],[(0,some (.var 3 (.agg [.sl (.one (.int .u8)) r0_0,.int .i64 r0_1,.int .u64 r0_2]))),(2,some (.var 3 (.agg [.str r2_0,.str r2_1,.str r2_2]))),(3,some (.var 3 (.agg [.str r3_0,.str r3_1,.str r3_2]))),(1000,none)]⟩
noncomputable def spec_l29DrawOne_p1  (r0_0 : List Int) (r0_1 : Int) (r0_2 : Int) (r2_0 : List UInt8) (r2_1 : List UInt8) (r2_2 : List UInt8) (r3_0 : List UInt8) (r3_1 : List UInt8) (r3_2 : List UInt8) : Option (T_Block.ty × T_l00Src.ty) :=
 goL spec_l29DrawOne_D spec_l29DrawOne_H (vleave spec_l29DrawOne_ir [.box T_l00Src] [.d T_Block] [.box T_l00Src] []) [.c spec_l29DrawOne_k0,.c spec_l29DrawOne_k2]
  ⟨[(0,.loc 0 0 0),(2,.loc 2 0 0),(3,.loc 3 0 0)],[(0,some (.var 3 (.agg [.sl (.one (.int .u8)) r0_0,.int .i64 r0_1,.int .u64 r0_2]))),(2,some (.var 3 (.agg [.str r2_0,.str r2_1,.str r2_2]))),(3,some (.var 3 (.agg [.str r3_0,.str r3_1,.str r3_2]))),(1000,none)]⟩
noncomputable def spec_l29DrawOne_p2  (r0_0 : List Int) (r0_1 : Int) (r0_2 : Int) (r2_0 : List UInt8) (r2_1 : List UInt8) (r2_2 : List UInt8) (r3_0 : List UInt8) (r3_1 : List UInt8) (r3_2 : List UInt8) : Option (T_Block.ty × T_l00Src.ty) :=
 goL spec_l29DrawOne_D spec_l29DrawOne_H (vleave spec_l29DrawOne_ir [.box T_l00Src] [.d T_Block] [.box T_l00Src] []) [.c spec_l29DrawOne_k1]
  ⟨[(0,.loc 0 0 0),(2,.loc 2 0 0),(3,.loc 3 0 0)],[(0,some (.var 3 (.agg [.sl (.one (.int .u8)) r0_0,.int .i64 r0_1,.int .u64 r0_2]))),(2,some (.var 3 (.agg [.str r2_0,.str r2_1,.str r2_2]))),(3,some (.var 3 (.agg [.str r3_0,.str r3_1,.str r3_2]))),(1000,none)]⟩
theorem spec_l29DrawOne_eq (a0 : T_l00Src.ty) : spec_l29DrawOne a0 =
 (spec_l00Src_text a0 [[114,101,110,116,97,108],[110,111,116,101],[102,97,99,101]]).bind fun x1 =>
  (spec_l00Src_text (x1.2.1,x1.2.2.1,x1.2.2.2.1,()) [[97],[98],[99],[100]]).bind fun x2 =>
   (spec_l00Src_text (x2.2.1,x2.2.2.1,x2.2.2.2.1,()) [[],[120],[97,32,98,32,99],[49,50,32,51,52],[111,97,107,47,52,48]]).bind fun x3 =>
    (spec_l00Src_one (x3.2.1,x3.2.2.1,x3.2.2.2.1,()) 4).bind fun x4 =>
     if x4.1 then
      (spec_l00Src_word (x4.2.1,x4.2.2.1,x4.2.2.2.1,()) 9).bind fun x5 =>
       if decide (x3.1.length + x5.1.length ≤ strMax) then
        spec_l29DrawOne_p0 x5.2.1 x5.2.2.1 x5.2.2.2.1 [] [] [] x1.1 x2.1 (x3.1 ++ x5.1)
       else
        none
     else
      spec_l29DrawOne_p0 x4.2.1 x4.2.2.1 x4.2.2.2.1 [] [] [] x1.1 x2.1 x3.1 :=
 (mk_f _ _ _ _ _ _ _ 4000).trans (by kernel_rfl)
theorem spec_l29DrawOne_p0_eq  (r0_0 : List Int) (r0_1 : Int) (r0_2 : Int) (r2_0 : List UInt8) (r2_1 : List UInt8) (r2_2 : List UInt8) (r3_0 : List UInt8) (r3_1 : List UInt8) (r3_2 : List UInt8) : spec_l29DrawOne_p0 r0_0 r0_1 r0_2 r2_0 r2_1 r2_2 r3_0 r3_1 r3_2 =
 if (r3_0 == [114,101,110,116,97,108]) then
  (spec_l00Src_one (r0_0,r0_1,r0_2,()) 2).bind fun x1 =>
   if x1.1 then
    spec_l29DrawOne_p1 x1.2.1 x1.2.2.1 x1.2.2.2.1 r2_0 r2_1 r2_2 r3_0 r3_1 r3_2
   else
    spec_l29DrawOne_p2 x1.2.1 x1.2.2.1 x1.2.2.2.1 r2_0 r2_1 r2_2 r3_0 r3_1 r3_2
 else
  spec_l29DrawOne_p2 r0_0 r0_1 r0_2 r2_0 r2_1 r2_2 r3_0 r3_1 r3_2 :=
 (goL_dn _ _ _ 4000 _ _).trans (by kernel_rfl)
theorem spec_l29DrawOne_p1_eq  (r0_0 : List Int) (r0_1 : Int) (r0_2 : Int) (r2_0 : List UInt8) (r2_1 : List UInt8) (r2_2 : List UInt8) (r3_0 : List UInt8) (r3_1 : List UInt8) (r3_2 : List UInt8) : spec_l29DrawOne_p1 r0_0 r0_1 r0_2 r2_0 r2_1 r2_2 r3_0 r3_1 r3_2 =
 (spec_l21DrawOne (r0_0,r0_1,r0_2,()) r3_1).bind fun x1 =>
  (spec_l21Text (x1.1.1,x1.1.2.1,x1.1.2.2.1,x1.1.2.2.2.1,x1.1.2.2.2.2.1,())).bind fun x2 =>
   spec_l29DrawOne_p2 x1.2.1 x1.2.2.1 x1.2.2.2.1 r2_0 r2_1 r2_2 r3_0 r3_1 x2 :=
 (goL_dn _ _ _ 4000 _ _).trans (by kernel_rfl)
theorem spec_l29DrawOne_p2_eq  (r0_0 : List Int) (r0_1 : Int) (r0_2 : Int) (r2_0 : List UInt8) (r2_1 : List UInt8) (r2_2 : List UInt8) (r3_0 : List UInt8) (r3_1 : List UInt8) (r3_2 : List UInt8) : spec_l29DrawOne_p2 r0_0 r0_1 r0_2 r2_0 r2_1 r2_2 r3_0 r3_1 r3_2 =
 (spec_l00Src_one (r0_0,r0_1,r0_2,()) 24).bind fun x1 =>
  if x1.1 then
   (spec_l00Src_pick (x1.2.1,x1.2.2.1,x1.2.2.2.1,()) 3).bind fun x2 =>
    if decide (0 ≤ IntKind.i64.wrap (399 + x2.1)) && decide (IntKind.i64.wrap (399 + x2.1) ≤ IntKind.i64.wrap (399 + x2.1)) && decide ((IntKind.i64.wrap (399 + x2.1)).toNat < lim) then
     some ((r3_0,r3_1,((List.replicate ((IntKind.i64.wrap (399 + x2.1)).toNat) (0 : Int)).map vu8),()),(x2.2.1,x2.2.2.1,x2.2.2.2.1,()))
    else
     none
  else
   some ((r3_0,r3_1,r3_2,()),(x1.2.1,x1.2.2.1,x1.2.2.2.1,())) :=
 (goL_dn _ _ _ 4000 _ _).trans (by kernel_rfl)
def spec_l01Small_ir : Fn := { np := 1,io := [],res := [.t 2],own := [false],body :=
 (.seq (.reg false [.V 2 (.asg (.c (.bool false)))] [0] []) (.seq (.reg false [.V 3 (.mv (.t 0)),.V 4 (.bin .geq (.t 3) (.c (.int .u8 97))),.V 5 (.mv (.t 4)),.G 6 (.mv (.t 0)) 2 true,.G 7 (.bin .leq (.t 6) (.c (.int .u8 122))) 2 true,.V 8 (.pick (.t 5) (.t 7) (.c (.bool false))),.V 2 (.asg (.t 8))] [2] []) .ret)) }
noncomputable def spec_l01Small_D : List (Nat × Callee) := []
def spec_l01Small_H : List (Nat × ET) := []
noncomputable def spec_l01Small_c : Callee := mkCallee spec_l01Small_D spec_l01Small_H spec_l01Small_ir [.d (.one (.int .u8))] [.d (.one .bool)] []
noncomputable def spec_l01Small (a0 : Int) : Option (Bool) := spec_l01Small_c.f (a0,())
theorem spec_l01Small_eq (a0 : Int) : spec_l01Small a0 =
 if decide (a0 ≥ 97) then
  some (decide (a0 ≤ 122))
 else
  some false :=
 (mk_f _ _ _ _ _ _ _ 4000).trans (by kernel_rfl)
def spec_l01Digit_ir : Fn := { np := 1,io := [],res := [.t 2],own := [false],body :=
 (.seq (.reg false [.V 2 (.asg (.c (.bool false)))] [0] []) (.seq (.reg false [.V 3 (.mv (.t 0)),.V 4 (.bin .geq (.t 3) (.c (.int .u8 48))),.V 5 (.mv (.t 4)),.G 6 (.mv (.t 0)) 2 true,.G 7 (.bin .leq (.t 6) (.c (.int .u8 57))) 2 true,.V 8 (.pick (.t 5) (.t 7) (.c (.bool false))),.V 2 (.asg (.t 8))] [2] []) .ret)) }
noncomputable def spec_l01Digit_D : List (Nat × Callee) := []
def spec_l01Digit_H : List (Nat × ET) := []
noncomputable def spec_l01Digit_c : Callee := mkCallee spec_l01Digit_D spec_l01Digit_H spec_l01Digit_ir [.d (.one (.int .u8))] [.d (.one .bool)] []
noncomputable def spec_l01Digit (a0 : Int) : Option (Bool) := spec_l01Digit_c.f (a0,())
theorem spec_l01Digit_eq (a0 : Int) : spec_l01Digit a0 =
 if decide (a0 ≥ 48) then
  some (decide (a0 ≤ 57))
 else
  some false :=
 (mk_f _ _ _ _ _ _ _ 4000).trans (by kernel_rfl)
def spec_l01Name_k0 : C :=
 .seq (.seq (.reg false [.V 17 (.mv (.t 3)),.V 18 (.mv (.t 0)),.V 19 (.lens (.t 18)),.V 20 (.bin .lss (.t 17) (.t 19))] [0,3,20] []) (.cond (.t 20) .skip (.exit 0))) (.seq (.block 1 (.seq (.reg false [.V 23 (.mv (.t 0)),.V 24 (.mv (.t 3)),.V 25 (.ix (.t 23) (.t 24)),.V 26 (.call (.c (.fn 11 [])) [.t 25]),.V 27 (.un .not (.t 26)),.V 28 (.mv (.t 27)),.G 29 (.mv (.t 0)) 5 true,.G 30 (.mv (.t 3)) 5 true,.G 31 (.ix (.t 29) (.t 30)) 5 true,.G 32 (.call (.c (.fn 12 [])) [.t 31]) 5 true,.G 33 (.un .not (.t 32)) 5 true,.V 34 (.pick (.t 28) (.t 33) (.c (.bool false)))] [0,3,34] []) (.cond (.t 34) (.seq (.reg false [.V 2 (.asg (.c (.bool false)))] [2] []) .ret) .skip))) (.reg false [.V 21 (.mv (.t 3)),.V 22 (.bin .add (.t 21) (.c (.int .i64 1))),.V 3 (.asg (.t 22))] [0,3] []))
def spec_l01Name_k1 : C :=
 .norm [0,3] [] spec_l01Name_k0
def spec_l01Name_k2 : C :=
 .seq (.reg false [.V 2 (.asg (.c (.bool true)))] [2] []) .ret
def spec_l01Name_k3 : C :=
 .seq (.seq (.reg false [.V 3 (.asg (.c (.int .i64 0)))] [0,3] []) (.block 0 (.loop spec_l01Name_k1))) spec_l01Name_k2
def spec_l01Name_ir : Fn := { np := 1,io := [],res := [.t 2],own := [false],body :=
 (.seq (.reg false [.V 2 (.asg (.c (.bool false)))] [0] []) (.seq (.seq (.reg false [.V 4 (.mv (.t 0)),.V 5 (.bin .eql (.t 4) (.c (.str []))),.V 6 (.mv (.t 5)),.G 7 (.mv (.t 0)) 2 false,.G 8 (.lens (.t 7)) 2 false,.G 9 (.bin .gtr (.t 8) (.c (.int .i64 10))) 2 false,.V 10 (.pick (.t 6) (.c (.bool true)) (.t 9)),.V 11 (.mv (.t 10)),.G 12 (.mv (.t 0)) 7 false,.G 13 (.ix (.t 12) (.c (.int .i64 0))) 7 false,.G 14 (.call (.c (.fn 11 [])) [.t 13]) 7 false,.G 15 (.un .not (.t 14)) 7 false,.V 16 (.pick (.t 11) (.c (.bool true)) (.t 15))] [0,16] []) (.cond (.t 16) (.seq (.reg false [.V 2 (.asg (.c (.bool false)))] [2] []) .ret) .skip)) (.norm [0] [] spec_l01Name_k3))) }
noncomputable def spec_l01Name_D : List (Nat × Callee) := [(11,spec_l01Small_c),(12,spec_l01Digit_c)]
def spec_l01Name_H : List (Nat × ET) := []
noncomputable def spec_l01Name_c : Callee := mkCallee spec_l01Name_D spec_l01Name_H spec_l01Name_ir [.d (.one .str)] [.d (.one .bool)] []
noncomputable def spec_l01Name (a0 : List UInt8) : Option (Bool) := spec_l01Name_c.f (a0,())
noncomputable def spec_l01Name_p0  (v0 : List UInt8) : Option (Bool) :=
 goL spec_l01Name_D spec_l01Name_H (vleave spec_l01Name_ir [.d (.one .str)] [.d (.one .bool)] [] []) [.c spec_l01Name_k3]
  ⟨[(0,.str v0)],[]⟩
noncomputable def spec_l01Name_p1  (v0 : List UInt8) (v3 : Int) : Option (Bool) :=
 goL spec_l01Name_D spec_l01Name_H (vleave spec_l01Name_ir [.d (.one .str)] [.d (.one .bool)] [] []) [.c spec_l01Name_k0,.l spec_l01Name_k1,.e 0,.c spec_l01Name_k2]
  ⟨[(0,.str v0),(3,.int .i64 v3)],[]⟩
theorem spec_l01Name_eq (a0 : List UInt8) : spec_l01Name a0 =
 if (a0 == []) then
  some false
 else
  if decide ((a0.length : Int) > 10) then
   some false
  else
   (a0[0]?).bind fun x1 =>
    (spec_l01Small (x1.toNat : Int)).bind fun x2 =>
     if (!x2) then
      some false
     else
      spec_l01Name_p0 a0 :=
 (mk_f _ _ _ _ _ _ _ 4000).trans (by kernel_rfl)
theorem spec_l01Name_p0_eq  (v0 : List UInt8) : spec_l01Name_p0 v0 =
 spec_l01Name_p1 v0 0 :=
 (goL_dn _ _ _ 4000 _ _).trans (by kernel_rfl)
theorem spec_l01Name_p1_eq  (v0 : List UInt8) (v3 : Int) : spec_l01Name_p1 v0 v3 =
 if decide (v3 < (v0.length : Int)) then
  if decide (0 ≤ v3) then
   (v0[v3.toNat]?).bind fun x1 =>
    (spec_l01Small (x1.toNat : Int)).bind fun x2 =>
     if (!x2) then
      if decide (0 ≤ v3) then
       (v0[v3.toNat]?).bind fun x3 =>
        (spec_l01Digit (x3.toNat : Int)).bind fun x4 =>
         if (!x4) then
          some false
         else
          spec_l01Name_p1 v0 (IntKind.i64.wrap (v3 + 1))
      else
       none
     else
      spec_l01Name_p1 v0 (IntKind.i64.wrap (v3 + 1))
  else
   none
 else
  some true :=
 (goL_dn _ _ _ 4000 _ _).trans (by kernel_rfl)
def spec_l29One_k0 : C :=
 .seq (.seq (.reg false [.V 4 (.mv (.t 3)),.V 5 (.mv (.t 0)),.V 6 (.nilck (.t 5)),.V 7 (.fa 2 (.t 6)),.V 8 (.ld none (.t 7)),.V 9 (.lens (.t 8)),.V 10 (.bin .lss (.t 4) (.t 9))] [0,3,10] []) (.cond (.t 10) .skip (.exit 0))) (.seq (.block 1 (.seq (.reg false [.V 13 (.mv (.t 0)),.V 14 (.nilck (.t 13)),.V 15 (.fa 2 (.t 14)),.V 16 (.ld none (.t 15)),.V 17 (.mv (.t 3)),.V 18 (.ix (.t 16) (.t 17)),.V 19 (.bin .eql (.t 18) (.c (.int .u8 10)))] [0,3,19] []) (.cond (.t 19) (.seq (.reg false [.V 2 (.asg (.c (.bool false)))] [2] []) .ret) .skip))) (.reg false [.V 11 (.mv (.t 3)),.V 12 (.bin .add (.t 11) (.c (.int .i64 1))),.V 3 (.asg (.t 12))] [0,3] []))
def spec_l29One_k1 : C :=
 .norm [0,3] [] spec_l29One_k0
def spec_l29One_k2 : C :=
 .seq (.reg false [.V 20 (.mv (.t 0)),.V 21 (.nilck (.t 20)),.V 22 (.fa 0 (.t 21)),.V 23 (.ld none (.t 22)),.V 24 (.call (.c (.fn 13 [])) [.t 23]),.V 25 (.mv (.t 24)),.G 26 (.mv (.t 0)) 5 true,.G 27 (.nilck (.t 26)) 5 true,.G 28 (.fa 1 (.t 27)) 5 true,.G 29 (.ld none (.t 28)) 5 true,.G 30 (.call (.c (.fn 13 [])) [.t 29]) 5 true,.V 31 (.pick (.t 25) (.t 30) (.c (.bool false))),.V 32 (.mv (.t 31)),.G 33 (.mv (.t 0)) 12 true,.G 34 (.nilck (.t 33)) 12 true,.G 35 (.fa 2 (.t 34)) 12 true,.G 36 (.ld none (.t 35)) 12 true,.G 37 (.lens (.t 36)) 12 true,.G 38 (.bin .leq (.t 37) (.c (.int .i64 400))) 12 true,.V 39 (.pick (.t 32) (.t 38) (.c (.bool false))),.V 2 (.asg (.t 39))] [2] []) .ret
def spec_l29One_ir : Fn := { np := 1,io := [],res := [.t 2],own := [false],body :=
 (.seq (.reg false [.V 2 (.asg (.c (.bool false)))] [0] []) (.seq (.seq (.reg false [.V 3 (.asg (.c (.int .i64 0)))] [0,3] []) (.block 0 (.loop spec_l29One_k1))) spec_l29One_k2)) }
noncomputable def spec_l29One_D : List (Nat × Callee) := [(13,spec_l01Name_c)]
def spec_l29One_H : List (Nat × ET) := []
noncomputable def spec_l29One_c : Callee := mkCallee spec_l29One_D spec_l29One_H spec_l29One_ir [.p T_Block] [.d (.one .bool)] []
noncomputable def spec_l29One (a0 : T_Block.ty) : Option (Bool) := spec_l29One_c.f (a0,())
noncomputable def spec_l29One_p0  (v0_0 : List UInt8) (v0_1 : List UInt8) (v0_2 : List UInt8) (v3 : Int) : Option (Bool) :=
 goL spec_l29One_D spec_l29One_H (vleave spec_l29One_ir [.p T_Block] [.d (.one .bool)] [] []) [.c spec_l29One_k0,.l spec_l29One_k1,.e 0,.c spec_l29One_k2]
  ⟨[(0,.ptr [.str v0_0,.str v0_1,.str v0_2] 0),(3,.int .i64 v3)],[]⟩
theorem spec_l29One_eq (a0 : T_Block.ty) : spec_l29One a0 =
 spec_l29One_p0 a0.1 a0.2.1 a0.2.2.1 0 :=
 (mk_f _ _ _ _ _ _ _ 4000).trans (by kernel_rfl)
theorem spec_l29One_p0_eq  (v0_0 : List UInt8) (v0_1 : List UInt8) (v0_2 : List UInt8) (v3 : Int) : spec_l29One_p0 v0_0 v0_1 v0_2 v3 =
 if decide (v3 < (v0_2.length : Int)) then
  if decide (0 ≤ v3) then
   (v0_2[v3.toNat]?).bind fun x1 =>
    if ((x1.toNat : Int) == 10) then
     some false
    else
     spec_l29One_p0 v0_0 v0_1 v0_2 (IntKind.i64.wrap (v3 + 1))
  else
   none
 else
  (spec_l01Name v0_0).bind fun x2 =>
   if x2 then
    (spec_l01Name v0_1).bind fun x3 =>
     if x3 then
      some (decide ((v0_2.length : Int) ≤ 400))
     else
      some false
   else
    some false :=
 (goL_dn _ _ _ 4000 _ _).trans (by kernel_rfl)
def spec_l29Before_ir : Fn := { np := 2,io := [],res := [.t 4],own := [false],body :=
 (.seq (.reg false [.V 4 (.asg (.c (.bool false)))] [0,1] []) (.seq (.reg true [.V 5 (.mv (.t 0)),.V 6 (.nilck (.t 5)),.V 7 (.fa 0 (.t 6)),.V 8 (.ld none (.t 7)),.V 9 (.mv (.t 1)),.V 10 (.nilck (.t 9)),.V 11 (.fa 0 (.t 10)),.V 12 (.ld none (.t 11)),.V 13 (.bin .lss (.t 8) (.t 12)),.V 14 (.mv (.t 13)),.G 15 (.mv (.t 0)) 9 false,.G 16 (.nilck (.t 15)) 9 false,.G 17 (.fa 0 (.t 16)) 9 false,.G 18 (.ld none (.t 17)) 9 false,.G 19 (.mv (.t 1)) 9 false,.G 20 (.nilck (.t 19)) 9 false,.G 21 (.fa 0 (.t 20)) 9 false,.G 22 (.ld none (.t 21)) 9 false,.G 23 (.bin .eql (.t 18) (.t 22)) 9 false,.G 24 (.mv (.t 23)) 9 false,.G 25 (.mv (.t 0)) 19 true,.G 26 (.nilck (.t 25)) 19 true,.G 27 (.fa 1 (.t 26)) 19 true,.G 28 (.ld none (.t 27)) 19 true,.G 29 (.mv (.t 1)) 19 true,.G 30 (.nilck (.t 29)) 19 true,.G 31 (.fa 1 (.t 30)) 19 true,.G 32 (.ld none (.t 31)) 19 true,.G 33 (.bin .lss (.t 28) (.t 32)) 19 true,.G 34 (.pick (.t 24) (.t 33) (.c (.bool false))) 9 false,.V 35 (.pick (.t 14) (.c (.bool true)) (.t 34)),.V 4 (.asg (.t 35))] [4] []) .ret)) }
noncomputable def spec_l29Before_D : List (Nat × Callee) := []
def spec_l29Before_H : List (Nat × ET) := []
noncomputable def spec_l29Before_c : Callee := mkCallee spec_l29Before_D spec_l29Before_H spec_l29Before_ir [.p T_Block,.p T_Block] [.d (.one .bool)] []
noncomputable def spec_l29Before (a0 : T_Block.ty) (a1 : T_Block.ty) : Option (Bool) := spec_l29Before_c.f (a0,a1,())
theorem spec_l29Before_eq (a0 : T_Block.ty) (a1 : T_Block.ty) : spec_l29Before a0 a1 =
 if Op.bytesLess a0.1 a1.1 then
  some true
 else
  if (a0.1 == a1.1) then
   some (Op.bytesLess a0.2.1 a1.2.1)
  else
   some false :=
 (mk_f _ _ _ _ _ _ _ 4000).trans (by kernel_rfl)
def spec_l29Ok_k0 : C :=
 .seq (.seq (.reg false [.V 4 (.mv (.t 3)),.V 5 (.mv (.t 0)),.V 6 (.len (.t 5)),.V 7 (.bin .lss (.t 4) (.t 6))] [0,3,7] []) (.cond (.t 7) .skip (.exit 0))) (.seq (.block 1 (.seq (.reg true [.V 10 (.mv (.t 0)),.V 11 (.mv (.t 3)),.V 12 (.ia 3 (.t 10) (.t 11)),.V 13 (.call (.c (.fn 879 [])) [.t 12]),.V 14 (.un .not (.t 13)),.V 15 (.mv (.t 14)),.G 16 (.mv (.t 3)) 5 false,.G 17 (.bin .gtr (.t 16) (.c (.int .i64 0))) 5 false,.G 18 (.mv (.t 17)) 5 false,.G 19 (.mv (.t 0)) 8 true,.G 20 (.mv (.t 3)) 8 true,.G 21 (.bin .sub (.t 20) (.c (.int .i64 1))) 8 true,.G 22 (.ia 3 (.t 19) (.t 21)) 8 true,.G 23 (.mv (.t 0)) 8 true,.G 24 (.mv (.t 3)) 8 true,.G 25 (.ia 3 (.t 23) (.t 24)) 8 true,.G 26 (.call (.c (.fn 880 [])) [.t 22,.t 25]) 8 true,.G 27 (.un .not (.t 26)) 8 true,.G 28 (.pick (.t 18) (.t 27) (.c (.bool false))) 5 false,.V 29 (.pick (.t 15) (.c (.bool true)) (.t 28))] [0,3,29] []) (.cond (.t 29) (.seq (.reg false [.V 2 (.asg (.c (.bool false)))] [2] []) .ret) .skip))) (.reg false [.V 8 (.mv (.t 3)),.V 9 (.bin .add (.t 8) (.c (.int .i64 1))),.V 3 (.asg (.t 9))] [0,3] []))
def spec_l29Ok_k1 : C :=
 .norm [0,3] [] spec_l29Ok_k0
def spec_l29Ok_k2 : C :=
 .seq (.reg false [.V 30 (.mv (.t 0)),.V 31 (.len (.t 30)),.V 32 (.bin .leq (.t 31) (.c (.int .i64 32))),.V 2 (.asg (.t 32))] [2] []) .ret
def spec_l29Ok_ir : Fn := { np := 1,io := [],res := [.t 2],own := [false],body :=
 (.seq (.reg false [.V 2 (.asg (.c (.bool false)))] [0] []) (.seq (.seq (.reg false [.V 3 (.asg (.c (.int .i64 0)))] [0,3] []) (.block 0 (.loop spec_l29Ok_k1))) spec_l29Ok_k2)) }
noncomputable def spec_l29Ok_D : List (Nat × Callee) := [(879,spec_l29One_c),(880,spec_l29Before_c)]
def spec_l29Ok_H : List (Nat × ET) := [(5,T_Block),(10,T_Block),(19,T_Block),(23,T_Block),(30,T_Block)]
noncomputable def spec_l29Ok_c : Callee := mkCallee spec_l29Ok_D spec_l29Ok_H spec_l29Ok_ir [.d (.one (.sl T_Block))] [.d (.one .bool)] []
noncomputable def spec_l29Ok (a0 : List T_Block.ty) : Option (Bool) := spec_l29Ok_c.f (a0,())
noncomputable def spec_l29Ok_p0  (v0 : List T_Block.ty) (v3 : Int) : Option (Bool) :=
 goL spec_l29Ok_D spec_l29Ok_H (vleave spec_l29Ok_ir [.d (.one (.sl T_Block))] [.d (.one .bool)] [] []) [.c spec_l29Ok_k0,.l spec_l29Ok_k1,.e 0,.c spec_l29Ok_k2]
  ⟨[(0,.sl T_Block v0),(3,.int .i64 v3)],[]⟩
theorem spec_l29Ok_eq (a0 : List T_Block.ty) : spec_l29Ok a0 =
 spec_l29Ok_p0 a0 0 :=
 (mk_f _ _ _ _ _ _ _ 4000).trans (by kernel_rfl)
theorem spec_l29Ok_p0_eq  (v0 : List T_Block.ty) (v3 : Int) : spec_l29Ok_p0 v0 v3 =
 if decide (v3 < (v0.length : Int)) then
  if decide (0 ≤ v3) then
   (v0[v3.toNat]?).bind fun x1 =>
    (spec_l29One x1).bind fun x2 =>
     if (!x2) then
      some false
     else
      if decide (v3 > 0) then
       if decide (0 ≤ IntKind.i64.wrap (v3 - 1)) then
        (v0[(IntKind.i64.wrap (v3 - 1)).toNat]?).bind fun x3 =>
         if decide (0 ≤ v3) then
          (v0[v3.toNat]?).bind fun x4 =>
           (spec_l29Before x3 x4).bind fun x5 =>
            if (!x5) then
             some false
            else
             spec_l29Ok_p0 v0 (IntKind.i64.wrap (v3 + 1))
         else
          none
       else
        none
      else
       spec_l29Ok_p0 v0 (IntKind.i64.wrap (v3 + 1))
  else
   none
 else
  some (decide ((v0.length : Int) ≤ 32)) :=
 (goL_dn _ _ _ 4000 _ _).trans (by kernel_rfl)
def spec_l29Put_k0 : C :=
 .reg false [.V 46 (.mv (.t 5)),.V 47 (.mv (.t 0)),.V 48 (.mv (.t 7)),.V 49 (.ia 3 (.t 47) (.t 48)),.V 50 (.ld (some 3) (.t 49)),.V 51 (.bsl 3 (.agg [.str [],.str [],.str []]) 1 [(0,.t 50)]),.W 52 (.app 3 48 (.t 46) (.t 51)),.W 5 (.asg (.t 52))] [0,3,5,6,7] [3,5]
def spec_l29Put_k1 : C :=
 .seq (.reg true [.V 28 (.mv (.t 0)),.V 29 (.mv (.t 7)),.V 30 (.ia 3 (.t 28) (.t 29)),.V 31 (.fa 0 (.t 30)),.V 32 (.ld none (.t 31)),.V 33 (.fa 0 (.t 3)),.V 34 (.ld none (.t 33)),.V 35 (.bin .neq (.t 32) (.t 34)),.V 36 (.mv (.t 35)),.G 37 (.mv (.t 0)) 8 false,.G 38 (.mv (.t 7)) 8 false,.G 39 (.ia 3 (.t 37) (.t 38)) 8 false,.G 40 (.fa 1 (.t 39)) 8 false,.G 41 (.ld none (.t 40)) 8 false,.G 42 (.fa 1 (.t 3)) 8 false,.G 43 (.ld none (.t 42)) 8 false,.G 44 (.bin .neq (.t 41) (.t 43)) 8 false,.V 45 (.pick (.t 36) (.c (.bool true)) (.t 44))] [0,3,5,6,7,45] [3,5]) (.cond (.t 45) (.norm [0,3,5,6,7] [3,5] spec_l29Put_k0) .skip)
def spec_l29Put_k2 : C :=
 .reg false [.V 13 (.mv (.t 7)),.V 14 (.bin .add (.t 13) (.c (.int .i64 1))),.V 7 (.asg (.t 14))] [0,3,5,6,7] [3,5]
def spec_l29Put_k3 : C :=
 .seq (.seq (.reg false [.V 9 (.mv (.t 7)),.V 10 (.mv (.t 0)),.V 11 (.len (.t 10)),.V 12 (.bin .lss (.t 9) (.t 11))] [0,3,5,6,7,12] [3,5]) (.cond (.t 12) .skip (.exit 0))) (.seq (.block 1 (.seq (.seq (.reg false [.V 15 (.mv (.t 6)),.V 16 (.un .not (.t 15)),.V 17 (.mv (.t 16)),.G 18 (.mv (.t 0)) 2 true,.G 19 (.mv (.t 7)) 2 true,.G 20 (.ia 3 (.t 18) (.t 19)) 2 true,.G 21 (.call (.c (.fn 880 [])) [.t 20,.t 3]) 2 true,.G 22 (.un .not (.t 21)) 2 true,.V 23 (.pick (.t 17) (.t 22) (.c (.bool false)))] [0,3,5,6,7,23] [3,5]) (.cond (.t 23) (.seq (.reg false [.V 24 (.mv (.t 5)),.V 25 (.ld (some 3) (.t 3)),.V 26 (.bsl 3 (.agg [.str [],.str [],.str []]) 1 [(0,.t 25)]),.W 27 (.app 3 48 (.t 24) (.t 26)),.W 5 (.asg (.t 27))] [0,3,5,7] [3,5]) (.reg false [.V 6 (.asg (.c (.bool true)))] [0,3,5,6,7] [3,5])) .skip)) (.norm [0,3,5,6,7] [3,5] spec_l29Put_k1))) spec_l29Put_k2)
def spec_l29Put_k4 : C :=
 .norm [0,3,5,6,7] [3,5] spec_l29Put_k3
def spec_l29Put_k5 : C :=
 .seq (.seq (.reg false [.V 53 (.mv (.t 6)),.V 54 (.un .not (.t 53))] [3,5,54] [3,5]) (.cond (.t 54) (.reg false [.V 55 (.mv (.t 5)),.V 56 (.ld (some 3) (.t 3)),.V 57 (.bsl 3 (.agg [.str [],.str [],.str []]) 1 [(0,.t 56)]),.W 58 (.app 3 48 (.t 55) (.t 57)),.W 5 (.asg (.t 58))] [5] [5]) .skip)) (.seq (.reg false [.V 59 (.mv (.t 5)),.W 4 (.asg (.t 59))] [4] [4,5]) .ret)
def spec_l29Put_ir : Fn := { np := 2,io := [],res := [.t 4],own := [true],body :=
 (.seq (.reg false [.W 3 (.box 3 (.t 1)),.W 4 (.asg (.c (.nils 3)))] [0,3] [3]) (.seq (.reg false [.V 8 (.bsl 3 (.agg [.str [],.str [],.str []]) 0 []),.W 5 (.asg (.t 8))] [0,3,5] [3,5]) (.seq (.reg false [.V 6 (.asg (.c (.bool false)))] [0,3,5,6] [3,5]) (.seq (.seq (.reg false [.V 7 (.asg (.c (.int .i64 0)))] [0,3,5,6,7] [3,5]) (.block 0 (.loop spec_l29Put_k4))) spec_l29Put_k5)))) }
noncomputable def spec_l29Put_D : List (Nat × Callee) := [(880,spec_l29Before_c)]
def spec_l29Put_H : List (Nat × ET) := [(4,T_Block),(5,T_Block),(8,T_Block),(10,T_Block),(18,T_Block),(24,T_Block),(26,T_Block),(27,T_Block),(28,T_Block),(37,T_Block),(46,T_Block),(47,T_Block),(51,T_Block),(52,T_Block),(55,T_Block),(57,T_Block),(58,T_Block),(59,T_Block)]
noncomputable def spec_l29Put_c : Callee := mkCallee spec_l29Put_D spec_l29Put_H spec_l29Put_ir [.d (.one (.sl T_Block)),.d T_Block] [.tok T_Block] []
noncomputable def spec_l29Put (a0 : List T_Block.ty) (a1 : T_Block.ty) : Option (List T_Block.ty) := spec_l29Put_c.f (a0,a1,())
noncomputable def spec_l29Put_p0  (v0 : List T_Block.ty) (v6 : Bool) (v7 : Int) (r3_0 : List UInt8) (r3_1 : List UInt8) (r3_2 : List UInt8) (r5 : List T_Block.ty) : Option (List T_Block.ty) :=
 goL spec_l29Put_D spec_l29Put_H (vleave spec_l29Put_ir [.d (.one (.sl T_Block)),.d T_Block] [.tok T_Block] [] []) [.c spec_l29Put_k3,.l spec_l29Put_k4,.e 0,.c spec_l29Put_k5]
  ⟨[(0,.sl T_Block v0),(3,.loc 3 0 0),(5,.view 5 0 r5.length),(6,.bool v6),(7,.int .i64 v7)],[(3,some (.var 3 (.agg [.str r3_0,.str r3_1,.str r3_2]))),(5,some (.sl T_Block r5))]⟩
noncomputable def spec_l29Put_p1  (v0 : List T_Block.ty) (v6 : Bool) (v7 : Int) (r3_0 : List UInt8) (r3_1 : List UInt8) (r3_2 : List UInt8) (r5 : List T_Block.ty) : Option (List T_Block.ty) :=
 goL spec_l29Put_D spec_l29Put_H (vleave spec_l29Put_ir [.d (.one (.sl T_Block)),.d T_Block] [.tok T_Block] [] []) [.c spec_l29Put_k1,.e 1,.c spec_l29Put_k2,.l spec_l29Put_k4,.e 0,.c spec_l29Put_k5]
  ⟨[(0,.sl T_Block v0),(3,.loc 3 0 0),(5,.view 5 0 r5.length),(6,.bool v6),(7,.int .i64 v7)],[(3,some (.var 3 (.agg [.str r3_0,.str r3_1,.str r3_2]))),(5,some (.sl T_Block r5))]⟩
noncomputable def spec_l29Put_p2  (v0 : List T_Block.ty) (v6 : Bool) (v7 : Int) (r3_0 : List UInt8) (r3_1 : List UInt8) (r3_2 : List UInt8) (r5 : List T_Block.ty) : Option (List T_Block.ty) :=
 goL spec_l29Put_D spec_l29Put_H (vleave spec_l29Put_ir [.d (.one (.sl T_Block)),.d T_Block] [.tok T_Block] [] []) [.c spec_l29Put_k0,.e 1,.c spec_l29Put_k2,.l spec_l29Put_k4,.e 0,.c spec_l29Put_k5]
  ⟨[(0,.sl T_Block v0),(3,.loc 3 0 0),(5,.view 5 0 r5.length),(6,.bool v6),(7,.int .i64 v7)],[(3,some (.var 3 (.agg [.str r3_0,.str r3_1,.str r3_2]))),(5,some (.sl T_Block r5))]⟩
theorem spec_l29Put_eq (a0 : List T_Block.ty) (a1 : T_Block.ty) : spec_l29Put a0 a1 =
 spec_l29Put_p0 a0 false 0 a1.1 a1.2.1 a1.2.2.1 [] :=
 (mk_f _ _ _ _ _ _ _ 4000).trans (by kernel_rfl)
theorem spec_l29Put_p0_eq  (v0 : List T_Block.ty) (v6 : Bool) (v7 : Int) (r3_0 : List UInt8) (r3_1 : List UInt8) (r3_2 : List UInt8) (r5 : List T_Block.ty) : spec_l29Put_p0 v0 v6 v7 r3_0 r3_1 r3_2 r5 =
 if decide (v7 < (v0.length : Int)) then
  if (!v6) then
   if decide (0 ≤ v7) then
    (v0[v7.toNat]?).bind fun x1 =>
     (spec_l29Before x1 (r3_0,r3_1,r3_2,())).bind fun x2 =>
      if (!x2) then
       if decide (r5.length + 1 < lim) then
        spec_l29Put_p1 v0 true v7 r3_0 r3_1 r3_2 ((r5.take r5.length) ++ [(r3_0,r3_1,r3_2,())])
       else
        none
      else
       spec_l29Put_p1 v0 v6 v7 r3_0 r3_1 r3_2 r5
   else
    none
  else
   spec_l29Put_p1 v0 v6 v7 r3_0 r3_1 r3_2 r5
 else
  if (!v6) then
   if decide (r5.length + 1 < lim) then
    some (((r5.take r5.length) ++ [(r3_0,r3_1,r3_2,())]).take (((r5.take r5.length) ++ [(r3_0,r3_1,r3_2,())]).length))
   else
    none
  else
   some (r5.take r5.length) :=
 (goL_dn _ _ _ 4000 _ _).trans (by kernel_rfl)
theorem spec_l29Put_p1_eq  (v0 : List T_Block.ty) (v6 : Bool) (v7 : Int) (r3_0 : List UInt8) (r3_1 : List UInt8) (r3_2 : List UInt8) (r5 : List T_Block.ty) : spec_l29Put_p1 v0 v6 v7 r3_0 r3_1 r3_2 r5 =
 if decide (0 ≤ v7) then
  (v0[v7.toNat]?).bind fun x1 =>
   if (!(x1.1 == r3_0)) then
    spec_l29Put_p2 v0 v6 v7 r3_0 r3_1 r3_2 r5
   else
    if decide (0 ≤ v7) then
     (v0[v7.toNat]?).bind fun x2 =>
      if (!(x2.2.1 == r3_1)) then
       spec_l29Put_p2 v0 v6 v7 r3_0 r3_1 r3_2 r5
      else
       spec_l29Put_p0 v0 v6 (IntKind.i64.wrap (v7 + 1)) r3_0 r3_1 r3_2 r5
    else
     none
 else
  none :=
 (goL_dn _ _ _ 4000 _ _).trans (by kernel_rfl)
theorem spec_l29Put_p2_eq  (v0 : List T_Block.ty) (v6 : Bool) (v7 : Int) (r3_0 : List UInt8) (r3_1 : List UInt8) (r3_2 : List UInt8) (r5 : List T_Block.ty) : spec_l29Put_p2 v0 v6 v7 r3_0 r3_1 r3_2 r5 =
 if decide (0 ≤ v7) then
  (v0[v7.toNat]?).bind fun x1 =>
   if decide (r5.length + 1 < lim) then
    spec_l29Put_p0 v0 v6 (IntKind.i64.wrap (v7 + 1)) r3_0 r3_1 r3_2 ((r5.take r5.length) ++ [x1])
   else
    none
 else
  none :=
 (goL_dn _ _ _ 4000 _ _).trans (by kernel_rfl)
def spec_PutBlock_k0 : C :=
 .seq (.reg false [.V 14 (.mv (.t 0)),.V 15 (.ld (some 3) (.t 3)),.V 16 (.call (.c (.fn 1025 [])) [.t 14,.t 15]),.W 6 (.asg (.t 16))] [6] [6]) (.seq (.seq (.reg false [.V 17 (.mv (.t 6)),.V 18 (.len (.t 17)),.V 19 (.bin .gtr (.t 18) (.c (.int .i64 32)))] [6,19] [6]) (.cond (.t 19) (.seq (.reg false [.W 4 (.asg (.c (.nils 3))),.V 5 (.asg (.c (.int .i64 5)))] [4,5] [4,6]) .ret) .skip)) (.seq (.reg false [.V 20 (.mv (.t 6)),.W 4 (.asg (.t 20)),.V 5 (.asg (.c (.int .i64 0)))] [4,5] [4,6]) .ret))
def spec_PutBlock_ir : Fn := { np := 2,io := [],res := [.t 4,.t 5],own := [true,false],body :=
 (.seq (.reg false [.W 3 (.box 3 (.t 1)),.W 4 (.asg (.c (.nils 3))),.V 5 (.asg (.c (.int .i64 0)))] [0,3] [3]) (.seq (.seq (.reg false [.V 7 (.mv (.t 0)),.V 8 (.call (.c (.fn 575 [])) [.t 7]),.V 9 (.un .not (.t 8)),.V 10 (.mv (.t 9)),.G 11 (.call (.c (.fn 879 [])) [.t 3]) 3 false,.G 12 (.un .not (.t 11)) 3 false,.V 13 (.pick (.t 10) (.c (.bool true)) (.t 12))] [0,3,13] [3]) (.cond (.t 13) (.seq (.reg false [.W 4 (.asg (.c (.nils 3))),.V 5 (.asg (.c (.int .i64 1)))] [4,5] [4,6]) .ret) .skip)) (.norm [0,3] [3] spec_PutBlock_k0))) }
noncomputable def spec_PutBlock_D : List (Nat × Callee) := [(575,spec_l29Ok_c),(879,spec_l29One_c),(1025,spec_l29Put_c)]
def spec_PutBlock_H : List (Nat × ET) := [(4,T_Block),(6,T_Block),(7,T_Block),(14,T_Block),(16,T_Block),(17,T_Block),(20,T_Block)]
noncomputable def spec_PutBlock_c : Callee := mkCallee spec_PutBlock_D spec_PutBlock_H spec_PutBlock_ir [.d (.one (.sl T_Block)),.d T_Block] [.tok T_Block,.d (.one (.int .i64))] []
noncomputable def spec_PutBlock (a0 : List T_Block.ty) (a1 : T_Block.ty) : Option (List T_Block.ty × Int) := spec_PutBlock_c.f (a0,a1,())
noncomputable def spec_PutBlock_p0  (v0 : List T_Block.ty) (r3_0 : List UInt8) (r3_1 : List UInt8) (r3_2 : List UInt8) : Option (List T_Block.ty × Int) :=
 goL spec_PutBlock_D spec_PutBlock_H (vleave spec_PutBlock_ir [.d (.one (.sl T_Block)),.d T_Block] [.tok T_Block,.d (.one (.int .i64))] [] []) [.c spec_PutBlock_k0]
  ⟨[(0,.sl T_Block v0),(3,.loc 3 0 0)],[(3,some (.var 3 (.agg [.str r3_0,.str r3_1,.str r3_2])))]⟩
theorem spec_PutBlock_eq (a0 : List T_Block.ty) (a1 : T_Block.ty) : spec_PutBlock a0 a1 =
 (spec_l29Ok a0).bind fun x1 =>
  if (!x1) then
   some ([],1)
  else
   (spec_l29One a1).bind fun x2 =>
    if (!x2) then
     some ([],1)
    else
     spec_PutBlock_p0 a0 a1.1 a1.2.1 a1.2.2.1 :=
 (mk_f _ _ _ _ _ _ _ 4000).trans (by kernel_rfl)
theorem spec_PutBlock_p0_eq  (v0 : List T_Block.ty) (r3_0 : List UInt8) (r3_1 : List UInt8) (r3_2 : List UInt8) : spec_PutBlock_p0 v0 r3_0 r3_1 r3_2 =
 (spec_l29Put v0 (r3_0,r3_1,r3_2,())).bind fun x1 =>
  if decide ((x1.length : Int) > 32) then
   some ([],5)
  else
   some ((x1.take x1.length),0) :=
 (goL_dn _ _ _ 4000 _ _).trans (by kernel_rfl)
def spec_l29Draw_k0 : C :=
 .seq (.seq (.reg false [.V 10 (.mv (.t 4)),.V 11 (.bin .gtr (.t 10) (.c (.int .i64 0)))] [0,3,4,11] [0,3,5,1000]) (.cond (.t 11) .skip (.exit 0))) (.seq (.block 1 (.seq (.reg false [.V 15 (.mv (.t 3)),.V 16 (.mv (.t 0)),.W 17 (.call (.c (.fn 875 [])) [.t 16]),.V 18 (.call (.c (.fn 876 [])) [.t 15,.t 17]),.V 14 (.mv (.t 18)),.V 19 (.ext (.t 14) 0),.V 20 (.ext (.t 14) 1),.W 5 (.asg (.t 19)),.V 6 (.asg (.t 20))] [0,3,4,5,6] [0,3,5,1000]) (.seq (.reg false [.V 21 (.mv (.t 6)),.V 22 (.bin .eql (.t 21) (.c (.int .i64 0)))] [0,3,4,5,22] [0,3,5,1000]) (.cond (.t 22) (.reg false [.V 23 (.mv (.t 5)),.W 3 (.asg (.t 23))] [0,3,4] [0,3,5,1000]) .skip)))) (.reg false [.V 12 (.mv (.t 4)),.V 13 (.bin .sub (.t 12) (.c (.int .i64 1))),.V 4 (.asg (.t 13))] [0,3,4] [0,3,5,1000]))
def spec_l29Draw_k1 : C :=
 .opn 5000003 (.norm [0,3,4] [0,1000] spec_l29Draw_k0)
def spec_l29Draw_k2 : C :=
 .seq (.reg false [.V 24 (.mv (.t 3)),.W 2 (.asg (.t 24))] [0,2] [0,2,3,5,1000]) .ret
def spec_l29Draw_ir : Fn := { np := 1,io := [true],res := [.t 2],own := [false],body :=
 (.seq (.reg false [.W 2 (.asg (.c (.nils 3)))] [0] [0,1000]) (.seq (.reg false [.V 7 (.bsl 3 (.agg [.str [],.str [],.str []]) 0 []),.W 3 (.asg (.t 7))] [0,3] [0,3,5,1000]) (.seq (.seq (.reg false [.V 8 (.mv (.t 0)),.W 9 (.call (.c (.fn 463 [])) [.t 8,.c (.int .i64 6)]),.V 4 (.asg (.t 9))] [0,3,4] [0,3,5,1000]) (.block 0 (.loop spec_l29Draw_k1))) spec_l29Draw_k2))) }
noncomputable def spec_l29Draw_D : List (Nat × Callee) := [(463,spec_l00Src_pick_c),(875,spec_l29DrawOne_c),(876,spec_PutBlock_c)]
def spec_l29Draw_H : List (Nat × ET) := [(2,T_Block),(3,T_Block),(5,T_Block),(7,T_Block),(15,T_Block),(19,T_Block),(23,T_Block),(24,T_Block)]
noncomputable def spec_l29Draw_c : Callee := mkCallee spec_l29Draw_D spec_l29Draw_H spec_l29Draw_ir [.box T_l00Src] [.d (.one (.sl T_Block))] [.box T_l00Src]
noncomputable def spec_l29Draw (a0 : T_l00Src.ty) : Option (List T_Block.ty × T_l00Src.ty) := spec_l29Draw_c.f (a0,())
noncomputable def spec_l29Draw_p0  (v3 : List T_Block.ty) (v4 : Int) (r0_0 : List Int) (r0_1 : Int) (r0_2 : Int) : Option (List T_Block.ty × T_l00Src.ty) :=
 goL spec_l29Draw_D spec_l29Draw_H (vleave spec_l29Draw_ir [.box T_l00Src] [.d (.one (.sl T_Block))] [.box T_l00Src] []) [.c spec_l29Draw_k0,.l spec_l29Draw_k1,.e 0,.c spec_l29Draw_k2]
  ⟨[(0,.loc 0 0 0),(3,.sl T_Block v3),(4,.int .i64 v4)],[(0,some (.var 3 (.agg [.sl (.one (.int .u8)) r0_0,.int .i64 r0_1,.int .u64 r0_2]))),(1000,none)]⟩
theorem spec_l29Draw_eq (a0 : T_l00Src.ty) : spec_l29Draw a0 =
 (spec_l00Src_pick a0 6).bind fun x1 =>
  spec_l29Draw_p0 [] x1.1 x1.2.1 x1.2.2.1 x1.2.2.2.1 :=
 (mk_f _ _ _ _ _ _ _ 4000).trans (by kernel_rfl)
theorem spec_l29Draw_p0_eq  (v3 : List T_Block.ty) (v4 : Int) (r0_0 : List Int) (r0_1 : Int) (r0_2 : Int) : spec_l29Draw_p0 v3 v4 r0_0 r0_1 r0_2 =
 if decide (v4 > 0) then
  (spec_l29DrawOne (r0_0,r0_1,r0_2,())).bind fun x1 =>
   (spec_PutBlock v3 (x1.1.1,x1.1.2.1,x1.1.2.2.1,())).bind fun x2 =>
    if (x2.2 == 0) then
     spec_l29Draw_p0 (x2.1.take x2.1.length) (IntKind.i64.wrap (v4 - 1)) x1.2.1 x1.2.2.1 x1.2.2.2.1
    else
     spec_l29Draw_p0 v3 (IntKind.i64.wrap (v4 - 1)) x1.2.1 x1.2.2.1 x1.2.2.2.1
 else
  some (v3,(r0_0,r0_1,r0_2,())) :=
 (goL_dn _ _ _ 4000 _ _).trans (by kernel_rfl)
def spec_R8Blocks_ir : Fn := { np := 1,io := [],res := [.t 2],own := [false],body :=
 (.seq (.reg false [.W 2 (.asg (.c (.nils 3)))] [0] []) (.seq (.reg false [.V 4 (.mv (.t 0)),.W 5 (.call (.c (.fn 441 [])) [.t 4]),.V 3 (.asg (.t 5))] [3] [5,6000]) (.seq (.reg false [.V 6 (.mv (.t 3)),.W 7 (.call (.c (.fn 567 [])) [.t 6]),.W 2 (.asg (.t 7))] [2] [2]) .ret))) }
noncomputable def spec_R8Blocks_D : List (Nat × Callee) := [(441,spec_l00From_c),(567,spec_l29Draw_c)]
def spec_R8Blocks_H : List (Nat × ET) := [(2,T_Block),(4,(.one (.int .u8))),(7,T_Block)]
noncomputable def spec_R8Blocks_c : Callee := mkCallee spec_R8Blocks_D spec_R8Blocks_H spec_R8Blocks_ir [.d (.one (.sl (.one (.int .u8))))] [.d (.one (.sl T_Block))] []
noncomputable def spec_R8Blocks (a0 : List Int) : Option (List T_Block.ty) := spec_R8Blocks_c.f (a0,())
theorem spec_R8Blocks_eq (a0 : List Int) : spec_R8Blocks a0 =
 (spec_l00From a0).bind fun x1 =>
  (spec_l29Draw x1).bind fun x2 =>
   some x2.1 :=
 (mk_f _ _ _ _ _ _ _ 4000).trans (by kernel_rfl)
def spec_l01Crc_k0 : C :=
 .seq (.seq (.reg false [.V 20 (.mv (.t 6)),.V 21 (.bin .lss (.t 20) (.c (.int .i64 8)))] [0,1,5,6,21] []) (.cond (.t 21) .skip (.exit 2))) (.seq (.block 3 (.seq (.reg false [.V 24 (.mv (.t 1)),.V 25 (.bin .shl (.t 24) (.c (.int .u64 1))),.V 1 (.asg (.t 25))] [0,1,5,6] []) (.seq (.reg false [.V 26 (.mv (.t 1)),.V 27 (.bin .gtr (.t 26) (.c (.int .i64 65535)))] [0,1,5,6,27] []) (.cond (.t 27) (.reg false [.V 28 (.mv (.t 1)),.V 29 (.bin .and (.t 28) (.c (.int .i64 65535))),.V 30 (.bin .xor (.t 29) (.c (.int .i64 4129))),.V 1 (.asg (.t 30))] [0,1,5,6] []) .skip)))) (.reg false [.V 22 (.mv (.t 6)),.V 23 (.bin .add (.t 22) (.c (.int .i64 1))),.V 6 (.asg (.t 23))] [0,1,5,6] []))
def spec_l01Crc_k1 : C :=
 .norm [0,1,5,6] [] spec_l01Crc_k0
def spec_l01Crc_k2 : C :=
 .reg false [.V 11 (.mv (.t 5)),.V 12 (.bin .add (.t 11) (.c (.int .i64 1))),.V 5 (.asg (.t 12))] [0,1,5] []
def spec_l01Crc_k3 : C :=
 .seq (.seq (.reg false [.V 7 (.mv (.t 5)),.V 8 (.mv (.t 0)),.V 9 (.lens (.t 8)),.V 10 (.bin .lss (.t 7) (.t 9))] [0,1,5,10] []) (.cond (.t 10) .skip (.exit 0))) (.seq (.block 1 (.seq (.reg false [.V 13 (.mv (.t 1)),.V 14 (.mv (.t 0)),.V 15 (.mv (.t 5)),.V 16 (.ix (.t 14) (.t 15)),.V 17 (.conv (.int .i64) (.t 16)),.V 18 (.bin .shl (.t 17) (.c (.int .u64 8))),.V 19 (.bin .xor (.t 13) (.t 18)),.V 1 (.asg (.t 19))] [0,1,5] []) (.seq (.reg false [.V 6 (.asg (.c (.int .i64 0)))] [0,1,5,6] []) (.block 2 (.loop spec_l01Crc_k1))))) spec_l01Crc_k2)
def spec_l01Crc_k4 : C :=
 .norm [0,1,5] [] spec_l01Crc_k3
def spec_l01Crc_k5 : C :=
 .seq (.reg false [.V 31 (.mv (.t 1)),.V 4 (.asg (.t 31))] [4] []) .ret
def spec_l01Crc_ir : Fn := { np := 2,io := [],res := [.t 4],own := [false],body :=
 (.seq (.reg false [.V 4 (.asg (.c (.int .i64 0)))] [0,1] []) (.seq (.seq (.reg false [.V 5 (.asg (.c (.int .i64 0)))] [0,1,5] []) (.block 0 (.loop spec_l01Crc_k4))) spec_l01Crc_k5)) }
noncomputable def spec_l01Crc_D : List (Nat × Callee) := []
def spec_l01Crc_H : List (Nat × ET) := []
noncomputable def spec_l01Crc_c : Callee := mkCallee spec_l01Crc_D spec_l01Crc_H spec_l01Crc_ir [.d (.one .str),.d (.one (.int .i64))] [.d (.one (.int .i64))] []
noncomputable def spec_l01Crc (a0 : List UInt8) (a1 : Int) : Option (Int) := spec_l01Crc_c.f (a0,a1,())
noncomputable def spec_l01Crc_p0  (v0 : List UInt8) (v1 : Int) (v5 : Int) : Option (Int) :=
 goL spec_l01Crc_D spec_l01Crc_H (vleave spec_l01Crc_ir [.d (.one .str),.d (.one (.int .i64))] [.d (.one (.int .i64))] [] []) [.c spec_l01Crc_k3,.l spec_l01Crc_k4,.e 0,.c spec_l01Crc_k5]
  ⟨[(0,.str v0),(1,.int .i64 v1),(5,.int .i64 v5)],[]⟩
noncomputable def spec_l01Crc_p1  (v0 : List UInt8) (v1 : Int) (v5 : Int) (v6 : Int) : Option (Int) :=
 goL spec_l01Crc_D spec_l01Crc_H (vleave spec_l01Crc_ir [.d (.one .str),.d (.one (.int .i64))] [.d (.one (.int .i64))] [] []) [.c spec_l01Crc_k0,.l spec_l01Crc_k1,.e 2,.e 1,.c spec_l01Crc_k2,.l spec_l01Crc_k4,.e 0,.c spec_l01Crc_k5]
  ⟨[(0,.str v0),(1,.int .i64 v1),(5,.int .i64 v5),(6,.int .i64 v6)],[]⟩
theorem spec_l01Crc_eq (a0 : List UInt8) (a1 : Int) : spec_l01Crc a0 a1 =
 spec_l01Crc_p0 a0 a1 0 :=
 (mk_f _ _ _ _ _ _ _ 4000).trans (by kernel_rfl)
theorem spec_l01Crc_p0_eq  (v0 : List UInt8) (v1 : Int) (v5 : Int) : spec_l01Crc_p0 v0 v1 v5 =
 if decide (v5 < (v0.length : Int)) then
  if decide (0 ≤ v5) then
   (v0[v5.toNat]?).bind fun x1 =>
    spec_l01Crc_p1 v0 (IntKind.i64.wrap ((BitVec.ofInt IntKind.i64.bits v1 ^^^ BitVec.ofInt IntKind.i64.bits (IntKind.i64.wrap (IntKind.i64.wrap (x1.toNat : Int) * 2 ^ (min (8 : Int).toNat IntKind.i64.bits)))).toNat : Int)) v5 0
  else
   none
 else
  some v1 :=
 (goL_dn _ _ _ 4000 _ _).trans (by kernel_rfl)
theorem spec_l01Crc_p1_eq  (v0 : List UInt8) (v1 : Int) (v5 : Int) (v6 : Int) : spec_l01Crc_p1 v0 v1 v5 v6 =
 if decide (v6 < 8) then
  if decide (IntKind.i64.wrap (v1 * 2 ^ (min (1 : Int).toNat IntKind.i64.bits)) > 65535) then
   spec_l01Crc_p1 v0 (IntKind.i64.wrap ((BitVec.ofInt IntKind.i64.bits (IntKind.i64.wrap ((BitVec.ofInt IntKind.i64.bits (IntKind.i64.wrap (v1 * 2 ^ (min (1 : Int).toNat IntKind.i64.bits))) &&& BitVec.ofInt IntKind.i64.bits 65535).toNat : Int)) ^^^ BitVec.ofInt IntKind.i64.bits 4129).toNat : Int)) v5 (IntKind.i64.wrap (v6 + 1))
  else
   spec_l01Crc_p1 v0 (IntKind.i64.wrap (v1 * 2 ^ (min (1 : Int).toNat IntKind.i64.bits))) v5 (IntKind.i64.wrap (v6 + 1))
 else
  spec_l01Crc_p0 v0 v1 (IntKind.i64.wrap (v5 + 1)) :=
 (goL_dn _ _ _ 4000 _ _).trans (by kernel_rfl)
def spec_l29Five_k0 : C :=
 .seq (.seq (.reg false [.V 6 (.mv (.t 3)),.V 7 (.lens (.t 6)),.V 8 (.bin .lss (.t 7) (.c (.int .i64 5)))] [3,8] []) (.cond (.t 8) .skip (.exit 0))) (.block 1 (.reg false [.V 9 (.mv (.t 3)),.V 10 (.bin .add (.c (.str [48])) (.t 9)),.V 3 (.asg (.t 10))] [3] []))
def spec_l29Five_k1 : C :=
 .norm [3] [] spec_l29Five_k0
def spec_l29Five_k2 : C :=
 .seq (.reg false [.V 11 (.mv (.t 3)),.V 2 (.asg (.t 11))] [2] []) .ret
def spec_l29Five_ir : Fn := { np := 1,io := [],res := [.t 2],own := [false],body :=
 (.seq (.reg false [.V 2 (.asg (.c (.str [])))] [0] []) (.seq (.reg false [.V 4 (.mv (.t 0)),.V 5 (.call (.c (.fn 726 [])) [.t 4]),.V 3 (.asg (.t 5))] [3] []) (.seq (.block 0 (.loop spec_l29Five_k1)) spec_l29Five_k2))) }
noncomputable def spec_l29Five_D : List (Nat × Callee) := [(726,spec_l01Dec_c)]
def spec_l29Five_H : List (Nat × ET) := []
noncomputable def spec_l29Five_c : Callee := mkCallee spec_l29Five_D spec_l29Five_H spec_l29Five_ir [.d (.one (.int .i64))] [.d (.one .str)] []
noncomputable def spec_l29Five (a0 : Int) : Option (List UInt8) := spec_l29Five_c.f (a0,())
noncomputable def spec_l29Five_p0  (v3 : List UInt8) : Option (List UInt8) :=
 goL spec_l29Five_D spec_l29Five_H (vleave spec_l29Five_ir [.d (.one (.int .i64))] [.d (.one .str)] [] []) [.c spec_l29Five_k0,.l spec_l29Five_k1,.e 0,.c spec_l29Five_k2]
  ⟨[(3,.str v3)],[]⟩
theorem spec_l29Five_eq (a0 : Int) : spec_l29Five a0 =
 (spec_l01Dec a0).bind fun x1 =>
  spec_l29Five_p0 x1 :=
 (mk_f _ _ _ _ _ _ _ 4000).trans (by kernel_rfl)
theorem spec_l29Five_p0_eq  (v3 : List UInt8) : spec_l29Five_p0 v3 =
 if decide ((v3.length : Int) < 5) then
  if decide ([48].length + v3.length ≤ strMax) then
   spec_l29Five_p0 ([48] ++ v3)
  else
   none
 else
  some v3 :=
 (goL_dn _ _ _ 4000 _ _).trans (by kernel_rfl)
def spec_l29Line_ir : Fn := { np := 1,io := [],res := [.t 2],own := [false],body :=
 (.seq (.reg false [.V 2 (.asg (.c (.str [])))] [0] []) (.seq (.reg true [.V 4 (.mv (.t 0)),.V 5 (.nilck (.t 4)),.V 6 (.fa 0 (.t 5)),.V 7 (.ld none (.t 6)),.V 8 (.bin .add (.t 7) (.c (.str [32]))),.V 9 (.mv (.t 0)),.V 10 (.nilck (.t 9)),.V 11 (.fa 1 (.t 10)),.V 12 (.ld none (.t 11)),.V 13 (.bin .add (.t 8) (.t 12)),.V 14 (.bin .add (.t 13) (.c (.str [32]))),.V 15 (.mv (.t 0)),.V 16 (.nilck (.t 15)),.V 17 (.fa 2 (.t 16)),.V 18 (.ld none (.t 17)),.V 19 (.bin .add (.t 14) (.t 18)),.V 3 (.asg (.t 19))] [3] []) (.seq (.reg false [.V 20 (.mv (.t 3)),.V 21 (.call (.c (.fn 1050 [])) [.t 20,.c (.int .i64 65535)]),.V 22 (.call (.c (.fn 1051 [])) [.t 21]),.V 23 (.bin .add (.t 22) (.c (.str [32]))),.V 24 (.mv (.t 3)),.V 25 (.bin .add (.t 23) (.t 24)),.V 26 (.bin .add (.t 25) (.c (.str [10]))),.V 2 (.asg (.t 26))] [2] []) .ret))) }
noncomputable def spec_l29Line_D : List (Nat × Callee) := [(1050,spec_l01Crc_c),(1051,spec_l29Five_c)]
def spec_l29Line_H : List (Nat × ET) := []
noncomputable def spec_l29Line_c : Callee := mkCallee spec_l29Line_D spec_l29Line_H spec_l29Line_ir [.p T_Block] [.d (.one .str)] []
noncomputable def spec_l29Line (a0 : T_Block.ty) : Option (List UInt8) := spec_l29Line_c.f (a0,())
theorem spec_l29Line_eq (a0 : T_Block.ty) : spec_l29Line a0 =
 if decide (a0.1.length + [32].length ≤ strMax) then
  if decide ((a0.1 ++ [32]).length + a0.2.1.length ≤ strMax) then
   if decide (((a0.1 ++ [32]) ++ a0.2.1).length + [32].length ≤ strMax) then
    if decide ((((a0.1 ++ [32]) ++ a0.2.1) ++ [32]).length + a0.2.2.1.length ≤ strMax) then
     (spec_l01Crc ((((a0.1 ++ [32]) ++ a0.2.1) ++ [32]) ++ a0.2.2.1) 65535).bind fun x1 =>
      (spec_l29Five x1).bind fun x2 =>
       if decide (x2.length + [32].length ≤ strMax) then
        if decide ((x2 ++ [32]).length + ((((a0.1 ++ [32]) ++ a0.2.1) ++ [32]) ++ a0.2.2.1).length ≤ strMax) then
         if decide (((x2 ++ [32]) ++ ((((a0.1 ++ [32]) ++ a0.2.1) ++ [32]) ++ a0.2.2.1)).length + [10].length ≤ strMax) then
          some (((x2 ++ [32]) ++ ((((a0.1 ++ [32]) ++ a0.2.1) ++ [32]) ++ a0.2.2.1)) ++ [10])
         else
          none
        else
         none
       else
        none
    else
     none
   else
    none
  else
   none
 else
  none :=
 (mk_f _ _ _ _ _ _ _ 4000).trans (by kernel_rfl)
def spec_l29Save_k0 : C :=
 .seq (.seq (.reg false [.V 10 (.mv (.t 4)),.V 11 (.mv (.t 0)),.V 12 (.len (.t 11)),.V 13 (.bin .lss (.t 10) (.t 12))] [0,3,4,13] []) (.cond (.t 13) .skip (.exit 0))) (.seq (.block 1 (.reg false [.V 16 (.mv (.t 3)),.V 17 (.mv (.t 0)),.V 18 (.mv (.t 4)),.V 19 (.ia 3 (.t 17) (.t 18)),.V 20 (.call (.c (.fn 961 [])) [.t 19]),.V 21 (.bin .add (.t 16) (.t 20)),.V 3 (.asg (.t 21))] [0,3,4] [])) (.reg false [.V 14 (.mv (.t 4)),.V 15 (.bin .add (.t 14) (.c (.int .i64 1))),.V 4 (.asg (.t 15))] [0,3,4] []))
def spec_l29Save_k1 : C :=
 .norm [0,3,4] [] spec_l29Save_k0
def spec_l29Save_k2 : C :=
 .seq (.reg false [.V 22 (.mv (.t 3)),.V 2 (.asg (.t 22))] [2] []) .ret
def spec_l29Save_ir : Fn := { np := 1,io := [],res := [.t 2],own := [false],body :=
 (.seq (.reg false [.V 2 (.asg (.c (.str [])))] [0] []) (.seq (.reg false [.V 5 (.mv (.t 0)),.V 6 (.len (.t 5)),.V 7 (.call (.c (.fn 726 [])) [.t 6]),.V 8 (.bin .add (.c (.str [97,114,99,104,105,118,101,32])) (.t 7)),.V 9 (.bin .add (.t 8) (.c (.str [10]))),.V 3 (.asg (.t 9))] [0,3] []) (.seq (.seq (.reg false [.V 4 (.asg (.c (.int .i64 0)))] [0,3,4] []) (.block 0 (.loop spec_l29Save_k1))) spec_l29Save_k2))) }
noncomputable def spec_l29Save_D : List (Nat × Callee) := [(726,spec_l01Dec_c),(961,spec_l29Line_c)]
def spec_l29Save_H : List (Nat × ET) := [(5,T_Block),(11,T_Block),(17,T_Block)]
noncomputable def spec_l29Save_c : Callee := mkCallee spec_l29Save_D spec_l29Save_H spec_l29Save_ir [.d (.one (.sl T_Block))] [.d (.one .str)] []
noncomputable def spec_l29Save (a0 : List T_Block.ty) : Option (List UInt8) := spec_l29Save_c.f (a0,())
noncomputable def spec_l29Save_p0  (v0 : List T_Block.ty) (v3 : List UInt8) (v4 : Int) : Option (List UInt8) :=
 goL spec_l29Save_D spec_l29Save_H (vleave spec_l29Save_ir [.d (.one (.sl T_Block))] [.d (.one .str)] [] []) [.c spec_l29Save_k0,.l spec_l29Save_k1,.e 0,.c spec_l29Save_k2]
  ⟨[(0,.sl T_Block v0),(3,.str v3),(4,.int .i64 v4)],[]⟩
theorem spec_l29Save_eq (a0 : List T_Block.ty) : spec_l29Save a0 =
 (spec_l01Dec (a0.length : Int)).bind fun x1 =>
  if decide ([97,114,99,104,105,118,101,32].length + x1.length ≤ strMax) then
   if decide (([97,114,99,104,105,118,101,32] ++ x1).length + [10].length ≤ strMax) then
    spec_l29Save_p0 a0 (([97,114,99,104,105,118,101,32] ++ x1) ++ [10]) 0
   else
    none
  else
   none :=
 (mk_f _ _ _ _ _ _ _ 4000).trans (by kernel_rfl)
theorem spec_l29Save_p0_eq  (v0 : List T_Block.ty) (v3 : List UInt8) (v4 : Int) : spec_l29Save_p0 v0 v3 v4 =
 if decide (v4 < (v0.length : Int)) then
  if decide (0 ≤ v4) then
   (v0[v4.toNat]?).bind fun x1 =>
    (spec_l29Line x1).bind fun x2 =>
     if decide (v3.length + x2.length ≤ strMax) then
      spec_l29Save_p0 v0 (v3 ++ x2) (IntKind.i64.wrap (v4 + 1))
     else
      none
  else
   none
 else
  some v3 :=
 (goL_dn _ _ _ 4000 _ _).trans (by kernel_rfl)
def spec_SaveBlocks_ir : Fn := { np := 1,io := [],res := [.t 2,.t 3],own := [false,false],body :=
 (.seq (.reg false [.V 2 (.asg (.c (.str []))),.V 3 (.asg (.c (.int .i64 0)))] [0] []) (.seq (.seq (.reg false [.V 4 (.mv (.t 0)),.V 5 (.call (.c (.fn 575 [])) [.t 4]),.V 6 (.un .not (.t 5))] [0,6] []) (.cond (.t 6) (.seq (.reg false [.V 2 (.asg (.c (.str []))),.V 3 (.asg (.c (.int .i64 1)))] [2,3] []) .ret) .skip)) (.seq (.reg false [.V 7 (.mv (.t 0)),.V 8 (.call (.c (.fn 748 [])) [.t 7]),.V 2 (.asg (.t 8)),.V 3 (.asg (.c (.int .i64 0)))] [2,3] []) .ret))) }
noncomputable def spec_SaveBlocks_D : List (Nat × Callee) := [(575,spec_l29Ok_c),(748,spec_l29Save_c)]
def spec_SaveBlocks_H : List (Nat × ET) := [(4,T_Block),(7,T_Block)]
noncomputable def spec_SaveBlocks_c : Callee := mkCallee spec_SaveBlocks_D spec_SaveBlocks_H spec_SaveBlocks_ir [.d (.one (.sl T_Block))] [.d (.one .str),.d (.one (.int .i64))] []
noncomputable def spec_SaveBlocks (a0 : List T_Block.ty) : Option (List UInt8 × Int) := spec_SaveBlocks_c.f (a0,())
theorem spec_SaveBlocks_eq (a0 : List T_Block.ty) : spec_SaveBlocks a0 =
 (spec_l29Ok a0).bind fun x1 =>
  if (!x1) then
   some ([],1)
  else
   (spec_l29Save a0).bind fun x2 =>
    some (x2,0) :=
 (mk_f _ _ _ _ _ _ _ 4000).trans (by kernel_rfl)
def laws_r8At_k0 : C :=
 .seq (.reg false [.V 15 (.mv (.t 0)),.V 16 (.mv (.t 1)),.V 17 (.ia 1 (.t 15) (.t 16)),.V 18 (.ld none (.t 17)),.V 19 (.conv (.int .i64) (.t 18)),.V 20 (.mv (.t 2)),.V 21 (.bin .rem (.t 19) (.t 20)),.V 6 (.asg (.t 21))] [6] []) .ret
def laws_r8At_ir : Fn := { np := 3,io := [],res := [.t 6],own := [false],body :=
 (.seq (.reg false [.V 6 (.asg (.c (.int .i64 0)))] [0,1,2] []) (.seq (.seq (.reg false [.V 7 (.mv (.t 2)),.V 8 (.bin .leq (.t 7) (.c (.int .i64 1))),.V 9 (.mv (.t 8)),.G 10 (.mv (.t 1)) 2 false,.G 11 (.mv (.t 0)) 2 false,.G 12 (.len (.t 11)) 2 false,.G 13 (.bin .geq (.t 10) (.t 12)) 2 false,.V 14 (.pick (.t 9) (.c (.bool true)) (.t 13))] [0,1,2,14] []) (.cond (.t 14) (.seq (.reg false [.V 6 (.asg (.c (.int .i64 0)))] [6] []) .ret) .skip)) (.norm [0,1,2] [] laws_r8At_k0))) }
noncomputable def laws_r8At_D : List (Nat × Callee) := []
def laws_r8At_H : List (Nat × ET) := [(11,(.one (.int .u8))),(15,(.one (.int .u8)))]
noncomputable def laws_r8At_c : Callee := mkCallee laws_r8At_D laws_r8At_H laws_r8At_ir [.d (.one (.sl (.one (.int .u8)))),.d (.one (.int .i64)),.d (.one (.int .i64))] [.d (.one (.int .i64))] []
noncomputable def laws_r8At (a0 : List Int) (a1 : Int) (a2 : Int) : Option (Int) := laws_r8At_c.f (a0,a1,a2,())
noncomputable def laws_r8At_p0  (v0 : List Int) (v1 : Int) (v2 : Int) : Option (Int) :=
 goL laws_r8At_D laws_r8At_H (vleave laws_r8At_ir [.d (.one (.sl (.one (.int .u8)))),.d (.one (.int .i64)),.d (.one (.int .i64))] [.d (.one (.int .i64))] [] []) [.c laws_r8At_k0]
  ⟨[(0,.sl (.one (.int .u8)) v0),(1,.int .i64 v1),(2,.int .i64 v2)],[]⟩
theorem laws_r8At_eq (a0 : List Int) (a1 : Int) (a2 : Int) : laws_r8At a0 a1 a2 =
 if decide (a2 ≤ 1) then
  some 0
 else
  if decide (a1 ≥ (a0.length : Int)) then
   some 0
  else
   laws_r8At_p0 a0 a1 a2 :=
 (mk_f _ _ _ _ _ _ _ 4000).trans (by kernel_rfl)
theorem laws_r8At_p0_eq  (v0 : List Int) (v1 : Int) (v2 : Int) : laws_r8At_p0 v0 v1 v2 =
 if decide (0 ≤ v1) then
  (v0[v1.toNat]?).bind fun x1 =>
   if decide (v2 = 0) then
    none
   else
    some ((IntKind.i64.wrap x1).tmod v2)
 else
  none :=
 (goL_dn _ _ _ 4000 _ _).trans (by kernel_rfl)
def laws_r8Wide_ir : Fn := { np := 3,io := [],res := [.t 6],own := [false],body :=
 (.seq (.reg false [.V 6 (.asg (.c (.int .i64 0)))] [0,1,2] []) (.seq (.reg false [.V 7 (.mv (.t 0)),.V 8 (.mv (.t 1)),.V 9 (.call (.c (.fn 151 [])) [.t 7,.t 8,.c (.int .i64 256)]),.V 10 (.bin .mul (.c (.int .i64 256)) (.t 9)),.V 11 (.mv (.t 0)),.V 12 (.mv (.t 1)),.V 13 (.bin .add (.t 12) (.c (.int .i64 1))),.V 14 (.call (.c (.fn 151 [])) [.t 11,.t 13,.c (.int .i64 256)]),.V 15 (.bin .add (.t 10) (.t 14)),.V 16 (.mv (.t 2)),.V 17 (.bin .rem (.t 15) (.t 16)),.V 6 (.asg (.t 17))] [6] []) .ret)) }
noncomputable def laws_r8Wide_D : List (Nat × Callee) := [(151,laws_r8At_c)]
def laws_r8Wide_H : List (Nat × ET) := [(7,(.one (.int .u8))),(11,(.one (.int .u8)))]
noncomputable def laws_r8Wide_c : Callee := mkCallee laws_r8Wide_D laws_r8Wide_H laws_r8Wide_ir [.d (.one (.sl (.one (.int .u8)))),.d (.one (.int .i64)),.d (.one (.int .i64))] [.d (.one (.int .i64))] []
noncomputable def laws_r8Wide (a0 : List Int) (a1 : Int) (a2 : Int) : Option (Int) := laws_r8Wide_c.f (a0,a1,a2,())
theorem laws_r8Wide_eq (a0 : List Int) (a1 : Int) (a2 : Int) : laws_r8Wide a0 a1 a2 =
 (laws_r8At a0 a1 256).bind fun x1 =>
  (laws_r8At a0 (IntKind.i64.wrap (a1 + 1)) 256).bind fun x2 =>
   if decide (a2 = 0) then
    none
   else
    some ((IntKind.i64.wrap ((IntKind.i64.wrap (256 * x1)) + x2)).tmod a2) :=
 (mk_f _ _ _ _ _ _ _ 4000).trans (by kernel_rfl)
noncomputable def strings_Split_c : Callee := splitC
noncomputable def strings_Split (a0 : List UInt8) (a1 : List UInt8) : Option (List (List UInt8)) := strings_Split_c.f (a0,a1,())
theorem strings_Split_eq (a0 : List UInt8) (a1 : List UInt8) : strings_Split a0 a1 = if decide (a0.length < 4294967281) && decide (1 ≤ a1.length) then some (Lib.splitK a1 0 (Lib.count a0 a1) a0) else none := rfl
def impl_within_ir : Fn := { np := 3,io := [],res := [.t 6],own := [false],body :=
 (.seq (.reg false [.V 6 (.asg (.c (.bool false)))] [0,1,2] []) (.seq (.reg false [.V 7 (.mv (.t 1)),.V 8 (.mv (.t 0)),.V 9 (.bin .leq (.t 7) (.t 8)),.V 10 (.mv (.t 9)),.G 11 (.mv (.t 0)) 3 true,.G 12 (.mv (.t 2)) 3 true,.G 13 (.bin .leq (.t 11) (.t 12)) 3 true,.V 14 (.pick (.t 10) (.t 13) (.c (.bool false))),.V 6 (.asg (.t 14))] [6] []) .ret)) }
noncomputable def impl_within_D : List (Nat × Callee) := []
def impl_within_H : List (Nat × ET) := []
noncomputable def impl_within_c : Callee := mkCallee impl_within_D impl_within_H impl_within_ir [.d (.one (.int .i64)),.d (.one (.int .i64)),.d (.one (.int .i64))] [.d (.one .bool)] []
noncomputable def impl_within (a0 : Int) (a1 : Int) (a2 : Int) : Option (Bool) := impl_within_c.f (a0,a1,a2,())
theorem impl_within_eq (a0 : Int) (a1 : Int) (a2 : Int) : impl_within a0 a1 a2 =
 if decide (a1 ≤ a0) then
  some (decide (a0 ≤ a2))
 else
  some false :=
 (mk_f _ _ _ _ _ _ _ 4000).trans (by kernel_rfl)
def impl_Crc16_k0 : C :=
 .seq (.reg false [.V 23 (.bin .lss (.t 22) (.c (.int .i64 8)))] [0,1,5,22,23] []) (.seq (.cond (.t 23) .skip (.exit 2)) (.seq (.block 3 (.seq (.reg false [.V 24 (.mv (.t 1)),.V 25 (.bin .mul (.t 24) (.c (.int .i64 2))),.V 1 (.asg (.t 25))] [0,1,5,22] []) (.seq (.reg false [.V 26 (.mv (.t 1)),.V 27 (.bin .gtr (.t 26) (.c (.int .i64 65535)))] [0,1,5,22,27] []) (.cond (.t 27) (.reg false [.V 28 (.mv (.t 1)),.V 29 (.bin .and (.t 28) (.c (.int .i64 65535))),.V 30 (.bin .xor (.t 29) (.c (.int .i64 4129))),.V 1 (.asg (.t 30))] [0,1,5,22] []) .skip)))) (.reg false [.V 31 (.bin .add (.t 22) (.c (.int .i64 1))),.V 22 (.mv (.t 31))] [0,1,5,22] [])))
def impl_Crc16_k1 : C :=
 .norm [0,1,5,22] [] impl_Crc16_k0
def impl_Crc16_k2 : C :=
 .reg false [.V 13 (.mv (.t 5)),.V 14 (.bin .add (.t 13) (.c (.int .i64 1))),.V 5 (.asg (.t 14))] [0,1,5] []
def impl_Crc16_k3 : C :=
 .seq (.seq (.reg false [.V 9 (.mv (.t 5)),.V 10 (.mv (.t 0)),.V 11 (.lens (.t 10)),.V 12 (.bin .lss (.t 9) (.t 11))] [0,1,5,12] []) (.cond (.t 12) .skip (.exit 0))) (.seq (.block 1 (.seq (.reg false [.V 15 (.mv (.t 1)),.V 16 (.mv (.t 0)),.V 17 (.mv (.t 5)),.V 18 (.ix (.t 16) (.t 17)),.V 19 (.conv (.int .i64) (.t 18)),.V 20 (.bin .mul (.t 19) (.c (.int .i64 256))),.V 21 (.bin .xor (.t 15) (.t 20)),.V 1 (.asg (.t 21))] [0,1,5] []) (.seq (.reg false [.V 22 (.mv (.c (.int .i64 0)))] [0,1,5,22] []) (.block 2 (.loop impl_Crc16_k1))))) impl_Crc16_k2)
def impl_Crc16_k4 : C :=
 .norm [0,1,5] [] impl_Crc16_k3
def impl_Crc16_k5 : C :=
 .seq (.reg false [.V 32 (.mv (.t 1)),.V 4 (.asg (.t 32))] [4] []) .ret
def impl_Crc16_ir : Fn := { np := 2,io := [],res := [.t 4],own := [false],body :=
 (.seq (.reg false [.V 4 (.asg (.c (.int .i64 0)))] [0,1] []) (.seq (.seq (.reg false [.V 6 (.mv (.t 1)),.V 7 (.call (.c (.fn 23 [])) [.t 6,.c (.int .i64 0),.c (.int .i64 65535)]),.V 8 (.un .not (.t 7))] [0,1,8] []) (.cond (.t 8) (.seq (.reg false [.V 4 (.asg (.c (.int .i64 0)))] [4] []) .ret) .skip)) (.seq (.seq (.reg false [.V 5 (.asg (.c (.int .i64 0)))] [0,1,5] []) (.block 0 (.loop impl_Crc16_k4))) impl_Crc16_k5))) }
noncomputable def impl_Crc16_D : List (Nat × Callee) := [(23,impl_within_c)]
def impl_Crc16_H : List (Nat × ET) := []
noncomputable def impl_Crc16_c : Callee := mkCallee impl_Crc16_D impl_Crc16_H impl_Crc16_ir [.d (.one .str),.d (.one (.int .i64))] [.d (.one (.int .i64))] []
noncomputable def impl_Crc16 (a0 : List UInt8) (a1 : Int) : Option (Int) := impl_Crc16_c.f (a0,a1,())
noncomputable def impl_Crc16_p0  (v0 : List UInt8) (v1 : Int) (v5 : Int) : Option (Int) :=
 goL impl_Crc16_D impl_Crc16_H (vleave impl_Crc16_ir [.d (.one .str),.d (.one (.int .i64))] [.d (.one (.int .i64))] [] []) [.c impl_Crc16_k3,.l impl_Crc16_k4,.e 0,.c impl_Crc16_k5]
  ⟨[(0,.str v0),(1,.int .i64 v1),(5,.int .i64 v5)],[]⟩
noncomputable def impl_Crc16_p1  (v0 : List UInt8) (v1 : Int) (v5 : Int) (v22 : Int) : Option (Int) :=
 goL impl_Crc16_D impl_Crc16_H (vleave impl_Crc16_ir [.d (.one .str),.d (.one (.int .i64))] [.d (.one (.int .i64))] [] []) [.c impl_Crc16_k0,.l impl_Crc16_k1,.e 2,.e 1,.c impl_Crc16_k2,.l impl_Crc16_k4,.e 0,.c impl_Crc16_k5]
  ⟨[(0,.str v0),(1,.int .i64 v1),(5,.int .i64 v5),(22,.int .i64 v22)],[]⟩
theorem impl_Crc16_eq (a0 : List UInt8) (a1 : Int) : impl_Crc16 a0 a1 =
 (impl_within a1 0 65535).bind fun x1 =>
  if (!x1) then
   some 0
  else
   impl_Crc16_p0 a0 a1 0 :=
 (mk_f _ _ _ _ _ _ _ 4000).trans (by kernel_rfl)
theorem impl_Crc16_p0_eq  (v0 : List UInt8) (v1 : Int) (v5 : Int) : impl_Crc16_p0 v0 v1 v5 =
 if decide (v5 < (v0.length : Int)) then
  if decide (0 ≤ v5) then
   (v0[v5.toNat]?).bind fun x1 =>
    impl_Crc16_p1 v0 (IntKind.i64.wrap ((BitVec.ofInt IntKind.i64.bits v1 ^^^ BitVec.ofInt IntKind.i64.bits (IntKind.i64.wrap ((IntKind.i64.wrap (x1.toNat : Int)) * 256))).toNat : Int)) v5 0
  else
   none
 else
  some v1 :=
 (goL_dn _ _ _ 4000 _ _).trans (by kernel_rfl)
theorem impl_Crc16_p1_eq  (v0 : List UInt8) (v1 : Int) (v5 : Int) (v22 : Int) : impl_Crc16_p1 v0 v1 v5 v22 =
 if decide (v22 < 8) then
  if decide (IntKind.i64.wrap (v1 * 2) > 65535) then
   impl_Crc16_p1 v0 (IntKind.i64.wrap ((BitVec.ofInt IntKind.i64.bits (IntKind.i64.wrap ((BitVec.ofInt IntKind.i64.bits (IntKind.i64.wrap (v1 * 2)) &&& BitVec.ofInt IntKind.i64.bits 65535).toNat : Int)) ^^^ BitVec.ofInt IntKind.i64.bits 4129).toNat : Int)) v5 (IntKind.i64.wrap (v22 + 1))
  else
   impl_Crc16_p1 v0 (IntKind.i64.wrap (v1 * 2)) v5 (IntKind.i64.wrap (v22 + 1))
 else
  impl_Crc16_p0 v0 v1 (IntKind.i64.wrap (v5 + 1)) :=
 (goL_dn _ _ _ 4000 _ _).trans (by kernel_rfl)
noncomputable def strconv_FormatInt_c : Callee := formatIntC
noncomputable def strconv_FormatInt (a0 : Int) (a1 : Int) : Option (List UInt8) := strconv_FormatInt_c.f (a0,a1,())
theorem strconv_FormatInt_eq (a0 : Int) (a1 : Int) : strconv_FormatInt a0 a1 = if decide (a1 = 10) && (decide (-9223372036854775808 ≤ a0) && decide (a0 ≤ 9223372036854775807)) then some (Lib.itoa a0) else none := rfl
def impl_Decimal_ir : Fn := { np := 1,io := [],res := [.t 2],own := [false],body :=
 (.seq (.reg false [.V 2 (.asg (.c (.str [])))] [0] []) (.seq (.reg false [.V 3 (.mv (.t 0)),.V 4 (.call (.c (.fn 864 [])) [.t 3,.c (.int .i64 10)]),.V 2 (.asg (.t 4))] [2] []) .ret)) }
noncomputable def impl_Decimal_D : List (Nat × Callee) := [(864,strconv_FormatInt_c)]
def impl_Decimal_H : List (Nat × ET) := []
noncomputable def impl_Decimal_c : Callee := mkCallee impl_Decimal_D impl_Decimal_H impl_Decimal_ir [.d (.one (.int .i64))] [.d (.one .str)] []
noncomputable def impl_Decimal (a0 : Int) : Option (List UInt8) := impl_Decimal_c.f (a0,())
theorem impl_Decimal_eq (a0 : Int) : impl_Decimal a0 =
 (strconv_FormatInt a0 10).bind fun x1 =>
  some x1 :=
 (mk_f _ _ _ _ _ _ _ 4000).trans (by kernel_rfl)
noncomputable def strings_Repeat_c : Callee := repeatC
noncomputable def strings_Repeat (a0 : List UInt8) (a1 : Int) : Option (List UInt8) := strings_Repeat_c.f (a0,a1,())
theorem strings_Repeat_eq (a0 : List UInt8) (a1 : Int) : strings_Repeat a0 a1 = if decide (0 ≤ a1) && (decide (a1 ≤ 9223372036854775807) && decide (a0.length * a1.toNat ≤ 140737488355328)) then some (Lib.repeatL a0 a1.toNat) else none := rfl
def impl_padded_ir : Fn := { np := 2,io := [],res := [.t 4],own := [false],body :=
 (.seq (.reg false [.V 4 (.asg (.c (.str [])))] [0,1] []) (.seq (.reg false [.V 6 (.mv (.t 0)),.V 7 (.call (.c (.fn 524 [])) [.t 6]),.V 5 (.asg (.t 7))] [1,5] []) (.seq (.reg false [.V 8 (.mv (.t 1)),.V 9 (.mv (.t 5)),.V 10 (.lens (.t 9)),.V 11 (.bin .sub (.t 8) (.t 10)),.V 12 (.max [.c (.int .i64 0),.t 11]),.V 13 (.call (.c (.fn 518 [])) [.c (.str [48]),.t 12]),.V 14 (.mv (.t 5)),.V 15 (.bin .add (.t 13) (.t 14)),.V 4 (.asg (.t 15))] [4] []) .ret))) }
noncomputable def impl_padded_D : List (Nat × Callee) := [(518,strings_Repeat_c),(524,impl_Decimal_c)]
def impl_padded_H : List (Nat × ET) := []
noncomputable def impl_padded_c : Callee := mkCallee impl_padded_D impl_padded_H impl_padded_ir [.d (.one (.int .i64)),.d (.one (.int .i64))] [.d (.one .str)] []
noncomputable def impl_padded (a0 : Int) (a1 : Int) : Option (List UInt8) := impl_padded_c.f (a0,a1,())
theorem impl_padded_eq (a0 : Int) (a1 : Int) : impl_padded a0 a1 =
 (impl_Decimal a0).bind fun x1 =>
  (strings_Repeat [48] (if IntKind.i64.wrap (a1 - (x1.length : Int)) > 0 then IntKind.i64.wrap (a1 - (x1.length : Int)) else 0)).bind fun x2 =>
   if decide (x2.length + x1.length ≤ strMax) then
    some (x2 ++ x1)
   else
    none :=
 (mk_f _ _ _ _ _ _ _ 4000).trans (by kernel_rfl)
def impl_lineOf_ir : Fn := { np := 1,io := [],res := [.t 2],own := [false],body :=
 (.seq (.reg false [.V 2 (.asg (.c (.str [])))] [0] []) (.seq (.reg false [.V 3 (.mv (.t 0)),.V 4 (.call (.c (.fn 990 [])) [.t 3,.c (.int .i64 65535)]),.V 5 (.call (.c (.fn 668 [])) [.t 4,.c (.int .i64 5)]),.V 6 (.bin .add (.t 5) (.c (.str [32]))),.V 7 (.mv (.t 0)),.V 8 (.bin .add (.t 6) (.t 7)),.V 2 (.asg (.t 8))] [2] []) .ret)) }
noncomputable def impl_lineOf_D : List (Nat × Callee) := [(668,impl_padded_c),(990,impl_Crc16_c)]
def impl_lineOf_H : List (Nat × ET) := []
noncomputable def impl_lineOf_c : Callee := mkCallee impl_lineOf_D impl_lineOf_H impl_lineOf_ir [.d (.one .str)] [.d (.one .str)] []
noncomputable def impl_lineOf (a0 : List UInt8) : Option (List UInt8) := impl_lineOf_c.f (a0,())
theorem impl_lineOf_eq (a0 : List UInt8) : impl_lineOf a0 =
 (impl_Crc16 a0 65535).bind fun x1 =>
  (impl_padded x1 5).bind fun x2 =>
   if decide (x2.length + [32].length ≤ strMax) then
    if decide ((x2 ++ [32]).length + a0.length ≤ strMax) then
     some ((x2 ++ [32]) ++ a0)
    else
     none
   else
    none :=
 (mk_f _ _ _ _ _ _ _ 4000).trans (by kernel_rfl)
noncomputable def strings_Cut_c : Callee := cutC
noncomputable def strings_Cut (a0 : List UInt8) (a1 : List UInt8) : Option (List UInt8 × List UInt8 × Bool) := strings_Cut_c.f (a0,a1,())
theorem strings_Cut_eq (a0 : List UInt8) (a1 : List UInt8) : strings_Cut a0 a1 = if decide (a0.length < 4294967281) then some (Lib.cut a0 a1) else none := rfl
def impl_isDigit_ir : Fn := { np := 1,io := [],res := [.t 2],own := [false],body :=
 (.seq (.reg false [.V 2 (.asg (.c (.bool false)))] [0] []) (.seq (.reg false [.V 3 (.mv (.t 0)),.V 4 (.bin .geq (.t 3) (.c (.int .u8 48))),.V 5 (.mv (.t 4)),.G 6 (.mv (.t 0)) 2 true,.G 7 (.bin .leq (.t 6) (.c (.int .u8 57))) 2 true,.V 8 (.pick (.t 5) (.t 7) (.c (.bool false))),.V 2 (.asg (.t 8))] [2] []) .ret)) }
noncomputable def impl_isDigit_D : List (Nat × Callee) := []
def impl_isDigit_H : List (Nat × ET) := []
noncomputable def impl_isDigit_c : Callee := mkCallee impl_isDigit_D impl_isDigit_H impl_isDigit_ir [.d (.one (.int .u8))] [.d (.one .bool)] []
noncomputable def impl_isDigit (a0 : Int) : Option (Bool) := impl_isDigit_c.f (a0,())
theorem impl_isDigit_eq (a0 : Int) : impl_isDigit a0 =
 if decide (a0 ≥ 48) then
  some (decide (a0 ≤ 57))
 else
  some false :=
 (mk_f _ _ _ _ _ _ _ 4000).trans (by kernel_rfl)
def impl_few_ir : Fn := { np := 2,io := [],res := [.t 4],own := [false],body :=
 (.seq (.reg false [.V 4 (.asg (.c (.bool false)))] [0,1] []) (.seq (.reg false [.V 5 (.mv (.t 0)),.V 6 (.mv (.t 1)),.V 7 (.bin .leq (.t 5) (.t 6)),.V 4 (.asg (.t 7))] [4] []) .ret)) }
noncomputable def impl_few_D : List (Nat × Callee) := []
def impl_few_H : List (Nat × ET) := []
noncomputable def impl_few_c : Callee := mkCallee impl_few_D impl_few_H impl_few_ir [.d (.one (.int .i64)),.d (.one (.int .i64))] [.d (.one .bool)] []
noncomputable def impl_few (a0 : Int) (a1 : Int) : Option (Bool) := impl_few_c.f (a0,a1,())
theorem impl_few_eq (a0 : Int) (a1 : Int) : impl_few a0 a1 =
 some (decide (a0 ≤ a1)) :=
 (mk_f _ _ _ _ _ _ _ 4000).trans (by kernel_rfl)
def impl_IsName_k0 : C :=
 .seq (.reg false [.V 21 (.mv (.t 4)),.V 22 (.un .not (.t 21)),.V 23 (.mv (.t 22)),.G 24 (.mv (.t 3)) 2 true,.G 25 (.bin .eql (.t 24) (.c (.int .i64 0))) 2 true,.G 26 (.mv (.t 25)) 2 true,.G 27 (.mv (.t 0)) 5 false,.G 28 (.mv (.t 3)) 5 false,.G 29 (.ix (.t 27) (.t 28)) 5 false,.G 30 (.call (.c (.fn 22 [])) [.t 29]) 5 false,.G 31 (.un .not (.t 30)) 5 false,.G 32 (.pick (.t 26) (.c (.bool true)) (.t 31)) 2 true,.V 33 (.pick (.t 23) (.t 32) (.c (.bool false)))] [0,3,33] []) (.cond (.t 33) (.seq (.reg false [.V 2 (.asg (.c (.bool false)))] [2] []) .ret) .skip)
def impl_IsName_k1 : C :=
 .reg false [.V 9 (.mv (.t 3)),.V 10 (.bin .add (.t 9) (.c (.int .i64 1))),.V 3 (.asg (.t 10))] [0,3] []
def impl_IsName_k2 : C :=
 .seq (.seq (.reg false [.V 5 (.mv (.t 3)),.V 6 (.mv (.t 0)),.V 7 (.lens (.t 6)),.V 8 (.bin .lss (.t 5) (.t 7))] [0,3,8] []) (.cond (.t 8) .skip (.exit 0))) (.seq (.block 1 (.seq (.reg false [.V 11 (.mv (.t 0)),.V 12 (.mv (.t 3)),.V 13 (.ix (.t 11) (.t 12)),.V 14 (.bin .geq (.t 13) (.c (.int .u8 97))),.V 15 (.mv (.t 14)),.G 16 (.mv (.t 0)) 4 true,.G 17 (.mv (.t 3)) 4 true,.G 18 (.ix (.t 16) (.t 17)) 4 true,.G 19 (.bin .leq (.t 18) (.c (.int .u8 122))) 4 true,.V 20 (.pick (.t 15) (.t 19) (.c (.bool false))),.V 4 (.asg (.t 20))] [0,3,4] []) (.norm [0,3,4] [] impl_IsName_k0))) impl_IsName_k1)
def impl_IsName_k3 : C :=
 .norm [0,3] [] impl_IsName_k2
def impl_IsName_k4 : C :=
 .seq (.reg false [.V 34 (.mv (.t 0)),.V 35 (.bin .neq (.t 34) (.c (.str []))),.V 36 (.mv (.t 35)),.G 37 (.mv (.t 0)) 2 true,.G 38 (.lens (.t 37)) 2 true,.G 39 (.call (.c (.fn 21 [])) [.t 38,.c (.int .i64 10)]) 2 true,.V 40 (.pick (.t 36) (.t 39) (.c (.bool false))),.V 2 (.asg (.t 40))] [2] []) .ret
def impl_IsName_ir : Fn := { np := 1,io := [],res := [.t 2],own := [false],body :=
 (.seq (.reg false [.V 2 (.asg (.c (.bool false)))] [0] []) (.seq (.seq (.reg false [.V 3 (.asg (.c (.int .i64 0)))] [0,3] []) (.block 0 (.loop impl_IsName_k3))) impl_IsName_k4)) }
noncomputable def impl_IsName_D : List (Nat × Callee) := [(21,impl_few_c),(22,impl_isDigit_c)]
def impl_IsName_H : List (Nat × ET) := []
noncomputable def impl_IsName_c : Callee := mkCallee impl_IsName_D impl_IsName_H impl_IsName_ir [.d (.one .str)] [.d (.one .bool)] []
noncomputable def impl_IsName (a0 : List UInt8) : Option (Bool) := impl_IsName_c.f (a0,())
noncomputable def impl_IsName_p0  (v0 : List UInt8) (v3 : Int) : Option (Bool) :=
 goL impl_IsName_D impl_IsName_H (vleave impl_IsName_ir [.d (.one .str)] [.d (.one .bool)] [] []) [.c impl_IsName_k2,.l impl_IsName_k3,.e 0,.c impl_IsName_k4]
  ⟨[(0,.str v0),(3,.int .i64 v3)],[]⟩
noncomputable def impl_IsName_p1  (v0 : List UInt8) (v3 : Int) (v4 : Bool) : Option (Bool) :=
 goL impl_IsName_D impl_IsName_H (vleave impl_IsName_ir [.d (.one .str)] [.d (.one .bool)] [] []) [.c impl_IsName_k0,.e 1,.c impl_IsName_k1,.l impl_IsName_k3,.e 0,.c impl_IsName_k4]
  ⟨[(0,.str v0),(3,.int .i64 v3),(4,.bool v4)],[]⟩
theorem impl_IsName_eq (a0 : List UInt8) : impl_IsName a0 =
 impl_IsName_p0 a0 0 :=
 (mk_f _ _ _ _ _ _ _ 4000).trans (by kernel_rfl)
theorem impl_IsName_p0_eq  (v0 : List UInt8) (v3 : Int) : impl_IsName_p0 v0 v3 =
 if decide (v3 < (v0.length : Int)) then
  if decide (0 ≤ v3) then
   (v0[v3.toNat]?).bind fun x1 =>
    if decide ((x1.toNat : Int) ≥ 97) then
     if decide (0 ≤ v3) then
      (v0[v3.toNat]?).bind fun x2 =>
       impl_IsName_p1 v0 v3 (decide ((x2.toNat : Int) ≤ 122))
     else
      none
    else
     impl_IsName_p1 v0 v3 false
  else
   none
 else
  if (!(v0 == [])) then
   (impl_few (v0.length : Int) 10).bind fun x3 =>
    some x3
  else
   some false :=
 (goL_dn _ _ _ 4000 _ _).trans (by kernel_rfl)
theorem impl_IsName_p1_eq  (v0 : List UInt8) (v3 : Int) (v4 : Bool) : impl_IsName_p1 v0 v3 v4 =
 if (!v4) then
  if (v3 == 0) then
   some false
  else
   if decide (0 ≤ v3) then
    (v0[v3.toNat]?).bind fun x1 =>
     (impl_isDigit (x1.toNat : Int)).bind fun x2 =>
      if (!x2) then
       some false
      else
       impl_IsName_p0 v0 (IntKind.i64.wrap (v3 + 1))
   else
    none
 else
  impl_IsName_p0 v0 (IntKind.i64.wrap (v3 + 1)) :=
 (goL_dn _ _ _ 4000 _ _).trans (by kernel_rfl)
noncomputable def strings_Contains_c : Callee := containsC
noncomputable def strings_Contains (a0 : List UInt8) (a1 : List UInt8) : Option (Bool) := strings_Contains_c.f (a0,a1,())
theorem strings_Contains_eq (a0 : List UInt8) (a1 : List UInt8) : strings_Contains a0 a1 = if decide (a0.length < 4294967281) then some (Lib.contains a0 a1) else none := rfl
def impl_ValidBlock_ir : Fn := { np := 1,io := [],res := [.t 2],own := [false],body :=
 (.seq (.reg false [.W 1 (.box 3 (.t 0)),.V 2 (.asg (.c (.bool false)))] [1] [1]) (.seq (.reg false [.V 3 (.fa 0 (.t 1)),.V 4 (.ld none (.t 3)),.V 5 (.call (.c (.fn 24 [])) [.t 4]),.V 6 (.mv (.t 5)),.G 7 (.fa 1 (.t 1)) 3 true,.G 8 (.ld none (.t 7)) 3 true,.G 9 (.call (.c (.fn 24 [])) [.t 8]) 3 true,.V 10 (.pick (.t 6) (.t 9) (.c (.bool false))),.V 11 (.mv (.t 10)),.G 12 (.fa 2 (.t 1)) 8 true,.G 13 (.ld none (.t 12)) 8 true,.G 14 (.lens (.t 13)) 8 true,.G 15 (.call (.c (.fn 21 [])) [.t 14,.c (.int .i64 400)]) 8 true,.V 16 (.pick (.t 11) (.t 15) (.c (.bool false))),.V 17 (.mv (.t 16)),.G 18 (.fa 2 (.t 1)) 14 true,.G 19 (.ld none (.t 18)) 14 true,.G 20 (.call (.c (.fn 565 [])) [.t 19,.c (.str [10])]) 14 true,.G 21 (.un .not (.t 20)) 14 true,.V 22 (.pick (.t 17) (.t 21) (.c (.bool false))),.V 2 (.asg (.t 22))] [2] []) .ret)) }
noncomputable def impl_ValidBlock_D : List (Nat × Callee) := [(21,impl_few_c),(24,impl_IsName_c),(565,strings_Contains_c)]
def impl_ValidBlock_H : List (Nat × ET) := []
noncomputable def impl_ValidBlock_c : Callee := mkCallee impl_ValidBlock_D impl_ValidBlock_H impl_ValidBlock_ir [.d T_Block] [.d (.one .bool)] []
noncomputable def impl_ValidBlock (a0 : T_Block.ty) : Option (Bool) := impl_ValidBlock_c.f (a0,())
theorem impl_ValidBlock_eq (a0 : T_Block.ty) : impl_ValidBlock a0 =
 (impl_IsName a0.1).bind fun x1 =>
  if x1 then
   (impl_IsName a0.2.1).bind fun x2 =>
    if x2 then
     (impl_few (a0.2.2.1.length : Int) 400).bind fun x3 =>
      if x3 then
       (strings_Contains a0.2.2.1 [10]).bind fun x4 =>
        some (!x4)
      else
       some false
    else
     some false
  else
   some false :=
 (mk_f _ _ _ _ _ _ _ 4000).trans (by kernel_rfl)
def impl_readBlock_k0 : C :=
 .seq (.reg false [.V 21 (.mv (.t 0)),.V 22 (.slcs (.t 21) (some (.c (.int .i64 6))) none),.V 4 (.asg (.t 22))] [0,2,4] [2]) (.seq (.seq (.reg false [.V 23 (.mv (.t 4)),.V 24 (.call (.c (.fn 827 [])) [.t 23]),.V 25 (.mv (.t 0)),.V 26 (.bin .neq (.t 24) (.t 25))] [2,4,26] [2]) (.cond (.t 26) (.seq (.reg false [.V 27 (.build [.str [],.str [],.str []] []),⟨none,true,.sto 3 (.t 2) (.t 27),none,false,[]⟩,.V 3 (.asg (.c (.int .i64 10)))] [2,3] [2]) .ret) .skip)) (.seq (.reg false [.V 29 (.mv (.t 4)),.V 30 (.call (.c (.fn 523 [])) [.t 29,.c (.str [32])]),.V 28 (.mv (.t 30)),.V 31 (.ext (.t 28) 0),.V 32 (.ext (.t 28) 1),.V 33 (.ext (.t 28) 2),.V 5 (.asg (.t 31)),.V 6 (.asg (.t 32)),.V 7 (.asg (.t 33))] [2,5,6,7] [2]) (.seq (.reg false [.V 35 (.mv (.t 6)),.V 36 (.call (.c (.fn 523 [])) [.t 35,.c (.str [32])]),.V 34 (.mv (.t 36)),.V 37 (.ext (.t 34) 0),.V 38 (.ext (.t 34) 1),.V 39 (.ext (.t 34) 2),.V 8 (.asg (.t 37)),.V 9 (.asg (.t 38)),.V 10 (.asg (.t 39))] [2,5,7,8,9,10] [2]) (.seq (.reg false [.V 40 (.mv (.t 5)),.V 41 (.mv (.t 8)),.V 42 (.mv (.t 9)),.V 43 (.build [.str [],.str [],.str []] [(0,1,.t 40),(1,1,.t 41),(2,1,.t 42)]),.W 11 (.alloc 3 (.agg [.str [],.str [],.str []])),⟨none,true,.sto 3 (.t 11) (.t 43),none,false,[]⟩] [2,7,10,11] [2,11]) (.seq (.seq (.reg false [.V 44 (.mv (.t 7)),.V 45 (.un .not (.t 44)),.V 46 (.mv (.t 45)),.G 47 (.mv (.t 10)) 2 false,.G 48 (.un .not (.t 47)) 2 false,.V 49 (.pick (.t 46) (.c (.bool true)) (.t 48)),.V 50 (.mv (.t 49)),.G 51 (.ld (some 3) (.t 11)) 6 false,.G 52 (.call (.c (.fn 570 [])) [.t 51]) 6 false,.G 53 (.un .not (.t 52)) 6 false,.V 54 (.pick (.t 50) (.c (.bool true)) (.t 53))] [2,11,54] [2,11]) (.cond (.t 54) (.seq (.reg false [.V 55 (.build [.str [],.str [],.str []] []),⟨none,true,.sto 3 (.t 2) (.t 55),none,false,[]⟩,.V 3 (.asg (.c (.int .i64 9)))] [2,3] [2]) .ret) .skip)) (.seq (.reg false [.V 56 (.ld (some 3) (.t 11)),⟨none,true,.sto 3 (.t 2) (.t 56),none,false,[]⟩,.V 3 (.asg (.c (.int .i64 0)))] [2,3] [2]) .ret))))))
def impl_readBlock_ir : Fn := { np := 1,io := [],res := [.cell 2 (some 3),.t 3],own := [false,false],body :=
 (.seq (.reg false [.W 2 (.alloc 3 (.agg [.str [],.str [],.str []])),.V 3 (.asg (.c (.int .i64 0)))] [0,2] [2]) (.seq (.seq (.reg false [.V 12 (.mv (.t 0)),.V 13 (.lens (.t 12)),.V 14 (.bin .lss (.t 13) (.c (.int .i64 6))),.V 15 (.mv (.t 14)),.G 16 (.mv (.t 0)) 3 false,.G 17 (.ix (.t 16) (.c (.int .i64 5))) 3 false,.G 18 (.bin .neq (.t 17) (.c (.int .u8 32))) 3 false,.V 19 (.pick (.t 15) (.c (.bool true)) (.t 18))] [0,2,19] [2]) (.cond (.t 19) (.seq (.reg false [.V 20 (.build [.str [],.str [],.str []] []),⟨none,true,.sto 3 (.t 2) (.t 20),none,false,[]⟩,.V 3 (.asg (.c (.int .i64 9)))] [2,3] [2]) .ret) .skip)) (.norm [0,2] [2] impl_readBlock_k0))) }
noncomputable def impl_readBlock_D : List (Nat × Callee) := [(523,strings_Cut_c),(570,impl_ValidBlock_c),(827,impl_lineOf_c)]
def impl_readBlock_H : List (Nat × ET) := []
noncomputable def impl_readBlock_c : Callee := mkCallee impl_readBlock_D impl_readBlock_H impl_readBlock_ir [.d (.one .str)] [.d T_Block,.d (.one (.int .i64))] []
noncomputable def impl_readBlock (a0 : List UInt8) : Option (T_Block.ty × Int) := impl_readBlock_c.f (a0,())
noncomputable def impl_readBlock_p0  (v0 : List UInt8) (r2_0 : List UInt8) (r2_1 : List UInt8) (r2_2 : List UInt8) : Option (T_Block.ty × Int) :=
 goL impl_readBlock_D impl_readBlock_H (vleave impl_readBlock_ir [.d (.one .str)] [.d T_Block,.d (.one (.int .i64))] [] []) [.c impl_readBlock_k0]
  ⟨[(0,.str v0),(2,.loc 2 0 0)],[(2,some (.var 3 (.agg [.str r2_0,.str r2_1,.str r2_2])))]⟩
theorem impl_readBlock_eq (a0 : List UInt8) : impl_readBlock a0 =
 if decide ((a0.length : Int) < 6) then
  some (([],[],[],()),9)
 else
  (a0[5]?).bind fun x1 =>
   if ((x1.toNat : Int) != 32) then
    some (([],[],[],()),9)
   else
    impl_readBlock_p0 a0 [] [] [] :=
 (mk_f _ _ _ _ _ _ _ 4000).trans (by kernel_rfl)
theorem impl_readBlock_p0_eq  (v0 : List UInt8) (r2_0 : List UInt8) (r2_1 : List UInt8) (r2_2 : List UInt8) : impl_readBlock_p0 v0 r2_0 r2_1 r2_2 =
 if decide (6 ≤ (v0.length : Int)) then
  (impl_lineOf (v0.drop 6)).bind fun x1 =>
   if (!(x1 == v0)) then
    some (([],[],[],()),10)
   else
    (strings_Cut (v0.drop 6) [32]).bind fun x2 =>
     (strings_Cut x2.2.1 [32]).bind fun x3 =>
      if (!x2.2.2) then
       some (([],[],[],()),9)
      else
       if (!x3.2.2) then
        some (([],[],[],()),9)
       else
        (impl_ValidBlock (x2.1,x3.1,x3.2.1,())).bind fun x4 =>
         if (!x4) then
          some (([],[],[],()),9)
         else
          some ((x2.1,x3.1,x3.2.1,()),0)
 else
  none :=
 (goL_dn _ _ _ 4000 _ _).trans (by kernel_rfl)
def impl_DamagedLines_k0 : C :=
 .seq (.reg false [.V 19 (.bin .lss (.t 18) (.t 17))] [3,5,16,17,18,19] [3,4]) (.seq (.cond (.t 19) .skip (.exit 0)) (.seq (.block 1 (.seq (.reg false [.V 20 (.mv (.t 18)),.V 21 (.ia 1 (.t 16) (.t 18)),.V 22 (.ld none (.t 21)),.V 6 (.asg (.t 20)),.V 7 (.asg (.t 22))] [3,5,6,7,16,17,18] [3,4]) (.seq (.reg false [.V 24 (.mv (.t 7)),.V 25 (.call (.c (.fn 749 [])) [.t 24]),.V 23 (.mv (.t 25)),.V 26 (.ext (.t 23) 0),.V 27 (.ext (.t 23) 1),.W 8 (.alloc 3 (.agg [.str [],.str [],.str []])),⟨none,true,.sto 3 (.t 8) (.t 26),none,false,[]⟩,.V 9 (.asg (.t 27))] [3,5,6,7,9,16,17,18] [3,4]) (.seq (.reg false [.V 28 (.mv (.t 6)),.V 29 (.mv (.t 5)),.V 30 (.bin .eql (.t 28) (.t 29)),.V 31 (.mv (.t 30)),.G 32 (.mv (.t 7)) 3 true,.G 33 (.bin .neq (.t 32) (.c (.str []))) 3 true,.V 34 (.pick (.t 31) (.t 33) (.c (.bool false))),.V 35 (.mv (.t 34)),.G 36 (.mv (.t 6)) 7 false,.G 37 (.bin .gtr (.t 36) (.c (.int .i64 0))) 7 false,.G 38 (.mv (.t 37)) 7 false,.G 39 (.mv (.t 6)) 10 true,.G 40 (.mv (.t 5)) 10 true,.G 41 (.bin .lss (.t 39) (.t 40)) 10 true,.G 42 (.pick (.t 38) (.t 41) (.c (.bool false))) 7 false,.G 43 (.mv (.t 42)) 7 false,.G 44 (.mv (.t 9)) 15 true,.G 45 (.bin .neq (.t 44) (.c (.int .i64 0))) 15 true,.G 46 (.pick (.t 43) (.t 45) (.c (.bool false))) 7 false,.V 47 (.pick (.t 35) (.c (.bool true)) (.t 46))] [3,5,6,16,17,18,47] [3,4]) (.cond (.t 47) (.reg false [.V 48 (.mv (.t 3)),.V 49 (.mv (.t 6)),.V 50 (.bin .add (.t 49) (.c (.int .i64 1))),.V 51 (.bsl 1 (.int .i64 0) 1 [(0,.t 50)]),.W 52 (.app 1 8 (.t 48) (.t 51)),.W 3 (.asg (.t 52))] [3,5,16,17,18] [3,4]) .skip))))) (.reg false [.V 53 (.bin .add (.t 18) (.c (.int .i64 1))),.V 18 (.mv (.t 53))] [3,5,16,17,18] [3,4])))
def impl_DamagedLines_k1 : C :=
 .norm [3,5,16,17,18] [3,4] impl_DamagedLines_k0
def impl_DamagedLines_k2 : C :=
 .seq (.reg false [.V 54 (.mv (.t 3)),.W 2 (.asg (.t 54))] [2] [2,3]) .ret
def impl_DamagedLines_ir : Fn := { np := 1,io := [],res := [.t 2],own := [true],body :=
 (.seq (.reg false [.W 2 (.asg (.c (.nils 1)))] [0] []) (.seq (.reg false [.V 10 (.bsl 1 (.int .i64 0) 0 []),.W 3 (.asg (.t 10))] [0,3] [3]) (.seq (.reg false [.V 11 (.mv (.t 0)),.V 12 (.call (.c (.fn 683 [])) [.t 11,.c (.str [10])]),.W 4 (.asg (.t 12))] [3,4] [3,4]) (.seq (.reg false [.V 13 (.mv (.t 4)),.V 14 (.len (.t 13)),.V 15 (.bin .sub (.t 14) (.c (.int .i64 1))),.V 5 (.asg (.t 15))] [3,4,5] [3,4]) (.seq (.seq (.reg false [.V 16 (.mv (.t 4)),.V 17 (.len (.t 16)),.V 18 (.mv (.c (.int .i64 0)))] [3,5,16,17,18] [3,4]) (.block 0 (.loop impl_DamagedLines_k1))) impl_DamagedLines_k2))))) }
noncomputable def impl_DamagedLines_D : List (Nat × Callee) := [(683,strings_Split_c),(749,impl_readBlock_c)]
def impl_DamagedLines_H : List (Nat × ET) := [(2,(.one (.int .i64))),(3,(.one (.int .i64))),(4,(.one .str)),(10,(.one (.int .i64))),(12,(.one .str)),(13,(.one .str)),(16,(.one .str)),(48,(.one (.int .i64))),(51,(.one (.int .i64))),(52,(.one (.int .i64))),(54,(.one (.int .i64)))]
noncomputable def impl_DamagedLines_c : Callee := mkCallee impl_DamagedLines_D impl_DamagedLines_H impl_DamagedLines_ir [.d (.one .str)] [.tok (.one (.int .i64))] []
noncomputable def impl_DamagedLines (a0 : List UInt8) : Option (List Int) := impl_DamagedLines_c.f (a0,())
noncomputable def impl_DamagedLines_p0  (v5 : Int) (v17 : Int) (v18 : Int) (r3 : List Int) (r4 : List (List UInt8)) : Option (List Int) :=
 goL impl_DamagedLines_D impl_DamagedLines_H (vleave impl_DamagedLines_ir [.d (.one .str)] [.tok (.one (.int .i64))] [] []) [.c impl_DamagedLines_k0,.l impl_DamagedLines_k1,.e 0,.c impl_DamagedLines_k2]
  ⟨[(3,.view 3 0 r3.length),(5,.int .i64 v5),(16,.view 4 0 r4.length),(17,.int .i64 v17),(18,.int .i64 v18)],[(3,some (.sl (.one (.int .i64)) r3)),(4,some (.sl (.one .str) r4))]⟩
theorem impl_DamagedLines_eq (a0 : List UInt8) : impl_DamagedLines a0 =
 (strings_Split a0 [10]).bind fun x1 =>
  impl_DamagedLines_p0 (IntKind.i64.wrap ((x1.length : Int) - 1)) (x1.length : Int) 0 [] x1 :=
 (mk_f _ _ _ _ _ _ _ 4000).trans (by kernel_rfl)
theorem impl_DamagedLines_p0_eq  (v5 : Int) (v17 : Int) (v18 : Int) (r3 : List Int) (r4 : List (List UInt8)) : impl_DamagedLines_p0 v5 v17 v18 r3 r4 =
 if decide (v18 < v17) then
  if decide (0 ≤ v18) && decide (v18 < (r4.length : Int)) then
   (r4[v18.toNat]?).bind fun x1 =>
    (impl_readBlock x1).bind fun x2 =>
     if (v18 == v5) then
      if (!(x1 == [])) then
       if decide (r3.length + 1 < lim) then
        impl_DamagedLines_p0 v5 v17 (IntKind.i64.wrap (v18 + 1)) ((r3.take r3.length) ++ [IntKind.i64.wrap (v18 + 1)]) r4
       else
        none
      else
       if decide (v18 > 0) then
        if decide (v18 < v5) then
         if (x2.2 != 0) then
          if decide (r3.length + 1 < lim) then
           impl_DamagedLines_p0 v5 v17 (IntKind.i64.wrap (v18 + 1)) ((r3.take r3.length) ++ [IntKind.i64.wrap (v18 + 1)]) r4
          else
           none
         else
          impl_DamagedLines_p0 v5 v17 (IntKind.i64.wrap (v18 + 1)) r3 r4
        else
         impl_DamagedLines_p0 v5 v17 (IntKind.i64.wrap (v18 + 1)) r3 r4
       else
        impl_DamagedLines_p0 v5 v17 (IntKind.i64.wrap (v18 + 1)) r3 r4
     else
      if decide (v18 > 0) then
       if decide (v18 < v5) then
        if (x2.2 != 0) then
         if decide (r3.length + 1 < lim) then
          impl_DamagedLines_p0 v5 v17 (IntKind.i64.wrap (v18 + 1)) ((r3.take r3.length) ++ [IntKind.i64.wrap (v18 + 1)]) r4
         else
          none
        else
         impl_DamagedLines_p0 v5 v17 (IntKind.i64.wrap (v18 + 1)) r3 r4
       else
        impl_DamagedLines_p0 v5 v17 (IntKind.i64.wrap (v18 + 1)) r3 r4
      else
       impl_DamagedLines_p0 v5 v17 (IntKind.i64.wrap (v18 + 1)) r3 r4
  else
   none
 else
  some (r3.take r3.length) :=
 (goL_dn _ _ _ 4000 _ _).trans (by kernel_rfl)
def impl_clone_impl_Block__ir : Fn := { np := 1,io := [],res := [.t 2],own := [true],body :=
 (.seq (.reg false [.W 2 (.asg (.c (.nils 3)))] [0] []) (.seq (.reg false [.V 3 (.mv (.t 0)),.V 4 (.len (.t 3)),.V 5 (.mks 3 48 (.agg [.str [],.str [],.str []]) (.c (.int .i64 0)) (.t 4)),.V 6 (.mv (.t 0)),.W 7 (.app 3 48 (.t 5) (.t 6)),.W 2 (.asg (.t 7))] [2] [2]) .ret)) }
noncomputable def impl_clone_impl_Block__D : List (Nat × Callee) := []
def impl_clone_impl_Block__H : List (Nat × ET) := [(2,T_Block),(3,T_Block),(5,T_Block),(6,T_Block),(7,T_Block)]
noncomputable def impl_clone_impl_Block__c : Callee := mkCallee impl_clone_impl_Block__D impl_clone_impl_Block__H impl_clone_impl_Block__ir [.d (.one (.sl T_Block))] [.tok T_Block] []
noncomputable def impl_clone_impl_Block_ (a0 : List T_Block.ty) : Option (List T_Block.ty) := impl_clone_impl_Block__c.f (a0,())
theorem impl_clone_impl_Block__eq (a0 : List T_Block.ty) : impl_clone_impl_Block_ a0 =
 if decide (0 ≤ (a0.length : Int)) && decide ((a0.length : Int).toNat < lim) then
  if decide (0 + a0.length < lim) then
   some (([] ++ a0).take (([] ++ a0).length))
  else
   none
 else
  none :=
 (mk_f _ _ _ _ _ _ _ 4000).trans (by kernel_rfl)
noncomputable def strings_Compare_c : Callee := compareC
noncomputable def strings_Compare (a0 : List UInt8) (a1 : List UInt8) : Option (Int) := strings_Compare_c.f (a0,a1,())
theorem strings_Compare_eq (a0 : List UInt8) (a1 : List UInt8) : strings_Compare a0 a1 = some (Lib.compareBytes a0 a1) := rfl
def impl_Block_compare_ir : Fn := { np := 2,io := [],res := [.t 4],own := [false],body :=
 (.seq (.reg false [.W 2 (.box 3 (.t 0)),.W 3 (.box 3 (.t 1)),.V 4 (.asg (.c (.int .i64 0)))] [2,3] [2,3]) (.seq (.seq (.reg false [.V 6 (.fa 0 (.t 2)),.V 7 (.ld none (.t 6)),.V 8 (.fa 0 (.t 3)),.V 9 (.ld none (.t 8)),.V 10 (.call (.c (.fn 950 [])) [.t 7,.t 9]),.V 5 (.asg (.t 10))] [2,3,5] [2,3]) (.seq (.reg false [.V 11 (.mv (.t 5)),.V 12 (.bin .neq (.t 11) (.c (.int .i64 0)))] [2,3,5,12] [2,3]) (.cond (.t 12) (.seq (.reg false [.V 13 (.mv (.t 5)),.V 4 (.asg (.t 13))] [4] []) .ret) .skip))) (.seq (.reg false [.V 14 (.fa 1 (.t 2)),.V 15 (.ld none (.t 14)),.V 16 (.fa 1 (.t 3)),.V 17 (.ld none (.t 16)),.V 18 (.call (.c (.fn 950 [])) [.t 15,.t 17]),.V 4 (.asg (.t 18))] [4] []) .ret))) }
noncomputable def impl_Block_compare_D : List (Nat × Callee) := [(950,strings_Compare_c)]
def impl_Block_compare_H : List (Nat × ET) := []
noncomputable def impl_Block_compare_c : Callee := mkCallee impl_Block_compare_D impl_Block_compare_H impl_Block_compare_ir [.d T_Block,.d T_Block] [.d (.one (.int .i64))] []
noncomputable def impl_Block_compare (a0 : T_Block.ty) (a1 : T_Block.ty) : Option (Int) := impl_Block_compare_c.f (a0,a1,())
theorem impl_Block_compare_eq (a0 : T_Block.ty) (a1 : T_Block.ty) : impl_Block_compare a0 a1 =
 (strings_Compare a0.1 a1.1).bind fun x1 =>
  if (x1 != 0) then
   some x1
  else
   (strings_Compare a0.2.1 a1.2.1).bind fun x2 =>
    some x2 :=
 (mk_f _ _ _ _ _ _ _ 4000).trans (by kernel_rfl)
def slices_BinarySearchFunc___impl_Block_impl_Block_impl_Block__impl_Block_compare_k0 : C :=
 .seq (.seq (.reg false [.V 15 (.mv (.t 9)),.V 16 (.mv (.t 10)),.V 17 (.bin .lss (.t 15) (.t 16))] [0,2,4,8,9,10,17] [4]) (.cond (.t 17) .skip (.exit 0))) (.block 1 (.seq (.reg false [.V 18 (.mv (.t 9)),.V 19 (.mv (.t 10)),.V 20 (.bin .add (.t 18) (.t 19)),.V 21 (.conv (.int .u64) (.t 20)),.V 22 (.bin .shr (.t 21) (.c (.int .u64 1))),.V 23 (.conv (.int .i64) (.t 22)),.V 11 (.asg (.t 23))] [0,2,4,8,9,10,11] [4]) (.seq (.reg true [.V 24 (.mv (.t 2)),.V 25 (.mv (.t 0)),.V 26 (.mv (.t 11)),.V 27 (.ia 3 (.t 25) (.t 26)),.V 28 (.ld (some 3) (.t 27)),.V 29 (.ld (some 3) (.t 4)),.V 30 (.call (.t 24) [.t 28,.t 29]),.V 31 (.bin .lss (.t 30) (.c (.int .i64 0)))] [0,2,4,8,9,10,11,31] [4]) (.cond (.t 31) (.reg false [.V 32 (.mv (.t 11)),.V 33 (.bin .add (.t 32) (.c (.int .i64 1))),.V 9 (.asg (.t 33))] [0,2,4,8,9,10] [4]) (.reg false [.V 34 (.mv (.t 11)),.V 10 (.asg (.t 34))] [0,2,4,8,9,10] [4])))))
def slices_BinarySearchFunc___impl_Block_impl_Block_impl_Block__impl_Block_compare_k1 : C :=
 .norm [0,2,4,8,9,10] [4] slices_BinarySearchFunc___impl_Block_impl_Block_impl_Block__impl_Block_compare_k0
def slices_BinarySearchFunc___impl_Block_impl_Block_impl_Block__impl_Block_compare_k2 : C :=
 .seq (.reg true [.V 35 (.mv (.t 9)),.V 36 (.mv (.t 9)),.V 37 (.mv (.t 8)),.V 38 (.bin .lss (.t 36) (.t 37)),.V 39 (.mv (.t 38)),.G 40 (.mv (.t 2)) 4 true,.G 41 (.mv (.t 0)) 4 true,.G 42 (.mv (.t 9)) 4 true,.G 43 (.ia 3 (.t 41) (.t 42)) 4 true,.G 44 (.ld (some 3) (.t 43)) 4 true,.G 45 (.ld (some 3) (.t 4)) 4 true,.G 46 (.call (.t 40) [.t 44,.t 45]) 4 true,.G 47 (.bin .eql (.t 46) (.c (.int .i64 0))) 4 true,.V 48 (.pick (.t 39) (.t 47) (.c (.bool false))),.V 6 (.asg (.t 35)),.V 7 (.asg (.t 48))] [6,7] []) .ret
def slices_BinarySearchFunc___impl_Block_impl_Block_impl_Block__impl_Block_compare_ir : Fn := { np := 3,io := [],res := [.t 6,.t 7],own := [false,false],body :=
 (.seq (.reg false [.W 4 (.box 3 (.t 1)),.V 6 (.asg (.c (.int .i64 0))),.V 7 (.asg (.c (.bool false)))] [0,2,4] [4]) (.seq (.reg false [.V 12 (.mv (.t 0)),.V 13 (.len (.t 12)),.V 8 (.asg (.t 13))] [0,2,4,8] [4]) (.seq (.reg false [.V 14 (.mv (.t 8)),.V 9 (.asg (.c (.int .i64 0))),.V 10 (.asg (.t 14))] [0,2,4,8,9,10] [4]) (.seq (.block 0 (.loop slices_BinarySearchFunc___impl_Block_impl_Block_impl_Block__impl_Block_compare_k1)) slices_BinarySearchFunc___impl_Block_impl_Block_impl_Block__impl_Block_compare_k2)))) }
noncomputable def slices_BinarySearchFunc___impl_Block_impl_Block_impl_Block__impl_Block_compare_D : List (Nat × Callee) := [(828,impl_Block_compare_c)]
def slices_BinarySearchFunc___impl_Block_impl_Block_impl_Block__impl_Block_compare_H : List (Nat × ET) := [(12,T_Block),(25,T_Block),(41,T_Block)]
noncomputable def slices_BinarySearchFunc___impl_Block_impl_Block_impl_Block__impl_Block_compare_c : Callee := mkCallee slices_BinarySearchFunc___impl_Block_impl_Block_impl_Block__impl_Block_compare_D slices_BinarySearchFunc___impl_Block_impl_Block_impl_Block__impl_Block_compare_H slices_BinarySearchFunc___impl_Block_impl_Block_impl_Block__impl_Block_compare_ir [.d (.one (.sl T_Block)),.d T_Block,.fn 828 []] [.d (.one (.int .i64)),.d (.one .bool)] []
noncomputable def slices_BinarySearchFunc___impl_Block_impl_Block_impl_Block__impl_Block_compare (a0 : List T_Block.ty) (a1 : T_Block.ty) (a2 : Unit) : Option (Int × Bool) := slices_BinarySearchFunc___impl_Block_impl_Block_impl_Block__impl_Block_compare_c.f (a0,a1,a2,())
noncomputable def slices_BinarySearchFunc___impl_Block_impl_Block_impl_Block__impl_Block_compare_p0  (v0 : List T_Block.ty) (v8 : Int) (v9 : Int) (v10 : Int) (r4_0 : List UInt8) (r4_1 : List UInt8) (r4_2 : List UInt8) : Option (Int × Bool) :=
 goL slices_BinarySearchFunc___impl_Block_impl_Block_impl_Block__impl_Block_compare_D slices_BinarySearchFunc___impl_Block_impl_Block_impl_Block__impl_Block_compare_H (vleave slices_BinarySearchFunc___impl_Block_impl_Block_impl_Block__impl_Block_compare_ir [.d (.one (.sl T_Block)),.d T_Block,.fn 828 []] [.d (.one (.int .i64)),.d (.one .bool)] [] []) [.c slices_BinarySearchFunc___impl_Block_impl_Block_impl_Block__impl_Block_compare_k0,.l slices_BinarySearchFunc___impl_Block_impl_Block_impl_Block__impl_Block_compare_k1,.e 0,.c slices_BinarySearchFunc___impl_Block_impl_Block_impl_Block__impl_Block_compare_k2]
  ⟨[(0,.sl T_Block v0),(2,.fn 828 []),(4,.loc 4 0 0),(8,.int .i64 v8),(9,.int .i64 v9),(10,.int .i64 v10)],[(4,some (.var 3 (.agg [.str r4_0,.str r4_1,.str r4_2])))]⟩
theorem slices_BinarySearchFunc___impl_Block_impl_Block_impl_Block__impl_Block_compare_eq (a0 : List T_Block.ty) (a1 : T_Block.ty) (a2 : Unit) : slices_BinarySearchFunc___impl_Block_impl_Block_impl_Block__impl_Block_compare a0 a1 a2 =
 slices_BinarySearchFunc___impl_Block_impl_Block_impl_Block__impl_Block_compare_p0 a0 (a0.length : Int) 0 (a0.length : Int) a1.1 a1.2.1 a1.2.2.1 :=
 (mk_f _ _ _ _ _ _ _ 4000).trans (by kernel_rfl)
theorem slices_BinarySearchFunc___impl_Block_impl_Block_impl_Block__impl_Block_compare_p0_eq  (v0 : List T_Block.ty) (v8 : Int) (v9 : Int) (v10 : Int) (r4_0 : List UInt8) (r4_1 : List UInt8) (r4_2 : List UInt8) : slices_BinarySearchFunc___impl_Block_impl_Block_impl_Block__impl_Block_compare_p0 v0 v8 v9 v10 r4_0 r4_1 r4_2 =
 if decide (v9 < v10) then
  if decide (0 ≤ IntKind.i64.wrap (Int.fdiv (IntKind.u64.wrap (IntKind.i64.wrap (v9 + v10))) (2 ^ (min (1 : Int).toNat IntKind.u64.bits)))) then
   (v0[(IntKind.i64.wrap (Int.fdiv (IntKind.u64.wrap (IntKind.i64.wrap (v9 + v10))) (2 ^ (min (1 : Int).toNat IntKind.u64.bits)))).toNat]?).bind fun x1 =>
    (impl_Block_compare x1 (r4_0,r4_1,r4_2,())).bind fun x2 =>
     if decide (x2 < 0) then
      slices_BinarySearchFunc___impl_Block_impl_Block_impl_Block__impl_Block_compare_p0 v0 v8 (IntKind.i64.wrap ((IntKind.i64.wrap (Int.fdiv (IntKind.u64.wrap (IntKind.i64.wrap (v9 + v10))) (2 ^ (min (1 : Int).toNat IntKind.u64.bits)))) + 1)) v10 r4_0 r4_1 r4_2
     else
      slices_BinarySearchFunc___impl_Block_impl_Block_impl_Block__impl_Block_compare_p0 v0 v8 v9 (IntKind.i64.wrap (Int.fdiv (IntKind.u64.wrap (IntKind.i64.wrap (v9 + v10))) (2 ^ (min (1 : Int).toNat IntKind.u64.bits)))) r4_0 r4_1 r4_2
  else
   none
 else
  if decide (v9 < v8) then
   if decide (0 ≤ v9) then
    (v0[v9.toNat]?).bind fun x3 =>
     (impl_Block_compare x3 (r4_0,r4_1,r4_2,())).bind fun x4 =>
      some (v9,(x4 == 0))
   else
    none
  else
   some (v9,false) :=
 (goL_dn _ _ _ 4000 _ _).trans (by kernel_rfl)
def impl_blockOf_ir : Fn := { np := 3,io := [],res := [.t 6,.t 7],own := [false,false],body :=
 (.seq (.reg false [.V 6 (.asg (.c (.int .i64 0))),.V 7 (.asg (.c (.bool false)))] [0,1,2] []) (.seq (.reg false [.V 8 (.mv (.t 0)),.V 9 (.mv (.t 1)),.V 10 (.mv (.t 2)),.V 11 (.build [.str [],.str [],.str []] [(0,1,.t 9),(1,1,.t 10)]),.V 12 (.call (.c (.fn 1273 [])) [.t 8,.t 11,.c (.fn 828 [])]),.V 13 (.ext (.t 12) 0),.V 14 (.ext (.t 12) 1),.V 6 (.asg (.t 13)),.V 7 (.asg (.t 14))] [6,7] []) .ret)) }
noncomputable def impl_blockOf_D : List (Nat × Callee) := [(828,impl_Block_compare_c),(1273,slices_BinarySearchFunc___impl_Block_impl_Block_impl_Block__impl_Block_compare_c)]
def impl_blockOf_H : List (Nat × ET) := [(8,T_Block)]
noncomputable def impl_blockOf_c : Callee := mkCallee impl_blockOf_D impl_blockOf_H impl_blockOf_ir [.d (.one (.sl T_Block)),.d (.one .str),.d (.one .str)] [.d (.one (.int .i64)),.d (.one .bool)] []
noncomputable def impl_blockOf (a0 : List T_Block.ty) (a1 : List UInt8) (a2 : List UInt8) : Option (Int × Bool) := impl_blockOf_c.f (a0,a1,a2,())
theorem impl_blockOf_eq (a0 : List T_Block.ty) (a1 : List UInt8) (a2 : List UInt8) : impl_blockOf a0 a1 a2 =
 (slices_BinarySearchFunc___impl_Block_impl_Block_impl_Block__impl_Block_compare a0 (a1,a2,[],()) ()).bind fun x1 =>
  some (x1.1,x1.2) :=
 (mk_f _ _ _ _ _ _ _ 4000).trans (by kernel_rfl)
noncomputable def slices_Insert___impl_Block_impl_Block__c : Callee := insertC T_Block
noncomputable def slices_Insert___impl_Block_impl_Block_ (a0 : List T_Block.ty) (a1 : Int) (a2 : List T_Block.ty) : Option (List T_Block.ty × Unit) := slices_Insert___impl_Block_impl_Block__c.f (a0,a1,a2,())
theorem slices_Insert___impl_Block_impl_Block__eq (a0 : List T_Block.ty) (a1 : Int) (a2 : List T_Block.ty) : slices_Insert___impl_Block_impl_Block_ a0 a1 a2 = if decide (a2.length = 1) && (decide (0 ≤ a1) && (decide (a1 ≤ (a0.length : Int)) && decide (a0.length + 1 < 1099511627776))) then some (a0.take a1.toNat ++ a2 ++ a0.drop a1.toNat,()) else none := rfl
def impl_put_ir : Fn := { np := 2,io := [],res := [.t 4,.t 5],own := [false,false],body :=
 (.seq (.reg false [.W 3 (.box 3 (.t 1)),.W 4 (.asg (.c (.nils 3))),.V 5 (.asg (.c (.int .i64 0)))] [0,3] [3]) (.seq (.reg false [.V 9 (.mv (.t 0)),.V 10 (.call (.c (.fn 572 [])) [.t 9]),.W 6 (.asg (.t 10))] [3,6] [3,6]) (.seq (.reg false [.V 12 (.mv (.t 6)),.V 13 (.fa 0 (.t 3)),.V 14 (.ld none (.t 13)),.V 15 (.fa 1 (.t 3)),.V 16 (.ld none (.t 15)),.V 17 (.call (.c (.fn 571 [])) [.t 12,.t 14,.t 16]),.V 11 (.mv (.t 17)),.V 18 (.ext (.t 11) 0),.V 19 (.ext (.t 11) 1),.V 7 (.asg (.t 18)),.V 8 (.asg (.t 19))] [3,6,7,8] [3,6]) (.seq (.block 0 (.seq (.reg false [.V 26 (.mv (.t 8)),.V 25 (.asg (.t 26))] [3,6,7,25] [3,6]) (.cond (.t 25) (.reg false [.V 27 (.mv (.t 6)),.V 28 (.mv (.t 7)),.V 29 (.ld (some 3) (.t 3)),.V 30 (.ia 3 (.t 27) (.t 28)),⟨none,true,.sto 3 (.t 30) (.t 29),none,false,[]⟩] [6] [6]) (.seq (.reg false [.V 32 (.mv (.t 6)),.V 33 (.len (.t 32)),.V 34 (.bin .eql (.t 33) (.c (.int .i64 32))),.V 31 (.asg (.t 34))] [3,6,7,31] [3,6]) (.cond (.t 31) (.seq (.reg false [.W 4 (.asg (.c (.nils 3))),.V 5 (.asg (.c (.int .i64 5)))] [4,5] [4,6]) .ret) (.reg false [.V 20 (.mv (.t 6)),.V 21 (.mv (.t 7)),.V 22 (.ld (some 3) (.t 3)),.V 23 (.bsl 3 (.agg [.str [],.str [],.str []]) 1 [(0,.t 22)]),.W 24 (.call (.c (.fn 877 [])) [.t 20,.t 21,.t 23]),.W 6 (.asg (.t 24))] [6] [6])))))) (.seq (.reg false [.V 35 (.mv (.t 6)),.W 4 (.asg (.t 35)),.V 5 (.asg (.c (.int .i64 0)))] [4,5] [4,6]) .ret))))) }
noncomputable def impl_put_D : List (Nat × Callee) := [(571,impl_blockOf_c),(572,impl_clone_impl_Block__c),(877,slices_Insert___impl_Block_impl_Block__c)]
def impl_put_H : List (Nat × ET) := [(4,T_Block),(6,T_Block),(9,T_Block),(10,T_Block),(12,T_Block),(20,T_Block),(23,T_Block),(24,T_Block),(27,T_Block),(32,T_Block),(35,T_Block)]
noncomputable def impl_put_c : Callee := mkCallee impl_put_D impl_put_H impl_put_ir [.d (.one (.sl T_Block)),.d T_Block] [.d (.one (.sl T_Block)),.d (.one (.int .i64))] []
noncomputable def impl_put (a0 : List T_Block.ty) (a1 : T_Block.ty) : Option (List T_Block.ty × Int) := impl_put_c.f (a0,a1,())
theorem impl_put_eq (a0 : List T_Block.ty) (a1 : T_Block.ty) : impl_put a0 a1 =
 (impl_clone_impl_Block_ a0).bind fun x1 =>
  (impl_blockOf (x1.take x1.length) a1.1 a1.2.1).bind fun x2 =>
   if x2.2 then
    if decide (0 ≤ x2.1) && decide (x2.1 < (x1.length : Int)) then
     (x1[x2.1.toNat]?).bind fun x3 =>
      some (((x1.set x2.1.toNat a1).take x1.length),0)
    else
     none
   else
    if ((x1.length : Int) == 32) then
     some ([],5)
    else
     if decide (x1.length = x1.length) then
      (slices_Insert___impl_Block_impl_Block_ x1 x2.1 [a1]).bind fun x4 =>
       some ((x4.1.take x4.1.length),0)
     else
      none :=
 (mk_f _ _ _ _ _ _ _ 4000).trans (by kernel_rfl)
def impl_SalvageBlocks_k0 : C :=
 .seq (.seq (.reg false [.V 13 (.mv (.t 5)),.V 14 (.mv (.t 4)),.V 15 (.len (.t 14)),.V 16 (.bin .sub (.t 15) (.c (.int .i64 1))),.V 17 (.bin .lss (.t 13) (.t 16))] [3,4,5,17] [3,4,8]) (.cond (.t 17) .skip (.exit 0))) (.seq (.block 1 (.seq (.reg false [.V 21 (.mv (.t 4)),.V 22 (.mv (.t 5)),.V 23 (.ia 1 (.t 21) (.t 22)),.V 24 (.ld none (.t 23)),.V 25 (.call (.c (.fn 749 [])) [.t 24]),.V 20 (.mv (.t 25)),.V 26 (.ext (.t 20) 0),.V 27 (.ext (.t 20) 1),.W 6 (.alloc 3 (.agg [.str [],.str [],.str []])),⟨none,true,.sto 3 (.t 6) (.t 26),none,false,[]⟩,.V 7 (.asg (.t 27))] [3,4,5,6,7] [3,4,6,8]) (.seq (.seq (.reg false [.V 28 (.mv (.t 7)),.V 29 (.bin .neq (.t 28) (.c (.int .i64 0)))] [3,4,5,6,29] [3,4,6,8]) (.cond (.t 29) (.exit 1) .skip)) (.seq (.reg false [.V 31 (.mv (.t 3)),.V 32 (.ld (some 3) (.t 6)),.W 33 (.call (.c (.fn 568 [])) [.t 31,.t 32]),.V 30 (.mv (.t 33)),.V 34 (.ext (.t 30) 0),.V 35 (.ext (.t 30) 1),.W 8 (.asg (.t 34)),.V 9 (.asg (.t 35))] [3,4,5,8,9] [3,4,8]) (.seq (.reg false [.V 36 (.mv (.t 9)),.V 37 (.bin .eql (.t 36) (.c (.int .i64 0)))] [3,4,5,8,37] [3,4,8]) (.cond (.t 37) (.reg false [.V 38 (.mv (.t 8)),.W 3 (.asg (.t 38))] [3,4,5] [3,4,8]) .skip)))))) (.reg false [.V 18 (.mv (.t 5)),.V 19 (.bin .add (.t 18) (.c (.int .i64 1))),.V 5 (.asg (.t 19))] [3,4,5] [3,4,8]))
def impl_SalvageBlocks_k1 : C :=
 .opn 5000003 (.norm [3,4,5] [4] impl_SalvageBlocks_k0)
def impl_SalvageBlocks_k2 : C :=
 .seq (.reg false [.V 39 (.mv (.t 3)),.W 2 (.asg (.t 39))] [2] [2,3,8]) .ret
def impl_SalvageBlocks_ir : Fn := { np := 1,io := [],res := [.t 2],own := [false],body :=
 (.seq (.reg false [.W 2 (.asg (.c (.nils 3)))] [0] []) (.seq (.reg false [.V 10 (.bsl 3 (.agg [.str [],.str [],.str []]) 0 []),.W 3 (.asg (.t 10))] [0,3] [3,8]) (.seq (.reg false [.V 11 (.mv (.t 0)),.V 12 (.call (.c (.fn 683 [])) [.t 11,.c (.str [10])]),.W 4 (.asg (.t 12))] [3,4] [3,4,8]) (.seq (.seq (.reg false [.V 5 (.asg (.c (.int .i64 1)))] [3,4,5] [3,4,8]) (.block 0 (.loop impl_SalvageBlocks_k1))) impl_SalvageBlocks_k2)))) }
noncomputable def impl_SalvageBlocks_D : List (Nat × Callee) := [(568,impl_put_c),(683,strings_Split_c),(749,impl_readBlock_c)]
def impl_SalvageBlocks_H : List (Nat × ET) := [(2,T_Block),(3,T_Block),(4,(.one .str)),(8,T_Block),(10,T_Block),(12,(.one .str)),(14,(.one .str)),(21,(.one .str)),(31,T_Block),(34,T_Block),(38,T_Block),(39,T_Block)]
noncomputable def impl_SalvageBlocks_c : Callee := mkCallee impl_SalvageBlocks_D impl_SalvageBlocks_H impl_SalvageBlocks_ir [.d (.one .str)] [.d (.one (.sl T_Block))] []
noncomputable def impl_SalvageBlocks (a0 : List UInt8) : Option (List T_Block.ty) := impl_SalvageBlocks_c.f (a0,())
noncomputable def impl_SalvageBlocks_p0  (v3 : List T_Block.ty) (v5 : Int) (r4 : List (List UInt8)) : Option (List T_Block.ty) :=
 goL impl_SalvageBlocks_D impl_SalvageBlocks_H (vleave impl_SalvageBlocks_ir [.d (.one .str)] [.d (.one (.sl T_Block))] [] []) [.c impl_SalvageBlocks_k0,.l impl_SalvageBlocks_k1,.e 0,.c impl_SalvageBlocks_k2]
  ⟨[(3,.sl T_Block v3),(4,.view 4 0 r4.length),(5,.int .i64 v5)],[(4,some (.sl (.one .str) r4))]⟩
theorem impl_SalvageBlocks_eq (a0 : List UInt8) : impl_SalvageBlocks a0 =
 (strings_Split a0 [10]).bind fun x1 =>
  impl_SalvageBlocks_p0 [] 1 x1 :=
 (mk_f _ _ _ _ _ _ _ 4000).trans (by kernel_rfl)
theorem impl_SalvageBlocks_p0_eq  (v3 : List T_Block.ty) (v5 : Int) (r4 : List (List UInt8)) : impl_SalvageBlocks_p0 v3 v5 r4 =
 if decide (v5 < IntKind.i64.wrap ((r4.length : Int) - 1)) then
  if decide (0 ≤ v5) && decide (v5 < (r4.length : Int)) then
   (r4[v5.toNat]?).bind fun x1 =>
    (impl_readBlock x1).bind fun x2 =>
     if (x2.2 != 0) then
      impl_SalvageBlocks_p0 v3 (IntKind.i64.wrap (v5 + 1)) r4
     else
      (impl_put v3 (x2.1.1,x2.1.2.1,x2.1.2.2.1,())).bind fun x3 =>
       if (x3.2 == 0) then
        impl_SalvageBlocks_p0 x3.1 (IntKind.i64.wrap (v5 + 1)) r4
       else
        impl_SalvageBlocks_p0 v3 (IntKind.i64.wrap (v5 + 1)) r4
  else
   none
 else
  some v3 :=
 (goL_dn _ _ _ 4000 _ _).trans (by kernel_rfl)
def laws_r8Same_k0 : C :=
 .seq (.seq (.reg false [.V 11 (.mv (.t 5)),.V 12 (.mv (.t 0)),.V 13 (.len (.t 12)),.V 14 (.bin .lss (.t 11) (.t 13))] [0,1,5,14] []) (.cond (.t 14) .skip (.exit 0))) (.seq (.block 1 (.seq (.reg true [.V 17 (.mv (.t 0)),.V 18 (.mv (.t 5)),.V 19 (.ia 1 (.t 17) (.t 18)),.V 20 (.ld none (.t 19)),.V 21 (.mv (.t 1)),.V 22 (.mv (.t 5)),.V 23 (.ia 1 (.t 21) (.t 22)),.V 24 (.ld none (.t 23)),.V 25 (.bin .neq (.t 20) (.t 24))] [0,1,5,25] []) (.cond (.t 25) (.seq (.reg false [.V 4 (.asg (.c (.bool false)))] [4] []) .ret) .skip))) (.reg false [.V 15 (.mv (.t 5)),.V 16 (.bin .add (.t 15) (.c (.int .i64 1))),.V 5 (.asg (.t 16))] [0,1,5] []))
def laws_r8Same_k1 : C :=
 .norm [0,1,5] [] laws_r8Same_k0
def laws_r8Same_k2 : C :=
 .seq (.reg false [.V 4 (.asg (.c (.bool true)))] [4] []) .ret
def laws_r8Same_ir : Fn := { np := 2,io := [],res := [.t 4],own := [false],body :=
 (.seq (.reg false [.V 4 (.asg (.c (.bool false)))] [0,1] []) (.seq (.seq (.reg false [.V 6 (.mv (.t 0)),.V 7 (.len (.t 6)),.V 8 (.mv (.t 1)),.V 9 (.len (.t 8)),.V 10 (.bin .neq (.t 7) (.t 9))] [0,1,10] []) (.cond (.t 10) (.seq (.reg false [.V 4 (.asg (.c (.bool false)))] [4] []) .ret) .skip)) (.seq (.seq (.reg false [.V 5 (.asg (.c (.int .i64 0)))] [0,1,5] []) (.block 0 (.loop laws_r8Same_k1))) laws_r8Same_k2))) }
noncomputable def laws_r8Same_D : List (Nat × Callee) := []
def laws_r8Same_H : List (Nat × ET) := [(6,(.one (.int .i64))),(8,(.one (.int .i64))),(12,(.one (.int .i64))),(17,(.one (.int .i64))),(21,(.one (.int .i64)))]
noncomputable def laws_r8Same_c : Callee := mkCallee laws_r8Same_D laws_r8Same_H laws_r8Same_ir [.d (.one (.sl (.one (.int .i64)))),.d (.one (.sl (.one (.int .i64))))] [.d (.one .bool)] []
noncomputable def laws_r8Same (a0 : List Int) (a1 : List Int) : Option (Bool) := laws_r8Same_c.f (a0,a1,())
noncomputable def laws_r8Same_p0  (v0 : List Int) (v1 : List Int) (v5 : Int) : Option (Bool) :=
 goL laws_r8Same_D laws_r8Same_H (vleave laws_r8Same_ir [.d (.one (.sl (.one (.int .i64)))),.d (.one (.sl (.one (.int .i64))))] [.d (.one .bool)] [] []) [.c laws_r8Same_k0,.l laws_r8Same_k1,.e 0,.c laws_r8Same_k2]
  ⟨[(0,.sl (.one (.int .i64)) v0),(1,.sl (.one (.int .i64)) v1),(5,.int .i64 v5)],[]⟩
theorem laws_r8Same_eq (a0 : List Int) (a1 : List Int) : laws_r8Same a0 a1 =
 if ((a0.length : Int) != (a1.length : Int)) then
  some false
 else
  laws_r8Same_p0 a0 a1 0 :=
 (mk_f _ _ _ _ _ _ _ 4000).trans (by kernel_rfl)
theorem laws_r8Same_p0_eq  (v0 : List Int) (v1 : List Int) (v5 : Int) : laws_r8Same_p0 v0 v1 v5 =
 if decide (v5 < (v0.length : Int)) then
  if decide (0 ≤ v5) then
   (v0[v5.toNat]?).bind fun x1 =>
    if decide (0 ≤ v5) then
     (v1[v5.toNat]?).bind fun x2 =>
      if (x1 != x2) then
       some false
      else
       laws_r8Same_p0 v0 v1 (IntKind.i64.wrap (v5 + 1))
    else
     none
  else
   none
 else
  some true :=
 (goL_dn _ _ _ 4000 _ _).trans (by kernel_rfl)
def spec_l29Same_k0 : C :=
 .seq (.seq (.reg false [.V 11 (.mv (.t 5)),.V 12 (.mv (.t 0)),.V 13 (.len (.t 12)),.V 14 (.bin .lss (.t 11) (.t 13))] [0,1,5,14] []) (.cond (.t 14) .skip (.exit 0))) (.seq (.block 1 (.seq (.reg true [.V 17 (.mv (.t 0)),.V 18 (.mv (.t 5)),.V 19 (.ia 3 (.t 17) (.t 18)),.V 20 (.ld (some 3) (.t 19)),.V 21 (.mv (.t 1)),.V 22 (.mv (.t 5)),.V 23 (.ia 3 (.t 21) (.t 22)),.V 24 (.ld (some 3) (.t 23)),.V 25 (.eqs true [.s,.s,.s] (.t 20) (.t 24))] [0,1,5,25] []) (.cond (.t 25) (.seq (.reg false [.V 4 (.asg (.c (.bool false)))] [4] []) .ret) .skip))) (.reg false [.V 15 (.mv (.t 5)),.V 16 (.bin .add (.t 15) (.c (.int .i64 1))),.V 5 (.asg (.t 16))] [0,1,5] []))
def spec_l29Same_k1 : C :=
 .norm [0,1,5] [] spec_l29Same_k0
def spec_l29Same_k2 : C :=
 .seq (.reg false [.V 4 (.asg (.c (.bool true)))] [4] []) .ret
def spec_l29Same_ir : Fn := { np := 2,io := [],res := [.t 4],own := [false],body :=
 (.seq (.reg false [.V 4 (.asg (.c (.bool false)))] [0,1] []) (.seq (.seq (.reg false [.V 6 (.mv (.t 0)),.V 7 (.len (.t 6)),.V 8 (.mv (.t 1)),.V 9 (.len (.t 8)),.V 10 (.bin .neq (.t 7) (.t 9))] [0,1,10] []) (.cond (.t 10) (.seq (.reg false [.V 4 (.asg (.c (.bool false)))] [4] []) .ret) .skip)) (.seq (.seq (.reg false [.V 5 (.asg (.c (.int .i64 0)))] [0,1,5] []) (.block 0 (.loop spec_l29Same_k1))) spec_l29Same_k2))) }
noncomputable def spec_l29Same_D : List (Nat × Callee) := []
def spec_l29Same_H : List (Nat × ET) := [(6,T_Block),(8,T_Block),(12,T_Block),(17,T_Block),(21,T_Block)]
noncomputable def spec_l29Same_c : Callee := mkCallee spec_l29Same_D spec_l29Same_H spec_l29Same_ir [.d (.one (.sl T_Block)),.d (.one (.sl T_Block))] [.d (.one .bool)] []
noncomputable def spec_l29Same (a0 : List T_Block.ty) (a1 : List T_Block.ty) : Option (Bool) := spec_l29Same_c.f (a0,a1,())
noncomputable def spec_l29Same_p0  (v0 : List T_Block.ty) (v1 : List T_Block.ty) (v5 : Int) : Option (Bool) :=
 goL spec_l29Same_D spec_l29Same_H (vleave spec_l29Same_ir [.d (.one (.sl T_Block)),.d (.one (.sl T_Block))] [.d (.one .bool)] [] []) [.c spec_l29Same_k0,.l spec_l29Same_k1,.e 0,.c spec_l29Same_k2]
  ⟨[(0,.sl T_Block v0),(1,.sl T_Block v1),(5,.int .i64 v5)],[]⟩
theorem spec_l29Same_eq (a0 : List T_Block.ty) (a1 : List T_Block.ty) : spec_l29Same a0 a1 =
 if ((a0.length : Int) != (a1.length : Int)) then
  some false
 else
  spec_l29Same_p0 a0 a1 0 :=
 (mk_f _ _ _ _ _ _ _ 4000).trans (by kernel_rfl)
theorem spec_l29Same_p0_eq  (v0 : List T_Block.ty) (v1 : List T_Block.ty) (v5 : Int) : spec_l29Same_p0 v0 v1 v5 =
 if decide (v5 < (v0.length : Int)) then
  if decide (0 ≤ v5) then
   (v0[v5.toNat]?).bind fun x1 =>
    if decide (0 ≤ v5) then
     (v1[v5.toNat]?).bind fun x2 =>
      if (!((x1.1 == x2.1) && ((x1.2.1 == x2.2.1) && (x1.2.2.1 == x2.2.2.1)))) then
       some false
      else
       spec_l29Same_p0 v0 v1 (IntKind.i64.wrap (v5 + 1))
    else
     none
  else
   none
 else
  some true :=
 (goL_dn _ _ _ 4000 _ _).trans (by kernel_rfl)
def spec_SameBlocks_ir : Fn := { np := 2,io := [],res := [.t 4],own := [false],body :=
 (.seq (.reg false [.V 4 (.asg (.c (.bool false)))] [0,1] []) (.seq (.reg false [.V 5 (.mv (.t 0)),.V 6 (.mv (.t 1)),.V 7 (.call (.c (.fn 574 [])) [.t 5,.t 6]),.V 4 (.asg (.t 7))] [4] []) .ret)) }
noncomputable def spec_SameBlocks_D : List (Nat × Callee) := [(574,spec_l29Same_c)]
def spec_SameBlocks_H : List (Nat × ET) := [(5,T_Block),(6,T_Block)]
noncomputable def spec_SameBlocks_c : Callee := mkCallee spec_SameBlocks_D spec_SameBlocks_H spec_SameBlocks_ir [.d (.one (.sl T_Block)),.d (.one (.sl T_Block))] [.d (.one .bool)] []
noncomputable def spec_SameBlocks (a0 : List T_Block.ty) (a1 : List T_Block.ty) : Option (Bool) := spec_SameBlocks_c.f (a0,a1,())
theorem spec_SameBlocks_eq (a0 : List T_Block.ty) (a1 : List T_Block.ty) : spec_SameBlocks a0 a1 =
 (spec_l29Same a0 a1).bind fun x1 =>
  some x1 :=
 (mk_f _ _ _ _ _ _ _ 4000).trans (by kernel_rfl)
def laws_FnSalvage_k0 : C :=
 .seq (.seq (.reg false [.V 46 (.mv (.t 12)),.V 47 (.mv (.t 9)),.V 48 (.bin .lss (.t 46) (.t 47))] [5,6,8,9,10,11,12,48] [5,8]) (.cond (.t 48) .skip (.exit 0))) (.seq (.block 1 (.seq (.reg false [.V 51 (.mv (.t 6)),.V 52 (.mv (.t 12)),.V 53 (.ix (.t 51) (.t 52)),.V 54 (.bin .eql (.t 53) (.c (.int .u8 10)))] [5,6,8,9,10,11,12,54] [5,8]) (.cond (.t 54) (.reg false [.V 55 (.mv (.t 11)),.V 56 (.bin .add (.t 55) (.c (.int .i64 1))),.V 11 (.asg (.t 56))] [5,6,8,9,10,11,12] [5,8]) .skip))) (.reg false [.V 49 (.mv (.t 12)),.V 50 (.bin .add (.t 49) (.c (.int .i64 1))),.V 12 (.asg (.t 50))] [5,6,8,9,10,11,12] [5,8]))
def laws_FnSalvage_k1 : C :=
 .norm [5,6,8,9,10,11,12] [5,8] laws_FnSalvage_k0
def laws_FnSalvage_k2 : C :=
 .seq (.reg false [.V 70 (.mv (.t 8)),.V 71 (.conv .bytesStr (.t 70)),.V 72 (.call (.c (.fn 334 [])) [.t 71]),.W 13 (.asg (.t 72))] [5,8,11,13] [5,8,13]) (.seq (.reg false [.V 73 (.mv (.t 8)),.V 74 (.conv .bytesStr (.t 73)),.V 75 (.call (.c (.fn 333 [])) [.t 74]),.W 14 (.asg (.t 75))] [5,11,13,14] [5,13,14]) (.seq (.seq (.reg false [.V 76 (.mv (.t 13)),.V 77 (.mv (.t 11)),.V 78 (.bsl 1 (.int .i64 0) 1 [(0,.t 77)]),.V 79 (.call (.c (.fn 80 [])) [.t 76,.t 78]),.V 80 (.un .not (.t 79))] [5,11,14,80] [5,14]) (.cond (.t 80) (.seq (.reg false [.V 4 (.asg (.c (.bool false)))] [4] []) .ret) .skip)) (.seq (.reg true [.V 81 (.bsl 3 (.agg [.str [],.str [],.str []]) 0 []),.V 82 (.mv (.t 5)),.V 83 (.mv (.t 11)),.V 84 (.bin .sub (.t 83) (.c (.int .i64 2))),.V 85 (.slc 3 (.t 82) none (some (.t 84))),⟨some 86,true,.app 3 48 (.t 81) (.t 85),none,true,[5,11,87,88,89]⟩,⟨some 87,false,.mv (.t 5),none,false,[1000000,1000001,1000002]⟩,⟨some 88,false,.mv (.t 11),none,false,[1000000,1000001,1000002]⟩,⟨some 89,false,.bin .sub (.t 88) (.c (.int .i64 1)),none,false,[1000000,1000001,1000002]⟩,⟨some 90,false,.slc 3 (.t 87) (some (.t 89)) none,none,true,[]⟩,.W 91 (.app 3 48 (.t 86) (.t 90)),.W 15 (.asg (.t 91))] [14,15] [14,15]) (.seq (.reg false [.V 92 (.mv (.t 14)),.V 93 (.mv (.t 15)),.V 94 (.call (.c (.fn 187 [])) [.t 92,.t 93]),.V 4 (.asg (.t 94))] [4] []) .ret))))
def laws_FnSalvage_k3 : C :=
 .seq (.seq (.reg false [.V 57 (.mv (.t 10)),.V 58 (.bin .eql (.t 57) (.c (.int .u8 10))),.V 59 (.mv (.t 58)),.G 60 (.mv (.t 8)) 2 false,.G 61 (.mv (.t 9)) 2 false,.G 62 (.ia 1 (.t 60) (.t 61)) 2 false,.G 63 (.ld none (.t 62)) 2 false,.G 64 (.bin .eql (.t 63) (.c (.int .u8 10))) 2 false,.V 65 (.pick (.t 59) (.c (.bool true)) (.t 64)),.V 66 (.mv (.t 65)),.G 67 (.mv (.t 11)) 9 false,.G 68 (.bin .eql (.t 67) (.c (.int .i64 1))) 9 false,.V 69 (.pick (.t 66) (.c (.bool true)) (.t 68))] [5,8,11,69] [5,8]) (.cond (.t 69) (.seq (.reg false [.V 4 (.asg (.c (.bool true)))] [4] []) .ret) .skip)) (.norm [5,8,11] [5,8] laws_FnSalvage_k2)
def laws_FnSalvage_ir : Fn := { np := 2,io := [],res := [.t 4],own := [false],body :=
 (.seq (.reg false [.V 4 (.asg (.c (.bool false)))] [0,1] []) (.seq (.seq (.reg false [.V 16 (.mv (.t 0)),.V 17 (.mv (.t 1)),.V 18 (.call (.c (.fn 89 [])) [.t 16,.t 17])] [0,1,18] []) (.cond (.t 18) (.seq (.reg false [.V 4 (.asg (.c (.bool true)))] [4] []) .ret) .skip)) (.seq (.reg false [.V 19 (.mv (.t 0)),.V 20 (.call (.c (.fn 193 [])) [.t 19]),.W 5 (.asg (.t 20))] [1,5] [5]) (.seq (.reg false [.V 22 (.mv (.t 5)),.V 23 (.call (.c (.fn 335 [])) [.t 22]),.V 21 (.mv (.t 23)),.V 24 (.ext (.t 21) 0),.V 25 (.ext (.t 21) 1),.V 6 (.asg (.t 24)),.V 7 (.asg (.t 25))] [1,5,6] [5]) (.seq (.reg false [.V 26 (.mv (.t 6)),.V 27 (.conv (.strBytes 1) (.t 26)),.W 8 (.asg (.t 27))] [1,5,6,8] [5,8]) (.seq (.reg false [.V 28 (.mv (.t 1)),.V 29 (.mv (.t 8)),.V 30 (.len (.t 29)),.V 31 (.call (.c (.fn 146 [])) [.t 28,.c (.int .i64 0),.t 30]),.V 9 (.asg (.t 31))] [1,5,6,8,9] [5,8]) (.seq (.reg false [.V 32 (.mv (.t 8)),.V 33 (.mv (.t 9)),.V 34 (.ia 1 (.t 32) (.t 33)),.V 35 (.ld none (.t 34)),.V 10 (.asg (.t 35))] [1,5,6,8,9,10] [5,8]) (.seq (.reg true [.V 36 (.mv (.t 8)),.V 37 (.mv (.t 9)),.V 38 (.ia 1 (.t 36) (.t 37)),.V 39 (.ld none (.t 38)),.V 40 (.mv (.t 1)),.V 41 (.call (.c (.fn 151 [])) [.t 40,.c (.int .i64 2),.c (.int .i64 255)]),.V 42 (.bin .add (.c (.int .i64 1)) (.t 41)),.V 43 (.conv (.int .u8) (.t 42)),.V 44 (.bin .xor (.t 39) (.t 43)),.V 45 (.ia 1 (.t 36) (.t 37)),⟨none,true,.sto 1 (.t 45) (.t 44),none,false,[]⟩] [5,6,8,9,10] [5,8]) (.seq (.reg false [.V 11 (.asg (.c (.int .i64 1)))] [5,6,8,9,10,11] [5,8]) (.seq (.seq (.reg false [.V 12 (.asg (.c (.int .i64 0)))] [5,6,8,9,10,11,12] [5,8]) (.block 0 (.loop laws_FnSalvage_k1))) laws_FnSalvage_k3)))))))))) }
noncomputable def laws_FnSalvage_D : List (Nat × Callee) := [(80,laws_r8Same_c),(89,laws_r8Long_c),(146,laws_r8Wide_c),(151,laws_r8At_c),(187,spec_SameBlocks_c),(193,spec_R8Blocks_c),(333,impl_SalvageBlocks_c),(334,impl_DamagedLines_c),(335,spec_SaveBlocks_c)]
def laws_FnSalvage_H : List (Nat × ET) := [(5,T_Block),(8,(.one (.int .u8))),(13,(.one (.int .i64))),(14,T_Block),(15,T_Block),(16,(.one (.int .u8))),(17,(.one (.int .u8))),(19,(.one (.int .u8))),(20,T_Block),(22,T_Block),(27,(.one (.int .u8))),(28,(.one (.int .u8))),(29,(.one (.int .u8))),(32,(.one (.int .u8))),(36,(.one (.int .u8))),(40,(.one (.int .u8))),(60,(.one (.int .u8))),(70,(.one (.int .u8))),(72,(.one (.int .i64))),(73,(.one (.int .u8))),(75,T_Block),(76,(.one (.int .i64))),(78,(.one (.int .i64))),(81,T_Block),(82,T_Block),(85,T_Block),(86,T_Block),(87,T_Block),(90,T_Block),(91,T_Block),(92,T_Block),(93,T_Block)]
noncomputable def laws_FnSalvage_c : Callee := mkCallee laws_FnSalvage_D laws_FnSalvage_H laws_FnSalvage_ir [.d (.one (.sl (.one (.int .u8)))),.d (.one (.sl (.one (.int .u8))))] [.d (.one .bool)] []
noncomputable def laws_FnSalvage (a0 : List Int) (a1 : List Int) : Option (Bool) := laws_FnSalvage_c.f (a0,a1,())
noncomputable def laws_FnSalvage_p0  (v5 : List T_Block.ty) (v6 : List UInt8) (v8n : Nat) (v9 : Int) (v10 : Int) (v11 : Int) (v12 : Int) (r8 : List Int) : Option (Bool) :=
 goL laws_FnSalvage_D laws_FnSalvage_H (vleave laws_FnSalvage_ir [.d (.one (.sl (.one (.int .u8)))),.d (.one (.sl (.one (.int .u8))))] [.d (.one .bool)] [] []) [.c laws_FnSalvage_k0,.l laws_FnSalvage_k1,.e 0,.c laws_FnSalvage_k3]
  ⟨[(5,.sl T_Block v5),(6,.str v6),(8,.view 8 0 v8n),(9,.int .i64 v9),(10,.int .u8 v10),(11,.int .i64 v11),(12,.int .i64 v12)],[(5,none),(8,some (.sl (.one (.int .u8)) r8))]⟩
noncomputable def laws_FnSalvage_p1  (v5 : List T_Block.ty) (v8n : Nat) (v11 : Int) (r8 : List Int) : Option (Bool) :=
 goL laws_FnSalvage_D laws_FnSalvage_H (vleave laws_FnSalvage_ir [.d (.one (.sl (.one (.int .u8)))),.d (.one (.sl (.one (.int .u8))))] [.d (.one .bool)] [] []) [.c laws_FnSalvage_k2]
  ⟨[(5,.sl T_Block v5),(8,.view 8 0 v8n),(11,.int .i64 v11)],[(5,none),(8,some (.sl (.one (.int .u8)) r8))]⟩
theorem laws_FnSalvage_eq (a0 : List Int) (a1 : List Int) : laws_FnSalvage a0 a1 =
 (laws_r8Long a0 a1).bind fun x1 =>
  if x1 then
   some true
  else
   (spec_R8Blocks a0).bind fun x2 =>
    (spec_SaveBlocks x2).bind fun x3 =>
     (laws_r8Wide a1 0 ((x3.1.map fun b => (b.toNat : Int)).length : Int)).bind fun x4 =>
      if decide (0 ≤ x4) && decide (x4 < ((x3.1.map fun b => (b.toNat : Int)).length : Int)) then
       ((x3.1.map fun b => (b.toNat : Int))[x4.toNat]?).bind fun x5 =>
        if decide (0 ≤ x4) && decide (x4 < ((x3.1.map fun b => (b.toNat : Int)).length : Int)) then
         ((x3.1.map fun b => (b.toNat : Int))[x4.toNat]?).bind fun x6 =>
          (laws_r8At a1 2 255).bind fun x7 =>
           if decide (0 ≤ x4) && decide (x4 < ((x3.1.map fun b => (b.toNat : Int)).length : Int)) then
            ((x3.1.map fun b => (b.toNat : Int))[x4.toNat]?).bind fun x8 =>
             laws_FnSalvage_p0 x2 x3.1 ((x3.1.map fun b => (b.toNat : Int)).length) x4 x5 1 0 ((x3.1.map fun b => (b.toNat : Int)).set x4.toNat (IntKind.u8.wrap ((BitVec.ofInt IntKind.u8.bits x6 ^^^ BitVec.ofInt IntKind.u8.bits (IntKind.u8.wrap (IntKind.i64.wrap (1 + x7)))).toNat : Int)))
           else
            none
        else
         none
      else
       none :=
 (mk_f _ _ _ _ _ _ _ 4000).trans (by kernel_rfl)
theorem laws_FnSalvage_p0_eq  (v5 : List T_Block.ty) (v6 : List UInt8) (v8n : Nat) (v9 : Int) (v10 : Int) (v11 : Int) (v12 : Int) (r8 : List Int) : laws_FnSalvage_p0 v5 v6 v8n v9 v10 v11 v12 r8 =
 if decide (v12 < v9) then
  if decide (0 ≤ v12) then
   (v6[v12.toNat]?).bind fun x1 =>
    if ((x1.toNat : Int) == 10) then
     laws_FnSalvage_p0 v5 v6 v8n v9 v10 (IntKind.i64.wrap (v11 + 1)) (IntKind.i64.wrap (v12 + 1)) r8
    else
     laws_FnSalvage_p0 v5 v6 v8n v9 v10 v11 (IntKind.i64.wrap (v12 + 1)) r8
  else
   none
 else
  if (v10 == 10) then
   some true
  else
   if decide (0 ≤ v9) && decide (v9 < (v8n : Int)) then
    (r8[v9.toNat]?).bind fun x2 =>
     if (x2 == 10) then
      some true
     else
      if (v11 == 1) then
       some true
      else
       laws_FnSalvage_p1 v5 v8n v11 r8
   else
    none :=
 (goL_dn _ _ _ 4000 _ _).trans (by kernel_rfl)
theorem laws_FnSalvage_p1_eq  (v5 : List T_Block.ty) (v8n : Nat) (v11 : Int) (r8 : List Int) : laws_FnSalvage_p1 v5 v8n v11 r8 =
 (impl_DamagedLines ((r8.take v8n).map vu8)).bind fun x1 =>
  (impl_SalvageBlocks ((r8.take v8n).map vu8)).bind fun x2 =>
   (laws_r8Same (x1.take x1.length) [v11]).bind fun x3 =>
    if (!x3) then
     some false
    else
     if decide (0 ≤ IntKind.i64.wrap (v11 - 2)) && decide (IntKind.i64.wrap (v11 - 2) ≤ (v5.length : Int)) then
      if decide (0 + (v5.take ((IntKind.i64.wrap (v11 - 2)).toNat)).length < lim) then
       if decide (0 ≤ IntKind.i64.wrap (v11 - 1)) && decide (IntKind.i64.wrap (v11 - 1) ≤ (v5.length : Int)) then
        if decide (([] ++ (v5.take ((IntKind.i64.wrap (v11 - 2)).toNat))).length + (v5.drop ((IntKind.i64.wrap (v11 - 1)).toNat)).length < lim) then
         (spec_SameBlocks x2 ((([] ++ (v5.take ((IntKind.i64.wrap (v11 - 2)).toNat))) ++ (v5.drop ((IntKind.i64.wrap (v11 - 1)).toNat))).take ((([] ++ (v5.take ((IntKind.i64.wrap (v11 - 2)).toNat))) ++ (v5.drop ((IntKind.i64.wrap (v11 - 1)).toNat))).length))).bind fun x4 =>
          some x4
        else
         none
       else
        none
      else
       none
     else
      none :=
 (goL_dn _ _ _ 4000 _ _).trans (by kernel_rfl)
end Go.Ab.P
