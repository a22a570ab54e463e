/- Functions of the program: abstract forms, and what their runs give. Conditions: none. -/
import Derived.Test.YtangabikonhepaaGreatDoorLD
set_option maxRecDepth 100000
set_option linter.unusedVariables false
namespace Go.Ab.P
open Go.Ab
@[reducible] def T_Block : ET := .agg (.cons .str (.cons .str (.cons .str .nil)))
@[reducible] def T_Paper : ET := .agg (.cons .str (.cons .str (.cons (.int .i64) (.cons (.int .i64) (.cons (.int .i64) .nil)))))
@[reducible] def T_l00Src : ET := .agg (.cons (.sl (.one (.int .u8))) (.cons (.int .i64) (.cons (.int .u64) .nil)))
def laws_r8Long_ir : Fn := { np := 2,io := [],res := [.t 4],own := [false],body :=
 (.seq (.reg false [.V 4 (.asg (.c (.bool false)))] [0,1] []) (.seq (.reg false [.V 5 (.mv (.t 0)),.V 6 (.len (.t 5)),.V 7 (.bin .gtr (.t 6) (.c (.int .i64 1048576))),.V 8 (.mv (.t 7)),.G 9 (.mv (.t 1)) 3 false,.G 10 (.len (.t 9)) 3 false,.G 11 (.bin .gtr (.t 10) (.c (.int .i64 1048576))) 3 false,.V 12 (.pick (.t 8) (.c (.bool true)) (.t 11)),.V 4 (.asg (.t 12))] [4] []) .ret)) }
noncomputable def laws_r8Long_D : List (Nat × Callee) := []
def laws_r8Long_H : List (Nat × ET) := [(5,(.one (.int .u8))),(9,(.one (.int .u8)))]
noncomputable def laws_r8Long_c : Callee := mkCallee laws_r8Long_D laws_r8Long_H laws_r8Long_ir [.d (.one (.sl (.one (.int .u8)))),.d (.one (.sl (.one (.int .u8))))] [.d (.one .bool)] []
noncomputable def laws_r8Long (a0 : List Int) (a1 : List Int) : Option (Bool) := laws_r8Long_c.f (a0,a1,())
theorem laws_r8Long_eq (a0 : List Int) (a1 : List Int) : laws_r8Long a0 a1 =
 if decide ((a0.length : Int) > 1048576) then
  some true
 else
  some (decide ((a1.length : Int) > 1048576)) :=
 (mk_f _ _ _ _ _ _ _ 4000).trans (by kernel_rfl)
def spec_l00From_ir : Fn := { np := 1,io := [],res := [.t 2],own := [true],body :=
 (.seq (.reg false [.V 2 (.asg (.c (.cst (.pointer none))))] [0] []) (.seq (.reg false [.V 3 (.mv (.t 0)),.V 4 (.build [.nils 1,.int .i64 0,.int .u64 0] [(0,1,.t 3)]),.W 5 (.box 3 (.t 4)),.V 2 (.asg (.t 5))] [2] [5,6000]) .ret)) }
noncomputable def spec_l00From_D : List (Nat × Callee) := []
def spec_l00From_H : List (Nat × ET) := [(3,(.one (.int .u8)))]
noncomputable def spec_l00From_c : Callee := mkCallee spec_l00From_D spec_l00From_H spec_l00From_ir [.d (.one (.sl (.one (.int .u8))))] [.box T_l00Src] []
noncomputable def spec_l00From (a0 : List Int) : Option (T_l00Src.ty) := spec_l00From_c.f (a0,())
theorem spec_l00From_eq (a0 : List Int) : spec_l00From a0 =
 some (a0,0,0,()) :=
 (mk_f _ _ _ _ _ _ _ 4000).trans (by kernel_rfl)
def spec_l00Src_next_k0 : C :=
 .seq (.reg false [.V 25 (.mv (.t 0)),.V 26 (.nilck (.t 25)),.V 27 (.fa 1 (.t 26)),.V 28 (.ld none (.t 27)),.V 29 (.bin .add (.t 28) (.c (.int .i64 1))),.V 30 (.nilck (.t 25)),.V 31 (.fa 1 (.t 30)),⟨none,true,.sto 1 (.t 31) (.t 29),none,false,[]⟩] [0,3] [0,1000]) (.seq (.reg false [.V 32 (.mv (.t 0)),.V 33 (.mv (.t 0)),.V 34 (.nilck (.t 33)),.V 35 (.fa 2 (.t 34)),.V 36 (.ld none (.t 35)),.V 37 (.bin .mul (.t 36) (.c (.int .u64 6364136223846793005))),.V 38 (.mv (.t 3)),.V 39 (.conv (.int .u64) (.t 38)),.V 40 (.bin .add (.t 37) (.t 39)),.V 41 (.bin .add (.t 40) (.c (.int .u64 1442695040888963407))),.V 42 (.nilck (.t 32)),.V 43 (.fa 2 (.t 42)),⟨none,true,.sto 1 (.t 43) (.t 41),none,false,[]⟩] [0,3] [0,1000]) (.seq (.seq (.reg true [.V 44 (.mv (.t 0)),.V 45 (.nilck (.t 44)),.V 46 (.fa 1 (.t 45)),.V 47 (.ld none (.t 46)),.V 48 (.mv (.t 0)),.V 49 (.nilck (.t 48)),.V 50 (.fa 0 (.t 49)),.V 51 (.ld none (.t 50)),.V 52 (.len (.t 51)),.V 53 (.bin .leq (.t 47) (.t 52))] [0,3,53] [0,1000]) (.cond (.t 53) (.seq (.reg false [.V 54 (.mv (.t 3)),.V 2 (.asg (.t 54))] [0,2] [0,1000]) .ret) .skip)) (.seq (.reg false [.V 55 (.mv (.t 0)),.V 56 (.nilck (.t 55)),.V 57 (.fa 2 (.t 56)),.V 58 (.ld none (.t 57)),.V 59 (.bin .shr (.t 58) (.c (.int .u64 40))),.V 60 (.bin .and (.t 59) (.c (.int .u64 255))),.V 61 (.conv (.int .i64) (.t 60)),.V 2 (.asg (.t 61))] [0,2] [0,1000]) .ret)))
def spec_l00Src_next_ir : Fn := { np := 1,io := [true],res := [.t 2],own := [false],body :=
 (.seq (.reg false [.V 2 (.asg (.c (.int .i64 0)))] [0] [0,1000]) (.seq (.reg false [.V 3 (.asg (.c (.int .i64 0)))] [0,3] [0,1000]) (.seq (.seq (.reg true [.V 4 (.mv (.t 0)),.V 5 (.nilck (.t 4)),.V 6 (.fa 1 (.t 5)),.V 7 (.ld none (.t 6)),.V 8 (.mv (.t 0)),.V 9 (.nilck (.t 8)),.V 10 (.fa 0 (.t 9)),.V 11 (.ld none (.t 10)),.V 12 (.len (.t 11)),.V 13 (.bin .lss (.t 7) (.t 12))] [0,3,13] [0,1000]) (.cond (.t 13) (.reg true [.V 14 (.mv (.t 0)),.V 15 (.nilck (.t 14)),.V 16 (.fa 0 (.t 15)),.V 17 (.ld none (.t 16)),.V 18 (.mv (.t 0)),.V 19 (.nilck (.t 18)),.V 20 (.fa 1 (.t 19)),.V 21 (.ld none (.t 20)),.V 22 (.ia 1 (.t 17) (.t 21)),.V 23 (.ld none (.t 22)),.V 24 (.conv (.int .i64) (.t 23)),.V 3 (.asg (.t 24))] [0,3] [0,1000]) .skip)) (.norm [0,3] [0,1000] spec_l00Src_next_k0)))) }
noncomputable def spec_l00Src_next_D : List (Nat × Callee) := []
def spec_l00Src_next_H : List (Nat × ET) := [(11,(.one (.int .u8))),(17,(.one (.int .u8))),(51,(.one (.int .u8)))]
noncomputable def spec_l00Src_next_c : Callee := mkCallee spec_l00Src_next_D spec_l00Src_next_H spec_l00Src_next_ir [.box T_l00Src] [.d (.one (.int .i64))] [.box T_l00Src]
noncomputable def spec_l00Src_next (a0 : T_l00Src.ty) : Option (Int × T_l00Src.ty) := spec_l00Src_next_c.f (a0,())
noncomputable def spec_l00Src_next_p0  (v3 : Int) (r0_0 : List Int) (r0_1 : Int) (r0_2 : Int) : Option (Int × T_l00Src.ty) :=
 goL spec_l00Src_next_D spec_l00Src_next_H (vleave spec_l00Src_next_ir [.box T_l00Src] [.d (.one (.int .i64))] [.box T_l00Src] []) [.c spec_l00Src_next_k0]
  ⟨[(0,.loc 0 0 0),(3,.int .i64 v3)],[(0,some (.var 3 (.agg [.sl (.one (.int .u8)) r0_0,.int .i64 r0_1,.int .u64 r0_2]))),(1000,none)]⟩
theorem spec_l00Src_next_eq (a0 : T_l00Src.ty) : spec_l00Src_next a0 =
 if decide (a0.2.1 < (a0.1.length : Int)) then
  if decide (0 ≤ a0.2.1) then
   (a0.1[a0.2.1.toNat]?).bind fun x1 =>
    spec_l00Src_next_p0 (IntKind.i64.wrap x1) a0.1 a0.2.1 a0.2.2.1
  else
   none
 else
  spec_l00Src_next_p0 0 a0.1 a0.2.1 a0.2.2.1 :=
 (mk_f _ _ _ _ _ _ _ 4000).trans (by kernel_rfl)
theorem spec_l00Src_next_p0_eq  (v3 : Int) (r0_0 : List Int) (r0_1 : Int) (r0_2 : Int) : spec_l00Src_next_p0 v3 r0_0 r0_1 r0_2 =
 if decide (IntKind.i64.wrap (r0_1 + 1) ≤ (r0_0.length : Int)) then
  some (v3,(r0_0,IntKind.i64.wrap (r0_1 + 1),IntKind.u64.wrap ((IntKind.u64.wrap ((IntKind.u64.wrap (r0_2 * 6364136223846793005)) + (IntKind.u64.wrap v3))) + 1442695040888963407),()))
 else
  some (IntKind.i64.wrap (IntKind.u64.wrap ((BitVec.ofInt IntKind.u64.bits (Int.fdiv (IntKind.u64.wrap ((IntKind.u64.wrap ((IntKind.u64.wrap (r0_2 * 6364136223846793005)) + (IntKind.u64.wrap v3))) + 1442695040888963407)) (2 ^ (min (40 : Int).toNat IntKind.u64.bits))) &&& BitVec.ofInt IntKind.u64.bits 255).toNat : Int)),(r0_0,IntKind.i64.wrap (r0_1 + 1),IntKind.u64.wrap ((IntKind.u64.wrap ((IntKind.u64.wrap (r0_2 * 6364136223846793005)) + (IntKind.u64.wrap v3))) + 1442695040888963407),())) :=
 (goL_dn _ _ _ 4000 _ _).trans (by kernel_rfl)
def spec_l00Src_pick_ir : Fn := { np := 2,io := [true,false],res := [.t 4],own := [false],body :=
 (.seq (.reg false [.V 4 (.asg (.c (.int .i64 0)))] [0,1] [0,1000]) (.seq (.seq (.reg false [.V 6 (.mv (.t 1)),.V 7 (.bin .leq (.t 6) (.c (.int .i64 1)))] [0,1,7] [0,1000]) (.cond (.t 7) (.seq (.reg false [.V 4 (.asg (.c (.int .i64 0)))] [0,4] [0,1000]) .ret) .skip)) (.seq (.reg false [.V 8 (.mv (.t 0)),.W 9 (.call (.c (.fn 847 [])) [.t 8]),.V 5 (.asg (.t 9))] [0,1,5] [0,1000]) (.seq (.seq (.reg false [.V 10 (.mv (.t 1)),.V 11 (.bin .gtr (.t 10) (.c (.int .i64 200)))] [0,1,5,11] [0,1000]) (.cond (.t 11) (.reg false [.V 12 (.mv (.t 5)),.V 13 (.bin .mul (.t 12) (.c (.int .i64 256))),.V 14 (.mv (.t 0)),.W 15 (.call (.c (.fn 847 [])) [.t 14]),.V 16 (.bin .add (.t 13) (.t 15)),.V 5 (.asg (.t 16))] [0,1,5] [0,1000]) .skip)) (.seq (.reg false [.V 17 (.mv (.t 5)),.V 18 (.mv (.t 1)),.V 19 (.bin .rem (.t 17) (.t 18)),.V 4 (.asg (.t 19))] [0,4] [0,1000]) .ret))))) }
noncomputable def spec_l00Src_pick_D : List (Nat × Callee) := [(847,spec_l00Src_next_c)]
def spec_l00Src_pick_H : List (Nat × ET) := []
noncomputable def spec_l00Src_pick_c : Callee := mkCallee spec_l00Src_pick_D spec_l00Src_pick_H spec_l00Src_pick_ir [.box T_l00Src,.d (.one (.int .i64))] [.d (.one (.int .i64))] [.box T_l00Src]
noncomputable def spec_l00Src_pick (a0 : T_l00Src.ty) (a1 : Int) : Option (Int × T_l00Src.ty) := spec_l00Src_pick_c.f (a0,a1,())
theorem spec_l00Src_pick_eq (a0 : T_l00Src.ty) (a1 : Int) : spec_l00Src_pick a0 a1 =
 if decide (a1 ≤ 1) then
  some (0,a0)
 else
  (spec_l00Src_next a0).bind fun x1 =>
   if decide (a1 > 200) then
    (spec_l00Src_next (x1.2.1,x1.2.2.1,x1.2.2.2.1,())).bind fun x2 =>
     if decide (a1 = 0) then
      none
     else
      some ((IntKind.i64.wrap ((IntKind.i64.wrap (x1.1 * 256)) + x2.1)).tmod a1,(x2.2.1,x2.2.2.1,x2.2.2.2.1,()))
   else
    if decide (a1 = 0) then
     none
    else
     some (x1.1.tmod a1,(x1.2.1,x1.2.2.1,x1.2.2.2.1,())) :=
 (mk_f _ _ _ _ _ _ _ 4000).trans (by kernel_rfl)
def spec_l00Src_text_ir : Fn := { np := 2,io := [true,false],res := [.t 4],own := [false],body :=
 (.seq (.reg false [.V 4 (.asg (.c (.str [])))] [0,1] [0,1000]) (.seq (.reg false [.V 5 (.mv (.t 1)),.V 6 (.mv (.t 0)),.V 7 (.mv (.t 1)),.V 8 (.len (.t 7)),.W 9 (.call (.c (.fn 463 [])) [.t 6,.t 8]),.V 10 (.ia 1 (.t 5) (.t 9)),.V 11 (.ld none (.t 10)),.V 4 (.asg (.t 11))] [0,4] [0,1000]) .ret)) }
noncomputable def spec_l00Src_text_D : List (Nat × Callee) := [(463,spec_l00Src_pick_c)]
def spec_l00Src_text_H : List (Nat × ET) := [(5,(.one .str)),(7,(.one .str))]
noncomputable def spec_l00Src_text_c : Callee := mkCallee spec_l00Src_text_D spec_l00Src_text_H spec_l00Src_text_ir [.box T_l00Src,.d (.one (.sl (.one .str)))] [.d (.one .str)] [.box T_l00Src]
noncomputable def spec_l00Src_text (a0 : T_l00Src.ty) (a1 : List (List UInt8)) : Option (List UInt8 × T_l00Src.ty) := spec_l00Src_text_c.f (a0,a1,())
theorem spec_l00Src_text_eq (a0 : T_l00Src.ty) (a1 : List (List UInt8)) : spec_l00Src_text a0 a1 =
 (spec_l00Src_pick a0 (a1.length : Int)).bind fun x1 =>
  if decide (0 ≤ x1.1) then
   (a1[x1.1.toNat]?).bind fun x2 =>
    some (x2,(x1.2.1,x1.2.2.1,x1.2.2.2.1,()))
  else
   none :=
 (mk_f _ _ _ _ _ _ _ 4000).trans (by kernel_rfl)
def spec_l00Src_one_ir : Fn := { np := 2,io := [true,false],res := [.t 4],own := [false],body :=
 (.seq (.reg false [.V 4 (.asg (.c (.bool false)))] [0,1] [0,1000]) (.seq (.reg false [.V 5 (.mv (.t 0)),.V 6 (.mv (.t 1)),.W 7 (.call (.c (.fn 463 [])) [.t 5,.t 6]),.V 8 (.bin .eql (.t 7) (.c (.int .i64 0))),.V 4 (.asg (.t 8))] [0,4] [0,1000]) .ret)) }
noncomputable def spec_l00Src_one_D : List (Nat × Callee) := [(463,spec_l00Src_pick_c)]
def spec_l00Src_one_H : List (Nat × ET) := []
noncomputable def spec_l00Src_one_c : Callee := mkCallee spec_l00Src_one_D spec_l00Src_one_H spec_l00Src_one_ir [.box T_l00Src,.d (.one (.int .i64))] [.d (.one .bool)] [.box T_l00Src]
noncomputable def spec_l00Src_one (a0 : T_l00Src.ty) (a1 : Int) : Option (Bool × T_l00Src.ty) := spec_l00Src_one_c.f (a0,a1,())
theorem spec_l00Src_one_eq (a0 : T_l00Src.ty) (a1 : Int) : spec_l00Src_one a0 a1 =
 (spec_l00Src_pick a0 a1).bind fun x1 =>
  some ((x1.1 == 0),(x1.2.1,x1.2.2.1,x1.2.2.2.1,())) :=
 (mk_f _ _ _ _ _ _ _ 4000).trans (by kernel_rfl)
def spec_l00Src_word_k0 : C :=
 .seq (.seq (.reg false [.V 11 (.mv (.t 6)),.V 12 (.bin .gtr (.t 11) (.c (.int .i64 0)))] [0,5,6,12] [0,5,1000]) (.cond (.t 12) .skip (.exit 0))) (.seq (.block 1 (.reg false [.V 15 (.mv (.t 5)),.V 16 (.mv (.t 0)),.W 17 (.call (.c (.fn 847 [])) [.t 16]),.V 18 (.conv (.int .u8) (.t 17)),.V 19 (.bsl 1 (.int .u8 0) 1 [(0,.t 18)]),.W 20 (.app 1 1 (.t 15) (.t 19)),.W 5 (.asg (.t 20))] [0,5,6] [0,5,1000])) (.reg false [.V 13 (.mv (.t 6)),.V 14 (.bin .sub (.t 13) (.c (.int .i64 1))),.V 6 (.asg (.t 14))] [0,5,6] [0,5,1000]))
def spec_l00Src_word_k1 : C :=
 .norm [0,5,6] [0,5,1000] spec_l00Src_word_k0
def spec_l00Src_word_k2 : C :=
 .seq (.reg false [.V 21 (.mv (.t 5)),.V 22 (.conv .bytesStr (.t 21)),.V 4 (.asg (.t 22))] [0,4] [0,1000]) .ret
def spec_l00Src_word_ir : Fn := { np := 2,io := [true,false],res := [.t 4],own := [false],body :=
 (.seq (.reg false [.V 4 (.asg (.c (.str [])))] [0,1] [0,1000]) (.seq (.reg false [.V 7 (.bsl 1 (.int .u8 0) 0 []),.W 5 (.asg (.t 7))] [0,1,5] [0,5,1000]) (.seq (.seq (.reg false [.V 8 (.mv (.t 0)),.V 9 (.mv (.t 1)),.W 10 (.call (.c (.fn 463 [])) [.t 8,.t 9]),.V 6 (.asg (.t 10))] [0,5,6] [0,5,1000]) (.block 0 (.loop spec_l00Src_word_k1))) spec_l00Src_word_k2))) }
noncomputable def spec_l00Src_word_D : List (Nat × Callee) := [(463,spec_l00Src_pick_c),(847,spec_l00Src_next_c)]
def spec_l00Src_word_H : List (Nat × ET) := [(5,(.one (.int .u8))),(7,(.one (.int .u8))),(15,(.one (.int .u8))),(19,(.one (.int .u8))),(20,(.one (.int .u8))),(21,(.one (.int .u8)))]
noncomputable def spec_l00Src_word_c : Callee := mkCallee spec_l00Src_word_D spec_l00Src_word_H spec_l00Src_word_ir [.box T_l00Src,.d (.one (.int .i64))] [.d (.one .str)] [.box T_l00Src]
noncomputable def spec_l00Src_word (a0 : T_l00Src.ty) (a1 : Int) : Option (List UInt8 × T_l00Src.ty) := spec_l00Src_word_c.f (a0,a1,())
noncomputable def spec_l00Src_word_p0  (v6 : Int) (r0_0 : List Int) (r0_1 : Int) (r0_2 : Int) (r5 : List Int) : Option (List UInt8 × T_l00Src.ty) :=
 goL spec_l00Src_word_D spec_l00Src_word_H (vleave spec_l00Src_word_ir [.box T_l00Src,.d (.one (.int .i64))] [.d (.one .str)] [.box T_l00Src] []) [.c spec_l00Src_word_k0,.l spec_l00Src_word_k1,.e 0,.c spec_l00Src_word_k2]
  ⟨[(0,.loc 0 0 0),(5,.view 5 0 r5.length),(6,.int .i64 v6)],[(0,some (.var 3 (.agg [.sl (.one (.int .u8)) r0_0,.int .i64 r0_1,.int .u64 r0_2]))),(5,some (.sl (.one (.int .u8)) r5)),(1000,none)]⟩
theorem spec_l00Src_word_eq (a0 : T_l00Src.ty) (a1 : Int) : spec_l00Src_word a0 a1 =
 (spec_l00Src_pick a0 a1).bind fun x1 =>
  spec_l00Src_word_p0 x1.1 x1.2.1 x1.2.2.1 x1.2.2.2.1 [] :=
 (mk_f _ _ _ _ _ _ _ 4000).trans (by kernel_rfl)
theorem spec_l00Src_word_p0_eq  (v6 : Int) (r0_0 : List Int) (r0_1 : Int) (r0_2 : Int) (r5 : List Int) : spec_l00Src_word_p0 v6 r0_0 r0_1 r0_2 r5 =
 if decide (v6 > 0) then
  (spec_l00Src_next (r0_0,r0_1,r0_2,())).bind fun x1 =>
   if decide (r5.length + 1 < lim) then
    spec_l00Src_word_p0 (IntKind.i64.wrap (v6 - 1)) x1.2.1 x1.2.2.1 x1.2.2.2.1 ((r5.take r5.length) ++ [IntKind.u8.wrap x1.1])
   else
    none
 else
  some (((r5.take r5.length).map vu8),(r0_0,r0_1,r0_2,())) :=
 (goL_dn _ _ _ 4000 _ _).trans (by kernel_rfl)
def spec_l21DrawOne_ir : Fn := { np := 2,io := [true,false],res := [.cell 4 (some 5)],own := [false],body :=
 (.seq (.reg false [.W 4 (.alloc 5 (.agg [.str [],.str [],.int .i64 0,.int .i64 0,.int .i64 0]))] [0,1,4] [0,4,1000]) (.seq (.reg false [.V 6 (.mv (.t 1)),.V 7 (.mv (.t 0)),.V 8 (.bsl 1 (.str []) 3 [(0,.c (.str [118,105,111,108,97])),(1,.c (.str [118,105,111,108,105,110])),(2,.c (.str [118,105,111,108,105,110,50]))]),.W 9 (.call (.c (.fn 557 [])) [.t 7,.t 8]),.V 10 (.mv (.t 0)),.W 11 (.call (.c (.fn 463 [])) [.t 10,.c (.int .i64 90)]),.V 12 (.bin .mul (.c (.int .i64 10)) (.t 11)),.V 13 (.build [.str [],.str [],.int .i64 0,.int .i64 0,.int .i64 0] [(0,1,.t 6),(1,1,.t 9),(2,1,.t 12)]),.W 5 (.alloc 5 (.agg [.str [],.str [],.int .i64 0,.int .i64 0,.int .i64 0])),⟨none,true,.sto 5 (.t 5) (.t 13),none,false,[]⟩] [0,4,5] [0,4,5,1000]) (.seq (.reg false [.V 14 (.mv (.t 0)),.W 15 (.call (.c (.fn 463 [])) [.t 14,.c (.int .i64 12)]),.V 16 (.bin .add (.c (.int .i64 1)) (.t 15)),.V 17 (.fa 3 (.t 5)),⟨none,true,.sto 1 (.t 17) (.t 16),none,false,[]⟩] [0,4,5] [0,4,5,1000]) (.seq (.reg false [.V 18 (.mv (.t 0)),.W 19 (.call (.c (.fn 463 [])) [.t 18,.c (.int .i64 50)]),.V 20 (.bin .mul (.c (.int .i64 100)) (.t 19)),.V 21 (.fa 4 (.t 5)),⟨none,true,.sto 1 (.t 21) (.t 20),none,false,[]⟩] [0,4,5] [0,4,5,1000]) (.seq (.reg false [.V 22 (.ld (some 5) (.t 5)),⟨none,true,.sto 5 (.t 4) (.t 22),none,false,[]⟩] [0,4] [0,4,1000]) .ret))))) }
noncomputable def spec_l21DrawOne_D : List (Nat × Callee) := [(463,spec_l00Src_pick_c),(557,spec_l00Src_text_c)]
def spec_l21DrawOne_H : List (Nat × ET) := [(8,(.one .str))]
noncomputable def spec_l21DrawOne_c : Callee := mkCallee spec_l21DrawOne_D spec_l21DrawOne_H spec_l21DrawOne_ir [.box T_l00Src,.d (.one .str)] [.d T_Paper] [.box T_l00Src]
noncomputable def spec_l21DrawOne (a0 : T_l00Src.ty) (a1 : List UInt8) : Option (T_Paper.ty × T_l00Src.ty) := spec_l21DrawOne_c.f (a0,a1,())
theorem spec_l21DrawOne_eq (a0 : T_l00Src.ty) (a1 : List UInt8) : spec_l21DrawOne a0 a1 =
 (spec_l00Src_text a0 [[118,105,111,108,97],[118,105,111,108,105,110],[118,105,111,108,105,110,50]]).bind fun x1 =>
  (spec_l00Src_pick (x1.2.1,x1.2.2.1,x1.2.2.2.1,()) 90).bind fun x2 =>
   (spec_l00Src_pick (x2.2.1,x2.2.2.1,x2.2.2.2.1,()) 12).bind fun x3 =>
    (spec_l00Src_pick (x3.2.1,x3.2.2.1,x3.2.2.2.1,()) 50).bind fun x4 =>
     some ((a1,x1.1,IntKind.i64.wrap (10 * x2.1),IntKind.i64.wrap (1 + x3.1),IntKind.i64.wrap (100 * x4.1),()),(x4.2.1,x4.2.2.1,x4.2.2.2.1,())) :=
 (mk_f _ _ _ _ _ _ _ 4000).trans (by kernel_rfl)
def spec_l01Dec_k0 : C :=
 .reg false [.V 22 (.mv (.t 3)),.V 23 (.mv (.t 5)),.V 24 (.bin .add (.c (.int .i64 48)) (.t 23)),.V 25 (.conv (.int .u8) (.t 24)),.V 26 (.bsl 1 (.int .u8 0) 1 [(0,.t 25)]),.W 27 (.app 1 1 (.t 22) (.t 26)),.W 3 (.asg (.t 27))] [0,3,4] [3]
def spec_l01Dec_k1 : C :=
 .reg false [.V 14 (.mv (.t 4)),.V 15 (.bin .quo (.t 14) (.c (.int .i64 10))),.V 4 (.asg (.t 15))] [0,3,4] [3]
def spec_l01Dec_k2 : C :=
 .seq (.seq (.reg false [.V 12 (.mv (.t 4)),.V 13 (.bin .neq (.t 12) (.c (.int .i64 0)))] [0,3,4,13] [3]) (.cond (.t 13) .skip (.exit 0))) (.seq (.block 1 (.seq (.reg false [.V 16 (.mv (.t 4)),.V 17 (.bin .rem (.t 16) (.c (.int .i64 10))),.V 5 (.asg (.t 17))] [0,3,4,5] [3]) (.seq (.seq (.reg false [.V 18 (.mv (.t 5)),.V 19 (.bin .lss (.t 18) (.c (.int .i64 0)))] [0,3,4,5,19] [3]) (.cond (.t 19) (.reg false [.V 20 (.mv (.t 5)),.V 21 (.un .neg (.t 20)),.V 5 (.asg (.t 21))] [0,3,4,5] [3]) .skip)) (.norm [0,3,4,5] [3] spec_l01Dec_k0)))) spec_l01Dec_k1)
def spec_l01Dec_k3 : C :=
 .norm [0,3,4] [3] spec_l01Dec_k2
def spec_l01Dec_k4 : C :=
 .seq (.seq (.reg false [.V 37 (.mv (.t 7)),.V 38 (.bin .geq (.t 37) (.c (.int .i64 0)))] [3,6,7,38] [3,6]) (.cond (.t 38) .skip (.exit 2))) (.seq (.block 3 (.reg false [.V 41 (.mv (.t 6)),.V 42 (.mv (.t 3)),.V 43 (.mv (.t 7)),.V 44 (.ia 1 (.t 42) (.t 43)),.V 45 (.ld none (.t 44)),.V 46 (.bsl 1 (.int .u8 0) 1 [(0,.t 45)]),.W 47 (.app 1 1 (.t 41) (.t 46)),.W 6 (.asg (.t 47))] [3,6,7] [3,6])) (.reg false [.V 39 (.mv (.t 7)),.V 40 (.bin .sub (.t 39) (.c (.int .i64 1))),.V 7 (.asg (.t 40))] [3,6,7] [3,6]))
def spec_l01Dec_k5 : C :=
 .norm [3,6,7] [3,6] spec_l01Dec_k4
def spec_l01Dec_k6 : C :=
 .seq (.reg false [.V 48 (.mv (.t 6)),.V 49 (.conv .bytesStr (.t 48)),.V 2 (.asg (.t 49))] [2] []) .ret
def spec_l01Dec_k7 : C :=
 .seq (.reg false [.V 33 (.bsl 1 (.int .u8 0) 0 []),.W 6 (.asg (.t 33))] [3,6] [3,6]) (.seq (.seq (.reg false [.V 34 (.mv (.t 3)),.V 35 (.len (.t 34)),.V 36 (.bin .sub (.t 35) (.c (.int .i64 1))),.V 7 (.asg (.t 36))] [3,6,7] [3,6]) (.block 2 (.loop spec_l01Dec_k5))) spec_l01Dec_k6)
def spec_l01Dec_k8 : C :=
 .seq (.seq (.reg false [.V 28 (.mv (.t 0)),.V 29 (.bin .lss (.t 28) (.c (.int .i64 0)))] [3,29] [3]) (.cond (.t 29) (.reg false [.V 30 (.mv (.t 3)),.V 31 (.bsl 1 (.int .u8 0) 1 [(0,.c (.int .u8 45))]),.W 32 (.app 1 1 (.t 30) (.t 31)),.W 3 (.asg (.t 32))] [3] [3]) .skip)) (.norm [3] [3] spec_l01Dec_k7)
def spec_l01Dec_ir : Fn := { np := 1,io := [],res := [.t 2],own := [false],body :=
 (.seq (.reg false [.V 2 (.asg (.c (.str [])))] [0] []) (.seq (.seq (.reg false [.V 8 (.mv (.t 0)),.V 9 (.bin .eql (.t 8) (.c (.int .i64 0)))] [0,9] []) (.cond (.t 9) (.seq (.reg false [.V 2 (.asg (.c (.str [48])))] [2] []) .ret) .skip)) (.seq (.reg false [.V 10 (.bsl 1 (.int .u8 0) 0 []),.W 3 (.asg (.t 10))] [0,3] [3]) (.seq (.seq (.reg false [.V 11 (.mv (.t 0)),.V 4 (.asg (.t 11))] [0,3,4] [3]) (.block 0 (.loop spec_l01Dec_k3))) spec_l01Dec_k8)))) }
noncomputable def spec_l01Dec_D : List (Nat × Callee) := []
def spec_l01Dec_H : List (Nat × ET) := [(3,(.one (.int .u8))),(6,(.one (.int .u8))),(10,(.one (.int .u8))),(22,(.one (.int .u8))),(26,(.one (.int .u8))),(27,(.one (.int .u8))),(30,(.one (.int .u8))),(31,(.one (.int .u8))),(32,(.one (.int .u8))),(33,(.one (.int .u8))),(34,(.one (.int .u8))),(41,(.one (.int .u8))),(42,(.one (.int .u8))),(46,(.one (.int .u8))),(47,(.one (.int .u8))),(48,(.one (.int .u8)))]
noncomputable def spec_l01Dec_c : Callee := mkCallee spec_l01Dec_D spec_l01Dec_H spec_l01Dec_ir [.d (.one (.int .i64))] [.d (.one .str)] []
noncomputable def spec_l01Dec (a0 : Int) : Option (List UInt8) := spec_l01Dec_c.f (a0,())
noncomputable def spec_l01Dec_p0  (v0 : Int) (v4 : Int) (r3 : List Int) : Option (List UInt8) :=
 goL spec_l01Dec_D spec_l01Dec_H (vleave spec_l01Dec_ir [.d (.one (.int .i64))] [.d (.one .str)] [] []) [.c spec_l01Dec_k2,.l spec_l01Dec_k3,.e 0,.c spec_l01Dec_k8]
  ⟨[(0,.int .i64 v0),(3,.view 3 0 r3.length),(4,.int .i64 v4)],[(3,some (.sl (.one (.int .u8)) r3))]⟩
noncomputable def spec_l01Dec_p1  (v0 : Int) (v4 : Int) (v5 : Int) (r3 : List Int) : Option (List UInt8) :=
 goL spec_l01Dec_D spec_l01Dec_H (vleave spec_l01Dec_ir [.d (.one (.int .i64))] [.d (.one .str)] [] []) [.c spec_l01Dec_k0,.e 1,.c spec_l01Dec_k1,.l spec_l01Dec_k3,.e 0,.c spec_l01Dec_k8]
  ⟨[(0,.int .i64 v0),(3,.view 3 0 r3.length),(4,.int .i64 v4),(5,.int .i64 v5)],[(3,some (.sl (.one (.int .u8)) r3))]⟩
noncomputable def spec_l01Dec_p2  (r3 : List Int) : Option (List UInt8) :=
 goL spec_l01Dec_D spec_l01Dec_H (vleave spec_l01Dec_ir [.d (.one (.int .i64))] [.d (.one .str)] [] []) [.c spec_l01Dec_k7]
  ⟨[(3,.view 3 0 r3.length)],[(3,some (.sl (.one (.int .u8)) r3))]⟩
noncomputable def spec_l01Dec_p3  (v7 : Int) (r3 : List Int) (r6 : List Int) : Option (List UInt8) :=
 goL spec_l01Dec_D spec_l01Dec_H (vleave spec_l01Dec_ir [.d (.one (.int .i64))] [.d (.one .str)] [] []) [.c spec_l01Dec_k4,.l spec_l01Dec_k5,.e 2,.c spec_l01Dec_k6]
  ⟨[(3,.view 3 0 r3.length),(6,.view 6 0 r6.length),(7,.int .i64 v7)],[(3,some (.sl (.one (.int .u8)) r3)),(6,some (.sl (.one (.int .u8)) r6))]⟩
theorem spec_l01Dec_eq (a0 : Int) : spec_l01Dec a0 =
 if (a0 == 0) then
  some [48]
 else
  spec_l01Dec_p0 a0 a0 [] :=
 (mk_f _ _ _ _ _ _ _ 4000).trans (by kernel_rfl)
theorem spec_l01Dec_p0_eq  (v0 : Int) (v4 : Int) (r3 : List Int) : spec_l01Dec_p0 v0 v4 r3 =
 if (v4 != 0) then
  if decide (v4.tmod 10 < 0) then
   spec_l01Dec_p1 v0 v4 (IntKind.i64.wrap (0 - (v4.tmod 10))) r3
  else
   spec_l01Dec_p1 v0 v4 (v4.tmod 10) r3
 else
  if decide (v0 < 0) then
   if decide (r3.length + 1 < lim) then
    spec_l01Dec_p2 ((r3.take r3.length) ++ [45])
   else
    none
  else
   spec_l01Dec_p2 r3 :=
 (goL_dn _ _ _ 4000 _ _).trans (by kernel_rfl)
theorem spec_l01Dec_p1_eq  (v0 : Int) (v4 : Int) (v5 : Int) (r3 : List Int) : spec_l01Dec_p1 v0 v4 v5 r3 =
 if decide (r3.length + 1 < lim) then
  spec_l01Dec_p0 v0 (IntKind.i64.wrap (v4.tdiv 10)) ((r3.take r3.length) ++ [IntKind.u8.wrap (IntKind.i64.wrap (48 + v5))])
 else
  none :=
 (goL_dn _ _ _ 4000 _ _).trans (by kernel_rfl)
theorem spec_l01Dec_p2_eq  (r3 : List Int) : spec_l01Dec_p2 r3 =
 spec_l01Dec_p3 (IntKind.i64.wrap ((r3.length : Int) - 1)) r3 [] :=
 (goL_dn _ _ _ 4000 _ _).trans (by kernel_rfl)
theorem spec_l01Dec_p3_eq  (v7 : Int) (r3 : List Int) (r6 : List Int) : spec_l01Dec_p3 v7 r3 r6 =
 if decide (v7 ≥ 0) then
  if decide (0 ≤ v7) && decide (v7 < (r3.length : Int)) then
   (r3[v7.toNat]?).bind fun x1 =>
    if decide (r6.length + 1 < lim) then
     spec_l01Dec_p3 (IntKind.i64.wrap (v7 - 1)) r3 ((r6.take r6.length) ++ [x1])
    else
     none
  else
   none
 else
  some ((r6.take r6.length).map vu8) :=
 (goL_dn _ _ _ 4000 _ _).trans (by kernel_rfl)
def spec_l01List_k0 : C :=
 .reg false [.V 18 (.mv (.t 3)),.V 19 (.mv (.t 0)),.V 20 (.mv (.t 4)),.V 21 (.ia 1 (.t 19) (.t 20)),.V 22 (.ld none (.t 21)),.V 23 (.call (.c (.fn 726 [])) [.t 22]),.V 24 (.bin .add (.t 18) (.t 23)),.V 3 (.asg (.t 24))] [0,3,4] []
def spec_l01List_k1 : C :=
 .reg false [.V 12 (.mv (.t 4)),.V 13 (.bin .add (.t 12) (.c (.int .i64 1))),.V 4 (.asg (.t 13))] [0,3,4] []
def spec_l01List_k2 : C :=
 .seq (.seq (.reg false [.V 8 (.mv (.t 4)),.V 9 (.mv (.t 0)),.V 10 (.len (.t 9)),.V 11 (.bin .lss (.t 8) (.t 10))] [0,3,4,11] []) (.cond (.t 11) .skip (.exit 0))) (.seq (.block 1 (.seq (.seq (.reg false [.V 14 (.mv (.t 4)),.V 15 (.bin .gtr (.t 14) (.c (.int .i64 0)))] [0,3,4,15] []) (.cond (.t 15) (.reg false [.V 16 (.mv (.t 3)),.V 17 (.bin .add (.t 16) (.c (.str [44]))),.V 3 (.asg (.t 17))] [0,3,4] []) .skip)) (.norm [0,3,4] [] spec_l01List_k0))) spec_l01List_k1)
def spec_l01List_k3 : C :=
 .norm [0,3,4] [] spec_l01List_k2
def spec_l01List_k4 : C :=
 .seq (.reg false [.V 25 (.mv (.t 3)),.V 2 (.asg (.t 25))] [2] []) .ret
def spec_l01List_ir : Fn := { np := 1,io := [],res := [.t 2],own := [false],body :=
 (.seq (.reg false [.V 2 (.asg (.c (.str [])))] [0] []) (.seq (.seq (.reg false [.V 5 (.mv (.t 0)),.V 6 (.len (.t 5)),.V 7 (.bin .eql (.t 6) (.c (.int .i64 0)))] [0,7] []) (.cond (.t 7) (.seq (.reg false [.V 2 (.asg (.c (.str [45])))] [2] []) .ret) .skip)) (.seq (.reg false [.V 3 (.asg (.c (.str [])))] [0,3] []) (.seq (.seq (.reg false [.V 4 (.asg (.c (.int .i64 0)))] [0,3,4] []) (.block 0 (.loop spec_l01List_k3))) spec_l01List_k4)))) }
noncomputable def spec_l01List_D : List (Nat × Callee) := [(726,spec_l01Dec_c)]
def spec_l01List_H : List (Nat × ET) := [(5,(.one (.int .i64))),(9,(.one (.int .i64))),(19,(.one (.int .i64)))]
noncomputable def spec_l01List_c : Callee := mkCallee spec_l01List_D spec_l01List_H spec_l01List_ir [.d (.one (.sl (.one (.int .i64))))] [.d (.one .str)] []
noncomputable def spec_l01List (a0 : List Int) : Option (List UInt8) := spec_l01List_c.f (a0,())
noncomputable def spec_l01List_p0  (v0 : List Int) (v3 : List UInt8) (v4 : Int) : Option (List UInt8) :=
 goL spec_l01List_D spec_l01List_H (vleave spec_l01List_ir [.d (.one (.sl (.one (.int .i64))))] [.d (.one .str)] [] []) [.c spec_l01List_k2,.l spec_l01List_k3,.e 0,.c spec_l01List_k4]
  ⟨[(0,.sl (.one (.int .i64)) v0),(3,.str v3),(4,.int .i64 v4)],[]⟩
noncomputable def spec_l01List_p1  (v0 : List Int) (v3 : List UInt8) (v4 : Int) : Option (List UInt8) :=
 goL spec_l01List_D spec_l01List_H (vleave spec_l01List_ir [.d (.one (.sl (.one (.int .i64))))] [.d (.one .str)] [] []) [.c spec_l01List_k0,.e 1,.c spec_l01List_k1,.l spec_l01List_k3,.e 0,.c spec_l01List_k4]
  ⟨[(0,.sl (.one (.int .i64)) v0),(3,.str v3),(4,.int .i64 v4)],[]⟩
theorem spec_l01List_eq (a0 : List Int) : spec_l01List a0 =
 if ((a0.length : Int) == 0) then
  some [45]
 else
  spec_l01List_p0 a0 [] 0 :=
 (mk_f _ _ _ _ _ _ _ 4000).trans (by kernel_rfl)
theorem spec_l01List_p0_eq  (v0 : List Int) (v3 : List UInt8) (v4 : Int) : spec_l01List_p0 v0 v3 v4 =
 if decide (v4 < (v0.length : Int)) then
  if decide (v4 > 0) then
   if decide (v3.length + [44].length ≤ strMax) then
    spec_l01List_p1 v0 (v3 ++ [44]) v4
   else
    none
  else
   spec_l01List_p1 v0 v3 v4
 else
  some v3 :=
 (goL_dn _ _ _ 4000 _ _).trans (by kernel_rfl)
theorem spec_l01List_p1_eq  (v0 : List Int) (v3 : List UInt8) (v4 : Int) : spec_l01List_p1 v0 v3 v4 =
 if decide (0 ≤ v4) then
  (v0[v4.toNat]?).bind fun x1 =>
   (spec_l01Dec x1).bind fun x2 =>
    if decide (v3.length + x2.length ≤ strMax) then
     spec_l01List_p0 v0 (v3 ++ x2) (IntKind.i64.wrap (v4 + 1))
    else
     none
 else
  none :=
 (goL_dn _ _ _ 4000 _ _).trans (by kernel_rfl)
def spec_l21Text_ir : Fn := { np := 1,io := [],res := [.t 2],own := [false],body :=
 (.seq (.reg false [.V 2 (.asg (.c (.str [])))] [0] []) (.seq (.reg true [.V 3 (.mv (.t 0)),.V 4 (.nilck (.t 3)),.V 5 (.fa 0 (.t 4)),.V 6 (.ld none (.t 5)),.V 7 (.bin .add (.t 6) (.c (.str [32]))),.V 8 (.mv (.t 0)),.V 9 (.nilck (.t 8)),.V 10 (.fa 1 (.t 9)),.V 11 (.ld none (.t 10)),.V 12 (.bin .add (.t 7) (.t 11)),.V 13 (.bin .add (.t 12) (.c (.str [32]))),.V 14 (.mv (.t 0)),.V 15 (.nilck (.t 14)),.V 16 (.fa 2 (.t 15)),.V 17 (.ld none (.t 16)),.V 18 (.mv (.t 0)),.V 19 (.nilck (.t 18)),.V 20 (.fa 3 (.t 19)),.V 21 (.ld none (.t 20)),.V 22 (.mv (.t 0)),.V 23 (.nilck (.t 22)),.V 24 (.fa 4 (.t 23)),.V 25 (.ld none (.t 24)),.V 26 (.bsl 1 (.int .i64 0) 3 [(0,.t 17),(1,.t 21),(2,.t 25)]),.V 27 (.call (.c (.fn 963 [])) [.t 26]),.V 28 (.bin .add (.t 13) (.t 27)),.V 2 (.asg (.t 28))] [2] []) .ret)) }
noncomputable def spec_l21Text_D : List (Nat × Callee) := [(963,spec_l01List_c)]
def spec_l21Text_H : List (Nat × ET) := [(26,(.one (.int .i64)))]
noncomputable def spec_l21Text_c : Callee := mkCallee spec_l21Text_D spec_l21Text_H spec_l21Text_ir [.p T_Paper] [.d (.one .str)] []
noncomputable def spec_l21Text (a0 : T_Paper.ty) : Option (List UInt8) := spec_l21Text_c.f (a0,())
theorem spec_l21Text_eq (a0 : T_Paper.ty) : spec_l21Text a0 =
 if decide (a0.1.length + [32].length ≤ strMax) then
  if decide ((a0.1 ++ [32]).length + a0.2.1.length ≤ strMax) then
   if decide (((a0.1 ++ [32]) ++ a0.2.1).length + [32].length ≤ strMax) then
    (spec_l01List [a0.2.2.1,a0.2.2.2.1,a0.2.2.2.2.1]).bind fun x1 =>
     if decide ((((a0.1 ++ [32]) ++ a0.2.1) ++ [32]).length + x1.length ≤ strMax) then
      some ((((a0.1 ++ [32]) ++ a0.2.1) ++ [32]) ++ x1)
     else
      none
   else
    none
  else
   none
 else
  none :=
 (mk_f _ _ _ _ _ _ _ 4000).trans (by kernel_rfl)
def spec_l29DrawOne_k0 : C :=
 .seq (.reg false [.V 32 (.mv (.t 0)),.V 33 (.fa 1 (.t 3)),.V 34 (.ld none (.t 33)),.W 35 (.call (.c (.fn 992 [])) [.t 32,.t 34]),.W 4 (.alloc 5 (.agg [.str [],.str [],.int .i64 0,.int .i64 0,.int .i64 0])),⟨none,true,.sto 5 (.t 4) (.t 35),none,false,[]⟩] [0,2,3,4] [0,2,3,4,1000]) (.reg false [.V 36 (.call (.c (.fn 833 [])) [.t 4]),.V 37 (.fa 2 (.t 3)),⟨none,true,.sto 1 (.t 37) (.t 36),none,false,[]⟩] [0,2,3] [0,2,3,1000])
def spec_l29DrawOne_k1 : C :=
 .seq (.seq (.reg false [.V 38 (.mv (.t 0)),.W 39 (.call (.c (.fn 642 [])) [.t 38,.c (.int .i64 24)])] [0,2,3,39] [0,2,3,1000]) (.cond (.t 39) (.reg false [.V 40 (.mv (.t 0)),.W 41 (.call (.c (.fn 463 [])) [.t 40,.c (.int .i64 3)]),.V 42 (.bin .add (.c (.int .i64 399)) (.t 41)),.V 43 (.mks 1 1 (.int .u8 0) (.t 42) (.t 42)),.V 44 (.conv .bytesStr (.t 43)),.V 45 (.fa 2 (.t 3)),⟨none,true,.sto 1 (.t 45) (.t 44),none,false,[]⟩] [0,2,3] [0,2,3,1000]) .skip)) (.seq (.reg false [.V 46 (.ld (some 3) (.t 3)),⟨none,true,.sto 3 (.t 2) (.t 46),none,false,[]⟩] [0,2] [0,2,1000]) .ret)
def spec_l29DrawOne_k2 : C :=
 .norm [0,2,3] [0,2,3,1000] spec_l29DrawOne_k1
def spec_l29DrawOne_k3 : C :=
 .seq (.seq (.reg false [.V 25 (.fa 0 (.t 3)),.V 26 (.ld none (.t 25)),.V 27 (.bin .eql (.t 26) (.c (.str [114,101,110,116,97,108]))),.V 28 (.mv (.t 27)),.G 29 (.mv (.t 0)) 3 true,⟨some 30,true,.call (.c (.fn 642 [])) [.t 29,.c (.int .i64 2)],some (3,true),false,[]⟩,.V 31 (.pick (.t 28) (.t 30) (.c (.bool false)))] [0,2,3,31] [0,2,3,1000]) (.cond (.t 31) (.norm [0,2,3] [0,2,3,1000] spec_l29DrawOne_k0) .skip)) spec_l29DrawOne_k2
def spec_l29DrawOne_ir : Fn := { np := 1,io := [true],res := [.cell 2 (some 3)],own := [false],body :=
 (.seq (.reg false [.W 2 (.alloc 3 (.agg [.str [],.str [],.str []]))] [0,2] [0,2,1000]) (.seq (.reg false [.V 5 (.mv (.t 0)),.V 6 (.bsl 1 (.str []) 3 [(0,.c (.str [114,101,110,116,97,108])),(1,.c (.str [110,111,116,101])),(2,.c (.str [102,97,99,101]))]),.W 7 (.call (.c (.fn 557 [])) [.t 5,.t 6]),.V 8 (.build [.str [],.str [],.str []] [(0,1,.t 7)]),.W 3 (.alloc 3 (.agg [.str [],.str [],.str []])),⟨none,true,.sto 3 (.t 3) (.t 8),none,false,[]⟩] [0,2,3] [0,2,3,1000]) (.seq (.reg false [.V 9 (.mv (.t 0)),.V 10 (.bsl 1 (.str []) 4 [(0,.c (.str [97])),(1,.c (.str [98])),(2,.c (.str [99])),(3,.c (.str [100]))]),.W 11 (.call (.c (.fn 557 [])) [.t 9,.t 10]),.V 12 (.fa 1 (.t 3)),⟨none,true,.sto 1 (.t 12) (.t 11),none,false,[]⟩] [0,2,3] [0,2,3,1000]) (.seq (.reg false [.V 13 (.mv (.t 0)),.V 14 (.bsl 1 (.str []) 5 [(0,.c (.str [])),(1,.c (.str [120])),(2,.c (.str [97,32,98,32,99])),(3,.c (.str [49,50,32,51,52])),(4,.c (.str [111,97,107,47,52,48]))]),.W 15 (.call (.c (.fn 557 [])) [.t 13,.t 14]),.V 16 (.fa 2 (.t 3)),⟨none,true,.sto 1 (.t 16) (.t 15),none,false,[]⟩] [0,2,3] [0,2,3,1000]) (.seq (.seq (.reg false [.V 17 (.mv (.t 0)),.W 18 (.call (.c (.fn 642 [])) [.t 17,.c (.int .i64 4)])] [0,2,3,18] [0,2,3,1000]) (.cond (.t 18) (.reg true [⟨some 19,false,.fa 2 (.t 3),none,false,[1000000]⟩,⟨some 20,false,.ld none (.t 19),none,true,[]⟩,.V 21 (.mv (.t 0)),⟨some 22,true,.call (.c (.fn 1026 [])) [.t 21,.c (.int .i64 9)],none,false,[3,19]⟩,.V 23 (.bin .add (.t 20) (.t 22)),.V 24 (.fa 2 (.t 3)),⟨none,true,.sto 1 (.t 24) (.t 23),none,false,[]⟩] [0,2,3] [0,2,3,1000]) .skip)) (.norm [0,2,3] [0,2,3,1000] spec_l29DrawOne_k3)))))) }
noncomputable def spec_l29DrawOne_D : List (Nat × Callee) := [(463,spec_l00Src_pick_c),(557,spec_l00Src_text_c),(642,spec_l00Src_one_c),(833,spec_l21Text_c),(992,spec_l21DrawOne_c),(1026,spec_l00Src_word_c)]
def spec_l29DrawOne_H : List (Nat × ET) := [(6,(.one .str)),(10,(.one .str)),(14,(.one .str)),(43,(.one (.int .u8)))]
noncomputable def spec_l29DrawOne_c : Callee := mkCallee spec_l29DrawOne_D spec_l29DrawOne_H spec_l29DrawOne_ir [.box T_l00Src] [.d T_Block] [.box T_l00Src]
noncomputable def spec_l29DrawOne (a0 : T_l00Src.ty) : Option (T_Block.ty × T_l00Src.ty) := spec_l29DrawOne_c.f (a0,())
noncomputable def spec_l29DrawOne_p0  (r0_0 : List Int) (r0_1 : Int) (r0_2 : Int) (r2_0 : List UInt8) (r2_1 : List UInt8) (r2_2 : List UInt8) (r3_0 : List UInt8) (r3_1 : List UInt8) (r3_2 : List UInt8) : Option (T_Block.ty × T_l00Src.ty) :=
 goL spec_l29DrawOne_D spec_l29DrawOne_H (vleave spec_l29DrawOne_ir [.box T_l00Src] [.d T_Block] [.box T_l00Src] []) [.c spec_l29DrawOne_k3]
  ⟨[(0,.loc 0 0 0),(2,.loc 2 0 0),(3,.loc 3 0 0)],[(0,some (.var 3 (.agg [.sl (.one (.int .u8)) r0_0,.int .i64 r0_1,.int .u64 r0_2]))),(2,some (.var 3 (.agg [.str r2_0,.str r2_1,.str r2_2]))),(3,some (.var 3 (.agg [.str r3_0,.str r3_1,.str r3_2]))),(1000,none)]⟩
noncomputable def spec_l29DrawOne_p1  (r0_0 : List Int) (r0_1 : Int) (r0_2 : Int) (r2_0 : List UInt8) (r2_1 : List UInt8) (r2_2 : List UInt8) (r3_0 : List UInt8) (r3_1 : List UInt8) (r3_2 : List UInt8) : Option (T_Block.ty × T_l00Src.ty) :=
 goL spec_l29DrawOne_D spec_l29DrawOne_H (vleave spec_l29DrawOne_ir [.box T_l00Src] [.d T_Block] [.box T_l00Src] []) [.c spec_l29DrawOne_k0,.c spec_l29DrawOne_k2]
  ⟨[(0,.loc 0 0 0),(2,.loc 2 0 0),(3,.loc 3 0 0)],[(0,some (.var 3 (.agg [.sl (.one (.int .u8)) r0_0,.int .i64 r0_1,.int .u64 r0_2]))),(2,some (.var 3 (.agg [.str r2_0,.str r2_1,.str r2_2]))),(3,some (.var 3 (.agg [.str r3_0,.str r3_1,.str r3_2]))),(1000,none)]⟩
noncomputable def spec_l29DrawOne_p2  (r0_0 : List Int) (r0_1 : Int) (r0_2 : Int) (r2_0 : List UInt8) (r2_1 : List UInt8) (r2_2 : List UInt8) (r3_0 : List UInt8) (r3_1 : List UInt8) (r3_2 : List UInt8) : Option (T_Block.ty × T_l00Src.ty) :=
 goL spec_l29DrawOne_D spec_l29DrawOne_H (vleave spec_l29DrawOne_ir [.box T_l00Src] [.d T_Block] [.box T_l00Src] []) [.c spec_l29DrawOne_k1]
  ⟨[(0,.loc 0 0 0),(2,.loc 2 0 0),(3,.loc 3 0 0)],[(0,some (.var 3 (.agg [.sl (.one (.int .u8)) r0_0,.int .i64 r0_1,.int .u64 r0_2]))),(2,some (.var 3 (.agg [.str r2_0,.str r2_1,.str r2_2]))),(3,some (.var 3 (.agg [.str r3_0,.str r3_1,.str r3_2]))),(1000,none)]⟩
theorem spec_l29DrawOne_eq (a0 : T_l00Src.ty) : spec_l29DrawOne a0 =
 (spec_l00Src_text a0 [[114,101,110,116,97,108],[110,111,116,101],[102,97,99,101]]).bind fun x1 =>
  (spec_l00Src_text (x1.2.1,x1.2.2.1,x1.2.2.2.1,()) [[97],[98],[99],[100]]).bind fun x2 =>
   (spec_l00Src_text (x2.2.1,x2.2.2.1,x2.2.2.2.1,()) [[],[120],[97,32,98,32,99],[49,50,32,51,52],[111,97,107,47,52,48]]).bind fun x3 =>
    (spec_l00Src_one (x3.2.1,x3.2.2.1,x3.2.2.2.1,()) 4).bind fun x4 =>
     if x4.1 then
      (spec_l00Src_word (x4.2.1,x4.2.2.1,x4.2.2.2.1,()) 9).bind fun x5 =>
       if decide (x3.1.length + x5.1.length ≤ strMax) then
        spec_l29DrawOne_p0 x5.2.1 x5.2.2.1 x5.2.2.2.1 [] [] [] x1.1 x2.1 (x3.1 ++ x5.1)
       else
        none
     else
      spec_l29DrawOne_p0 x4.2.1 x4.2.2.1 x4.2.2.2.1 [] [] [] x1.1 x2.1 x3.1 :=
 (mk_f _ _ _ _ _ _ _ 4000).trans (by kernel_rfl)
theorem spec_l29DrawOne_p0_eq  (r0_0 : List Int) (r0_1 : Int) (r0_2 : Int) (r2_0 : List UInt8) (r2_1 : List UInt8) (r2_2 : List UInt8) (r3_0 : List UInt8) (r3_1 : List UInt8) (r3_2 : List UInt8) : spec_l29DrawOne_p0 r0_0 r0_1 r0_2 r2_0 r2_1 r2_2 r3_0 r3_1 r3_2 =
 if (r3_0 == [114,101,110,116,97,108]) then
  (spec_l00Src_one (r0_0,r0_1,r0_2,()) 2).bind fun x1 =>
   if x1.1 then
    spec_l29DrawOne_p1 x1.2.1 x1.2.2.1 x1.2.2.2.1 r2_0 r2_1 r2_2 r3_0 r3_1 r3_2
   else
    spec_l29DrawOne_p2 x1.2.1 x1.2.2.1 x1.2.2.2.1 r2_0 r2_1 r2_2 r3_0 r3_1 r3_2
 else
  spec_l29DrawOne_p2 r0_0 r0_1 r0_2 r2_0 r2_1 r2_2 r3_0 r3_1 r3_2 :=
 (goL_dn _ _ _ 4000 _ _).trans (by kernel_rfl)
theorem spec_l29DrawOne_p1_eq  (r0_0 : List Int) (r0_1 : Int) (r0_2 : Int) (r2_0 : List UInt8) (r2_1 : List UInt8) (r2_2 : List UInt8) (r3_0 : List UInt8) (r3_1 : List UInt8) (r3_2 : List UInt8) : spec_l29DrawOne_p1 r0_0 r0_1 r0_2 r2_0 r2_1 r2_2 r3_0 r3_1 r3_2 =
 (spec_l21DrawOne (r0_0,r0_1,r0_2,()) r3_1).bind fun x1 =>
  (spec_l21Text (x1.1.1,x1.1.2.1,x1.1.2.2.1,x1.1.2.2.2.1,x1.1.2.2.2.2.1,())).bind fun x2 =>
   spec_l29DrawOne_p2 x1.2.1 x1.2.2.1 x1.2.2.2.1 r2_0 r2_1 r2_2 r3_0 r3_1 x2 :=
 (goL_dn _ _ _ 4000 _ _).trans (by kernel_rfl)
theorem spec_l29DrawOne_p2_eq  (r0_0 : List Int) (r0_1 : Int) (r0_2 : Int) (r2_0 : List UInt8) (r2_1 : List UInt8) (r2_2 : List UInt8) (r3_0 : List UInt8) (r3_1 : List UInt8) (r3_2 : List UInt8) : spec_l29DrawOne_p2 r0_0 r0_1 r0_2 r2_0 r2_1 r2_2 r3_0 r3_1 r3_2 =
 (spec_l00Src_one (r0_0,r0_1,r0_2,()) 24).bind fun x1 =>
  if x1.1 then
   (spec_l00Src_pick (x1.2.1,x1.2.2.1,x1.2.2.2.1,()) 3).bind fun x2 =>
    if decide (0 ≤ IntKind.i64.wrap (399 + x2.1)) && decide (IntKind.i64.wrap (399 + x2.1) ≤ IntKind.i64.wrap (399 + x2.1)) && decide ((IntKind.i64.wrap (399 + x2.1)).toNat < lim) then
     some ((r3_0,r3_1,((List.replicate ((IntKind.i64.wrap (399 + x2.1)).toNat) (0 : Int)).map vu8),()),(x2.2.1,x2.2.2.1,x2.2.2.2.1,()))
    else
     none
  else
   some ((r3_0,r3_1,r3_2,()),(x1.2.1,x1.2.2.1,x1.2.2.2.1,())) :=
 (goL_dn _ _ _ 4000 _ _).trans (by kernel_rfl)
def spec_l01Small_ir : Fn := { np := 1,io := [],res := [.t 2],own := [false],body :=
 (.seq (.reg false [.V 2 (.asg (.c (.bool false)))] [0] []) (.seq (.reg false [.V 3 (.mv (.t 0)),.V 4 (.bin .geq (.t 3) (.c (.int .u8 97))),.V 5 (.mv (.t 4)),.G 6 (.mv (.t 0)) 2 true,.G 7 (.bin .leq (.t 6) (.c (.int .u8 122))) 2 true,.V 8 (.pick (.t 5) (.t 7) (.c (.bool false))),.V 2 (.asg (.t 8))] [2] []) .ret)) }
noncomputable def spec_l01Small_D : List (Nat × Callee) := []
def spec_l01Small_H : List (Nat × ET) := []
noncomputable def spec_l01Small_c : Callee := mkCallee spec_l01Small_D spec_l01Small_H spec_l01Small_ir [.d (.one (.int .u8))] [.d (.one .bool)] []
noncomputable def spec_l01Small (a0 : Int) : Option (Bool) := spec_l01Small_c.f (a0,())
theorem spec_l01Small_eq (a0 : Int) : spec_l01Small a0 =
 if decide (a0 ≥ 97) then
  some (decide (a0 ≤ 122))
 else
  some false :=
 (mk_f _ _ _ _ _ _ _ 4000).trans (by kernel_rfl)
def spec_l01Digit_ir : Fn := { np := 1,io := [],res := [.t 2],own := [false],body :=
 (.seq (.reg false [.V 2 (.asg (.c (.bool false)))] [0] []) (.seq (.reg false [.V 3 (.mv (.t 0)),.V 4 (.bin .geq (.t 3) (.c (.int .u8 48))),.V 5 (.mv (.t 4)),.G 6 (.mv (.t 0)) 2 true,.G 7 (.bin .leq (.t 6) (.c (.int .u8 57))) 2 true,.V 8 (.pick (.t 5) (.t 7) (.c (.bool false))),.V 2 (.asg (.t 8))] [2] []) .ret)) }
noncomputable def spec_l01Digit_D : List (Nat × Callee) := []
def spec_l01Digit_H : List (Nat × ET) := []
noncomputable def spec_l01Digit_c : Callee := mkCallee spec_l01Digit_D spec_l01Digit_H spec_l01Digit_ir [.d (.one (.int .u8))] [.d (.one .bool)] []
noncomputable def spec_l01Digit (a0 : Int) : Option (Bool) := spec_l01Digit_c.f (a0,())
theorem spec_l01Digit_eq (a0 : Int) : spec_l01Digit a0 =
 if decide (a0 ≥ 48) then
  some (decide (a0 ≤ 57))
 else
  some false :=
 (mk_f _ _ _ _ _ _ _ 4000).trans (by kernel_rfl)
def spec_l01Name_k0 : C :=
 .seq (.seq (.reg false [.V 17 (.mv (.t 3)),.V 18 (.mv (.t 0)),.V 19 (.lens (.t 18)),.V 20 (.bin .lss (.t 17) (.t 19))] [0,3,20] []) (.cond (.t 20) .skip (.exit 0))) (.seq (.block 1 (.seq (.reg false [.V 23 (.mv (.t 0)),.V 24 (.mv (.t 3)),.V 25 (.ix (.t 23) (.t 24)),.V 26 (.call (.c (.fn 11 [])) [.t 25]),.V 27 (.un .not (.t 26)),.V 28 (.mv (.t 27)),.G 29 (.mv (.t 0)) 5 true,.G 30 (.mv (.t 3)) 5 true,.G 31 (.ix (.t 29) (.t 30)) 5 true,.G 32 (.call (.c (.fn 12 [])) [.t 31]) 5 true,.G 33 (.un .not (.t 32)) 5 true,.V 34 (.pick (.t 28) (.t 33) (.c (.bool false)))] [0,3,34] []) (.cond (.t 34) (.seq (.reg false [.V 2 (.asg (.c (.bool false)))] [2] []) .ret) .skip))) (.reg false [.V 21 (.mv (.t 3)),.V 22 (.bin .add (.t 21) (.c (.int .i64 1))),.V 3 (.asg (.t 22))] [0,3] []))
def spec_l01Name_k1 : C :=
 .norm [0,3] [] spec_l01Name_k0
def spec_l01Name_k2 : C :=
 .seq (.reg false [.V 2 (.asg (.c (.bool true)))] [2] []) .ret
def spec_l01Name_k3 : C :=
 .seq (.seq (.reg false [.V 3 (.asg (.c (.int .i64 0)))] [0,3] []) (.block 0 (.loop spec_l01Name_k1))) spec_l01Name_k2
def spec_l01Name_ir : Fn := { np := 1,io := [],res := [.t 2],own := [false],body :=
 (.seq (.reg false [.V 2 (.asg (.c (.bool false)))] [0] []) (.seq (.seq (.reg false [.V 4 (.mv (.t 0)),.V 5 (.bin .eql (.t 4) (.c (.str []))),.V 6 (.mv (.t 5)),.G 7 (.mv (.t 0)) 2 false,.G 8 (.lens (.t 7)) 2 false,.G 9 (.bin .gtr (.t 8) (.c (.int .i64 10))) 2 false,.V 10 (.pick (.t 6) (.c (.bool true)) (.t 9)),.V 11 (.mv (.t 10)),.G 12 (.mv (.t 0)) 7 false,.G 13 (.ix (.t 12) (.c (.int .i64 0))) 7 false,.G 14 (.call (.c (.fn 11 [])) [.t 13]) 7 false,.G 15 (.un .not (.t 14)) 7 false,.V 16 (.pick (.t 11) (.c (.bool true)) (.t 15))] [0,16] []) (.cond (.t 16) (.seq (.reg false [.V 2 (.asg (.c (.bool false)))] [2] []) .ret) .skip)) (.norm [0] [] spec_l01Name_k3))) }
noncomputable def spec_l01Name_D : List (Nat × Callee) := [(11,spec_l01Small_c),(12,spec_l01Digit_c)]
def spec_l01Name_H : List (Nat × ET) := []
noncomputable def spec_l01Name_c : Callee := mkCallee spec_l01Name_D spec_l01Name_H spec_l01Name_ir [.d (.one .str)] [.d (.one .bool)] []
noncomputable def spec_l01Name (a0 : List UInt8) : Option (Bool) := spec_l01Name_c.f (a0,())
noncomputable def spec_l01Name_p0  (v0 : List UInt8) : Option (Bool) :=
 goL spec_l01Name_D spec_l01Name_H (vleave spec_l01Name_ir [.d (.one .str)] [.d (.one .bool)] [] []) [.c spec_l01Name_k3]
  ⟨[(0,.str v0)],[]⟩
noncomputable def spec_l01Name_p1  (v0 : List UInt8) (v3 : Int) : Option (Bool) :=
 goL spec_l01Name_D spec_l01Name_H (vleave spec_l01Name_ir [.d (.one .str)] [.d (.one .bool)] [] []) [.c spec_l01Name_k0,.l spec_l01Name_k1,.e 0,.c spec_l01Name_k2]
  ⟨[(0,.str v0),(3,.int .i64 v3)],[]⟩
theorem spec_l01Name_eq (a0 : List UInt8) : spec_l01Name a0 =
 if (a0 == []) then
  some false
 else
  if decide ((a0.length : Int) > 10) then
   some false
  else
   (a0[0]?).bind fun x1 =>
    (spec_l01Small (x1.toNat : Int)).bind fun x2 =>
     if (!x2) then
      some false
     else
      spec_l01Name_p0 a0 :=
 (mk_f _ _ _ _ _ _ _ 4000).trans (by kernel_rfl)
theorem spec_l01Name_p0_eq  (v0 : List UInt8) : spec_l01Name_p0 v0 =
 spec_l01Name_p1 v0 0 :=
 (goL_dn _ _ _ 4000 _ _).trans (by kernel_rfl)
theorem spec_l01Name_p1_eq  (v0 : List UInt8) (v3 : Int) : spec_l01Name_p1 v0 v3 =
 if decide (v3 < (v0.length : Int)) then
  if decide (0 ≤ v3) then
   (v0[v3.toNat]?).bind fun x1 =>
    (spec_l01Small (x1.toNat : Int)).bind fun x2 =>
     if (!x2) then
      if decide (0 ≤ v3) then
       (v0[v3.toNat]?).bind fun x3 =>
        (spec_l01Digit (x3.toNat : Int)).bind fun x4 =>
         if (!x4) then
          some false
         else
          spec_l01Name_p1 v0 (IntKind.i64.wrap (v3 + 1))
      else
       none
     else
      spec_l01Name_p1 v0 (IntKind.i64.wrap (v3 + 1))
  else
   none
 else
  some true :=
 (goL_dn _ _ _ 4000 _ _).trans (by kernel_rfl)
def spec_l29One_k0 : C :=
 .seq (.seq (.reg false [.V 4 (.mv (.t 3)),.V 5 (.mv (.t 0)),.V 6 (.nilck (.t 5)),.V 7 (.fa 2 (.t 6)),.V 8 (.ld none (.t 7)),.V 9 (.lens (.t 8)),.V 10 (.bin .lss (.t 4) (.t 9))] [0,3,10] []) (.cond (.t 10) .skip (.exit 0))) (.seq (.block 1 (.seq (.reg false [.V 13 (.mv (.t 0)),.V 14 (.nilck (.t 13)),.V 15 (.fa 2 (.t 14)),.V 16 (.ld none (.t 15)),.V 17 (.mv (.t 3)),.V 18 (.ix (.t 16) (.t 17)),.V 19 (.bin .eql (.t 18) (.c (.int .u8 10)))] [0,3,19] []) (.cond (.t 19) (.seq (.reg false [.V 2 (.asg (.c (.bool false)))] [2] []) .ret) .skip))) (.reg false [.V 11 (.mv (.t 3)),.V 12 (.bin .add (.t 11) (.c (.int .i64 1))),.V 3 (.asg (.t 12))] [0,3] []))
def spec_l29One_k1 : C :=
 .norm [0,3] [] spec_l29One_k0
def spec_l29One_k2 : C :=
 .seq (.reg false [.V 20 (.mv (.t 0)),.V 21 (.nilck (.t 20)),.V 22 (.fa 0 (.t 21)),.V 23 (.ld none (.t 22)),.V 24 (.call (.c (.fn 13 [])) [.t 23]),.V 25 (.mv (.t 24)),.G 26 (.mv (.t 0)) 5 true,.G 27 (.nilck (.t 26)) 5 true,.G 28 (.fa 1 (.t 27)) 5 true,.G 29 (.ld none (.t 28)) 5 true,.G 30 (.call (.c (.fn 13 [])) [.t 29]) 5 true,.V 31 (.pick (.t 25) (.t 30) (.c (.bool false))),.V 32 (.mv (.t 31)),.G 33 (.mv (.t 0)) 12 true,.G 34 (.nilck (.t 33)) 12 true,.G 35 (.fa 2 (.t 34)) 12 true,.G 36 (.ld none (.t 35)) 12 true,.G 37 (.lens (.t 36)) 12 true,.G 38 (.bin .leq (.t 37) (.c (.int .i64 400))) 12 true,.V 39 (.pick (.t 32) (.t 38) (.c (.bool false))),.V 2 (.asg (.t 39))] [2] []) .ret
def spec_l29One_ir : Fn := { np := 1,io := [],res := [.t 2],own := [false],body :=
 (.seq (.reg false [.V 2 (.asg (.c (.bool false)))] [0] []) (.seq (.seq (.reg false [.V 3 (.asg (.c (.int .i64 0)))] [0,3] []) (.block 0 (.loop spec_l29One_k1))) spec_l29One_k2)) }
noncomputable def spec_l29One_D : List (Nat × Callee) := [(13,spec_l01Name_c)]
def spec_l29One_H : List (Nat × ET) := []
noncomputable def spec_l29One_c : Callee := mkCallee spec_l29One_D spec_l29One_H spec_l29One_ir [.p T_Block] [.d (.one .bool)] []
noncomputable def spec_l29One (a0 : T_Block.ty) : Option (Bool) := spec_l29One_c.f (a0,())
noncomputable def spec_l29One_p0  (v0_0 : List UInt8) (v0_1 : List UInt8) (v0_2 : List UInt8) (v3 : Int) : Option (Bool) :=
 goL spec_l29One_D spec_l29One_H (vleave spec_l29One_ir [.p T_Block] [.d (.one .bool)] [] []) [.c spec_l29One_k0,.l spec_l29One_k1,.e 0,.c spec_l29One_k2]
  ⟨[(0,.ptr [.str v0_0,.str v0_1,.str v0_2] 0),(3,.int .i64 v3)],[]⟩
theorem spec_l29One_eq (a0 : T_Block.ty) : spec_l29One a0 =
 spec_l29One_p0 a0.1 a0.2.1 a0.2.2.1 0 :=
 (mk_f _ _ _ _ _ _ _ 4000).trans (by kernel_rfl)
theorem spec_l29One_p0_eq  (v0_0 : List UInt8) (v0_1 : List UInt8) (v0_2 : List UInt8) (v3 : Int) : spec_l29One_p0 v0_0 v0_1 v0_2 v3 =
 if decide (v3 < (v0_2.length : Int)) then
  if decide (0 ≤ v3) then
   (v0_2[v3.toNat]?).bind fun x1 =>
    if ((x1.toNat : Int) == 10) then
     some false
    else
     spec_l29One_p0 v0_0 v0_1 v0_2 (IntKind.i64.wrap (v3 + 1))
  else
   none
 else
  (spec_l01Name v0_0).bind fun x2 =>
   if x2 then
    (spec_l01Name v0_1).bind fun x3 =>
     if x3 then
      some (decide ((v0_2.length : Int) ≤ 400))
     else
      some false
   else
    some false :=
 (goL_dn _ _ _ 4000 _ _).trans (by kernel_rfl)
def spec_l29Before_ir : Fn := { np := 2,io := [],res := [.t 4],own := [false],body :=
 (.seq (.reg false [.V 4 (.asg (.c (.bool false)))] [0,1] []) (.seq (.reg true [.V 5 (.mv (.t 0)),.V 6 (.nilck (.t 5)),.V 7 (.fa 0 (.t 6)),.V 8 (.ld none (.t 7)),.V 9 (.mv (.t 1)),.V 10 (.nilck (.t 9)),.V 11 (.fa 0 (.t 10)),.V 12 (.ld none (.t 11)),.V 13 (.bin .lss (.t 8) (.t 12)),.V 14 (.mv (.t 13)),.G 15 (.mv (.t 0)) 9 false,.G 16 (.nilck (.t 15)) 9 false,.G 17 (.fa 0 (.t 16)) 9 false,.G 18 (.ld none (.t 17)) 9 false,.G 19 (.mv (.t 1)) 9 false,.G 20 (.nilck (.t 19)) 9 false,.G 21 (.fa 0 (.t 20)) 9 false,.G 22 (.ld none (.t 21)) 9 false,.G 23 (.bin .eql (.t 18) (.t 22)) 9 false,.G 24 (.mv (.t 23)) 9 false,.G 25 (.mv (.t 0)) 19 true,.G 26 (.nilck (.t 25)) 19 true,.G 27 (.fa 1 (.t 26)) 19 true,.G 28 (.ld none (.t 27)) 19 true,.G 29 (.mv (.t 1)) 19 true,.G 30 (.nilck (.t 29)) 19 true,.G 31 (.fa 1 (.t 30)) 19 true,.G 32 (.ld none (.t 31)) 19 true,.G 33 (.bin .lss (.t 28) (.t 32)) 19 true,.G 34 (.pick (.t 24) (.t 33) (.c (.bool false))) 9 false,.V 35 (.pick (.t 14) (.c (.bool true)) (.t 34)),.V 4 (.asg (.t 35))] [4] []) .ret)) }
noncomputable def spec_l29Before_D : List (Nat × Callee) := []
def spec_l29Before_H : List (Nat × ET) := []
noncomputable def spec_l29Before_c : Callee := mkCallee spec_l29Before_D spec_l29Before_H spec_l29Before_ir [.p T_Block,.p T_Block] [.d (.one .bool)] []
noncomputable def spec_l29Before (a0 : T_Block.ty) (a1 : T_Block.ty) : Option (Bool) := spec_l29Before_c.f (a0,a1,())
theorem spec_l29Before_eq (a0 : T_Block.ty) (a1 : T_Block.ty) : spec_l29Before a0 a1 =
 if Op.bytesLess a0.1 a1.1 then
  some true
 else
  if (a0.1 == a1.1) then
   some (Op.bytesLess a0.2.1 a1.2.1)
  else
   some false :=
 (mk_f _ _ _ _ _ _ _ 4000).trans (by kernel_rfl)
def spec_l29Ok_k0 : C :=
 .seq (.seq (.reg false [.V 4 (.mv (.t 3)),.V 5 (.mv (.t 0)),.V 6 (.len (.t 5)),.V 7 (.bin .lss (.t 4) (.t 6))] [0,3,7] []) (.cond (.t 7) .skip (.exit 0))) (.seq (.block 1 (.seq (.reg true [.V 10 (.mv (.t 0)),.V 11 (.mv (.t 3)),.V 12 (.ia 3 (.t 10) (.t 11)),.V 13 (.call (.c (.fn 879 [])) [.t 12]),.V 14 (.un .not (.t 13)),.V 15 (.mv (.t 14)),.G 16 (.mv (.t 3)) 5 false,.G 17 (.bin .gtr (.t 16) (.c (.int .i64 0))) 5 false,.G 18 (.mv (.t 17)) 5 false,.G 19 (.mv (.t 0)) 8 true,.G 20 (.mv (.t 3)) 8 true,.G 21 (.bin .sub (.t 20) (.c (.int .i64 1))) 8 true,.G 22 (.ia 3 (.t 19) (.t 21)) 8 true,.G 23 (.mv (.t 0)) 8 true,.G 24 (.mv (.t 3)) 8 true,.G 25 (.ia 3 (.t 23) (.t 24)) 8 true,.G 26 (.call (.c (.fn 880 [])) [.t 22,.t 25]) 8 true,.G 27 (.un .not (.t 26)) 8 true,.G 28 (.pick (.t 18) (.t 27) (.c (.bool false))) 5 false,.V 29 (.pick (.t 15) (.c (.bool true)) (.t 28))] [0,3,29] []) (.cond (.t 29) (.seq (.reg false [.V 2 (.asg (.c (.bool false)))] [2] []) .ret) .skip))) (.reg false [.V 8 (.mv (.t 3)),.V 9 (.bin .add (.t 8) (.c (.int .i64 1))),.V 3 (.asg (.t 9))] [0,3] []))
def spec_l29Ok_k1 : C :=
 .norm [0,3] [] spec_l29Ok_k0
def spec_l29Ok_k2 : C :=
 .seq (.reg false [.V 30 (.mv (.t 0)),.V 31 (.len (.t 30)),.V 32 (.bin .leq (.t 31) (.c (.int .i64 32))),.V 2 (.asg (.t 32))] [2] []) .ret
def spec_l29Ok_ir : Fn := { np := 1,io := [],res := [.t 2],own := [false],body :=
 (.seq (.reg false [.V 2 (.asg (.c (.bool false)))] [0] []) (.seq (.seq (.reg false [.V 3 (.asg (.c (.int .i64 0)))] [0,3] []) (.block 0 (.loop spec_l29Ok_k1))) spec_l29Ok_k2)) }
noncomputable def spec_l29Ok_D : List (Nat × Callee) := [(879,spec_l29One_c),(880,spec_l29Before_c)]
def spec_l29Ok_H : List (Nat × ET) := [(5,T_Block),(10,T_Block),(19,T_Block),(23,T_Block),(30,T_Block)]
noncomputable def spec_l29Ok_c : Callee := mkCallee spec_l29Ok_D spec_l29Ok_H spec_l29Ok_ir [.d (.one (.sl T_Block))] [.d (.one .bool)] []
noncomputable def spec_l29Ok (a0 : List T_Block.ty) : Option (Bool) := spec_l29Ok_c.f (a0,())
noncomputable def spec_l29Ok_p0  (v0 : List T_Block.ty) (v3 : Int) : Option (Bool) :=
 goL spec_l29Ok_D spec_l29Ok_H (vleave spec_l29Ok_ir [.d (.one (.sl T_Block))] [.d (.one .bool)] [] []) [.c spec_l29Ok_k0,.l spec_l29Ok_k1,.e 0,.c spec_l29Ok_k2]
  ⟨[(0,.sl T_Block v0),(3,.int .i64 v3)],[]⟩
theorem spec_l29Ok_eq (a0 : List T_Block.ty) : spec_l29Ok a0 =
 spec_l29Ok_p0 a0 0 :=
 (mk_f _ _ _ _ _ _ _ 4000).trans (by kernel_rfl)
theorem spec_l29Ok_p0_eq  (v0 : List T_Block.ty) (v3 : Int) : spec_l29Ok_p0 v0 v3 =
 if decide (v3 < (v0.length : Int)) then
  if decide (0 ≤ v3) then
   (v0[v3.toNat]?).bind fun x1 =>
    (spec_l29One x1).bind fun x2 =>
     if (!x2) then
      some false
     else
      if decide (v3 > 0) then
       if decide (0 ≤ IntKind.i64.wrap (v3 - 1)) then
        (v0[(IntKind.i64.wrap (v3 - 1)).toNat]?).bind fun x3 =>
         if decide (0 ≤ v3) then
          (v0[v3.toNat]?).bind fun x4 =>
           (spec_l29Before x3 x4).bind fun x5 =>
            if (!x5) then
             some false
            else
             spec_l29Ok_p0 v0 (IntKind.i64.wrap (v3 + 1))
         else
          none
       else
        none
      else
       spec_l29Ok_p0 v0 (IntKind.i64.wrap (v3 + 1))
  else
   none
 else
  some (decide ((v0.length : Int) ≤ 32)) :=
 (goL_dn _ _ _ 4000 _ _).trans (by kernel_rfl)
def spec_l29Put_k0 : C :=
 .reg false [.V 46 (.mv (.t 5)),.V 47 (.mv (.t 0)),.V 48 (.mv (.t 7)),.V 49 (.ia 3 (.t 47) (.t 48)),.V 50 (.ld (some 3) (.t 49)),.V 51 (.bsl 3 (.agg [.str [],.str [],.str []]) 1 [(0,.t 50)]),.W 52 (.app 3 48 (.t 46) (.t 51)),.W 5 (.asg (.t 52))] [0,3,5,6,7] [3,5]
def spec_l29Put_k1 : C :=
 .seq (.reg true [.V 28 (.mv (.t 0)),.V 29 (.mv (.t 7)),.V 30 (.ia 3 (.t 28) (.t 29)),.V 31 (.fa 0 (.t 30)),.V 32 (.ld none (.t 31)),.V 33 (.fa 0 (.t 3)),.V 34 (.ld none (.t 33)),.V 35 (.bin .neq (.t 32) (.t 34)),.V 36 (.mv (.t 35)),.G 37 (.mv (.t 0)) 8 false,.G 38 (.mv (.t 7)) 8 false,.G 39 (.ia 3 (.t 37) (.t 38)) 8 false,.G 40 (.fa 1 (.t 39)) 8 false,.G 41 (.ld none (.t 40)) 8 false,.G 42 (.fa 1 (.t 3)) 8 false,.G 43 (.ld none (.t 42)) 8 false,.G 44 (.bin .neq (.t 41) (.t 43)) 8 false,.V 45 (.pick (.t 36) (.c (.bool true)) (.t 44))] [0,3,5,6,7,45] [3,5]) (.cond (.t 45) (.norm [0,3,5,6,7] [3,5] spec_l29Put_k0) .skip)
def spec_l29Put_k2 : C :=
 .reg false [.V 13 (.mv (.t 7)),.V 14 (.bin .add (.t 13) (.c (.int .i64 1))),.V 7 (.asg (.t 14))] [0,3,5,6,7] [3,5]
def spec_l29Put_k3 : C :=
 .seq (.seq (.reg false [.V 9 (.mv (.t 7)),.V 10 (.mv (.t 0)),.V 11 (.len (.t 10)),.V 12 (.bin .lss (.t 9) (.t 11))] [0,3,5,6,7,12] [3,5]) (.cond (.t 12) .skip (.exit 0))) (.seq (.block 1 (.seq (.seq (.reg false [.V 15 (.mv (.t 6)),.V 16 (.un .not (.t 15)),.V 17 (.mv (.t 16)),.G 18 (.mv (.t 0)) 2 true,.G 19 (.mv (.t 7)) 2 true,.G 20 (.ia 3 (.t 18) (.t 19)) 2 true,.G 21 (.call (.c (.fn 880 [])) [.t 20,.t 3]) 2 true,.G 22 (.un .not (.t 21)) 2 true,.V 23 (.pick (.t 17) (.t 22) (.c (.bool false)))] [0,3,5,6,7,23] [3,5]) (.cond (.t 23) (.seq (.reg false [.V 24 (.mv (.t 5)),.V 25 (.ld (some 3) (.t 3)),.V 26 (.bsl 3 (.agg [.str [],.str [],.str []]) 1 [(0,.t 25)]),.W 27 (.app 3 48 (.t 24) (.t 26)),.W 5 (.asg (.t 27))] [0,3,5,7] [3,5]) (.reg false [.V 6 (.asg (.c (.bool true)))] [0,3,5,6,7] [3,5])) .skip)) (.norm [0,3,5,6,7] [3,5] spec_l29Put_k1))) spec_l29Put_k2)
def spec_l29Put_k4 : C :=
 .norm [0,3,5,6,7] [3,5] spec_l29Put_k3
def spec_l29Put_k5 : C :=
 .seq (.seq (.reg false [.V 53 (.mv (.t 6)),.V 54 (.un .not (.t 53))] [3,5,54] [3,5]) (.cond (.t 54) (.reg false [.V 55 (.mv (.t 5)),.V 56 (.ld (some 3) (.t 3)),.V 57 (.bsl 3 (.agg [.str [],.str [],.str []]) 1 [(0,.t 56)]),.W 58 (.app 3 48 (.t 55) (.t 57)),.W 5 (.asg (.t 58))] [5] [5]) .skip)) (.seq (.reg false [.V 59 (.mv (.t 5)),.W 4 (.asg (.t 59))] [4] [4,5]) .ret)
def spec_l29Put_ir : Fn := { np := 2,io := [],res := [.t 4],own := [true],body :=
 (.seq (.reg false [.W 3 (.box 3 (.t 1)),.W 4 (.asg (.c (.nils 3)))] [0,3] [3]) (.seq (.reg false [.V 8 (.bsl 3 (.agg [.str [],.str [],.str []]) 0 []),.W 5 (.asg (.t 8))] [0,3,5] [3,5]) (.seq (.reg false [.V 6 (.asg (.c (.bool false)))] [0,3,5,6] [3,5]) (.seq (.seq (.reg false [.V 7 (.asg (.c (.int .i64 0)))] [0,3,5,6,7] [3,5]) (.block 0 (.loop spec_l29Put_k4))) spec_l29Put_k5)))) }
noncomputable def spec_l29Put_D : List (Nat × Callee) := [(880,spec_l29Before_c)]
def spec_l29Put_H : List (Nat × ET) := [(4,T_Block),(5,T_Block),(8,T_Block),(10,T_Block),(18,T_Block),(24,T_Block),(26,T_Block),(27,T_Block),(28,T_Block),(37,T_Block),(46,T_Block),(47,T_Block),(51,T_Block),(52,T_Block),(55,T_Block),(57,T_Block),(58,T_Block),(59,T_Block)]
noncomputable def spec_l29Put_c : Callee := mkCallee spec_l29Put_D spec_l29Put_H spec_l29Put_ir [.d (.one (.sl T_Block)),.d T_Block] [.tok T_Block] []
noncomputable def spec_l29Put (a0 : List T_Block.ty) (a1 : T_Block.ty) : Option (List T_Block.ty) := spec_l29Put_c.f (a0,a1,())
noncomputable def spec_l29Put_p0  (v0 : List T_Block.ty) (v6 : Bool) (v7 : Int) (r3_0 : List UInt8) (r3_1 : List UInt8) (r3_2 : List UInt8) (r5 : List T_Block.ty) : Option (List T_Block.ty) :=
 goL spec_l29Put_D spec_l29Put_H (vleave spec_l29Put_ir [.d (.one (.sl T_Block)),.d T_Block] [.tok T_Block] [] []) [.c spec_l29Put_k3,.l spec_l29Put_k4,.e 0,.c spec_l29Put_k5]
  ⟨[(0,.sl T_Block v0),(3,.loc 3 0 0),(5,.view 5 0 r5.length),(6,.bool v6),(7,.int .i64 v7)],[(3,some (.var 3 (.agg [.str r3_0,.str r3_1,.str r3_2]))),(5,some (.sl T_Block r5))]⟩
noncomputable def spec_l29Put_p1  (v0 : List T_Block.ty) (v6 : Bool) (v7 : Int) (r3_0 : List UInt8) (r3_1 : List UInt8) (r3_2 : List UInt8) (r5 : List T_Block.ty) : Option (List T_Block.ty) :=
 goL spec_l29Put_D spec_l29Put_H (vleave spec_l29Put_ir [.d (.one (.sl T_Block)),.d T_Block] [.tok T_Block] [] []) [.c spec_l29Put_k1,.e 1,.c spec_l29Put_k2,.l spec_l29Put_k4,.e 0,.c spec_l29Put_k5]
  ⟨[(0,.sl T_Block v0),(3,.loc 3 0 0),(5,.view 5 0 r5.length),(6,.bool v6),(7,.int .i64 v7)],[(3,some (.var 3 (.agg [.str r3_0,.str r3_1,.str r3_2]))),(5,some (.sl T_Block r5))]⟩
noncomputable def spec_l29Put_p2  (v0 : List T_Block.ty) (v6 : Bool) (v7 : Int) (r3_0 : List UInt8) (r3_1 : List UInt8) (r3_2 : List UInt8) (r5 : List T_Block.ty) : Option (List T_Block.ty) :=
 goL spec_l29Put_D spec_l29Put_H (vleave spec_l29Put_ir [.d (.one (.sl T_Block)),.d T_Block] [.tok T_Block] [] []) [.c spec_l29Put_k0,.e 1,.c spec_l29Put_k2,.l spec_l29Put_k4,.e 0,.c spec_l29Put_k5]
  ⟨[(0,.sl T_Block v0),(3,.loc 3 0 0),(5,.view 5 0 r5.length),(6,.bool v6),(7,.int .i64 v7)],[(3,some (.var 3 (.agg [.str r3_0,.str r3_1,.str r3_2]))),(5,some (.sl T_Block r5))]⟩
theorem spec_l29Put_eq (a0 : List T_Block.ty) (a1 : T_Block.ty) : spec_l29Put a0 a1 =
 spec_l29Put_p0 a0 false 0 a1.1 a1.2.1 a1.2.2.1 [] :=
 (mk_f _ _ _ _ _ _ _ 4000).trans (by kernel_rfl)
theorem spec_l29Put_p0_eq  (v0 : List T_Block.ty) (v6 : Bool) (v7 : Int) (r3_0 : List UInt8) (r3_1 : List UInt8) (r3_2 : List UInt8) (r5 : List T_Block.ty) : spec_l29Put_p0 v0 v6 v7 r3_0 r3_1 r3_2 r5 =
 if decide (v7 < (v0.length : Int)) then
  if (!v6) then
   if decide (0 ≤ v7) then
    (v0[v7.toNat]?).bind fun x1 =>
     (spec_l29Before x1 (r3_0,r3_1,r3_2,())).bind fun x2 =>
      if (!x2) then
       if decide (r5.length + 1 < lim) then
        spec_l29Put_p1 v0 true v7 r3_0 r3_1 r3_2 ((r5.take r5.length) ++ [(r3_0,r3_1,r3_2,())])
       else
        none
      else
       spec_l29Put_p1 v0 v6 v7 r3_0 r3_1 r3_2 r5
   else
    none
  else
   spec_l29Put_p1 v0 v6 v7 r3_0 r3_1 r3_2 r5
 else
  if (!v6) then
   if decide (r5.length + 1 < lim) then
    some (((r5.take r5.length) ++ [(r3_0,r3_1,r3_2,())]).take (((r5.take r5.length) ++ [(r3_0,r3_1,r3_2,())]).length))
   else
    none
  else
   some (r5.take r5.length) :=
 (goL_dn _ _ _ 4000 _ _).trans (by kernel_rfl)
theorem spec_l29Put_p1_eq  (v0 : List T_Block.ty) (v6 : Bool) (v7 : Int) (r3_0 : List UInt8) (r3_1 : List UInt8) (r3_2 : List UInt8) (r5 : List T_Block.ty) : spec_l29Put_p1 v0 v6 v7 r3_0 r3_1 r3_2 r5 =
 if decide (0 ≤ v7) then
  (v0[v7.toNat]?).bind fun x1 =>
   if (!(x1.1 == r3_0)) then
    spec_l29Put_p2 v0 v6 v7 r3_0 r3_1 r3_2 r5
   else
    if decide (0 ≤ v7) then
     (v0[v7.toNat]?).bind fun x2 =>
      if (!(x2.2.1 == r3_1)) then
       spec_l29Put_p2 v0 v6 v7 r3_0 r3_1 r3_2 r5
      else
       spec_l29Put_p0 v0 v6 (IntKind.i64.wrap (v7 + 1)) r3_0 r3_1 r3_2 r5
    else
     none
 else
  none :=
 (goL_dn _ _ _ 4000 _ _).trans (by kernel_rfl)
theorem spec_l29Put_p2_eq  (v0 : List T_Block.ty) (v6 : Bool) (v7 : Int) (r3_0 : List UInt8) (r3_1 : List UInt8) (r3_2 : List UInt8) (r5 : List T_Block.ty) : spec_l29Put_p2 v0 v6 v7 r3_0 r3_1 r3_2 r5 =
 if decide (0 ≤ v7) then
  (v0[v7.toNat]?).bind fun x1 =>
   if decide (r5.length + 1 < lim) then
    spec_l29Put_p0 v0 v6 (IntKind.i64.wrap (v7 + 1)) r3_0 r3_1 r3_2 ((r5.take r5.length) ++ [x1])
   else
    none
 else
  none :=
 (goL_dn _ _ _ 4000 _ _).trans (by kernel_rfl)
def spec_PutBlock_k0 : C :=
 .seq (.reg false [.V 14 (.mv (.t 0)),.V 15 (.ld (some 3) (.t 3)),.V 16 (.call (.c (.fn 1025 [])) [.t 14,.t 15]),.W 6 (.asg (.t 16))] [6] [6]) (.seq (.seq (.reg false [.V 17 (.mv (.t 6)),.V 18 (.len (.t 17)),.V 19 (.bin .gtr (.t 18) (.c (.int .i64 32)))] [6,19] [6]) (.cond (.t 19) (.seq (.reg false [.W 4 (.asg (.c (.nils 3))),.V 5 (.asg (.c (.int .i64 5)))] [4,5] [4,6]) .ret) .skip)) (.seq (.reg false [.V 20 (.mv (.t 6)),.W 4 (.asg (.t 20)),.V 5 (.asg (.c (.int .i64 0)))] [4,5] [4,6]) .ret))
def spec_PutBlock_ir : Fn := { np := 2,io := [],res := [.t 4,.t 5],own := [true,false],body :=
 (.seq (.reg false [.W 3 (.box 3 (.t 1)),.W 4 (.asg (.c (.nils 3))),.V 5 (.asg (.c (.int .i64 0)))] [0,3] [3]) (.seq (.seq (.reg false [.V 7 (.mv (.t 0)),.V 8 (.call (.c (.fn 575 [])) [.t 7]),.V 9 (.un .not (.t 8)),.V 10 (.mv (.t 9)),.G 11 (.call (.c (.fn 879 [])) [.t 3]) 3 false,.G 12 (.un .not (.t 11)) 3 false,.V 13 (.pick (.t 10) (.c (.bool true)) (.t 12))] [0,3,13] [3]) (.cond (.t 13) (.seq (.reg false [.W 4 (.asg (.c (.nils 3))),.V 5 (.asg (.c (.int .i64 1)))] [4,5] [4,6]) .ret) .skip)) (.norm [0,3] [3] spec_PutBlock_k0))) }
noncomputable def spec_PutBlock_D : List (Nat × Callee) := [(575,spec_l29Ok_c),(879,spec_l29One_c),(1025,spec_l29Put_c)]
def spec_PutBlock_H : List (Nat × ET) := [(4,T_Block),(6,T_Block),(7,T_Block),(14,T_Block),(16,T_Block),(17,T_Block),(20,T_Block)]
noncomputable def spec_PutBlock_c : Callee := mkCallee spec_PutBlock_D spec_PutBlock_H spec_PutBlock_ir [.d (.one (.sl T_Block)),.d T_Block] [.tok T_Block,.d (.one (.int .i64))] []
noncomputable def spec_PutBlock (a0 : List T_Block.ty) (a1 : T_Block.ty) : Option (List T_Block.ty × Int) := spec_PutBlock_c.f (a0,a1,())
noncomputable def spec_PutBlock_p0  (v0 : List T_Block.ty) (r3_0 : List UInt8) (r3_1 : List UInt8) (r3_2 : List UInt8) : Option (List T_Block.ty × Int) :=
 goL spec_PutBlock_D spec_PutBlock_H (vleave spec_PutBlock_ir [.d (.one (.sl T_Block)),.d T_Block] [.tok T_Block,.d (.one (.int .i64))] [] []) [.c spec_PutBlock_k0]
  ⟨[(0,.sl T_Block v0),(3,.loc 3 0 0)],[(3,some (.var 3 (.agg [.str r3_0,.str r3_1,.str r3_2])))]⟩
theorem spec_PutBlock_eq (a0 : List T_Block.ty) (a1 : T_Block.ty) : spec_PutBlock a0 a1 =
 (spec_l29Ok a0).bind fun x1 =>
  if (!x1) then
   some ([],1)
  else
   (spec_l29One a1).bind fun x2 =>
    if (!x2) then
     some ([],1)
    else
     spec_PutBlock_p0 a0 a1.1 a1.2.1 a1.2.2.1 :=
 (mk_f _ _ _ _ _ _ _ 4000).trans (by kernel_rfl)
theorem spec_PutBlock_p0_eq  (v0 : List T_Block.ty) (r3_0 : List UInt8) (r3_1 : List UInt8) (r3_2 : List UInt8) : spec_PutBlock_p0 v0 r3_0 r3_1 r3_2 =
 (spec_l29Put v0 (r3_0,r3_1,r3_2,())).bind fun x1 =>
  if decide ((x1.length : Int) > 32) then
   some ([],5)
  else
   some ((x1.take x1.length),0) :=
 (goL_dn _ _ _ 4000 _ _).trans (by kernel_rfl)
def spec_l29Draw_k0 : C :=
 .seq (.seq (.reg false [.V 10 (.mv (.t 4)),.V 11 (.bin .gtr (.t 10) (.c (.int .i64 0)))] [0,3,4,11] [0,3,5,1000]) (.cond (.t 11) .skip (.exit 0))) (.seq (.block 1 (.seq (.reg false [.V 15 (.mv (.t 3)),.V 16 (.mv (.t 0)),.W 17 (.call (.c (.fn 875 [])) [.t 16]),.V 18 (.call (.c (.fn 876 [])) [.t 15,.t 17]),.V 14 (.mv (.t 18)),.V 19 (.ext (.t 14) 0),.V 20 (.ext (.t 14) 1),.W 5 (.asg (.t 19)),.V 6 (.asg (.t 20))] [0,3,4,5,6] [0,3,5,1000]) (.seq (.reg false [.V 21 (.mv (.t 6)),.V 22 (.bin .eql (.t 21) (.c (.int .i64 0)))] [0,3,4,5,22] [0,3,5,1000]) (.cond (.t 22) (.reg false [.V 23 (.mv (.t 5)),.W 3 (.asg (.t 23))] [0,3,4] [0,3,5,1000]) .skip)))) (.reg false [.V 12 (.mv (.t 4)),.V 13 (.bin .sub (.t 12) (.c (.int .i64 1))),.V 4 (.asg (.t 13))] [0,3,4] [0,3,5,1000]))
def spec_l29Draw_k1 : C :=
 .opn 5000003 (.norm [0,3,4] [0,1000] spec_l29Draw_k0)
def spec_l29Draw_k2 : C :=
 .seq (.reg false [.V 24 (.mv (.t 3)),.W 2 (.asg (.t 24))] [0,2] [0,2,3,5,1000]) .ret
def spec_l29Draw_ir : Fn := { np := 1,io := [true],res := [.t 2],own := [false],body :=
 (.seq (.reg false [.W 2 (.asg (.c (.nils 3)))] [0] [0,1000]) (.seq (.reg false [.V 7 (.bsl 3 (.agg [.str [],.str [],.str []]) 0 []),.W 3 (.asg (.t 7))] [0,3] [0,3,5,1000]) (.seq (.seq (.reg false [.V 8 (.mv (.t 0)),.W 9 (.call (.c (.fn 463 [])) [.t 8,.c (.int .i64 6)]),.V 4 (.asg (.t 9))] [0,3,4] [0,3,5,1000]) (.block 0 (.loop spec_l29Draw_k1))) spec_l29Draw_k2))) }
noncomputable def spec_l29Draw_D : List (Nat × Callee) := [(463,spec_l00Src_pick_c),(875,spec_l29DrawOne_c),(876,spec_PutBlock_c)]
def spec_l29Draw_H : List (Nat × ET) := [(2,T_Block),(3,T_Block),(5,T_Block),(7,T_Block),(15,T_Block),(19,T_Block),(23,T_Block),(24,T_Block)]
noncomputable def spec_l29Draw_c : Callee := mkCallee spec_l29Draw_D spec_l29Draw_H spec_l29Draw_ir [.box T_l00Src] [.d (.one (.sl T_Block))] [.box T_l00Src]
noncomputable def spec_l29Draw (a0 : T_l00Src.ty) : Option (List T_Block.ty × T_l00Src.ty) := spec_l29Draw_c.f (a0,())
noncomputable def spec_l29Draw_p0  (v3 : List T_Block.ty) (v4 : Int) (r0_0 : List Int) (r0_1 : Int) (r0_2 : Int) : Option (List T_Block.ty × T_l00Src.ty) :=
 goL spec_l29Draw_D spec_l29Draw_H (vleave spec_l29Draw_ir [.box T_l00Src] [.d (.one (.sl T_Block))] [.box T_l00Src] []) [.c spec_l29Draw_k0,.l spec_l29Draw_k1,.e 0,.c spec_l29Draw_k2]
  ⟨[(0,.loc 0 0 0),(3,.sl T_Block v3),(4,.int .i64 v4)],[(0,some (.var 3 (.agg [.sl (.one (.int .u8)) r0_0,.int .i64 r0_1,.int .u64 r0_2]))),(1000,none)]⟩
theorem spec_l29Draw_eq (a0 : T_l00Src.ty) : spec_l29Draw a0 =
 (spec_l00Src_pick a0 6).bind fun x1 =>
  spec_l29Draw_p0 [] x1.1 x1.2.1 x1.2.2.1 x1.2.2.2.1 :=
 (mk_f _ _ _ _ _ _ _ 4000).trans (by kernel_rfl)
theorem spec_l29Draw_p0_eq  (v3 : List T_Block.ty) (v4 : Int) (r0_0 : List Int) (r0_1 : Int) (r0_2 : Int) : spec_l29Draw_p0 v3 v4 r0_0 r0_1 r0_2 =
 if decide (v4 > 0) then
  (spec_l29DrawOne (r0_0,r0_1,r0_2,())).bind fun x1 =>
   (spec_PutBlock v3 (x1.1.1,x1.1.2.1,x1.1.2.2.1,())).bind fun x2 =>
    if (x2.2 == 0) then
     spec_l29Draw_p0 (x2.1.take x2.1.length) (IntKind.i64.wrap (v4 - 1)) x1.2.1 x1.2.2.1 x1.2.2.2.1
    else
     spec_l29Draw_p0 v3 (IntKind.i64.wrap (v4 - 1)) x1.2.1 x1.2.2.1 x1.2.2.2.1
 else
  some (v3,(r0_0,r0_1,r0_2,())) :=
 (goL_dn _ _ _ 4000 _ _).trans (by kernel_rfl)
def spec_R8Blocks_ir : Fn := { np := 1,io := [],res := [.t 2],own := [false],body :=
 (.seq (.reg false [.W 2 (.asg (.c (.nils 3)))] [0] []) (.seq (.reg false [.V 4 (.mv (.t 0)),.W 5 (.call (.c (.fn 441 [])) [.t 4]),.V 3 (.asg (.t 5))] [3] [5,6000]) (.seq (.reg false [.V 6 (.mv (.t 3)),.W 7 (.call (.c (.fn 567 [])) [.t 6]),.W 2 (.asg (.t 7))] [2] [2]) .ret))) }
noncomputable def spec_R8Blocks_D : List (Nat × Callee) := [(441,spec_l00From_c),(567,spec_l29Draw_c)]
def spec_R8Blocks_H : List (Nat × ET) := [(2,T_Block),(4,(.one (.int .u8))),(7,T_Block)]
noncomputable def spec_R8Blocks_c : Callee := mkCallee spec_R8Blocks_D spec_R8Blocks_H spec_R8Blocks_ir [.d (.one (.sl (.one (.int .u8))))] [.d (.one (.sl T_Block))] []
noncomputable def spec_R8Blocks (a0 : List Int) : Option (List T_Block.ty) := spec_R8Blocks_c.f (a0,())
theorem spec_R8Blocks_eq (a0 : List Int) : spec_R8Blocks a0 =
 (spec_l00From a0).bind fun x1 =>
  (spec_l29Draw x1).bind fun x2 =>
   some x2.1 :=
 (mk_f _ _ _ _ _ _ _ 4000).trans (by kernel_rfl)
def impl_isDigit_ir : Fn := { np := 1,io := [],res := [.t 2],own := [false],body :=
 (.seq (.reg false [.V 2 (.asg (.c (.bool false)))] [0] []) (.seq (.reg false [.V 3 (.mv (.t 0)),.V 4 (.bin .geq (.t 3) (.c (.int .u8 48))),.V 5 (.mv (.t 4)),.G 6 (.mv (.t 0)) 2 true,.G 7 (.bin .leq (.t 6) (.c (.int .u8 57))) 2 true,.V 8 (.pick (.t 5) (.t 7) (.c (.bool false))),.V 2 (.asg (.t 8))] [2] []) .ret)) }
noncomputable def impl_isDigit_D : List (Nat × Callee) := []
def impl_isDigit_H : List (Nat × ET) := []
noncomputable def impl_isDigit_c : Callee := mkCallee impl_isDigit_D impl_isDigit_H impl_isDigit_ir [.d (.one (.int .u8))] [.d (.one .bool)] []
noncomputable def impl_isDigit (a0 : Int) : Option (Bool) := impl_isDigit_c.f (a0,())
theorem impl_isDigit_eq (a0 : Int) : impl_isDigit a0 =
 if decide (a0 ≥ 48) then
  some (decide (a0 ≤ 57))
 else
  some false :=
 (mk_f _ _ _ _ _ _ _ 4000).trans (by kernel_rfl)
def impl_few_ir : Fn := { np := 2,io := [],res := [.t 4],own := [false],body :=
 (.seq (.reg false [.V 4 (.asg (.c (.bool false)))] [0,1] []) (.seq (.reg false [.V 5 (.mv (.t 0)),.V 6 (.mv (.t 1)),.V 7 (.bin .leq (.t 5) (.t 6)),.V 4 (.asg (.t 7))] [4] []) .ret)) }
noncomputable def impl_few_D : List (Nat × Callee) := []
def impl_few_H : List (Nat × ET) := []
noncomputable def impl_few_c : Callee := mkCallee impl_few_D impl_few_H impl_few_ir [.d (.one (.int .i64)),.d (.one (.int .i64))] [.d (.one .bool)] []
noncomputable def impl_few (a0 : Int) (a1 : Int) : Option (Bool) := impl_few_c.f (a0,a1,())
theorem impl_few_eq (a0 : Int) (a1 : Int) : impl_few a0 a1 =
 some (decide (a0 ≤ a1)) :=
 (mk_f _ _ _ _ _ _ _ 4000).trans (by kernel_rfl)
def impl_IsName_k0 : C :=
 .seq (.reg false [.V 21 (.mv (.t 4)),.V 22 (.un .not (.t 21)),.V 23 (.mv (.t 22)),.G 24 (.mv (.t 3)) 2 true,.G 25 (.bin .eql (.t 24) (.c (.int .i64 0))) 2 true,.G 26 (.mv (.t 25)) 2 true,.G 27 (.mv (.t 0)) 5 false,.G 28 (.mv (.t 3)) 5 false,.G 29 (.ix (.t 27) (.t 28)) 5 false,.G 30 (.call (.c (.fn 22 [])) [.t 29]) 5 false,.G 31 (.un .not (.t 30)) 5 false,.G 32 (.pick (.t 26) (.c (.bool true)) (.t 31)) 2 true,.V 33 (.pick (.t 23) (.t 32) (.c (.bool false)))] [0,3,33] []) (.cond (.t 33) (.seq (.reg false [.V 2 (.asg (.c (.bool false)))] [2] []) .ret) .skip)
def impl_IsName_k1 : C :=
 .reg false [.V 9 (.mv (.t 3)),.V 10 (.bin .add (.t 9) (.c (.int .i64 1))),.V 3 (.asg (.t 10))] [0,3] []
def impl_IsName_k2 : C :=
 .seq (.seq (.reg false [.V 5 (.mv (.t 3)),.V 6 (.mv (.t 0)),.V 7 (.lens (.t 6)),.V 8 (.bin .lss (.t 5) (.t 7))] [0,3,8] []) (.cond (.t 8) .skip (.exit 0))) (.seq (.block 1 (.seq (.reg false [.V 11 (.mv (.t 0)),.V 12 (.mv (.t 3)),.V 13 (.ix (.t 11) (.t 12)),.V 14 (.bin .geq (.t 13) (.c (.int .u8 97))),.V 15 (.mv (.t 14)),.G 16 (.mv (.t 0)) 4 true,.G 17 (.mv (.t 3)) 4 true,.G 18 (.ix (.t 16) (.t 17)) 4 true,.G 19 (.bin .leq (.t 18) (.c (.int .u8 122))) 4 true,.V 20 (.pick (.t 15) (.t 19) (.c (.bool false))),.V 4 (.asg (.t 20))] [0,3,4] []) (.norm [0,3,4] [] impl_IsName_k0))) impl_IsName_k1)
def impl_IsName_k3 : C :=
 .norm [0,3] [] impl_IsName_k2
def impl_IsName_k4 : C :=
 .seq (.reg false [.V 34 (.mv (.t 0)),.V 35 (.bin .neq (.t 34) (.c (.str []))),.V 36 (.mv (.t 35)),.G 37 (.mv (.t 0)) 2 true,.G 38 (.lens (.t 37)) 2 true,.G 39 (.call (.c (.fn 21 [])) [.t 38,.c (.int .i64 10)]) 2 true,.V 40 (.pick (.t 36) (.t 39) (.c (.bool false))),.V 2 (.asg (.t 40))] [2] []) .ret
def impl_IsName_ir : Fn := { np := 1,io := [],res := [.t 2],own := [false],body :=
 (.seq (.reg false [.V 2 (.asg (.c (.bool false)))] [0] []) (.seq (.seq (.reg false [.V 3 (.asg (.c (.int .i64 0)))] [0,3] []) (.block 0 (.loop impl_IsName_k3))) impl_IsName_k4)) }
noncomputable def impl_IsName_D : List (Nat × Callee) := [(21,impl_few_c),(22,impl_isDigit_c)]
def impl_IsName_H : List (Nat × ET) := []
noncomputable def impl_IsName_c : Callee := mkCallee impl_IsName_D impl_IsName_H impl_IsName_ir [.d (.one .str)] [.d (.one .bool)] []
noncomputable def impl_IsName (a0 : List UInt8) : Option (Bool) := impl_IsName_c.f (a0,())
noncomputable def impl_IsName_p0  (v0 : List UInt8) (v3 : Int) : Option (Bool) :=
 goL impl_IsName_D impl_IsName_H (vleave impl_IsName_ir [.d (.one .str)] [.d (.one .bool)] [] []) [.c impl_IsName_k2,.l impl_IsName_k3,.e 0,.c impl_IsName_k4]
  ⟨[(0,.str v0),(3,.int .i64 v3)],[]⟩
noncomputable def impl_IsName_p1  (v0 : List UInt8) (v3 : Int) (v4 : Bool) : Option (Bool) :=
 goL impl_IsName_D impl_IsName_H (vleave impl_IsName_ir [.d (.one .str)] [.d (.one .bool)] [] []) [.c impl_IsName_k0,.e 1,.c impl_IsName_k1,.l impl_IsName_k3,.e 0,.c impl_IsName_k4]
  ⟨[(0,.str v0),(3,.int .i64 v3),(4,.bool v4)],[]⟩
theorem impl_IsName_eq (a0 : List UInt8) : impl_IsName a0 =
 impl_IsName_p0 a0 0 :=
 (mk_f _ _ _ _ _ _ _ 4000).trans (by kernel_rfl)
theorem impl_IsName_p0_eq  (v0 : List UInt8) (v3 : Int) : impl_IsName_p0 v0 v3 =
 if decide (v3 < (v0.length : Int)) then
  if decide (0 ≤ v3) then
   (v0[v3.toNat]?).bind fun x1 =>
    if decide ((x1.toNat : Int) ≥ 97) then
     if decide (0 ≤ v3) then
      (v0[v3.toNat]?).bind fun x2 =>
       impl_IsName_p1 v0 v3 (decide ((x2.toNat : Int) ≤ 122))
     else
      none
    else
     impl_IsName_p1 v0 v3 false
  else
   none
 else
  if (!(v0 == [])) then
   (impl_few (v0.length : Int) 10).bind fun x3 =>
    some x3
  else
   some false :=
 (goL_dn _ _ _ 4000 _ _).trans (by kernel_rfl)
theorem impl_IsName_p1_eq  (v0 : List UInt8) (v3 : Int) (v4 : Bool) : impl_IsName_p1 v0 v3 v4 =
 if (!v4) then
  if (v3 == 0) then
   some false
  else
   if decide (0 ≤ v3) then
    (v0[v3.toNat]?).bind fun x1 =>
     (impl_isDigit (x1.toNat : Int)).bind fun x2 =>
      if (!x2) then
       some false
      else
       impl_IsName_p0 v0 (IntKind.i64.wrap (v3 + 1))
   else
    none
 else
  impl_IsName_p0 v0 (IntKind.i64.wrap (v3 + 1)) :=
 (goL_dn _ _ _ 4000 _ _).trans (by kernel_rfl)
noncomputable def strings_Contains_c : Callee := containsC
noncomputable def strings_Contains (a0 : List UInt8) (a1 : List UInt8) : Option (Bool) := strings_Contains_c.f (a0,a1,())
theorem strings_Contains_eq (a0 : List UInt8) (a1 : List UInt8) : strings_Contains a0 a1 = if decide (a0.length < 4294967281) then some (Lib.contains a0 a1) else none := rfl
def impl_ValidBlock_ir : Fn := { np := 1,io := [],res := [.t 2],own := [false],body :=
 (.seq (.reg false [.W 1 (.box 3 (.t 0)),.V 2 (.asg (.c (.bool false)))] [1] [1]) (.seq (.reg false [.V 3 (.fa 0 (.t 1)),.V 4 (.ld none (.t 3)),.V 5 (.call (.c (.fn 24 [])) [.t 4]),.V 6 (.mv (.t 5)),.G 7 (.fa 1 (.t 1)) 3 true,.G 8 (.ld none (.t 7)) 3 true,.G 9 (.call (.c (.fn 24 [])) [.t 8]) 3 true,.V 10 (.pick (.t 6) (.t 9) (.c (.bool false))),.V 11 (.mv (.t 10)),.G 12 (.fa 2 (.t 1)) 8 true,.G 13 (.ld none (.t 12)) 8 true,.G 14 (.lens (.t 13)) 8 true,.G 15 (.call (.c (.fn 21 [])) [.t 14,.c (.int .i64 400)]) 8 true,.V 16 (.pick (.t 11) (.t 15) (.c (.bool false))),.V 17 (.mv (.t 16)),.G 18 (.fa 2 (.t 1)) 14 true,.G 19 (.ld none (.t 18)) 14 true,.G 20 (.call (.c (.fn 565 [])) [.t 19,.c (.str [10])]) 14 true,.G 21 (.un .not (.t 20)) 14 true,.V 22 (.pick (.t 17) (.t 21) (.c (.bool false))),.V 2 (.asg (.t 22))] [2] []) .ret)) }
noncomputable def impl_ValidBlock_D : List (Nat × Callee) := [(21,impl_few_c),(24,impl_IsName_c),(565,strings_Contains_c)]
def impl_ValidBlock_H : List (Nat × ET) := []
noncomputable def impl_ValidBlock_c : Callee := mkCallee impl_ValidBlock_D impl_ValidBlock_H impl_ValidBlock_ir [.d T_Block] [.d (.one .bool)] []
noncomputable def impl_ValidBlock (a0 : T_Block.ty) : Option (Bool) := impl_ValidBlock_c.f (a0,())
theorem impl_ValidBlock_eq (a0 : T_Block.ty) : impl_ValidBlock a0 =
 (impl_IsName a0.1).bind fun x1 =>
  if x1 then
   (impl_IsName a0.2.1).bind fun x2 =>
    if x2 then
     (impl_few (a0.2.2.1.length : Int) 400).bind fun x3 =>
      if x3 then
       (strings_Contains a0.2.2.1 [10]).bind fun x4 =>
        some (!x4)
      else
       some false
    else
     some false
  else
   some false :=
 (mk_f _ _ _ _ _ _ _ 4000).trans (by kernel_rfl)
noncomputable def strings_Compare_c : Callee := compareC
noncomputable def strings_Compare (a0 : List UInt8) (a1 : List UInt8) : Option (Int) := strings_Compare_c.f (a0,a1,())
theorem strings_Compare_eq (a0 : List UInt8) (a1 : List UInt8) : strings_Compare a0 a1 = some (Lib.compareBytes a0 a1) := rfl
def impl_Block_compare_ir : Fn := { np := 2,io := [],res := [.t 4],own := [false],body :=
 (.seq (.reg false [.W 2 (.box 3 (.t 0)),.W 3 (.box 3 (.t 1)),.V 4 (.asg (.c (.int .i64 0)))] [2,3] [2,3]) (.seq (.seq (.reg false [.V 6 (.fa 0 (.t 2)),.V 7 (.ld none (.t 6)),.V 8 (.fa 0 (.t 3)),.V 9 (.ld none (.t 8)),.V 10 (.call (.c (.fn 950 [])) [.t 7,.t 9]),.V 5 (.asg (.t 10))] [2,3,5] [2,3]) (.seq (.reg false [.V 11 (.mv (.t 5)),.V 12 (.bin .neq (.t 11) (.c (.int .i64 0)))] [2,3,5,12] [2,3]) (.cond (.t 12) (.seq (.reg false [.V 13 (.mv (.t 5)),.V 4 (.asg (.t 13))] [4] []) .ret) .skip))) (.seq (.reg false [.V 14 (.fa 1 (.t 2)),.V 15 (.ld none (.t 14)),.V 16 (.fa 1 (.t 3)),.V 17 (.ld none (.t 16)),.V 18 (.call (.c (.fn 950 [])) [.t 15,.t 17]),.V 4 (.asg (.t 18))] [4] []) .ret))) }
noncomputable def impl_Block_compare_D : List (Nat × Callee) := [(950,strings_Compare_c)]
def impl_Block_compare_H : List (Nat × ET) := []
noncomputable def impl_Block_compare_c : Callee := mkCallee impl_Block_compare_D impl_Block_compare_H impl_Block_compare_ir [.d T_Block,.d T_Block] [.d (.one (.int .i64))] []
noncomputable def impl_Block_compare (a0 : T_Block.ty) (a1 : T_Block.ty) : Option (Int) := impl_Block_compare_c.f (a0,a1,())
theorem impl_Block_compare_eq (a0 : T_Block.ty) (a1 : T_Block.ty) : impl_Block_compare a0 a1 =
 (strings_Compare a0.1 a1.1).bind fun x1 =>
  if (x1 != 0) then
   some x1
  else
   (strings_Compare a0.2.1 a1.2.1).bind fun x2 =>
    some x2 :=
 (mk_f _ _ _ _ _ _ _ 4000).trans (by kernel_rfl)
def impl_ValidBlocks_k0 : C :=
 .seq (.reg false [.V 8 (.bin .lss (.t 7) (.t 6))] [0,5,6,7,8] []) (.seq (.cond (.t 8) .skip (.exit 0)) (.seq (.block 1 (.seq (.reg false [.V 9 (.mv (.t 7)),.V 10 (.ia 3 (.t 5) (.t 7)),.V 11 (.ld (some 3) (.t 10)),.W 4 (.alloc 3 (.agg [.str [],.str [],.str []])),.V 3 (.asg (.t 9)),⟨none,true,.sto 3 (.t 4) (.t 11),none,false,[]⟩] [0,3,4,5,6,7] [4]) (.seq (.reg true [.V 12 (.ld (some 3) (.t 4)),.V 13 (.call (.c (.fn 570 [])) [.t 12]),.V 14 (.un .not (.t 13)),.V 15 (.mv (.t 14)),.G 16 (.mv (.t 3)) 3 false,.G 17 (.bin .gtr (.t 16) (.c (.int .i64 0))) 3 false,.G 18 (.mv (.t 17)) 3 false,.G 19 (.mv (.t 0)) 6 true,.G 20 (.mv (.t 3)) 6 true,.G 21 (.bin .sub (.t 20) (.c (.int .i64 1))) 6 true,.G 22 (.ia 3 (.t 19) (.t 21)) 6 true,.G 23 (.ld (some 3) (.t 22)) 6 true,.G 24 (.ld (some 3) (.t 4)) 6 true,.G 25 (.call (.c (.fn 828 [])) [.t 23,.t 24]) 6 true,.G 26 (.bin .geq (.t 25) (.c (.int .i64 0))) 6 true,.G 27 (.pick (.t 18) (.t 26) (.c (.bool false))) 3 false,.V 28 (.pick (.t 15) (.c (.bool true)) (.t 27))] [0,5,6,7,28] []) (.cond (.t 28) (.seq (.reg false [.V 2 (.asg (.c (.bool false)))] [2] []) .ret) .skip)))) (.reg false [.V 29 (.bin .add (.t 7) (.c (.int .i64 1))),.V 7 (.mv (.t 29))] [0,5,6,7] [])))
def impl_ValidBlocks_k1 : C :=
 .norm [0,5,6,7] [] impl_ValidBlocks_k0
def impl_ValidBlocks_k2 : C :=
 .seq (.reg false [.V 30 (.mv (.t 0)),.V 31 (.len (.t 30)),.V 32 (.call (.c (.fn 21 [])) [.t 31,.c (.int .i64 32)]),.V 2 (.asg (.t 32))] [2] []) .ret
def impl_ValidBlocks_ir : Fn := { np := 1,io := [],res := [.t 2],own := [false],body :=
 (.seq (.reg false [.V 2 (.asg (.c (.bool false)))] [0] []) (.seq (.seq (.reg false [.V 5 (.mv (.t 0)),.V 6 (.len (.t 5)),.V 7 (.mv (.c (.int .i64 0)))] [0,5,6,7] []) (.block 0 (.loop impl_ValidBlocks_k1))) impl_ValidBlocks_k2)) }
noncomputable def impl_ValidBlocks_D : List (Nat × Callee) := [(21,impl_few_c),(570,impl_ValidBlock_c),(828,impl_Block_compare_c)]
def impl_ValidBlocks_H : List (Nat × ET) := [(5,T_Block),(19,T_Block),(30,T_Block)]
noncomputable def impl_ValidBlocks_c : Callee := mkCallee impl_ValidBlocks_D impl_ValidBlocks_H impl_ValidBlocks_ir [.d (.one (.sl T_Block))] [.d (.one .bool)] []
noncomputable def impl_ValidBlocks (a0 : List T_Block.ty) : Option (Bool) := impl_ValidBlocks_c.f (a0,())
noncomputable def impl_ValidBlocks_p0  (v0 : List T_Block.ty) (v5 : List T_Block.ty) (v6 : Int) (v7 : Int) : Option (Bool) :=
 goL impl_ValidBlocks_D impl_ValidBlocks_H (vleave impl_ValidBlocks_ir [.d (.one (.sl T_Block))] [.d (.one .bool)] [] []) [.c impl_ValidBlocks_k0,.l impl_ValidBlocks_k1,.e 0,.c impl_ValidBlocks_k2]
  ⟨[(0,.sl T_Block v0),(5,.sl T_Block v5),(6,.int .i64 v6),(7,.int .i64 v7)],[]⟩
theorem impl_ValidBlocks_eq (a0 : List T_Block.ty) : impl_ValidBlocks a0 =
 impl_ValidBlocks_p0 a0 a0 (a0.length : Int) 0 :=
 (mk_f _ _ _ _ _ _ _ 4000).trans (by kernel_rfl)
theorem impl_ValidBlocks_p0_eq  (v0 : List T_Block.ty) (v5 : List T_Block.ty) (v6 : Int) (v7 : Int) : impl_ValidBlocks_p0 v0 v5 v6 v7 =
 if decide (v7 < v6) then
  if decide (0 ≤ v7) then
   (v5[v7.toNat]?).bind fun x1 =>
    (impl_ValidBlock x1).bind fun x2 =>
     if (!x2) then
      some false
     else
      if decide (v7 > 0) then
       if decide (0 ≤ IntKind.i64.wrap (v7 - 1)) then
        (v0[(IntKind.i64.wrap (v7 - 1)).toNat]?).bind fun x3 =>
         (impl_Block_compare x3 x1).bind fun x4 =>
          if decide (x4 ≥ 0) then
           some false
          else
           impl_ValidBlocks_p0 v0 v5 v6 (IntKind.i64.wrap (v7 + 1))
       else
        none
      else
       impl_ValidBlocks_p0 v0 v5 v6 (IntKind.i64.wrap (v7 + 1))
  else
   none
 else
  (impl_few (v0.length : Int) 32).bind fun x5 =>
   some x5 :=
 (goL_dn _ _ _ 4000 _ _).trans (by kernel_rfl)
noncomputable def strconv_FormatInt_c : Callee := formatIntC
noncomputable def strconv_FormatInt (a0 : Int) (a1 : Int) : Option (List UInt8) := strconv_FormatInt_c.f (a0,a1,())
theorem strconv_FormatInt_eq (a0 : Int) (a1 : Int) : strconv_FormatInt a0 a1 = if decide (a1 = 10) && (decide (-9223372036854775808 ≤ a0) && decide (a0 ≤ 9223372036854775807)) then some (Lib.itoa a0) else none := rfl
def impl_Decimal_ir : Fn := { np := 1,io := [],res := [.t 2],own := [false],body :=
 (.seq (.reg false [.V 2 (.asg (.c (.str [])))] [0] []) (.seq (.reg false [.V 3 (.mv (.t 0)),.V 4 (.call (.c (.fn 864 [])) [.t 3,.c (.int .i64 10)]),.V 2 (.asg (.t 4))] [2] []) .ret)) }
noncomputable def impl_Decimal_D : List (Nat × Callee) := [(864,strconv_FormatInt_c)]
def impl_Decimal_H : List (Nat × ET) := []
noncomputable def impl_Decimal_c : Callee := mkCallee impl_Decimal_D impl_Decimal_H impl_Decimal_ir [.d (.one (.int .i64))] [.d (.one .str)] []
noncomputable def impl_Decimal (a0 : Int) : Option (List UInt8) := impl_Decimal_c.f (a0,())
theorem impl_Decimal_eq (a0 : Int) : impl_Decimal a0 =
 (strconv_FormatInt a0 10).bind fun x1 =>
  some x1 :=
 (mk_f _ _ _ _ _ _ _ 4000).trans (by kernel_rfl)
def impl_Block_rest_ir : Fn := { np := 1,io := [],res := [.t 2],own := [false],body :=
 (.seq (.reg false [.W 1 (.box 3 (.t 0)),.V 2 (.asg (.c (.str [])))] [1] [1]) (.seq (.reg false [.V 3 (.fa 0 (.t 1)),.V 4 (.ld none (.t 3)),.V 5 (.bin .add (.t 4) (.c (.str [32]))),.V 6 (.fa 1 (.t 1)),.V 7 (.ld none (.t 6)),.V 8 (.bin .add (.t 5) (.t 7)),.V 9 (.bin .add (.t 8) (.c (.str [32]))),.V 10 (.fa 2 (.t 1)),.V 11 (.ld none (.t 10)),.V 12 (.bin .add (.t 9) (.t 11)),.V 2 (.asg (.t 12))] [2] []) .ret)) }
noncomputable def impl_Block_rest_D : List (Nat × Callee) := []
def impl_Block_rest_H : List (Nat × ET) := []
noncomputable def impl_Block_rest_c : Callee := mkCallee impl_Block_rest_D impl_Block_rest_H impl_Block_rest_ir [.d T_Block] [.d (.one .str)] []
noncomputable def impl_Block_rest (a0 : T_Block.ty) : Option (List UInt8) := impl_Block_rest_c.f (a0,())
theorem impl_Block_rest_eq (a0 : T_Block.ty) : impl_Block_rest a0 =
 if decide (a0.1.length + [32].length ≤ strMax) then
  if decide ((a0.1 ++ [32]).length + a0.2.1.length ≤ strMax) then
   if decide (((a0.1 ++ [32]) ++ a0.2.1).length + [32].length ≤ strMax) then
    if decide ((((a0.1 ++ [32]) ++ a0.2.1) ++ [32]).length + a0.2.2.1.length ≤ strMax) then
     some ((((a0.1 ++ [32]) ++ a0.2.1) ++ [32]) ++ a0.2.2.1)
    else
     none
   else
    none
  else
   none
 else
  none :=
 (mk_f _ _ _ _ _ _ _ 4000).trans (by kernel_rfl)
def impl_within_ir : Fn := { np := 3,io := [],res := [.t 6],own := [false],body :=
 (.seq (.reg false [.V 6 (.asg (.c (.bool false)))] [0,1,2] []) (.seq (.reg false [.V 7 (.mv (.t 1)),.V 8 (.mv (.t 0)),.V 9 (.bin .leq (.t 7) (.t 8)),.V 10 (.mv (.t 9)),.G 11 (.mv (.t 0)) 3 true,.G 12 (.mv (.t 2)) 3 true,.G 13 (.bin .leq (.t 11) (.t 12)) 3 true,.V 14 (.pick (.t 10) (.t 13) (.c (.bool false))),.V 6 (.asg (.t 14))] [6] []) .ret)) }
noncomputable def impl_within_D : List (Nat × Callee) := []
def impl_within_H : List (Nat × ET) := []
noncomputable def impl_within_c : Callee := mkCallee impl_within_D impl_within_H impl_within_ir [.d (.one (.int .i64)),.d (.one (.int .i64)),.d (.one (.int .i64))] [.d (.one .bool)] []
noncomputable def impl_within (a0 : Int) (a1 : Int) (a2 : Int) : Option (Bool) := impl_within_c.f (a0,a1,a2,())
theorem impl_within_eq (a0 : Int) (a1 : Int) (a2 : Int) : impl_within a0 a1 a2 =
 if decide (a1 ≤ a0) then
  some (decide (a0 ≤ a2))
 else
  some false :=
 (mk_f _ _ _ _ _ _ _ 4000).trans (by kernel_rfl)
def impl_Crc16_k0 : C :=
 .seq (.reg false [.V 23 (.bin .lss (.t 22) (.c (.int .i64 8)))] [0,1,5,22,23] []) (.seq (.cond (.t 23) .skip (.exit 2)) (.seq (.block 3 (.seq (.reg false [.V 24 (.mv (.t 1)),.V 25 (.bin .mul (.t 24) (.c (.int .i64 2))),.V 1 (.asg (.t 25))] [0,1,5,22] []) (.seq (.reg false [.V 26 (.mv (.t 1)),.V 27 (.bin .gtr (.t 26) (.c (.int .i64 65535)))] [0,1,5,22,27] []) (.cond (.t 27) (.reg false [.V 28 (.mv (.t 1)),.V 29 (.bin .and (.t 28) (.c (.int .i64 65535))),.V 30 (.bin .xor (.t 29) (.c (.int .i64 4129))),.V 1 (.asg (.t 30))] [0,1,5,22] []) .skip)))) (.reg false [.V 31 (.bin .add (.t 22) (.c (.int .i64 1))),.V 22 (.mv (.t 31))] [0,1,5,22] [])))
def impl_Crc16_k1 : C :=
 .norm [0,1,5,22] [] impl_Crc16_k0
def impl_Crc16_k2 : C :=
 .reg false [.V 13 (.mv (.t 5)),.V 14 (.bin .add (.t 13) (.c (.int .i64 1))),.V 5 (.asg (.t 14))] [0,1,5] []
def impl_Crc16_k3 : C :=
 .seq (.seq (.reg false [.V 9 (.mv (.t 5)),.V 10 (.mv (.t 0)),.V 11 (.lens (.t 10)),.V 12 (.bin .lss (.t 9) (.t 11))] [0,1,5,12] []) (.cond (.t 12) .skip (.exit 0))) (.seq (.block 1 (.seq (.reg false [.V 15 (.mv (.t 1)),.V 16 (.mv (.t 0)),.V 17 (.mv (.t 5)),.V 18 (.ix (.t 16) (.t 17)),.V 19 (.conv (.int .i64) (.t 18)),.V 20 (.bin .mul (.t 19) (.c (.int .i64 256))),.V 21 (.bin .xor (.t 15) (.t 20)),.V 1 (.asg (.t 21))] [0,1,5] []) (.seq (.reg false [.V 22 (.mv (.c (.int .i64 0)))] [0,1,5,22] []) (.block 2 (.loop impl_Crc16_k1))))) impl_Crc16_k2)
def impl_Crc16_k4 : C :=
 .norm [0,1,5] [] impl_Crc16_k3
def impl_Crc16_k5 : C :=
 .seq (.reg false [.V 32 (.mv (.t 1)),.V 4 (.asg (.t 32))] [4] []) .ret
def impl_Crc16_ir : Fn := { np := 2,io := [],res := [.t 4],own := [false],body :=
 (.seq (.reg false [.V 4 (.asg (.c (.int .i64 0)))] [0,1] []) (.seq (.seq (.reg false [.V 6 (.mv (.t 1)),.V 7 (.call (.c (.fn 23 [])) [.t 6,.c (.int .i64 0),.c (.int .i64 65535)]),.V 8 (.un .not (.t 7))] [0,1,8] []) (.cond (.t 8) (.seq (.reg false [.V 4 (.asg (.c (.int .i64 0)))] [4] []) .ret) .skip)) (.seq (.seq (.reg false [.V 5 (.asg (.c (.int .i64 0)))] [0,1,5] []) (.block 0 (.loop impl_Crc16_k4))) impl_Crc16_k5))) }
noncomputable def impl_Crc16_D : List (Nat × Callee) := [(23,impl_within_c)]
def impl_Crc16_H : List (Nat × ET) := []
noncomputable def impl_Crc16_c : Callee := mkCallee impl_Crc16_D impl_Crc16_H impl_Crc16_ir [.d (.one .str),.d (.one (.int .i64))] [.d (.one (.int .i64))] []
noncomputable def impl_Crc16 (a0 : List UInt8) (a1 : Int) : Option (Int) := impl_Crc16_c.f (a0,a1,())
noncomputable def impl_Crc16_p0  (v0 : List UInt8) (v1 : Int) (v5 : Int) : Option (Int) :=
 goL impl_Crc16_D impl_Crc16_H (vleave impl_Crc16_ir [.d (.one .str),.d (.one (.int .i64))] [.d (.one (.int .i64))] [] []) [.c impl_Crc16_k3,.l impl_Crc16_k4,.e 0,.c impl_Crc16_k5]
  ⟨[(0,.str v0),(1,.int .i64 v1),(5,.int .i64 v5)],[]⟩
noncomputable def impl_Crc16_p1  (v0 : List UInt8) (v1 : Int) (v5 : Int) (v22 : Int) : Option (Int) :=
 goL impl_Crc16_D impl_Crc16_H (vleave impl_Crc16_ir [.d (.one .str),.d (.one (.int .i64))] [.d (.one (.int .i64))] [] []) [.c impl_Crc16_k0,.l impl_Crc16_k1,.e 2,.e 1,.c impl_Crc16_k2,.l impl_Crc16_k4,.e 0,.c impl_Crc16_k5]
  ⟨[(0,.str v0),(1,.int .i64 v1),(5,.int .i64 v5),(22,.int .i64 v22)],[]⟩
theorem impl_Crc16_eq (a0 : List UInt8) (a1 : Int) : impl_Crc16 a0 a1 =
 (impl_within a1 0 65535).bind fun x1 =>
  if (!x1) then
   some 0
  else
   impl_Crc16_p0 a0 a1 0 :=
 (mk_f _ _ _ _ _ _ _ 4000).trans (by kernel_rfl)
theorem impl_Crc16_p0_eq  (v0 : List UInt8) (v1 : Int) (v5 : Int) : impl_Crc16_p0 v0 v1 v5 =
 if decide (v5 < (v0.length : Int)) then
  if decide (0 ≤ v5) then
   (v0[v5.toNat]?).bind fun x1 =>
    impl_Crc16_p1 v0 (IntKind.i64.wrap ((BitVec.ofInt IntKind.i64.bits v1 ^^^ BitVec.ofInt IntKind.i64.bits (IntKind.i64.wrap ((IntKind.i64.wrap (x1.toNat : Int)) * 256))).toNat : Int)) v5 0
  else
   none
 else
  some v1 :=
 (goL_dn _ _ _ 4000 _ _).trans (by kernel_rfl)
theorem impl_Crc16_p1_eq  (v0 : List UInt8) (v1 : Int) (v5 : Int) (v22 : Int) : impl_Crc16_p1 v0 v1 v5 v22 =
 if decide (v22 < 8) then
  if decide (IntKind.i64.wrap (v1 * 2) > 65535) then
   impl_Crc16_p1 v0 (IntKind.i64.wrap ((BitVec.ofInt IntKind.i64.bits (IntKind.i64.wrap ((BitVec.ofInt IntKind.i64.bits (IntKind.i64.wrap (v1 * 2)) &&& BitVec.ofInt IntKind.i64.bits 65535).toNat : Int)) ^^^ BitVec.ofInt IntKind.i64.bits 4129).toNat : Int)) v5 (IntKind.i64.wrap (v22 + 1))
  else
   impl_Crc16_p1 v0 (IntKind.i64.wrap (v1 * 2)) v5 (IntKind.i64.wrap (v22 + 1))
 else
  impl_Crc16_p0 v0 v1 (IntKind.i64.wrap (v5 + 1)) :=
 (goL_dn _ _ _ 4000 _ _).trans (by kernel_rfl)
noncomputable def strings_Repeat_c : Callee := repeatC
noncomputable def strings_Repeat (a0 : List UInt8) (a1 : Int) : Option (List UInt8) := strings_Repeat_c.f (a0,a1,())
theorem strings_Repeat_eq (a0 : List UInt8) (a1 : Int) : strings_Repeat a0 a1 = if decide (0 ≤ a1) && (decide (a1 ≤ 9223372036854775807) && decide (a0.length * a1.toNat ≤ 140737488355328)) then some (Lib.repeatL a0 a1.toNat) else none := rfl
def impl_padded_ir : Fn := { np := 2,io := [],res := [.t 4],own := [false],body :=
 (.seq (.reg false [.V 4 (.asg (.c (.str [])))] [0,1] []) (.seq (.reg false [.V 6 (.mv (.t 0)),.V 7 (.call (.c (.fn 524 [])) [.t 6]),.V 5 (.asg (.t 7))] [1,5] []) (.seq (.reg false [.V 8 (.mv (.t 1)),.V 9 (.mv (.t 5)),.V 10 (.lens (.t 9)),.V 11 (.bin .sub (.t 8) (.t 10)),.V 12 (.max [.c (.int .i64 0),.t 11]),.V 13 (.call (.c (.fn 518 [])) [.c (.str [48]),.t 12]),.V 14 (.mv (.t 5)),.V 15 (.bin .add (.t 13) (.t 14)),.V 4 (.asg (.t 15))] [4] []) .ret))) }
noncomputable def impl_padded_D : List (Nat × Callee) := [(518,strings_Repeat_c),(524,impl_Decimal_c)]
def impl_padded_H : List (Nat × ET) := []
noncomputable def impl_padded_c : Callee := mkCallee impl_padded_D impl_padded_H impl_padded_ir [.d (.one (.int .i64)),.d (.one (.int .i64))] [.d (.one .str)] []
noncomputable def impl_padded (a0 : Int) (a1 : Int) : Option (List UInt8) := impl_padded_c.f (a0,a1,())
theorem impl_padded_eq (a0 : Int) (a1 : Int) : impl_padded a0 a1 =
 (impl_Decimal a0).bind fun x1 =>
  (strings_Repeat [48] (if IntKind.i64.wrap (a1 - (x1.length : Int)) > 0 then IntKind.i64.wrap (a1 - (x1.length : Int)) else 0)).bind fun x2 =>
   if decide (x2.length + x1.length ≤ strMax) then
    some (x2 ++ x1)
   else
    none :=
 (mk_f _ _ _ _ _ _ _ 4000).trans (by kernel_rfl)
def impl_lineOf_ir : Fn := { np := 1,io := [],res := [.t 2],own := [false],body :=
 (.seq (.reg false [.V 2 (.asg (.c (.str [])))] [0] []) (.seq (.reg false [.V 3 (.mv (.t 0)),.V 4 (.call (.c (.fn 990 [])) [.t 3,.c (.int .i64 65535)]),.V 5 (.call (.c (.fn 668 [])) [.t 4,.c (.int .i64 5)]),.V 6 (.bin .add (.t 5) (.c (.str [32]))),.V 7 (.mv (.t 0)),.V 8 (.bin .add (.t 6) (.t 7)),.V 2 (.asg (.t 8))] [2] []) .ret)) }
noncomputable def impl_lineOf_D : List (Nat × Callee) := [(668,impl_padded_c),(990,impl_Crc16_c)]
def impl_lineOf_H : List (Nat × ET) := []
noncomputable def impl_lineOf_c : Callee := mkCallee impl_lineOf_D impl_lineOf_H impl_lineOf_ir [.d (.one .str)] [.d (.one .str)] []
noncomputable def impl_lineOf (a0 : List UInt8) : Option (List UInt8) := impl_lineOf_c.f (a0,())
theorem impl_lineOf_eq (a0 : List UInt8) : impl_lineOf a0 =
 (impl_Crc16 a0 65535).bind fun x1 =>
  (impl_padded x1 5).bind fun x2 =>
   if decide (x2.length + [32].length ≤ strMax) then
    if decide ((x2 ++ [32]).length + a0.length ≤ strMax) then
     some ((x2 ++ [32]) ++ a0)
    else
     none
   else
    none :=
 (mk_f _ _ _ _ _ _ _ 4000).trans (by kernel_rfl)
def impl_SaveBlocks_k0 : C :=
 .seq (.reg false [.V 18 (.bin .lss (.t 17) (.t 16))] [4,15,16,17,18] []) (.seq (.cond (.t 18) .skip (.exit 0)) (.seq (.block 1 (.seq (.reg false [.V 19 (.ia 3 (.t 15) (.t 17)),.V 20 (.ld (some 3) (.t 19)),.W 6 (.alloc 3 (.agg [.str [],.str [],.str []])),⟨none,true,.sto 3 (.t 6) (.t 20),none,false,[]⟩] [4,6,15,16,17] [6]) (.reg false [.V 21 (.mv (.t 4)),.V 22 (.ld (some 3) (.t 6)),.V 23 (.call (.c (.fn 826 [])) [.t 22]),.V 24 (.call (.c (.fn 827 [])) [.t 23]),.V 25 (.bin .add (.t 24) (.c (.str [10]))),.V 26 (.bin .add (.t 21) (.t 25)),.V 4 (.asg (.t 26))] [4,15,16,17] []))) (.reg false [.V 27 (.bin .add (.t 17) (.c (.int .i64 1))),.V 17 (.mv (.t 27))] [4,15,16,17] [])))
def impl_SaveBlocks_k1 : C :=
 .norm [4,15,16,17] [] impl_SaveBlocks_k0
def impl_SaveBlocks_k2 : C :=
 .seq (.reg false [.V 28 (.mv (.t 4)),.V 2 (.asg (.t 28)),.V 3 (.asg (.c (.int .i64 0)))] [2,3] []) .ret
def impl_SaveBlocks_ir : Fn := { np := 1,io := [],res := [.t 2,.t 3],own := [false,false],body :=
 (.seq (.reg false [.V 2 (.asg (.c (.str []))),.V 3 (.asg (.c (.int .i64 0)))] [0] []) (.seq (.seq (.reg false [.V 7 (.mv (.t 0)),.V 8 (.call (.c (.fn 569 [])) [.t 7]),.V 9 (.un .not (.t 8))] [0,9] []) (.cond (.t 9) (.seq (.reg false [.V 2 (.asg (.c (.str []))),.V 3 (.asg (.c (.int .i64 1)))] [2,3] []) .ret) .skip)) (.seq (.reg false [.V 10 (.mv (.t 0)),.V 11 (.len (.t 10)),.V 12 (.call (.c (.fn 524 [])) [.t 11]),.V 13 (.bin .add (.c (.str [97,114,99,104,105,118,101,32])) (.t 12)),.V 14 (.bin .add (.t 13) (.c (.str [10]))),.V 4 (.asg (.t 14))] [0,4] []) (.seq (.seq (.reg false [.V 15 (.mv (.t 0)),.V 16 (.len (.t 15)),.V 17 (.mv (.c (.int .i64 0)))] [4,15,16,17] []) (.block 0 (.loop impl_SaveBlocks_k1))) impl_SaveBlocks_k2)))) }
noncomputable def impl_SaveBlocks_D : List (Nat × Callee) := [(524,impl_Decimal_c),(569,impl_ValidBlocks_c),(826,impl_Block_rest_c),(827,impl_lineOf_c)]
def impl_SaveBlocks_H : List (Nat × ET) := [(7,T_Block),(10,T_Block),(15,T_Block)]
noncomputable def impl_SaveBlocks_c : Callee := mkCallee impl_SaveBlocks_D impl_SaveBlocks_H impl_SaveBlocks_ir [.d (.one (.sl T_Block))] [.d (.one .str),.d (.one (.int .i64))] []
noncomputable def impl_SaveBlocks (a0 : List T_Block.ty) : Option (List UInt8 × Int) := impl_SaveBlocks_c.f (a0,())
noncomputable def impl_SaveBlocks_p0  (v4 : List UInt8) (v15 : List T_Block.ty) (v16 : Int) (v17 : Int) : Option (List UInt8 × Int) :=
 goL impl_SaveBlocks_D impl_SaveBlocks_H (vleave impl_SaveBlocks_ir [.d (.one (.sl T_Block))] [.d (.one .str),.d (.one (.int .i64))] [] []) [.c impl_SaveBlocks_k0,.l impl_SaveBlocks_k1,.e 0,.c impl_SaveBlocks_k2]
  ⟨[(4,.str v4),(15,.sl T_Block v15),(16,.int .i64 v16),(17,.int .i64 v17)],[]⟩
theorem impl_SaveBlocks_eq (a0 : List T_Block.ty) : impl_SaveBlocks a0 =
 (impl_ValidBlocks a0).bind fun x1 =>
  if (!x1) then
   some ([],1)
  else
   (impl_Decimal (a0.length : Int)).bind fun x2 =>
    if decide ([97,114,99,104,105,118,101,32].length + x2.length ≤ strMax) then
     if decide (([97,114,99,104,105,118,101,32] ++ x2).length + [10].length ≤ strMax) then
      impl_SaveBlocks_p0 (([97,114,99,104,105,118,101,32] ++ x2) ++ [10]) a0 (a0.length : Int) 0
     else
      none
    else
     none :=
 (mk_f _ _ _ _ _ _ _ 4000).trans (by kernel_rfl)
theorem impl_SaveBlocks_p0_eq  (v4 : List UInt8) (v15 : List T_Block.ty) (v16 : Int) (v17 : Int) : impl_SaveBlocks_p0 v4 v15 v16 v17 =
 if decide (v17 < v16) then
  if decide (0 ≤ v17) then
   (v15[v17.toNat]?).bind fun x1 =>
    (impl_Block_rest x1).bind fun x2 =>
     (impl_lineOf x2).bind fun x3 =>
      if decide (x3.length + [10].length ≤ strMax) then
       if decide (v4.length + (x3 ++ [10]).length ≤ strMax) then
        impl_SaveBlocks_p0 (v4 ++ (x3 ++ [10])) v15 v16 (IntKind.i64.wrap (v17 + 1))
       else
        none
      else
       none
  else
   none
 else
  some (v4,0) :=
 (goL_dn _ _ _ 4000 _ _).trans (by kernel_rfl)
noncomputable def strings_CutSuffix_c : Callee := cutSuffixC
noncomputable def strings_CutSuffix (a0 : List UInt8) (a1 : List UInt8) : Option (List UInt8 × Bool) := strings_CutSuffix_c.f (a0,a1,())
theorem strings_CutSuffix_eq (a0 : List UInt8) (a1 : List UInt8) : strings_CutSuffix a0 a1 = if decide (a0.length ≤ 9223372036854775807) then some (Lib.trimSuffix a0 a1,Lib.hasSuffix a0 a1) else none := rfl
noncomputable def strings_Split_c : Callee := splitC
noncomputable def strings_Split (a0 : List UInt8) (a1 : List UInt8) : Option (List (List UInt8)) := strings_Split_c.f (a0,a1,())
theorem strings_Split_eq (a0 : List UInt8) (a1 : List UInt8) : strings_Split a0 a1 = if decide (a0.length < 4294967281) && decide (1 ≤ a1.length) then some (Lib.splitK a1 0 (Lib.count a0 a1) a0) else none := rfl
noncomputable def strings_CutPrefix_c : Callee := cutPrefixC
noncomputable def strings_CutPrefix (a0 : List UInt8) (a1 : List UInt8) : Option (List UInt8 × Bool) := strings_CutPrefix_c.f (a0,a1,())
theorem strings_CutPrefix_eq (a0 : List UInt8) (a1 : List UInt8) : strings_CutPrefix a0 a1 = some (Lib.trimPrefix a0 a1,Lib.hasPrefix a0 a1) := rfl
noncomputable def impl_ReadDecimal_c : Callee := readDecC
noncomputable def impl_ReadDecimal (a0 : List UInt8) : Option (Int × Bool) := impl_ReadDecimal_c.f (a0,())
theorem impl_ReadDecimal_eq (a0 : List UInt8) : impl_ReadDecimal a0 = some (readDecP a0) := rfl
def impl_countOf_ir : Fn := { np := 1,io := [],res := [.t 2,.t 3],own := [false,false],body :=
 (.seq (.reg false [.V 2 (.asg (.c (.int .i64 0))),.V 3 (.asg (.c (.bool false)))] [0] []) (.seq (.reg false [.V 9 (.mv (.t 0)),.V 10 (.call (.c (.fn 991 [])) [.t 9,.c (.str [97,114,99,104,105,118,101,32])]),.V 8 (.mv (.t 10)),.V 11 (.ext (.t 8) 0),.V 12 (.ext (.t 8) 1),.V 4 (.asg (.t 11)),.V 5 (.asg (.t 12))] [4,5] []) (.seq (.reg false [.V 14 (.mv (.t 4)),.V 15 (.call (.c (.fn 522 [])) [.t 14]),.V 13 (.mv (.t 15)),.V 16 (.ext (.t 13) 0),.V 17 (.ext (.t 13) 1),.V 6 (.asg (.t 16)),.V 7 (.asg (.t 17))] [5,6,7] []) (.seq (.reg false [.V 18 (.mv (.t 6)),.V 19 (.mv (.t 5)),.V 20 (.mv (.t 19)),.G 21 (.mv (.t 7)) 2 true,.V 22 (.pick (.t 20) (.t 21) (.c (.bool false))),.V 23 (.mv (.t 22)),.G 24 (.mv (.t 6)) 5 true,.G 25 (.call (.c (.fn 23 [])) [.t 24,.c (.int .i64 0),.c (.int .i64 32)]) 5 true,.V 26 (.pick (.t 23) (.t 25) (.c (.bool false))),.V 2 (.asg (.t 18)),.V 3 (.asg (.t 26))] [2,3] []) .ret)))) }
noncomputable def impl_countOf_D : List (Nat × Callee) := [(23,impl_within_c),(522,impl_ReadDecimal_c),(991,strings_CutPrefix_c)]
def impl_countOf_H : List (Nat × ET) := []
noncomputable def impl_countOf_c : Callee := mkCallee impl_countOf_D impl_countOf_H impl_countOf_ir [.d (.one .str)] [.d (.one (.int .i64)),.d (.one .bool)] []
noncomputable def impl_countOf (a0 : List UInt8) : Option (Int × Bool) := impl_countOf_c.f (a0,())
theorem impl_countOf_eq (a0 : List UInt8) : impl_countOf a0 =
 (strings_CutPrefix a0 [97,114,99,104,105,118,101,32]).bind fun x1 =>
  (impl_ReadDecimal x1.1).bind fun x2 =>
   if x1.2 then
    if x2.2 then
     (impl_within x2.1 0 32).bind fun x3 =>
      some (x2.1,x3)
    else
     some (x2.1,false)
   else
    some (x2.1,false) :=
 (mk_f _ _ _ _ _ _ _ 4000).trans (by kernel_rfl)
noncomputable def strings_Cut_c : Callee := cutC
noncomputable def strings_Cut (a0 : List UInt8) (a1 : List UInt8) : Option (List UInt8 × List UInt8 × Bool) := strings_Cut_c.f (a0,a1,())
theorem strings_Cut_eq (a0 : List UInt8) (a1 : List UInt8) : strings_Cut a0 a1 = if decide (a0.length < 4294967281) then some (Lib.cut a0 a1) else none := rfl
def impl_readBlock_k0 : C :=
 .seq (.reg false [.V 21 (.mv (.t 0)),.V 22 (.slcs (.t 21) (some (.c (.int .i64 6))) none),.V 4 (.asg (.t 22))] [0,2,4] [2]) (.seq (.seq (.reg false [.V 23 (.mv (.t 4)),.V 24 (.call (.c (.fn 827 [])) [.t 23]),.V 25 (.mv (.t 0)),.V 26 (.bin .neq (.t 24) (.t 25))] [2,4,26] [2]) (.cond (.t 26) (.seq (.reg false [.V 27 (.build [.str [],.str [],.str []] []),⟨none,true,.sto 3 (.t 2) (.t 27),none,false,[]⟩,.V 3 (.asg (.c (.int .i64 10)))] [2,3] [2]) .ret) .skip)) (.seq (.reg false [.V 29 (.mv (.t 4)),.V 30 (.call (.c (.fn 523 [])) [.t 29,.c (.str [32])]),.V 28 (.mv (.t 30)),.V 31 (.ext (.t 28) 0),.V 32 (.ext (.t 28) 1),.V 33 (.ext (.t 28) 2),.V 5 (.asg (.t 31)),.V 6 (.asg (.t 32)),.V 7 (.asg (.t 33))] [2,5,6,7] [2]) (.seq (.reg false [.V 35 (.mv (.t 6)),.V 36 (.call (.c (.fn 523 [])) [.t 35,.c (.str [32])]),.V 34 (.mv (.t 36)),.V 37 (.ext (.t 34) 0),.V 38 (.ext (.t 34) 1),.V 39 (.ext (.t 34) 2),.V 8 (.asg (.t 37)),.V 9 (.asg (.t 38)),.V 10 (.asg (.t 39))] [2,5,7,8,9,10] [2]) (.seq (.reg false [.V 40 (.mv (.t 5)),.V 41 (.mv (.t 8)),.V 42 (.mv (.t 9)),.V 43 (.build [.str [],.str [],.str []] [(0,1,.t 40),(1,1,.t 41),(2,1,.t 42)]),.W 11 (.alloc 3 (.agg [.str [],.str [],.str []])),⟨none,true,.sto 3 (.t 11) (.t 43),none,false,[]⟩] [2,7,10,11] [2,11]) (.seq (.seq (.reg false [.V 44 (.mv (.t 7)),.V 45 (.un .not (.t 44)),.V 46 (.mv (.t 45)),.G 47 (.mv (.t 10)) 2 false,.G 48 (.un .not (.t 47)) 2 false,.V 49 (.pick (.t 46) (.c (.bool true)) (.t 48)),.V 50 (.mv (.t 49)),.G 51 (.ld (some 3) (.t 11)) 6 false,.G 52 (.call (.c (.fn 570 [])) [.t 51]) 6 false,.G 53 (.un .not (.t 52)) 6 false,.V 54 (.pick (.t 50) (.c (.bool true)) (.t 53))] [2,11,54] [2,11]) (.cond (.t 54) (.seq (.reg false [.V 55 (.build [.str [],.str [],.str []] []),⟨none,true,.sto 3 (.t 2) (.t 55),none,false,[]⟩,.V 3 (.asg (.c (.int .i64 9)))] [2,3] [2]) .ret) .skip)) (.seq (.reg false [.V 56 (.ld (some 3) (.t 11)),⟨none,true,.sto 3 (.t 2) (.t 56),none,false,[]⟩,.V 3 (.asg (.c (.int .i64 0)))] [2,3] [2]) .ret))))))
def impl_readBlock_ir : Fn := { np := 1,io := [],res := [.cell 2 (some 3),.t 3],own := [false,false],body :=
 (.seq (.reg false [.W 2 (.alloc 3 (.agg [.str [],.str [],.str []])),.V 3 (.asg (.c (.int .i64 0)))] [0,2] [2]) (.seq (.seq (.reg false [.V 12 (.mv (.t 0)),.V 13 (.lens (.t 12)),.V 14 (.bin .lss (.t 13) (.c (.int .i64 6))),.V 15 (.mv (.t 14)),.G 16 (.mv (.t 0)) 3 false,.G 17 (.ix (.t 16) (.c (.int .i64 5))) 3 false,.G 18 (.bin .neq (.t 17) (.c (.int .u8 32))) 3 false,.V 19 (.pick (.t 15) (.c (.bool true)) (.t 18))] [0,2,19] [2]) (.cond (.t 19) (.seq (.reg false [.V 20 (.build [.str [],.str [],.str []] []),⟨none,true,.sto 3 (.t 2) (.t 20),none,false,[]⟩,.V 3 (.asg (.c (.int .i64 9)))] [2,3] [2]) .ret) .skip)) (.norm [0,2] [2] impl_readBlock_k0))) }
noncomputable def impl_readBlock_D : List (Nat × Callee) := [(523,strings_Cut_c),(570,impl_ValidBlock_c),(827,impl_lineOf_c)]
def impl_readBlock_H : List (Nat × ET) := []
noncomputable def impl_readBlock_c : Callee := mkCallee impl_readBlock_D impl_readBlock_H impl_readBlock_ir [.d (.one .str)] [.d T_Block,.d (.one (.int .i64))] []
noncomputable def impl_readBlock (a0 : List UInt8) : Option (T_Block.ty × Int) := impl_readBlock_c.f (a0,())
noncomputable def impl_readBlock_p0  (v0 : List UInt8) (r2_0 : List UInt8) (r2_1 : List UInt8) (r2_2 : List UInt8) : Option (T_Block.ty × Int) :=
 goL impl_readBlock_D impl_readBlock_H (vleave impl_readBlock_ir [.d (.one .str)] [.d T_Block,.d (.one (.int .i64))] [] []) [.c impl_readBlock_k0]
  ⟨[(0,.str v0),(2,.loc 2 0 0)],[(2,some (.var 3 (.agg [.str r2_0,.str r2_1,.str r2_2])))]⟩
theorem impl_readBlock_eq (a0 : List UInt8) : impl_readBlock a0 =
 if decide ((a0.length : Int) < 6) then
  some (([],[],[],()),9)
 else
  (a0[5]?).bind fun x1 =>
   if ((x1.toNat : Int) != 32) then
    some (([],[],[],()),9)
   else
    impl_readBlock_p0 a0 [] [] [] :=
 (mk_f _ _ _ _ _ _ _ 4000).trans (by kernel_rfl)
theorem impl_readBlock_p0_eq  (v0 : List UInt8) (r2_0 : List UInt8) (r2_1 : List UInt8) (r2_2 : List UInt8) : impl_readBlock_p0 v0 r2_0 r2_1 r2_2 =
 if decide (6 ≤ (v0.length : Int)) then
  (impl_lineOf (v0.drop 6)).bind fun x1 =>
   if (!(x1 == v0)) then
    some (([],[],[],()),10)
   else
    (strings_Cut (v0.drop 6) [32]).bind fun x2 =>
     (strings_Cut x2.2.1 [32]).bind fun x3 =>
      if (!x2.2.2) then
       some (([],[],[],()),9)
      else
       if (!x3.2.2) then
        some (([],[],[],()),9)
       else
        (impl_ValidBlock (x2.1,x3.1,x3.2.1,())).bind fun x4 =>
         if (!x4) then
          some (([],[],[],()),9)
         else
          some ((x2.1,x3.1,x3.2.1,()),0)
 else
  none :=
 (goL_dn _ _ _ 4000 _ _).trans (by kernel_rfl)
def impl_LoadBlocks_k0 : C :=
 .seq (.seq (.reg false [.V 63 (.mv (.t 14)),.V 64 (.bin .neq (.t 63) (.c (.int .i64 0)))] [8,10,11,13,14,35,36,37,64] [7,10,13]) (.cond (.t 64) (.seq (.reg false [.V 65 (.mv (.t 11)),.V 66 (.bin .add (.t 65) (.c (.int .i64 2))),.V 67 (.mv (.t 14)),.W 2 (.asg (.c (.nils 3))),.V 3 (.asg (.t 66)),.V 4 (.asg (.t 67))] [2,3,4] [2,10]) .ret) .skip)) (.reg false [.V 68 (.mv (.t 10)),.V 69 (.ld (some 3) (.t 13)),.V 70 (.bsl 3 (.agg [.str [],.str [],.str []]) 1 [(0,.t 69)]),.W 71 (.app 3 48 (.t 68) (.t 70)),.W 10 (.asg (.t 71))] [8,10,35,36,37] [7,10])
def impl_LoadBlocks_k1 : C :=
 .reg false [.V 72 (.bin .add (.t 37) (.c (.int .i64 1))),.V 37 (.mv (.t 72))] [8,10,35,36,37] [7,10]
def impl_LoadBlocks_k2 : C :=
 .seq (.reg false [.V 38 (.bin .lss (.t 37) (.t 36))] [8,10,35,36,37,38] [7,10]) (.seq (.cond (.t 38) .skip (.exit 0)) (.seq (.block 1 (.seq (.reg false [.V 39 (.mv (.t 37)),.V 40 (.ia 1 (.t 35) (.t 37)),.V 41 (.ld none (.t 40)),.V 11 (.asg (.t 39)),.V 12 (.asg (.t 41))] [8,10,11,12,35,36,37] [7,10]) (.seq (.reg false [.V 43 (.mv (.t 12)),.V 44 (.call (.c (.fn 749 [])) [.t 43]),.V 42 (.mv (.t 44)),.V 45 (.ext (.t 42) 0),.V 46 (.ext (.t 42) 1),.W 13 (.alloc 3 (.agg [.str [],.str [],.str []])),⟨none,true,.sto 3 (.t 13) (.t 45),none,false,[]⟩,.V 14 (.asg (.t 46))] [8,10,11,13,14,35,36,37] [7,10,13]) (.seq (.seq (.reg true [.V 47 (.mv (.t 14)),.V 48 (.bin .eql (.t 47) (.c (.int .i64 0))),.V 49 (.mv (.t 48)),.G 50 (.mv (.t 11)) 2 true,.G 51 (.bin .gtr (.t 50) (.c (.int .i64 0))) 2 true,.V 52 (.pick (.t 49) (.t 51) (.c (.bool false))),.V 53 (.mv (.t 52)),.G 54 (.mv (.t 10)) 6 true,.G 55 (.mv (.t 11)) 6 true,.G 56 (.bin .sub (.t 55) (.c (.int .i64 1))) 6 true,.G 57 (.ia 3 (.t 54) (.t 56)) 6 true,.G 58 (.ld (some 3) (.t 57)) 6 true,.G 59 (.ld (some 3) (.t 13)) 6 true,.G 60 (.call (.c (.fn 828 [])) [.t 58,.t 59]) 6 true,.G 61 (.bin .geq (.t 60) (.c (.int .i64 0))) 6 true,.V 62 (.pick (.t 53) (.t 61) (.c (.bool false)))] [8,10,11,13,14,35,36,37,62] [7,10,13]) (.cond (.t 62) (.reg false [.V 14 (.asg (.c (.int .i64 7)))] [8,10,11,13,14,35,36,37] [7,10,13]) .skip)) (.norm [8,10,11,13,14,35,36,37] [7,10,13] impl_LoadBlocks_k0))))) impl_LoadBlocks_k1))
def impl_LoadBlocks_k3 : C :=
 .norm [8,10,35,36,37] [7,10] impl_LoadBlocks_k2
def impl_LoadBlocks_k4 : C :=
 .seq (.seq (.reg false [.V 73 (.mv (.t 10)),.V 74 (.len (.t 73)),.V 75 (.mv (.t 8)),.V 76 (.bin .neq (.t 74) (.t 75))] [10,76] [10]) (.cond (.t 76) (.seq (.reg false [.W 2 (.asg (.c (.nils 3))),.V 3 (.asg (.c (.int .i64 0))),.V 4 (.asg (.c (.int .i64 11)))] [2,3,4] [2,10]) .ret) .skip)) (.seq (.reg false [.V 77 (.mv (.t 10)),.W 2 (.asg (.t 77)),.V 3 (.asg (.c (.int .i64 0))),.V 4 (.asg (.c (.int .i64 0)))] [2,3,4] [2,10]) .ret)
def impl_LoadBlocks_ir : Fn := { np := 1,io := [],res := [.t 2,.t 3,.t 4],own := [true,false,false],body :=
 (.seq (.reg false [.W 2 (.asg (.c (.nils 3))),.V 3 (.asg (.c (.int .i64 0))),.V 4 (.asg (.c (.int .i64 0)))] [0] []) (.seq (.reg false [.V 16 (.mv (.t 0)),.V 17 (.call (.c (.fn 678 [])) [.t 16,.c (.str [10])]),.V 15 (.mv (.t 17)),.V 18 (.ext (.t 15) 0),.V 19 (.ext (.t 15) 1),.V 5 (.asg (.t 18)),.V 6 (.asg (.t 19))] [5,6] []) (.seq (.seq (.reg false [.V 20 (.mv (.t 6)),.V 21 (.un .not (.t 20))] [5,21] []) (.cond (.t 21) (.seq (.reg false [.W 2 (.asg (.c (.nils 3))),.V 3 (.asg (.c (.int .i64 0))),.V 4 (.asg (.c (.int .i64 11)))] [2,3,4] [2,10]) .ret) .skip)) (.seq (.reg false [.V 22 (.mv (.t 5)),.V 23 (.call (.c (.fn 683 [])) [.t 22,.c (.str [10])]),.W 7 (.asg (.t 23))] [7] [7]) (.seq (.reg false [.V 25 (.mv (.t 7)),.V 26 (.ia 1 (.t 25) (.c (.int .i64 0))),.V 27 (.ld none (.t 26)),.V 28 (.call (.c (.fn 829 [])) [.t 27]),.V 24 (.mv (.t 28)),.V 29 (.ext (.t 24) 0),.V 30 (.ext (.t 24) 1),.V 8 (.asg (.t 29)),.V 9 (.asg (.t 30))] [7,8,9] [7]) (.seq (.seq (.reg false [.V 31 (.mv (.t 9)),.V 32 (.un .not (.t 31))] [7,8,32] [7]) (.cond (.t 32) (.seq (.reg false [.W 2 (.asg (.c (.nils 3))),.V 3 (.asg (.c (.int .i64 1))),.V 4 (.asg (.c (.int .i64 9)))] [2,3,4] [2,10]) .ret) .skip)) (.seq (.reg false [.V 33 (.bsl 3 (.agg [.str [],.str [],.str []]) 0 []),.W 10 (.asg (.t 33))] [7,8,10] [7,10]) (.seq (.seq (.reg false [.V 34 (.mv (.t 7)),.V 35 (.slc 1 (.t 34) (some (.c (.int .i64 1))) none),.V 36 (.len (.t 35)),.V 37 (.mv (.c (.int .i64 0)))] [8,10,35,36,37] [7,10]) (.block 0 (.loop impl_LoadBlocks_k3))) impl_LoadBlocks_k4)))))))) }
noncomputable def impl_LoadBlocks_D : List (Nat × Callee) := [(678,strings_CutSuffix_c),(683,strings_Split_c),(749,impl_readBlock_c),(828,impl_Block_compare_c),(829,impl_countOf_c)]
def impl_LoadBlocks_H : List (Nat × ET) := [(2,T_Block),(7,(.one .str)),(10,T_Block),(23,(.one .str)),(25,(.one .str)),(33,T_Block),(34,(.one .str)),(35,(.one .str)),(54,T_Block),(68,T_Block),(70,T_Block),(71,T_Block),(73,T_Block),(77,T_Block)]
noncomputable def impl_LoadBlocks_c : Callee := mkCallee impl_LoadBlocks_D impl_LoadBlocks_H impl_LoadBlocks_ir [.d (.one .str)] [.tok T_Block,.d (.one (.int .i64)),.d (.one (.int .i64))] []
noncomputable def impl_LoadBlocks (a0 : List UInt8) : Option (List T_Block.ty × Int × Int) := impl_LoadBlocks_c.f (a0,())
noncomputable def impl_LoadBlocks_p0  (v8 : Int) (v35n : Nat) (v36 : Int) (v37 : Int) (r7 : List (List UInt8)) (r10 : List T_Block.ty) : Option (List T_Block.ty × Int × Int) :=
 goL impl_LoadBlocks_D impl_LoadBlocks_H (vleave impl_LoadBlocks_ir [.d (.one .str)] [.tok T_Block,.d (.one (.int .i64)),.d (.one (.int .i64))] [] []) [.c impl_LoadBlocks_k2,.l impl_LoadBlocks_k3,.e 0,.c impl_LoadBlocks_k4]
  ⟨[(8,.int .i64 v8),(10,.view 10 0 r10.length),(35,.view 7 1 v35n),(36,.int .i64 v36),(37,.int .i64 v37)],[(7,some (.sl (.one .str) r7)),(10,some (.sl T_Block r10))]⟩
noncomputable def impl_LoadBlocks_p1  (v8 : Int) (v11 : Int) (v14 : Int) (v35n : Nat) (v36 : Int) (v37 : Int) (r7 : List (List UInt8)) (r10 : List T_Block.ty) (r13_0 : List UInt8) (r13_1 : List UInt8) (r13_2 : List UInt8) : Option (List T_Block.ty × Int × Int) :=
 goL impl_LoadBlocks_D impl_LoadBlocks_H (vleave impl_LoadBlocks_ir [.d (.one .str)] [.tok T_Block,.d (.one (.int .i64)),.d (.one (.int .i64))] [] []) [.c impl_LoadBlocks_k0,.e 1,.c impl_LoadBlocks_k1,.l impl_LoadBlocks_k3,.e 0,.c impl_LoadBlocks_k4]
  ⟨[(8,.int .i64 v8),(10,.view 10 0 r10.length),(11,.int .i64 v11),(13,.loc 13 0 0),(14,.int .i64 v14),(35,.view 7 1 v35n),(36,.int .i64 v36),(37,.int .i64 v37)],[(7,some (.sl (.one .str) r7)),(10,some (.sl T_Block r10)),(13,some (.var 3 (.agg [.str r13_0,.str r13_1,.str r13_2])))]⟩
theorem impl_LoadBlocks_eq (a0 : List UInt8) : impl_LoadBlocks a0 =
 (strings_CutSuffix a0 [10]).bind fun x1 =>
  if (!x1.2) then
   some ([],0,11)
  else
   (strings_Split x1.1 [10]).bind fun x2 =>
    if decide (0 < (x2.length : Int)) then
     (x2[0]?).bind fun x3 =>
      (impl_countOf x3).bind fun x4 =>
       if (!x4.2) then
        some ([],1,9)
       else
        if decide (1 ≤ (x2.length : Int)) then
         impl_LoadBlocks_p0 x4.1 (x2.length - 1) (((x2.length - 1) : Nat) : Int) 0 x2 []
        else
         none
    else
     none :=
 (mk_f _ _ _ _ _ _ _ 4000).trans (by kernel_rfl)
theorem impl_LoadBlocks_p0_eq  (v8 : Int) (v35n : Nat) (v36 : Int) (v37 : Int) (r7 : List (List UInt8)) (r10 : List T_Block.ty) : impl_LoadBlocks_p0 v8 v35n v36 v37 r7 r10 =
 if decide (v37 < v36) then
  if decide (0 ≤ v37) && decide (v37 < (v35n : Int)) then
   (r7[(1 + v37.toNat)]?).bind fun x1 =>
    (impl_readBlock x1).bind fun x2 =>
     if (x2.2 == 0) then
      if decide (v37 > 0) then
       if decide (0 ≤ IntKind.i64.wrap (v37 - 1)) && decide (IntKind.i64.wrap (v37 - 1) < (r10.length : Int)) then
        (r10[(IntKind.i64.wrap (v37 - 1)).toNat]?).bind fun x3 =>
         (impl_Block_compare x3 (x2.1.1,x2.1.2.1,x2.1.2.2.1,())).bind fun x4 =>
          if decide (x4 ≥ 0) then
           impl_LoadBlocks_p1 v8 v37 7 v35n v36 v37 r7 r10 x2.1.1 x2.1.2.1 x2.1.2.2.1
          else
           impl_LoadBlocks_p1 v8 v37 x2.2 v35n v36 v37 r7 r10 x2.1.1 x2.1.2.1 x2.1.2.2.1
       else
        none
      else
       impl_LoadBlocks_p1 v8 v37 x2.2 v35n v36 v37 r7 r10 x2.1.1 x2.1.2.1 x2.1.2.2.1
     else
      impl_LoadBlocks_p1 v8 v37 x2.2 v35n v36 v37 r7 r10 x2.1.1 x2.1.2.1 x2.1.2.2.1
  else
   none
 else
  if ((r10.length : Int) != v8) then
   some ([],0,11)
  else
   some ((r10.take r10.length),0,0) :=
 (goL_dn _ _ _ 4000 _ _).trans (by kernel_rfl)
theorem impl_LoadBlocks_p1_eq  (v8 : Int) (v11 : Int) (v14 : Int) (v35n : Nat) (v36 : Int) (v37 : Int) (r7 : List (List UInt8)) (r10 : List T_Block.ty) (r13_0 : List UInt8) (r13_1 : List UInt8) (r13_2 : List UInt8) : impl_LoadBlocks_p1 v8 v11 v14 v35n v36 v37 r7 r10 r13_0 r13_1 r13_2 =
 if (v14 != 0) then
  some ([],IntKind.i64.wrap (v11 + 2),v14)
 else
  if decide (r10.length + 1 < lim) then
   impl_LoadBlocks_p0 v8 v35n v36 (IntKind.i64.wrap (v37 + 1)) r7 ((r10.take r10.length) ++ [(r13_0,r13_1,r13_2,())])
  else
   none :=
 (goL_dn _ _ _ 4000 _ _).trans (by kernel_rfl)
def impl_DamagedLines_k0 : C :=
 .seq (.reg false [.V 19 (.bin .lss (.t 18) (.t 17))] [3,5,16,17,18,19] [3,4]) (.seq (.cond (.t 19) .skip (.exit 0)) (.seq (.block 1 (.seq (.reg false [.V 20 (.mv (.t 18)),.V 21 (.ia 1 (.t 16) (.t 18)),.V 22 (.ld none (.t 21)),.V 6 (.asg (.t 20)),.V 7 (.asg (.t 22))] [3,5,6,7,16,17,18] [3,4]) (.seq (.reg false [.V 24 (.mv (.t 7)),.V 25 (.call (.c (.fn 749 [])) [.t 24]),.V 23 (.mv (.t 25)),.V 26 (.ext (.t 23) 0),.V 27 (.ext (.t 23) 1),.W 8 (.alloc 3 (.agg [.str [],.str [],.str []])),⟨none,true,.sto 3 (.t 8) (.t 26),none,false,[]⟩,.V 9 (.asg (.t 27))] [3,5,6,7,9,16,17,18] [3,4]) (.seq (.reg false [.V 28 (.mv (.t 6)),.V 29 (.mv (.t 5)),.V 30 (.bin .eql (.t 28) (.t 29)),.V 31 (.mv (.t 30)),.G 32 (.mv (.t 7)) 3 true,.G 33 (.bin .neq (.t 32) (.c (.str []))) 3 true,.V 34 (.pick (.t 31) (.t 33) (.c (.bool false))),.V 35 (.mv (.t 34)),.G 36 (.mv (.t 6)) 7 false,.G 37 (.bin .gtr (.t 36) (.c (.int .i64 0))) 7 false,.G 38 (.mv (.t 37)) 7 false,.G 39 (.mv (.t 6)) 10 true,.G 40 (.mv (.t 5)) 10 true,.G 41 (.bin .lss (.t 39) (.t 40)) 10 true,.G 42 (.pick (.t 38) (.t 41) (.c (.bool false))) 7 false,.G 43 (.mv (.t 42)) 7 false,.G 44 (.mv (.t 9)) 15 true,.G 45 (.bin .neq (.t 44) (.c (.int .i64 0))) 15 true,.G 46 (.pick (.t 43) (.t 45) (.c (.bool false))) 7 false,.V 47 (.pick (.t 35) (.c (.bool true)) (.t 46))] [3,5,6,16,17,18,47] [3,4]) (.cond (.t 47) (.reg false [.V 48 (.mv (.t 3)),.V 49 (.mv (.t 6)),.V 50 (.bin .add (.t 49) (.c (.int .i64 1))),.V 51 (.bsl 1 (.int .i64 0) 1 [(0,.t 50)]),.W 52 (.app 1 8 (.t 48) (.t 51)),.W 3 (.asg (.t 52))] [3,5,16,17,18] [3,4]) .skip))))) (.reg false [.V 53 (.bin .add (.t 18) (.c (.int .i64 1))),.V 18 (.mv (.t 53))] [3,5,16,17,18] [3,4])))
def impl_DamagedLines_k1 : C :=
 .norm [3,5,16,17,18] [3,4] impl_DamagedLines_k0
def impl_DamagedLines_k2 : C :=
 .seq (.reg false [.V 54 (.mv (.t 3)),.W 2 (.asg (.t 54))] [2] [2,3]) .ret
def impl_DamagedLines_ir : Fn := { np := 1,io := [],res := [.t 2],own := [true],body :=
 (.seq (.reg false [.W 2 (.asg (.c (.nils 1)))] [0] []) (.seq (.reg false [.V 10 (.bsl 1 (.int .i64 0) 0 []),.W 3 (.asg (.t 10))] [0,3] [3]) (.seq (.reg false [.V 11 (.mv (.t 0)),.V 12 (.call (.c (.fn 683 [])) [.t 11,.c (.str [10])]),.W 4 (.asg (.t 12))] [3,4] [3,4]) (.seq (.reg false [.V 13 (.mv (.t 4)),.V 14 (.len (.t 13)),.V 15 (.bin .sub (.t 14) (.c (.int .i64 1))),.V 5 (.asg (.t 15))] [3,4,5] [3,4]) (.seq (.seq (.reg false [.V 16 (.mv (.t 4)),.V 17 (.len (.t 16)),.V 18 (.mv (.c (.int .i64 0)))] [3,5,16,17,18] [3,4]) (.block 0 (.loop impl_DamagedLines_k1))) impl_DamagedLines_k2))))) }
noncomputable def impl_DamagedLines_D : List (Nat × Callee) := [(683,strings_Split_c),(749,impl_readBlock_c)]
def impl_DamagedLines_H : List (Nat × ET) := [(2,(.one (.int .i64))),(3,(.one (.int .i64))),(4,(.one .str)),(10,(.one (.int .i64))),(12,(.one .str)),(13,(.one .str)),(16,(.one .str)),(48,(.one (.int .i64))),(51,(.one (.int .i64))),(52,(.one (.int .i64))),(54,(.one (.int .i64)))]
noncomputable def impl_DamagedLines_c : Callee := mkCallee impl_DamagedLines_D impl_DamagedLines_H impl_DamagedLines_ir [.d (.one .str)] [.tok (.one (.int .i64))] []
noncomputable def impl_DamagedLines (a0 : List UInt8) : Option (List Int) := impl_DamagedLines_c.f (a0,())
noncomputable def impl_DamagedLines_p0  (v5 : Int) (v17 : Int) (v18 : Int) (r3 : List Int) (r4 : List (List UInt8)) : Option (List Int) :=
 goL impl_DamagedLines_D impl_DamagedLines_H (vleave impl_DamagedLines_ir [.d (.one .str)] [.tok (.one (.int .i64))] [] []) [.c impl_DamagedLines_k0,.l impl_DamagedLines_k1,.e 0,.c impl_DamagedLines_k2]
  ⟨[(3,.view 3 0 r3.length),(5,.int .i64 v5),(16,.view 4 0 r4.length),(17,.int .i64 v17),(18,.int .i64 v18)],[(3,some (.sl (.one (.int .i64)) r3)),(4,some (.sl (.one .str) r4))]⟩
theorem impl_DamagedLines_eq (a0 : List UInt8) : impl_DamagedLines a0 =
 (strings_Split a0 [10]).bind fun x1 =>
  impl_DamagedLines_p0 (IntKind.i64.wrap ((x1.length : Int) - 1)) (x1.length : Int) 0 [] x1 :=
 (mk_f _ _ _ _ _ _ _ 4000).trans (by kernel_rfl)
theorem impl_DamagedLines_p0_eq  (v5 : Int) (v17 : Int) (v18 : Int) (r3 : List Int) (r4 : List (List UInt8)) : impl_DamagedLines_p0 v5 v17 v18 r3 r4 =
 if decide (v18 < v17) then
  if decide (0 ≤ v18) && decide (v18 < (r4.length : Int)) then
   (r4[v18.toNat]?).bind fun x1 =>
    (impl_readBlock x1).bind fun x2 =>
     if (v18 == v5) then
      if (!(x1 == [])) then
       if decide (r3.length + 1 < lim) then
        impl_DamagedLines_p0 v5 v17 (IntKind.i64.wrap (v18 + 1)) ((r3.take r3.length) ++ [IntKind.i64.wrap (v18 + 1)]) r4
       else
        none
      else
       if decide (v18 > 0) then
        if decide (v18 < v5) then
         if (x2.2 != 0) then
          if decide (r3.length + 1 < lim) then
           impl_DamagedLines_p0 v5 v17 (IntKind.i64.wrap (v18 + 1)) ((r3.take r3.length) ++ [IntKind.i64.wrap (v18 + 1)]) r4
          else
           none
         else
          impl_DamagedLines_p0 v5 v17 (IntKind.i64.wrap (v18 + 1)) r3 r4
        else
         impl_DamagedLines_p0 v5 v17 (IntKind.i64.wrap (v18 + 1)) r3 r4
       else
        impl_DamagedLines_p0 v5 v17 (IntKind.i64.wrap (v18 + 1)) r3 r4
     else
      if decide (v18 > 0) then
       if decide (v18 < v5) then
        if (x2.2 != 0) then
         if decide (r3.length + 1 < lim) then
          impl_DamagedLines_p0 v5 v17 (IntKind.i64.wrap (v18 + 1)) ((r3.take r3.length) ++ [IntKind.i64.wrap (v18 + 1)]) r4
         else
          none
        else
         impl_DamagedLines_p0 v5 v17 (IntKind.i64.wrap (v18 + 1)) r3 r4
       else
        impl_DamagedLines_p0 v5 v17 (IntKind.i64.wrap (v18 + 1)) r3 r4
      else
       impl_DamagedLines_p0 v5 v17 (IntKind.i64.wrap (v18 + 1)) r3 r4
  else
   none
 else
  some (r3.take r3.length) :=
 (goL_dn _ _ _ 4000 _ _).trans (by kernel_rfl)
def impl_clone_impl_Block__ir : Fn := { np := 1,io := [],res := [.t 2],own := [true],body :=
 (.seq (.reg false [.W 2 (.asg (.c (.nils 3)))] [0] []) (.seq (.reg false [.V 3 (.mv (.t 0)),.V 4 (.len (.t 3)),.V 5 (.mks 3 48 (.agg [.str [],.str [],.str []]) (.c (.int .i64 0)) (.t 4)),.V 6 (.mv (.t 0)),.W 7 (.app 3 48 (.t 5) (.t 6)),.W 2 (.asg (.t 7))] [2] [2]) .ret)) }
noncomputable def impl_clone_impl_Block__D : List (Nat × Callee) := []
def impl_clone_impl_Block__H : List (Nat × ET) := [(2,T_Block),(3,T_Block),(5,T_Block),(6,T_Block),(7,T_Block)]
noncomputable def impl_clone_impl_Block__c : Callee := mkCallee impl_clone_impl_Block__D impl_clone_impl_Block__H impl_clone_impl_Block__ir [.d (.one (.sl T_Block))] [.tok T_Block] []
noncomputable def impl_clone_impl_Block_ (a0 : List T_Block.ty) : Option (List T_Block.ty) := impl_clone_impl_Block__c.f (a0,())
theorem impl_clone_impl_Block__eq (a0 : List T_Block.ty) : impl_clone_impl_Block_ a0 =
 if decide (0 ≤ (a0.length : Int)) && decide ((a0.length : Int).toNat < lim) then
  if decide (0 + a0.length < lim) then
   some (([] ++ a0).take (([] ++ a0).length))
  else
   none
 else
  none :=
 (mk_f _ _ _ _ _ _ _ 4000).trans (by kernel_rfl)
def slices_BinarySearchFunc___impl_Block_impl_Block_impl_Block__impl_Block_compare_k0 : C :=
 .seq (.seq (.reg false [.V 15 (.mv (.t 9)),.V 16 (.mv (.t 10)),.V 17 (.bin .lss (.t 15) (.t 16))] [0,2,4,8,9,10,17] [4]) (.cond (.t 17) .skip (.exit 0))) (.block 1 (.seq (.reg false [.V 18 (.mv (.t 9)),.V 19 (.mv (.t 10)),.V 20 (.bin .add (.t 18) (.t 19)),.V 21 (.conv (.int .u64) (.t 20)),.V 22 (.bin .shr (.t 21) (.c (.int .u64 1))),.V 23 (.conv (.int .i64) (.t 22)),.V 11 (.asg (.t 23))] [0,2,4,8,9,10,11] [4]) (.seq (.reg true [.V 24 (.mv (.t 2)),.V 25 (.mv (.t 0)),.V 26 (.mv (.t 11)),.V 27 (.ia 3 (.t 25) (.t 26)),.V 28 (.ld (some 3) (.t 27)),.V 29 (.ld (some 3) (.t 4)),.V 30 (.call (.t 24) [.t 28,.t 29]),.V 31 (.bin .lss (.t 30) (.c (.int .i64 0)))] [0,2,4,8,9,10,11,31] [4]) (.cond (.t 31) (.reg false [.V 32 (.mv (.t 11)),.V 33 (.bin .add (.t 32) (.c (.int .i64 1))),.V 9 (.asg (.t 33))] [0,2,4,8,9,10] [4]) (.reg false [.V 34 (.mv (.t 11)),.V 10 (.asg (.t 34))] [0,2,4,8,9,10] [4])))))
def slices_BinarySearchFunc___impl_Block_impl_Block_impl_Block__impl_Block_compare_k1 : C :=
 .norm [0,2,4,8,9,10] [4] slices_BinarySearchFunc___impl_Block_impl_Block_impl_Block__impl_Block_compare_k0
def slices_BinarySearchFunc___impl_Block_impl_Block_impl_Block__impl_Block_compare_k2 : C :=
 .seq (.reg true [.V 35 (.mv (.t 9)),.V 36 (.mv (.t 9)),.V 37 (.mv (.t 8)),.V 38 (.bin .lss (.t 36) (.t 37)),.V 39 (.mv (.t 38)),.G 40 (.mv (.t 2)) 4 true,.G 41 (.mv (.t 0)) 4 true,.G 42 (.mv (.t 9)) 4 true,.G 43 (.ia 3 (.t 41) (.t 42)) 4 true,.G 44 (.ld (some 3) (.t 43)) 4 true,.G 45 (.ld (some 3) (.t 4)) 4 true,.G 46 (.call (.t 40) [.t 44,.t 45]) 4 true,.G 47 (.bin .eql (.t 46) (.c (.int .i64 0))) 4 true,.V 48 (.pick (.t 39) (.t 47) (.c (.bool false))),.V 6 (.asg (.t 35)),.V 7 (.asg (.t 48))] [6,7] []) .ret
def slices_BinarySearchFunc___impl_Block_impl_Block_impl_Block__impl_Block_compare_ir : Fn := { np := 3,io := [],res := [.t 6,.t 7],own := [false,false],body :=
 (.seq (.reg false [.W 4 (.box 3 (.t 1)),.V 6 (.asg (.c (.int .i64 0))),.V 7 (.asg (.c (.bool false)))] [0,2,4] [4]) (.seq (.reg false [.V 12 (.mv (.t 0)),.V 13 (.len (.t 12)),.V 8 (.asg (.t 13))] [0,2,4,8] [4]) (.seq (.reg false [.V 14 (.mv (.t 8)),.V 9 (.asg (.c (.int .i64 0))),.V 10 (.asg (.t 14))] [0,2,4,8,9,10] [4]) (.seq (.block 0 (.loop slices_BinarySearchFunc___impl_Block_impl_Block_impl_Block__impl_Block_compare_k1)) slices_BinarySearchFunc___impl_Block_impl_Block_impl_Block__impl_Block_compare_k2)))) }
noncomputable def slices_BinarySearchFunc___impl_Block_impl_Block_impl_Block__impl_Block_compare_D : List (Nat × Callee) := [(828,impl_Block_compare_c)]
def slices_BinarySearchFunc___impl_Block_impl_Block_impl_Block__impl_Block_compare_H : List (Nat × ET) := [(12,T_Block),(25,T_Block),(41,T_Block)]
noncomputable def slices_BinarySearchFunc___impl_Block_impl_Block_impl_Block__impl_Block_compare_c : Callee := mkCallee slices_BinarySearchFunc___impl_Block_impl_Block_impl_Block__impl_Block_compare_D slices_BinarySearchFunc___impl_Block_impl_Block_impl_Block__impl_Block_compare_H slices_BinarySearchFunc___impl_Block_impl_Block_impl_Block__impl_Block_compare_ir [.d (.one (.sl T_Block)),.d T_Block,.fn 828 []] [.d (.one (.int .i64)),.d (.one .bool)] []
noncomputable def slices_BinarySearchFunc___impl_Block_impl_Block_impl_Block__impl_Block_compare (a0 : List T_Block.ty) (a1 : T_Block.ty) (a2 : Unit) : Option (Int × Bool) := slices_BinarySearchFunc___impl_Block_impl_Block_impl_Block__impl_Block_compare_c.f (a0,a1,a2,())
noncomputable def slices_BinarySearchFunc___impl_Block_impl_Block_impl_Block__impl_Block_compare_p0  (v0 : List T_Block.ty) (v8 : Int) (v9 : Int) (v10 : Int) (r4_0 : List UInt8) (r4_1 : List UInt8) (r4_2 : List UInt8) : Option (Int × Bool) :=
 goL slices_BinarySearchFunc___impl_Block_impl_Block_impl_Block__impl_Block_compare_D slices_BinarySearchFunc___impl_Block_impl_Block_impl_Block__impl_Block_compare_H (vleave slices_BinarySearchFunc___impl_Block_impl_Block_impl_Block__impl_Block_compare_ir [.d (.one (.sl T_Block)),.d T_Block,.fn 828 []] [.d (.one (.int .i64)),.d (.one .bool)] [] []) [.c slices_BinarySearchFunc___impl_Block_impl_Block_impl_Block__impl_Block_compare_k0,.l slices_BinarySearchFunc___impl_Block_impl_Block_impl_Block__impl_Block_compare_k1,.e 0,.c slices_BinarySearchFunc___impl_Block_impl_Block_impl_Block__impl_Block_compare_k2]
  ⟨[(0,.sl T_Block v0),(2,.fn 828 []),(4,.loc 4 0 0),(8,.int .i64 v8),(9,.int .i64 v9),(10,.int .i64 v10)],[(4,some (.var 3 (.agg [.str r4_0,.str r4_1,.str r4_2])))]⟩
theorem slices_BinarySearchFunc___impl_Block_impl_Block_impl_Block__impl_Block_compare_eq (a0 : List T_Block.ty) (a1 : T_Block.ty) (a2 : Unit) : slices_BinarySearchFunc___impl_Block_impl_Block_impl_Block__impl_Block_compare a0 a1 a2 =
 slices_BinarySearchFunc___impl_Block_impl_Block_impl_Block__impl_Block_compare_p0 a0 (a0.length : Int) 0 (a0.length : Int) a1.1 a1.2.1 a1.2.2.1 :=
 (mk_f _ _ _ _ _ _ _ 4000).trans (by kernel_rfl)
theorem slices_BinarySearchFunc___impl_Block_impl_Block_impl_Block__impl_Block_compare_p0_eq  (v0 : List T_Block.ty) (v8 : Int) (v9 : Int) (v10 : Int) (r4_0 : List UInt8) (r4_1 : List UInt8) (r4_2 : List UInt8) : slices_BinarySearchFunc___impl_Block_impl_Block_impl_Block__impl_Block_compare_p0 v0 v8 v9 v10 r4_0 r4_1 r4_2 =
 if decide (v9 < v10) then
  if decide (0 ≤ IntKind.i64.wrap (Int.fdiv (IntKind.u64.wrap (IntKind.i64.wrap (v9 + v10))) (2 ^ (min (1 : Int).toNat IntKind.u64.bits)))) then
   (v0[(IntKind.i64.wrap (Int.fdiv (IntKind.u64.wrap (IntKind.i64.wrap (v9 + v10))) (2 ^ (min (1 : Int).toNat IntKind.u64.bits)))).toNat]?).bind fun x1 =>
    (impl_Block_compare x1 (r4_0,r4_1,r4_2,())).bind fun x2 =>
     if decide (x2 < 0) then
      slices_BinarySearchFunc___impl_Block_impl_Block_impl_Block__impl_Block_compare_p0 v0 v8 (IntKind.i64.wrap ((IntKind.i64.wrap (Int.fdiv (IntKind.u64.wrap (IntKind.i64.wrap (v9 + v10))) (2 ^ (min (1 : Int).toNat IntKind.u64.bits)))) + 1)) v10 r4_0 r4_1 r4_2
     else
      slices_BinarySearchFunc___impl_Block_impl_Block_impl_Block__impl_Block_compare_p0 v0 v8 v9 (IntKind.i64.wrap (Int.fdiv (IntKind.u64.wrap (IntKind.i64.wrap (v9 + v10))) (2 ^ (min (1 : Int).toNat IntKind.u64.bits)))) r4_0 r4_1 r4_2
  else
   none
 else
  if decide (v9 < v8) then
   if decide (0 ≤ v9) then
    (v0[v9.toNat]?).bind fun x3 =>
     (impl_Block_compare x3 (r4_0,r4_1,r4_2,())).bind fun x4 =>
      some (v9,(x4 == 0))
   else
    none
  else
   some (v9,false) :=
 (goL_dn _ _ _ 4000 _ _).trans (by kernel_rfl)
def impl_blockOf_ir : Fn := { np := 3,io := [],res := [.t 6,.t 7],own := [false,false],body :=
 (.seq (.reg false [.V 6 (.asg (.c (.int .i64 0))),.V 7 (.asg (.c (.bool false)))] [0,1,2] []) (.seq (.reg false [.V 8 (.mv (.t 0)),.V 9 (.mv (.t 1)),.V 10 (.mv (.t 2)),.V 11 (.build [.str [],.str [],.str []] [(0,1,.t 9),(1,1,.t 10)]),.V 12 (.call (.c (.fn 1273 [])) [.t 8,.t 11,.c (.fn 828 [])]),.V 13 (.ext (.t 12) 0),.V 14 (.ext (.t 12) 1),.V 6 (.asg (.t 13)),.V 7 (.asg (.t 14))] [6,7] []) .ret)) }
noncomputable def impl_blockOf_D : List (Nat × Callee) := [(828,impl_Block_compare_c),(1273,slices_BinarySearchFunc___impl_Block_impl_Block_impl_Block__impl_Block_compare_c)]
def impl_blockOf_H : List (Nat × ET) := [(8,T_Block)]
noncomputable def impl_blockOf_c : Callee := mkCallee impl_blockOf_D impl_blockOf_H impl_blockOf_ir [.d (.one (.sl T_Block)),.d (.one .str),.d (.one .str)] [.d (.one (.int .i64)),.d (.one .bool)] []
noncomputable def impl_blockOf (a0 : List T_Block.ty) (a1 : List UInt8) (a2 : List UInt8) : Option (Int × Bool) := impl_blockOf_c.f (a0,a1,a2,())
theorem impl_blockOf_eq (a0 : List T_Block.ty) (a1 : List UInt8) (a2 : List UInt8) : impl_blockOf a0 a1 a2 =
 (slices_BinarySearchFunc___impl_Block_impl_Block_impl_Block__impl_Block_compare a0 (a1,a2,[],()) ()).bind fun x1 =>
  some (x1.1,x1.2) :=
 (mk_f _ _ _ _ _ _ _ 4000).trans (by kernel_rfl)
noncomputable def slices_Insert___impl_Block_impl_Block__c : Callee := insertC T_Block
noncomputable def slices_Insert___impl_Block_impl_Block_ (a0 : List T_Block.ty) (a1 : Int) (a2 : List T_Block.ty) : Option (List T_Block.ty × Unit) := slices_Insert___impl_Block_impl_Block__c.f (a0,a1,a2,())
theorem slices_Insert___impl_Block_impl_Block__eq (a0 : List T_Block.ty) (a1 : Int) (a2 : List T_Block.ty) : slices_Insert___impl_Block_impl_Block_ a0 a1 a2 = if decide (a2.length = 1) && (decide (0 ≤ a1) && (decide (a1 ≤ (a0.length : Int)) && decide (a0.length + 1 < 1099511627776))) then some (a0.take a1.toNat ++ a2 ++ a0.drop a1.toNat,()) else none := rfl
def impl_put_ir : Fn := { np := 2,io := [],res := [.t 4,.t 5],own := [false,false],body :=
 (.seq (.reg false [.W 3 (.box 3 (.t 1)),.W 4 (.asg (.c (.nils 3))),.V 5 (.asg (.c (.int .i64 0)))] [0,3] [3]) (.seq (.reg false [.V 9 (.mv (.t 0)),.V 10 (.call (.c (.fn 572 [])) [.t 9]),.W 6 (.asg (.t 10))] [3,6] [3,6]) (.seq (.reg false [.V 12 (.mv (.t 6)),.V 13 (.fa 0 (.t 3)),.V 14 (.ld none (.t 13)),.V 15 (.fa 1 (.t 3)),.V 16 (.ld none (.t 15)),.V 17 (.call (.c (.fn 571 [])) [.t 12,.t 14,.t 16]),.V 11 (.mv (.t 17)),.V 18 (.ext (.t 11) 0),.V 19 (.ext (.t 11) 1),.V 7 (.asg (.t 18)),.V 8 (.asg (.t 19))] [3,6,7,8] [3,6]) (.seq (.block 0 (.seq (.reg false [.V 26 (.mv (.t 8)),.V 25 (.asg (.t 26))] [3,6,7,25] [3,6]) (.cond (.t 25) (.reg false [.V 27 (.mv (.t 6)),.V 28 (.mv (.t 7)),.V 29 (.ld (some 3) (.t 3)),.V 30 (.ia 3 (.t 27) (.t 28)),⟨none,true,.sto 3 (.t 30) (.t 29),none,false,[]⟩] [6] [6]) (.seq (.reg false [.V 32 (.mv (.t 6)),.V 33 (.len (.t 32)),.V 34 (.bin .eql (.t 33) (.c (.int .i64 32))),.V 31 (.asg (.t 34))] [3,6,7,31] [3,6]) (.cond (.t 31) (.seq (.reg false [.W 4 (.asg (.c (.nils 3))),.V 5 (.asg (.c (.int .i64 5)))] [4,5] [4,6]) .ret) (.reg false [.V 20 (.mv (.t 6)),.V 21 (.mv (.t 7)),.V 22 (.ld (some 3) (.t 3)),.V 23 (.bsl 3 (.agg [.str [],.str [],.str []]) 1 [(0,.t 22)]),.W 24 (.call (.c (.fn 877 [])) [.t 20,.t 21,.t 23]),.W 6 (.asg (.t 24))] [6] [6])))))) (.seq (.reg false [.V 35 (.mv (.t 6)),.W 4 (.asg (.t 35)),.V 5 (.asg (.c (.int .i64 0)))] [4,5] [4,6]) .ret))))) }
noncomputable def impl_put_D : List (Nat × Callee) := [(571,impl_blockOf_c),(572,impl_clone_impl_Block__c),(877,slices_Insert___impl_Block_impl_Block__c)]
def impl_put_H : List (Nat × ET) := [(4,T_Block),(6,T_Block),(9,T_Block),(10,T_Block),(12,T_Block),(20,T_Block),(23,T_Block),(24,T_Block),(27,T_Block),(32,T_Block),(35,T_Block)]
noncomputable def impl_put_c : Callee := mkCallee impl_put_D impl_put_H impl_put_ir [.d (.one (.sl T_Block)),.d T_Block] [.d (.one (.sl T_Block)),.d (.one (.int .i64))] []
noncomputable def impl_put (a0 : List T_Block.ty) (a1 : T_Block.ty) : Option (List T_Block.ty × Int) := impl_put_c.f (a0,a1,())
theorem impl_put_eq (a0 : List T_Block.ty) (a1 : T_Block.ty) : impl_put a0 a1 =
 (impl_clone_impl_Block_ a0).bind fun x1 =>
  (impl_blockOf (x1.take x1.length) a1.1 a1.2.1).bind fun x2 =>
   if x2.2 then
    if decide (0 ≤ x2.1) && decide (x2.1 < (x1.length : Int)) then
     (x1[x2.1.toNat]?).bind fun x3 =>
      some (((x1.set x2.1.toNat a1).take x1.length),0)
    else
     none
   else
    if ((x1.length : Int) == 32) then
     some ([],5)
    else
     if decide (x1.length = x1.length) then
      (slices_Insert___impl_Block_impl_Block_ x1 x2.1 [a1]).bind fun x4 =>
       some ((x4.1.take x4.1.length),0)
     else
      none :=
 (mk_f _ _ _ _ _ _ _ 4000).trans (by kernel_rfl)
def impl_SalvageBlocks_k0 : C :=
 .seq (.seq (.reg false [.V 13 (.mv (.t 5)),.V 14 (.mv (.t 4)),.V 15 (.len (.t 14)),.V 16 (.bin .sub (.t 15) (.c (.int .i64 1))),.V 17 (.bin .lss (.t 13) (.t 16))] [3,4,5,17] [3,4,8]) (.cond (.t 17) .skip (.exit 0))) (.seq (.block 1 (.seq (.reg false [.V 21 (.mv (.t 4)),.V 22 (.mv (.t 5)),.V 23 (.ia 1 (.t 21) (.t 22)),.V 24 (.ld none (.t 23)),.V 25 (.call (.c (.fn 749 [])) [.t 24]),.V 20 (.mv (.t 25)),.V 26 (.ext (.t 20) 0),.V 27 (.ext (.t 20) 1),.W 6 (.alloc 3 (.agg [.str [],.str [],.str []])),⟨none,true,.sto 3 (.t 6) (.t 26),none,false,[]⟩,.V 7 (.asg (.t 27))] [3,4,5,6,7] [3,4,6,8]) (.seq (.seq (.reg false [.V 28 (.mv (.t 7)),.V 29 (.bin .neq (.t 28) (.c (.int .i64 0)))] [3,4,5,6,29] [3,4,6,8]) (.cond (.t 29) (.exit 1) .skip)) (.seq (.reg false [.V 31 (.mv (.t 3)),.V 32 (.ld (some 3) (.t 6)),.W 33 (.call (.c (.fn 568 [])) [.t 31,.t 32]),.V 30 (.mv (.t 33)),.V 34 (.ext (.t 30) 0),.V 35 (.ext (.t 30) 1),.W 8 (.asg (.t 34)),.V 9 (.asg (.t 35))] [3,4,5,8,9] [3,4,8]) (.seq (.reg false [.V 36 (.mv (.t 9)),.V 37 (.bin .eql (.t 36) (.c (.int .i64 0)))] [3,4,5,8,37] [3,4,8]) (.cond (.t 37) (.reg false [.V 38 (.mv (.t 8)),.W 3 (.asg (.t 38))] [3,4,5] [3,4,8]) .skip)))))) (.reg false [.V 18 (.mv (.t 5)),.V 19 (.bin .add (.t 18) (.c (.int .i64 1))),.V 5 (.asg (.t 19))] [3,4,5] [3,4,8]))
def impl_SalvageBlocks_k1 : C :=
 .opn 5000003 (.norm [3,4,5] [4] impl_SalvageBlocks_k0)
def impl_SalvageBlocks_k2 : C :=
 .seq (.reg false [.V 39 (.mv (.t 3)),.W 2 (.asg (.t 39))] [2] [2,3,8]) .ret
def impl_SalvageBlocks_ir : Fn := { np := 1,io := [],res := [.t 2],own := [false],body :=
 (.seq (.reg false [.W 2 (.asg (.c (.nils 3)))] [0] []) (.seq (.reg false [.V 10 (.bsl 3 (.agg [.str [],.str [],.str []]) 0 []),.W 3 (.asg (.t 10))] [0,3] [3,8]) (.seq (.reg false [.V 11 (.mv (.t 0)),.V 12 (.call (.c (.fn 683 [])) [.t 11,.c (.str [10])]),.W 4 (.asg (.t 12))] [3,4] [3,4,8]) (.seq (.seq (.reg false [.V 5 (.asg (.c (.int .i64 1)))] [3,4,5] [3,4,8]) (.block 0 (.loop impl_SalvageBlocks_k1))) impl_SalvageBlocks_k2)))) }
noncomputable def impl_SalvageBlocks_D : List (Nat × Callee) := [(568,impl_put_c),(683,strings_Split_c),(749,impl_readBlock_c)]
def impl_SalvageBlocks_H : List (Nat × ET) := [(2,T_Block),(3,T_Block),(4,(.one .str)),(8,T_Block),(10,T_Block),(12,(.one .str)),(14,(.one .str)),(21,(.one .str)),(31,T_Block),(34,T_Block),(38,T_Block),(39,T_Block)]
noncomputable def impl_SalvageBlocks_c : Callee := mkCallee impl_SalvageBlocks_D impl_SalvageBlocks_H impl_SalvageBlocks_ir [.d (.one .str)] [.d (.one (.sl T_Block))] []
noncomputable def impl_SalvageBlocks (a0 : List UInt8) : Option (List T_Block.ty) := impl_SalvageBlocks_c.f (a0,())
noncomputable def impl_SalvageBlocks_p0  (v3 : List T_Block.ty) (v5 : Int) (r4 : List (List UInt8)) : Option (List T_Block.ty) :=
 goL impl_SalvageBlocks_D impl_SalvageBlocks_H (vleave impl_SalvageBlocks_ir [.d (.one .str)] [.d (.one (.sl T_Block))] [] []) [.c impl_SalvageBlocks_k0,.l impl_SalvageBlocks_k1,.e 0,.c impl_SalvageBlocks_k2]
  ⟨[(3,.sl T_Block v3),(4,.view 4 0 r4.length),(5,.int .i64 v5)],[(4,some (.sl (.one .str) r4))]⟩
theorem impl_SalvageBlocks_eq (a0 : List UInt8) : impl_SalvageBlocks a0 =
 (strings_Split a0 [10]).bind fun x1 =>
  impl_SalvageBlocks_p0 [] 1 x1 :=
 (mk_f _ _ _ _ _ _ _ 4000).trans (by kernel_rfl)
theorem impl_SalvageBlocks_p0_eq  (v3 : List T_Block.ty) (v5 : Int) (r4 : List (List UInt8)) : impl_SalvageBlocks_p0 v3 v5 r4 =
 if decide (v5 < IntKind.i64.wrap ((r4.length : Int) - 1)) then
  if decide (0 ≤ v5) && decide (v5 < (r4.length : Int)) then
   (r4[v5.toNat]?).bind fun x1 =>
    (impl_readBlock x1).bind fun x2 =>
     if (x2.2 != 0) then
      impl_SalvageBlocks_p0 v3 (IntKind.i64.wrap (v5 + 1)) r4
     else
      (impl_put v3 (x2.1.1,x2.1.2.1,x2.1.2.2.1,())).bind fun x3 =>
       if (x3.2 == 0) then
        impl_SalvageBlocks_p0 x3.1 (IntKind.i64.wrap (v5 + 1)) r4
       else
        impl_SalvageBlocks_p0 v3 (IntKind.i64.wrap (v5 + 1)) r4
  else
   none
 else
  some v3 :=
 (goL_dn _ _ _ 4000 _ _).trans (by kernel_rfl)
def spec_l29Same_k0 : C :=
 .seq (.seq (.reg false [.V 11 (.mv (.t 5)),.V 12 (.mv (.t 0)),.V 13 (.len (.t 12)),.V 14 (.bin .lss (.t 11) (.t 13))] [0,1,5,14] []) (.cond (.t 14) .skip (.exit 0))) (.seq (.block 1 (.seq (.reg true [.V 17 (.mv (.t 0)),.V 18 (.mv (.t 5)),.V 19 (.ia 3 (.t 17) (.t 18)),.V 20 (.ld (some 3) (.t 19)),.V 21 (.mv (.t 1)),.V 22 (.mv (.t 5)),.V 23 (.ia 3 (.t 21) (.t 22)),.V 24 (.ld (some 3) (.t 23)),.V 25 (.eqs true [.s,.s,.s] (.t 20) (.t 24))] [0,1,5,25] []) (.cond (.t 25) (.seq (.reg false [.V 4 (.asg (.c (.bool false)))] [4] []) .ret) .skip))) (.reg false [.V 15 (.mv (.t 5)),.V 16 (.bin .add (.t 15) (.c (.int .i64 1))),.V 5 (.asg (.t 16))] [0,1,5] []))
def spec_l29Same_k1 : C :=
 .norm [0,1,5] [] spec_l29Same_k0
def spec_l29Same_k2 : C :=
 .seq (.reg false [.V 4 (.asg (.c (.bool true)))] [4] []) .ret
def spec_l29Same_ir : Fn := { np := 2,io := [],res := [.t 4],own := [false],body :=
 (.seq (.reg false [.V 4 (.asg (.c (.bool false)))] [0,1] []) (.seq (.seq (.reg false [.V 6 (.mv (.t 0)),.V 7 (.len (.t 6)),.V 8 (.mv (.t 1)),.V 9 (.len (.t 8)),.V 10 (.bin .neq (.t 7) (.t 9))] [0,1,10] []) (.cond (.t 10) (.seq (.reg false [.V 4 (.asg (.c (.bool false)))] [4] []) .ret) .skip)) (.seq (.seq (.reg false [.V 5 (.asg (.c (.int .i64 0)))] [0,1,5] []) (.block 0 (.loop spec_l29Same_k1))) spec_l29Same_k2))) }
noncomputable def spec_l29Same_D : List (Nat × Callee) := []
def spec_l29Same_H : List (Nat × ET) := [(6,T_Block),(8,T_Block),(12,T_Block),(17,T_Block),(21,T_Block)]
noncomputable def spec_l29Same_c : Callee := mkCallee spec_l29Same_D spec_l29Same_H spec_l29Same_ir [.d (.one (.sl T_Block)),.d (.one (.sl T_Block))] [.d (.one .bool)] []
noncomputable def spec_l29Same (a0 : List T_Block.ty) (a1 : List T_Block.ty) : Option (Bool) := spec_l29Same_c.f (a0,a1,())
noncomputable def spec_l29Same_p0  (v0 : List T_Block.ty) (v1 : List T_Block.ty) (v5 : Int) : Option (Bool) :=
 goL spec_l29Same_D spec_l29Same_H (vleave spec_l29Same_ir [.d (.one (.sl T_Block)),.d (.one (.sl T_Block))] [.d (.one .bool)] [] []) [.c spec_l29Same_k0,.l spec_l29Same_k1,.e 0,.c spec_l29Same_k2]
  ⟨[(0,.sl T_Block v0),(1,.sl T_Block v1),(5,.int .i64 v5)],[]⟩
theorem spec_l29Same_eq (a0 : List T_Block.ty) (a1 : List T_Block.ty) : spec_l29Same a0 a1 =
 if ((a0.length : Int) != (a1.length : Int)) then
  some false
 else
  spec_l29Same_p0 a0 a1 0 :=
 (mk_f _ _ _ _ _ _ _ 4000).trans (by kernel_rfl)
theorem spec_l29Same_p0_eq  (v0 : List T_Block.ty) (v1 : List T_Block.ty) (v5 : Int) : spec_l29Same_p0 v0 v1 v5 =
 if decide (v5 < (v0.length : Int)) then
  if decide (0 ≤ v5) then
   (v0[v5.toNat]?).bind fun x1 =>
    if decide (0 ≤ v5) then
     (v1[v5.toNat]?).bind fun x2 =>
      if (!((x1.1 == x2.1) && ((x1.2.1 == x2.2.1) && (x1.2.2.1 == x2.2.2.1)))) then
       some false
      else
       spec_l29Same_p0 v0 v1 (IntKind.i64.wrap (v5 + 1))
    else
     none
  else
   none
 else
  some true :=
 (goL_dn _ _ _ 4000 _ _).trans (by kernel_rfl)
def spec_SameBlocks_ir : Fn := { np := 2,io := [],res := [.t 4],own := [false],body :=
 (.seq (.reg false [.V 4 (.asg (.c (.bool false)))] [0,1] []) (.seq (.reg false [.V 5 (.mv (.t 0)),.V 6 (.mv (.t 1)),.V 7 (.call (.c (.fn 574 [])) [.t 5,.t 6]),.V 4 (.asg (.t 7))] [4] []) .ret)) }
noncomputable def spec_SameBlocks_D : List (Nat × Callee) := [(574,spec_l29Same_c)]
def spec_SameBlocks_H : List (Nat × ET) := [(5,T_Block),(6,T_Block)]
noncomputable def spec_SameBlocks_c : Callee := mkCallee spec_SameBlocks_D spec_SameBlocks_H spec_SameBlocks_ir [.d (.one (.sl T_Block)),.d (.one (.sl T_Block))] [.d (.one .bool)] []
noncomputable def spec_SameBlocks (a0 : List T_Block.ty) (a1 : List T_Block.ty) : Option (Bool) := spec_SameBlocks_c.f (a0,a1,())
theorem spec_SameBlocks_eq (a0 : List T_Block.ty) (a1 : List T_Block.ty) : spec_SameBlocks a0 a1 =
 (spec_l29Same a0 a1).bind fun x1 =>
  some x1 :=
 (mk_f _ _ _ _ _ _ _ 4000).trans (by kernel_rfl)
def spec_l01Crc_k0 : C :=
 .seq (.seq (.reg false [.V 20 (.mv (.t 6)),.V 21 (.bin .lss (.t 20) (.c (.int .i64 8)))] [0,1,5,6,21] []) (.cond (.t 21) .skip (.exit 2))) (.seq (.block 3 (.seq (.reg false [.V 24 (.mv (.t 1)),.V 25 (.bin .shl (.t 24) (.c (.int .u64 1))),.V 1 (.asg (.t 25))] [0,1,5,6] []) (.seq (.reg false [.V 26 (.mv (.t 1)),.V 27 (.bin .gtr (.t 26) (.c (.int .i64 65535)))] [0,1,5,6,27] []) (.cond (.t 27) (.reg false [.V 28 (.mv (.t 1)),.V 29 (.bin .and (.t 28) (.c (.int .i64 65535))),.V 30 (.bin .xor (.t 29) (.c (.int .i64 4129))),.V 1 (.asg (.t 30))] [0,1,5,6] []) .skip)))) (.reg false [.V 22 (.mv (.t 6)),.V 23 (.bin .add (.t 22) (.c (.int .i64 1))),.V 6 (.asg (.t 23))] [0,1,5,6] []))
def spec_l01Crc_k1 : C :=
 .norm [0,1,5,6] [] spec_l01Crc_k0
def spec_l01Crc_k2 : C :=
 .reg false [.V 11 (.mv (.t 5)),.V 12 (.bin .add (.t 11) (.c (.int .i64 1))),.V 5 (.asg (.t 12))] [0,1,5] []
def spec_l01Crc_k3 : C :=
 .seq (.seq (.reg false [.V 7 (.mv (.t 5)),.V 8 (.mv (.t 0)),.V 9 (.lens (.t 8)),.V 10 (.bin .lss (.t 7) (.t 9))] [0,1,5,10] []) (.cond (.t 10) .skip (.exit 0))) (.seq (.block 1 (.seq (.reg false [.V 13 (.mv (.t 1)),.V 14 (.mv (.t 0)),.V 15 (.mv (.t 5)),.V 16 (.ix (.t 14) (.t 15)),.V 17 (.conv (.int .i64) (.t 16)),.V 18 (.bin .shl (.t 17) (.c (.int .u64 8))),.V 19 (.bin .xor (.t 13) (.t 18)),.V 1 (.asg (.t 19))] [0,1,5] []) (.seq (.reg false [.V 6 (.asg (.c (.int .i64 0)))] [0,1,5,6] []) (.block 2 (.loop spec_l01Crc_k1))))) spec_l01Crc_k2)
def spec_l01Crc_k4 : C :=
 .norm [0,1,5] [] spec_l01Crc_k3
def spec_l01Crc_k5 : C :=
 .seq (.reg false [.V 31 (.mv (.t 1)),.V 4 (.asg (.t 31))] [4] []) .ret
def spec_l01Crc_ir : Fn := { np := 2,io := [],res := [.t 4],own := [false],body :=
 (.seq (.reg false [.V 4 (.asg (.c (.int .i64 0)))] [0,1] []) (.seq (.seq (.reg false [.V 5 (.asg (.c (.int .i64 0)))] [0,1,5] []) (.block 0 (.loop spec_l01Crc_k4))) spec_l01Crc_k5)) }
noncomputable def spec_l01Crc_D : List (Nat × Callee) := []
def spec_l01Crc_H : List (Nat × ET) := []
noncomputable def spec_l01Crc_c : Callee := mkCallee spec_l01Crc_D spec_l01Crc_H spec_l01Crc_ir [.d (.one .str),.d (.one (.int .i64))] [.d (.one (.int .i64))] []
noncomputable def spec_l01Crc (a0 : List UInt8) (a1 : Int) : Option (Int) := spec_l01Crc_c.f (a0,a1,())
noncomputable def spec_l01Crc_p0  (v0 : List UInt8) (v1 : Int) (v5 : Int) : Option (Int) :=
 goL spec_l01Crc_D spec_l01Crc_H (vleave spec_l01Crc_ir [.d (.one .str),.d (.one (.int .i64))] [.d (.one (.int .i64))] [] []) [.c spec_l01Crc_k3,.l spec_l01Crc_k4,.e 0,.c spec_l01Crc_k5]
  ⟨[(0,.str v0),(1,.int .i64 v1),(5,.int .i64 v5)],[]⟩
noncomputable def spec_l01Crc_p1  (v0 : List UInt8) (v1 : Int) (v5 : Int) (v6 : Int) : Option (Int) :=
 goL spec_l01Crc_D spec_l01Crc_H (vleave spec_l01Crc_ir [.d (.one .str),.d (.one (.int .i64))] [.d (.one (.int .i64))] [] []) [.c spec_l01Crc_k0,.l spec_l01Crc_k1,.e 2,.e 1,.c spec_l01Crc_k2,.l spec_l01Crc_k4,.e 0,.c spec_l01Crc_k5]
  ⟨[(0,.str v0),(1,.int .i64 v1),(5,.int .i64 v5),(6,.int .i64 v6)],[]⟩
theorem spec_l01Crc_eq (a0 : List UInt8) (a1 : Int) : spec_l01Crc a0 a1 =
 spec_l01Crc_p0 a0 a1 0 :=
 (mk_f _ _ _ _ _ _ _ 4000).trans (by kernel_rfl)
theorem spec_l01Crc_p0_eq  (v0 : List UInt8) (v1 : Int) (v5 : Int) : spec_l01Crc_p0 v0 v1 v5 =
 if decide (v5 < (v0.length : Int)) then
  if decide (0 ≤ v5) then
   (v0[v5.toNat]?).bind fun x1 =>
    spec_l01Crc_p1 v0 (IntKind.i64.wrap ((BitVec.ofInt IntKind.i64.bits v1 ^^^ BitVec.ofInt IntKind.i64.bits (IntKind.i64.wrap (IntKind.i64.wrap (x1.toNat : Int) * 2 ^ (min (8 : Int).toNat IntKind.i64.bits)))).toNat : Int)) v5 0
  else
   none
 else
  some v1 :=
 (goL_dn _ _ _ 4000 _ _).trans (by kernel_rfl)
theorem spec_l01Crc_p1_eq  (v0 : List UInt8) (v1 : Int) (v5 : Int) (v6 : Int) : spec_l01Crc_p1 v0 v1 v5 v6 =
 if decide (v6 < 8) then
  if decide (IntKind.i64.wrap (v1 * 2 ^ (min (1 : Int).toNat IntKind.i64.bits)) > 65535) then
   spec_l01Crc_p1 v0 (IntKind.i64.wrap ((BitVec.ofInt IntKind.i64.bits (IntKind.i64.wrap ((BitVec.ofInt IntKind.i64.bits (IntKind.i64.wrap (v1 * 2 ^ (min (1 : Int).toNat IntKind.i64.bits))) &&& BitVec.ofInt IntKind.i64.bits 65535).toNat : Int)) ^^^ BitVec.ofInt IntKind.i64.bits 4129).toNat : Int)) v5 (IntKind.i64.wrap (v6 + 1))
  else
   spec_l01Crc_p1 v0 (IntKind.i64.wrap (v1 * 2 ^ (min (1 : Int).toNat IntKind.i64.bits))) v5 (IntKind.i64.wrap (v6 + 1))
 else
  spec_l01Crc_p0 v0 v1 (IntKind.i64.wrap (v5 + 1)) :=
 (goL_dn _ _ _ 4000 _ _).trans (by kernel_rfl)
def spec_l29Five_k0 : C :=
 .seq (.seq (.reg false [.V 6 (.mv (.t 3)),.V 7 (.lens (.t 6)),.V 8 (.bin .lss (.t 7) (.c (.int .i64 5)))] [3,8] []) (.cond (.t 8) .skip (.exit 0))) (.block 1 (.reg false [.V 9 (.mv (.t 3)),.V 10 (.bin .add (.c (.str [48])) (.t 9)),.V 3 (.asg (.t 10))] [3] []))
def spec_l29Five_k1 : C :=
 .norm [3] [] spec_l29Five_k0
def spec_l29Five_k2 : C :=
 .seq (.reg false [.V 11 (.mv (.t 3)),.V 2 (.asg (.t 11))] [2] []) .ret
def spec_l29Five_ir : Fn := { np := 1,io := [],res := [.t 2],own := [false],body :=
 (.seq (.reg false [.V 2 (.asg (.c (.str [])))] [0] []) (.seq (.reg false [.V 4 (.mv (.t 0)),.V 5 (.call (.c (.fn 726 [])) [.t 4]),.V 3 (.asg (.t 5))] [3] []) (.seq (.block 0 (.loop spec_l29Five_k1)) spec_l29Five_k2))) }
noncomputable def spec_l29Five_D : List (Nat × Callee) := [(726,spec_l01Dec_c)]
def spec_l29Five_H : List (Nat × ET) := []
noncomputable def spec_l29Five_c : Callee := mkCallee spec_l29Five_D spec_l29Five_H spec_l29Five_ir [.d (.one (.int .i64))] [.d (.one .str)] []
noncomputable def spec_l29Five (a0 : Int) : Option (List UInt8) := spec_l29Five_c.f (a0,())
noncomputable def spec_l29Five_p0  (v3 : List UInt8) : Option (List UInt8) :=
 goL spec_l29Five_D spec_l29Five_H (vleave spec_l29Five_ir [.d (.one (.int .i64))] [.d (.one .str)] [] []) [.c spec_l29Five_k0,.l spec_l29Five_k1,.e 0,.c spec_l29Five_k2]
  ⟨[(3,.str v3)],[]⟩
theorem spec_l29Five_eq (a0 : Int) : spec_l29Five a0 =
 (spec_l01Dec a0).bind fun x1 =>
  spec_l29Five_p0 x1 :=
 (mk_f _ _ _ _ _ _ _ 4000).trans (by kernel_rfl)
theorem spec_l29Five_p0_eq  (v3 : List UInt8) : spec_l29Five_p0 v3 =
 if decide ((v3.length : Int) < 5) then
  if decide ([48].length + v3.length ≤ strMax) then
   spec_l29Five_p0 ([48] ++ v3)
  else
   none
 else
  some v3 :=
 (goL_dn _ _ _ 4000 _ _).trans (by kernel_rfl)
def spec_l29Line_ir : Fn := { np := 1,io := [],res := [.t 2],own := [false],body :=
 (.seq (.reg false [.V 2 (.asg (.c (.str [])))] [0] []) (.seq (.reg true [.V 4 (.mv (.t 0)),.V 5 (.nilck (.t 4)),.V 6 (.fa 0 (.t 5)),.V 7 (.ld none (.t 6)),.V 8 (.bin .add (.t 7) (.c (.str [32]))),.V 9 (.mv (.t 0)),.V 10 (.nilck (.t 9)),.V 11 (.fa 1 (.t 10)),.V 12 (.ld none (.t 11)),.V 13 (.bin .add (.t 8) (.t 12)),.V 14 (.bin .add (.t 13) (.c (.str [32]))),.V 15 (.mv (.t 0)),.V 16 (.nilck (.t 15)),.V 17 (.fa 2 (.t 16)),.V 18 (.ld none (.t 17)),.V 19 (.bin .add (.t 14) (.t 18)),.V 3 (.asg (.t 19))] [3] []) (.seq (.reg false [.V 20 (.mv (.t 3)),.V 21 (.call (.c (.fn 1050 [])) [.t 20,.c (.int .i64 65535)]),.V 22 (.call (.c (.fn 1051 [])) [.t 21]),.V 23 (.bin .add (.t 22) (.c (.str [32]))),.V 24 (.mv (.t 3)),.V 25 (.bin .add (.t 23) (.t 24)),.V 26 (.bin .add (.t 25) (.c (.str [10]))),.V 2 (.asg (.t 26))] [2] []) .ret))) }
noncomputable def spec_l29Line_D : List (Nat × Callee) := [(1050,spec_l01Crc_c),(1051,spec_l29Five_c)]
def spec_l29Line_H : List (Nat × ET) := []
noncomputable def spec_l29Line_c : Callee := mkCallee spec_l29Line_D spec_l29Line_H spec_l29Line_ir [.p T_Block] [.d (.one .str)] []
noncomputable def spec_l29Line (a0 : T_Block.ty) : Option (List UInt8) := spec_l29Line_c.f (a0,())
theorem spec_l29Line_eq (a0 : T_Block.ty) : spec_l29Line a0 =
 if decide (a0.1.length + [32].length ≤ strMax) then
  if decide ((a0.1 ++ [32]).length + a0.2.1.length ≤ strMax) then
   if decide (((a0.1 ++ [32]) ++ a0.2.1).length + [32].length ≤ strMax) then
    if decide ((((a0.1 ++ [32]) ++ a0.2.1) ++ [32]).length + a0.2.2.1.length ≤ strMax) then
     (spec_l01Crc ((((a0.1 ++ [32]) ++ a0.2.1) ++ [32]) ++ a0.2.2.1) 65535).bind fun x1 =>
      (spec_l29Five x1).bind fun x2 =>
       if decide (x2.length + [32].length ≤ strMax) then
        if decide ((x2 ++ [32]).length + ((((a0.1 ++ [32]) ++ a0.2.1) ++ [32]) ++ a0.2.2.1).length ≤ strMax) then
         if decide (((x2 ++ [32]) ++ ((((a0.1 ++ [32]) ++ a0.2.1) ++ [32]) ++ a0.2.2.1)).length + [10].length ≤ strMax) then
          some (((x2 ++ [32]) ++ ((((a0.1 ++ [32]) ++ a0.2.1) ++ [32]) ++ a0.2.2.1)) ++ [10])
         else
          none
        else
         none
       else
        none
    else
     none
   else
    none
  else
   none
 else
  none :=
 (mk_f _ _ _ _ _ _ _ 4000).trans (by kernel_rfl)
def spec_l29Save_k0 : C :=
 .seq (.seq (.reg false [.V 10 (.mv (.t 4)),.V 11 (.mv (.t 0)),.V 12 (.len (.t 11)),.V 13 (.bin .lss (.t 10) (.t 12))] [0,3,4,13] []) (.cond (.t 13) .skip (.exit 0))) (.seq (.block 1 (.reg false [.V 16 (.mv (.t 3)),.V 17 (.mv (.t 0)),.V 18 (.mv (.t 4)),.V 19 (.ia 3 (.t 17) (.t 18)),.V 20 (.call (.c (.fn 961 [])) [.t 19]),.V 21 (.bin .add (.t 16) (.t 20)),.V 3 (.asg (.t 21))] [0,3,4] [])) (.reg false [.V 14 (.mv (.t 4)),.V 15 (.bin .add (.t 14) (.c (.int .i64 1))),.V 4 (.asg (.t 15))] [0,3,4] []))
def spec_l29Save_k1 : C :=
 .norm [0,3,4] [] spec_l29Save_k0
def spec_l29Save_k2 : C :=
 .seq (.reg false [.V 22 (.mv (.t 3)),.V 2 (.asg (.t 22))] [2] []) .ret
def spec_l29Save_ir : Fn := { np := 1,io := [],res := [.t 2],own := [false],body :=
 (.seq (.reg false [.V 2 (.asg (.c (.str [])))] [0] []) (.seq (.reg false [.V 5 (.mv (.t 0)),.V 6 (.len (.t 5)),.V 7 (.call (.c (.fn 726 [])) [.t 6]),.V 8 (.bin .add (.c (.str [97,114,99,104,105,118,101,32])) (.t 7)),.V 9 (.bin .add (.t 8) (.c (.str [10]))),.V 3 (.asg (.t 9))] [0,3] []) (.seq (.seq (.reg false [.V 4 (.asg (.c (.int .i64 0)))] [0,3,4] []) (.block 0 (.loop spec_l29Save_k1))) spec_l29Save_k2))) }
noncomputable def spec_l29Save_D : List (Nat × Callee) := [(726,spec_l01Dec_c),(961,spec_l29Line_c)]
def spec_l29Save_H : List (Nat × ET) := [(5,T_Block),(11,T_Block),(17,T_Block)]
noncomputable def spec_l29Save_c : Callee := mkCallee spec_l29Save_D spec_l29Save_H spec_l29Save_ir [.d (.one (.sl T_Block))] [.d (.one .str)] []
noncomputable def spec_l29Save (a0 : List T_Block.ty) : Option (List UInt8) := spec_l29Save_c.f (a0,())
noncomputable def spec_l29Save_p0  (v0 : List T_Block.ty) (v3 : List UInt8) (v4 : Int) : Option (List UInt8) :=
 goL spec_l29Save_D spec_l29Save_H (vleave spec_l29Save_ir [.d (.one (.sl T_Block))] [.d (.one .str)] [] []) [.c spec_l29Save_k0,.l spec_l29Save_k1,.e 0,.c spec_l29Save_k2]
  ⟨[(0,.sl T_Block v0),(3,.str v3),(4,.int .i64 v4)],[]⟩
theorem spec_l29Save_eq (a0 : List T_Block.ty) : spec_l29Save a0 =
 (spec_l01Dec (a0.length : Int)).bind fun x1 =>
  if decide ([97,114,99,104,105,118,101,32].length + x1.length ≤ strMax) then
   if decide (([97,114,99,104,105,118,101,32] ++ x1).length + [10].length ≤ strMax) then
    spec_l29Save_p0 a0 (([97,114,99,104,105,118,101,32] ++ x1) ++ [10]) 0
   else
    none
  else
   none :=
 (mk_f _ _ _ _ _ _ _ 4000).trans (by kernel_rfl)
theorem spec_l29Save_p0_eq  (v0 : List T_Block.ty) (v3 : List UInt8) (v4 : Int) : spec_l29Save_p0 v0 v3 v4 =
 if decide (v4 < (v0.length : Int)) then
  if decide (0 ≤ v4) then
   (v0[v4.toNat]?).bind fun x1 =>
    (spec_l29Line x1).bind fun x2 =>
     if decide (v3.length + x2.length ≤ strMax) then
      spec_l29Save_p0 v0 (v3 ++ x2) (IntKind.i64.wrap (v4 + 1))
     else
      none
  else
   none
 else
  some v3 :=
 (goL_dn _ _ _ 4000 _ _).trans (by kernel_rfl)
def spec_SaveBlocks_ir : Fn := { np := 1,io := [],res := [.t 2,.t 3],own := [false,false],body :=
 (.seq (.reg false [.V 2 (.asg (.c (.str []))),.V 3 (.asg (.c (.int .i64 0)))] [0] []) (.seq (.seq (.reg false [.V 4 (.mv (.t 0)),.V 5 (.call (.c (.fn 575 [])) [.t 4]),.V 6 (.un .not (.t 5))] [0,6] []) (.cond (.t 6) (.seq (.reg false [.V 2 (.asg (.c (.str []))),.V 3 (.asg (.c (.int .i64 1)))] [2,3] []) .ret) .skip)) (.seq (.reg false [.V 7 (.mv (.t 0)),.V 8 (.call (.c (.fn 748 [])) [.t 7]),.V 2 (.asg (.t 8)),.V 3 (.asg (.c (.int .i64 0)))] [2,3] []) .ret))) }
noncomputable def spec_SaveBlocks_D : List (Nat × Callee) := [(575,spec_l29Ok_c),(748,spec_l29Save_c)]
def spec_SaveBlocks_H : List (Nat × ET) := [(4,T_Block),(7,T_Block)]
noncomputable def spec_SaveBlocks_c : Callee := mkCallee spec_SaveBlocks_D spec_SaveBlocks_H spec_SaveBlocks_ir [.d (.one (.sl T_Block))] [.d (.one .str),.d (.one (.int .i64))] []
noncomputable def spec_SaveBlocks (a0 : List T_Block.ty) : Option (List UInt8 × Int) := spec_SaveBlocks_c.f (a0,())
theorem spec_SaveBlocks_eq (a0 : List T_Block.ty) : spec_SaveBlocks a0 =
 (spec_l29Ok a0).bind fun x1 =>
  if (!x1) then
   some ([],1)
  else
   (spec_l29Save a0).bind fun x2 =>
    some (x2,0) :=
 (mk_f _ _ _ _ _ _ _ 4000).trans (by kernel_rfl)
def laws_r8At_k0 : C :=
 .seq (.reg false [.V 15 (.mv (.t 0)),.V 16 (.mv (.t 1)),.V 17 (.ia 1 (.t 15) (.t 16)),.V 18 (.ld none (.t 17)),.V 19 (.conv (.int .i64) (.t 18)),.V 20 (.mv (.t 2)),.V 21 (.bin .rem (.t 19) (.t 20)),.V 6 (.asg (.t 21))] [6] []) .ret
def laws_r8At_ir : Fn := { np := 3,io := [],res := [.t 6],own := [false],body :=
 (.seq (.reg false [.V 6 (.asg (.c (.int .i64 0)))] [0,1,2] []) (.seq (.seq (.reg false [.V 7 (.mv (.t 2)),.V 8 (.bin .leq (.t 7) (.c (.int .i64 1))),.V 9 (.mv (.t 8)),.G 10 (.mv (.t 1)) 2 false,.G 11 (.mv (.t 0)) 2 false,.G 12 (.len (.t 11)) 2 false,.G 13 (.bin .geq (.t 10) (.t 12)) 2 false,.V 14 (.pick (.t 9) (.c (.bool true)) (.t 13))] [0,1,2,14] []) (.cond (.t 14) (.seq (.reg false [.V 6 (.asg (.c (.int .i64 0)))] [6] []) .ret) .skip)) (.norm [0,1,2] [] laws_r8At_k0))) }
noncomputable def laws_r8At_D : List (Nat × Callee) := []
def laws_r8At_H : List (Nat × ET) := [(11,(.one (.int .u8))),(15,(.one (.int .u8)))]
noncomputable def laws_r8At_c : Callee := mkCallee laws_r8At_D laws_r8At_H laws_r8At_ir [.d (.one (.sl (.one (.int .u8)))),.d (.one (.int .i64)),.d (.one (.int .i64))] [.d (.one (.int .i64))] []
noncomputable def laws_r8At (a0 : List Int) (a1 : Int) (a2 : Int) : Option (Int) := laws_r8At_c.f (a0,a1,a2,())
noncomputable def laws_r8At_p0  (v0 : List Int) (v1 : Int) (v2 : Int) : Option (Int) :=
 goL laws_r8At_D laws_r8At_H (vleave laws_r8At_ir [.d (.one (.sl (.one (.int .u8)))),.d (.one (.int .i64)),.d (.one (.int .i64))] [.d (.one (.int .i64))] [] []) [.c laws_r8At_k0]
  ⟨[(0,.sl (.one (.int .u8)) v0),(1,.int .i64 v1),(2,.int .i64 v2)],[]⟩
theorem laws_r8At_eq (a0 : List Int) (a1 : Int) (a2 : Int) : laws_r8At a0 a1 a2 =
 if decide (a2 ≤ 1) then
  some 0
 else
  if decide (a1 ≥ (a0.length : Int)) then
   some 0
  else
   laws_r8At_p0 a0 a1 a2 :=
 (mk_f _ _ _ _ _ _ _ 4000).trans (by kernel_rfl)
theorem laws_r8At_p0_eq  (v0 : List Int) (v1 : Int) (v2 : Int) : laws_r8At_p0 v0 v1 v2 =
 if decide (0 ≤ v1) then
  (v0[v1.toNat]?).bind fun x1 =>
   if decide (v2 = 0) then
    none
   else
    some ((IntKind.i64.wrap x1).tmod v2)
 else
  none :=
 (goL_dn _ _ _ 4000 _ _).trans (by kernel_rfl)
def laws_r8Wide_ir : Fn := { np := 3,io := [],res := [.t 6],own := [false],body :=
 (.seq (.reg false [.V 6 (.asg (.c (.int .i64 0)))] [0,1,2] []) (.seq (.reg false [.V 7 (.mv (.t 0)),.V 8 (.mv (.t 1)),.V 9 (.call (.c (.fn 151 [])) [.t 7,.t 8,.c (.int .i64 256)]),.V 10 (.bin .mul (.c (.int .i64 256)) (.t 9)),.V 11 (.mv (.t 0)),.V 12 (.mv (.t 1)),.V 13 (.bin .add (.t 12) (.c (.int .i64 1))),.V 14 (.call (.c (.fn 151 [])) [.t 11,.t 13,.c (.int .i64 256)]),.V 15 (.bin .add (.t 10) (.t 14)),.V 16 (.mv (.t 2)),.V 17 (.bin .rem (.t 15) (.t 16)),.V 6 (.asg (.t 17))] [6] []) .ret)) }
noncomputable def laws_r8Wide_D : List (Nat × Callee) := [(151,laws_r8At_c)]
def laws_r8Wide_H : List (Nat × ET) := [(7,(.one (.int .u8))),(11,(.one (.int .u8)))]
noncomputable def laws_r8Wide_c : Callee := mkCallee laws_r8Wide_D laws_r8Wide_H laws_r8Wide_ir [.d (.one (.sl (.one (.int .u8)))),.d (.one (.int .i64)),.d (.one (.int .i64))] [.d (.one (.int .i64))] []
noncomputable def laws_r8Wide (a0 : List Int) (a1 : Int) (a2 : Int) : Option (Int) := laws_r8Wide_c.f (a0,a1,a2,())
theorem laws_r8Wide_eq (a0 : List Int) (a1 : Int) (a2 : Int) : laws_r8Wide a0 a1 a2 =
 (laws_r8At a0 a1 256).bind fun x1 =>
  (laws_r8At a0 (IntKind.i64.wrap (a1 + 1)) 256).bind fun x2 =>
   if decide (a2 = 0) then
    none
   else
    some ((IntKind.i64.wrap ((IntKind.i64.wrap (256 * x1)) + x2)).tmod a2) :=
 (mk_f _ _ _ _ _ _ _ 4000).trans (by kernel_rfl)
def spec_l21Draw_k0 : C :=
 .seq (.seq (.reg false [.V 8 (.mv (.t 5)),.V 9 (.mv (.t 3)),.V 10 (.len (.t 9)),.V 11 (.bin .lss (.t 8) (.t 10))] [0,3,4,5,11] [0,3,4,1000]) (.cond (.t 11) .skip (.exit 0))) (.seq (.block 1 (.seq (.reg false [.V 14 (.mv (.t 0)),.W 15 (.call (.c (.fn 463 [])) [.t 14,.c (.int .i64 3)]),.V 16 (.bin .gtr (.t 15) (.c (.int .i64 0)))] [0,3,4,5,16] [0,3,4,1000]) (.cond (.t 16) (.reg false [.V 17 (.mv (.t 4)),.V 18 (.mv (.t 0)),.V 19 (.mv (.t 3)),.V 20 (.mv (.t 5)),.V 21 (.ia 1 (.t 19) (.t 20)),.V 22 (.ld none (.t 21)),.W 23 (.call (.c (.fn 992 [])) [.t 18,.t 22]),.V 24 (.bsl 5 (.agg [.str [],.str [],.int .i64 0,.int .i64 0,.int .i64 0]) 1 [(0,.t 23)]),.W 25 (.app 5 56 (.t 17) (.t 24)),.W 4 (.asg (.t 25))] [0,3,4,5] [0,3,4,1000]) .skip))) (.reg false [.V 12 (.mv (.t 5)),.V 13 (.bin .add (.t 12) (.c (.int .i64 1))),.V 5 (.asg (.t 13))] [0,3,4,5] [0,3,4,1000]))
def spec_l21Draw_k1 : C :=
 .norm [0,3,4,5] [0,3,4,1000] spec_l21Draw_k0
def spec_l21Draw_k2 : C :=
 .seq (.reg false [.V 26 (.mv (.t 4)),.W 2 (.asg (.t 26))] [0,2] [0,2,4,1000]) .ret
def spec_l21Draw_ir : Fn := { np := 1,io := [true],res := [.t 2],own := [true],body :=
 (.seq (.reg false [.W 2 (.asg (.c (.nils 5)))] [0] [0,1000]) (.seq (.reg false [.V 6 (.bsl 1 (.str []) 5 [(0,.c (.str [114,49])),(1,.c (.str [114,50])),(2,.c (.str [114,51])),(3,.c (.str [114,52])),(4,.c (.str [114,53]))]),.W 3 (.asg (.t 6))] [0,3] [0,3,1000]) (.seq (.reg false [.V 7 (.bsl 5 (.agg [.str [],.str [],.int .i64 0,.int .i64 0,.int .i64 0]) 0 []),.W 4 (.asg (.t 7))] [0,3,4] [0,3,4,1000]) (.seq (.seq (.reg false [.V 5 (.asg (.c (.int .i64 0)))] [0,3,4,5] [0,3,4,1000]) (.block 0 (.loop spec_l21Draw_k1))) spec_l21Draw_k2)))) }
noncomputable def spec_l21Draw_D : List (Nat × Callee) := [(463,spec_l00Src_pick_c),(992,spec_l21DrawOne_c)]
def spec_l21Draw_H : List (Nat × ET) := [(2,T_Paper),(3,(.one .str)),(4,T_Paper),(6,(.one .str)),(7,T_Paper),(9,(.one .str)),(17,T_Paper),(19,(.one .str)),(24,T_Paper),(25,T_Paper),(26,T_Paper)]
noncomputable def spec_l21Draw_c : Callee := mkCallee spec_l21Draw_D spec_l21Draw_H spec_l21Draw_ir [.box T_l00Src] [.tok T_Paper] [.box T_l00Src]
noncomputable def spec_l21Draw (a0 : T_l00Src.ty) : Option (List T_Paper.ty × T_l00Src.ty) := spec_l21Draw_c.f (a0,())
noncomputable def spec_l21Draw_p0  (v5 : Int) (r0_0 : List Int) (r0_1 : Int) (r0_2 : Int) (r3 : List (List UInt8)) (r4 : List T_Paper.ty) : Option (List T_Paper.ty × T_l00Src.ty) :=
 goL spec_l21Draw_D spec_l21Draw_H (vleave spec_l21Draw_ir [.box T_l00Src] [.tok T_Paper] [.box T_l00Src] []) [.c spec_l21Draw_k0,.l spec_l21Draw_k1,.e 0,.c spec_l21Draw_k2]
  ⟨[(0,.loc 0 0 0),(3,.view 3 0 r3.length),(4,.view 4 0 r4.length),(5,.int .i64 v5)],[(0,some (.var 3 (.agg [.sl (.one (.int .u8)) r0_0,.int .i64 r0_1,.int .u64 r0_2]))),(3,some (.sl (.one .str) r3)),(4,some (.sl T_Paper r4)),(1000,none)]⟩
theorem spec_l21Draw_eq (a0 : T_l00Src.ty) : spec_l21Draw a0 =
 spec_l21Draw_p0 0 a0.1 a0.2.1 a0.2.2.1 [[114,49],[114,50],[114,51],[114,52],[114,53]] [] :=
 (mk_f _ _ _ _ _ _ _ 4000).trans (by kernel_rfl)
theorem spec_l21Draw_p0_eq  (v5 : Int) (r0_0 : List Int) (r0_1 : Int) (r0_2 : Int) (r3 : List (List UInt8)) (r4 : List T_Paper.ty) : spec_l21Draw_p0 v5 r0_0 r0_1 r0_2 r3 r4 =
 if decide (v5 < (r3.length : Int)) then
  (spec_l00Src_pick (r0_0,r0_1,r0_2,()) 3).bind fun x1 =>
   if decide (x1.1 > 0) then
    if decide (0 ≤ v5) && decide (v5 < (r3.length : Int)) then
     (r3[v5.toNat]?).bind fun x2 =>
      (spec_l21DrawOne (x1.2.1,x1.2.2.1,x1.2.2.2.1,()) x2).bind fun x3 =>
       if decide (r4.length + 1 < lim) then
        spec_l21Draw_p0 (IntKind.i64.wrap (v5 + 1)) x3.2.1 x3.2.2.1 x3.2.2.2.1 r3 ((r4.take r4.length) ++ [(x3.1.1,x3.1.2.1,x3.1.2.2.1,x3.1.2.2.2.1,x3.1.2.2.2.2.1,())])
       else
        none
    else
     none
   else
    spec_l21Draw_p0 (IntKind.i64.wrap (v5 + 1)) x1.2.1 x1.2.2.1 x1.2.2.2.1 r3 r4
 else
  some ((r4.take r4.length),(r0_0,r0_1,r0_2,())) :=
 (goL_dn _ _ _ 4000 _ _).trans (by kernel_rfl)
def spec_R8Rentals_ir : Fn := { np := 1,io := [],res := [.t 2],own := [true],body :=
 (.seq (.reg false [.W 2 (.asg (.c (.nils 5)))] [0] []) (.seq (.reg false [.V 4 (.mv (.t 0)),.W 5 (.call (.c (.fn 441 [])) [.t 4]),.V 3 (.asg (.t 5))] [3] [5,6000]) (.seq (.reg false [.V 6 (.mv (.t 3)),.W 7 (.call (.c (.fn 830 [])) [.t 6]),.W 2 (.asg (.t 7))] [2] [2]) .ret))) }
noncomputable def spec_R8Rentals_D : List (Nat × Callee) := [(441,spec_l00From_c),(830,spec_l21Draw_c)]
def spec_R8Rentals_H : List (Nat × ET) := [(2,T_Paper),(4,(.one (.int .u8))),(7,T_Paper)]
noncomputable def spec_R8Rentals_c : Callee := mkCallee spec_R8Rentals_D spec_R8Rentals_H spec_R8Rentals_ir [.d (.one (.sl (.one (.int .u8))))] [.tok T_Paper] []
noncomputable def spec_R8Rentals (a0 : List Int) : Option (List T_Paper.ty) := spec_R8Rentals_c.f (a0,())
theorem spec_R8Rentals_eq (a0 : List Int) : spec_R8Rentals a0 =
 (spec_l00From a0).bind fun x1 =>
  (spec_l21Draw x1).bind fun x2 =>
   some (x2.1.take x2.1.length) :=
 (mk_f _ _ _ _ _ _ _ 4000).trans (by kernel_rfl)
def impl_isRentDay_ir : Fn := { np := 1,io := [],res := [.t 2],own := [false],body :=
 (.seq (.reg false [.V 2 (.asg (.c (.bool false)))] [0] []) (.seq (.reg false [.V 3 (.mv (.t 0)),.V 4 (.call (.c (.fn 23 [])) [.t 3,.c (.int .i64 0),.c (.int .i64 100000)]),.V 2 (.asg (.t 4))] [2] []) .ret)) }
noncomputable def impl_isRentDay_D : List (Nat × Callee) := [(23,impl_within_c)]
def impl_isRentDay_H : List (Nat × ET) := []
noncomputable def impl_isRentDay_c : Callee := mkCallee impl_isRentDay_D impl_isRentDay_H impl_isRentDay_ir [.d (.one (.int .i64))] [.d (.one .bool)] []
noncomputable def impl_isRentDay (a0 : Int) : Option (Bool) := impl_isRentDay_c.f (a0,())
theorem impl_isRentDay_eq (a0 : Int) : impl_isRentDay a0 =
 (impl_within a0 0 100000).bind fun x1 =>
  some x1 :=
 (mk_f _ _ _ _ _ _ _ 4000).trans (by kernel_rfl)
def impl_isMonths_ir : Fn := { np := 1,io := [],res := [.t 2],own := [false],body :=
 (.seq (.reg false [.V 2 (.asg (.c (.bool false)))] [0] []) (.seq (.reg false [.V 3 (.mv (.t 0)),.V 4 (.call (.c (.fn 23 [])) [.t 3,.c (.int .i64 1),.c (.int .i64 120)]),.V 2 (.asg (.t 4))] [2] []) .ret)) }
noncomputable def impl_isMonths_D : List (Nat × Callee) := [(23,impl_within_c)]
def impl_isMonths_H : List (Nat × ET) := []
noncomputable def impl_isMonths_c : Callee := mkCallee impl_isMonths_D impl_isMonths_H impl_isMonths_ir [.d (.one (.int .i64))] [.d (.one .bool)] []
noncomputable def impl_isMonths (a0 : Int) : Option (Bool) := impl_isMonths_c.f (a0,())
theorem impl_isMonths_eq (a0 : Int) : impl_isMonths a0 =
 (impl_within a0 1 120).bind fun x1 =>
  some x1 :=
 (mk_f _ _ _ _ _ _ _ 4000).trans (by kernel_rfl)
def impl_isMoney_ir : Fn := { np := 1,io := [],res := [.t 2],own := [false],body :=
 (.seq (.reg false [.V 2 (.asg (.c (.bool false)))] [0] []) (.seq (.reg false [.V 3 (.mv (.t 0)),.V 4 (.call (.c (.fn 23 [])) [.t 3,.c (.int .i64 0),.c (.int .i64 10000000)]),.V 2 (.asg (.t 4))] [2] []) .ret)) }
noncomputable def impl_isMoney_D : List (Nat × Callee) := [(23,impl_within_c)]
def impl_isMoney_H : List (Nat × ET) := []
noncomputable def impl_isMoney_c : Callee := mkCallee impl_isMoney_D impl_isMoney_H impl_isMoney_ir [.d (.one (.int .i64))] [.d (.one .bool)] []
noncomputable def impl_isMoney (a0 : Int) : Option (Bool) := impl_isMoney_c.f (a0,())
theorem impl_isMoney_eq (a0 : Int) : impl_isMoney a0 =
 (impl_within a0 0 10000000).bind fun x1 =>
  some x1 :=
 (mk_f _ _ _ _ _ _ _ 4000).trans (by kernel_rfl)
def impl_Rental_valid_ir : Fn := { np := 1,io := [],res := [.t 2],own := [false],body :=
 (.seq (.reg false [.W 1 (.box 5 (.t 0)),.V 2 (.asg (.c (.bool false)))] [1] [1]) (.seq (.reg false [.V 3 (.fa 0 (.t 1)),.V 4 (.ld none (.t 3)),.V 5 (.call (.c (.fn 24 [])) [.t 4]),.V 6 (.mv (.t 5)),.G 7 (.fa 1 (.t 1)) 3 true,.G 8 (.ld none (.t 7)) 3 true,.G 9 (.call (.c (.fn 24 [])) [.t 8]) 3 true,.V 10 (.pick (.t 6) (.t 9) (.c (.bool false))),.V 11 (.mv (.t 10)),.G 12 (.fa 2 (.t 1)) 8 true,.G 13 (.ld none (.t 12)) 8 true,.G 14 (.call (.c (.fn 623 [])) [.t 13]) 8 true,.V 15 (.pick (.t 11) (.t 14) (.c (.bool false))),.V 16 (.mv (.t 15)),.G 17 (.fa 3 (.t 1)) 13 true,.G 18 (.ld none (.t 17)) 13 true,.G 19 (.call (.c (.fn 1032 [])) [.t 18]) 13 true,.V 20 (.pick (.t 16) (.t 19) (.c (.bool false))),.V 21 (.mv (.t 20)),.G 22 (.fa 4 (.t 1)) 18 true,.G 23 (.ld none (.t 22)) 18 true,.G 24 (.call (.c (.fn 1033 [])) [.t 23]) 18 true,.V 25 (.pick (.t 21) (.t 24) (.c (.bool false))),.V 2 (.asg (.t 25))] [2] []) .ret)) }
noncomputable def impl_Rental_valid_D : List (Nat × Callee) := [(24,impl_IsName_c),(623,impl_isRentDay_c),(1032,impl_isMonths_c),(1033,impl_isMoney_c)]
def impl_Rental_valid_H : List (Nat × ET) := []
noncomputable def impl_Rental_valid_c : Callee := mkCallee impl_Rental_valid_D impl_Rental_valid_H impl_Rental_valid_ir [.d T_Paper] [.d (.one .bool)] []
noncomputable def impl_Rental_valid (a0 : T_Paper.ty) : Option (Bool) := impl_Rental_valid_c.f (a0,())
theorem impl_Rental_valid_eq (a0 : T_Paper.ty) : impl_Rental_valid a0 =
 (impl_IsName a0.1).bind fun x1 =>
  if x1 then
   (impl_IsName a0.2.1).bind fun x2 =>
    if x2 then
     (impl_isRentDay a0.2.2.1).bind fun x3 =>
      if x3 then
       (impl_isMonths a0.2.2.2.1).bind fun x4 =>
        if x4 then
         (impl_isMoney a0.2.2.2.2.1).bind fun x5 =>
          some x5
        else
         some false
      else
       some false
    else
     some false
  else
   some false :=
 (mk_f _ _ _ _ _ _ _ 4000).trans (by kernel_rfl)
def impl_ValidRentals_k0 : C :=
 .seq (.reg false [.V 8 (.bin .lss (.t 7) (.t 6))] [0,5,6,7,8] []) (.seq (.cond (.t 8) .skip (.exit 0)) (.seq (.block 1 (.seq (.reg false [.V 9 (.mv (.t 7)),.V 10 (.ia 5 (.t 5) (.t 7)),.V 11 (.ld (some 5) (.t 10)),.W 4 (.alloc 5 (.agg [.str [],.str [],.int .i64 0,.int .i64 0,.int .i64 0])),.V 3 (.asg (.t 9)),⟨none,true,.sto 5 (.t 4) (.t 11),none,false,[]⟩] [0,3,4,5,6,7] [4]) (.seq (.reg true [.V 12 (.ld (some 5) (.t 4)),.V 13 (.call (.c (.fn 900 [])) [.t 12]),.V 14 (.un .not (.t 13)),.V 15 (.mv (.t 14)),.G 16 (.mv (.t 3)) 3 false,.G 17 (.bin .gtr (.t 16) (.c (.int .i64 0))) 3 false,.G 18 (.mv (.t 17)) 3 false,.G 19 (.mv (.t 0)) 6 true,.G 20 (.mv (.t 3)) 6 true,.G 21 (.bin .sub (.t 20) (.c (.int .i64 1))) 6 true,.G 22 (.ia 5 (.t 19) (.t 21)) 6 true,.G 23 (.fa 0 (.t 22)) 6 true,.G 24 (.ld none (.t 23)) 6 true,.G 25 (.fa 0 (.t 4)) 6 true,.G 26 (.ld none (.t 25)) 6 true,.G 27 (.bin .geq (.t 24) (.t 26)) 6 true,.G 28 (.pick (.t 18) (.t 27) (.c (.bool false))) 3 false,.V 29 (.pick (.t 15) (.c (.bool true)) (.t 28))] [0,5,6,7,29] []) (.cond (.t 29) (.seq (.reg false [.V 2 (.asg (.c (.bool false)))] [2] []) .ret) .skip)))) (.reg false [.V 30 (.bin .add (.t 7) (.c (.int .i64 1))),.V 7 (.mv (.t 30))] [0,5,6,7] [])))
def impl_ValidRentals_k1 : C :=
 .norm [0,5,6,7] [] impl_ValidRentals_k0
def impl_ValidRentals_k2 : C :=
 .seq (.reg false [.V 31 (.mv (.t 0)),.V 32 (.len (.t 31)),.V 33 (.call (.c (.fn 21 [])) [.t 32,.c (.int .i64 12)]),.V 2 (.asg (.t 33))] [2] []) .ret
def impl_ValidRentals_ir : Fn := { np := 1,io := [],res := [.t 2],own := [false],body :=
 (.seq (.reg false [.V 2 (.asg (.c (.bool false)))] [0] []) (.seq (.seq (.reg false [.V 5 (.mv (.t 0)),.V 6 (.len (.t 5)),.V 7 (.mv (.c (.int .i64 0)))] [0,5,6,7] []) (.block 0 (.loop impl_ValidRentals_k1))) impl_ValidRentals_k2)) }
noncomputable def impl_ValidRentals_D : List (Nat × Callee) := [(21,impl_few_c),(900,impl_Rental_valid_c)]
def impl_ValidRentals_H : List (Nat × ET) := [(5,T_Paper),(19,T_Paper),(31,T_Paper)]
noncomputable def impl_ValidRentals_c : Callee := mkCallee impl_ValidRentals_D impl_ValidRentals_H impl_ValidRentals_ir [.d (.one (.sl T_Paper))] [.d (.one .bool)] []
noncomputable def impl_ValidRentals (a0 : List T_Paper.ty) : Option (Bool) := impl_ValidRentals_c.f (a0,())
noncomputable def impl_ValidRentals_p0  (v0 : List T_Paper.ty) (v5 : List T_Paper.ty) (v6 : Int) (v7 : Int) : Option (Bool) :=
 goL impl_ValidRentals_D impl_ValidRentals_H (vleave impl_ValidRentals_ir [.d (.one (.sl T_Paper))] [.d (.one .bool)] [] []) [.c impl_ValidRentals_k0,.l impl_ValidRentals_k1,.e 0,.c impl_ValidRentals_k2]
  ⟨[(0,.sl T_Paper v0),(5,.sl T_Paper v5),(6,.int .i64 v6),(7,.int .i64 v7)],[]⟩
theorem impl_ValidRentals_eq (a0 : List T_Paper.ty) : impl_ValidRentals a0 =
 impl_ValidRentals_p0 a0 a0 (a0.length : Int) 0 :=
 (mk_f _ _ _ _ _ _ _ 4000).trans (by kernel_rfl)
theorem impl_ValidRentals_p0_eq  (v0 : List T_Paper.ty) (v5 : List T_Paper.ty) (v6 : Int) (v7 : Int) : impl_ValidRentals_p0 v0 v5 v6 v7 =
 if decide (v7 < v6) then
  if decide (0 ≤ v7) then
   (v5[v7.toNat]?).bind fun x1 =>
    (impl_Rental_valid x1).bind fun x2 =>
     if (!x2) then
      some false
     else
      if decide (v7 > 0) then
       if decide (0 ≤ IntKind.i64.wrap (v7 - 1)) then
        (v0[(IntKind.i64.wrap (v7 - 1)).toNat]?).bind fun x3 =>
         if (!Op.bytesLess x3.1 x1.1) then
          some false
         else
          impl_ValidRentals_p0 v0 v5 v6 (IntKind.i64.wrap (v7 + 1))
       else
        none
      else
       impl_ValidRentals_p0 v0 v5 v6 (IntKind.i64.wrap (v7 + 1))
  else
   none
 else
  (impl_few (v0.length : Int) 12).bind fun x4 =>
   some x4 :=
 (goL_dn _ _ _ 4000 _ _).trans (by kernel_rfl)
noncomputable def strings_Join_c : Callee := joinC
noncomputable def strings_Join (a0 : List (List UInt8)) (a1 : List UInt8) : Option (List UInt8) := strings_Join_c.f (a0,a1,())
theorem strings_Join_eq (a0 : List (List UInt8)) (a1 : List UInt8) : strings_Join a0 a1 = if decide (a0.length ≤ 140737488355328) && decide ((Lib.join a0 a1).length ≤ 140737488355328) then some (Lib.join a0 a1) else none := rfl
def impl_ListText_k0 : C :=
 .seq (.reg false [.V 17 (.bin .lss (.t 16) (.t 15))] [3,14,15,16,17] [3]) (.seq (.cond (.t 17) .skip (.exit 0)) (.seq (.block 1 (.seq (.reg false [.V 18 (.ia 1 (.t 14) (.t 16)),.V 19 (.ld none (.t 18)),.V 5 (.asg (.t 19))] [3,5,14,15,16] [3]) (.seq (.seq (.reg false [.V 20 (.mv (.t 5)),.V 21 (.call (.c (.fn 23 [])) [.t 20,.c (.int .i64 (-1000000000000)),.c (.int .i64 1000000000000)]),.V 22 (.un .not (.t 21))] [3,5,14,15,16,22] [3]) (.cond (.t 22) (.seq (.reg false [.V 2 (.asg (.c (.str [])))] [2] []) .ret) .skip)) (.reg false [.V 23 (.mv (.t 3)),.V 24 (.mv (.t 5)),.V 25 (.call (.c (.fn 524 [])) [.t 24]),.V 26 (.bsl 1 (.str []) 1 [(0,.t 25)]),.W 27 (.app 1 16 (.t 23) (.t 26)),.W 3 (.asg (.t 27))] [3,14,15,16] [3])))) (.reg false [.V 28 (.bin .add (.t 16) (.c (.int .i64 1))),.V 16 (.mv (.t 28))] [3,14,15,16] [3])))
def impl_ListText_k1 : C :=
 .norm [3,14,15,16] [3] impl_ListText_k0
def impl_ListText_k2 : C :=
 .seq (.reg false [.V 29 (.mv (.t 3)),.V 30 (.call (.c (.fn 630 [])) [.t 29,.c (.str [44])]),.V 2 (.asg (.t 30))] [2] []) .ret
def impl_ListText_ir : Fn := { np := 1,io := [],res := [.t 2],own := [false],body :=
 (.seq (.reg false [.V 2 (.asg (.c (.str [])))] [0] []) (.seq (.seq (.reg false [.V 6 (.mv (.t 0)),.V 7 (.len (.t 6)),.V 8 (.call (.c (.fn 21 [])) [.t 7,.c (.int .i64 64)]),.V 9 (.un .not (.t 8))] [0,9] []) (.cond (.t 9) (.seq (.reg false [.V 2 (.asg (.c (.str [])))] [2] []) .ret) .skip)) (.seq (.seq (.reg false [.V 10 (.mv (.t 0)),.V 11 (.len (.t 10)),.V 12 (.bin .eql (.t 11) (.c (.int .i64 0)))] [0,12] []) (.cond (.t 12) (.seq (.reg false [.V 2 (.asg (.c (.str [45])))] [2] []) .ret) .skip)) (.seq (.reg false [.V 13 (.bsl 1 (.str []) 0 []),.W 3 (.asg (.t 13))] [0,3] [3]) (.seq (.seq (.reg false [.V 14 (.mv (.t 0)),.V 15 (.len (.t 14)),.V 16 (.mv (.c (.int .i64 0)))] [3,14,15,16] [3]) (.block 0 (.loop impl_ListText_k1))) impl_ListText_k2))))) }
noncomputable def impl_ListText_D : List (Nat × Callee) := [(21,impl_few_c),(23,impl_within_c),(524,impl_Decimal_c),(630,strings_Join_c)]
def impl_ListText_H : List (Nat × ET) := [(3,(.one .str)),(6,(.one (.int .i64))),(10,(.one (.int .i64))),(13,(.one .str)),(14,(.one (.int .i64))),(23,(.one .str)),(26,(.one .str)),(27,(.one .str)),(29,(.one .str))]
noncomputable def impl_ListText_c : Callee := mkCallee impl_ListText_D impl_ListText_H impl_ListText_ir [.d (.one (.sl (.one (.int .i64))))] [.d (.one .str)] []
noncomputable def impl_ListText (a0 : List Int) : Option (List UInt8) := impl_ListText_c.f (a0,())
noncomputable def impl_ListText_p0  (v14 : List Int) (v15 : Int) (v16 : Int) (r3 : List (List UInt8)) : Option (List UInt8) :=
 goL impl_ListText_D impl_ListText_H (vleave impl_ListText_ir [.d (.one (.sl (.one (.int .i64))))] [.d (.one .str)] [] []) [.c impl_ListText_k0,.l impl_ListText_k1,.e 0,.c impl_ListText_k2]
  ⟨[(3,.view 3 0 r3.length),(14,.sl (.one (.int .i64)) v14),(15,.int .i64 v15),(16,.int .i64 v16)],[(3,some (.sl (.one .str) r3))]⟩
theorem impl_ListText_eq (a0 : List Int) : impl_ListText a0 =
 (impl_few (a0.length : Int) 64).bind fun x1 =>
  if (!x1) then
   some []
  else
   if ((a0.length : Int) == 0) then
    some [45]
   else
    impl_ListText_p0 a0 (a0.length : Int) 0 [] :=
 (mk_f _ _ _ _ _ _ _ 4000).trans (by kernel_rfl)
theorem impl_ListText_p0_eq  (v14 : List Int) (v15 : Int) (v16 : Int) (r3 : List (List UInt8)) : impl_ListText_p0 v14 v15 v16 r3 =
 if decide (v16 < v15) then
  if decide (0 ≤ v16) then
   (v14[v16.toNat]?).bind fun x1 =>
    (impl_within x1 (-1000000000000) 1000000000000).bind fun x2 =>
     if (!x2) then
      some []
     else
      (impl_Decimal x1).bind fun x3 =>
       if decide (r3.length + 1 < lim) then
        impl_ListText_p0 v14 v15 (IntKind.i64.wrap (v16 + 1)) ((r3.take r3.length) ++ [x3])
       else
        none
  else
   none
 else
  (strings_Join (r3.take r3.length) [44]).bind fun x4 =>
   some x4 :=
 (goL_dn _ _ _ 4000 _ _).trans (by kernel_rfl)
def impl_named_ir : Fn := { np := 2,io := [],res := [.t 4],own := [false],body :=
 (.seq (.reg false [.V 4 (.asg (.c (.str [])))] [0,1] []) (.seq (.reg false [.V 5 (.mv (.t 0)),.V 6 (.bin .add (.t 5) (.c (.str [32]))),.V 7 (.mv (.t 1)),.V 8 (.call (.c (.fn 460 [])) [.t 7]),.V 9 (.bin .add (.t 6) (.t 8)),.V 4 (.asg (.t 9))] [4] []) .ret)) }
noncomputable def impl_named_D : List (Nat × Callee) := [(460,impl_ListText_c)]
def impl_named_H : List (Nat × ET) := [(7,(.one (.int .i64)))]
noncomputable def impl_named_c : Callee := mkCallee impl_named_D impl_named_H impl_named_ir [.d (.one .str),.d (.one (.sl (.one (.int .i64))))] [.d (.one .str)] []
noncomputable def impl_named (a0 : List UInt8) (a1 : List Int) : Option (List UInt8) := impl_named_c.f (a0,a1,())
theorem impl_named_eq (a0 : List UInt8) (a1 : List Int) : impl_named a0 a1 =
 if decide (a0.length + [32].length ≤ strMax) then
  (impl_ListText a1).bind fun x1 =>
   if decide ((a0 ++ [32]).length + x1.length ≤ strMax) then
    some ((a0 ++ [32]) ++ x1)
   else
    none
 else
  none :=
 (mk_f _ _ _ _ _ _ _ 4000).trans (by kernel_rfl)
def impl_RentalText_ir : Fn := { np := 1,io := [],res := [.t 2],own := [false],body :=
 (.seq (.reg false [.W 1 (.box 5 (.t 0)),.V 2 (.asg (.c (.str [])))] [1] [1]) (.seq (.seq (.reg false [.V 3 (.ld (some 5) (.t 1)),.V 4 (.call (.c (.fn 900 [])) [.t 3]),.V 5 (.un .not (.t 4))] [1,5] [1]) (.cond (.t 5) (.seq (.reg false [.V 2 (.asg (.c (.str [])))] [2] []) .ret) .skip)) (.seq (.reg true [.V 6 (.fa 0 (.t 1)),.V 7 (.ld none (.t 6)),.V 8 (.bin .add (.t 7) (.c (.str [32]))),.V 9 (.fa 1 (.t 1)),.V 10 (.ld none (.t 9)),.V 11 (.fa 2 (.t 1)),.V 12 (.ld none (.t 11)),.V 13 (.fa 3 (.t 1)),.V 14 (.ld none (.t 13)),.V 15 (.fa 4 (.t 1)),.V 16 (.ld none (.t 15)),.V 17 (.bsl 1 (.int .i64 0) 3 [(0,.t 12),(1,.t 14),(2,.t 16)]),.V 18 (.call (.c (.fn 459 [])) [.t 10,.t 17]),.V 19 (.bin .add (.t 8) (.t 18)),.V 2 (.asg (.t 19))] [2] []) .ret))) }
noncomputable def impl_RentalText_D : List (Nat × Callee) := [(459,impl_named_c),(900,impl_Rental_valid_c)]
def impl_RentalText_H : List (Nat × ET) := [(17,(.one (.int .i64)))]
noncomputable def impl_RentalText_c : Callee := mkCallee impl_RentalText_D impl_RentalText_H impl_RentalText_ir [.d T_Paper] [.d (.one .str)] []
noncomputable def impl_RentalText (a0 : T_Paper.ty) : Option (List UInt8) := impl_RentalText_c.f (a0,())
theorem impl_RentalText_eq (a0 : T_Paper.ty) : impl_RentalText a0 =
 (impl_Rental_valid a0).bind fun x1 =>
  if (!x1) then
   some []
  else
   if decide (a0.1.length + [32].length ≤ strMax) then
    (impl_named a0.2.1 [a0.2.2.1,a0.2.2.2.1,a0.2.2.2.2.1]).bind fun x2 =>
     if decide ((a0.1 ++ [32]).length + x2.length ≤ strMax) then
      some ((a0.1 ++ [32]) ++ x2)
     else
      none
   else
    none :=
 (mk_f _ _ _ _ _ _ _ 4000).trans (by kernel_rfl)
def impl_BlocksOfRentals_k0 : C :=
 .seq (.reg false [.V 14 (.bin .lss (.t 13) (.t 12))] [4,11,12,13,14] [4]) (.seq (.cond (.t 14) .skip (.exit 0)) (.seq (.block 1 (.seq (.reg false [.V 15 (.ia 5 (.t 11) (.t 13)),.V 16 (.ld (some 5) (.t 15)),.W 6 (.alloc 5 (.agg [.str [],.str [],.int .i64 0,.int .i64 0,.int .i64 0])),⟨none,true,.sto 5 (.t 6) (.t 16),none,false,[]⟩] [4,6,11,12,13] [4,6]) (.reg true [.V 17 (.mv (.t 4)),.V 18 (.fa 0 (.t 6)),.V 19 (.ld none (.t 18)),.V 20 (.ld (some 5) (.t 6)),.V 21 (.call (.c (.fn 831 [])) [.t 20]),.V 22 (.build [.str [],.str [],.str []] [(0,1,.c (.str [114,101,110,116,97,108])),(1,1,.t 19),(2,1,.t 21)]),.V 23 (.bsl 3 (.agg [.str [],.str [],.str []]) 1 [(0,.t 22)]),.W 24 (.app 3 48 (.t 17) (.t 23)),.W 4 (.asg (.t 24))] [4,11,12,13] [4]))) (.reg false [.V 25 (.bin .add (.t 13) (.c (.int .i64 1))),.V 13 (.mv (.t 25))] [4,11,12,13] [4])))
def impl_BlocksOfRentals_k1 : C :=
 .norm [4,11,12,13] [4] impl_BlocksOfRentals_k0
def impl_BlocksOfRentals_k2 : C :=
 .seq (.reg false [.V 26 (.mv (.t 4)),.W 2 (.asg (.t 26)),.V 3 (.asg (.c (.int .i64 0)))] [2,3] [2,4]) .ret
def impl_BlocksOfRentals_ir : Fn := { np := 1,io := [],res := [.t 2,.t 3],own := [true,false],body :=
 (.seq (.reg false [.W 2 (.asg (.c (.nils 3))),.V 3 (.asg (.c (.int .i64 0)))] [0] []) (.seq (.seq (.reg false [.V 7 (.mv (.t 0)),.V 8 (.call (.c (.fn 611 [])) [.t 7]),.V 9 (.un .not (.t 8))] [0,9] []) (.cond (.t 9) (.seq (.reg false [.W 2 (.asg (.c (.nils 3))),.V 3 (.asg (.c (.int .i64 1)))] [2,3] [2,4]) .ret) .skip)) (.seq (.reg false [.V 10 (.bsl 3 (.agg [.str [],.str [],.str []]) 0 []),.W 4 (.asg (.t 10))] [0,4] [4]) (.seq (.seq (.reg false [.V 11 (.mv (.t 0)),.V 12 (.len (.t 11)),.V 13 (.mv (.c (.int .i64 0)))] [4,11,12,13] [4]) (.block 0 (.loop impl_BlocksOfRentals_k1))) impl_BlocksOfRentals_k2)))) }
noncomputable def impl_BlocksOfRentals_D : List (Nat × Callee) := [(611,impl_ValidRentals_c),(831,impl_RentalText_c)]
def impl_BlocksOfRentals_H : List (Nat × ET) := [(2,T_Block),(4,T_Block),(7,T_Paper),(10,T_Block),(11,T_Paper),(17,T_Block),(23,T_Block),(24,T_Block),(26,T_Block)]
noncomputable def impl_BlocksOfRentals_c : Callee := mkCallee impl_BlocksOfRentals_D impl_BlocksOfRentals_H impl_BlocksOfRentals_ir [.d (.one (.sl T_Paper))] [.tok T_Block,.d (.one (.int .i64))] []
noncomputable def impl_BlocksOfRentals (a0 : List T_Paper.ty) : Option (List T_Block.ty × Int) := impl_BlocksOfRentals_c.f (a0,())
noncomputable def impl_BlocksOfRentals_p0  (v11 : List T_Paper.ty) (v12 : Int) (v13 : Int) (r4 : List T_Block.ty) : Option (List T_Block.ty × Int) :=
 goL impl_BlocksOfRentals_D impl_BlocksOfRentals_H (vleave impl_BlocksOfRentals_ir [.d (.one (.sl T_Paper))] [.tok T_Block,.d (.one (.int .i64))] [] []) [.c impl_BlocksOfRentals_k0,.l impl_BlocksOfRentals_k1,.e 0,.c impl_BlocksOfRentals_k2]
  ⟨[(4,.view 4 0 r4.length),(11,.sl T_Paper v11),(12,.int .i64 v12),(13,.int .i64 v13)],[(4,some (.sl T_Block r4))]⟩
theorem impl_BlocksOfRentals_eq (a0 : List T_Paper.ty) : impl_BlocksOfRentals a0 =
 (impl_ValidRentals a0).bind fun x1 =>
  if (!x1) then
   some ([],1)
  else
   impl_BlocksOfRentals_p0 a0 (a0.length : Int) 0 [] :=
 (mk_f _ _ _ _ _ _ _ 4000).trans (by kernel_rfl)
theorem impl_BlocksOfRentals_p0_eq  (v11 : List T_Paper.ty) (v12 : Int) (v13 : Int) (r4 : List T_Block.ty) : impl_BlocksOfRentals_p0 v11 v12 v13 r4 =
 if decide (v13 < v12) then
  if decide (0 ≤ v13) then
   (v11[v13.toNat]?).bind fun x1 =>
    (impl_RentalText x1).bind fun x2 =>
     if decide (r4.length + 1 < lim) then
      impl_BlocksOfRentals_p0 v11 v12 (IntKind.i64.wrap (v13 + 1)) ((r4.take r4.length) ++ [([114,101,110,116,97,108],x1.1,x2,())])
     else
      none
  else
   none
 else
  some ((r4.take r4.length),0) :=
 (goL_dn _ _ _ 4000 _ _).trans (by kernel_rfl)
def impl_SplitWords_k0 : C :=
 .seq (.reg false [.V 11 (.bin .lss (.t 10) (.t 9))] [3,8,9,10,11] [3]) (.seq (.cond (.t 11) .skip (.exit 0)) (.seq (.block 1 (.seq (.reg false [.V 12 (.ia 1 (.t 8) (.t 10)),.V 13 (.ld none (.t 12)),.V 5 (.asg (.t 13))] [3,5,8,9,10] [3]) (.seq (.reg false [.V 14 (.mv (.t 5)),.V 15 (.bin .neq (.t 14) (.c (.str [])))] [3,5,8,9,10,15] [3]) (.cond (.t 15) (.reg false [.V 16 (.mv (.t 3)),.V 17 (.mv (.t 5)),.V 18 (.bsl 1 (.str []) 1 [(0,.t 17)]),.W 19 (.app 1 16 (.t 16) (.t 18)),.W 3 (.asg (.t 19))] [3,8,9,10] [3]) .skip)))) (.reg false [.V 20 (.bin .add (.t 10) (.c (.int .i64 1))),.V 10 (.mv (.t 20))] [3,8,9,10] [3])))
def impl_SplitWords_k1 : C :=
 .norm [3,8,9,10] [3] impl_SplitWords_k0
def impl_SplitWords_k2 : C :=
 .seq (.reg false [.V 21 (.mv (.t 3)),.W 2 (.asg (.t 21))] [2] [2,3]) .ret
def impl_SplitWords_ir : Fn := { np := 1,io := [],res := [.t 2],own := [true],body :=
 (.seq (.reg false [.W 2 (.asg (.c (.nils 1)))] [0] []) (.seq (.reg false [.V 6 (.bsl 1 (.str []) 0 []),.W 3 (.asg (.t 6))] [0,3] [3]) (.seq (.seq (.reg false [.V 7 (.mv (.t 0)),.V 8 (.call (.c (.fn 683 [])) [.t 7,.c (.str [32])]),.V 9 (.len (.t 8)),.V 10 (.mv (.c (.int .i64 0)))] [3,8,9,10] [3]) (.block 0 (.loop impl_SplitWords_k1))) impl_SplitWords_k2))) }
noncomputable def impl_SplitWords_D : List (Nat × Callee) := [(683,strings_Split_c)]
def impl_SplitWords_H : List (Nat × ET) := [(2,(.one .str)),(3,(.one .str)),(6,(.one .str)),(8,(.one .str)),(16,(.one .str)),(18,(.one .str)),(19,(.one .str)),(21,(.one .str))]
noncomputable def impl_SplitWords_c : Callee := mkCallee impl_SplitWords_D impl_SplitWords_H impl_SplitWords_ir [.d (.one .str)] [.tok (.one .str)] []
noncomputable def impl_SplitWords (a0 : List UInt8) : Option (List (List UInt8)) := impl_SplitWords_c.f (a0,())
noncomputable def impl_SplitWords_p0  (v8 : List (List UInt8)) (v9 : Int) (v10 : Int) (r3 : List (List UInt8)) : Option (List (List UInt8)) :=
 goL impl_SplitWords_D impl_SplitWords_H (vleave impl_SplitWords_ir [.d (.one .str)] [.tok (.one .str)] [] []) [.c impl_SplitWords_k0,.l impl_SplitWords_k1,.e 0,.c impl_SplitWords_k2]
  ⟨[(3,.view 3 0 r3.length),(8,.sl (.one .str) v8),(9,.int .i64 v9),(10,.int .i64 v10)],[(3,some (.sl (.one .str) r3))]⟩
theorem impl_SplitWords_eq (a0 : List UInt8) : impl_SplitWords a0 =
 (strings_Split a0 [32]).bind fun x1 =>
  impl_SplitWords_p0 x1 (x1.length : Int) 0 [] :=
 (mk_f _ _ _ _ _ _ _ 4000).trans (by kernel_rfl)
theorem impl_SplitWords_p0_eq  (v8 : List (List UInt8)) (v9 : Int) (v10 : Int) (r3 : List (List UInt8)) : impl_SplitWords_p0 v8 v9 v10 r3 =
 if decide (v10 < v9) then
  if decide (0 ≤ v10) then
   (v8[v10.toNat]?).bind fun x1 =>
    if (!(x1 == [])) then
     if decide (r3.length + 1 < lim) then
      impl_SplitWords_p0 v8 v9 (IntKind.i64.wrap (v10 + 1)) ((r3.take r3.length) ++ [x1])
     else
      none
    else
     impl_SplitWords_p0 v8 v9 (IntKind.i64.wrap (v10 + 1)) r3
  else
   none
 else
  some (r3.take r3.length) :=
 (goL_dn _ _ _ 4000 _ _).trans (by kernel_rfl)
def impl_ReadList_k0 : C :=
 .seq (.reg false [.V 16 (.bin .lss (.t 15) (.t 14))] [4,13,14,15,16] [4]) (.seq (.cond (.t 16) .skip (.exit 0)) (.seq (.block 1 (.seq (.reg false [.V 17 (.ia 1 (.t 13) (.t 15)),.V 18 (.ld none (.t 17)),.V 6 (.asg (.t 18))] [4,6,13,14,15] [4]) (.seq (.reg false [.V 20 (.mv (.t 6)),.V 21 (.call (.c (.fn 522 [])) [.t 20]),.V 19 (.mv (.t 21)),.V 22 (.ext (.t 19) 0),.V 23 (.ext (.t 19) 1),.V 7 (.asg (.t 22)),.V 8 (.asg (.t 23))] [4,7,8,13,14,15] [4]) (.seq (.seq (.reg false [.V 24 (.mv (.t 8)),.V 25 (.un .not (.t 24)),.V 26 (.mv (.t 25)),.G 27 (.mv (.t 7)) 2 false,.G 28 (.call (.c (.fn 23 [])) [.t 27,.c (.int .i64 (-1000000000000)),.c (.int .i64 1000000000000)]) 2 false,.G 29 (.un .not (.t 28)) 2 false,.V 30 (.pick (.t 26) (.c (.bool true)) (.t 29)),.V 31 (.mv (.t 30)),.G 32 (.mv (.t 4)) 7 false,.G 33 (.len (.t 32)) 7 false,.G 34 (.bin .eql (.t 33) (.c (.int .i64 64))) 7 false,.V 35 (.pick (.t 31) (.c (.bool true)) (.t 34))] [4,7,13,14,15,35] [4]) (.cond (.t 35) (.seq (.reg false [.W 2 (.asg (.c (.nils 1))),.V 3 (.asg (.c (.bool false)))] [2,3] [2,4]) .ret) .skip)) (.reg false [.V 36 (.mv (.t 4)),.V 37 (.mv (.t 7)),.V 38 (.bsl 1 (.int .i64 0) 1 [(0,.t 37)]),.W 39 (.app 1 8 (.t 36) (.t 38)),.W 4 (.asg (.t 39))] [4,13,14,15] [4]))))) (.reg false [.V 40 (.bin .add (.t 15) (.c (.int .i64 1))),.V 15 (.mv (.t 40))] [4,13,14,15] [4])))
def impl_ReadList_k1 : C :=
 .norm [4,13,14,15] [4] impl_ReadList_k0
def impl_ReadList_k2 : C :=
 .seq (.reg false [.V 41 (.mv (.t 4)),.W 2 (.asg (.t 41)),.V 3 (.asg (.c (.bool true)))] [2,3] [2,4]) .ret
def impl_ReadList_ir : Fn := { np := 1,io := [],res := [.t 2,.t 3],own := [true,false],body :=
 (.seq (.reg false [.W 2 (.asg (.c (.nils 1))),.V 3 (.asg (.c (.bool false)))] [0] []) (.seq (.seq (.reg false [.V 9 (.mv (.t 0)),.V 10 (.bin .eql (.t 9) (.c (.str [45])))] [0,10] []) (.cond (.t 10) (.seq (.reg false [.W 2 (.asg (.c (.nils 1))),.V 3 (.asg (.c (.bool true)))] [2,3] [2,4]) .ret) .skip)) (.seq (.reg false [.V 11 (.bsl 1 (.int .i64 0) 0 []),.W 4 (.asg (.t 11))] [0,4] [4]) (.seq (.seq (.reg false [.V 12 (.mv (.t 0)),.V 13 (.call (.c (.fn 683 [])) [.t 12,.c (.str [44])]),.V 14 (.len (.t 13)),.V 15 (.mv (.c (.int .i64 0)))] [4,13,14,15] [4]) (.block 0 (.loop impl_ReadList_k1))) impl_ReadList_k2)))) }
noncomputable def impl_ReadList_D : List (Nat × Callee) := [(23,impl_within_c),(522,impl_ReadDecimal_c),(683,strings_Split_c)]
def impl_ReadList_H : List (Nat × ET) := [(2,(.one (.int .i64))),(4,(.one (.int .i64))),(11,(.one (.int .i64))),(13,(.one .str)),(32,(.one (.int .i64))),(36,(.one (.int .i64))),(38,(.one (.int .i64))),(39,(.one (.int .i64))),(41,(.one (.int .i64)))]
noncomputable def impl_ReadList_c : Callee := mkCallee impl_ReadList_D impl_ReadList_H impl_ReadList_ir [.d (.one .str)] [.tok (.one (.int .i64)),.d (.one .bool)] []
noncomputable def impl_ReadList (a0 : List UInt8) : Option (List Int × Bool) := impl_ReadList_c.f (a0,())
noncomputable def impl_ReadList_p0  (v13 : List (List UInt8)) (v14 : Int) (v15 : Int) (r4 : List Int) : Option (List Int × Bool) :=
 goL impl_ReadList_D impl_ReadList_H (vleave impl_ReadList_ir [.d (.one .str)] [.tok (.one (.int .i64)),.d (.one .bool)] [] []) [.c impl_ReadList_k0,.l impl_ReadList_k1,.e 0,.c impl_ReadList_k2]
  ⟨[(4,.view 4 0 r4.length),(13,.sl (.one .str) v13),(14,.int .i64 v14),(15,.int .i64 v15)],[(4,some (.sl (.one (.int .i64)) r4))]⟩
theorem impl_ReadList_eq (a0 : List UInt8) : impl_ReadList a0 =
 if (a0 == [45]) then
  some ([],true)
 else
  (strings_Split a0 [44]).bind fun x1 =>
   impl_ReadList_p0 x1 (x1.length : Int) 0 [] :=
 (mk_f _ _ _ _ _ _ _ 4000).trans (by kernel_rfl)
theorem impl_ReadList_p0_eq  (v13 : List (List UInt8)) (v14 : Int) (v15 : Int) (r4 : List Int) : impl_ReadList_p0 v13 v14 v15 r4 =
 if decide (v15 < v14) then
  if decide (0 ≤ v15) then
   (v13[v15.toNat]?).bind fun x1 =>
    (impl_ReadDecimal x1).bind fun x2 =>
     if (!x2.2) then
      some ([],false)
     else
      (impl_within x2.1 (-1000000000000) 1000000000000).bind fun x3 =>
       if (!x3) then
        some ([],false)
       else
        if ((r4.length : Int) == 64) then
         some ([],false)
        else
         if decide (r4.length + 1 < lim) then
          impl_ReadList_p0 v13 v14 (IntKind.i64.wrap (v15 + 1)) ((r4.take r4.length) ++ [x2.1])
         else
          none
  else
   none
 else
  some ((r4.take r4.length),true) :=
 (goL_dn _ _ _ 4000 _ _).trans (by kernel_rfl)
def impl_ReadRental_k0 : C :=
 .seq (.reg true [⟨some 29,false,.mv (.t 4),none,false,[7]⟩,⟨some 30,false,.ia 1 (.t 29) (.c (.int .i64 0)),none,false,[7]⟩,⟨some 31,false,.ld none (.t 30),none,false,[7]⟩,⟨some 32,false,.mv (.t 4),none,false,[7]⟩,⟨some 33,false,.ia 1 (.t 32) (.c (.int .i64 1)),none,false,[7]⟩,⟨some 34,false,.ld none (.t 33),none,false,[7]⟩,⟨some 35,false,.mv (.t 5),none,false,[7]⟩,⟨some 36,false,.ia 1 (.t 35) (.c (.int .i64 0)),none,false,[7]⟩,⟨some 37,false,.ld none (.t 36),none,false,[7]⟩,⟨some 38,false,.mv (.t 5),none,false,[7]⟩,⟨some 39,false,.ia 1 (.t 38) (.c (.int .i64 1)),none,false,[7]⟩,⟨some 40,false,.ld none (.t 39),none,false,[7]⟩,⟨some 41,false,.mv (.t 5),none,false,[7]⟩,⟨some 42,false,.ia 1 (.t 41) (.c (.int .i64 2)),none,false,[7]⟩,⟨some 43,false,.ld none (.t 42),none,false,[7]⟩,⟨some 44,false,.build [.str [],.str [],.int .i64 0,.int .i64 0,.int .i64 0] [(0,1,.t 31),(1,1,.t 34),(2,1,.t 37),(3,1,.t 40),(4,1,.t 43)],none,false,[7]⟩,.W 7 (.alloc 5 (.agg [.str [],.str [],.int .i64 0,.int .i64 0,.int .i64 0])),⟨none,true,.sto 5 (.t 7) (.t 44),none,false,[]⟩] [0,2,7] [2,7]) (.seq (.seq (.reg false [.V 45 (.ld (some 5) (.t 7)),.V 46 (.call (.c (.fn 831 [])) [.t 45]),.V 47 (.mv (.t 0)),.V 48 (.bin .neq (.t 46) (.t 47))] [2,7,48] [2,7]) (.cond (.t 48) (.seq (.reg false [.V 49 (.build [.str [],.str [],.int .i64 0,.int .i64 0,.int .i64 0] []),⟨none,true,.sto 5 (.t 2) (.t 49),none,false,[]⟩,.V 3 (.asg (.c (.bool false)))] [2,3] [2]) .ret) .skip)) (.seq (.reg false [.V 50 (.ld (some 5) (.t 7)),⟨none,true,.sto 5 (.t 2) (.t 50),none,false,[]⟩,.V 3 (.asg (.c (.bool true)))] [2,3] [2]) .ret))
def impl_ReadRental_ir : Fn := { np := 1,io := [],res := [.cell 2 (some 5),.t 3],own := [false,false],body :=
 (.seq (.reg false [.W 2 (.alloc 5 (.agg [.str [],.str [],.int .i64 0,.int .i64 0,.int .i64 0])),.V 3 (.asg (.c (.bool false)))] [0,2] [2]) (.seq (.reg false [.V 8 (.mv (.t 0)),.V 9 (.call (.c (.fn 458 [])) [.t 8]),.W 4 (.asg (.t 9))] [0,2,4] [2,4]) (.seq (.seq (.reg false [.V 10 (.mv (.t 4)),.V 11 (.len (.t 10)),.V 12 (.bin .neq (.t 11) (.c (.int .i64 3)))] [0,2,4,12] [2,4]) (.cond (.t 12) (.seq (.reg false [.V 13 (.build [.str [],.str [],.int .i64 0,.int .i64 0,.int .i64 0] []),⟨none,true,.sto 5 (.t 2) (.t 13),none,false,[]⟩,.V 3 (.asg (.c (.bool false)))] [2,3] [2]) .ret) .skip)) (.seq (.reg false [.V 15 (.mv (.t 4)),.V 16 (.ia 1 (.t 15) (.c (.int .i64 2))),.V 17 (.ld none (.t 16)),.V 18 (.call (.c (.fn 457 [])) [.t 17]),.V 14 (.mv (.t 18)),.V 19 (.ext (.t 14) 0),.V 20 (.ext (.t 14) 1),.W 5 (.asg (.t 19)),.V 6 (.asg (.t 20))] [0,2,4,5,6] [2,4,5]) (.seq (.seq (.reg false [.V 21 (.mv (.t 6)),.V 22 (.un .not (.t 21)),.V 23 (.mv (.t 22)),.G 24 (.mv (.t 5)) 2 false,.G 25 (.len (.t 24)) 2 false,.G 26 (.bin .neq (.t 25) (.c (.int .i64 3))) 2 false,.V 27 (.pick (.t 23) (.c (.bool true)) (.t 26))] [0,2,4,5,27] [2,4,5]) (.cond (.t 27) (.seq (.reg false [.V 28 (.build [.str [],.str [],.int .i64 0,.int .i64 0,.int .i64 0] []),⟨none,true,.sto 5 (.t 2) (.t 28),none,false,[]⟩,.V 3 (.asg (.c (.bool false)))] [2,3] [2]) .ret) .skip)) (.norm [0,2,4,5] [2,4,5] impl_ReadRental_k0)))))) }
noncomputable def impl_ReadRental_D : List (Nat × Callee) := [(457,impl_ReadList_c),(458,impl_SplitWords_c),(831,impl_RentalText_c)]
def impl_ReadRental_H : List (Nat × ET) := [(4,(.one .str)),(5,(.one (.int .i64))),(9,(.one .str)),(10,(.one .str)),(15,(.one .str)),(19,(.one (.int .i64))),(24,(.one (.int .i64))),(29,(.one .str)),(32,(.one .str)),(35,(.one (.int .i64))),(38,(.one (.int .i64))),(41,(.one (.int .i64)))]
noncomputable def impl_ReadRental_c : Callee := mkCallee impl_ReadRental_D impl_ReadRental_H impl_ReadRental_ir [.d (.one .str)] [.d T_Paper,.d (.one .bool)] []
noncomputable def impl_ReadRental (a0 : List UInt8) : Option (T_Paper.ty × Bool) := impl_ReadRental_c.f (a0,())
noncomputable def impl_ReadRental_p0  (v0 : List UInt8) (r2_0 : List UInt8) (r2_1 : List UInt8) (r2_2 : Int) (r2_3 : Int) (r2_4 : Int) (r4 : List (List UInt8)) (r5 : List Int) : Option (T_Paper.ty × Bool) :=
 goL impl_ReadRental_D impl_ReadRental_H (vleave impl_ReadRental_ir [.d (.one .str)] [.d T_Paper,.d (.one .bool)] [] []) [.c impl_ReadRental_k0]
  ⟨[(0,.str v0),(2,.loc 2 0 0),(4,.view 4 0 r4.length),(5,.view 5 0 r5.length)],[(2,some (.var 5 (.agg [.str r2_0,.str r2_1,.int .i64 r2_2,.int .i64 r2_3,.int .i64 r2_4]))),(4,some (.sl (.one .str) r4)),(5,some (.sl (.one (.int .i64)) r5))]⟩
theorem impl_ReadRental_eq (a0 : List UInt8) : impl_ReadRental a0 =
 (impl_SplitWords a0).bind fun x1 =>
  if ((x1.length : Int) != 3) then
   some (([],[],0,0,0,()),false)
  else
   if decide (2 < (x1.length : Int)) then
    (x1[2]?).bind fun x2 =>
     (impl_ReadList x2).bind fun x3 =>
      if (!x3.2) then
       some (([],[],0,0,0,()),false)
      else
       if ((x3.1.length : Int) != 3) then
        some (([],[],0,0,0,()),false)
       else
        impl_ReadRental_p0 a0 [] [] 0 0 0 x1 x3.1
   else
    none :=
 (mk_f _ _ _ _ _ _ _ 4000).trans (by kernel_rfl)
theorem impl_ReadRental_p0_eq  (v0 : List UInt8) (r2_0 : List UInt8) (r2_1 : List UInt8) (r2_2 : Int) (r2_3 : Int) (r2_4 : Int) (r4 : List (List UInt8)) (r5 : List Int) : impl_ReadRental_p0 v0 r2_0 r2_1 r2_2 r2_3 r2_4 r4 r5 =
 if decide (0 < (r4.length : Int)) then
  (r4[0]?).bind fun x1 =>
   if decide (1 < (r4.length : Int)) then
    (r4[1]?).bind fun x2 =>
     if decide (0 < (r5.length : Int)) then
      (r5[0]?).bind fun x3 =>
       if decide (1 < (r5.length : Int)) then
        (r5[1]?).bind fun x4 =>
         if decide (2 < (r5.length : Int)) then
          (r5[2]?).bind fun x5 =>
           (impl_RentalText (x1,x2,x3,x4,x5,())).bind fun x6 =>
            if (!(x6 == v0)) then
             some (([],[],0,0,0,()),false)
            else
             some ((x1,x2,x3,x4,x5,()),true)
         else
          none
       else
        none
     else
      none
   else
    none
 else
  none :=
 (goL_dn _ _ _ 4000 _ _).trans (by kernel_rfl)
def impl_RentalsOfBlocks_k0 : C :=
 .seq (.reg false [.V 16 (.bin .lss (.t 15) (.t 14))] [4,13,14,15,16] [4]) (.seq (.cond (.t 16) .skip (.exit 0)) (.seq (.block 1 (.seq (.reg false [.V 17 (.ia 3 (.t 13) (.t 15)),.V 18 (.ld (some 3) (.t 17)),.W 6 (.alloc 3 (.agg [.str [],.str [],.str []])),⟨none,true,.sto 3 (.t 6) (.t 18),none,false,[]⟩] [4,6,13,14,15] [4,6]) (.seq (.seq (.reg false [.V 19 (.fa 0 (.t 6)),.V 20 (.ld none (.t 19)),.V 21 (.bin .neq (.t 20) (.c (.str [114,101,110,116,97,108])))] [4,6,13,14,15,21] [4,6]) (.cond (.t 21) (.exit 1) .skip)) (.seq (.reg false [.V 23 (.fa 2 (.t 6)),.V 24 (.ld none (.t 23)),.V 25 (.call (.c (.fn 832 [])) [.t 24]),.V 22 (.mv (.t 25)),.V 26 (.ext (.t 22) 0),.V 27 (.ext (.t 22) 1),.W 7 (.alloc 5 (.agg [.str [],.str [],.int .i64 0,.int .i64 0,.int .i64 0])),⟨none,true,.sto 5 (.t 7) (.t 26),none,false,[]⟩,.V 8 (.asg (.t 27))] [4,6,7,8,13,14,15] [4,6,7]) (.seq (.block 2 (.seq (.reg false [.V 29 (.mv (.t 8)),.V 30 (.un .not (.t 29)),.V 28 (.asg (.t 30))] [4,6,7,13,14,15,28] [4,6,7]) (.cond (.t 28) (.seq (.reg false [.W 2 (.asg (.c (.nils 5))),.V 3 (.asg (.c (.int .i64 9)))] [2,3] [2,4]) .ret) (.seq (.reg false [.V 32 (.fa 0 (.t 7)),.V 33 (.ld none (.t 32)),.V 34 (.fa 1 (.t 6)),.V 35 (.ld none (.t 34)),.V 36 (.bin .neq (.t 33) (.t 35)),.V 31 (.asg (.t 36))] [4,7,13,14,15,31] [4,7]) (.cond (.t 31) (.seq (.reg false [.W 2 (.asg (.c (.nils 5))),.V 3 (.asg (.c (.int .i64 6)))] [2,3] [2,4]) .ret) .skip))))) (.reg false [.V 37 (.mv (.t 4)),.V 38 (.ld (some 5) (.t 7)),.V 39 (.bsl 5 (.agg [.str [],.str [],.int .i64 0,.int .i64 0,.int .i64 0]) 1 [(0,.t 38)]),.W 40 (.app 5 56 (.t 37) (.t 39)),.W 4 (.asg (.t 40))] [4,13,14,15] [4])))))) (.reg false [.V 41 (.bin .add (.t 15) (.c (.int .i64 1))),.V 15 (.mv (.t 41))] [4,13,14,15] [4])))
def impl_RentalsOfBlocks_k1 : C :=
 .norm [4,13,14,15] [4] impl_RentalsOfBlocks_k0
def impl_RentalsOfBlocks_k2 : C :=
 .seq (.seq (.reg false [.V 42 (.mv (.t 4)),.V 43 (.len (.t 42)),.V 44 (.call (.c (.fn 21 [])) [.t 43,.c (.int .i64 12)]),.V 45 (.un .not (.t 44))] [4,45] [4]) (.cond (.t 45) (.seq (.reg false [.W 2 (.asg (.c (.nils 5))),.V 3 (.asg (.c (.int .i64 5)))] [2,3] [2,4]) .ret) .skip)) (.seq (.reg false [.V 46 (.mv (.t 4)),.W 2 (.asg (.t 46)),.V 3 (.asg (.c (.int .i64 0)))] [2,3] [2,4]) .ret)
def impl_RentalsOfBlocks_ir : Fn := { np := 1,io := [],res := [.t 2,.t 3],own := [true,false],body :=
 (.seq (.reg false [.W 2 (.asg (.c (.nils 5))),.V 3 (.asg (.c (.int .i64 0)))] [0] []) (.seq (.seq (.reg false [.V 9 (.mv (.t 0)),.V 10 (.call (.c (.fn 569 [])) [.t 9]),.V 11 (.un .not (.t 10))] [0,11] []) (.cond (.t 11) (.seq (.reg false [.W 2 (.asg (.c (.nils 5))),.V 3 (.asg (.c (.int .i64 1)))] [2,3] [2,4]) .ret) .skip)) (.seq (.reg false [.V 12 (.bsl 5 (.agg [.str [],.str [],.int .i64 0,.int .i64 0,.int .i64 0]) 0 []),.W 4 (.asg (.t 12))] [0,4] [4]) (.seq (.seq (.reg false [.V 13 (.mv (.t 0)),.V 14 (.len (.t 13)),.V 15 (.mv (.c (.int .i64 0)))] [4,13,14,15] [4]) (.block 0 (.loop impl_RentalsOfBlocks_k1))) impl_RentalsOfBlocks_k2)))) }
noncomputable def impl_RentalsOfBlocks_D : List (Nat × Callee) := [(21,impl_few_c),(569,impl_ValidBlocks_c),(832,impl_ReadRental_c)]
def impl_RentalsOfBlocks_H : List (Nat × ET) := [(2,T_Paper),(4,T_Paper),(9,T_Block),(12,T_Paper),(13,T_Block),(37,T_Paper),(39,T_Paper),(40,T_Paper),(42,T_Paper),(46,T_Paper)]
noncomputable def impl_RentalsOfBlocks_c : Callee := mkCallee impl_RentalsOfBlocks_D impl_RentalsOfBlocks_H impl_RentalsOfBlocks_ir [.d (.one (.sl T_Block))] [.tok T_Paper,.d (.one (.int .i64))] []
noncomputable def impl_RentalsOfBlocks (a0 : List T_Block.ty) : Option (List T_Paper.ty × Int) := impl_RentalsOfBlocks_c.f (a0,())
noncomputable def impl_RentalsOfBlocks_p0  (v13 : List T_Block.ty) (v14 : Int) (v15 : Int) (r4 : List T_Paper.ty) : Option (List T_Paper.ty × Int) :=
 goL impl_RentalsOfBlocks_D impl_RentalsOfBlocks_H (vleave impl_RentalsOfBlocks_ir [.d (.one (.sl T_Block))] [.tok T_Paper,.d (.one (.int .i64))] [] []) [.c impl_RentalsOfBlocks_k0,.l impl_RentalsOfBlocks_k1,.e 0,.c impl_RentalsOfBlocks_k2]
  ⟨[(4,.view 4 0 r4.length),(13,.sl T_Block v13),(14,.int .i64 v14),(15,.int .i64 v15)],[(4,some (.sl T_Paper r4))]⟩
theorem impl_RentalsOfBlocks_eq (a0 : List T_Block.ty) : impl_RentalsOfBlocks a0 =
 (impl_ValidBlocks a0).bind fun x1 =>
  if (!x1) then
   some ([],1)
  else
   impl_RentalsOfBlocks_p0 a0 (a0.length : Int) 0 [] :=
 (mk_f _ _ _ _ _ _ _ 4000).trans (by kernel_rfl)
theorem impl_RentalsOfBlocks_p0_eq  (v13 : List T_Block.ty) (v14 : Int) (v15 : Int) (r4 : List T_Paper.ty) : impl_RentalsOfBlocks_p0 v13 v14 v15 r4 =
 if decide (v15 < v14) then
  if decide (0 ≤ v15) then
   (v13[v15.toNat]?).bind fun x1 =>
    if (!(x1.1 == [114,101,110,116,97,108])) then
     impl_RentalsOfBlocks_p0 v13 v14 (IntKind.i64.wrap (v15 + 1)) r4
    else
     (impl_ReadRental x1.2.2.1).bind fun x2 =>
      if (!x2.2) then
       some ([],9)
      else
       if (!(x2.1.1 == x1.2.1)) then
        some ([],6)
       else
        if decide (r4.length + 1 < lim) then
         impl_RentalsOfBlocks_p0 v13 v14 (IntKind.i64.wrap (v15 + 1)) ((r4.take r4.length) ++ [(x2.1.1,x2.1.2.1,x2.1.2.2.1,x2.1.2.2.2.1,x2.1.2.2.2.2.1,())])
        else
         none
  else
   none
 else
  (impl_few (r4.length : Int) 12).bind fun x3 =>
   if (!x3) then
    some ([],5)
   else
    some ((r4.take r4.length),0) :=
 (goL_dn _ _ _ 4000 _ _).trans (by kernel_rfl)
def spec_l00In_ir : Fn := { np := 3,io := [],res := [.t 6],own := [false],body :=
 (.seq (.reg false [.V 6 (.asg (.c (.bool false)))] [0,1,2] []) (.seq (.reg false [.V 7 (.mv (.t 0)),.V 8 (.mv (.t 1)),.V 9 (.bin .geq (.t 7) (.t 8)),.V 10 (.mv (.t 9)),.G 11 (.mv (.t 0)) 3 true,.G 12 (.mv (.t 2)) 3 true,.G 13 (.bin .leq (.t 11) (.t 12)) 3 true,.V 14 (.pick (.t 10) (.t 13) (.c (.bool false))),.V 6 (.asg (.t 14))] [6] []) .ret)) }
noncomputable def spec_l00In_D : List (Nat × Callee) := []
def spec_l00In_H : List (Nat × ET) := []
noncomputable def spec_l00In_c : Callee := mkCallee spec_l00In_D spec_l00In_H spec_l00In_ir [.d (.one (.int .i64)),.d (.one (.int .i64)),.d (.one (.int .i64))] [.d (.one .bool)] []
noncomputable def spec_l00In (a0 : Int) (a1 : Int) (a2 : Int) : Option (Bool) := spec_l00In_c.f (a0,a1,a2,())
theorem spec_l00In_eq (a0 : Int) (a1 : Int) (a2 : Int) : spec_l00In a0 a1 a2 =
 if decide (a0 ≥ a1) then
  some (decide (a0 ≤ a2))
 else
  some false :=
 (mk_f _ _ _ _ _ _ _ 4000).trans (by kernel_rfl)
def spec_l21Day_ir : Fn := { np := 1,io := [],res := [.t 2],own := [false],body :=
 (.seq (.reg false [.V 2 (.asg (.c (.bool false)))] [0] []) (.seq (.reg false [.V 3 (.mv (.t 0)),.V 4 (.call (.c (.fn 1 [])) [.t 3,.c (.int .i64 0),.c (.int .i64 100000)]),.V 2 (.asg (.t 4))] [2] []) .ret)) }
noncomputable def spec_l21Day_D : List (Nat × Callee) := [(1,spec_l00In_c)]
def spec_l21Day_H : List (Nat × ET) := []
noncomputable def spec_l21Day_c : Callee := mkCallee spec_l21Day_D spec_l21Day_H spec_l21Day_ir [.d (.one (.int .i64))] [.d (.one .bool)] []
noncomputable def spec_l21Day (a0 : Int) : Option (Bool) := spec_l21Day_c.f (a0,())
theorem spec_l21Day_eq (a0 : Int) : spec_l21Day a0 =
 (spec_l00In a0 0 100000).bind fun x1 =>
  some x1 :=
 (mk_f _ _ _ _ _ _ _ 4000).trans (by kernel_rfl)
def spec_l21Money_ir : Fn := { np := 1,io := [],res := [.t 2],own := [false],body :=
 (.seq (.reg false [.V 2 (.asg (.c (.bool false)))] [0] []) (.seq (.reg false [.V 3 (.mv (.t 0)),.V 4 (.call (.c (.fn 1 [])) [.t 3,.c (.int .i64 0),.c (.int .i64 10000000)]),.V 2 (.asg (.t 4))] [2] []) .ret)) }
noncomputable def spec_l21Money_D : List (Nat × Callee) := [(1,spec_l00In_c)]
def spec_l21Money_H : List (Nat × ET) := []
noncomputable def spec_l21Money_c : Callee := mkCallee spec_l21Money_D spec_l21Money_H spec_l21Money_ir [.d (.one (.int .i64))] [.d (.one .bool)] []
noncomputable def spec_l21Money (a0 : Int) : Option (Bool) := spec_l21Money_c.f (a0,())
theorem spec_l21Money_eq (a0 : Int) : spec_l21Money a0 =
 (spec_l00In a0 0 10000000).bind fun x1 =>
  some x1 :=
 (mk_f _ _ _ _ _ _ _ 4000).trans (by kernel_rfl)
def spec_l21One_ir : Fn := { np := 1,io := [],res := [.t 2],own := [false],body :=
 (.seq (.reg false [.V 2 (.asg (.c (.bool false)))] [0] []) (.seq (.reg false [.V 3 (.mv (.t 0)),.V 4 (.nilck (.t 3)),.V 5 (.fa 0 (.t 4)),.V 6 (.ld none (.t 5)),.V 7 (.call (.c (.fn 13 [])) [.t 6]),.V 8 (.mv (.t 7)),.G 9 (.mv (.t 0)) 5 true,.G 10 (.nilck (.t 9)) 5 true,.G 11 (.fa 1 (.t 10)) 5 true,.G 12 (.ld none (.t 11)) 5 true,.G 13 (.call (.c (.fn 13 [])) [.t 12]) 5 true,.V 14 (.pick (.t 8) (.t 13) (.c (.bool false))),.V 15 (.mv (.t 14)),.G 16 (.mv (.t 0)) 12 true,.G 17 (.nilck (.t 16)) 12 true,.G 18 (.fa 2 (.t 17)) 12 true,.G 19 (.ld none (.t 18)) 12 true,.G 20 (.call (.c (.fn 993 [])) [.t 19]) 12 true,.V 21 (.pick (.t 15) (.t 20) (.c (.bool false))),.V 22 (.mv (.t 21)),.G 23 (.mv (.t 0)) 19 true,.G 24 (.nilck (.t 23)) 19 true,.G 25 (.fa 3 (.t 24)) 19 true,.G 26 (.ld none (.t 25)) 19 true,.G 27 (.call (.c (.fn 1 [])) [.t 26,.c (.int .i64 1),.c (.int .i64 120)]) 19 true,.V 28 (.pick (.t 22) (.t 27) (.c (.bool false))),.V 29 (.mv (.t 28)),.G 30 (.mv (.t 0)) 26 true,.G 31 (.nilck (.t 30)) 26 true,.G 32 (.fa 4 (.t 31)) 26 true,.G 33 (.ld none (.t 32)) 26 true,.G 34 (.call (.c (.fn 994 [])) [.t 33]) 26 true,.V 35 (.pick (.t 29) (.t 34) (.c (.bool false))),.V 2 (.asg (.t 35))] [2] []) .ret)) }
noncomputable def spec_l21One_D : List (Nat × Callee) := [(1,spec_l00In_c),(13,spec_l01Name_c),(993,spec_l21Day_c),(994,spec_l21Money_c)]
def spec_l21One_H : List (Nat × ET) := []
noncomputable def spec_l21One_c : Callee := mkCallee spec_l21One_D spec_l21One_H spec_l21One_ir [.p T_Paper] [.d (.one .bool)] []
noncomputable def spec_l21One (a0 : T_Paper.ty) : Option (Bool) := spec_l21One_c.f (a0,())
theorem spec_l21One_eq (a0 : T_Paper.ty) : spec_l21One a0 =
 (spec_l01Name a0.1).bind fun x1 =>
  if x1 then
   (spec_l01Name a0.2.1).bind fun x2 =>
    if x2 then
     (spec_l21Day a0.2.2.1).bind fun x3 =>
      if x3 then
       (spec_l00In a0.2.2.2.1 1 120).bind fun x4 =>
        if x4 then
         (spec_l21Money a0.2.2.2.2.1).bind fun x5 =>
          some x5
        else
         some false
      else
       some false
    else
     some false
  else
   some false :=
 (mk_f _ _ _ _ _ _ _ 4000).trans (by kernel_rfl)
def spec_RentalText_ir : Fn := { np := 1,io := [],res := [.t 2],own := [false],body :=
 (.seq (.reg false [.W 1 (.box 5 (.t 0)),.V 2 (.asg (.c (.str [])))] [1] [1]) (.seq (.seq (.reg false [.V 3 (.call (.c (.fn 834 [])) [.t 1]),.V 4 (.un .not (.t 3))] [1,4] [1]) (.cond (.t 4) (.seq (.reg false [.V 2 (.asg (.c (.str [])))] [2] []) .ret) .skip)) (.seq (.reg false [.V 5 (.call (.c (.fn 833 [])) [.t 1]),.V 2 (.asg (.t 5))] [2] []) .ret))) }
noncomputable def spec_RentalText_D : List (Nat × Callee) := [(833,spec_l21Text_c),(834,spec_l21One_c)]
def spec_RentalText_H : List (Nat × ET) := []
noncomputable def spec_RentalText_c : Callee := mkCallee spec_RentalText_D spec_RentalText_H spec_RentalText_ir [.d T_Paper] [.d (.one .str)] []
noncomputable def spec_RentalText (a0 : T_Paper.ty) : Option (List UInt8) := spec_RentalText_c.f (a0,())
theorem spec_RentalText_eq (a0 : T_Paper.ty) : spec_RentalText a0 =
 (spec_l21One a0).bind fun x1 =>
  if (!x1) then
   some []
  else
   (spec_l21Text a0).bind fun x2 =>
    some x2 :=
 (mk_f _ _ _ _ _ _ _ 4000).trans (by kernel_rfl)
def laws_FnFrames_k0 : C :=
 .seq (.seq (.reg false [.V 128 (.mv (.t 24)),.V 129 (.mv (.t 19)),.V 130 (.len (.t 129)),.V 131 (.bin .lss (.t 128) (.t 130))] [19,22,24,131] [19,22]) (.cond (.t 131) .skip (.exit 0))) (.seq (.block 1 (.seq (.reg true [.V 134 (.mv (.t 22)),.V 135 (.mv (.t 24)),.V 136 (.ia 5 (.t 134) (.t 135)),.V 137 (.ld (some 5) (.t 136)),.V 138 (.call (.c (.fn 426 [])) [.t 137]),.V 139 (.mv (.t 19)),.V 140 (.mv (.t 24)),.V 141 (.ia 5 (.t 139) (.t 140)),.V 142 (.ld (some 5) (.t 141)),.V 143 (.call (.c (.fn 426 [])) [.t 142]),.V 144 (.bin .neq (.t 138) (.t 143))] [19,22,24,144] [19,22]) (.cond (.t 144) (.seq (.reg false [.V 4 (.asg (.c (.bool false)))] [4] []) .ret) .skip))) (.reg false [.V 132 (.mv (.t 24)),.V 133 (.bin .add (.t 132) (.c (.int .i64 1))),.V 24 (.asg (.t 133))] [19,22,24] [19,22]))
def laws_FnFrames_k1 : C :=
 .norm [19,22,24] [19,22] laws_FnFrames_k0
def laws_FnFrames_k2 : C :=
 .seq (.reg false [.V 4 (.asg (.c (.bool true)))] [4] []) .ret
def laws_FnFrames_k3 : C :=
 .seq (.seq (.reg false [.V 24 (.asg (.c (.int .i64 0)))] [19,22,24] [19,22]) (.block 0 (.loop laws_FnFrames_k1))) laws_FnFrames_k2
def laws_FnFrames_k4 : C :=
 .seq (.reg false [.V 73 (.mv (.t 5)),.V 74 (.call (.c (.fn 335 [])) [.t 73]),.V 72 (.mv (.t 74)),.V 75 (.ext (.t 72) 0),.V 76 (.ext (.t 72) 1),.V 13 (.asg (.t 75)),.V 14 (.asg (.t 76))] [1,13] []) (.seq (.reg false [.V 77 (.mv (.t 13)),.V 78 (.conv (.strBytes 1) (.t 77)),.W 15 (.asg (.t 78))] [1,15] [15]) (.seq (.reg true [.V 79 (.mv (.t 15)),.V 80 (.mv (.t 1)),.V 81 (.mv (.t 15)),.V 82 (.len (.t 81)),.V 83 (.call (.c (.fn 146 [])) [.t 80,.c (.int .i64 0),.t 82]),.V 84 (.ia 1 (.t 79) (.t 83)),.V 85 (.ld none (.t 84)),.V 86 (.mv (.t 1)),.V 87 (.call (.c (.fn 151 [])) [.t 86,.c (.int .i64 2),.c (.int .i64 255)]),.V 88 (.bin .add (.c (.int .i64 1)) (.t 87)),.V 89 (.conv (.int .u8) (.t 88)),.V 90 (.bin .xor (.t 85) (.t 89)),.V 91 (.ia 1 (.t 79) (.t 83)),⟨none,true,.sto 1 (.t 91) (.t 90),none,false,[]⟩] [1,15] [15]) (.seq (.reg false [.V 93 (.mv (.t 15)),.V 94 (.conv .bytesStr (.t 93)),.V 95 (.call (.c (.fn 430 [])) [.t 94]),.V 92 (.mv (.t 95)),.V 96 (.ext (.t 92) 0),.V 97 (.ext (.t 92) 1),.V 98 (.ext (.t 92) 2),.V 16 (.mv (.t 96)),.V 17 (.asg (.t 97)),.V 18 (.asg (.t 98))] [1,18] []) (.seq (.reg false [.V 99 (.mv (.t 1)),.V 100 (.call (.c (.fn 429 [])) [.t 99]),.W 19 (.asg (.t 100))] [18,19] [19]) (.seq (.reg false [.V 102 (.mv (.t 19)),.V 103 (.call (.c (.fn 428 [])) [.t 102]),.V 101 (.mv (.t 103)),.V 104 (.ext (.t 101) 0),.V 105 (.ext (.t 101) 1),.W 20 (.asg (.t 104)),.V 21 (.asg (.t 105))] [18,19,20,21] [19,20]) (.seq (.reg false [.V 107 (.mv (.t 20)),.V 108 (.call (.c (.fn 427 [])) [.t 107]),.V 106 (.mv (.t 108)),.V 109 (.ext (.t 106) 0),.V 110 (.ext (.t 106) 1),.W 22 (.asg (.t 109)),.V 23 (.asg (.t 110))] [18,19,21,22,23] [19,22]) (.seq (.seq (.reg false [.V 111 (.mv (.t 18)),.V 112 (.bin .eql (.t 111) (.c (.int .i64 0))),.V 113 (.mv (.t 112)),.G 114 (.mv (.t 21)) 2 false,.G 115 (.bin .neq (.t 114) (.c (.int .i64 0))) 2 false,.V 116 (.pick (.t 113) (.c (.bool true)) (.t 115)),.V 117 (.mv (.t 116)),.G 118 (.mv (.t 23)) 6 false,.G 119 (.bin .neq (.t 118) (.c (.int .i64 0))) 6 false,.V 120 (.pick (.t 117) (.c (.bool true)) (.t 119)),.V 121 (.mv (.t 120)),.G 122 (.mv (.t 22)) 10 false,.G 123 (.len (.t 122)) 10 false,.G 124 (.mv (.t 19)) 10 false,.G 125 (.len (.t 124)) 10 false,.G 126 (.bin .neq (.t 123) (.t 125)) 10 false,.V 127 (.pick (.t 121) (.c (.bool true)) (.t 126))] [19,22,127] [19,22]) (.cond (.t 127) (.seq (.reg false [.V 4 (.asg (.c (.bool false)))] [4] []) .ret) .skip)) (.norm [19,22] [19,22] laws_FnFrames_k3))))))))
def laws_FnFrames_ir : Fn := { np := 2,io := [],res := [.t 4],own := [false],body :=
 (.seq (.reg false [.V 4 (.asg (.c (.bool false)))] [0,1] []) (.seq (.seq (.reg false [.V 25 (.mv (.t 0)),.V 26 (.mv (.t 1)),.V 27 (.call (.c (.fn 89 [])) [.t 25,.t 26])] [0,1,27] []) (.cond (.t 27) (.seq (.reg false [.V 4 (.asg (.c (.bool true)))] [4] []) .ret) .skip)) (.seq (.reg false [.V 28 (.mv (.t 0)),.V 29 (.call (.c (.fn 193 [])) [.t 28]),.W 5 (.asg (.t 29))] [1,5] [5]) (.seq (.reg false [.V 31 (.mv (.t 5)),.V 32 (.call (.c (.fn 431 [])) [.t 31]),.V 30 (.mv (.t 32)),.V 33 (.ext (.t 30) 0),.V 34 (.ext (.t 30) 1),.V 6 (.asg (.t 33)),.V 7 (.asg (.t 34))] [1,5,6,7] [5]) (.seq (.reg false [.V 36 (.mv (.t 6)),.V 37 (.call (.c (.fn 430 [])) [.t 36]),.V 35 (.mv (.t 37)),.V 38 (.ext (.t 35) 0),.V 39 (.ext (.t 35) 1),.V 40 (.ext (.t 35) 2),.W 8 (.asg (.t 38)),.V 9 (.asg (.t 39)),.V 10 (.asg (.t 40))] [1,5,6,7,8,9,10] [5,8]) (.seq (.reg false [.V 41 (.mv (.t 6)),.V 42 (.call (.c (.fn 334 [])) [.t 41]),.W 11 (.asg (.t 42))] [1,5,6,7,8,9,10,11] [5,8,11]) (.seq (.reg false [.V 43 (.mv (.t 6)),.V 44 (.call (.c (.fn 333 [])) [.t 43]),.W 12 (.asg (.t 44))] [1,5,7,8,9,10,11,12] [5,8,11,12]) (.seq (.seq (.reg false [.V 45 (.mv (.t 7)),.V 46 (.bin .neq (.t 45) (.c (.int .i64 0))),.V 47 (.mv (.t 46)),.G 48 (.mv (.t 10)) 2 false,.G 49 (.bin .neq (.t 48) (.c (.int .i64 0))) 2 false,.V 50 (.pick (.t 47) (.c (.bool true)) (.t 49)),.V 51 (.mv (.t 50)),.G 52 (.mv (.t 9)) 6 false,.G 53 (.bin .neq (.t 52) (.c (.int .i64 0))) 6 false,.V 54 (.pick (.t 51) (.c (.bool true)) (.t 53)),.V 55 (.mv (.t 54)),.G 56 (.mv (.t 8)) 10 false,.G 57 (.mv (.t 5)) 10 false,.G 58 (.call (.c (.fn 187 [])) [.t 56,.t 57]) 10 false,.G 59 (.un .not (.t 58)) 10 false,.V 60 (.pick (.t 55) (.c (.bool true)) (.t 59)),.V 61 (.mv (.t 60)),.G 62 (.mv (.t 11)) 16 false,.G 63 (.len (.t 62)) 16 false,.G 64 (.bin .neq (.t 63) (.c (.int .i64 0))) 16 false,.V 65 (.pick (.t 61) (.c (.bool true)) (.t 64)),.V 66 (.mv (.t 65)),.G 67 (.mv (.t 12)) 21 false,.G 68 (.mv (.t 5)) 21 false,.G 69 (.call (.c (.fn 187 [])) [.t 67,.t 68]) 21 false,.G 70 (.un .not (.t 69)) 21 false,.V 71 (.pick (.t 66) (.c (.bool true)) (.t 70))] [1,5,71] [5]) (.cond (.t 71) (.seq (.reg false [.V 4 (.asg (.c (.bool false)))] [4] []) .ret) .skip)) (.norm [1,5] [5] laws_FnFrames_k4))))))))) }
noncomputable def laws_FnFrames_D : List (Nat × Callee) := [(89,laws_r8Long_c),(146,laws_r8Wide_c),(151,laws_r8At_c),(187,spec_SameBlocks_c),(193,spec_R8Blocks_c),(333,impl_SalvageBlocks_c),(334,impl_DamagedLines_c),(335,spec_SaveBlocks_c),(426,spec_RentalText_c),(427,impl_RentalsOfBlocks_c),(428,impl_BlocksOfRentals_c),(429,spec_R8Rentals_c),(430,impl_LoadBlocks_c),(431,impl_SaveBlocks_c)]
def laws_FnFrames_H : List (Nat × ET) := [(5,T_Block),(8,T_Block),(11,(.one (.int .i64))),(12,T_Block),(15,(.one (.int .u8))),(16,T_Block),(19,T_Paper),(20,T_Block),(22,T_Paper),(25,(.one (.int .u8))),(26,(.one (.int .u8))),(28,(.one (.int .u8))),(29,T_Block),(31,T_Block),(38,T_Block),(42,(.one (.int .i64))),(44,T_Block),(56,T_Block),(57,T_Block),(62,(.one (.int .i64))),(67,T_Block),(68,T_Block),(73,T_Block),(78,(.one (.int .u8))),(79,(.one (.int .u8))),(80,(.one (.int .u8))),(81,(.one (.int .u8))),(86,(.one (.int .u8))),(93,(.one (.int .u8))),(96,T_Block),(99,(.one (.int .u8))),(100,T_Paper),(102,T_Paper),(104,T_Block),(107,T_Block),(109,T_Paper),(122,T_Paper),(124,T_Paper),(129,T_Paper),(134,T_Paper),(139,T_Paper)]
noncomputable def laws_FnFrames_c : Callee := mkCallee laws_FnFrames_D laws_FnFrames_H laws_FnFrames_ir [.d (.one (.sl (.one (.int .u8)))),.d (.one (.sl (.one (.int .u8))))] [.d (.one .bool)] []
noncomputable def laws_FnFrames (a0 : List Int) (a1 : List Int) : Option (Bool) := laws_FnFrames_c.f (a0,a1,())
noncomputable def laws_FnFrames_p0  (v1 : List Int) (v5 : List T_Block.ty) : Option (Bool) :=
 goL laws_FnFrames_D laws_FnFrames_H (vleave laws_FnFrames_ir [.d (.one (.sl (.one (.int .u8)))),.d (.one (.sl (.one (.int .u8))))] [.d (.one .bool)] [] []) [.c laws_FnFrames_k4]
  ⟨[(1,.sl (.one (.int .u8)) v1),(5,.sl T_Block v5)],[(5,none)]⟩
noncomputable def laws_FnFrames_p1  (r19 : List T_Paper.ty) (r22 : List T_Paper.ty) : Option (Bool) :=
 goL laws_FnFrames_D laws_FnFrames_H (vleave laws_FnFrames_ir [.d (.one (.sl (.one (.int .u8)))),.d (.one (.sl (.one (.int .u8))))] [.d (.one .bool)] [] []) [.c laws_FnFrames_k3]
  ⟨[(19,.view 19 0 r19.length),(22,.view 22 0 r22.length)],[(19,some (.sl T_Paper r19)),(22,some (.sl T_Paper r22))]⟩
noncomputable def laws_FnFrames_p2  (v24 : Int) (r19 : List T_Paper.ty) (r22 : List T_Paper.ty) : Option (Bool) :=
 goL laws_FnFrames_D laws_FnFrames_H (vleave laws_FnFrames_ir [.d (.one (.sl (.one (.int .u8)))),.d (.one (.sl (.one (.int .u8))))] [.d (.one .bool)] [] []) [.c laws_FnFrames_k0,.l laws_FnFrames_k1,.e 0,.c laws_FnFrames_k2]
  ⟨[(19,.view 19 0 r19.length),(22,.view 22 0 r22.length),(24,.int .i64 v24)],[(19,some (.sl T_Paper r19)),(22,some (.sl T_Paper r22))]⟩
theorem laws_FnFrames_eq (a0 : List Int) (a1 : List Int) : laws_FnFrames a0 a1 =
 (laws_r8Long a0 a1).bind fun x1 =>
  if x1 then
   some true
  else
   (spec_R8Blocks a0).bind fun x2 =>
    (impl_SaveBlocks x2).bind fun x3 =>
     (impl_LoadBlocks x3.1).bind fun x4 =>
      (impl_DamagedLines x3.1).bind fun x5 =>
       (impl_SalvageBlocks x3.1).bind fun x6 =>
        if (x3.2 != 0) then
         some false
        else
         if (x4.2.2 != 0) then
          some false
         else
          if (x4.2.1 != 0) then
           some false
          else
           (spec_SameBlocks (x4.1.take x4.1.length) x2).bind fun x7 =>
            if (!x7) then
             some false
            else
             if ((x5.length : Int) != 0) then
              some false
             else
              (spec_SameBlocks x6 x2).bind fun x8 =>
               if (!x8) then
                some false
               else
                laws_FnFrames_p0 a1 x2 :=
 (mk_f _ _ _ _ _ _ _ 4000).trans (by kernel_rfl)
theorem laws_FnFrames_p0_eq  (v1 : List Int) (v5 : List T_Block.ty) : laws_FnFrames_p0 v1 v5 =
 (spec_SaveBlocks v5).bind fun x1 =>
  (laws_r8Wide v1 0 ((x1.1.map fun b => (b.toNat : Int)).length : Int)).bind fun x2 =>
   if decide (0 ≤ x2) && decide (x2 < ((x1.1.map fun b => (b.toNat : Int)).length : Int)) then
    ((x1.1.map fun b => (b.toNat : Int))[x2.toNat]?).bind fun x3 =>
     (laws_r8At v1 2 255).bind fun x4 =>
      if decide (0 ≤ x2) && decide (x2 < ((x1.1.map fun b => (b.toNat : Int)).length : Int)) then
       ((x1.1.map fun b => (b.toNat : Int))[x2.toNat]?).bind fun x5 =>
        (impl_LoadBlocks ((((x1.1.map fun b => (b.toNat : Int)).set x2.toNat (IntKind.u8.wrap ((BitVec.ofInt IntKind.u8.bits x3 ^^^ BitVec.ofInt IntKind.u8.bits (IntKind.u8.wrap (IntKind.i64.wrap (1 + x4)))).toNat : Int))).take ((x1.1.map fun b => (b.toNat : Int)).length)).map vu8)).bind fun x6 =>
         (spec_R8Rentals v1).bind fun x7 =>
          (impl_BlocksOfRentals (x7.take x7.length)).bind fun x8 =>
           (impl_RentalsOfBlocks (x8.1.take x8.1.length)).bind fun x9 =>
            if (x6.2.2 == 0) then
             some false
            else
             if (x8.2 != 0) then
              some false
             else
              if (x9.2 != 0) then
               some false
              else
               if ((x9.1.length : Int) != (x7.length : Int)) then
                some false
               else
                laws_FnFrames_p1 x7 x9.1
      else
       none
   else
    none :=
 (goL_dn _ _ _ 4000 _ _).trans (by kernel_rfl)
theorem laws_FnFrames_p1_eq  (r19 : List T_Paper.ty) (r22 : List T_Paper.ty) : laws_FnFrames_p1 r19 r22 =
 laws_FnFrames_p2 0 r19 r22 :=
 (goL_dn _ _ _ 4000 _ _).trans (by kernel_rfl)
theorem laws_FnFrames_p2_eq  (v24 : Int) (r19 : List T_Paper.ty) (r22 : List T_Paper.ty) : laws_FnFrames_p2 v24 r19 r22 =
 if decide (v24 < (r19.length : Int)) then
  if decide (0 ≤ v24) && decide (v24 < (r22.length : Int)) then
   (r22[v24.toNat]?).bind fun x1 =>
    (spec_RentalText x1).bind fun x2 =>
     if decide (0 ≤ v24) && decide (v24 < (r19.length : Int)) then
      (r19[v24.toNat]?).bind fun x3 =>
       (spec_RentalText x3).bind fun x4 =>
        if (!(x2 == x4)) then
         some false
        else
         laws_FnFrames_p2 (IntKind.i64.wrap (v24 + 1)) r19 r22
     else
      none
  else
   none
 else
  some true :=
 (goL_dn _ _ _ 4000 _ _).trans (by kernel_rfl)
end Go.Ab.P
