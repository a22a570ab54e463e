/- Functions of the program: abstract forms, and what their runs give. Conditions: none. -/
import Derived.Test.YtflhphejcnomaaaGreatDoorL4
set_option maxRecDepth 100000
set_option linter.unusedVariables false
namespace Go.Ab.P
open Go.Ab
@[reducible] def T_Problem : ET := .agg (.cons (.int .i64) (.cons .str (.cons .str .nil)))
@[reducible] def T_Pot : ET := .agg (.cons .str (.cons (.int .i64) (.cons (.int .i64) (.cons (.int .i64) (.cons (.int .i64) .nil)))))
@[reducible] def T_Neck : ET := .agg (.cons (.int .i64) (.cons (.int .i64) (.cons (.int .i64) (.cons (.int .i64) .nil))))
@[reducible] def T_Step : ET := .agg (.cons .str (.cons (.int .i64) (.cons (.int .i64) (.cons (.sl (.one (.int .i64))) .nil))))
@[reducible] def T_Peg : ET := .agg (.cons .str (.cons (.int .i64) (.cons (.int .i64) (.cons (.int .i64) .nil))))
@[reducible] def T_Mode : ET := .agg (.cons .str (.cons (.int .i64) (.cons (.int .i64) .nil)))
@[reducible] def T_Deed : ET := .agg (.cons .str (.cons .str (.cons (.int .i64) (.cons (.int .i64) .nil))))
@[reducible] def T_Block : ET := .agg (.cons .str (.cons .str (.cons .str .nil)))
@[reducible] def T_Paper : ET := .agg (.cons .str (.cons .str (.cons (.int .i64) (.cons (.int .i64) (.cons (.int .i64) .nil)))))
@[reducible] def T_Desk : ET := .agg (.cons (.sl T_Peg) (.cons (.sl T_Mode) (.cons (.sl (.one (.sl (.one (.int .i64))))) (.cons (.int .i64) (.cons (.int .i64) (.cons (.int .i64) (.cons (.int .i64) (.cons (.sl T_Peg) (.cons (.sl T_Pot) (.cons (.sl T_Mode) (.cons (.sl T_Peg) (.cons (.sl T_Paper) .nil))))))))))))
@[reducible] def T_Arc : ET := .agg (.cons (.int .i64) (.cons (.int .i64) (.cons (.int .i64) (.cons (.int .i64) (.cons (.int .i64) (.cons (.int .i64) .nil))))))
@[reducible] def T_Entry : ET := .agg (.cons (.int .i64) (.cons .str (.cons .str (.cons (.int .i64) .nil))))
@[reducible] def T_Shop : ET := .agg (.cons (.sl T_Arc) (.cons (.sl T_Neck) (.cons (.int .i64) (.cons (.sl T_Step) (.cons (.sl (.one (.int .i64))) (.cons (.int .i64) (.cons (.sl T_Paper) (.cons (.sl T_Entry) .nil))))))))
@[reducible] def T_Setting : ET := .agg (.cons .str (.cons (.int .i64) .nil))
@[reducible] def T_Version : ET := .agg (.cons (.int .i64) (.cons (.int .i64) (.cons .str (.cons (.sl T_Setting) .nil))))
@[reducible] def T_Point : ET := .agg (.cons (.int .i64) (.cons (.int .i64) .nil))
@[reducible] def T_Grant : ET := .agg (.cons .str (.cons .str (.cons (.int .i64) .nil)))
@[reducible] def T_Role : ET := .agg (.cons .str (.cons (.sl (.one .str)) .nil))
@[reducible] def T_matching : ET := .agg (.cons (.sl T_Mode) (.cons (.sl T_Mode) (.cons (.sl (.one .bool)) (.cons (.int .i64) (.cons (.sl (.one (.int .i64))) (.cons (.int .i64) (.cons (.sl (.one (.int .i64))) (.cons (.int .i64) (.cons .bool .nil)))))))))
@[reducible] def T_cutting : ET := .agg (.cons (.sl T_Mode) (.cons (.int .i64) (.cons (.int .i64) (.cons (.sl (.one (.int .i64))) (.cons (.sl (.one (.int .i64))) (.cons (.int .i64) (.cons (.int .i64) .nil)))))))
@[reducible] def T_link : ET := .agg (.cons .bool (.cons (.int .i64) (.cons (.int .i64) .nil)))
@[reducible] def T_gluing : ET := .agg (.cons (.sl T_Pot) (.cons (.sl (.one (.int .i64))) (.cons (.sl (.one (.int .i64))) (.cons (.int .i64) (.cons (.sl (.one (.int .i64))) (.cons (.int .i64) (.cons (.sl (.one (.int .i64))) (.cons (.int .i64) (.cons .bool .nil)))))))))
@[reducible] def T_Change : ET := .agg (.cons (.int .i64) (.cons .str (.cons (.int .i64) .nil)))
@[reducible] def T_placing : ET := .agg (.cons (.sl T_Peg) (.cons (.sl (.one (.sl (.one (.int .i64))))) (.cons (.int .i64) .nil)))
@[reducible] def T_trusting : ET := .agg (.cons (.sl T_Paper) (.cons (.int .i64) (.cons (.sl (.one (.int .i64))) (.cons (.int .i64) (.cons (.sl (.one (.int .i64))) (.cons (.int .i64) .nil))))))
@[reducible] def T_l00Src : ET := .agg (.cons (.sl (.one (.int .u8))) (.cons (.int .i64) (.cons (.int .u64) .nil)))
@[reducible] def T_arguments : ET := .agg (.cons (.sl (.one (.int .i64))) (.cons (.sl (.one (.int .i64))) (.cons (.int .i64) (.cons .str .nil))))
@[reducible] def T_l14Search : ET := .agg (.cons (.sl T_Pot) (.cons (.sl (.one (.int .i64))) (.cons (.sl (.one (.int .i64))) (.cons (.sl (.one (.int .i64))) (.cons (.sl (.one (.int .i64))) (.cons (.int .i64) (.cons (.int .i64) (.cons (.int .i64) (.cons .bool .nil)))))))))
@[reducible] def T_l06Search : ET := .agg (.cons (.sl T_Mode) (.cons (.int .i64) (.cons (.int .i64) (.cons (.int .i64) (.cons (.sl (.one (.int .i64))) (.cons (.sl (.one (.int .i64))) (.cons (.int .i64) (.cons (.int .i64) (.cons .bool .nil)))))))))
@[reducible] def T_l20Search : ET := .agg (.cons (.sl T_Paper) (.cons (.sl (.one (.int .i64))) (.cons (.sl (.one (.int .i64))) (.cons (.int .i64) (.cons (.int .i64) (.cons (.int .i64) (.cons .bool .nil)))))))
@[reducible] def T_l18Search : ET := .agg (.cons (.sl T_Peg) (.cons (.sl (.one (.sl (.one (.int .i64))))) (.cons (.int .i64) (.cons (.int .i64) (.cons .bool .nil)))))
/- laws.b10Long -/
def laws_b10Long_ir : Fn := { np := 1, io := [], res := [.t 2], own := [false], body :=
 (.seq (.reg false [⟨some 2, false, .asg (.c (.bool false)), none, false, []⟩] [0] []) (.seq (.reg false [⟨some 3, false, .mv (.t 0), none, false, []⟩, ⟨some 4, false, .len (.t 3), none, false, []⟩, ⟨some 5, false, .bin .gtr (.t 4) (.c (.int .i64 1048576)), none, false, []⟩, ⟨some 2, false, .asg (.t 5), none, false, []⟩] [2] []) .ret)) }
noncomputable def laws_b10Long_D : List (Nat × Callee) := []
def laws_b10Long_H : List (Nat × ET) := [(3, (.one (.int .u8)))]
noncomputable def laws_b10Long_c : Callee := mkCallee laws_b10Long_D laws_b10Long_H laws_b10Long_ir [.d (.one (.sl (.one (.int .u8))))] [.d (.one .bool)] []
noncomputable def laws_b10Long (a0 : List Int) : Option (Bool) := laws_b10Long_c.f (a0, ())
theorem laws_b10Long_eq (a0 : List Int) : laws_b10Long a0 =
  some (decide ((a0.length : Int) > 1048576)) :=
 (mk_f _ _ _ _ _ _ _ 4000).trans (by kernel_rfl)

/- spec.l00From -/
def spec_l00From_ir : Fn := { np := 1, io := [], res := [.t 2], own := [true], body :=
 (.seq (.reg false [⟨some 2, false, .asg (.c (.cst (.pointer none))), none, false, []⟩] [0] []) (.seq (.reg false [⟨some 3, false, .mv (.t 0), none, false, []⟩, ⟨some 4, false, .build [.nils 1, .int .i64 0, .int .u64 0] [(0, 1, .t 3)], none, false, []⟩, ⟨some 5, true, .box 3 (.t 4), none, false, []⟩, ⟨some 2, false, .asg (.t 5), none, false, []⟩] [2] [5, 6000]) .ret)) }
noncomputable def spec_l00From_D : List (Nat × Callee) := []
def spec_l00From_H : List (Nat × ET) := [(3, (.one (.int .u8)))]
noncomputable def spec_l00From_c : Callee := mkCallee spec_l00From_D spec_l00From_H spec_l00From_ir [.d (.one (.sl (.one (.int .u8))))] [.box T_l00Src] []
noncomputable def spec_l00From (a0 : List Int) : Option (T_l00Src.ty) := spec_l00From_c.f (a0, ())
theorem spec_l00From_eq (a0 : List Int) : spec_l00From a0 =
  some (a0, 0, 0, ()) :=
 (mk_f _ _ _ _ _ _ _ 4000).trans (by kernel_rfl)

/- (*spec.l00Src).next -/
def spec_l00Src_next_k0 : C :=
 .seq (.reg false [⟨some 25, false, .mv (.t 0), none, false, []⟩, ⟨some 26, false, .nilck (.t 25), none, false, []⟩, ⟨some 27, false, .fa 1 (.t 26), none, false, []⟩, ⟨some 28, false, .ld none (.t 27), none, false, []⟩, ⟨some 29, false, .bin .add (.t 28) (.c (.int .i64 1)), none, false, []⟩, ⟨some 30, false, .nilck (.t 25), none, false, []⟩, ⟨some 31, false, .fa 1 (.t 30), none, false, []⟩, ⟨none, true, .sto 1 (.t 31) (.t 29), none, false, []⟩] [0, 3] [0, 1000]) (.seq (.reg false [⟨some 32, false, .mv (.t 0), none, false, []⟩, ⟨some 33, false, .mv (.t 0), none, false, []⟩, ⟨some 34, false, .nilck (.t 33), none, false, []⟩, ⟨some 35, false, .fa 2 (.t 34), none, false, []⟩, ⟨some 36, false, .ld none (.t 35), none, false, []⟩, ⟨some 37, false, .bin .mul (.t 36) (.c (.int .u64 6364136223846793005)), none, false, []⟩, ⟨some 38, false, .mv (.t 3), none, false, []⟩, ⟨some 39, false, .conv (.int .u64) (.t 38), none, false, []⟩, ⟨some 40, false, .bin .add (.t 37) (.t 39), none, false, []⟩, ⟨some 41, false, .bin .add (.t 40) (.c (.int .u64 1442695040888963407)), none, false, []⟩, ⟨some 42, false, .nilck (.t 32), none, false, []⟩, ⟨some 43, false, .fa 2 (.t 42), none, false, []⟩, ⟨none, true, .sto 1 (.t 43) (.t 41), none, false, []⟩] [0, 3] [0, 1000]) (.seq (.seq (.reg true [⟨some 44, false, .mv (.t 0), none, false, []⟩, ⟨some 45, false, .nilck (.t 44), none, false, []⟩, ⟨some 46, false, .fa 1 (.t 45), none, false, []⟩, ⟨some 47, false, .ld none (.t 46), none, false, []⟩, ⟨some 48, false, .mv (.t 0), none, false, []⟩, ⟨some 49, false, .nilck (.t 48), none, false, []⟩, ⟨some 50, false, .fa 0 (.t 49), none, false, []⟩, ⟨some 51, false, .ld none (.t 50), none, false, []⟩, ⟨some 52, false, .len (.t 51), none, false, []⟩, ⟨some 53, false, .bin .leq (.t 47) (.t 52), none, false, []⟩] [0, 3, 53] [0, 1000]) (.cond (.t 53) (.seq (.reg false [⟨some 54, false, .mv (.t 3), none, false, []⟩, ⟨some 2, false, .asg (.t 54), none, false, []⟩] [0, 2] [0, 1000]) .ret) .skip)) (.seq (.reg false [⟨some 55, false, .mv (.t 0), none, false, []⟩, ⟨some 56, false, .nilck (.t 55), none, false, []⟩, ⟨some 57, false, .fa 2 (.t 56), none, false, []⟩, ⟨some 58, false, .ld none (.t 57), none, false, []⟩, ⟨some 59, false, .bin .shr (.t 58) (.c (.int .u64 40)), none, false, []⟩, ⟨some 60, false, .bin .and (.t 59) (.c (.int .u64 255)), none, false, []⟩, ⟨some 61, false, .conv (.int .i64) (.t 60), none, false, []⟩, ⟨some 2, false, .asg (.t 61), none, false, []⟩] [0, 2] [0, 1000]) .ret)))
def spec_l00Src_next_ir : Fn := { np := 1, io := [true], res := [.t 2], own := [false], body :=
 (.seq (.reg false [⟨some 2, false, .asg (.c (.int .i64 0)), none, false, []⟩] [0] [0, 1000]) (.seq (.reg false [⟨some 3, false, .asg (.c (.int .i64 0)), none, false, []⟩] [0, 3] [0, 1000]) (.seq (.seq (.reg true [⟨some 4, false, .mv (.t 0), none, false, []⟩, ⟨some 5, false, .nilck (.t 4), none, false, []⟩, ⟨some 6, false, .fa 1 (.t 5), none, false, []⟩, ⟨some 7, false, .ld none (.t 6), none, false, []⟩, ⟨some 8, false, .mv (.t 0), none, false, []⟩, ⟨some 9, false, .nilck (.t 8), none, false, []⟩, ⟨some 10, false, .fa 0 (.t 9), none, false, []⟩, ⟨some 11, false, .ld none (.t 10), none, false, []⟩, ⟨some 12, false, .len (.t 11), none, false, []⟩, ⟨some 13, false, .bin .lss (.t 7) (.t 12), none, false, []⟩] [0, 3, 13] [0, 1000]) (.cond (.t 13) (.reg true [⟨some 14, false, .mv (.t 0), none, false, []⟩, ⟨some 15, false, .nilck (.t 14), none, false, []⟩, ⟨some 16, false, .fa 0 (.t 15), none, false, []⟩, ⟨some 17, false, .ld none (.t 16), none, false, []⟩, ⟨some 18, false, .mv (.t 0), none, false, []⟩, ⟨some 19, false, .nilck (.t 18), none, false, []⟩, ⟨some 20, false, .fa 1 (.t 19), none, false, []⟩, ⟨some 21, false, .ld none (.t 20), none, false, []⟩, ⟨some 22, false, .ia 1 (.t 17) (.t 21), none, false, []⟩, ⟨some 23, false, .ld none (.t 22), none, false, []⟩, ⟨some 24, false, .conv (.int .i64) (.t 23), none, false, []⟩, ⟨some 3, false, .asg (.t 24), none, false, []⟩] [0, 3] [0, 1000]) .skip)) (.norm [0, 3] [0, 1000] spec_l00Src_next_k0)))) }
noncomputable def spec_l00Src_next_D : List (Nat × Callee) := []
def spec_l00Src_next_H : List (Nat × ET) := [(11, (.one (.int .u8))), (17, (.one (.int .u8))), (51, (.one (.int .u8)))]
noncomputable def spec_l00Src_next_c : Callee := mkCallee spec_l00Src_next_D spec_l00Src_next_H spec_l00Src_next_ir [.box T_l00Src] [.d (.one (.int .i64))] [.box T_l00Src]
noncomputable def spec_l00Src_next (a0 : T_l00Src.ty) : Option (Int × T_l00Src.ty) := spec_l00Src_next_c.f (a0, ())
noncomputable def spec_l00Src_next_p0  (v3 : Int) (r0_0 : List Int) (r0_1 : Int) (r0_2 : Int) : Option (Int × T_l00Src.ty) :=
 goL spec_l00Src_next_D spec_l00Src_next_H (vleave spec_l00Src_next_ir [.box T_l00Src] [.d (.one (.int .i64))] [.box T_l00Src] []) [.c spec_l00Src_next_k0]
  ⟨[(0, .loc 0 0 0), (3, .int .i64 v3)], [(0, some (.var 3 (.agg [.sl (.one (.int .u8)) r0_0, .int .i64 r0_1, .int .u64 r0_2]))), (1000, none)]⟩
theorem spec_l00Src_next_eq (a0 : T_l00Src.ty) : spec_l00Src_next a0 =
  if decide (a0.2.1 < (a0.1.length : Int)) then
   if decide (0 ≤ a0.2.1) then
    (a0.1[a0.2.1.toNat]?).bind fun x1 =>
     spec_l00Src_next_p0 (IntKind.i64.wrap x1) a0.1 a0.2.1 a0.2.2.1
   else
    none
  else
   spec_l00Src_next_p0 0 a0.1 a0.2.1 a0.2.2.1 :=
 (mk_f _ _ _ _ _ _ _ 4000).trans (by kernel_rfl)
theorem spec_l00Src_next_p0_eq  (v3 : Int) (r0_0 : List Int) (r0_1 : Int) (r0_2 : Int) : spec_l00Src_next_p0 v3 r0_0 r0_1 r0_2 =
  if decide (IntKind.i64.wrap (r0_1 + 1) ≤ (r0_0.length : Int)) then
   some (v3, (r0_0, IntKind.i64.wrap (r0_1 + 1), IntKind.u64.wrap ((IntKind.u64.wrap ((IntKind.u64.wrap (r0_2 * 6364136223846793005)) + (IntKind.u64.wrap v3))) + 1442695040888963407), ()))
  else
   some (IntKind.i64.wrap (IntKind.u64.wrap ((BitVec.ofInt IntKind.u64.bits (Int.fdiv (IntKind.u64.wrap ((IntKind.u64.wrap ((IntKind.u64.wrap (r0_2 * 6364136223846793005)) + (IntKind.u64.wrap v3))) + 1442695040888963407)) (2 ^ (min (40 : Int).toNat IntKind.u64.bits))) &&& BitVec.ofInt IntKind.u64.bits 255).toNat : Int)), (r0_0, IntKind.i64.wrap (r0_1 + 1), IntKind.u64.wrap ((IntKind.u64.wrap ((IntKind.u64.wrap (r0_2 * 6364136223846793005)) + (IntKind.u64.wrap v3))) + 1442695040888963407), ())) :=
 (goL_dn _ _ _ 4000 _ _).trans (by kernel_rfl)

/- (*spec.l00Src).pick -/
def spec_l00Src_pick_ir : Fn := { np := 2, io := [true, false], res := [.t 4], own := [false], body :=
 (.seq (.reg false [⟨some 4, false, .asg (.c (.int .i64 0)), none, false, []⟩] [0, 1] [0, 1000]) (.seq (.seq (.reg false [⟨some 6, false, .mv (.t 1), none, false, []⟩, ⟨some 7, false, .bin .leq (.t 6) (.c (.int .i64 1)), none, false, []⟩] [0, 1, 7] [0, 1000]) (.cond (.t 7) (.seq (.reg false [⟨some 4, false, .asg (.c (.int .i64 0)), none, false, []⟩] [0, 4] [0, 1000]) .ret) .skip)) (.seq (.reg false [⟨some 8, false, .mv (.t 0), none, false, []⟩, ⟨some 9, true, .call (.c (.fn 847 [])) [.t 8], none, false, []⟩, ⟨some 5, false, .asg (.t 9), none, false, []⟩] [0, 1, 5] [0, 1000]) (.seq (.seq (.reg false [⟨some 10, false, .mv (.t 1), none, false, []⟩, ⟨some 11, false, .bin .gtr (.t 10) (.c (.int .i64 200)), none, false, []⟩] [0, 1, 5, 11] [0, 1000]) (.cond (.t 11) (.reg false [⟨some 12, false, .mv (.t 5), none, false, []⟩, ⟨some 13, false, .bin .mul (.t 12) (.c (.int .i64 256)), none, false, []⟩, ⟨some 14, false, .mv (.t 0), none, false, []⟩, ⟨some 15, true, .call (.c (.fn 847 [])) [.t 14], none, false, []⟩, ⟨some 16, false, .bin .add (.t 13) (.t 15), none, false, []⟩, ⟨some 5, false, .asg (.t 16), none, false, []⟩] [0, 1, 5] [0, 1000]) .skip)) (.seq (.reg false [⟨some 17, false, .mv (.t 5), none, false, []⟩, ⟨some 18, false, .mv (.t 1), none, false, []⟩, ⟨some 19, false, .bin .rem (.t 17) (.t 18), none, false, []⟩, ⟨some 4, false, .asg (.t 19), none, false, []⟩] [0, 4] [0, 1000]) .ret))))) }
noncomputable def spec_l00Src_pick_D : List (Nat × Callee) := [(847, spec_l00Src_next_c)]
def spec_l00Src_pick_H : List (Nat × ET) := []
noncomputable def spec_l00Src_pick_c : Callee := mkCallee spec_l00Src_pick_D spec_l00Src_pick_H spec_l00Src_pick_ir [.box T_l00Src, .d (.one (.int .i64))] [.d (.one (.int .i64))] [.box T_l00Src]
noncomputable def spec_l00Src_pick (a0 : T_l00Src.ty) (a1 : Int) : Option (Int × T_l00Src.ty) := spec_l00Src_pick_c.f (a0, a1, ())
theorem spec_l00Src_pick_eq (a0 : T_l00Src.ty) (a1 : Int) : spec_l00Src_pick a0 a1 =
  if decide (a1 ≤ 1) then
   some (0, a0)
  else
   (spec_l00Src_next a0).bind fun x1 =>
    if decide (a1 > 200) then
     (spec_l00Src_next (x1.2.1, x1.2.2.1, x1.2.2.2.1, ())).bind fun x2 =>
      if decide (a1 = 0) then
       none
      else
       some ((IntKind.i64.wrap ((IntKind.i64.wrap (x1.1 * 256)) + x2.1)).tmod a1, (x2.2.1, x2.2.2.1, x2.2.2.2.1, ()))
    else
     if decide (a1 = 0) then
      none
     else
      some (x1.1.tmod a1, (x1.2.1, x1.2.2.1, x1.2.2.2.1, ())) :=
 (mk_f _ _ _ _ _ _ _ 4000).trans (by kernel_rfl)

/- spec.l12DrawOne -/
def spec_l12DrawOne_ir : Fn := { np := 2, io := [true, false], res := [.cell 4 (some 4)], own := [false], body :=
 (.seq (.reg false [⟨some 4, true, .alloc 4 (.agg [.str [], .int .i64 0, .int .i64 0, .int .i64 0]), none, false, []⟩] [0, 1, 4] [0, 4, 1000]) (.seq (.reg false [⟨some 6, false, .mv (.t 1), none, false, []⟩, ⟨some 7, false, .mv (.t 0), none, false, []⟩, ⟨some 8, true, .call (.c (.fn 463 [])) [.t 7, .c (.int .i64 20)], none, false, []⟩, ⟨some 9, false, .bin .add (.c (.int .i64 50)) (.t 8), none, false, []⟩, ⟨some 10, false, .mv (.t 0), none, false, []⟩, ⟨some 11, true, .call (.c (.fn 463 [])) [.t 10, .c (.int .i64 40)], none, false, []⟩, ⟨some 12, false, .bin .mul (.c (.int .i64 10)) (.t 11), none, false, []⟩, ⟨some 13, false, .bin .add (.c (.int .i64 300)) (.t 12), none, false, []⟩, ⟨some 14, false, .build [.str [], .int .i64 0, .int .i64 0, .int .i64 0] [(0, 1, .t 6), (1, 1, .t 9), (2, 1, .t 13)], none, false, []⟩, ⟨some 5, true, .alloc 4 (.agg [.str [], .int .i64 0, .int .i64 0, .int .i64 0]), none, false, []⟩, ⟨none, true, .sto 4 (.t 5) (.t 14), none, false, []⟩] [0, 4, 5] [0, 4, 5, 1000]) (.seq (.reg false [⟨some 15, false, .mv (.t 0), none, false, []⟩, ⟨some 16, true, .call (.c (.fn 463 [])) [.t 15, .c (.int .i64 5)], none, false, []⟩, ⟨some 17, false, .bin .mul (.c (.int .i64 5)) (.t 16), none, false, []⟩, ⟨some 18, false, .bin .add (.c (.int .i64 20)) (.t 17), none, false, []⟩, ⟨some 19, false, .fa 3 (.t 5), none, false, []⟩, ⟨none, true, .sto 1 (.t 19) (.t 18), none, false, []⟩] [0, 4, 5] [0, 4, 5, 1000]) (.seq (.reg false [⟨some 20, false, .ld (some 4) (.t 5), none, false, []⟩, ⟨none, true, .sto 4 (.t 4) (.t 20), none, false, []⟩] [0, 4] [0, 4, 1000]) .ret)))) }
noncomputable def spec_l12DrawOne_D : List (Nat × Callee) := [(463, spec_l00Src_pick_c)]
def spec_l12DrawOne_H : List (Nat × ET) := []
noncomputable def spec_l12DrawOne_c : Callee := mkCallee spec_l12DrawOne_D spec_l12DrawOne_H spec_l12DrawOne_ir [.box T_l00Src, .d (.one .str)] [.d T_Peg] [.box T_l00Src]
noncomputable def spec_l12DrawOne (a0 : T_l00Src.ty) (a1 : List UInt8) : Option (T_Peg.ty × T_l00Src.ty) := spec_l12DrawOne_c.f (a0, a1, ())
theorem spec_l12DrawOne_eq (a0 : T_l00Src.ty) (a1 : List UInt8) : spec_l12DrawOne a0 a1 =
  (spec_l00Src_pick a0 20).bind fun x1 =>
   (spec_l00Src_pick (x1.2.1, x1.2.2.1, x1.2.2.2.1, ()) 40).bind fun x2 =>
    (spec_l00Src_pick (x2.2.1, x2.2.2.1, x2.2.2.2.1, ()) 5).bind fun x3 =>
     some ((a1, IntKind.i64.wrap (50 + x1.1), IntKind.i64.wrap (300 + (IntKind.i64.wrap (10 * x2.1))), IntKind.i64.wrap (20 + (IntKind.i64.wrap (5 * x3.1))), ()), (x3.2.1, x3.2.2.1, x3.2.2.2.1, ())) :=
 (mk_f _ _ _ _ _ _ _ 4000).trans (by kernel_rfl)

/- (*spec.l00Src).among -/
def spec_l00Src_among_ir : Fn := { np := 2, io := [true, false], res := [.t 4], own := [false], body :=
 (.seq (.reg false [⟨some 4, false, .asg (.c (.int .i64 0)), none, false, []⟩] [0, 1] [0, 1000]) (.seq (.reg false [⟨some 5, false, .mv (.t 1), none, false, []⟩, ⟨some 6, false, .mv (.t 0), none, false, []⟩, ⟨some 7, false, .mv (.t 1), none, false, []⟩, ⟨some 8, false, .len (.t 7), none, false, []⟩, ⟨some 9, true, .call (.c (.fn 463 [])) [.t 6, .t 8], none, false, []⟩, ⟨some 10, false, .ia 1 (.t 5) (.t 9), none, false, []⟩, ⟨some 11, false, .ld none (.t 10), none, false, []⟩, ⟨some 4, false, .asg (.t 11), none, false, []⟩] [0, 4] [0, 1000]) .ret)) }
noncomputable def spec_l00Src_among_D : List (Nat × Callee) := [(463, spec_l00Src_pick_c)]
def spec_l00Src_among_H : List (Nat × ET) := [(5, (.one (.int .i64))), (7, (.one (.int .i64)))]
noncomputable def spec_l00Src_among_c : Callee := mkCallee spec_l00Src_among_D spec_l00Src_among_H spec_l00Src_among_ir [.box T_l00Src, .d (.one (.sl (.one (.int .i64))))] [.d (.one (.int .i64))] [.box T_l00Src]
noncomputable def spec_l00Src_among (a0 : T_l00Src.ty) (a1 : List Int) : Option (Int × T_l00Src.ty) := spec_l00Src_among_c.f (a0, a1, ())
theorem spec_l00Src_among_eq (a0 : T_l00Src.ty) (a1 : List Int) : spec_l00Src_among a0 a1 =
  (spec_l00Src_pick a0 (a1.length : Int)).bind fun x1 =>
   if decide (0 ≤ x1.1) then
    (a1[x1.1.toNat]?).bind fun x2 =>
     some (x2, (x1.2.1, x1.2.2.1, x1.2.2.2.1, ()))
   else
    none :=
 (mk_f _ _ _ _ _ _ _ 4000).trans (by kernel_rfl)

/- spec.l12Bent -/
def spec_l12Bent_ir : Fn := { np := 2, io := [true, false], res := [.cell 4 (some 4)], own := [false], body :=
 (.seq (.reg false [⟨some 3, true, .box 4 (.t 1), none, false, []⟩, ⟨some 4, true, .alloc 4 (.agg [.str [], .int .i64 0, .int .i64 0, .int .i64 0]), none, false, []⟩] [0, 3, 4] [0, 3, 4, 1000]) (.seq (.seq (.reg false [⟨some 5, false, .mv (.t 0), none, false, []⟩, ⟨some 6, true, .call (.c (.fn 463 [])) [.t 5, .c (.int .i64 18)], none, false, []⟩] [0, 3, 4, 6] [0, 3, 4, 1000]) (.block 0 (.seq (.reg false [⟨some 8, false, .bin .eql (.t 6) (.c (.int .i64 0)), none, false, []⟩, ⟨some 7, false, .asg (.t 8), none, false, []⟩] [0, 3, 4, 6, 7] [0, 3, 4, 1000]) (.cond (.t 7) (.reg false [⟨some 9, false, .mv (.t 0), none, false, []⟩, ⟨some 10, false, .bsl 1 (.int .i64 0) 4 [(0, .c (.int .i64 19)), (1, .c (.int .i64 20)), (2, .c (.int .i64 200)), (3, .c (.int .i64 201))], none, false, []⟩, ⟨some 11, true, .call (.c (.fn 445 [])) [.t 9, .t 10], none, false, []⟩, ⟨some 12, false, .fa 1 (.t 3), none, false, []⟩, ⟨none, true, .sto 1 (.t 12) (.t 11), none, false, []⟩] [0, 3, 4] [0, 3, 4, 1000]) (.seq (.reg false [⟨some 14, false, .bin .eql (.t 6) (.c (.int .i64 1)), none, false, []⟩, ⟨some 13, false, .asg (.t 14), none, false, []⟩] [0, 3, 4, 6, 13] [0, 3, 4, 1000]) (.cond (.t 13) (.reg false [⟨some 15, false, .mv (.t 0), none, false, []⟩, ⟨some 16, false, .bsl 1 (.int .i64 0) 4 [(0, .c (.int .i64 99)), (1, .c (.int .i64 100)), (2, .c (.int .i64 1000)), (3, .c (.int .i64 1001))], none, false, []⟩, ⟨some 17, true, .call (.c (.fn 445 [])) [.t 15, .t 16], none, false, []⟩, ⟨some 18, false, .fa 2 (.t 3), none, false, []⟩, ⟨none, true, .sto 1 (.t 18) (.t 17), none, false, []⟩] [0, 3, 4] [0, 3, 4, 1000]) (.seq (.reg false [⟨some 20, false, .bin .eql (.t 6) (.c (.int .i64 2)), none, false, []⟩, ⟨some 19, false, .asg (.t 20), none, false, []⟩] [0, 3, 4, 19] [0, 3, 4, 1000]) (.cond (.t 19) (.reg false [⟨some 21, false, .mv (.t 0), none, false, []⟩, ⟨some 22, false, .bsl 1 (.int .i64 0) 4 [(0, .c (.int .i64 9)), (1, .c (.int .i64 10)), (2, .c (.int .i64 100)), (3, .c (.int .i64 101))], none, false, []⟩, ⟨some 23, true, .call (.c (.fn 445 [])) [.t 21, .t 22], none, false, []⟩, ⟨some 24, false, .fa 3 (.t 3), none, false, []⟩, ⟨none, true, .sto 1 (.t 24) (.t 23), none, false, []⟩] [0, 3, 4] [0, 3, 4, 1000]) .skip)))))))) (.seq (.reg false [⟨some 25, false, .ld (some 4) (.t 3), none, false, []⟩, ⟨none, true, .sto 4 (.t 4) (.t 25), none, false, []⟩] [0, 4] [0, 4, 1000]) .ret))) }
noncomputable def spec_l12Bent_D : List (Nat × Callee) := [(445, spec_l00Src_among_c), (463, spec_l00Src_pick_c)]
def spec_l12Bent_H : List (Nat × ET) := [(10, (.one (.int .i64))), (16, (.one (.int .i64))), (22, (.one (.int .i64)))]
noncomputable def spec_l12Bent_c : Callee := mkCallee spec_l12Bent_D spec_l12Bent_H spec_l12Bent_ir [.box T_l00Src, .d T_Peg] [.d T_Peg] [.box T_l00Src]
noncomputable def spec_l12Bent (a0 : T_l00Src.ty) (a1 : T_Peg.ty) : Option (T_Peg.ty × T_l00Src.ty) := spec_l12Bent_c.f (a0, a1, ())
theorem spec_l12Bent_eq (a0 : T_l00Src.ty) (a1 : T_Peg.ty) : spec_l12Bent a0 a1 =
  (spec_l00Src_pick a0 18).bind fun x1 =>
   if (x1.1 == 0) then
    (spec_l00Src_among (x1.2.1, x1.2.2.1, x1.2.2.2.1, ()) [19, 20, 200, 201]).bind fun x2 =>
     some ((a1.1, x2.1, a1.2.2.1, a1.2.2.2.1, ()), (x2.2.1, x2.2.2.1, x2.2.2.2.1, ()))
   else
    if (x1.1 == 1) then
     (spec_l00Src_among (x1.2.1, x1.2.2.1, x1.2.2.2.1, ()) [99, 100, 1000, 1001]).bind fun x3 =>
      some ((a1.1, a1.2.1, x3.1, a1.2.2.2.1, ()), (x3.2.1, x3.2.2.1, x3.2.2.2.1, ()))
    else
     if (x1.1 == 2) then
      (spec_l00Src_among (x1.2.1, x1.2.2.1, x1.2.2.2.1, ()) [9, 10, 100, 101]).bind fun x4 =>
       some ((a1.1, a1.2.1, a1.2.2.1, x4.1, ()), (x4.2.1, x4.2.2.1, x4.2.2.2.1, ()))
     else
      some (a1, (x1.2.1, x1.2.2.1, x1.2.2.2.1, ())) :=
 (mk_f _ _ _ _ _ _ _ 4000).trans (by kernel_rfl)

/- (*spec.l00Src).one -/
def spec_l00Src_one_ir : Fn := { np := 2, io := [true, false], res := [.t 4], own := [false], body :=
 (.seq (.reg false [⟨some 4, false, .asg (.c (.bool false)), none, false, []⟩] [0, 1] [0, 1000]) (.seq (.reg false [⟨some 5, false, .mv (.t 0), none, false, []⟩, ⟨some 6, false, .mv (.t 1), none, false, []⟩, ⟨some 7, true, .call (.c (.fn 463 [])) [.t 5, .t 6], none, false, []⟩, ⟨some 8, false, .bin .eql (.t 7) (.c (.int .i64 0)), none, false, []⟩, ⟨some 4, false, .asg (.t 8), none, false, []⟩] [0, 4] [0, 1000]) .ret)) }
noncomputable def spec_l00Src_one_D : List (Nat × Callee) := [(463, spec_l00Src_pick_c)]
def spec_l00Src_one_H : List (Nat × ET) := []
noncomputable def spec_l00Src_one_c : Callee := mkCallee spec_l00Src_one_D spec_l00Src_one_H spec_l00Src_one_ir [.box T_l00Src, .d (.one (.int .i64))] [.d (.one .bool)] [.box T_l00Src]
noncomputable def spec_l00Src_one (a0 : T_l00Src.ty) (a1 : Int) : Option (Bool × T_l00Src.ty) := spec_l00Src_one_c.f (a0, a1, ())
theorem spec_l00Src_one_eq (a0 : T_l00Src.ty) (a1 : Int) : spec_l00Src_one a0 a1 =
  (spec_l00Src_pick a0 a1).bind fun x1 =>
   some ((x1.1 == 0), (x1.2.1, x1.2.2.1, x1.2.2.2.1, ())) :=
 (mk_f _ _ _ _ _ _ _ 4000).trans (by kernel_rfl)

/- spec.l12DrawHole -/
def spec_l12DrawHole_ir : Fn := { np := 1, io := [true], res := [.t 2], own := [false], body :=
 (.seq (.reg false [⟨some 2, false, .asg (.c (.int .i64 0)), none, false, []⟩] [0] [0, 1000]) (.seq (.seq (.reg false [⟨some 3, false, .mv (.t 0), none, false, []⟩, ⟨some 4, true, .call (.c (.fn 642 [])) [.t 3, .c (.int .i64 9)], none, false, []⟩] [0, 4] [0, 1000]) (.cond (.t 4) (.seq (.reg false [⟨some 5, false, .mv (.t 0), none, false, []⟩, ⟨some 6, false, .bsl 1 (.int .i64 0) 4 [(0, .c (.int .i64 19)), (1, .c (.int .i64 20)), (2, .c (.int .i64 200)), (3, .c (.int .i64 201))], none, false, []⟩, ⟨some 7, true, .call (.c (.fn 445 [])) [.t 5, .t 6], none, false, []⟩, ⟨some 2, false, .asg (.t 7), none, false, []⟩] [0, 2] [0, 1000]) .ret) .skip)) (.seq (.reg false [⟨some 8, false, .mv (.t 0), none, false, []⟩, ⟨some 9, true, .call (.c (.fn 463 [])) [.t 8, .c (.int .i64 26)], none, false, []⟩, ⟨some 10, false, .bin .add (.c (.int .i64 52)) (.t 9), none, false, []⟩, ⟨some 2, false, .asg (.t 10), none, false, []⟩] [0, 2] [0, 1000]) .ret))) }
noncomputable def spec_l12DrawHole_D : List (Nat × Callee) := [(445, spec_l00Src_among_c), (463, spec_l00Src_pick_c), (642, spec_l00Src_one_c)]
def spec_l12DrawHole_H : List (Nat × ET) := [(6, (.one (.int .i64)))]
noncomputable def spec_l12DrawHole_c : Callee := mkCallee spec_l12DrawHole_D spec_l12DrawHole_H spec_l12DrawHole_ir [.box T_l00Src] [.d (.one (.int .i64))] [.box T_l00Src]
noncomputable def spec_l12DrawHole (a0 : T_l00Src.ty) : Option (Int × T_l00Src.ty) := spec_l12DrawHole_c.f (a0, ())
theorem spec_l12DrawHole_eq (a0 : T_l00Src.ty) : spec_l12DrawHole a0 =
  (spec_l00Src_one a0 9).bind fun x1 =>
   if x1.1 then
    (spec_l00Src_among (x1.2.1, x1.2.2.1, x1.2.2.2.1, ()) [19, 20, 200, 201]).bind fun x2 =>
     some (x2.1, (x2.2.1, x2.2.2.1, x2.2.2.2.1, ()))
   else
    (spec_l00Src_pick (x1.2.1, x1.2.2.1, x1.2.2.2.1, ()) 26).bind fun x3 =>
     some (IntKind.i64.wrap (52 + x3.1), (x3.2.1, x3.2.2.1, x3.2.2.2.1, ())) :=
 (mk_f _ _ _ _ _ _ _ 4000).trans (by kernel_rfl)

/- spec.DrawWayIn -/
def spec_DrawWayIn_ir : Fn := { np := 1, io := [], res := [.cell 2 (some 4), .t 3], own := [false, false], body :=
 (.seq (.reg false [⟨some 2, true, .alloc 4 (.agg [.str [], .int .i64 0, .int .i64 0, .int .i64 0]), none, false, []⟩, ⟨some 3, false, .asg (.c (.int .i64 0)), none, false, []⟩] [0, 2] [2]) (.seq (.reg false [⟨some 6, false, .mv (.t 0), none, false, []⟩, ⟨some 7, true, .call (.c (.fn 441 [])) [.t 6], none, false, []⟩, ⟨some 4, false, .asg (.t 7), none, false, []⟩] [2, 4] [2, 7, 8000]) (.seq (.reg false [⟨some 8, false, .mv (.t 4), none, false, []⟩, ⟨some 9, false, .mv (.t 4), none, false, []⟩, ⟨some 10, true, .call (.c (.fn 793 [])) [.t 9, .c (.str [112, 97])], none, false, []⟩, ⟨some 11, true, .call (.c (.fn 794 [])) [.t 8, .t 10], none, false, []⟩, ⟨some 5, true, .alloc 4 (.agg [.str [], .int .i64 0, .int .i64 0, .int .i64 0]), none, false, []⟩, ⟨none, true, .sto 4 (.t 5) (.t 11), none, false, []⟩] [2, 4, 5] [2, 5, 7, 8000]) (.seq (.reg true [⟨some 12, false, .ld (some 4) (.t 5), none, true, []⟩, ⟨some 13, false, .mv (.t 4), none, false, []⟩, ⟨some 14, true, .call (.c (.fn 792 [])) [.t 13], none, false, [5]⟩, ⟨none, true, .sto 4 (.t 2) (.t 12), none, false, []⟩, ⟨some 3, false, .asg (.t 14), none, false, []⟩] [2, 3] [2]) .ret)))) }
noncomputable def spec_DrawWayIn_D : List (Nat × Callee) := [(441, spec_l00From_c), (792, spec_l12DrawHole_c), (793, spec_l12DrawOne_c), (794, spec_l12Bent_c)]
def spec_DrawWayIn_H : List (Nat × ET) := [(6, (.one (.int .u8)))]
noncomputable def spec_DrawWayIn_c : Callee := mkCallee spec_DrawWayIn_D spec_DrawWayIn_H spec_DrawWayIn_ir [.d (.one (.sl (.one (.int .u8))))] [.d T_Peg, .d (.one (.int .i64))] []
noncomputable def spec_DrawWayIn (a0 : List Int) : Option (T_Peg.ty × Int) := spec_DrawWayIn_c.f (a0, ())
theorem spec_DrawWayIn_eq (a0 : List Int) : spec_DrawWayIn a0 =
  (spec_l00From a0).bind fun x1 =>
   (spec_l12DrawOne x1 [112, 97]).bind fun x2 =>
    (spec_l12Bent (x2.2.1, x2.2.2.1, x2.2.2.2.1, ()) (x2.1.1, x2.1.2.1, x2.1.2.2.1, x2.1.2.2.2.1, ())).bind fun x3 =>
     (spec_l12DrawHole (x3.2.1, x3.2.2.1, x3.2.2.2.1, ())).bind fun x4 =>
      some ((x3.1.1, x3.1.2.1, x3.1.2.2.1, x3.1.2.2.2.1, ()), x4.1) :=
 (mk_f _ _ _ _ _ _ _ 4000).trans (by kernel_rfl)

/- impl.isDigit -/
def impl_isDigit_ir : Fn := { np := 1, io := [], res := [.t 2], own := [false], body :=
 (.seq (.reg false [⟨some 2, false, .asg (.c (.bool false)), none, false, []⟩] [0] []) (.seq (.reg false [⟨some 3, false, .mv (.t 0), none, false, []⟩, ⟨some 4, false, .bin .geq (.t 3) (.c (.int .u8 48)), none, false, []⟩, ⟨some 5, false, .mv (.t 4), none, false, []⟩, ⟨some 6, false, .mv (.t 0), some (2, true), false, []⟩, ⟨some 7, false, .bin .leq (.t 6) (.c (.int .u8 57)), some (2, true), false, []⟩, ⟨some 8, false, .pick (.t 5) (.t 7) (.c (.bool false)), none, false, []⟩, ⟨some 2, false, .asg (.t 8), none, false, []⟩] [2] []) .ret)) }
noncomputable def impl_isDigit_D : List (Nat × Callee) := []
def impl_isDigit_H : List (Nat × ET) := []
noncomputable def impl_isDigit_c : Callee := mkCallee impl_isDigit_D impl_isDigit_H impl_isDigit_ir [.d (.one (.int .u8))] [.d (.one .bool)] []
noncomputable def impl_isDigit (a0 : Int) : Option (Bool) := impl_isDigit_c.f (a0, ())
theorem impl_isDigit_eq (a0 : Int) : impl_isDigit a0 =
  if decide (a0 ≥ 48) then
   some (decide (a0 ≤ 57))
  else
   some false :=
 (mk_f _ _ _ _ _ _ _ 4000).trans (by kernel_rfl)

/- impl.few -/
def impl_few_ir : Fn := { np := 2, io := [], res := [.t 4], own := [false], body :=
 (.seq (.reg false [⟨some 4, false, .asg (.c (.bool false)), none, false, []⟩] [0, 1] []) (.seq (.reg false [⟨some 5, false, .mv (.t 0), none, false, []⟩, ⟨some 6, false, .mv (.t 1), none, false, []⟩, ⟨some 7, false, .bin .leq (.t 5) (.t 6), none, false, []⟩, ⟨some 4, false, .asg (.t 7), none, false, []⟩] [4] []) .ret)) }
noncomputable def impl_few_D : List (Nat × Callee) := []
def impl_few_H : List (Nat × ET) := []
noncomputable def impl_few_c : Callee := mkCallee impl_few_D impl_few_H impl_few_ir [.d (.one (.int .i64)), .d (.one (.int .i64))] [.d (.one .bool)] []
noncomputable def impl_few (a0 : Int) (a1 : Int) : Option (Bool) := impl_few_c.f (a0, a1, ())
theorem impl_few_eq (a0 : Int) (a1 : Int) : impl_few a0 a1 =
  some (decide (a0 ≤ a1)) :=
 (mk_f _ _ _ _ _ _ _ 4000).trans (by kernel_rfl)

/- impl.IsName -/
def impl_IsName_k0 : C :=
 .seq (.reg false [⟨some 21, false, .mv (.t 4), none, false, []⟩, ⟨some 22, false, .un .not (.t 21), none, false, []⟩, ⟨some 23, false, .mv (.t 22), none, false, []⟩, ⟨some 24, false, .mv (.t 3), some (2, true), false, []⟩, ⟨some 25, false, .bin .eql (.t 24) (.c (.int .i64 0)), some (2, true), false, []⟩, ⟨some 26, false, .mv (.t 25), some (2, true), false, []⟩, ⟨some 27, false, .mv (.t 0), some (5, false), false, []⟩, ⟨some 28, false, .mv (.t 3), some (5, false), false, []⟩, ⟨some 29, false, .ix (.t 27) (.t 28), some (5, false), false, []⟩, ⟨some 30, false, .call (.c (.fn 22 [])) [.t 29], some (5, false), false, []⟩, ⟨some 31, false, .un .not (.t 30), some (5, false), false, []⟩, ⟨some 32, false, .pick (.t 26) (.c (.bool true)) (.t 31), some (2, true), false, []⟩, ⟨some 33, false, .pick (.t 23) (.t 32) (.c (.bool false)), none, false, []⟩] [0, 3, 33] []) (.cond (.t 33) (.seq (.reg false [⟨some 2, false, .asg (.c (.bool false)), none, false, []⟩] [2] []) .ret) .skip)
def impl_IsName_k1 : C :=
 .reg false [⟨some 9, false, .mv (.t 3), none, false, []⟩, ⟨some 10, false, .bin .add (.t 9) (.c (.int .i64 1)), none, false, []⟩, ⟨some 3, false, .asg (.t 10), none, false, []⟩] [0, 3] []
def impl_IsName_k2 : C :=
 .seq (.seq (.reg false [⟨some 5, false, .mv (.t 3), none, false, []⟩, ⟨some 6, false, .mv (.t 0), none, false, []⟩, ⟨some 7, false, .lens (.t 6), none, false, []⟩, ⟨some 8, false, .bin .lss (.t 5) (.t 7), none, false, []⟩] [0, 3, 8] []) (.cond (.t 8) .skip (.exit 0))) (.seq (.block 1 (.seq (.reg false [⟨some 11, false, .mv (.t 0), none, false, []⟩, ⟨some 12, false, .mv (.t 3), none, false, []⟩, ⟨some 13, false, .ix (.t 11) (.t 12), none, false, []⟩, ⟨some 14, false, .bin .geq (.t 13) (.c (.int .u8 97)), none, false, []⟩, ⟨some 15, false, .mv (.t 14), none, false, []⟩, ⟨some 16, false, .mv (.t 0), some (4, true), false, []⟩, ⟨some 17, false, .mv (.t 3), some (4, true), false, []⟩, ⟨some 18, false, .ix (.t 16) (.t 17), some (4, true), false, []⟩, ⟨some 19, false, .bin .leq (.t 18) (.c (.int .u8 122)), some (4, true), false, []⟩, ⟨some 20, false, .pick (.t 15) (.t 19) (.c (.bool false)), none, false, []⟩, ⟨some 4, false, .asg (.t 20), none, false, []⟩] [0, 3, 4] []) (.norm [0, 3, 4] [] impl_IsName_k0))) impl_IsName_k1)
def impl_IsName_k3 : C :=
 .norm [0, 3] [] impl_IsName_k2
def impl_IsName_k4 : C :=
 .seq (.reg false [⟨some 34, false, .mv (.t 0), none, false, []⟩, ⟨some 35, false, .bin .neq (.t 34) (.c (.str [])), none, false, []⟩, ⟨some 36, false, .mv (.t 35), none, false, []⟩, ⟨some 37, false, .mv (.t 0), some (2, true), false, []⟩, ⟨some 38, false, .lens (.t 37), some (2, true), false, []⟩, ⟨some 39, false, .call (.c (.fn 21 [])) [.t 38, .c (.int .i64 10)], some (2, true), false, []⟩, ⟨some 40, false, .pick (.t 36) (.t 39) (.c (.bool false)), none, false, []⟩, ⟨some 2, false, .asg (.t 40), none, false, []⟩] [2] []) .ret
def impl_IsName_ir : Fn := { np := 1, io := [], res := [.t 2], own := [false], body :=
 (.seq (.reg false [⟨some 2, false, .asg (.c (.bool false)), none, false, []⟩] [0] []) (.seq (.seq (.reg false [⟨some 3, false, .asg (.c (.int .i64 0)), none, false, []⟩] [0, 3] []) (.block 0 (.loop impl_IsName_k3))) impl_IsName_k4)) }
noncomputable def impl_IsName_D : List (Nat × Callee) := [(21, impl_few_c), (22, impl_isDigit_c)]
def impl_IsName_H : List (Nat × ET) := []
noncomputable def impl_IsName_c : Callee := mkCallee impl_IsName_D impl_IsName_H impl_IsName_ir [.d (.one .str)] [.d (.one .bool)] []
noncomputable def impl_IsName (a0 : List UInt8) : Option (Bool) := impl_IsName_c.f (a0, ())
noncomputable def impl_IsName_p0  (v0 : List UInt8) (v3 : Int) : Option (Bool) :=
 goL impl_IsName_D impl_IsName_H (vleave impl_IsName_ir [.d (.one .str)] [.d (.one .bool)] [] []) [.c impl_IsName_k2, .l impl_IsName_k3, .e 0, .c impl_IsName_k4]
  ⟨[(0, .str v0), (3, .int .i64 v3)], []⟩
noncomputable def impl_IsName_p1  (v0 : List UInt8) (v3 : Int) (v4 : Bool) : Option (Bool) :=
 goL impl_IsName_D impl_IsName_H (vleave impl_IsName_ir [.d (.one .str)] [.d (.one .bool)] [] []) [.c impl_IsName_k0, .e 1, .c impl_IsName_k1, .l impl_IsName_k3, .e 0, .c impl_IsName_k4]
  ⟨[(0, .str v0), (3, .int .i64 v3), (4, .bool v4)], []⟩
theorem impl_IsName_eq (a0 : List UInt8) : impl_IsName a0 =
  impl_IsName_p0 a0 0 :=
 (mk_f _ _ _ _ _ _ _ 4000).trans (by kernel_rfl)
theorem impl_IsName_p0_eq  (v0 : List UInt8) (v3 : Int) : impl_IsName_p0 v0 v3 =
  if decide (v3 < (v0.length : Int)) then
   if decide (0 ≤ v3) then
    (v0[v3.toNat]?).bind fun x1 =>
     if decide ((x1.toNat : Int) ≥ 97) then
      if decide (0 ≤ v3) then
       (v0[v3.toNat]?).bind fun x2 =>
        impl_IsName_p1 v0 v3 (decide ((x2.toNat : Int) ≤ 122))
      else
       none
     else
      impl_IsName_p1 v0 v3 false
   else
    none
  else
   if (!(v0 == [])) then
    (impl_few (v0.length : Int) 10).bind fun x3 =>
     some x3
   else
    some false :=
 (goL_dn _ _ _ 4000 _ _).trans (by kernel_rfl)
theorem impl_IsName_p1_eq  (v0 : List UInt8) (v3 : Int) (v4 : Bool) : impl_IsName_p1 v0 v3 v4 =
  if (!v4) then
   if (v3 == 0) then
    some false
   else
    if decide (0 ≤ v3) then
     (v0[v3.toNat]?).bind fun x1 =>
      (impl_isDigit (x1.toNat : Int)).bind fun x2 =>
       if (!x2) then
        some false
       else
        impl_IsName_p0 v0 (IntKind.i64.wrap (v3 + 1))
    else
     none
  else
   impl_IsName_p0 v0 (IntKind.i64.wrap (v3 + 1)) :=
 (goL_dn _ _ _ 4000 _ _).trans (by kernel_rfl)

/- impl.within -/
def impl_within_ir : Fn := { np := 3, io := [], res := [.t 6], own := [false], body :=
 (.seq (.reg false [⟨some 6, false, .asg (.c (.bool false)), none, false, []⟩] [0, 1, 2] []) (.seq (.reg false [⟨some 7, false, .mv (.t 1), none, false, []⟩, ⟨some 8, false, .mv (.t 0), none, false, []⟩, ⟨some 9, false, .bin .leq (.t 7) (.t 8), none, false, []⟩, ⟨some 10, false, .mv (.t 9), none, false, []⟩, ⟨some 11, false, .mv (.t 0), some (3, true), false, []⟩, ⟨some 12, false, .mv (.t 2), some (3, true), false, []⟩, ⟨some 13, false, .bin .leq (.t 11) (.t 12), some (3, true), false, []⟩, ⟨some 14, false, .pick (.t 10) (.t 13) (.c (.bool false)), none, false, []⟩, ⟨some 6, false, .asg (.t 14), none, false, []⟩] [6] []) .ret)) }
noncomputable def impl_within_D : List (Nat × Callee) := []
def impl_within_H : List (Nat × ET) := []
noncomputable def impl_within_c : Callee := mkCallee impl_within_D impl_within_H impl_within_ir [.d (.one (.int .i64)), .d (.one (.int .i64)), .d (.one (.int .i64))] [.d (.one .bool)] []
noncomputable def impl_within (a0 : Int) (a1 : Int) (a2 : Int) : Option (Bool) := impl_within_c.f (a0, a1, a2, ())
theorem impl_within_eq (a0 : Int) (a1 : Int) (a2 : Int) : impl_within a0 a1 a2 =
  if decide (a1 ≤ a0) then
   some (decide (a0 ≤ a2))
  else
   some false :=
 (mk_f _ _ _ _ _ _ _ 4000).trans (by kernel_rfl)

/- impl.isHole -/
def impl_isHole_ir : Fn := { np := 1, io := [], res := [.t 2], own := [false], body :=
 (.seq (.reg false [⟨some 2, false, .asg (.c (.bool false)), none, false, []⟩] [0] []) (.seq (.reg false [⟨some 3, false, .mv (.t 0), none, false, []⟩, ⟨some 4, false, .call (.c (.fn 23 [])) [.t 3, .c (.int .i64 20), .c (.int .i64 200)], none, false, []⟩, ⟨some 2, false, .asg (.t 4), none, false, []⟩] [2] []) .ret)) }
noncomputable def impl_isHole_D : List (Nat × Callee) := [(23, impl_within_c)]
def impl_isHole_H : List (Nat × ET) := []
noncomputable def impl_isHole_c : Callee := mkCallee impl_isHole_D impl_isHole_H impl_isHole_ir [.d (.one (.int .i64))] [.d (.one .bool)] []
noncomputable def impl_isHole (a0 : Int) : Option (Bool) := impl_isHole_c.f (a0, ())
theorem impl_isHole_eq (a0 : Int) : impl_isHole a0 =
  (impl_within a0 20 200).bind fun x1 =>
   some x1 :=
 (mk_f _ _ _ _ _ _ _ 4000).trans (by kernel_rfl)

/- (impl.Peg).valid -/
def impl_Peg_valid_ir : Fn := { np := 1, io := [], res := [.t 2], own := [false], body :=
 (.seq (.reg false [⟨some 1, true, .box 4 (.t 0), none, false, []⟩, ⟨some 2, false, .asg (.c (.bool false)), none, false, []⟩] [1] [1]) (.seq (.reg false [⟨some 3, false, .fa 0 (.t 1), none, false, []⟩, ⟨some 4, false, .ld none (.t 3), none, false, []⟩, ⟨some 5, false, .call (.c (.fn 24 [])) [.t 4], none, false, []⟩, ⟨some 6, false, .mv (.t 5), none, false, []⟩, ⟨some 7, false, .fa 1 (.t 1), some (3, true), false, []⟩, ⟨some 8, false, .ld none (.t 7), some (3, true), false, []⟩, ⟨some 9, false, .call (.c (.fn 500 [])) [.t 8], some (3, true), false, []⟩, ⟨some 10, false, .pick (.t 6) (.t 9) (.c (.bool false)), none, false, []⟩, ⟨some 11, false, .mv (.t 10), none, false, []⟩, ⟨some 12, false, .fa 2 (.t 1), some (8, true), false, []⟩, ⟨some 13, false, .ld none (.t 12), some (8, true), false, []⟩, ⟨some 14, false, .call (.c (.fn 23 [])) [.t 13, .c (.int .i64 100), .c (.int .i64 1000)], some (8, true), false, []⟩, ⟨some 15, false, .pick (.t 11) (.t 14) (.c (.bool false)), none, false, []⟩, ⟨some 16, false, .mv (.t 15), none, false, []⟩, ⟨some 17, false, .fa 3 (.t 1), some (13, true), false, []⟩, ⟨some 18, false, .ld none (.t 17), some (13, true), false, []⟩, ⟨some 19, false, .call (.c (.fn 23 [])) [.t 18, .c (.int .i64 10), .c (.int .i64 100)], some (13, true), false, []⟩, ⟨some 20, false, .pick (.t 16) (.t 19) (.c (.bool false)), none, false, []⟩, ⟨some 2, false, .asg (.t 20), none, false, []⟩] [2] []) .ret)) }
noncomputable def impl_Peg_valid_D : List (Nat × Callee) := [(23, impl_within_c), (24, impl_IsName_c), (500, impl_isHole_c)]
def impl_Peg_valid_H : List (Nat × ET) := []
noncomputable def impl_Peg_valid_c : Callee := mkCallee impl_Peg_valid_D impl_Peg_valid_H impl_Peg_valid_ir [.d T_Peg] [.d (.one .bool)] []
noncomputable def impl_Peg_valid (a0 : T_Peg.ty) : Option (Bool) := impl_Peg_valid_c.f (a0, ())
theorem impl_Peg_valid_eq (a0 : T_Peg.ty) : impl_Peg_valid a0 =
  (impl_IsName a0.1).bind fun x1 =>
   if x1 then
    (impl_isHole a0.2.1).bind fun x2 =>
     if x2 then
      (impl_within a0.2.2.1 100 1000).bind fun x3 =>
       if x3 then
        (impl_within a0.2.2.2.1 10 100).bind fun x4 =>
         some x4
       else
        some false
     else
      some false
   else
    some false :=
 (mk_f _ _ _ _ _ _ _ 4000).trans (by kernel_rfl)

/- (impl.Peg).wayIn -/
def impl_Peg_wayIn_ir : Fn := { np := 2, io := [], res := [.t 4, .t 5], own := [false, false], body :=
 (.seq (.reg false [⟨some 2, true, .box 4 (.t 0), none, false, []⟩, ⟨some 4, false, .asg (.c (.int .i64 0)), none, false, []⟩, ⟨some 5, false, .asg (.c (.bool false)), none, false, []⟩] [1, 2] [2]) (.seq (.reg false [⟨some 7, false, .mv (.t 1), none, false, []⟩, ⟨some 8, false, .fa 1 (.t 2), none, false, []⟩, ⟨some 9, false, .ld none (.t 8), none, false, []⟩, ⟨some 10, false, .bin .sub (.t 7) (.t 9), none, false, []⟩, ⟨some 11, false, .max [.c (.int .i64 0), .t 10], none, false, []⟩, ⟨some 12, false, .fa 3 (.t 2), none, false, []⟩, ⟨some 13, false, .ld none (.t 12), none, false, []⟩, ⟨some 14, false, .bin .mul (.t 11) (.t 13), none, false, []⟩, ⟨some 6, false, .asg (.t 14), none, false, []⟩] [2, 6] [2]) (.seq (.reg true [⟨some 15, false, .mv (.t 6), none, false, []⟩, ⟨some 16, false, .mv (.t 6), none, false, []⟩, ⟨some 17, false, .fa 2 (.t 2), none, false, []⟩, ⟨some 18, false, .ld none (.t 17), none, false, []⟩, ⟨some 19, false, .bin .leq (.t 16) (.t 18), none, false, []⟩, ⟨some 4, false, .asg (.t 15), none, false, []⟩, ⟨some 5, false, .asg (.t 19), none, false, []⟩] [4, 5] []) .ret))) }
noncomputable def impl_Peg_wayIn_D : List (Nat × Callee) := []
def impl_Peg_wayIn_H : List (Nat × ET) := []
noncomputable def impl_Peg_wayIn_c : Callee := mkCallee impl_Peg_wayIn_D impl_Peg_wayIn_H impl_Peg_wayIn_ir [.d T_Peg, .d (.one (.int .i64))] [.d (.one (.int .i64)), .d (.one .bool)] []
noncomputable def impl_Peg_wayIn (a0 : T_Peg.ty) (a1 : Int) : Option (Int × Bool) := impl_Peg_wayIn_c.f (a0, a1, ())
theorem impl_Peg_wayIn_eq (a0 : T_Peg.ty) (a1 : Int) : impl_Peg_wayIn a0 a1 =
  some (IntKind.i64.wrap ((if IntKind.i64.wrap (a1 - a0.2.1) > 0 then IntKind.i64.wrap (a1 - a0.2.1) else 0) * a0.2.2.2.1), decide (IntKind.i64.wrap ((if IntKind.i64.wrap (a1 - a0.2.1) > 0 then IntKind.i64.wrap (a1 - a0.2.1) else 0) * a0.2.2.2.1) ≤ a0.2.2.1)) :=
 (mk_f _ _ _ _ _ _ _ 4000).trans (by kernel_rfl)

/- impl.WayIn -/
def impl_WayIn_ir : Fn := { np := 2, io := [], res := [.t 4, .t 5], own := [false, false], body :=
 (.seq (.reg false [⟨some 2, true, .box 4 (.t 0), none, false, []⟩, ⟨some 4, false, .asg (.c (.int .i64 0)), none, false, []⟩, ⟨some 5, false, .asg (.c (.int .i64 0)), none, false, []⟩] [1, 2] [2]) (.seq (.seq (.reg false [⟨some 8, false, .ld (some 4) (.t 2), none, false, []⟩, ⟨some 9, false, .call (.c (.fn 796 [])) [.t 8], none, false, []⟩, ⟨some 10, false, .un .not (.t 9), none, false, []⟩] [1, 2, 10] [2]) (.cond (.t 10) (.seq (.reg false [⟨some 4, false, .asg (.c (.int .i64 0)), none, false, []⟩, ⟨some 5, false, .asg (.c (.int .i64 1)), none, false, []⟩] [4, 5] []) .ret) .skip)) (.seq (.seq (.reg false [⟨some 11, false, .mv (.t 1), none, false, []⟩, ⟨some 12, false, .call (.c (.fn 500 [])) [.t 11], none, false, []⟩, ⟨some 13, false, .un .not (.t 12), none, false, []⟩] [1, 2, 13] [2]) (.cond (.t 13) (.seq (.reg false [⟨some 4, false, .asg (.c (.int .i64 0)), none, false, []⟩, ⟨some 5, false, .asg (.c (.int .i64 2)), none, false, []⟩] [4, 5] []) .ret) .skip)) (.seq (.reg false [⟨some 15, false, .ld (some 4) (.t 2), none, false, []⟩, ⟨some 16, false, .mv (.t 1), none, false, []⟩, ⟨some 17, false, .call (.c (.fn 795 [])) [.t 15, .t 16], none, false, []⟩, ⟨some 14, false, .mv (.t 17), none, false, []⟩, ⟨some 18, false, .ext (.t 14) 0, none, false, []⟩, ⟨some 19, false, .ext (.t 14) 1, none, false, []⟩, ⟨some 6, false, .asg (.t 18), none, false, []⟩, ⟨some 7, false, .asg (.t 19), none, false, []⟩] [6, 7] []) (.seq (.seq (.reg false [⟨some 20, false, .mv (.t 7), none, false, []⟩, ⟨some 21, false, .un .not (.t 20), none, false, []⟩] [6, 21] []) (.cond (.t 21) (.seq (.reg false [⟨some 4, false, .asg (.c (.int .i64 0)), none, false, []⟩, ⟨some 5, false, .asg (.c (.int .i64 3)), none, false, []⟩] [4, 5] []) .ret) .skip)) (.seq (.reg false [⟨some 22, false, .mv (.t 6), none, false, []⟩, ⟨some 4, false, .asg (.t 22), none, false, []⟩, ⟨some 5, false, .asg (.c (.int .i64 0)), none, false, []⟩] [4, 5] []) .ret)))))) }
noncomputable def impl_WayIn_D : List (Nat × Callee) := [(500, impl_isHole_c), (795, impl_Peg_wayIn_c), (796, impl_Peg_valid_c)]
def impl_WayIn_H : List (Nat × ET) := []
noncomputable def impl_WayIn_c : Callee := mkCallee impl_WayIn_D impl_WayIn_H impl_WayIn_ir [.d T_Peg, .d (.one (.int .i64))] [.d (.one (.int .i64)), .d (.one (.int .i64))] []
noncomputable def impl_WayIn (a0 : T_Peg.ty) (a1 : Int) : Option (Int × Int) := impl_WayIn_c.f (a0, a1, ())
theorem impl_WayIn_eq (a0 : T_Peg.ty) (a1 : Int) : impl_WayIn a0 a1 =
  (impl_Peg_valid a0).bind fun x1 =>
   if (!x1) then
    some (0, 1)
   else
    (impl_isHole a1).bind fun x2 =>
     if (!x2) then
      some (0, 2)
     else
      (impl_Peg_wayIn a0 a1).bind fun x3 =>
       if (!x3.2) then
        some (0, 3)
       else
        some (x3.1, 0) :=
 (mk_f _ _ _ _ _ _ _ 4000).trans (by kernel_rfl)

/- impl.isWay -/
def impl_isWay_ir : Fn := { np := 1, io := [], res := [.t 2], own := [false], body :=
 (.seq (.reg false [⟨some 2, false, .asg (.c (.bool false)), none, false, []⟩] [0] []) (.seq (.reg false [⟨some 3, false, .mv (.t 0), none, false, []⟩, ⟨some 4, false, .call (.c (.fn 23 [])) [.t 3, .c (.int .i64 0), .c (.int .i64 1000)], none, false, []⟩, ⟨some 2, false, .asg (.t 4), none, false, []⟩] [2] []) .ret)) }
noncomputable def impl_isWay_D : List (Nat × Callee) := [(23, impl_within_c)]
def impl_isWay_H : List (Nat × ET) := []
noncomputable def impl_isWay_c : Callee := mkCallee impl_isWay_D impl_isWay_H impl_isWay_ir [.d (.one (.int .i64))] [.d (.one .bool)] []
noncomputable def impl_isWay (a0 : Int) : Option (Bool) := impl_isWay_c.f (a0, ())
theorem impl_isWay_eq (a0 : Int) : impl_isWay a0 =
  (impl_within a0 0 1000).bind fun x1 =>
   some x1 :=
 (mk_f _ _ _ _ _ _ _ 4000).trans (by kernel_rfl)

/- (impl.Peg).at -/
def impl_Peg_at_ir : Fn := { np := 2, io := [], res := [.t 4], own := [false], body :=
 (.seq (.reg false [⟨some 2, true, .box 4 (.t 0), none, false, []⟩, ⟨some 4, false, .asg (.c (.int .i64 0)), none, false, []⟩] [1, 2] [2]) (.seq (.reg true [⟨some 5, false, .fa 1 (.t 2), none, false, []⟩, ⟨some 6, false, .ld none (.t 5), none, false, []⟩, ⟨some 7, false, .mv (.t 1), none, false, []⟩, ⟨some 8, false, .fa 3 (.t 2), none, false, []⟩, ⟨some 9, false, .ld none (.t 8), none, false, []⟩, ⟨some 10, false, .bin .quo (.t 7) (.t 9), none, false, []⟩, ⟨some 11, false, .bin .add (.t 6) (.t 10), none, false, []⟩, ⟨some 4, false, .asg (.t 11), none, false, []⟩] [4] []) .ret)) }
noncomputable def impl_Peg_at_D : List (Nat × Callee) := []
def impl_Peg_at_H : List (Nat × ET) := []
noncomputable def impl_Peg_at_c : Callee := mkCallee impl_Peg_at_D impl_Peg_at_H impl_Peg_at_ir [.d T_Peg, .d (.one (.int .i64))] [.d (.one (.int .i64))] []
noncomputable def impl_Peg_at (a0 : T_Peg.ty) (a1 : Int) : Option (Int) := impl_Peg_at_c.f (a0, a1, ())
theorem impl_Peg_at_eq (a0 : T_Peg.ty) (a1 : Int) : impl_Peg_at a0 a1 =
  if decide (a0.2.2.2.1 = 0) then
   none
  else
   some (IntKind.i64.wrap (a0.2.1 + (IntKind.i64.wrap (a1.tdiv a0.2.2.2.1)))) :=
 (mk_f _ _ _ _ _ _ _ 4000).trans (by kernel_rfl)

/- impl.PegAt -/
def impl_PegAt_k0 : C :=
 .seq (.reg false [⟨some 18, false, .ld (some 4) (.t 2), none, false, []⟩, ⟨some 19, false, .mv (.t 1), none, false, []⟩, ⟨some 20, false, .call (.c (.fn 797 [])) [.t 18, .t 19], none, false, []⟩, ⟨some 4, false, .asg (.t 20), none, false, []⟩, ⟨some 5, false, .asg (.c (.int .i64 0)), none, false, []⟩] [4, 5] []) .ret
def impl_PegAt_ir : Fn := { np := 2, io := [], res := [.t 4, .t 5], own := [false, false], body :=
 (.seq (.reg false [⟨some 2, true, .box 4 (.t 0), none, false, []⟩, ⟨some 4, false, .asg (.c (.int .i64 0)), none, false, []⟩, ⟨some 5, false, .asg (.c (.int .i64 0)), none, false, []⟩] [1, 2] [2]) (.seq (.seq (.reg false [⟨some 6, false, .ld (some 4) (.t 2), none, false, []⟩, ⟨some 7, false, .call (.c (.fn 796 [])) [.t 6], none, false, []⟩, ⟨some 8, false, .un .not (.t 7), none, false, []⟩] [1, 2, 8] [2]) (.cond (.t 8) (.seq (.reg false [⟨some 4, false, .asg (.c (.int .i64 0)), none, false, []⟩, ⟨some 5, false, .asg (.c (.int .i64 1)), none, false, []⟩] [4, 5] []) .ret) .skip)) (.seq (.seq (.reg false [⟨some 9, false, .mv (.t 1), none, false, []⟩, ⟨some 10, false, .call (.c (.fn 501 [])) [.t 9], none, false, []⟩, ⟨some 11, false, .un .not (.t 10), none, false, []⟩, ⟨some 12, false, .mv (.t 11), none, false, []⟩, ⟨some 13, false, .mv (.t 1), some (3, false), false, []⟩, ⟨some 14, false, .fa 2 (.t 2), some (3, false), false, []⟩, ⟨some 15, false, .ld none (.t 14), some (3, false), false, []⟩, ⟨some 16, false, .bin .gtr (.t 13) (.t 15), some (3, false), false, []⟩, ⟨some 17, false, .pick (.t 12) (.c (.bool true)) (.t 16), none, false, []⟩] [1, 2, 17] [2]) (.cond (.t 17) (.seq (.reg false [⟨some 4, false, .asg (.c (.int .i64 0)), none, false, []⟩, ⟨some 5, false, .asg (.c (.int .i64 2)), none, false, []⟩] [4, 5] []) .ret) .skip)) (.norm [1, 2] [2] impl_PegAt_k0)))) }
noncomputable def impl_PegAt_D : List (Nat × Callee) := [(501, impl_isWay_c), (796, impl_Peg_valid_c), (797, impl_Peg_at_c)]
def impl_PegAt_H : List (Nat × ET) := []
noncomputable def impl_PegAt_c : Callee := mkCallee impl_PegAt_D impl_PegAt_H impl_PegAt_ir [.d T_Peg, .d (.one (.int .i64))] [.d (.one (.int .i64)), .d (.one (.int .i64))] []
noncomputable def impl_PegAt (a0 : T_Peg.ty) (a1 : Int) : Option (Int × Int) := impl_PegAt_c.f (a0, a1, ())
noncomputable def impl_PegAt_p0  (v1 : Int) (r2_0 : List UInt8) (r2_1 : Int) (r2_2 : Int) (r2_3 : Int) : Option (Int × Int) :=
 goL impl_PegAt_D impl_PegAt_H (vleave impl_PegAt_ir [.d T_Peg, .d (.one (.int .i64))] [.d (.one (.int .i64)), .d (.one (.int .i64))] [] []) [.c impl_PegAt_k0]
  ⟨[(1, .int .i64 v1), (2, .loc 2 0 0)], [(2, some (.var 4 (.agg [.str r2_0, .int .i64 r2_1, .int .i64 r2_2, .int .i64 r2_3])))]⟩
theorem impl_PegAt_eq (a0 : T_Peg.ty) (a1 : Int) : impl_PegAt a0 a1 =
  (impl_Peg_valid a0).bind fun x1 =>
   if (!x1) then
    some (0, 1)
   else
    (impl_isWay a1).bind fun x2 =>
     if (!x2) then
      some (0, 2)
     else
      if decide (a1 > a0.2.2.1) then
       some (0, 2)
      else
       impl_PegAt_p0 a1 a0.1 a0.2.1 a0.2.2.1 a0.2.2.2.1 :=
 (mk_f _ _ _ _ _ _ _ 4000).trans (by kernel_rfl)
theorem impl_PegAt_p0_eq  (v1 : Int) (r2_0 : List UInt8) (r2_1 : Int) (r2_2 : Int) (r2_3 : Int) : impl_PegAt_p0 v1 r2_0 r2_1 r2_2 r2_3 =
  (impl_Peg_at (r2_0, r2_1, r2_2, r2_3, ()) v1).bind fun x1 =>
   some (x1, 0) :=
 (goL_dn _ _ _ 4000 _ _).trans (by kernel_rfl)

/- impl.divRound -/
def impl_divRound_ir : Fn := { np := 2, io := [], res := [.t 4], own := [false], body :=
 (.seq (.reg false [⟨some 4, false, .asg (.c (.int .i64 0)), none, false, []⟩] [0, 1] []) (.seq (.reg false [⟨some 8, false, .mv (.t 0), none, false, []⟩, ⟨some 9, false, .bin .lss (.t 8) (.c (.int .i64 0)), none, false, []⟩, ⟨some 10, false, .mv (.t 1), none, false, []⟩, ⟨some 11, false, .bin .lss (.t 10) (.c (.int .i64 0)), none, false, []⟩, ⟨some 12, false, .eqb true (.t 9) (.t 11), none, false, []⟩, ⟨some 5, false, .asg (.t 12), none, false, []⟩] [0, 1, 5] []) (.seq (.reg false [⟨some 13, false, .mv (.t 0), none, false, []⟩, ⟨some 14, false, .mv (.t 0), none, false, []⟩, ⟨some 15, false, .un .neg (.t 14), none, false, []⟩, ⟨some 16, false, .max [.t 13, .t 15], none, false, []⟩, ⟨some 17, false, .mv (.t 1), none, false, []⟩, ⟨some 18, false, .mv (.t 1), none, false, []⟩, ⟨some 19, false, .un .neg (.t 18), none, false, []⟩, ⟨some 20, false, .max [.t 17, .t 19], none, false, []⟩, ⟨some 0, false, .asg (.t 16), none, false, []⟩, ⟨some 1, false, .asg (.t 20), none, false, []⟩] [0, 1, 5] []) (.seq (.reg false [⟨some 21, false, .mv (.t 0), none, false, []⟩, ⟨some 22, false, .mv (.t 1), none, false, []⟩, ⟨some 23, false, .bin .quo (.t 21) (.t 22), none, false, []⟩, ⟨some 6, false, .asg (.t 23), none, false, []⟩] [0, 1, 5, 6] []) (.seq (.seq (.reg false [⟨some 24, false, .mv (.t 0), none, false, []⟩, ⟨some 25, false, .mv (.t 1), none, false, []⟩, ⟨some 26, false, .bin .rem (.t 24) (.t 25), none, false, []⟩, ⟨some 7, false, .asg (.t 26), none, false, []⟩] [1, 5, 6, 7] []) (.seq (.reg false [⟨some 27, false, .mv (.t 7), none, false, []⟩, ⟨some 28, false, .mv (.t 1), none, false, []⟩, ⟨some 29, false, .mv (.t 7), none, false, []⟩, ⟨some 30, false, .bin .sub (.t 28) (.t 29), none, false, []⟩, ⟨some 31, false, .bin .geq (.t 27) (.t 30), none, false, []⟩] [5, 6, 31] []) (.cond (.t 31) (.reg false [⟨some 32, false, .mv (.t 6), none, false, []⟩, ⟨some 33, false, .bin .add (.t 32) (.c (.int .i64 1)), none, false, []⟩, ⟨some 6, false, .asg (.t 33), none, false, []⟩] [5, 6] []) .skip))) (.seq (.seq (.reg false [⟨some 34, false, .mv (.t 5), none, false, []⟩] [6, 34] []) (.cond (.t 34) (.seq (.reg false [⟨some 35, false, .mv (.t 6), none, false, []⟩, ⟨some 36, false, .un .neg (.t 35), none, false, []⟩, ⟨some 4, false, .asg (.t 36), none, false, []⟩] [4] []) .ret) .skip)) (.seq (.reg false [⟨some 37, false, .mv (.t 6), none, false, []⟩, ⟨some 4, false, .asg (.t 37), none, false, []⟩] [4] []) .ret))))))) }
noncomputable def impl_divRound_D : List (Nat × Callee) := []
def impl_divRound_H : List (Nat × ET) := []
noncomputable def impl_divRound_c : Callee := mkCallee impl_divRound_D impl_divRound_H impl_divRound_ir [.d (.one (.int .i64)), .d (.one (.int .i64))] [.d (.one (.int .i64))] []
noncomputable def impl_divRound (a0 : Int) (a1 : Int) : Option (Int) := impl_divRound_c.f (a0, a1, ())
theorem impl_divRound_eq (a0 : Int) (a1 : Int) : impl_divRound a0 a1 =
  if decide ((if IntKind.i64.wrap (0 - a1) > a1 then IntKind.i64.wrap (0 - a1) else a1) = 0) then
   none
  else
   if decide ((if IntKind.i64.wrap (0 - a1) > a1 then IntKind.i64.wrap (0 - a1) else a1) = 0) then
    none
   else
    if decide ((if IntKind.i64.wrap (0 - a0) > a0 then IntKind.i64.wrap (0 - a0) else a0).tmod (if IntKind.i64.wrap (0 - a1) > a1 then IntKind.i64.wrap (0 - a1) else a1) ≥ IntKind.i64.wrap ((if IntKind.i64.wrap (0 - a1) > a1 then IntKind.i64.wrap (0 - a1) else a1) - ((if IntKind.i64.wrap (0 - a0) > a0 then IntKind.i64.wrap (0 - a0) else a0).tmod (if IntKind.i64.wrap (0 - a1) > a1 then IntKind.i64.wrap (0 - a1) else a1)))) then
     if (!(decide (a0 < 0) == decide (a1 < 0))) then
      some (IntKind.i64.wrap (0 - (IntKind.i64.wrap ((IntKind.i64.wrap ((if IntKind.i64.wrap (0 - a0) > a0 then IntKind.i64.wrap (0 - a0) else a0).tdiv (if IntKind.i64.wrap (0 - a1) > a1 then IntKind.i64.wrap (0 - a1) else a1))) + 1))))
     else
      some (IntKind.i64.wrap ((IntKind.i64.wrap ((if IntKind.i64.wrap (0 - a0) > a0 then IntKind.i64.wrap (0 - a0) else a0).tdiv (if IntKind.i64.wrap (0 - a1) > a1 then IntKind.i64.wrap (0 - a1) else a1))) + 1))
    else
     if (!(decide (a0 < 0) == decide (a1 < 0))) then
      some (IntKind.i64.wrap (0 - (IntKind.i64.wrap ((if IntKind.i64.wrap (0 - a0) > a0 then IntKind.i64.wrap (0 - a0) else a0).tdiv (if IntKind.i64.wrap (0 - a1) > a1 then IntKind.i64.wrap (0 - a1) else a1)))))
     else
      some (IntKind.i64.wrap ((if IntKind.i64.wrap (0 - a0) > a0 then IntKind.i64.wrap (0 - a0) else a0).tdiv (if IntKind.i64.wrap (0 - a1) > a1 then IntKind.i64.wrap (0 - a1) else a1))) :=
 (mk_f _ _ _ _ _ _ _ 4000).trans (by kernel_rfl)

/- impl.TurnFor -/
def impl_TurnFor_k0 : C :=
 .seq (.reg false [⟨some 22, false, .ld (some 4) (.t 3), none, false, []⟩, ⟨some 23, false, .mv (.t 1), none, false, []⟩, ⟨some 24, false, .call (.c (.fn 385 [])) [.t 22, .t 23], none, false, []⟩, ⟨some 21, false, .mv (.t 24), none, false, []⟩, ⟨some 25, false, .ext (.t 21) 0, none, false, []⟩, ⟨some 26, false, .ext (.t 21) 1, none, false, []⟩, ⟨some 8, false, .asg (.t 25), none, false, []⟩, ⟨some 9, false, .asg (.t 26), none, false, []⟩] [2, 3, 8, 9] [3]) (.seq (.seq (.reg false [⟨some 27, false, .mv (.t 9), none, false, []⟩, ⟨some 28, false, .bin .neq (.t 27) (.c (.int .i64 0)), none, false, []⟩] [2, 3, 8, 9, 28] [3]) (.cond (.t 28) (.seq (.reg false [⟨some 29, false, .mv (.t 9), none, false, []⟩, ⟨some 6, false, .asg (.c (.int .i64 0)), none, false, []⟩, ⟨some 7, false, .asg (.t 29), none, false, []⟩] [6, 7] []) .ret) .skip)) (.seq (.reg false [⟨some 30, false, .mv (.t 2), none, false, []⟩, ⟨some 31, false, .bin .mul (.t 30) (.c (.int .i64 360000)), none, false, []⟩, ⟨some 32, false, .ld (some 4) (.t 3), none, false, []⟩, ⟨some 33, false, .mv (.t 8), none, false, []⟩, ⟨some 34, false, .call (.c (.fn 797 [])) [.t 32, .t 33], none, false, []⟩, ⟨some 35, false, .bin .mul (.c (.int .i64 3142)) (.t 34), none, false, []⟩, ⟨some 36, false, .call (.c (.fn 27 [])) [.t 31, .t 35], none, false, []⟩, ⟨some 6, false, .asg (.t 36), none, false, []⟩, ⟨some 7, false, .asg (.c (.int .i64 0)), none, false, []⟩] [6, 7] []) .ret))
def impl_TurnFor_ir : Fn := { np := 3, io := [], res := [.t 6, .t 7], own := [false, false], body :=
 (.seq (.reg false [⟨some 3, true, .box 4 (.t 0), none, false, []⟩, ⟨some 6, false, .asg (.c (.int .i64 0)), none, false, []⟩, ⟨some 7, false, .asg (.c (.int .i64 0)), none, false, []⟩] [1, 2, 3] [3]) (.seq (.seq (.reg false [⟨some 10, false, .ld (some 4) (.t 3), none, false, []⟩, ⟨some 11, false, .call (.c (.fn 796 [])) [.t 10], none, false, []⟩, ⟨some 12, false, .un .not (.t 11), none, false, []⟩] [1, 2, 3, 12] [3]) (.cond (.t 12) (.seq (.reg false [⟨some 6, false, .asg (.c (.int .i64 0)), none, false, []⟩, ⟨some 7, false, .asg (.c (.int .i64 1)), none, false, []⟩] [6, 7] []) .ret) .skip)) (.seq (.seq (.reg false [⟨some 13, false, .mv (.t 1), none, false, []⟩, ⟨some 14, false, .call (.c (.fn 500 [])) [.t 13], none, false, []⟩, ⟨some 15, false, .un .not (.t 14), none, false, []⟩, ⟨some 16, false, .mv (.t 15), none, false, []⟩, ⟨some 17, false, .mv (.t 2), some (3, false), false, []⟩, ⟨some 18, false, .call (.c (.fn 23 [])) [.t 17, .c (.int .i64 0), .c (.int .i64 100)], some (3, false), false, []⟩, ⟨some 19, false, .un .not (.t 18), some (3, false), false, []⟩, ⟨some 20, false, .pick (.t 16) (.c (.bool true)) (.t 19), none, false, []⟩] [1, 2, 3, 20] [3]) (.cond (.t 20) (.seq (.reg false [⟨some 6, false, .asg (.c (.int .i64 0)), none, false, []⟩, ⟨some 7, false, .asg (.c (.int .i64 2)), none, false, []⟩] [6, 7] []) .ret) .skip)) (.norm [1, 2, 3] [3] impl_TurnFor_k0)))) }
noncomputable def impl_TurnFor_D : List (Nat × Callee) := [(23, impl_within_c), (27, impl_divRound_c), (385, impl_WayIn_c), (500, impl_isHole_c), (796, impl_Peg_valid_c), (797, impl_Peg_at_c)]
def impl_TurnFor_H : List (Nat × ET) := []
noncomputable def impl_TurnFor_c : Callee := mkCallee impl_TurnFor_D impl_TurnFor_H impl_TurnFor_ir [.d T_Peg, .d (.one (.int .i64)), .d (.one (.int .i64))] [.d (.one (.int .i64)), .d (.one (.int .i64))] []
noncomputable def impl_TurnFor (a0 : T_Peg.ty) (a1 : Int) (a2 : Int) : Option (Int × Int) := impl_TurnFor_c.f (a0, a1, a2, ())
noncomputable def impl_TurnFor_p0  (v1 : Int) (v2 : Int) (r3_0 : List UInt8) (r3_1 : Int) (r3_2 : Int) (r3_3 : Int) : Option (Int × Int) :=
 goL impl_TurnFor_D impl_TurnFor_H (vleave impl_TurnFor_ir [.d T_Peg, .d (.one (.int .i64)), .d (.one (.int .i64))] [.d (.one (.int .i64)), .d (.one (.int .i64))] [] []) [.c impl_TurnFor_k0]
  ⟨[(1, .int .i64 v1), (2, .int .i64 v2), (3, .loc 3 0 0)], [(3, some (.var 4 (.agg [.str r3_0, .int .i64 r3_1, .int .i64 r3_2, .int .i64 r3_3])))]⟩
theorem impl_TurnFor_eq (a0 : T_Peg.ty) (a1 : Int) (a2 : Int) : impl_TurnFor a0 a1 a2 =
  (impl_Peg_valid a0).bind fun x1 =>
   if (!x1) then
    some (0, 1)
   else
    (impl_isHole a1).bind fun x2 =>
     if (!x2) then
      some (0, 2)
     else
      (impl_within a2 0 100).bind fun x3 =>
       if (!x3) then
        some (0, 2)
       else
        impl_TurnFor_p0 a1 a2 a0.1 a0.2.1 a0.2.2.1 a0.2.2.2.1 :=
 (mk_f _ _ _ _ _ _ _ 4000).trans (by kernel_rfl)
theorem impl_TurnFor_p0_eq  (v1 : Int) (v2 : Int) (r3_0 : List UInt8) (r3_1 : Int) (r3_2 : Int) (r3_3 : Int) : impl_TurnFor_p0 v1 v2 r3_0 r3_1 r3_2 r3_3 =
  (impl_WayIn (r3_0, r3_1, r3_2, r3_3, ()) v1).bind fun x1 =>
   if (x1.2 != 0) then
    some (0, x1.2)
   else
    (impl_Peg_at (r3_0, r3_1, r3_2, r3_3, ()) x1.1).bind fun x2 =>
     (impl_divRound (IntKind.i64.wrap (v2 * 360000)) (IntKind.i64.wrap (3142 * x2))).bind fun x3 =>
      some (x3, 0) :=
 (goL_dn _ _ _ 4000 _ _).trans (by kernel_rfl)

/- laws.b10Abs -/
def laws_b10Abs_ir : Fn := { np := 1, io := [], res := [.t 2], own := [false], body :=
 (.seq (.reg false [⟨some 2, false, .asg (.c (.int .i64 0)), none, false, []⟩] [0] []) (.seq (.seq (.reg false [⟨some 3, false, .mv (.t 0), none, false, []⟩, ⟨some 4, false, .bin .lss (.t 3) (.c (.int .i64 0)), none, false, []⟩] [0, 4] []) (.cond (.t 4) (.seq (.reg false [⟨some 5, false, .mv (.t 0), none, false, []⟩, ⟨some 6, false, .un .neg (.t 5), none, false, []⟩, ⟨some 2, false, .asg (.t 6), none, false, []⟩] [2] []) .ret) .skip)) (.seq (.reg false [⟨some 7, false, .mv (.t 0), none, false, []⟩, ⟨some 2, false, .asg (.t 7), none, false, []⟩] [2] []) .ret))) }
noncomputable def laws_b10Abs_D : List (Nat × Callee) := []
def laws_b10Abs_H : List (Nat × ET) := []
noncomputable def laws_b10Abs_c : Callee := mkCallee laws_b10Abs_D laws_b10Abs_H laws_b10Abs_ir [.d (.one (.int .i64))] [.d (.one (.int .i64))] []
noncomputable def laws_b10Abs (a0 : Int) : Option (Int) := laws_b10Abs_c.f (a0, ())
theorem laws_b10Abs_eq (a0 : Int) : laws_b10Abs a0 =
  if decide (a0 < 0) then
   some (IntKind.i64.wrap (0 - a0))
  else
   some a0 :=
 (mk_f _ _ _ _ _ _ _ 4000).trans (by kernel_rfl)

/- spec.l01Dec -/
def spec_l01Dec_k0 : C :=
 .reg false [⟨some 22, false, .mv (.t 3), none, false, []⟩, ⟨some 23, false, .mv (.t 5), none, false, []⟩, ⟨some 24, false, .bin .add (.c (.int .i64 48)) (.t 23), none, false, []⟩, ⟨some 25, false, .conv (.int .u8) (.t 24), none, false, []⟩, ⟨some 26, false, .bsl 1 (.int .u8 0) 1 [(0, .t 25)], none, false, []⟩, ⟨some 27, true, .app 1 1 (.t 22) (.t 26), none, false, []⟩, ⟨some 3, true, .asg (.t 27), none, false, []⟩] [0, 3, 4] [3]
def spec_l01Dec_k1 : C :=
 .reg false [⟨some 14, false, .mv (.t 4), none, false, []⟩, ⟨some 15, false, .bin .quo (.t 14) (.c (.int .i64 10)), none, false, []⟩, ⟨some 4, false, .asg (.t 15), none, false, []⟩] [0, 3, 4] [3]
def spec_l01Dec_k2 : C :=
 .seq (.seq (.reg false [⟨some 12, false, .mv (.t 4), none, false, []⟩, ⟨some 13, false, .bin .neq (.t 12) (.c (.int .i64 0)), none, false, []⟩] [0, 3, 4, 13] [3]) (.cond (.t 13) .skip (.exit 0))) (.seq (.block 1 (.seq (.reg false [⟨some 16, false, .mv (.t 4), none, false, []⟩, ⟨some 17, false, .bin .rem (.t 16) (.c (.int .i64 10)), none, false, []⟩, ⟨some 5, false, .asg (.t 17), none, false, []⟩] [0, 3, 4, 5] [3]) (.seq (.seq (.reg false [⟨some 18, false, .mv (.t 5), none, false, []⟩, ⟨some 19, false, .bin .lss (.t 18) (.c (.int .i64 0)), none, false, []⟩] [0, 3, 4, 5, 19] [3]) (.cond (.t 19) (.reg false [⟨some 20, false, .mv (.t 5), none, false, []⟩, ⟨some 21, false, .un .neg (.t 20), none, false, []⟩, ⟨some 5, false, .asg (.t 21), none, false, []⟩] [0, 3, 4, 5] [3]) .skip)) (.norm [0, 3, 4, 5] [3] spec_l01Dec_k0)))) spec_l01Dec_k1)
def spec_l01Dec_k3 : C :=
 .norm [0, 3, 4] [3] spec_l01Dec_k2
def spec_l01Dec_k4 : C :=
 .seq (.seq (.reg false [⟨some 37, false, .mv (.t 7), none, false, []⟩, ⟨some 38, false, .bin .geq (.t 37) (.c (.int .i64 0)), none, false, []⟩] [3, 6, 7, 38] [3, 6]) (.cond (.t 38) .skip (.exit 2))) (.seq (.block 3 (.reg false [⟨some 41, false, .mv (.t 6), none, false, []⟩, ⟨some 42, false, .mv (.t 3), none, false, []⟩, ⟨some 43, false, .mv (.t 7), none, false, []⟩, ⟨some 44, false, .ia 1 (.t 42) (.t 43), none, false, []⟩, ⟨some 45, false, .ld none (.t 44), none, false, []⟩, ⟨some 46, false, .bsl 1 (.int .u8 0) 1 [(0, .t 45)], none, false, []⟩, ⟨some 47, true, .app 1 1 (.t 41) (.t 46), none, false, []⟩, ⟨some 6, true, .asg (.t 47), none, false, []⟩] [3, 6, 7] [3, 6])) (.reg false [⟨some 39, false, .mv (.t 7), none, false, []⟩, ⟨some 40, false, .bin .sub (.t 39) (.c (.int .i64 1)), none, false, []⟩, ⟨some 7, false, .asg (.t 40), none, false, []⟩] [3, 6, 7] [3, 6]))
def spec_l01Dec_k5 : C :=
 .norm [3, 6, 7] [3, 6] spec_l01Dec_k4
def spec_l01Dec_k6 : C :=
 .seq (.reg false [⟨some 48, false, .mv (.t 6), none, false, []⟩, ⟨some 49, false, .conv .bytesStr (.t 48), none, false, []⟩, ⟨some 2, false, .asg (.t 49), none, false, []⟩] [2] []) .ret
def spec_l01Dec_k7 : C :=
 .seq (.reg false [⟨some 33, false, .bsl 1 (.int .u8 0) 0 [], none, false, []⟩, ⟨some 6, true, .asg (.t 33), none, false, []⟩] [3, 6] [3, 6]) (.seq (.seq (.reg false [⟨some 34, false, .mv (.t 3), none, false, []⟩, ⟨some 35, false, .len (.t 34), none, false, []⟩, ⟨some 36, false, .bin .sub (.t 35) (.c (.int .i64 1)), none, false, []⟩, ⟨some 7, false, .asg (.t 36), none, false, []⟩] [3, 6, 7] [3, 6]) (.block 2 (.loop spec_l01Dec_k5))) spec_l01Dec_k6)
def spec_l01Dec_k8 : C :=
 .seq (.seq (.reg false [⟨some 28, false, .mv (.t 0), none, false, []⟩, ⟨some 29, false, .bin .lss (.t 28) (.c (.int .i64 0)), none, false, []⟩] [3, 29] [3]) (.cond (.t 29) (.reg false [⟨some 30, false, .mv (.t 3), none, false, []⟩, ⟨some 31, false, .bsl 1 (.int .u8 0) 1 [(0, .c (.int .u8 45))], none, false, []⟩, ⟨some 32, true, .app 1 1 (.t 30) (.t 31), none, false, []⟩, ⟨some 3, true, .asg (.t 32), none, false, []⟩] [3] [3]) .skip)) (.norm [3] [3] spec_l01Dec_k7)
def spec_l01Dec_ir : Fn := { np := 1, io := [], res := [.t 2], own := [false], body :=
 (.seq (.reg false [⟨some 2, false, .asg (.c (.str [])), none, false, []⟩] [0] []) (.seq (.seq (.reg false [⟨some 8, false, .mv (.t 0), none, false, []⟩, ⟨some 9, false, .bin .eql (.t 8) (.c (.int .i64 0)), none, false, []⟩] [0, 9] []) (.cond (.t 9) (.seq (.reg false [⟨some 2, false, .asg (.c (.str [48])), none, false, []⟩] [2] []) .ret) .skip)) (.seq (.reg false [⟨some 10, false, .bsl 1 (.int .u8 0) 0 [], none, false, []⟩, ⟨some 3, true, .asg (.t 10), none, false, []⟩] [0, 3] [3]) (.seq (.seq (.reg false [⟨some 11, false, .mv (.t 0), none, false, []⟩, ⟨some 4, false, .asg (.t 11), none, false, []⟩] [0, 3, 4] [3]) (.block 0 (.loop spec_l01Dec_k3))) spec_l01Dec_k8)))) }
noncomputable def spec_l01Dec_D : List (Nat × Callee) := []
def spec_l01Dec_H : List (Nat × ET) := [(3, (.one (.int .u8))), (6, (.one (.int .u8))), (10, (.one (.int .u8))), (22, (.one (.int .u8))), (26, (.one (.int .u8))), (27, (.one (.int .u8))), (30, (.one (.int .u8))), (31, (.one (.int .u8))), (32, (.one (.int .u8))), (33, (.one (.int .u8))), (34, (.one (.int .u8))), (41, (.one (.int .u8))), (42, (.one (.int .u8))), (46, (.one (.int .u8))), (47, (.one (.int .u8))), (48, (.one (.int .u8)))]
noncomputable def spec_l01Dec_c : Callee := mkCallee spec_l01Dec_D spec_l01Dec_H spec_l01Dec_ir [.d (.one (.int .i64))] [.d (.one .str)] []
noncomputable def spec_l01Dec (a0 : Int) : Option (List UInt8) := spec_l01Dec_c.f (a0, ())
noncomputable def spec_l01Dec_p0  (v0 : Int) (v4 : Int) (r3 : List Int) : Option (List UInt8) :=
 goL spec_l01Dec_D spec_l01Dec_H (vleave spec_l01Dec_ir [.d (.one (.int .i64))] [.d (.one .str)] [] []) [.c spec_l01Dec_k2, .l spec_l01Dec_k3, .e 0, .c spec_l01Dec_k8]
  ⟨[(0, .int .i64 v0), (3, .view 3 0 r3.length), (4, .int .i64 v4)], [(3, some (.sl (.one (.int .u8)) r3))]⟩
noncomputable def spec_l01Dec_p1  (v0 : Int) (v4 : Int) (v5 : Int) (r3 : List Int) : Option (List UInt8) :=
 goL spec_l01Dec_D spec_l01Dec_H (vleave spec_l01Dec_ir [.d (.one (.int .i64))] [.d (.one .str)] [] []) [.c spec_l01Dec_k0, .e 1, .c spec_l01Dec_k1, .l spec_l01Dec_k3, .e 0, .c spec_l01Dec_k8]
  ⟨[(0, .int .i64 v0), (3, .view 3 0 r3.length), (4, .int .i64 v4), (5, .int .i64 v5)], [(3, some (.sl (.one (.int .u8)) r3))]⟩
noncomputable def spec_l01Dec_p2  (r3 : List Int) : Option (List UInt8) :=
 goL spec_l01Dec_D spec_l01Dec_H (vleave spec_l01Dec_ir [.d (.one (.int .i64))] [.d (.one .str)] [] []) [.c spec_l01Dec_k7]
  ⟨[(3, .view 3 0 r3.length)], [(3, some (.sl (.one (.int .u8)) r3))]⟩
noncomputable def spec_l01Dec_p3  (v7 : Int) (r3 : List Int) (r6 : List Int) : Option (List UInt8) :=
 goL spec_l01Dec_D spec_l01Dec_H (vleave spec_l01Dec_ir [.d (.one (.int .i64))] [.d (.one .str)] [] []) [.c spec_l01Dec_k4, .l spec_l01Dec_k5, .e 2, .c spec_l01Dec_k6]
  ⟨[(3, .view 3 0 r3.length), (6, .view 6 0 r6.length), (7, .int .i64 v7)], [(3, some (.sl (.one (.int .u8)) r3)), (6, some (.sl (.one (.int .u8)) r6))]⟩
theorem spec_l01Dec_eq (a0 : Int) : spec_l01Dec a0 =
  if (a0 == 0) then
   some [48]
  else
   spec_l01Dec_p0 a0 a0 [] :=
 (mk_f _ _ _ _ _ _ _ 4000).trans (by kernel_rfl)
theorem spec_l01Dec_p0_eq  (v0 : Int) (v4 : Int) (r3 : List Int) : spec_l01Dec_p0 v0 v4 r3 =
  if (v4 != 0) then
   if decide (v4.tmod 10 < 0) then
    spec_l01Dec_p1 v0 v4 (IntKind.i64.wrap (0 - (v4.tmod 10))) r3
   else
    spec_l01Dec_p1 v0 v4 (v4.tmod 10) r3
  else
   if decide (v0 < 0) then
    if decide (r3.length + 1 < lim) then
     spec_l01Dec_p2 ((r3.take r3.length) ++ [45])
    else
     none
   else
    spec_l01Dec_p2 r3 :=
 (goL_dn _ _ _ 4000 _ _).trans (by kernel_rfl)
theorem spec_l01Dec_p1_eq  (v0 : Int) (v4 : Int) (v5 : Int) (r3 : List Int) : spec_l01Dec_p1 v0 v4 v5 r3 =
  if decide (r3.length + 1 < lim) then
   spec_l01Dec_p0 v0 (IntKind.i64.wrap (v4.tdiv 10)) ((r3.take r3.length) ++ [IntKind.u8.wrap (IntKind.i64.wrap (48 + v5))])
  else
   none :=
 (goL_dn _ _ _ 4000 _ _).trans (by kernel_rfl)
theorem spec_l01Dec_p2_eq  (r3 : List Int) : spec_l01Dec_p2 r3 =
  spec_l01Dec_p3 (IntKind.i64.wrap ((r3.length : Int) - 1)) r3 [] :=
 (goL_dn _ _ _ 4000 _ _).trans (by kernel_rfl)
theorem spec_l01Dec_p3_eq  (v7 : Int) (r3 : List Int) (r6 : List Int) : spec_l01Dec_p3 v7 r3 r6 =
  if decide (v7 ≥ 0) then
   if decide (0 ≤ v7) && decide (v7 < (r3.length : Int)) then
    (r3[v7.toNat]?).bind fun x1 =>
     if decide (r6.length + 1 < lim) then
      spec_l01Dec_p3 (IntKind.i64.wrap (v7 - 1)) r3 ((r6.take r6.length) ++ [x1])
     else
      none
   else
    none
  else
   some ((r6.take r6.length).map vu8) :=
 (goL_dn _ _ _ 4000 _ _).trans (by kernel_rfl)

/- spec.l12Draw -/
def spec_l12Draw_k0 : C :=
 .seq (.seq (.reg false [⟨some 10, false, .mv (.t 5), none, false, []⟩, ⟨some 11, false, .mv (.t 3), none, false, []⟩, ⟨some 12, false, .len (.t 11), none, false, []⟩, ⟨some 13, false, .bin .lss (.t 10) (.t 12), none, false, []⟩] [0, 3, 4, 5, 13] [0, 3, 4, 1000]) (.cond (.t 13) .skip (.exit 0))) (.seq (.block 1 (.seq (.reg false [⟨some 16, false, .mv (.t 0), none, false, []⟩, ⟨some 17, true, .call (.c (.fn 642 [])) [.t 16, .c (.int .i64 4)], none, false, []⟩, ⟨some 18, false, .un .not (.t 17), none, false, []⟩] [0, 3, 4, 5, 18] [0, 3, 4, 1000]) (.cond (.t 18) (.reg false [⟨some 19, false, .mv (.t 4), none, false, []⟩, ⟨some 20, false, .mv (.t 0), none, false, []⟩, ⟨some 21, false, .mv (.t 3), none, false, []⟩, ⟨some 22, false, .mv (.t 5), none, false, []⟩, ⟨some 23, false, .ia 1 (.t 21) (.t 22), none, false, []⟩, ⟨some 24, false, .ld none (.t 23), none, false, []⟩, ⟨some 25, true, .call (.c (.fn 793 [])) [.t 20, .t 24], none, false, []⟩, ⟨some 26, false, .bsl 4 (.agg [.str [], .int .i64 0, .int .i64 0, .int .i64 0]) 1 [(0, .t 25)], none, false, []⟩, ⟨some 27, true, .app 4 40 (.t 19) (.t 26), none, false, []⟩, ⟨some 4, true, .asg (.t 27), none, false, []⟩] [0, 3, 4, 5] [0, 3, 4, 1000]) .skip))) (.reg false [⟨some 14, false, .mv (.t 5), none, false, []⟩, ⟨some 15, false, .bin .add (.t 14) (.c (.int .i64 1)), none, false, []⟩, ⟨some 5, false, .asg (.t 15), none, false, []⟩] [0, 3, 4, 5] [0, 3, 4, 1000]))
def spec_l12Draw_k1 : C :=
 .norm [0, 3, 4, 5] [0, 3, 4, 1000] spec_l12Draw_k0
def spec_l12Draw_k2 : C :=
 .seq (.seq (.reg false [⟨some 45, false, .mv (.t 7), none, false, []⟩, ⟨some 46, false, .mv (.t 6), none, false, []⟩, ⟨some 47, false, .bin .lss (.t 45) (.t 46), none, false, []⟩] [0, 4, 6, 7, 47] [0, 4, 1000]) (.cond (.t 47) .skip (.exit 3))) (.seq (.block 4 (.reg false [⟨some 50, false, .mv (.t 4), none, false, []⟩, ⟨some 51, false, .mv (.t 0), none, false, []⟩, ⟨some 52, false, .mv (.t 7), none, false, []⟩, ⟨some 53, false, .call (.c (.fn 726 [])) [.t 52], none, false, []⟩, ⟨some 54, false, .bin .add (.c (.str [110])) (.t 53), none, false, []⟩, ⟨some 55, true, .call (.c (.fn 793 [])) [.t 51, .t 54], none, false, []⟩, ⟨some 56, false, .bsl 4 (.agg [.str [], .int .i64 0, .int .i64 0, .int .i64 0]) 1 [(0, .t 55)], none, false, []⟩, ⟨some 57, true, .app 4 40 (.t 50) (.t 56), none, false, []⟩, ⟨some 4, true, .asg (.t 57), none, false, []⟩] [0, 4, 6, 7] [0, 4, 1000])) (.reg false [⟨some 48, false, .mv (.t 7), none, false, []⟩, ⟨some 49, false, .bin .add (.t 48) (.c (.int .i64 1)), none, false, []⟩, ⟨some 7, false, .asg (.t 49), none, false, []⟩] [0, 4, 6, 7] [0, 4, 1000]))
def spec_l12Draw_k3 : C :=
 .norm [0, 4, 6, 7] [0, 4, 1000] spec_l12Draw_k2
def spec_l12Draw_k4 : C :=
 .seq (.reg false [⟨some 58, false, .mv (.t 4), none, false, []⟩, ⟨some 2, true, .asg (.t 58), none, false, []⟩] [0, 2] [0, 2, 4, 1000]) .ret
def spec_l12Draw_k5 : C :=
 .seq (.seq (.reg false [⟨some 28, false, .mv (.t 0), none, false, []⟩, ⟨some 29, true, .call (.c (.fn 463 [])) [.t 28, .c (.int .i64 20)], none, false, []⟩] [0, 4, 29] [0, 4, 1000]) (.block 2 (.seq (.reg false [⟨some 31, false, .bin .eql (.t 29) (.c (.int .i64 0)), none, false, []⟩, ⟨some 30, false, .asg (.t 31), none, false, []⟩] [0, 4, 29, 30] [0, 4, 1000]) (.cond (.t 30) (.reg false [⟨some 32, false, .mv (.t 4), none, false, []⟩, ⟨some 33, false, .mv (.t 0), none, false, []⟩, ⟨some 34, false, .mv (.t 0), none, false, []⟩, ⟨some 35, true, .call (.c (.fn 793 [])) [.t 34, .c (.str [122, 122])], none, false, []⟩, ⟨some 36, true, .call (.c (.fn 794 [])) [.t 33, .t 35], none, false, []⟩, ⟨some 37, false, .bsl 4 (.agg [.str [], .int .i64 0, .int .i64 0, .int .i64 0]) 1 [(0, .t 36)], none, false, []⟩, ⟨some 38, true, .app 4 40 (.t 32) (.t 37), none, false, []⟩, ⟨some 4, true, .asg (.t 38), none, false, []⟩] [0, 4] [0, 4, 1000]) (.seq (.reg false [⟨some 40, false, .bin .eql (.t 29) (.c (.int .i64 1)), none, false, []⟩, ⟨some 39, false, .asg (.t 40), none, false, []⟩] [0, 4, 39] [0, 4, 1000]) (.cond (.t 39) (.seq (.reg false [⟨some 41, false, .mv (.t 0), none, false, []⟩, ⟨some 42, false, .bsl 1 (.int .i64 0) 2 [(0, .c (.int .i64 8)), (1, .c (.int .i64 9))], none, false, []⟩, ⟨some 43, true, .call (.c (.fn 445 [])) [.t 41, .t 42], none, false, []⟩, ⟨some 6, false, .asg (.t 43), none, false, []⟩] [0, 6] [0, 1000]) (.seq (.reg false [⟨some 44, false, .bsl 4 (.agg [.str [], .int .i64 0, .int .i64 0, .int .i64 0]) 0 [], none, false, []⟩, ⟨some 4, true, .asg (.t 44), none, false, []⟩] [0, 4, 6] [0, 4, 1000]) (.seq (.reg false [⟨some 7, false, .asg (.c (.int .i64 0)), none, false, []⟩] [0, 4, 6, 7] [0, 4, 1000]) (.block 3 (.loop spec_l12Draw_k3))))) .skip)))))) spec_l12Draw_k4
def spec_l12Draw_ir : Fn := { np := 1, io := [true], res := [.t 2], own := [true], body :=
 (.seq (.reg false [⟨some 2, true, .asg (.c (.nils 4)), none, false, []⟩] [0] [0, 1000]) (.seq (.reg false [⟨some 8, false, .bsl 1 (.str []) 4 [(0, .c (.str [112, 97])), (1, .c (.str [112, 98])), (2, .c (.str [112, 99])), (3, .c (.str [112, 100]))], none, false, []⟩, ⟨some 3, true, .asg (.t 8), none, false, []⟩] [0, 3] [0, 3, 1000]) (.seq (.reg false [⟨some 9, false, .bsl 4 (.agg [.str [], .int .i64 0, .int .i64 0, .int .i64 0]) 0 [], none, false, []⟩, ⟨some 4, true, .asg (.t 9), none, false, []⟩] [0, 3, 4] [0, 3, 4, 1000]) (.seq (.seq (.reg false [⟨some 5, false, .asg (.c (.int .i64 0)), none, false, []⟩] [0, 3, 4, 5] [0, 3, 4, 1000]) (.block 0 (.loop spec_l12Draw_k1))) spec_l12Draw_k5)))) }
noncomputable def spec_l12Draw_D : List (Nat × Callee) := [(445, spec_l00Src_among_c), (463, spec_l00Src_pick_c), (642, spec_l00Src_one_c), (726, spec_l01Dec_c), (793, spec_l12DrawOne_c), (794, spec_l12Bent_c)]
def spec_l12Draw_H : List (Nat × ET) := [(2, T_Peg), (3, (.one .str)), (4, T_Peg), (8, (.one .str)), (9, T_Peg), (11, (.one .str)), (19, T_Peg), (21, (.one .str)), (26, T_Peg), (27, T_Peg), (32, T_Peg), (37, T_Peg), (38, T_Peg), (42, (.one (.int .i64))), (44, T_Peg), (50, T_Peg), (56, T_Peg), (57, T_Peg), (58, T_Peg)]
noncomputable def spec_l12Draw_c : Callee := mkCallee spec_l12Draw_D spec_l12Draw_H spec_l12Draw_ir [.box T_l00Src] [.tok T_Peg] [.box T_l00Src]
noncomputable def spec_l12Draw (a0 : T_l00Src.ty) : Option (List T_Peg.ty × T_l00Src.ty) := spec_l12Draw_c.f (a0, ())
noncomputable def spec_l12Draw_p0  (v5 : Int) (r0_0 : List Int) (r0_1 : Int) (r0_2 : Int) (r3 : List (List UInt8)) (r4 : List T_Peg.ty) : Option (List T_Peg.ty × T_l00Src.ty) :=
 goL spec_l12Draw_D spec_l12Draw_H (vleave spec_l12Draw_ir [.box T_l00Src] [.tok T_Peg] [.box T_l00Src] []) [.c spec_l12Draw_k0, .l spec_l12Draw_k1, .e 0, .c spec_l12Draw_k5]
  ⟨[(0, .loc 0 0 0), (3, .view 3 0 r3.length), (4, .view 4 0 r4.length), (5, .int .i64 v5)], [(0, some (.var 3 (.agg [.sl (.one (.int .u8)) r0_0, .int .i64 r0_1, .int .u64 r0_2]))), (3, some (.sl (.one .str) r3)), (4, some (.sl T_Peg r4)), (1000, none)]⟩
noncomputable def spec_l12Draw_p1  (v6 : Int) (v7 : Int) (r0_0 : List Int) (r0_1 : Int) (r0_2 : Int) (r4 : List T_Peg.ty) : Option (List T_Peg.ty × T_l00Src.ty) :=
 goL spec_l12Draw_D spec_l12Draw_H (vleave spec_l12Draw_ir [.box T_l00Src] [.tok T_Peg] [.box T_l00Src] []) [.c spec_l12Draw_k2, .l spec_l12Draw_k3, .e 3, .e 2, .c spec_l12Draw_k4]
  ⟨[(0, .loc 0 0 0), (4, .view 4 0 r4.length), (6, .int .i64 v6), (7, .int .i64 v7)], [(0, some (.var 3 (.agg [.sl (.one (.int .u8)) r0_0, .int .i64 r0_1, .int .u64 r0_2]))), (4, some (.sl T_Peg r4)), (1000, none)]⟩
theorem spec_l12Draw_eq (a0 : T_l00Src.ty) : spec_l12Draw a0 =
  spec_l12Draw_p0 0 a0.1 a0.2.1 a0.2.2.1 [[112, 97], [112, 98], [112, 99], [112, 100]] [] :=
 (mk_f _ _ _ _ _ _ _ 4000).trans (by kernel_rfl)
theorem spec_l12Draw_p0_eq  (v5 : Int) (r0_0 : List Int) (r0_1 : Int) (r0_2 : Int) (r3 : List (List UInt8)) (r4 : List T_Peg.ty) : spec_l12Draw_p0 v5 r0_0 r0_1 r0_2 r3 r4 =
  if decide (v5 < (r3.length : Int)) then
   (spec_l00Src_one (r0_0, r0_1, r0_2, ()) 4).bind fun x1 =>
    if (!x1.1) then
     if decide (0 ≤ v5) && decide (v5 < (r3.length : Int)) then
      (r3[v5.toNat]?).bind fun x2 =>
       (spec_l12DrawOne (x1.2.1, x1.2.2.1, x1.2.2.2.1, ()) x2).bind fun x3 =>
        if decide (r4.length + 1 < lim) then
         spec_l12Draw_p0 (IntKind.i64.wrap (v5 + 1)) x3.2.1 x3.2.2.1 x3.2.2.2.1 r3 ((r4.take r4.length) ++ [(x3.1.1, x3.1.2.1, x3.1.2.2.1, x3.1.2.2.2.1, ())])
        else
         none
     else
      none
    else
     spec_l12Draw_p0 (IntKind.i64.wrap (v5 + 1)) x1.2.1 x1.2.2.1 x1.2.2.2.1 r3 r4
  else
   (spec_l00Src_pick (r0_0, r0_1, r0_2, ()) 20).bind fun x4 =>
    if (x4.1 == 0) then
     (spec_l12DrawOne (x4.2.1, x4.2.2.1, x4.2.2.2.1, ()) [122, 122]).bind fun x5 =>
      (spec_l12Bent (x5.2.1, x5.2.2.1, x5.2.2.2.1, ()) (x5.1.1, x5.1.2.1, x5.1.2.2.1, x5.1.2.2.2.1, ())).bind fun x6 =>
       if decide (r4.length + 1 < lim) then
        some ((((r4.take r4.length) ++ [(x6.1.1, x6.1.2.1, x6.1.2.2.1, x6.1.2.2.2.1, ())]).take (((r4.take r4.length) ++ [(x6.1.1, x6.1.2.1, x6.1.2.2.1, x6.1.2.2.2.1, ())]).length)), (x6.2.1, x6.2.2.1, x6.2.2.2.1, ()))
       else
        none
    else
     if (x4.1 == 1) then
      (spec_l00Src_among (x4.2.1, x4.2.2.1, x4.2.2.2.1, ()) [8, 9]).bind fun x7 =>
       spec_l12Draw_p1 x7.1 0 x7.2.1 x7.2.2.1 x7.2.2.2.1 []
     else
      some ((r4.take r4.length), (x4.2.1, x4.2.2.1, x4.2.2.2.1, ())) :=
 (goL_dn _ _ _ 4000 _ _).trans (by kernel_rfl)
theorem spec_l12Draw_p1_eq  (v6 : Int) (v7 : Int) (r0_0 : List Int) (r0_1 : Int) (r0_2 : Int) (r4 : List T_Peg.ty) : spec_l12Draw_p1 v6 v7 r0_0 r0_1 r0_2 r4 =
  if decide (v7 < v6) then
   (spec_l01Dec v7).bind fun x1 =>
    if decide ([110].length + x1.length ≤ strMax) then
     (spec_l12DrawOne (r0_0, r0_1, r0_2, ()) ([110] ++ x1)).bind fun x2 =>
      if decide (r4.length + 1 < lim) then
       spec_l12Draw_p1 v6 (IntKind.i64.wrap (v7 + 1)) x2.2.1 x2.2.2.1 x2.2.2.2.1 ((r4.take r4.length) ++ [(x2.1.1, x2.1.2.1, x2.1.2.2.1, x2.1.2.2.2.1, ())])
      else
       none
    else
     none
  else
   some ((r4.take r4.length), (r0_0, r0_1, r0_2, ())) :=
 (goL_dn _ _ _ 4000 _ _).trans (by kernel_rfl)

/- spec.l12DrawWay -/
def spec_l12DrawWay_ir : Fn := { np := 1, io := [true], res := [.t 2], own := [false], body :=
 (.seq (.reg false [⟨some 2, false, .asg (.c (.int .i64 0)), none, false, []⟩] [0] [0, 1000]) (.seq (.seq (.reg false [⟨some 3, false, .mv (.t 0), none, false, []⟩, ⟨some 4, true, .call (.c (.fn 642 [])) [.t 3, .c (.int .i64 9)], none, false, []⟩] [0, 4] [0, 1000]) (.cond (.t 4) (.seq (.reg false [⟨some 5, false, .mv (.t 0), none, false, []⟩, ⟨some 6, false, .bsl 1 (.int .i64 0) 4 [(0, .c (.int .i64 (-1))), (1, .c (.int .i64 0)), (2, .c (.int .i64 1000)), (3, .c (.int .i64 1001))], none, false, []⟩, ⟨some 7, true, .call (.c (.fn 445 [])) [.t 5, .t 6], none, false, []⟩, ⟨some 2, false, .asg (.t 7), none, false, []⟩] [0, 2] [0, 1000]) .ret) .skip)) (.seq (.reg false [⟨some 8, false, .mv (.t 0), none, false, []⟩, ⟨some 9, true, .call (.c (.fn 463 [])) [.t 8, .c (.int .i64 60)], none, false, []⟩, ⟨some 10, false, .bin .mul (.c (.int .i64 10)) (.t 9), none, false, []⟩, ⟨some 2, false, .asg (.t 10), none, false, []⟩] [0, 2] [0, 1000]) .ret))) }
noncomputable def spec_l12DrawWay_D : List (Nat × Callee) := [(445, spec_l00Src_among_c), (463, spec_l00Src_pick_c), (642, spec_l00Src_one_c)]
def spec_l12DrawWay_H : List (Nat × ET) := [(6, (.one (.int .i64)))]
noncomputable def spec_l12DrawWay_c : Callee := mkCallee spec_l12DrawWay_D spec_l12DrawWay_H spec_l12DrawWay_ir [.box T_l00Src] [.d (.one (.int .i64))] [.box T_l00Src]
noncomputable def spec_l12DrawWay (a0 : T_l00Src.ty) : Option (Int × T_l00Src.ty) := spec_l12DrawWay_c.f (a0, ())
theorem spec_l12DrawWay_eq (a0 : T_l00Src.ty) : spec_l12DrawWay a0 =
  (spec_l00Src_one a0 9).bind fun x1 =>
   if x1.1 then
    (spec_l00Src_among (x1.2.1, x1.2.2.1, x1.2.2.2.1, ()) [(-1), 0, 1000, 1001]).bind fun x2 =>
     some (x2.1, (x2.2.1, x2.2.2.1, x2.2.2.2.1, ()))
   else
    (spec_l00Src_pick (x1.2.1, x1.2.2.1, x1.2.2.2.1, ()) 60).bind fun x3 =>
     some (IntKind.i64.wrap (10 * x3.1), (x3.2.1, x3.2.2.1, x3.2.2.2.1, ())) :=
 (mk_f _ _ _ _ _ _ _ 4000).trans (by kernel_rfl)

/- spec.DrawFitPegs -/
def spec_DrawFitPegs_k0 : C :=
 .seq (.seq (.reg false [⟨some 14, false, .mv (.t 8), none, false, []⟩, ⟨some 15, false, .mv (.t 6), none, false, []⟩, ⟨some 16, false, .len (.t 15), none, false, []⟩, ⟨some 17, false, .bin .lss (.t 14) (.t 16), none, false, []⟩] [5, 6, 7, 8, 17] [6, 7, 10, 11000]) (.cond (.t 17) .skip (.exit 0))) (.seq (.block 1 (.reg false [⟨some 20, false, .mv (.t 7), none, false, []⟩, ⟨some 21, false, .mv (.t 5), none, false, []⟩, ⟨some 22, true, .call (.c (.fn 463 [])) [.t 21, .c (.int .i64 18)], none, false, []⟩, ⟨some 23, false, .bin .add (.c (.int .i64 56)) (.t 22), none, false, []⟩, ⟨some 24, false, .bsl 1 (.int .i64 0) 1 [(0, .t 23)], none, false, []⟩, ⟨some 25, true, .app 1 8 (.t 20) (.t 24), none, false, []⟩, ⟨some 7, true, .asg (.t 25), none, false, []⟩] [5, 6, 7, 8] [6, 7, 10, 11000])) (.reg false [⟨some 18, false, .mv (.t 8), none, false, []⟩, ⟨some 19, false, .bin .add (.t 18) (.c (.int .i64 1)), none, false, []⟩, ⟨some 8, false, .asg (.t 19), none, false, []⟩] [5, 6, 7, 8] [6, 7, 10, 11000]))
def spec_DrawFitPegs_k1 : C :=
 .norm [5, 6, 7, 8] [6, 7, 10, 11000] spec_DrawFitPegs_k0
def spec_DrawFitPegs_k2 : C :=
 .seq (.reg false [⟨some 42, false, .mv (.t 6), none, false, []⟩, ⟨some 43, false, .mv (.t 7), none, false, []⟩, ⟨some 44, false, .mv (.t 5), none, false, []⟩, ⟨some 45, true, .call (.c (.fn 798 [])) [.t 44], none, false, []⟩, ⟨some 46, false, .bin .add (.c (.int .i64 100)) (.t 45), none, false, []⟩, ⟨some 2, true, .asg (.t 42), none, false, []⟩, ⟨some 3, true, .asg (.t 43), none, false, []⟩, ⟨some 4, false, .asg (.t 46), none, false, []⟩] [2, 3, 4] [2, 3, 6, 7]) .ret
def spec_DrawFitPegs_k3 : C :=
 .seq (.seq (.reg false [⟨some 26, false, .mv (.t 5), none, false, []⟩, ⟨some 27, true, .call (.c (.fn 463 [])) [.t 26, .c (.int .i64 16)], none, false, []⟩] [5, 6, 7, 27] [6, 7, 10, 11000]) (.block 2 (.seq (.reg false [⟨some 29, false, .bin .eql (.t 27) (.c (.int .i64 0)), none, false, []⟩, ⟨some 28, false, .asg (.t 29), none, false, []⟩] [5, 6, 7, 27, 28] [6, 7, 10, 11000]) (.cond (.t 28) (.reg false [⟨some 30, false, .mv (.t 7), none, false, []⟩, ⟨some 31, false, .bsl 1 (.int .i64 0) 1 [(0, .c (.int .i64 60))], none, false, []⟩, ⟨some 32, true, .app 1 8 (.t 30) (.t 31), none, false, []⟩, ⟨some 7, true, .asg (.t 32), none, false, []⟩] [5, 6, 7] [6, 7, 10, 11000]) (.seq (.reg false [⟨some 34, false, .bin .eql (.t 27) (.c (.int .i64 1)), none, false, []⟩, ⟨some 33, false, .asg (.t 34), none, false, []⟩] [5, 6, 7, 33] [6, 7, 10, 11000]) (.cond (.t 33) (.seq (.reg false [⟨some 35, false, .mv (.t 7), none, false, []⟩, ⟨some 36, false, .len (.t 35), none, false, []⟩, ⟨some 37, false, .bin .gtr (.t 36) (.c (.int .i64 0)), none, false, []⟩] [5, 6, 7, 37] [6, 7, 10, 11000]) (.cond (.t 37) (.reg false [⟨some 38, false, .mv (.t 7), none, false, []⟩, ⟨some 39, false, .mv (.t 5), none, false, []⟩, ⟨some 40, true, .call (.c (.fn 792 [])) [.t 39], none, false, []⟩, ⟨some 41, false, .ia 1 (.t 38) (.c (.int .i64 0)), none, false, []⟩, ⟨none, true, .sto 1 (.t 41) (.t 40), none, false, []⟩] [5, 6, 7] [6, 7, 10, 11000]) .skip)) .skip)))))) (.norm [5, 6, 7] [6, 7, 10, 11000] spec_DrawFitPegs_k2)
def spec_DrawFitPegs_ir : Fn := { np := 1, io := [], res := [.t 2, .t 3, .t 4], own := [true, true, false], body :=
 (.seq (.reg false [⟨some 2, true, .asg (.c (.nils 4)), none, false, []⟩, ⟨some 3, true, .asg (.c (.nils 1)), none, false, []⟩, ⟨some 4, false, .asg (.c (.int .i64 0)), none, false, []⟩] [0] []) (.seq (.reg false [⟨some 9, false, .mv (.t 0), none, false, []⟩, ⟨some 10, true, .call (.c (.fn 441 [])) [.t 9], none, false, []⟩, ⟨some 5, false, .asg (.t 10), none, false, []⟩] [5] [10, 11000]) (.seq (.reg false [⟨some 11, false, .mv (.t 5), none, false, []⟩, ⟨some 12, true, .call (.c (.fn 467 [])) [.t 11], none, false, []⟩, ⟨some 6, true, .asg (.t 12), none, false, []⟩] [5, 6] [6, 10, 11000]) (.seq (.reg false [⟨some 13, false, .bsl 1 (.int .i64 0) 0 [], none, false, []⟩, ⟨some 7, true, .asg (.t 13), none, false, []⟩] [5, 6, 7] [6, 7, 10, 11000]) (.seq (.seq (.reg false [⟨some 8, false, .asg (.c (.int .i64 0)), none, false, []⟩] [5, 6, 7, 8] [6, 7, 10, 11000]) (.block 0 (.loop spec_DrawFitPegs_k1))) spec_DrawFitPegs_k3))))) }
noncomputable def spec_DrawFitPegs_D : List (Nat × Callee) := [(441, spec_l00From_c), (463, spec_l00Src_pick_c), (467, spec_l12Draw_c), (792, spec_l12DrawHole_c), (798, spec_l12DrawWay_c)]
def spec_DrawFitPegs_H : List (Nat × ET) := [(2, T_Peg), (3, (.one (.int .i64))), (6, T_Peg), (7, (.one (.int .i64))), (9, (.one (.int .u8))), (12, T_Peg), (13, (.one (.int .i64))), (15, T_Peg), (20, (.one (.int .i64))), (24, (.one (.int .i64))), (25, (.one (.int .i64))), (30, (.one (.int .i64))), (31, (.one (.int .i64))), (32, (.one (.int .i64))), (35, (.one (.int .i64))), (38, (.one (.int .i64))), (42, T_Peg), (43, (.one (.int .i64)))]
noncomputable def spec_DrawFitPegs_c : Callee := mkCallee spec_DrawFitPegs_D spec_DrawFitPegs_H spec_DrawFitPegs_ir [.d (.one (.sl (.one (.int .u8))))] [.tok T_Peg, .tok (.one (.int .i64)), .d (.one (.int .i64))] []
noncomputable def spec_DrawFitPegs (a0 : List Int) : Option (List T_Peg.ty × List Int × Int) := spec_DrawFitPegs_c.f (a0, ())
noncomputable def spec_DrawFitPegs_p0  (v8 : Int) (r6 : List T_Peg.ty) (r7 : List Int) (r10_0 : List Int) (r10_1 : Int) (r10_2 : Int) : Option (List T_Peg.ty × List Int × Int) :=
 goL spec_DrawFitPegs_D spec_DrawFitPegs_H (vleave spec_DrawFitPegs_ir [.d (.one (.sl (.one (.int .u8))))] [.tok T_Peg, .tok (.one (.int .i64)), .d (.one (.int .i64))] [] []) [.c spec_DrawFitPegs_k0, .l spec_DrawFitPegs_k1, .e 0, .c spec_DrawFitPegs_k3]
  ⟨[(5, .loc 10 0 0), (6, .view 6 0 r6.length), (7, .view 7 0 r7.length), (8, .int .i64 v8)], [(6, some (.sl T_Peg r6)), (7, some (.sl (.one (.int .i64)) r7)), (10, some (.var 3 (.agg [.sl (.one (.int .u8)) r10_0, .int .i64 r10_1, .int .u64 r10_2]))), (11000, none)]⟩
noncomputable def spec_DrawFitPegs_p1  (v7n : Nat) (r6 : List T_Peg.ty) (r7 : List Int) (r10_0 : List Int) (r10_1 : Int) (r10_2 : Int) : Option (List T_Peg.ty × List Int × Int) :=
 goL spec_DrawFitPegs_D spec_DrawFitPegs_H (vleave spec_DrawFitPegs_ir [.d (.one (.sl (.one (.int .u8))))] [.tok T_Peg, .tok (.one (.int .i64)), .d (.one (.int .i64))] [] []) [.c spec_DrawFitPegs_k2]
  ⟨[(5, .loc 10 0 0), (6, .view 6 0 r6.length), (7, .view 7 0 v7n)], [(6, some (.sl T_Peg r6)), (7, some (.sl (.one (.int .i64)) r7)), (10, some (.var 3 (.agg [.sl (.one (.int .u8)) r10_0, .int .i64 r10_1, .int .u64 r10_2]))), (11000, none)]⟩
theorem spec_DrawFitPegs_eq (a0 : List Int) : spec_DrawFitPegs a0 =
  (spec_l00From a0).bind fun x1 =>
   (spec_l12Draw x1).bind fun x2 =>
    spec_DrawFitPegs_p0 0 x2.1 [] x2.2.1 x2.2.2.1 x2.2.2.2.1 :=
 (mk_f _ _ _ _ _ _ _ 4000).trans (by kernel_rfl)
theorem spec_DrawFitPegs_p0_eq  (v8 : Int) (r6 : List T_Peg.ty) (r7 : List Int) (r10_0 : List Int) (r10_1 : Int) (r10_2 : Int) : spec_DrawFitPegs_p0 v8 r6 r7 r10_0 r10_1 r10_2 =
  if decide (v8 < (r6.length : Int)) then
   (spec_l00Src_pick (r10_0, r10_1, r10_2, ()) 18).bind fun x1 =>
    if decide (r7.length + 1 < lim) then
     spec_DrawFitPegs_p0 (IntKind.i64.wrap (v8 + 1)) r6 ((r7.take r7.length) ++ [IntKind.i64.wrap (56 + x1.1)]) x1.2.1 x1.2.2.1 x1.2.2.2.1
    else
     none
  else
   (spec_l00Src_pick (r10_0, r10_1, r10_2, ()) 16).bind fun x2 =>
    if (x2.1 == 0) then
     if decide (r7.length + 1 < lim) then
      spec_DrawFitPegs_p1 (((r7.take r7.length) ++ [60]).length) r6 ((r7.take r7.length) ++ [60]) x2.2.1 x2.2.2.1 x2.2.2.2.1
     else
      none
    else
     if (x2.1 == 1) then
      if decide ((r7.length : Int) > 0) then
       (spec_l12DrawHole (x2.2.1, x2.2.2.1, x2.2.2.2.1, ())).bind fun x3 =>
        if decide (0 < (r7.length : Int)) then
         (r7[0]?).bind fun x4 =>
          spec_DrawFitPegs_p1 r7.length r6 (r7.set 0 x3.1) x3.2.1 x3.2.2.1 x3.2.2.2.1
        else
         none
      else
       spec_DrawFitPegs_p1 r7.length r6 r7 x2.2.1 x2.2.2.1 x2.2.2.2.1
     else
      spec_DrawFitPegs_p1 r7.length r6 r7 x2.2.1 x2.2.2.1 x2.2.2.2.1 :=
 (goL_dn _ _ _ 4000 _ _).trans (by kernel_rfl)
theorem spec_DrawFitPegs_p1_eq  (v7n : Nat) (r6 : List T_Peg.ty) (r7 : List Int) (r10_0 : List Int) (r10_1 : Int) (r10_2 : Int) : spec_DrawFitPegs_p1 v7n r6 r7 r10_0 r10_1 r10_2 =
  (spec_l12DrawWay (r10_0, r10_1, r10_2, ())).bind fun x1 =>
   some ((r6.take r6.length), (r7.take v7n), IntKind.i64.wrap (100 + x1.1)) :=
 (goL_dn _ _ _ 4000 _ _).trans (by kernel_rfl)

/- impl.ValidPegs -/
def impl_ValidPegs_k0 : C :=
 .seq (.reg false [⟨some 8, false, .bin .lss (.t 7) (.t 6), none, false, []⟩] [0, 5, 6, 7, 8] []) (.seq (.cond (.t 8) .skip (.exit 0)) (.seq (.block 1 (.seq (.reg false [⟨some 9, false, .mv (.t 7), none, false, []⟩, ⟨some 10, false, .ia 4 (.t 5) (.t 7), none, false, []⟩, ⟨some 11, false, .ld (some 4) (.t 10), none, false, []⟩, ⟨some 4, true, .alloc 4 (.agg [.str [], .int .i64 0, .int .i64 0, .int .i64 0]), none, false, []⟩, ⟨some 3, false, .asg (.t 9), none, false, []⟩, ⟨none, true, .sto 4 (.t 4) (.t 11), none, false, []⟩] [0, 3, 4, 5, 6, 7] [4]) (.seq (.reg true [⟨some 12, false, .ld (some 4) (.t 4), none, false, []⟩, ⟨some 13, false, .call (.c (.fn 796 [])) [.t 12], none, false, []⟩, ⟨some 14, false, .un .not (.t 13), none, false, []⟩, ⟨some 15, false, .mv (.t 14), none, false, []⟩, ⟨some 16, false, .mv (.t 3), some (3, false), false, []⟩, ⟨some 17, false, .bin .gtr (.t 16) (.c (.int .i64 0)), some (3, false), false, []⟩, ⟨some 18, false, .mv (.t 17), some (3, false), false, []⟩, ⟨some 19, false, .mv (.t 0), some (6, true), false, []⟩, ⟨some 20, false, .mv (.t 3), some (6, true), false, []⟩, ⟨some 21, false, .bin .sub (.t 20) (.c (.int .i64 1)), some (6, true), false, []⟩, ⟨some 22, false, .ia 4 (.t 19) (.t 21), some (6, true), false, []⟩, ⟨some 23, false, .fa 0 (.t 22), some (6, true), false, []⟩, ⟨some 24, false, .ld none (.t 23), some (6, true), false, []⟩, ⟨some 25, false, .fa 0 (.t 4), some (6, true), false, []⟩, ⟨some 26, false, .ld none (.t 25), some (6, true), false, []⟩, ⟨some 27, false, .bin .geq (.t 24) (.t 26), some (6, true), false, []⟩, ⟨some 28, false, .pick (.t 18) (.t 27) (.c (.bool false)), some (3, false), false, []⟩, ⟨some 29, false, .pick (.t 15) (.c (.bool true)) (.t 28), none, false, []⟩] [0, 5, 6, 7, 29] []) (.cond (.t 29) (.seq (.reg false [⟨some 2, false, .asg (.c (.bool false)), none, false, []⟩] [2] []) .ret) .skip)))) (.reg false [⟨some 30, false, .bin .add (.t 7) (.c (.int .i64 1)), none, false, []⟩, ⟨some 7, false, .mv (.t 30), none, false, []⟩] [0, 5, 6, 7] [])))
def impl_ValidPegs_k1 : C :=
 .norm [0, 5, 6, 7] [] impl_ValidPegs_k0
def impl_ValidPegs_k2 : C :=
 .seq (.reg false [⟨some 31, false, .mv (.t 0), none, false, []⟩, ⟨some 32, false, .len (.t 31), none, false, []⟩, ⟨some 33, false, .call (.c (.fn 21 [])) [.t 32, .c (.int .i64 8)], none, false, []⟩, ⟨some 2, false, .asg (.t 33), none, false, []⟩] [2] []) .ret
def impl_ValidPegs_ir : Fn := { np := 1, io := [], res := [.t 2], own := [false], body :=
 (.seq (.reg false [⟨some 2, false, .asg (.c (.bool false)), none, false, []⟩] [0] []) (.seq (.seq (.reg false [⟨some 5, false, .mv (.t 0), none, false, []⟩, ⟨some 6, false, .len (.t 5), none, false, []⟩, ⟨some 7, false, .mv (.c (.int .i64 0)), none, false, []⟩] [0, 5, 6, 7] []) (.block 0 (.loop impl_ValidPegs_k1))) impl_ValidPegs_k2)) }
noncomputable def impl_ValidPegs_D : List (Nat × Callee) := [(21, impl_few_c), (796, impl_Peg_valid_c)]
def impl_ValidPegs_H : List (Nat × ET) := [(5, T_Peg), (19, T_Peg), (31, T_Peg)]
noncomputable def impl_ValidPegs_c : Callee := mkCallee impl_ValidPegs_D impl_ValidPegs_H impl_ValidPegs_ir [.d (.one (.sl T_Peg))] [.d (.one .bool)] []
noncomputable def impl_ValidPegs (a0 : List T_Peg.ty) : Option (Bool) := impl_ValidPegs_c.f (a0, ())
noncomputable def impl_ValidPegs_p0  (v0 : List T_Peg.ty) (v5 : List T_Peg.ty) (v6 : Int) (v7 : Int) : Option (Bool) :=
 goL impl_ValidPegs_D impl_ValidPegs_H (vleave impl_ValidPegs_ir [.d (.one (.sl T_Peg))] [.d (.one .bool)] [] []) [.c impl_ValidPegs_k0, .l impl_ValidPegs_k1, .e 0, .c impl_ValidPegs_k2]
  ⟨[(0, .sl T_Peg v0), (5, .sl T_Peg v5), (6, .int .i64 v6), (7, .int .i64 v7)], []⟩
theorem impl_ValidPegs_eq (a0 : List T_Peg.ty) : impl_ValidPegs a0 =
  impl_ValidPegs_p0 a0 a0 (a0.length : Int) 0 :=
 (mk_f _ _ _ _ _ _ _ 4000).trans (by kernel_rfl)
theorem impl_ValidPegs_p0_eq  (v0 : List T_Peg.ty) (v5 : List T_Peg.ty) (v6 : Int) (v7 : Int) : impl_ValidPegs_p0 v0 v5 v6 v7 =
  if decide (v7 < v6) then
   if decide (0 ≤ v7) then
    (v5[v7.toNat]?).bind fun x1 =>
     (impl_Peg_valid x1).bind fun x2 =>
      if (!x2) then
       some false
      else
       if decide (v7 > 0) then
        if decide (0 ≤ IntKind.i64.wrap (v7 - 1)) then
         (v0[(IntKind.i64.wrap (v7 - 1)).toNat]?).bind fun x3 =>
          if (!Op.bytesLess x3.1 x1.1) then
           some false
          else
           impl_ValidPegs_p0 v0 v5 v6 (IntKind.i64.wrap (v7 + 1))
        else
         none
       else
        impl_ValidPegs_p0 v0 v5 v6 (IntKind.i64.wrap (v7 + 1))
   else
    none
  else
   (impl_few (v0.length : Int) 8).bind fun x4 =>
    some x4 :=
 (goL_dn _ _ _ 4000 _ _).trans (by kernel_rfl)

/- impl.clone[int64] -/
def impl_clone_int64__ir : Fn := { np := 1, io := [], res := [.t 2], own := [true], body :=
 (.seq (.reg false [⟨some 2, true, .asg (.c (.nils 1)), none, false, []⟩] [0] []) (.seq (.reg false [⟨some 3, false, .mv (.t 0), none, false, []⟩, ⟨some 4, false, .len (.t 3), none, false, []⟩, ⟨some 5, false, .mks 1 8 (.int .i64 0) (.c (.int .i64 0)) (.t 4), none, false, []⟩, ⟨some 6, false, .mv (.t 0), none, false, []⟩, ⟨some 7, true, .app 1 8 (.t 5) (.t 6), none, false, []⟩, ⟨some 2, true, .asg (.t 7), none, false, []⟩] [2] [2]) .ret)) }
noncomputable def impl_clone_int64__D : List (Nat × Callee) := []
def impl_clone_int64__H : List (Nat × ET) := [(2, (.one (.int .i64))), (3, (.one (.int .i64))), (5, (.one (.int .i64))), (6, (.one (.int .i64))), (7, (.one (.int .i64)))]
noncomputable def impl_clone_int64__c : Callee := mkCallee impl_clone_int64__D impl_clone_int64__H impl_clone_int64__ir [.d (.one (.sl (.one (.int .i64))))] [.tok (.one (.int .i64))] []
noncomputable def impl_clone_int64_ (a0 : List Int) : Option (List Int) := impl_clone_int64__c.f (a0, ())
theorem impl_clone_int64__eq (a0 : List Int) : impl_clone_int64_ a0 =
  if decide (0 ≤ (a0.length : Int)) && decide ((a0.length : Int).toNat < lim) then
   if decide (0 + a0.length < lim) then
    some (([] ++ a0).take (([] ++ a0).length))
   else
    none
  else
   none :=
 (mk_f _ _ _ _ _ _ _ 4000).trans (by kernel_rfl)

/- impl.fit -/
def impl_fit_k0 : C :=
 .seq (.reg false [⟨some 35, false, .bin .lss (.t 34) (.t 33), none, false, []⟩] [0, 1, 2, 3, 10, 11, 12, 25, 26, 27, 32, 33, 34, 35] [11]) (.seq (.cond (.t 35) .skip (.exit 2)) (.seq (.block 3 (.seq (.reg false [⟨some 36, false, .ia 1 (.t 32) (.t 34), none, false, []⟩, ⟨some 37, false, .ld none (.t 36), none, false, []⟩, ⟨some 14, false, .asg (.t 37), none, false, []⟩] [0, 1, 2, 3, 10, 11, 12, 14, 25, 26, 27, 32, 33, 34] [11]) (.reg false [⟨some 38, false, .mv (.t 12), none, false, []⟩, ⟨some 39, false, .mv (.t 38), none, false, []⟩, ⟨some 40, false, .mv (.t 14), some (1, false), false, []⟩, ⟨some 41, false, .mv (.t 10), some (1, false), false, []⟩, ⟨some 42, false, .bin .eql (.t 40) (.t 41), some (1, false), false, []⟩, ⟨some 43, false, .pick (.t 39) (.c (.bool true)) (.t 42), none, false, []⟩, ⟨some 12, false, .asg (.t 43), none, false, []⟩] [0, 1, 2, 3, 10, 11, 12, 25, 26, 27, 32, 33, 34] [11]))) (.reg false [⟨some 44, false, .bin .add (.t 34) (.c (.int .i64 1)), none, false, []⟩, ⟨some 34, false, .mv (.t 44), none, false, []⟩] [0, 1, 2, 3, 10, 11, 12, 25, 26, 27, 32, 33, 34] [11])))
def impl_fit_k1 : C :=
 .norm [0, 1, 2, 3, 10, 11, 12, 25, 26, 27, 32, 33, 34] [11] impl_fit_k0
def impl_fit_k2 : C :=
 .seq (.reg false [⟨some 66, false, .mv (.t 0), none, false, []⟩, ⟨some 67, false, .mv (.t 1), none, false, []⟩, ⟨some 68, false, .mv (.t 2), none, false, []⟩, ⟨some 69, false, .mv (.t 3), none, false, []⟩, ⟨some 70, false, .call (.c (.fn 624 [])) [.t 69], none, false, []⟩, ⟨some 71, false, .mv (.t 10), none, false, []⟩, ⟨some 72, false, .bsl 1 (.int .i64 0) 1 [(0, .t 71)], none, false, []⟩, ⟨some 73, true, .app 1 8 (.t 70) (.t 72), none, false, []⟩, ⟨some 74, true, .call (.c (.fn 499 [])) [.t 66, .t 67, .t 68, .t 73], none, false, []⟩, ⟨some 65, false, .mv (.t 74), none, false, []⟩, ⟨some 75, false, .ext (.t 65) 0, none, false, []⟩, ⟨some 76, false, .ext (.t 65) 1, none, false, []⟩, ⟨some 17, true, .asg (.t 75), none, false, []⟩, ⟨some 18, false, .asg (.t 76), none, false, []⟩] [0, 1, 2, 3, 17, 18, 25, 26, 27] [17]) (.seq (.reg false [⟨some 77, false, .mv (.t 18), none, false, []⟩] [0, 1, 2, 3, 17, 25, 26, 27, 77] [17]) (.cond (.t 77) (.seq (.reg false [⟨some 78, false, .mv (.t 17), none, false, []⟩, ⟨some 8, true, .asg (.t 78), none, false, []⟩, ⟨some 9, false, .asg (.c (.bool true)), none, false, []⟩] [8, 9] [8, 17]) .ret) .skip))
def impl_fit_k3 : C :=
 .seq (.reg true [⟨some 46, false, .ld (some 4) (.t 11), none, false, []⟩, ⟨some 47, false, .mv (.t 1), none, false, []⟩, ⟨some 48, false, .mv (.t 3), none, false, []⟩, ⟨some 49, false, .len (.t 48), none, false, []⟩, ⟨some 50, false, .ia 1 (.t 47) (.t 49), none, false, []⟩, ⟨some 51, false, .ld none (.t 50), none, false, []⟩, ⟨some 52, false, .call (.c (.fn 795 [])) [.t 46, .t 51], none, false, []⟩, ⟨some 45, false, .mv (.t 52), none, false, []⟩, ⟨some 53, false, .ext (.t 45) 0, none, false, []⟩, ⟨some 54, false, .ext (.t 45) 1, none, false, []⟩, ⟨some 15, false, .asg (.t 53), none, false, []⟩, ⟨some 16, false, .asg (.t 54), none, false, []⟩] [0, 1, 2, 3, 10, 12, 15, 16, 25, 26, 27] []) (.seq (.seq (.reg false [⟨some 55, false, .mv (.t 12), none, false, []⟩, ⟨some 56, false, .mv (.t 55), none, false, []⟩, ⟨some 57, false, .mv (.t 16), some (1, false), false, []⟩, ⟨some 58, false, .un .not (.t 57), some (1, false), false, []⟩, ⟨some 59, false, .pick (.t 56) (.c (.bool true)) (.t 58), none, false, []⟩, ⟨some 60, false, .mv (.t 59), none, false, []⟩, ⟨some 61, false, .mv (.t 15), some (5, false), false, []⟩, ⟨some 62, false, .mv (.t 2), some (5, false), false, []⟩, ⟨some 63, false, .bin .gtr (.t 61) (.t 62), some (5, false), false, []⟩, ⟨some 64, false, .pick (.t 60) (.c (.bool true)) (.t 63), none, false, []⟩] [0, 1, 2, 3, 10, 25, 26, 27, 64] []) (.cond (.t 64) (.exit 1) .skip)) (.norm [0, 1, 2, 3, 10, 25, 26, 27] [] impl_fit_k2))
def impl_fit_k4 : C :=
 .reg false [⟨some 79, false, .bin .add (.t 27) (.c (.int .i64 1)), none, false, []⟩, ⟨some 27, false, .mv (.t 79), none, false, []⟩] [0, 1, 2, 3, 25, 26, 27] []
def impl_fit_k5 : C :=
 .seq (.reg false [⟨some 28, false, .bin .lss (.t 27) (.t 26), none, false, []⟩] [0, 1, 2, 3, 25, 26, 27, 28] []) (.seq (.cond (.t 28) .skip (.exit 0)) (.seq (.block 1 (.seq (.reg false [⟨some 29, false, .mv (.t 27), none, false, []⟩, ⟨some 30, false, .ia 4 (.t 25) (.t 27), none, false, []⟩, ⟨some 31, false, .ld (some 4) (.t 30), none, false, []⟩, ⟨some 11, true, .alloc 4 (.agg [.str [], .int .i64 0, .int .i64 0, .int .i64 0]), none, false, []⟩, ⟨some 10, false, .asg (.t 29), none, false, []⟩, ⟨none, true, .sto 4 (.t 11) (.t 31), none, false, []⟩] [0, 1, 2, 3, 10, 11, 25, 26, 27] [11]) (.seq (.reg false [⟨some 12, false, .asg (.c (.bool false)), none, false, []⟩] [0, 1, 2, 3, 10, 11, 12, 25, 26, 27] [11]) (.seq (.seq (.reg false [⟨some 32, false, .mv (.t 3), none, false, []⟩, ⟨some 33, false, .len (.t 32), none, false, []⟩, ⟨some 34, false, .mv (.c (.int .i64 0)), none, false, []⟩] [0, 1, 2, 3, 10, 11, 12, 25, 26, 27, 32, 33, 34] [11]) (.block 2 (.loop impl_fit_k1))) impl_fit_k3)))) impl_fit_k4))
def impl_fit_k6 : C :=
 .norm [0, 1, 2, 3, 25, 26, 27] [] impl_fit_k5
def impl_fit_k7 : C :=
 .seq (.reg false [⟨some 8, true, .asg (.c (.nils 1)), none, false, []⟩, ⟨some 9, false, .asg (.c (.bool false)), none, false, []⟩] [8, 9] [8, 17]) .ret
def impl_fit_ir : Fn := { np := 4, io := [], res := [.t 8, .t 9], own := [false, false], body :=
 (.seq (.reg false [⟨some 8, true, .asg (.c (.nils 1)), none, false, []⟩, ⟨some 9, false, .asg (.c (.bool false)), none, false, []⟩] [0, 1, 2, 3] []) (.seq (.seq (.reg false [⟨some 19, false, .mv (.t 3), none, false, []⟩, ⟨some 20, false, .len (.t 19), none, false, []⟩, ⟨some 21, false, .mv (.t 1), none, false, []⟩, ⟨some 22, false, .len (.t 21), none, false, []⟩, ⟨some 23, false, .bin .eql (.t 20) (.t 22), none, false, []⟩] [0, 1, 2, 3, 23] []) (.cond (.t 23) (.seq (.reg false [⟨some 24, false, .mv (.t 3), none, false, []⟩, ⟨some 8, true, .asg (.t 24), none, false, []⟩, ⟨some 9, false, .asg (.c (.bool true)), none, false, []⟩] [8, 9] [8, 17]) .ret) .skip)) (.seq (.seq (.reg false [⟨some 25, false, .mv (.t 0), none, false, []⟩, ⟨some 26, false, .len (.t 25), none, false, []⟩, ⟨some 27, false, .mv (.c (.int .i64 0)), none, false, []⟩] [0, 1, 2, 3, 25, 26, 27] []) (.block 0 (.loop impl_fit_k6))) impl_fit_k7))) }
def impl_fit_H : List (Nat × ET) := [(8, (.one (.int .i64))), (17, (.one (.int .i64))), (19, (.one (.int .i64))), (21, (.one (.int .i64))), (24, (.one (.int .i64))), (25, T_Peg), (32, (.one (.int .i64))), (47, (.one (.int .i64))), (48, (.one (.int .i64))), (66, T_Peg), (67, (.one (.int .i64))), (69, (.one (.int .i64))), (70, (.one (.int .i64))), (72, (.one (.int .i64))), (73, (.one (.int .i64))), (75, (.one (.int .i64))), (78, (.one (.int .i64)))]
noncomputable def impl_fit_F : Nat → tysU [.d (.one (.sl T_Peg)), .d (.one (.sl (.one (.int .i64)))), .d (.one (.int .i64)), .d (.one (.sl (.one (.int .i64))))] → Option (tys1 ([.d (.one (.sl (.one (.int .i64)))), .d (.one .bool)] ++ []))
 | 0 => fun _ => none
 | n + 1 => (mkCallee [(499, ⟨[], [.d (.one (.sl T_Peg)), .d (.one (.sl (.one (.int .i64)))), .d (.one (.int .i64)), .d (.one (.sl (.one (.int .i64))))], [.d (.one (.sl (.one (.int .i64)))), .d (.one .bool)], [], impl_fit_F n⟩), (624, impl_clone_int64__c), (795, impl_Peg_wayIn_c)] impl_fit_H impl_fit_ir [.d (.one (.sl T_Peg)), .d (.one (.sl (.one (.int .i64)))), .d (.one (.int .i64)), .d (.one (.sl (.one (.int .i64))))] [.d (.one (.sl (.one (.int .i64)))), .d (.one .bool)] []).f
noncomputable def impl_fit_D (n : Nat) : List (Nat × Callee) := [(499, ⟨[], [.d (.one (.sl T_Peg)), .d (.one (.sl (.one (.int .i64)))), .d (.one (.int .i64)), .d (.one (.sl (.one (.int .i64))))], [.d (.one (.sl (.one (.int .i64)))), .d (.one .bool)], [], impl_fit_F n⟩), (624, impl_clone_int64__c), (795, impl_Peg_wayIn_c)]
noncomputable def impl_fit_c : Callee := ⟨[], [.d (.one (.sl T_Peg)), .d (.one (.sl (.one (.int .i64)))), .d (.one (.int .i64)), .d (.one (.sl (.one (.int .i64))))], [.d (.one (.sl (.one (.int .i64)))), .d (.one .bool)], [], impl_fit_F 1000⟩
noncomputable def impl_fit_N (n : Nat) : Callee := ⟨[], [.d (.one (.sl T_Peg)), .d (.one (.sl (.one (.int .i64)))), .d (.one (.int .i64)), .d (.one (.sl (.one (.int .i64))))], [.d (.one (.sl (.one (.int .i64)))), .d (.one .bool)], [], impl_fit_F n⟩
theorem impl_fit_N_eq (n : Nat) : impl_fit_N (n + 1) = mkCallee (impl_fit_D n) impl_fit_H impl_fit_ir [.d (.one (.sl T_Peg)), .d (.one (.sl (.one (.int .i64)))), .d (.one (.int .i64)), .d (.one (.sl (.one (.int .i64))))] [.d (.one (.sl (.one (.int .i64)))), .d (.one .bool)] [] := rfl
noncomputable def impl_fit (n : Nat) (a0 : List T_Peg.ty) (a1 : List Int) (a2 : Int) (a3 : List Int) : Option (List Int × Bool) := impl_fit_F n (a0, a1, a2, a3, ())
noncomputable def impl_fit_p0 (n : Nat)  (v0 : List T_Peg.ty) (v1 : List Int) (v2 : Int) (v3 : List Int) (v25 : List T_Peg.ty) (v26 : Int) (v27 : Int) : Option (List Int × Bool) :=
 goL (impl_fit_D n) impl_fit_H (vleave impl_fit_ir [.d (.one (.sl T_Peg)), .d (.one (.sl (.one (.int .i64)))), .d (.one (.int .i64)), .d (.one (.sl (.one (.int .i64))))] [.d (.one (.sl (.one (.int .i64)))), .d (.one .bool)] [] []) [.c impl_fit_k5, .l impl_fit_k6, .e 0, .c impl_fit_k7]
  ⟨[(0, .sl T_Peg v0), (1, .sl (.one (.int .i64)) v1), (2, .int .i64 v2), (3, .sl (.one (.int .i64)) v3), (25, .sl T_Peg v25), (26, .int .i64 v26), (27, .int .i64 v27)], []⟩
noncomputable def impl_fit_p1 (n : Nat)  (v0 : List T_Peg.ty) (v1 : List Int) (v2 : Int) (v3 : List Int) (v10 : Int) (v12 : Bool) (v25 : List T_Peg.ty) (v26 : Int) (v27 : Int) (v32 : List Int) (v33 : Int) (v34 : Int) (r11_0 : List UInt8) (r11_1 : Int) (r11_2 : Int) (r11_3 : Int) : Option (List Int × Bool) :=
 goL (impl_fit_D n) impl_fit_H (vleave impl_fit_ir [.d (.one (.sl T_Peg)), .d (.one (.sl (.one (.int .i64)))), .d (.one (.int .i64)), .d (.one (.sl (.one (.int .i64))))] [.d (.one (.sl (.one (.int .i64)))), .d (.one .bool)] [] []) [.c impl_fit_k0, .l impl_fit_k1, .e 2, .c impl_fit_k3, .e 1, .c impl_fit_k4, .l impl_fit_k6, .e 0, .c impl_fit_k7]
  ⟨[(0, .sl T_Peg v0), (1, .sl (.one (.int .i64)) v1), (2, .int .i64 v2), (3, .sl (.one (.int .i64)) v3), (10, .int .i64 v10), (11, .loc 11 0 0), (12, .bool v12), (25, .sl T_Peg v25), (26, .int .i64 v26), (27, .int .i64 v27), (32, .sl (.one (.int .i64)) v32), (33, .int .i64 v33), (34, .int .i64 v34)], [(11, some (.var 4 (.agg [.str r11_0, .int .i64 r11_1, .int .i64 r11_2, .int .i64 r11_3])))]⟩
noncomputable def impl_fit_p2 (n : Nat)  (v0 : List T_Peg.ty) (v1 : List Int) (v2 : Int) (v3 : List Int) (v10 : Int) (v25 : List T_Peg.ty) (v26 : Int) (v27 : Int) : Option (List Int × Bool) :=
 goL (impl_fit_D n) impl_fit_H (vleave impl_fit_ir [.d (.one (.sl T_Peg)), .d (.one (.sl (.one (.int .i64)))), .d (.one (.int .i64)), .d (.one (.sl (.one (.int .i64))))] [.d (.one (.sl (.one (.int .i64)))), .d (.one .bool)] [] []) [.c impl_fit_k2, .e 1, .c impl_fit_k4, .l impl_fit_k6, .e 0, .c impl_fit_k7]
  ⟨[(0, .sl T_Peg v0), (1, .sl (.one (.int .i64)) v1), (2, .int .i64 v2), (3, .sl (.one (.int .i64)) v3), (10, .int .i64 v10), (25, .sl T_Peg v25), (26, .int .i64 v26), (27, .int .i64 v27)], []⟩
theorem impl_fit_eq (n : Nat) (a0 : List T_Peg.ty) (a1 : List Int) (a2 : Int) (a3 : List Int) : impl_fit (n + 1) a0 a1 a2 a3 =
  if ((a3.length : Int) == (a1.length : Int)) then
   some (a3, true)
  else
   impl_fit_p0 n a0 a1 a2 a3 a0 (a0.length : Int) 0 :=
 (mk_f (impl_fit_D n) impl_fit_H impl_fit_ir [.d (.one (.sl T_Peg)), .d (.one (.sl (.one (.int .i64)))), .d (.one (.int .i64)), .d (.one (.sl (.one (.int .i64))))] [.d (.one (.sl (.one (.int .i64)))), .d (.one .bool)] [] (a0, a1, a2, a3, ()) 4000).trans (by kernel_rfl)
theorem impl_fit_p0_eq (n : Nat)  (v0 : List T_Peg.ty) (v1 : List Int) (v2 : Int) (v3 : List Int) (v25 : List T_Peg.ty) (v26 : Int) (v27 : Int) : impl_fit_p0 n v0 v1 v2 v3 v25 v26 v27 =
  if decide (v27 < v26) then
   if decide (0 ≤ v27) then
    (v25[v27.toNat]?).bind fun x1 =>
     impl_fit_p1 n v0 v1 v2 v3 v27 false v25 v26 v27 v3 (v3.length : Int) 0 x1.1 x1.2.1 x1.2.2.1 x1.2.2.2.1
   else
    none
  else
   some ([], false) :=
 (goL_dn _ _ _ 4000 _ _).trans (by kernel_rfl)
theorem impl_fit_p1_eq (n : Nat)  (v0 : List T_Peg.ty) (v1 : List Int) (v2 : Int) (v3 : List Int) (v10 : Int) (v12 : Bool) (v25 : List T_Peg.ty) (v26 : Int) (v27 : Int) (v32 : List Int) (v33 : Int) (v34 : Int) (r11_0 : List UInt8) (r11_1 : Int) (r11_2 : Int) (r11_3 : Int) : impl_fit_p1 n v0 v1 v2 v3 v10 v12 v25 v26 v27 v32 v33 v34 r11_0 r11_1 r11_2 r11_3 =
  if decide (v34 < v33) then
   if decide (0 ≤ v34) then
    (v32[v34.toNat]?).bind fun x1 =>
     if v12 then
      impl_fit_p1 n v0 v1 v2 v3 v10 true v25 v26 v27 v32 v33 (IntKind.i64.wrap (v34 + 1)) r11_0 r11_1 r11_2 r11_3
     else
      impl_fit_p1 n v0 v1 v2 v3 v10 (x1 == v10) v25 v26 v27 v32 v33 (IntKind.i64.wrap (v34 + 1)) r11_0 r11_1 r11_2 r11_3
   else
    none
  else
   if decide (0 ≤ (v3.length : Int)) then
    (v1[(v3.length : Int).toNat]?).bind fun x2 =>
     (impl_Peg_wayIn (r11_0, r11_1, r11_2, r11_3, ()) x2).bind fun x3 =>
      if v12 then
       impl_fit_p0 n v0 v1 v2 v3 v25 v26 (IntKind.i64.wrap (v27 + 1))
      else
       if (!x3.2) then
        impl_fit_p0 n v0 v1 v2 v3 v25 v26 (IntKind.i64.wrap (v27 + 1))
       else
        if decide (x3.1 > v2) then
         impl_fit_p0 n v0 v1 v2 v3 v25 v26 (IntKind.i64.wrap (v27 + 1))
        else
         impl_fit_p2 n v0 v1 v2 v3 v10 v25 v26 v27
   else
    none :=
 (goL_dn _ _ _ 4000 _ _).trans (by kernel_rfl)
theorem impl_fit_p2_eq (n : Nat)  (v0 : List T_Peg.ty) (v1 : List Int) (v2 : Int) (v3 : List Int) (v10 : Int) (v25 : List T_Peg.ty) (v26 : Int) (v27 : Int) : impl_fit_p2 n v0 v1 v2 v3 v10 v25 v26 v27 =
  (impl_clone_int64_ v3).bind fun x1 =>
   if decide (x1.length + 1 < lim) then
    (impl_fit n v0 v1 v2 (x1 ++ [v10])).bind fun x2 =>
     if x2.2 then
      some (x2.1, true)
     else
      impl_fit_p0 n v0 v1 v2 v3 v25 v26 (IntKind.i64.wrap (v27 + 1))
   else
    none :=
 (goL_dn _ _ _ 4000 _ _).trans (by kernel_rfl)

/- impl.FitPegs -/
def impl_FitPegs_k0 : C :=
 .seq (.reg false [⟨some 27, false, .bin .lss (.t 26) (.t 25), none, false, []⟩] [0, 1, 2, 24, 25, 26, 27] []) (.seq (.cond (.t 27) .skip (.exit 0)) (.seq (.block 1 (.seq (.reg false [⟨some 28, false, .ia 1 (.t 24) (.t 26), none, false, []⟩, ⟨some 29, false, .ld none (.t 28), none, false, []⟩, ⟨some 9, false, .asg (.t 29), none, false, []⟩] [0, 1, 2, 9, 24, 25, 26] []) (.seq (.reg false [⟨some 30, false, .mv (.t 9), none, false, []⟩, ⟨some 31, false, .call (.c (.fn 500 [])) [.t 30], none, false, []⟩, ⟨some 32, false, .un .not (.t 31), none, false, []⟩] [0, 1, 2, 24, 25, 26, 32] []) (.cond (.t 32) (.seq (.reg false [⟨some 6, true, .asg (.c (.nils 1)), none, false, []⟩, ⟨some 7, false, .asg (.c (.int .i64 2)), none, false, []⟩] [6, 7] [6, 10]) .ret) .skip)))) (.reg false [⟨some 33, false, .bin .add (.t 26) (.c (.int .i64 1)), none, false, []⟩, ⟨some 26, false, .mv (.t 33), none, false, []⟩] [0, 1, 2, 24, 25, 26] [])))
def impl_FitPegs_k1 : C :=
 .norm [0, 1, 2, 24, 25, 26] [] impl_FitPegs_k0
def impl_FitPegs_k2 : C :=
 .seq (.seq (.reg false [⟨some 34, false, .mv (.t 1), none, false, []⟩, ⟨some 35, false, .len (.t 34), none, false, []⟩, ⟨some 36, false, .mv (.t 0), none, false, []⟩, ⟨some 37, false, .len (.t 36), none, false, []⟩, ⟨some 38, false, .bin .neq (.t 35) (.t 37), none, false, []⟩] [0, 1, 2, 38] []) (.cond (.t 38) (.seq (.reg false [⟨some 6, true, .asg (.c (.nils 1)), none, false, []⟩, ⟨some 7, false, .asg (.c (.int .i64 7)), none, false, []⟩] [6, 7] [6, 10]) .ret) .skip)) (.seq (.reg false [⟨some 40, false, .mv (.t 0), none, false, []⟩, ⟨some 41, false, .mv (.t 1), none, false, []⟩, ⟨some 42, false, .mv (.t 2), none, false, []⟩, ⟨some 43, false, .call (.c (.fn 499 [])) [.t 40, .t 41, .t 42, .c (.nils 1)], none, false, []⟩, ⟨some 39, false, .mv (.t 43), none, false, []⟩, ⟨some 44, false, .ext (.t 39) 0, none, false, []⟩, ⟨some 45, false, .ext (.t 39) 1, none, false, []⟩, ⟨some 10, true, .asg (.t 44), none, false, []⟩, ⟨some 11, false, .asg (.t 45), none, false, []⟩] [10, 11] [10]) (.seq (.seq (.reg false [⟨some 46, false, .mv (.t 11), none, false, []⟩, ⟨some 47, false, .un .not (.t 46), none, false, []⟩] [10, 47] [10]) (.cond (.t 47) (.seq (.reg false [⟨some 6, true, .asg (.c (.nils 1)), none, false, []⟩, ⟨some 7, false, .asg (.c (.int .i64 3)), none, false, []⟩] [6, 7] [6, 10]) .ret) .skip)) (.seq (.reg false [⟨some 48, false, .mv (.t 10), none, false, []⟩, ⟨some 6, true, .asg (.t 48), none, false, []⟩, ⟨some 7, false, .asg (.c (.int .i64 0)), none, false, []⟩] [6, 7] [6, 10]) .ret)))
def impl_FitPegs_k3 : C :=
 .seq (.seq (.reg false [⟨some 24, false, .mv (.t 1), none, false, []⟩, ⟨some 25, false, .len (.t 24), none, false, []⟩, ⟨some 26, false, .mv (.c (.int .i64 0)), none, false, []⟩] [0, 1, 2, 24, 25, 26] []) (.block 0 (.loop impl_FitPegs_k1))) impl_FitPegs_k2
def impl_FitPegs_ir : Fn := { np := 3, io := [], res := [.t 6, .t 7], own := [false, false], body :=
 (.seq (.reg false [⟨some 6, true, .asg (.c (.nils 1)), none, false, []⟩, ⟨some 7, false, .asg (.c (.int .i64 0)), none, false, []⟩] [0, 1, 2] []) (.seq (.seq (.reg false [⟨some 12, false, .mv (.t 0), none, false, []⟩, ⟨some 13, false, .call (.c (.fn 468 [])) [.t 12], none, false, []⟩, ⟨some 14, false, .un .not (.t 13), none, false, []⟩] [0, 1, 2, 14] []) (.cond (.t 14) (.seq (.reg false [⟨some 6, true, .asg (.c (.nils 1)), none, false, []⟩, ⟨some 7, false, .asg (.c (.int .i64 1)), none, false, []⟩] [6, 7] [6, 10]) .ret) .skip)) (.seq (.seq (.reg false [⟨some 15, false, .mv (.t 2), none, false, []⟩, ⟨some 16, false, .call (.c (.fn 501 [])) [.t 15], none, false, []⟩, ⟨some 17, false, .un .not (.t 16), none, false, []⟩, ⟨some 18, false, .mv (.t 17), none, false, []⟩, ⟨some 19, false, .mv (.t 1), some (3, false), false, []⟩, ⟨some 20, false, .len (.t 19), some (3, false), false, []⟩, ⟨some 21, false, .call (.c (.fn 21 [])) [.t 20, .c (.int .i64 8)], some (3, false), false, []⟩, ⟨some 22, false, .un .not (.t 21), some (3, false), false, []⟩, ⟨some 23, false, .pick (.t 18) (.c (.bool true)) (.t 22), none, false, []⟩] [0, 1, 2, 23] []) (.cond (.t 23) (.seq (.reg false [⟨some 6, true, .asg (.c (.nils 1)), none, false, []⟩, ⟨some 7, false, .asg (.c (.int .i64 2)), none, false, []⟩] [6, 7] [6, 10]) .ret) .skip)) (.norm [0, 1, 2] [] impl_FitPegs_k3)))) }
noncomputable def impl_FitPegs_D : List (Nat × Callee) := [(21, impl_few_c), (468, impl_ValidPegs_c), (499, impl_fit_c), (500, impl_isHole_c), (501, impl_isWay_c)]
def impl_FitPegs_H : List (Nat × ET) := [(6, (.one (.int .i64))), (10, (.one (.int .i64))), (12, T_Peg), (19, (.one (.int .i64))), (24, (.one (.int .i64))), (34, (.one (.int .i64))), (36, T_Peg), (40, T_Peg), (41, (.one (.int .i64))), (44, (.one (.int .i64))), (48, (.one (.int .i64)))]
noncomputable def impl_FitPegs_c : Callee := mkCallee impl_FitPegs_D impl_FitPegs_H impl_FitPegs_ir [.d (.one (.sl T_Peg)), .d (.one (.sl (.one (.int .i64)))), .d (.one (.int .i64))] [.d (.one (.sl (.one (.int .i64)))), .d (.one (.int .i64))] []
noncomputable def impl_FitPegs (a0 : List T_Peg.ty) (a1 : List Int) (a2 : Int) : Option (List Int × Int) := impl_FitPegs_c.f (a0, a1, a2, ())
noncomputable def impl_FitPegs_p0  (v0 : List T_Peg.ty) (v1 : List Int) (v2 : Int) : Option (List Int × Int) :=
 goL impl_FitPegs_D impl_FitPegs_H (vleave impl_FitPegs_ir [.d (.one (.sl T_Peg)), .d (.one (.sl (.one (.int .i64)))), .d (.one (.int .i64))] [.d (.one (.sl (.one (.int .i64)))), .d (.one (.int .i64))] [] []) [.c impl_FitPegs_k3]
  ⟨[(0, .sl T_Peg v0), (1, .sl (.one (.int .i64)) v1), (2, .int .i64 v2)], []⟩
noncomputable def impl_FitPegs_p1  (v0 : List T_Peg.ty) (v1 : List Int) (v2 : Int) (v24 : List Int) (v25 : Int) (v26 : Int) : Option (List Int × Int) :=
 goL impl_FitPegs_D impl_FitPegs_H (vleave impl_FitPegs_ir [.d (.one (.sl T_Peg)), .d (.one (.sl (.one (.int .i64)))), .d (.one (.int .i64))] [.d (.one (.sl (.one (.int .i64)))), .d (.one (.int .i64))] [] []) [.c impl_FitPegs_k0, .l impl_FitPegs_k1, .e 0, .c impl_FitPegs_k2]
  ⟨[(0, .sl T_Peg v0), (1, .sl (.one (.int .i64)) v1), (2, .int .i64 v2), (24, .sl (.one (.int .i64)) v24), (25, .int .i64 v25), (26, .int .i64 v26)], []⟩
theorem impl_FitPegs_eq (a0 : List T_Peg.ty) (a1 : List Int) (a2 : Int) : impl_FitPegs a0 a1 a2 =
  (impl_ValidPegs a0).bind fun x1 =>
   if (!x1) then
    some ([], 1)
   else
    (impl_isWay a2).bind fun x2 =>
     if (!x2) then
      some ([], 2)
     else
      (impl_few (a1.length : Int) 8).bind fun x3 =>
       if (!x3) then
        some ([], 2)
       else
        impl_FitPegs_p0 a0 a1 a2 :=
 (mk_f _ _ _ _ _ _ _ 4000).trans (by kernel_rfl)
theorem impl_FitPegs_p0_eq  (v0 : List T_Peg.ty) (v1 : List Int) (v2 : Int) : impl_FitPegs_p0 v0 v1 v2 =
  impl_FitPegs_p1 v0 v1 v2 v1 (v1.length : Int) 0 :=
 (goL_dn _ _ _ 4000 _ _).trans (by kernel_rfl)
theorem impl_FitPegs_p1_eq  (v0 : List T_Peg.ty) (v1 : List Int) (v2 : Int) (v24 : List Int) (v25 : Int) (v26 : Int) : impl_FitPegs_p1 v0 v1 v2 v24 v25 v26 =
  if decide (v26 < v25) then
   if decide (0 ≤ v26) then
    (v24[v26.toNat]?).bind fun x1 =>
     (impl_isHole x1).bind fun x2 =>
      if (!x2) then
       some ([], 2)
      else
       impl_FitPegs_p1 v0 v1 v2 v24 v25 (IntKind.i64.wrap (v26 + 1))
   else
    none
  else
   if ((v1.length : Int) != (v0.length : Int)) then
    some ([], 7)
   else
    (impl_fit 1000 v0 v1 v2 []).bind fun x3 =>
     if (!x3.2) then
      some ([], 3)
     else
      some (x3.1, 0) :=
 (goL_dn _ _ _ 4000 _ _).trans (by kernel_rfl)

/- laws.b10Has -/
def laws_b10Has_k0 : C :=
 .seq (.seq (.reg false [⟨some 6, false, .mv (.t 5), none, false, []⟩, ⟨some 7, false, .mv (.t 0), none, false, []⟩, ⟨some 8, false, .len (.t 7), none, false, []⟩, ⟨some 9, false, .bin .lss (.t 6) (.t 8), none, false, []⟩] [0, 1, 5, 9] []) (.cond (.t 9) .skip (.exit 0))) (.seq (.block 1 (.seq (.reg false [⟨some 12, false, .mv (.t 0), none, false, []⟩, ⟨some 13, false, .mv (.t 5), none, false, []⟩, ⟨some 14, false, .ia 1 (.t 12) (.t 13), none, false, []⟩, ⟨some 15, false, .ld none (.t 14), none, false, []⟩, ⟨some 16, false, .mv (.t 1), none, false, []⟩, ⟨some 17, false, .bin .eql (.t 15) (.t 16), none, false, []⟩] [0, 1, 5, 17] []) (.cond (.t 17) (.seq (.reg false [⟨some 4, false, .asg (.c (.bool true)), none, false, []⟩] [4] []) .ret) .skip))) (.reg false [⟨some 10, false, .mv (.t 5), none, false, []⟩, ⟨some 11, false, .bin .add (.t 10) (.c (.int .i64 1)), none, false, []⟩, ⟨some 5, false, .asg (.t 11), none, false, []⟩] [0, 1, 5] []))
def laws_b10Has_k1 : C :=
 .norm [0, 1, 5] [] laws_b10Has_k0
def laws_b10Has_k2 : C :=
 .seq (.reg false [⟨some 4, false, .asg (.c (.bool false)), none, false, []⟩] [4] []) .ret
def laws_b10Has_ir : Fn := { np := 2, io := [], res := [.t 4], own := [false], body :=
 (.seq (.reg false [⟨some 4, false, .asg (.c (.bool false)), none, false, []⟩] [0, 1] []) (.seq (.seq (.reg false [⟨some 5, false, .asg (.c (.int .i64 0)), none, false, []⟩] [0, 1, 5] []) (.block 0 (.loop laws_b10Has_k1))) laws_b10Has_k2)) }
noncomputable def laws_b10Has_D : List (Nat × Callee) := []
def laws_b10Has_H : List (Nat × ET) := [(7, (.one (.int .i64))), (12, (.one (.int .i64)))]
noncomputable def laws_b10Has_c : Callee := mkCallee laws_b10Has_D laws_b10Has_H laws_b10Has_ir [.d (.one (.sl (.one (.int .i64)))), .d (.one (.int .i64))] [.d (.one .bool)] []
noncomputable def laws_b10Has (a0 : List Int) (a1 : Int) : Option (Bool) := laws_b10Has_c.f (a0, a1, ())
noncomputable def laws_b10Has_p0  (v0 : List Int) (v1 : Int) (v5 : Int) : Option (Bool) :=
 goL laws_b10Has_D laws_b10Has_H (vleave laws_b10Has_ir [.d (.one (.sl (.one (.int .i64)))), .d (.one (.int .i64))] [.d (.one .bool)] [] []) [.c laws_b10Has_k0, .l laws_b10Has_k1, .e 0, .c laws_b10Has_k2]
  ⟨[(0, .sl (.one (.int .i64)) v0), (1, .int .i64 v1), (5, .int .i64 v5)], []⟩
theorem laws_b10Has_eq (a0 : List Int) (a1 : Int) : laws_b10Has a0 a1 =
  laws_b10Has_p0 a0 a1 0 :=
 (mk_f _ _ _ _ _ _ _ 4000).trans (by kernel_rfl)
theorem laws_b10Has_p0_eq  (v0 : List Int) (v1 : Int) (v5 : Int) : laws_b10Has_p0 v0 v1 v5 =
  if decide (v5 < (v0.length : Int)) then
   if decide (0 ≤ v5) then
    (v0[v5.toNat]?).bind fun x1 =>
     if (x1 == v1) then
      some true
     else
      laws_b10Has_p0 v0 v1 (IntKind.i64.wrap (v5 + 1))
   else
    none
  else
   some false :=
 (goL_dn _ _ _ 4000 _ _).trans (by kernel_rfl)

/- spec.l01Small -/
def spec_l01Small_ir : Fn := { np := 1, io := [], res := [.t 2], own := [false], body :=
 (.seq (.reg false [⟨some 2, false, .asg (.c (.bool false)), none, false, []⟩] [0] []) (.seq (.reg false [⟨some 3, false, .mv (.t 0), none, false, []⟩, ⟨some 4, false, .bin .geq (.t 3) (.c (.int .u8 97)), none, false, []⟩, ⟨some 5, false, .mv (.t 4), none, false, []⟩, ⟨some 6, false, .mv (.t 0), some (2, true), false, []⟩, ⟨some 7, false, .bin .leq (.t 6) (.c (.int .u8 122)), some (2, true), false, []⟩, ⟨some 8, false, .pick (.t 5) (.t 7) (.c (.bool false)), none, false, []⟩, ⟨some 2, false, .asg (.t 8), none, false, []⟩] [2] []) .ret)) }
noncomputable def spec_l01Small_D : List (Nat × Callee) := []
def spec_l01Small_H : List (Nat × ET) := []
noncomputable def spec_l01Small_c : Callee := mkCallee spec_l01Small_D spec_l01Small_H spec_l01Small_ir [.d (.one (.int .u8))] [.d (.one .bool)] []
noncomputable def spec_l01Small (a0 : Int) : Option (Bool) := spec_l01Small_c.f (a0, ())
theorem spec_l01Small_eq (a0 : Int) : spec_l01Small a0 =
  if decide (a0 ≥ 97) then
   some (decide (a0 ≤ 122))
  else
   some false :=
 (mk_f _ _ _ _ _ _ _ 4000).trans (by kernel_rfl)

/- spec.l01Digit -/
def spec_l01Digit_ir : Fn := { np := 1, io := [], res := [.t 2], own := [false], body :=
 (.seq (.reg false [⟨some 2, false, .asg (.c (.bool false)), none, false, []⟩] [0] []) (.seq (.reg false [⟨some 3, false, .mv (.t 0), none, false, []⟩, ⟨some 4, false, .bin .geq (.t 3) (.c (.int .u8 48)), none, false, []⟩, ⟨some 5, false, .mv (.t 4), none, false, []⟩, ⟨some 6, false, .mv (.t 0), some (2, true), false, []⟩, ⟨some 7, false, .bin .leq (.t 6) (.c (.int .u8 57)), some (2, true), false, []⟩, ⟨some 8, false, .pick (.t 5) (.t 7) (.c (.bool false)), none, false, []⟩, ⟨some 2, false, .asg (.t 8), none, false, []⟩] [2] []) .ret)) }
noncomputable def spec_l01Digit_D : List (Nat × Callee) := []
def spec_l01Digit_H : List (Nat × ET) := []
noncomputable def spec_l01Digit_c : Callee := mkCallee spec_l01Digit_D spec_l01Digit_H spec_l01Digit_ir [.d (.one (.int .u8))] [.d (.one .bool)] []
noncomputable def spec_l01Digit (a0 : Int) : Option (Bool) := spec_l01Digit_c.f (a0, ())
theorem spec_l01Digit_eq (a0 : Int) : spec_l01Digit a0 =
  if decide (a0 ≥ 48) then
   some (decide (a0 ≤ 57))
  else
   some false :=
 (mk_f _ _ _ _ _ _ _ 4000).trans (by kernel_rfl)

/- spec.l01Name -/
def spec_l01Name_k0 : C :=
 .seq (.seq (.reg false [⟨some 17, false, .mv (.t 3), none, false, []⟩, ⟨some 18, false, .mv (.t 0), none, false, []⟩, ⟨some 19, false, .lens (.t 18), none, false, []⟩, ⟨some 20, false, .bin .lss (.t 17) (.t 19), none, false, []⟩] [0, 3, 20] []) (.cond (.t 20) .skip (.exit 0))) (.seq (.block 1 (.seq (.reg false [⟨some 23, false, .mv (.t 0), none, false, []⟩, ⟨some 24, false, .mv (.t 3), none, false, []⟩, ⟨some 25, false, .ix (.t 23) (.t 24), none, false, []⟩, ⟨some 26, false, .call (.c (.fn 11 [])) [.t 25], none, false, []⟩, ⟨some 27, false, .un .not (.t 26), none, false, []⟩, ⟨some 28, false, .mv (.t 27), none, false, []⟩, ⟨some 29, false, .mv (.t 0), some (5, true), false, []⟩, ⟨some 30, false, .mv (.t 3), some (5, true), false, []⟩, ⟨some 31, false, .ix (.t 29) (.t 30), some (5, true), false, []⟩, ⟨some 32, false, .call (.c (.fn 12 [])) [.t 31], some (5, true), false, []⟩, ⟨some 33, false, .un .not (.t 32), some (5, true), false, []⟩, ⟨some 34, false, .pick (.t 28) (.t 33) (.c (.bool false)), none, false, []⟩] [0, 3, 34] []) (.cond (.t 34) (.seq (.reg false [⟨some 2, false, .asg (.c (.bool false)), none, false, []⟩] [2] []) .ret) .skip))) (.reg false [⟨some 21, false, .mv (.t 3), none, false, []⟩, ⟨some 22, false, .bin .add (.t 21) (.c (.int .i64 1)), none, false, []⟩, ⟨some 3, false, .asg (.t 22), none, false, []⟩] [0, 3] []))
def spec_l01Name_k1 : C :=
 .norm [0, 3] [] spec_l01Name_k0
def spec_l01Name_k2 : C :=
 .seq (.reg false [⟨some 2, false, .asg (.c (.bool true)), none, false, []⟩] [2] []) .ret
def spec_l01Name_k3 : C :=
 .seq (.seq (.reg false [⟨some 3, false, .asg (.c (.int .i64 0)), none, false, []⟩] [0, 3] []) (.block 0 (.loop spec_l01Name_k1))) spec_l01Name_k2
def spec_l01Name_ir : Fn := { np := 1, io := [], res := [.t 2], own := [false], body :=
 (.seq (.reg false [⟨some 2, false, .asg (.c (.bool false)), none, false, []⟩] [0] []) (.seq (.seq (.reg false [⟨some 4, false, .mv (.t 0), none, false, []⟩, ⟨some 5, false, .bin .eql (.t 4) (.c (.str [])), none, false, []⟩, ⟨some 6, false, .mv (.t 5), none, false, []⟩, ⟨some 7, false, .mv (.t 0), some (2, false), false, []⟩, ⟨some 8, false, .lens (.t 7), some (2, false), false, []⟩, ⟨some 9, false, .bin .gtr (.t 8) (.c (.int .i64 10)), some (2, false), false, []⟩, ⟨some 10, false, .pick (.t 6) (.c (.bool true)) (.t 9), none, false, []⟩, ⟨some 11, false, .mv (.t 10), none, false, []⟩, ⟨some 12, false, .mv (.t 0), some (7, false), false, []⟩, ⟨some 13, false, .ix (.t 12) (.c (.int .i64 0)), some (7, false), false, []⟩, ⟨some 14, false, .call (.c (.fn 11 [])) [.t 13], some (7, false), false, []⟩, ⟨some 15, false, .un .not (.t 14), some (7, false), false, []⟩, ⟨some 16, false, .pick (.t 11) (.c (.bool true)) (.t 15), none, false, []⟩] [0, 16] []) (.cond (.t 16) (.seq (.reg false [⟨some 2, false, .asg (.c (.bool false)), none, false, []⟩] [2] []) .ret) .skip)) (.norm [0] [] spec_l01Name_k3))) }
noncomputable def spec_l01Name_D : List (Nat × Callee) := [(11, spec_l01Small_c), (12, spec_l01Digit_c)]
def spec_l01Name_H : List (Nat × ET) := []
noncomputable def spec_l01Name_c : Callee := mkCallee spec_l01Name_D spec_l01Name_H spec_l01Name_ir [.d (.one .str)] [.d (.one .bool)] []
noncomputable def spec_l01Name (a0 : List UInt8) : Option (Bool) := spec_l01Name_c.f (a0, ())
noncomputable def spec_l01Name_p0  (v0 : List UInt8) : Option (Bool) :=
 goL spec_l01Name_D spec_l01Name_H (vleave spec_l01Name_ir [.d (.one .str)] [.d (.one .bool)] [] []) [.c spec_l01Name_k3]
  ⟨[(0, .str v0)], []⟩
noncomputable def spec_l01Name_p1  (v0 : List UInt8) (v3 : Int) : Option (Bool) :=
 goL spec_l01Name_D spec_l01Name_H (vleave spec_l01Name_ir [.d (.one .str)] [.d (.one .bool)] [] []) [.c spec_l01Name_k0, .l spec_l01Name_k1, .e 0, .c spec_l01Name_k2]
  ⟨[(0, .str v0), (3, .int .i64 v3)], []⟩
theorem spec_l01Name_eq (a0 : List UInt8) : spec_l01Name a0 =
  if (a0 == []) then
   some false
  else
   if decide ((a0.length : Int) > 10) then
    some false
   else
    (a0[0]?).bind fun x1 =>
     (spec_l01Small (x1.toNat : Int)).bind fun x2 =>
      if (!x2) then
       some false
      else
       spec_l01Name_p0 a0 :=
 (mk_f _ _ _ _ _ _ _ 4000).trans (by kernel_rfl)
theorem spec_l01Name_p0_eq  (v0 : List UInt8) : spec_l01Name_p0 v0 =
  spec_l01Name_p1 v0 0 :=
 (goL_dn _ _ _ 4000 _ _).trans (by kernel_rfl)
theorem spec_l01Name_p1_eq  (v0 : List UInt8) (v3 : Int) : spec_l01Name_p1 v0 v3 =
  if decide (v3 < (v0.length : Int)) then
   if decide (0 ≤ v3) then
    (v0[v3.toNat]?).bind fun x1 =>
     (spec_l01Small (x1.toNat : Int)).bind fun x2 =>
      if (!x2) then
       if decide (0 ≤ v3) then
        (v0[v3.toNat]?).bind fun x3 =>
         (spec_l01Digit (x3.toNat : Int)).bind fun x4 =>
          if (!x4) then
           some false
          else
           spec_l01Name_p1 v0 (IntKind.i64.wrap (v3 + 1))
       else
        none
      else
       spec_l01Name_p1 v0 (IntKind.i64.wrap (v3 + 1))
   else
    none
  else
   some true :=
 (goL_dn _ _ _ 4000 _ _).trans (by kernel_rfl)

/- spec.l00In -/
def spec_l00In_ir : Fn := { np := 3, io := [], res := [.t 6], own := [false], body :=
 (.seq (.reg false [⟨some 6, false, .asg (.c (.bool false)), none, false, []⟩] [0, 1, 2] []) (.seq (.reg false [⟨some 7, false, .mv (.t 0), none, false, []⟩, ⟨some 8, false, .mv (.t 1), none, false, []⟩, ⟨some 9, false, .bin .geq (.t 7) (.t 8), none, false, []⟩, ⟨some 10, false, .mv (.t 9), none, false, []⟩, ⟨some 11, false, .mv (.t 0), some (3, true), false, []⟩, ⟨some 12, false, .mv (.t 2), some (3, true), false, []⟩, ⟨some 13, false, .bin .leq (.t 11) (.t 12), some (3, true), false, []⟩, ⟨some 14, false, .pick (.t 10) (.t 13) (.c (.bool false)), none, false, []⟩, ⟨some 6, false, .asg (.t 14), none, false, []⟩] [6] []) .ret)) }
noncomputable def spec_l00In_D : List (Nat × Callee) := []
def spec_l00In_H : List (Nat × ET) := []
noncomputable def spec_l00In_c : Callee := mkCallee spec_l00In_D spec_l00In_H spec_l00In_ir [.d (.one (.int .i64)), .d (.one (.int .i64)), .d (.one (.int .i64))] [.d (.one .bool)] []
noncomputable def spec_l00In (a0 : Int) (a1 : Int) (a2 : Int) : Option (Bool) := spec_l00In_c.f (a0, a1, a2, ())
theorem spec_l00In_eq (a0 : Int) (a1 : Int) (a2 : Int) : spec_l00In a0 a1 a2 =
  if decide (a0 ≥ a1) then
   some (decide (a0 ≤ a2))
  else
   some false :=
 (mk_f _ _ _ _ _ _ _ 4000).trans (by kernel_rfl)

/- spec.l12Hole -/
def spec_l12Hole_ir : Fn := { np := 1, io := [], res := [.t 2], own := [false], body :=
 (.seq (.reg false [⟨some 2, false, .asg (.c (.bool false)), none, false, []⟩] [0] []) (.seq (.reg false [⟨some 3, false, .mv (.t 0), none, false, []⟩, ⟨some 4, false, .call (.c (.fn 1 [])) [.t 3, .c (.int .i64 20), .c (.int .i64 200)], none, false, []⟩, ⟨some 2, false, .asg (.t 4), none, false, []⟩] [2] []) .ret)) }
noncomputable def spec_l12Hole_D : List (Nat × Callee) := [(1, spec_l00In_c)]
def spec_l12Hole_H : List (Nat × ET) := []
noncomputable def spec_l12Hole_c : Callee := mkCallee spec_l12Hole_D spec_l12Hole_H spec_l12Hole_ir [.d (.one (.int .i64))] [.d (.one .bool)] []
noncomputable def spec_l12Hole (a0 : Int) : Option (Bool) := spec_l12Hole_c.f (a0, ())
theorem spec_l12Hole_eq (a0 : Int) : spec_l12Hole a0 =
  (spec_l00In a0 20 200).bind fun x1 =>
   some x1 :=
 (mk_f _ _ _ _ _ _ _ 4000).trans (by kernel_rfl)

/- spec.l12One -/
def spec_l12One_ir : Fn := { np := 1, io := [], res := [.t 2], own := [false], body :=
 (.seq (.reg false [⟨some 2, false, .asg (.c (.bool false)), none, false, []⟩] [0] []) (.seq (.reg false [⟨some 3, false, .mv (.t 0), none, false, []⟩, ⟨some 4, false, .nilck (.t 3), none, false, []⟩, ⟨some 5, false, .fa 0 (.t 4), none, false, []⟩, ⟨some 6, false, .ld none (.t 5), none, false, []⟩, ⟨some 7, false, .call (.c (.fn 13 [])) [.t 6], none, false, []⟩, ⟨some 8, false, .mv (.t 7), none, false, []⟩, ⟨some 9, false, .mv (.t 0), some (5, true), false, []⟩, ⟨some 10, false, .nilck (.t 9), some (5, true), false, []⟩, ⟨some 11, false, .fa 1 (.t 10), some (5, true), false, []⟩, ⟨some 12, false, .ld none (.t 11), some (5, true), false, []⟩, ⟨some 13, false, .call (.c (.fn 495 [])) [.t 12], some (5, true), false, []⟩, ⟨some 14, false, .pick (.t 8) (.t 13) (.c (.bool false)), none, false, []⟩, ⟨some 15, false, .mv (.t 14), none, false, []⟩, ⟨some 16, false, .mv (.t 0), some (12, true), false, []⟩, ⟨some 17, false, .nilck (.t 16), some (12, true), false, []⟩, ⟨some 18, false, .fa 2 (.t 17), some (12, true), false, []⟩, ⟨some 19, false, .ld none (.t 18), some (12, true), false, []⟩, ⟨some 20, false, .call (.c (.fn 1 [])) [.t 19, .c (.int .i64 100), .c (.int .i64 1000)], some (12, true), false, []⟩, ⟨some 21, false, .pick (.t 15) (.t 20) (.c (.bool false)), none, false, []⟩, ⟨some 22, false, .mv (.t 21), none, false, []⟩, ⟨some 23, false, .mv (.t 0), some (19, true), false, []⟩, ⟨some 24, false, .nilck (.t 23), some (19, true), false, []⟩, ⟨some 25, false, .fa 3 (.t 24), some (19, true), false, []⟩, ⟨some 26, false, .ld none (.t 25), some (19, true), false, []⟩, ⟨some 27, false, .call (.c (.fn 1 [])) [.t 26, .c (.int .i64 10), .c (.int .i64 100)], some (19, true), false, []⟩, ⟨some 28, false, .pick (.t 22) (.t 27) (.c (.bool false)), none, false, []⟩, ⟨some 2, false, .asg (.t 28), none, false, []⟩] [2] []) .ret)) }
noncomputable def spec_l12One_D : List (Nat × Callee) := [(1, spec_l00In_c), (13, spec_l01Name_c), (495, spec_l12Hole_c)]
def spec_l12One_H : List (Nat × ET) := []
noncomputable def spec_l12One_c : Callee := mkCallee spec_l12One_D spec_l12One_H spec_l12One_ir [.p T_Peg] [.d (.one .bool)] []
noncomputable def spec_l12One (a0 : T_Peg.ty) : Option (Bool) := spec_l12One_c.f (a0, ())
theorem spec_l12One_eq (a0 : T_Peg.ty) : spec_l12One a0 =
  (spec_l01Name a0.1).bind fun x1 =>
   if x1 then
    (spec_l12Hole a0.2.1).bind fun x2 =>
     if x2 then
      (spec_l00In a0.2.2.1 100 1000).bind fun x3 =>
       if x3 then
        (spec_l00In a0.2.2.2.1 10 100).bind fun x4 =>
         some x4
       else
        some false
     else
      some false
   else
    some false :=
 (mk_f _ _ _ _ _ _ _ 4000).trans (by kernel_rfl)

/- spec.l00Max -/
def spec_l00Max_ir : Fn := { np := 2, io := [], res := [.t 4], own := [false], body :=
 (.seq (.reg false [⟨some 4, false, .asg (.c (.int .i64 0)), none, false, []⟩] [0, 1] []) (.seq (.seq (.reg false [⟨some 5, false, .mv (.t 0), none, false, []⟩, ⟨some 6, false, .mv (.t 1), none, false, []⟩, ⟨some 7, false, .bin .gtr (.t 5) (.t 6), none, false, []⟩] [0, 1, 7] []) (.cond (.t 7) (.seq (.reg false [⟨some 8, false, .mv (.t 0), none, false, []⟩, ⟨some 4, false, .asg (.t 8), none, false, []⟩] [4] []) .ret) .skip)) (.seq (.reg false [⟨some 9, false, .mv (.t 1), none, false, []⟩, ⟨some 4, false, .asg (.t 9), none, false, []⟩] [4] []) .ret))) }
noncomputable def spec_l00Max_D : List (Nat × Callee) := []
def spec_l00Max_H : List (Nat × ET) := []
noncomputable def spec_l00Max_c : Callee := mkCallee spec_l00Max_D spec_l00Max_H spec_l00Max_ir [.d (.one (.int .i64)), .d (.one (.int .i64))] [.d (.one (.int .i64))] []
noncomputable def spec_l00Max (a0 : Int) (a1 : Int) : Option (Int) := spec_l00Max_c.f (a0, a1, ())
theorem spec_l00Max_eq (a0 : Int) (a1 : Int) : spec_l00Max a0 a1 =
  if decide (a0 > a1) then
   some a0
  else
   some a1 :=
 (mk_f _ _ _ _ _ _ _ 4000).trans (by kernel_rfl)

/- spec.l12In -/
def spec_l12In_ir : Fn := { np := 2, io := [], res := [.t 4], own := [false], body :=
 (.seq (.reg false [⟨some 4, false, .asg (.c (.int .i64 0)), none, false, []⟩] [0, 1] []) (.seq (.reg true [⟨some 6, false, .mv (.t 1), none, false, []⟩, ⟨some 7, false, .mv (.t 0), none, false, []⟩, ⟨some 8, false, .nilck (.t 7), none, false, []⟩, ⟨some 9, false, .fa 1 (.t 8), none, false, []⟩, ⟨some 10, false, .ld none (.t 9), none, false, []⟩, ⟨some 11, false, .bin .sub (.t 6) (.t 10), none, false, []⟩, ⟨some 12, false, .call (.c (.fn 17 [])) [.c (.int .i64 0), .t 11], none, false, []⟩, ⟨some 13, false, .mv (.t 0), none, false, []⟩, ⟨some 14, false, .nilck (.t 13), none, false, []⟩, ⟨some 15, false, .fa 3 (.t 14), none, false, []⟩, ⟨some 16, false, .ld none (.t 15), none, false, []⟩, ⟨some 17, false, .bin .mul (.t 12) (.t 16), none, false, []⟩, ⟨some 5, false, .asg (.t 17), none, false, []⟩] [0, 5] []) (.seq (.seq (.reg false [⟨some 18, false, .mv (.t 5), none, false, []⟩, ⟨some 19, false, .mv (.t 0), none, false, []⟩, ⟨some 20, false, .nilck (.t 19), none, false, []⟩, ⟨some 21, false, .fa 2 (.t 20), none, false, []⟩, ⟨some 22, false, .ld none (.t 21), none, false, []⟩, ⟨some 23, false, .bin .gtr (.t 18) (.t 22), none, false, []⟩] [5, 23] []) (.cond (.t 23) (.seq (.reg false [⟨some 4, false, .asg (.c (.int .i64 (-1))), none, false, []⟩] [4] []) .ret) .skip)) (.seq (.reg false [⟨some 24, false, .mv (.t 5), none, false, []⟩, ⟨some 4, false, .asg (.t 24), none, false, []⟩] [4] []) .ret)))) }
noncomputable def spec_l12In_D : List (Nat × Callee) := [(17, spec_l00Max_c)]
def spec_l12In_H : List (Nat × ET) := []
noncomputable def spec_l12In_c : Callee := mkCallee spec_l12In_D spec_l12In_H spec_l12In_ir [.p T_Peg, .d (.one (.int .i64))] [.d (.one (.int .i64))] []
noncomputable def spec_l12In (a0 : T_Peg.ty) (a1 : Int) : Option (Int) := spec_l12In_c.f (a0, a1, ())
theorem spec_l12In_eq (a0 : T_Peg.ty) (a1 : Int) : spec_l12In a0 a1 =
  (spec_l00Max 0 (IntKind.i64.wrap (a1 - a0.2.1))).bind fun x1 =>
   if decide (IntKind.i64.wrap (x1 * a0.2.2.2.1) > a0.2.2.1) then
    some (-1)
   else
    some (IntKind.i64.wrap (x1 * a0.2.2.2.1)) :=
 (mk_f _ _ _ _ _ _ _ 4000).trans (by kernel_rfl)

/- spec.WayIn -/
def spec_WayIn_ir : Fn := { np := 2, io := [], res := [.t 4, .t 5], own := [false, false], body :=
 (.seq (.reg false [⟨some 2, true, .box 4 (.t 0), none, false, []⟩, ⟨some 4, false, .asg (.c (.int .i64 0)), none, false, []⟩, ⟨some 5, false, .asg (.c (.int .i64 0)), none, false, []⟩] [1, 2] [2]) (.seq (.seq (.reg false [⟨some 7, false, .call (.c (.fn 800 [])) [.t 2], none, false, []⟩, ⟨some 8, false, .un .not (.t 7), none, false, []⟩] [1, 2, 8] [2]) (.cond (.t 8) (.seq (.reg false [⟨some 4, false, .asg (.c (.int .i64 0)), none, false, []⟩, ⟨some 5, false, .asg (.c (.int .i64 1)), none, false, []⟩] [4, 5] []) .ret) .skip)) (.seq (.seq (.reg false [⟨some 9, false, .mv (.t 1), none, false, []⟩, ⟨some 10, false, .call (.c (.fn 495 [])) [.t 9], none, false, []⟩, ⟨some 11, false, .un .not (.t 10), none, false, []⟩] [1, 2, 11] [2]) (.cond (.t 11) (.seq (.reg false [⟨some 4, false, .asg (.c (.int .i64 0)), none, false, []⟩, ⟨some 5, false, .asg (.c (.int .i64 2)), none, false, []⟩] [4, 5] []) .ret) .skip)) (.seq (.reg false [⟨some 12, false, .mv (.t 1), none, false, []⟩, ⟨some 13, false, .call (.c (.fn 799 [])) [.t 2, .t 12], none, false, []⟩, ⟨some 6, false, .asg (.t 13), none, false, []⟩] [6] []) (.seq (.seq (.reg false [⟨some 14, false, .mv (.t 6), none, false, []⟩, ⟨some 15, false, .bin .lss (.t 14) (.c (.int .i64 0)), none, false, []⟩] [6, 15] []) (.cond (.t 15) (.seq (.reg false [⟨some 4, false, .asg (.c (.int .i64 0)), none, false, []⟩, ⟨some 5, false, .asg (.c (.int .i64 3)), none, false, []⟩] [4, 5] []) .ret) .skip)) (.seq (.reg false [⟨some 16, false, .mv (.t 6), none, false, []⟩, ⟨some 4, false, .asg (.t 16), none, false, []⟩, ⟨some 5, false, .asg (.c (.int .i64 0)), none, false, []⟩] [4, 5] []) .ret)))))) }
noncomputable def spec_WayIn_D : List (Nat × Callee) := [(495, spec_l12Hole_c), (799, spec_l12In_c), (800, spec_l12One_c)]
def spec_WayIn_H : List (Nat × ET) := []
noncomputable def spec_WayIn_c : Callee := mkCallee spec_WayIn_D spec_WayIn_H spec_WayIn_ir [.d T_Peg, .d (.one (.int .i64))] [.d (.one (.int .i64)), .d (.one (.int .i64))] []
noncomputable def spec_WayIn (a0 : T_Peg.ty) (a1 : Int) : Option (Int × Int) := spec_WayIn_c.f (a0, a1, ())
theorem spec_WayIn_eq (a0 : T_Peg.ty) (a1 : Int) : spec_WayIn a0 a1 =
  (spec_l12One a0).bind fun x1 =>
   if (!x1) then
    some (0, 1)
   else
    (spec_l12Hole a1).bind fun x2 =>
     if (!x2) then
      some (0, 2)
     else
      (spec_l12In a0 a1).bind fun x3 =>
       if decide (x3 < 0) then
        some (0, 3)
       else
        some (x3, 0) :=
 (mk_f _ _ _ _ _ _ _ 4000).trans (by kernel_rfl)

/- spec.DrawReamTo -/
def spec_DrawReamTo_ir : Fn := { np := 1, io := [], res := [.t 2, .cell 3 (some 4), .t 4], own := [false, false, false], body :=
 (.seq (.reg false [⟨some 2, false, .asg (.c (.int .i64 0)), none, false, []⟩, ⟨some 3, true, .alloc 4 (.agg [.str [], .int .i64 0, .int .i64 0, .int .i64 0]), none, false, []⟩, ⟨some 4, false, .asg (.c (.int .i64 0)), none, false, []⟩] [0, 3] [3]) (.seq (.reg false [⟨some 8, false, .mv (.t 0), none, false, []⟩, ⟨some 9, true, .call (.c (.fn 441 [])) [.t 8], none, false, []⟩, ⟨some 5, false, .asg (.t 9), none, false, []⟩] [3, 5] [3, 9, 10000]) (.seq (.reg false [⟨some 10, false, .mv (.t 5), none, false, []⟩, ⟨some 11, false, .mv (.t 5), none, false, []⟩, ⟨some 12, true, .call (.c (.fn 793 [])) [.t 11, .c (.str [112, 97])], none, false, []⟩, ⟨some 13, true, .call (.c (.fn 794 [])) [.t 10, .t 12], none, false, []⟩, ⟨some 6, true, .alloc 4 (.agg [.str [], .int .i64 0, .int .i64 0, .int .i64 0]), none, false, []⟩, ⟨none, true, .sto 4 (.t 6) (.t 13), none, false, []⟩] [3, 5, 6] [3, 6, 9, 10000]) (.seq (.reg false [⟨some 14, false, .mv (.t 5), none, false, []⟩, ⟨some 15, true, .call (.c (.fn 792 [])) [.t 14], none, false, []⟩, ⟨some 7, false, .asg (.t 15), none, false, []⟩] [3, 5, 6, 7] [3, 6, 9, 10000]) (.seq (.reg true [⟨some 16, false, .mv (.t 7), none, false, []⟩, ⟨some 17, false, .ld (some 4) (.t 6), none, true, []⟩, ⟨some 18, false, .mv (.t 5), none, false, []⟩, ⟨some 19, true, .call (.c (.fn 798 [])) [.t 18], none, false, [6, 7]⟩, ⟨some 2, false, .asg (.t 16), none, false, []⟩, ⟨none, true, .sto 4 (.t 3) (.t 17), none, false, []⟩, ⟨some 4, false, .asg (.t 19), none, false, []⟩] [2, 3, 4] [3]) .ret))))) }
noncomputable def spec_DrawReamTo_D : List (Nat × Callee) := [(441, spec_l00From_c), (792, spec_l12DrawHole_c), (793, spec_l12DrawOne_c), (794, spec_l12Bent_c), (798, spec_l12DrawWay_c)]
def spec_DrawReamTo_H : List (Nat × ET) := [(8, (.one (.int .u8)))]
noncomputable def spec_DrawReamTo_c : Callee := mkCallee spec_DrawReamTo_D spec_DrawReamTo_H spec_DrawReamTo_ir [.d (.one (.sl (.one (.int .u8))))] [.d (.one (.int .i64)), .d T_Peg, .d (.one (.int .i64))] []
noncomputable def spec_DrawReamTo (a0 : List Int) : Option (Int × T_Peg.ty × Int) := spec_DrawReamTo_c.f (a0, ())
theorem spec_DrawReamTo_eq (a0 : List Int) : spec_DrawReamTo a0 =
  (spec_l00From a0).bind fun x1 =>
   (spec_l12DrawOne x1 [112, 97]).bind fun x2 =>
    (spec_l12Bent (x2.2.1, x2.2.2.1, x2.2.2.2.1, ()) (x2.1.1, x2.1.2.1, x2.1.2.2.1, x2.1.2.2.2.1, ())).bind fun x3 =>
     (spec_l12DrawHole (x3.2.1, x3.2.2.1, x3.2.2.2.1, ())).bind fun x4 =>
      (spec_l12DrawWay (x4.2.1, x4.2.2.1, x4.2.2.2.1, ())).bind fun x5 =>
       some (x4.1, (x3.1.1, x3.1.2.1, x3.1.2.2.1, x3.1.2.2.2.1, ()), x5.1) :=
 (mk_f _ _ _ _ _ _ _ 4000).trans (by kernel_rfl)

/- impl.ReamTo -/
def impl_ReamTo_k0 : C :=
 .seq (.seq (.reg false [⟨some 23, false, .mv (.t 8), none, false, []⟩, ⟨some 24, false, .bin .leq (.t 23) (.c (.int .i64 200)), none, false, []⟩] [0, 2, 4, 8, 24] [4]) (.cond (.t 24) .skip (.exit 0))) (.seq (.block 1 (.seq (.reg false [⟨some 28, false, .ld (some 4) (.t 4), none, false, []⟩, ⟨some 29, false, .mv (.t 8), none, false, []⟩, ⟨some 30, false, .call (.c (.fn 795 [])) [.t 28, .t 29], none, false, []⟩, ⟨some 27, false, .mv (.t 30), none, false, []⟩, ⟨some 31, false, .ext (.t 27) 0, none, false, []⟩, ⟨some 32, false, .ext (.t 27) 1, none, false, []⟩, ⟨some 9, false, .asg (.t 31), none, false, []⟩, ⟨some 10, false, .asg (.t 32), none, false, []⟩] [0, 2, 4, 8, 9, 10] [4]) (.seq (.seq (.reg false [⟨some 33, false, .mv (.t 10), none, false, []⟩, ⟨some 34, false, .un .not (.t 33), none, false, []⟩] [0, 2, 4, 8, 9, 34] [4]) (.cond (.t 34) (.exit 0) .skip)) (.seq (.reg false [⟨some 35, false, .mv (.t 9), none, false, []⟩, ⟨some 36, false, .mv (.t 2), none, false, []⟩, ⟨some 37, false, .bin .geq (.t 35) (.t 36), none, false, []⟩] [0, 2, 4, 8, 37] [4]) (.cond (.t 37) (.seq (.reg false [⟨some 38, false, .mv (.t 8), none, false, []⟩, ⟨some 39, false, .mv (.t 0), none, false, []⟩, ⟨some 40, false, .bin .sub (.t 38) (.t 39), none, false, []⟩, ⟨some 6, false, .asg (.t 40), none, false, []⟩, ⟨some 7, false, .asg (.c (.int .i64 0)), none, false, []⟩] [6, 7] []) .ret) .skip))))) (.reg false [⟨some 25, false, .mv (.t 8), none, false, []⟩, ⟨some 26, false, .bin .add (.t 25) (.c (.int .i64 1)), none, false, []⟩, ⟨some 8, false, .asg (.t 26), none, false, []⟩] [0, 2, 4, 8] [4]))
def impl_ReamTo_k1 : C :=
 .norm [0, 2, 4, 8] [4] impl_ReamTo_k0
def impl_ReamTo_k2 : C :=
 .seq (.reg false [⟨some 6, false, .asg (.c (.int .i64 0)), none, false, []⟩, ⟨some 7, false, .asg (.c (.int .i64 3)), none, false, []⟩] [6, 7] []) .ret
def impl_ReamTo_k3 : C :=
 .seq (.seq (.reg false [⟨some 22, false, .mv (.t 0), none, false, []⟩, ⟨some 8, false, .asg (.t 22), none, false, []⟩] [0, 2, 4, 8] [4]) (.block 0 (.loop impl_ReamTo_k1))) impl_ReamTo_k2
def impl_ReamTo_ir : Fn := { np := 3, io := [], res := [.t 6, .t 7], own := [false, false], body :=
 (.seq (.reg false [⟨some 4, true, .box 4 (.t 1), none, false, []⟩, ⟨some 6, false, .asg (.c (.int .i64 0)), none, false, []⟩, ⟨some 7, false, .asg (.c (.int .i64 0)), none, false, []⟩] [0, 2, 4] [4]) (.seq (.seq (.reg false [⟨some 11, false, .ld (some 4) (.t 4), none, false, []⟩, ⟨some 12, false, .call (.c (.fn 796 [])) [.t 11], none, false, []⟩, ⟨some 13, false, .un .not (.t 12), none, false, []⟩] [0, 2, 4, 13] [4]) (.cond (.t 13) (.seq (.reg false [⟨some 6, false, .asg (.c (.int .i64 0)), none, false, []⟩, ⟨some 7, false, .asg (.c (.int .i64 1)), none, false, []⟩] [6, 7] []) .ret) .skip)) (.seq (.seq (.reg false [⟨some 14, false, .mv (.t 0), none, false, []⟩, ⟨some 15, false, .call (.c (.fn 500 [])) [.t 14], none, false, []⟩, ⟨some 16, false, .un .not (.t 15), none, false, []⟩, ⟨some 17, false, .mv (.t 16), none, false, []⟩, ⟨some 18, false, .mv (.t 2), some (3, false), false, []⟩, ⟨some 19, false, .call (.c (.fn 501 [])) [.t 18], some (3, false), false, []⟩, ⟨some 20, false, .un .not (.t 19), some (3, false), false, []⟩, ⟨some 21, false, .pick (.t 17) (.c (.bool true)) (.t 20), none, false, []⟩] [0, 2, 4, 21] [4]) (.cond (.t 21) (.seq (.reg false [⟨some 6, false, .asg (.c (.int .i64 0)), none, false, []⟩, ⟨some 7, false, .asg (.c (.int .i64 2)), none, false, []⟩] [6, 7] []) .ret) .skip)) (.norm [0, 2, 4] [4] impl_ReamTo_k3)))) }
noncomputable def impl_ReamTo_D : List (Nat × Callee) := [(500, impl_isHole_c), (501, impl_isWay_c), (795, impl_Peg_wayIn_c), (796, impl_Peg_valid_c)]
def impl_ReamTo_H : List (Nat × ET) := []
noncomputable def impl_ReamTo_c : Callee := mkCallee impl_ReamTo_D impl_ReamTo_H impl_ReamTo_ir [.d (.one (.int .i64)), .d T_Peg, .d (.one (.int .i64))] [.d (.one (.int .i64)), .d (.one (.int .i64))] []
noncomputable def impl_ReamTo (a0 : Int) (a1 : T_Peg.ty) (a2 : Int) : Option (Int × Int) := impl_ReamTo_c.f (a0, a1, a2, ())
noncomputable def impl_ReamTo_p0  (v0 : Int) (v2 : Int) (r4_0 : List UInt8) (r4_1 : Int) (r4_2 : Int) (r4_3 : Int) : Option (Int × Int) :=
 goL impl_ReamTo_D impl_ReamTo_H (vleave impl_ReamTo_ir [.d (.one (.int .i64)), .d T_Peg, .d (.one (.int .i64))] [.d (.one (.int .i64)), .d (.one (.int .i64))] [] []) [.c impl_ReamTo_k3]
  ⟨[(0, .int .i64 v0), (2, .int .i64 v2), (4, .loc 4 0 0)], [(4, some (.var 4 (.agg [.str r4_0, .int .i64 r4_1, .int .i64 r4_2, .int .i64 r4_3])))]⟩
noncomputable def impl_ReamTo_p1  (v0 : Int) (v2 : Int) (v8 : Int) (r4_0 : List UInt8) (r4_1 : Int) (r4_2 : Int) (r4_3 : Int) : Option (Int × Int) :=
 goL impl_ReamTo_D impl_ReamTo_H (vleave impl_ReamTo_ir [.d (.one (.int .i64)), .d T_Peg, .d (.one (.int .i64))] [.d (.one (.int .i64)), .d (.one (.int .i64))] [] []) [.c impl_ReamTo_k0, .l impl_ReamTo_k1, .e 0, .c impl_ReamTo_k2]
  ⟨[(0, .int .i64 v0), (2, .int .i64 v2), (4, .loc 4 0 0), (8, .int .i64 v8)], [(4, some (.var 4 (.agg [.str r4_0, .int .i64 r4_1, .int .i64 r4_2, .int .i64 r4_3])))]⟩
theorem impl_ReamTo_eq (a0 : Int) (a1 : T_Peg.ty) (a2 : Int) : impl_ReamTo a0 a1 a2 =
  (impl_Peg_valid a1).bind fun x1 =>
   if (!x1) then
    some (0, 1)
   else
    (impl_isHole a0).bind fun x2 =>
     if (!x2) then
      some (0, 2)
     else
      (impl_isWay a2).bind fun x3 =>
       if (!x3) then
        some (0, 2)
       else
        impl_ReamTo_p0 a0 a2 a1.1 a1.2.1 a1.2.2.1 a1.2.2.2.1 :=
 (mk_f _ _ _ _ _ _ _ 4000).trans (by kernel_rfl)
theorem impl_ReamTo_p0_eq  (v0 : Int) (v2 : Int) (r4_0 : List UInt8) (r4_1 : Int) (r4_2 : Int) (r4_3 : Int) : impl_ReamTo_p0 v0 v2 r4_0 r4_1 r4_2 r4_3 =
  impl_ReamTo_p1 v0 v2 v0 r4_0 r4_1 r4_2 r4_3 :=
 (goL_dn _ _ _ 4000 _ _).trans (by kernel_rfl)
theorem impl_ReamTo_p1_eq  (v0 : Int) (v2 : Int) (v8 : Int) (r4_0 : List UInt8) (r4_1 : Int) (r4_2 : Int) (r4_3 : Int) : impl_ReamTo_p1 v0 v2 v8 r4_0 r4_1 r4_2 r4_3 =
  if decide (v8 ≤ 200) then
   (impl_Peg_wayIn (r4_0, r4_1, r4_2, r4_3, ()) v8).bind fun x1 =>
    if (!x1.2) then
     some (0, 3)
    else
     if decide (x1.1 ≥ v2) then
      some (IntKind.i64.wrap (v8 - v0), 0)
     else
      impl_ReamTo_p1 v0 v2 (IntKind.i64.wrap (v8 + 1)) r4_0 r4_1 r4_2 r4_3
  else
   some (0, 3) :=
 (goL_dn _ _ _ 4000 _ _).trans (by kernel_rfl)

/- spec.DrawPegText -/
def spec_DrawPegText_ir : Fn := { np := 1, io := [], res := [.cell 2 (some 4)], own := [false], body :=
 (.seq (.reg false [⟨some 2, true, .alloc 4 (.agg [.str [], .int .i64 0, .int .i64 0, .int .i64 0]), none, false, []⟩] [0, 2] [2]) (.seq (.reg false [⟨some 4, false, .mv (.t 0), none, false, []⟩, ⟨some 5, true, .call (.c (.fn 441 [])) [.t 4], none, false, []⟩, ⟨some 3, false, .asg (.t 5), none, false, []⟩] [2, 3] [2, 5, 6000]) (.seq (.reg false [⟨some 6, false, .mv (.t 3), none, false, []⟩, ⟨some 7, false, .mv (.t 3), none, false, []⟩, ⟨some 8, true, .call (.c (.fn 793 [])) [.t 7, .c (.str [112, 97])], none, false, []⟩, ⟨some 9, true, .call (.c (.fn 794 [])) [.t 6, .t 8], none, false, []⟩, ⟨none, true, .sto 4 (.t 2) (.t 9), none, false, []⟩] [2] [2]) .ret))) }
noncomputable def spec_DrawPegText_D : List (Nat × Callee) := [(441, spec_l00From_c), (793, spec_l12DrawOne_c), (794, spec_l12Bent_c)]
def spec_DrawPegText_H : List (Nat × ET) := [(4, (.one (.int .u8)))]
noncomputable def spec_DrawPegText_c : Callee := mkCallee spec_DrawPegText_D spec_DrawPegText_H spec_DrawPegText_ir [.d (.one (.sl (.one (.int .u8))))] [.d T_Peg] []
noncomputable def spec_DrawPegText (a0 : List Int) : Option (T_Peg.ty) := spec_DrawPegText_c.f (a0, ())
theorem spec_DrawPegText_eq (a0 : List Int) : spec_DrawPegText a0 =
  (spec_l00From a0).bind fun x1 =>
   (spec_l12DrawOne x1 [112, 97]).bind fun x2 =>
    (spec_l12Bent (x2.2.1, x2.2.2.1, x2.2.2.2.1, ()) (x2.1.1, x2.1.2.1, x2.1.2.2.1, x2.1.2.2.2.1, ())).bind fun x3 =>
     some (x3.1.1, x3.1.2.1, x3.1.2.2.1, x3.1.2.2.2.1, ()) :=
 (mk_f _ _ _ _ _ _ _ 4000).trans (by kernel_rfl)

/- strconv.FormatInt -/
noncomputable def strconv_FormatInt_c : Callee := formatIntC
noncomputable def strconv_FormatInt (a0 : Int) (a1 : Int) : Option (List UInt8) := strconv_FormatInt_c.f (a0, a1, ())
theorem strconv_FormatInt_eq (a0 : Int) (a1 : Int) : strconv_FormatInt a0 a1 = if decide (a1 = 10) && (decide (-9223372036854775808 ≤ a0) && decide (a0 ≤ 9223372036854775807)) then some (Lib.itoa a0) else none := rfl

/- impl.Decimal -/
def impl_Decimal_ir : Fn := { np := 1, io := [], res := [.t 2], own := [false], body :=
 (.seq (.reg false [⟨some 2, false, .asg (.c (.str [])), none, false, []⟩] [0] []) (.seq (.reg false [⟨some 3, false, .mv (.t 0), none, false, []⟩, ⟨some 4, false, .call (.c (.fn 864 [])) [.t 3, .c (.int .i64 10)], none, false, []⟩, ⟨some 2, false, .asg (.t 4), none, false, []⟩] [2] []) .ret)) }
noncomputable def impl_Decimal_D : List (Nat × Callee) := [(864, strconv_FormatInt_c)]
def impl_Decimal_H : List (Nat × ET) := []
noncomputable def impl_Decimal_c : Callee := mkCallee impl_Decimal_D impl_Decimal_H impl_Decimal_ir [.d (.one (.int .i64))] [.d (.one .str)] []
noncomputable def impl_Decimal (a0 : Int) : Option (List UInt8) := impl_Decimal_c.f (a0, ())
theorem impl_Decimal_eq (a0 : Int) : impl_Decimal a0 =
  (strconv_FormatInt a0 10).bind fun x1 =>
   some x1 :=
 (mk_f _ _ _ _ _ _ _ 4000).trans (by kernel_rfl)

/- strings.Join -/
noncomputable def strings_Join_c : Callee := joinC
noncomputable def strings_Join (a0 : List (List UInt8)) (a1 : List UInt8) : Option (List UInt8) := strings_Join_c.f (a0, a1, ())
theorem strings_Join_eq (a0 : List (List UInt8)) (a1 : List UInt8) : strings_Join a0 a1 = if decide (a0.length ≤ 140737488355328) && decide ((Lib.join a0 a1).length ≤ 140737488355328) then some (Lib.join a0 a1) else none := rfl

/- impl.ListText -/
def impl_ListText_k0 : C :=
 .seq (.reg false [⟨some 17, false, .bin .lss (.t 16) (.t 15), none, false, []⟩] [3, 14, 15, 16, 17] [3]) (.seq (.cond (.t 17) .skip (.exit 0)) (.seq (.block 1 (.seq (.reg false [⟨some 18, false, .ia 1 (.t 14) (.t 16), none, false, []⟩, ⟨some 19, false, .ld none (.t 18), none, false, []⟩, ⟨some 5, false, .asg (.t 19), none, false, []⟩] [3, 5, 14, 15, 16] [3]) (.seq (.seq (.reg false [⟨some 20, false, .mv (.t 5), none, false, []⟩, ⟨some 21, false, .call (.c (.fn 23 [])) [.t 20, .c (.int .i64 (-1000000000000)), .c (.int .i64 1000000000000)], none, false, []⟩, ⟨some 22, false, .un .not (.t 21), none, false, []⟩] [3, 5, 14, 15, 16, 22] [3]) (.cond (.t 22) (.seq (.reg false [⟨some 2, false, .asg (.c (.str [])), none, false, []⟩] [2] []) .ret) .skip)) (.reg false [⟨some 23, false, .mv (.t 3), none, false, []⟩, ⟨some 24, false, .mv (.t 5), none, false, []⟩, ⟨some 25, false, .call (.c (.fn 524 [])) [.t 24], none, false, []⟩, ⟨some 26, false, .bsl 1 (.str []) 1 [(0, .t 25)], none, false, []⟩, ⟨some 27, true, .app 1 16 (.t 23) (.t 26), none, false, []⟩, ⟨some 3, true, .asg (.t 27), none, false, []⟩] [3, 14, 15, 16] [3])))) (.reg false [⟨some 28, false, .bin .add (.t 16) (.c (.int .i64 1)), none, false, []⟩, ⟨some 16, false, .mv (.t 28), none, false, []⟩] [3, 14, 15, 16] [3])))
def impl_ListText_k1 : C :=
 .norm [3, 14, 15, 16] [3] impl_ListText_k0
def impl_ListText_k2 : C :=
 .seq (.reg false [⟨some 29, false, .mv (.t 3), none, false, []⟩, ⟨some 30, false, .call (.c (.fn 630 [])) [.t 29, .c (.str [44])], none, false, []⟩, ⟨some 2, false, .asg (.t 30), none, false, []⟩] [2] []) .ret
def impl_ListText_ir : Fn := { np := 1, io := [], res := [.t 2], own := [false], body :=
 (.seq (.reg false [⟨some 2, false, .asg (.c (.str [])), none, false, []⟩] [0] []) (.seq (.seq (.reg false [⟨some 6, false, .mv (.t 0), none, false, []⟩, ⟨some 7, false, .len (.t 6), none, false, []⟩, ⟨some 8, false, .call (.c (.fn 21 [])) [.t 7, .c (.int .i64 64)], none, false, []⟩, ⟨some 9, false, .un .not (.t 8), none, false, []⟩] [0, 9] []) (.cond (.t 9) (.seq (.reg false [⟨some 2, false, .asg (.c (.str [])), none, false, []⟩] [2] []) .ret) .skip)) (.seq (.seq (.reg false [⟨some 10, false, .mv (.t 0), none, false, []⟩, ⟨some 11, false, .len (.t 10), none, false, []⟩, ⟨some 12, false, .bin .eql (.t 11) (.c (.int .i64 0)), none, false, []⟩] [0, 12] []) (.cond (.t 12) (.seq (.reg false [⟨some 2, false, .asg (.c (.str [45])), none, false, []⟩] [2] []) .ret) .skip)) (.seq (.reg false [⟨some 13, false, .bsl 1 (.str []) 0 [], none, false, []⟩, ⟨some 3, true, .asg (.t 13), none, false, []⟩] [0, 3] [3]) (.seq (.seq (.reg false [⟨some 14, false, .mv (.t 0), none, false, []⟩, ⟨some 15, false, .len (.t 14), none, false, []⟩, ⟨some 16, false, .mv (.c (.int .i64 0)), none, false, []⟩] [3, 14, 15, 16] [3]) (.block 0 (.loop impl_ListText_k1))) impl_ListText_k2))))) }
noncomputable def impl_ListText_D : List (Nat × Callee) := [(21, impl_few_c), (23, impl_within_c), (524, impl_Decimal_c), (630, strings_Join_c)]
def impl_ListText_H : List (Nat × ET) := [(3, (.one .str)), (6, (.one (.int .i64))), (10, (.one (.int .i64))), (13, (.one .str)), (14, (.one (.int .i64))), (23, (.one .str)), (26, (.one .str)), (27, (.one .str)), (29, (.one .str))]
noncomputable def impl_ListText_c : Callee := mkCallee impl_ListText_D impl_ListText_H impl_ListText_ir [.d (.one (.sl (.one (.int .i64))))] [.d (.one .str)] []
noncomputable def impl_ListText (a0 : List Int) : Option (List UInt8) := impl_ListText_c.f (a0, ())
noncomputable def impl_ListText_p0  (v14 : List Int) (v15 : Int) (v16 : Int) (r3 : List (List UInt8)) : Option (List UInt8) :=
 goL impl_ListText_D impl_ListText_H (vleave impl_ListText_ir [.d (.one (.sl (.one (.int .i64))))] [.d (.one .str)] [] []) [.c impl_ListText_k0, .l impl_ListText_k1, .e 0, .c impl_ListText_k2]
  ⟨[(3, .view 3 0 r3.length), (14, .sl (.one (.int .i64)) v14), (15, .int .i64 v15), (16, .int .i64 v16)], [(3, some (.sl (.one .str) r3))]⟩
theorem impl_ListText_eq (a0 : List Int) : impl_ListText a0 =
  (impl_few (a0.length : Int) 64).bind fun x1 =>
   if (!x1) then
    some []
   else
    if ((a0.length : Int) == 0) then
     some [45]
    else
     impl_ListText_p0 a0 (a0.length : Int) 0 [] :=
 (mk_f _ _ _ _ _ _ _ 4000).trans (by kernel_rfl)
theorem impl_ListText_p0_eq  (v14 : List Int) (v15 : Int) (v16 : Int) (r3 : List (List UInt8)) : impl_ListText_p0 v14 v15 v16 r3 =
  if decide (v16 < v15) then
   if decide (0 ≤ v16) then
    (v14[v16.toNat]?).bind fun x1 =>
     (impl_within x1 (-1000000000000) 1000000000000).bind fun x2 =>
      if (!x2) then
       some []
      else
       (impl_Decimal x1).bind fun x3 =>
        if decide (r3.length + 1 < lim) then
         impl_ListText_p0 v14 v15 (IntKind.i64.wrap (v16 + 1)) ((r3.take r3.length) ++ [x3])
        else
         none
   else
    none
  else
   (strings_Join (r3.take r3.length) [44]).bind fun x4 =>
    some x4 :=
 (goL_dn _ _ _ 4000 _ _).trans (by kernel_rfl)

/- impl.named -/
def impl_named_ir : Fn := { np := 2, io := [], res := [.t 4], own := [false], body :=
 (.seq (.reg false [⟨some 4, false, .asg (.c (.str [])), none, false, []⟩] [0, 1] []) (.seq (.reg false [⟨some 5, false, .mv (.t 0), none, false, []⟩, ⟨some 6, false, .bin .add (.t 5) (.c (.str [32])), none, false, []⟩, ⟨some 7, false, .mv (.t 1), none, false, []⟩, ⟨some 8, false, .call (.c (.fn 460 [])) [.t 7], none, false, []⟩, ⟨some 9, false, .bin .add (.t 6) (.t 8), none, false, []⟩, ⟨some 4, false, .asg (.t 9), none, false, []⟩] [4] []) .ret)) }
noncomputable def impl_named_D : List (Nat × Callee) := [(460, impl_ListText_c)]
def impl_named_H : List (Nat × ET) := [(7, (.one (.int .i64)))]
noncomputable def impl_named_c : Callee := mkCallee impl_named_D impl_named_H impl_named_ir [.d (.one .str), .d (.one (.sl (.one (.int .i64))))] [.d (.one .str)] []
noncomputable def impl_named (a0 : List UInt8) (a1 : List Int) : Option (List UInt8) := impl_named_c.f (a0, a1, ())
theorem impl_named_eq (a0 : List UInt8) (a1 : List Int) : impl_named a0 a1 =
  if decide (a0.length + [32].length ≤ strMax) then
   (impl_ListText a1).bind fun x1 =>
    if decide ((a0 ++ [32]).length + x1.length ≤ strMax) then
     some ((a0 ++ [32]) ++ x1)
    else
     none
  else
   none :=
 (mk_f _ _ _ _ _ _ _ 4000).trans (by kernel_rfl)

/- impl.PegText -/
def impl_PegText_ir : Fn := { np := 1, io := [], res := [.t 2], own := [false], body :=
 (.seq (.reg false [⟨some 1, true, .box 4 (.t 0), none, false, []⟩, ⟨some 2, false, .asg (.c (.str [])), none, false, []⟩] [1] [1]) (.seq (.seq (.reg false [⟨some 3, false, .ld (some 4) (.t 1), none, false, []⟩, ⟨some 4, false, .call (.c (.fn 796 [])) [.t 3], none, false, []⟩, ⟨some 5, false, .un .not (.t 4), none, false, []⟩] [1, 5] [1]) (.cond (.t 5) (.seq (.reg false [⟨some 2, false, .asg (.c (.str [])), none, false, []⟩] [2] []) .ret) .skip)) (.seq (.reg false [⟨some 6, false, .fa 0 (.t 1), none, false, []⟩, ⟨some 7, false, .ld none (.t 6), none, false, []⟩, ⟨some 8, false, .fa 1 (.t 1), none, false, []⟩, ⟨some 9, false, .ld none (.t 8), none, false, []⟩, ⟨some 10, false, .fa 2 (.t 1), none, false, []⟩, ⟨some 11, false, .ld none (.t 10), none, false, []⟩, ⟨some 12, false, .fa 3 (.t 1), none, false, []⟩, ⟨some 13, false, .ld none (.t 12), none, false, []⟩, ⟨some 14, false, .bsl 1 (.int .i64 0) 3 [(0, .t 9), (1, .t 11), (2, .t 13)], none, false, []⟩, ⟨some 15, false, .call (.c (.fn 459 [])) [.t 7, .t 14], none, false, []⟩, ⟨some 2, false, .asg (.t 15), none, false, []⟩] [2] []) .ret))) }
noncomputable def impl_PegText_D : List (Nat × Callee) := [(459, impl_named_c), (796, impl_Peg_valid_c)]
def impl_PegText_H : List (Nat × ET) := [(14, (.one (.int .i64)))]
noncomputable def impl_PegText_c : Callee := mkCallee impl_PegText_D impl_PegText_H impl_PegText_ir [.d T_Peg] [.d (.one .str)] []
noncomputable def impl_PegText (a0 : T_Peg.ty) : Option (List UInt8) := impl_PegText_c.f (a0, ())
theorem impl_PegText_eq (a0 : T_Peg.ty) : impl_PegText a0 =
  (impl_Peg_valid a0).bind fun x1 =>
   if (!x1) then
    some []
   else
    (impl_named a0.1 [a0.2.1, a0.2.2.1, a0.2.2.2.1]).bind fun x2 =>
     some x2 :=
 (mk_f _ _ _ _ _ _ _ 4000).trans (by kernel_rfl)

/- strings.Cut -/
noncomputable def strings_Cut_c : Callee := cutC
noncomputable def strings_Cut (a0 : List UInt8) (a1 : List UInt8) : Option (List UInt8 × List UInt8 × Bool) := strings_Cut_c.f (a0, a1, ())
theorem strings_Cut_eq (a0 : List UInt8) (a1 : List UInt8) : strings_Cut a0 a1 = if decide (a0.length < 4294967281) then some (Lib.cut a0 a1) else none := rfl

/- strings.Split -/
noncomputable def strings_Split_c : Callee := splitC
noncomputable def strings_Split (a0 : List UInt8) (a1 : List UInt8) : Option (List (List UInt8)) := strings_Split_c.f (a0, a1, ())
theorem strings_Split_eq (a0 : List UInt8) (a1 : List UInt8) : strings_Split a0 a1 = if decide (a0.length < 4294967281) && decide (1 ≤ a1.length) then some (Lib.splitK a1 0 (Lib.count a0 a1) a0) else none := rfl

/- loop.example/g01061/impl.ReadDecimal -/
noncomputable def impl_ReadDecimal_c : Callee := readDecC
noncomputable def impl_ReadDecimal (a0 : List UInt8) : Option (Int × Bool) := impl_ReadDecimal_c.f (a0, ())
theorem impl_ReadDecimal_eq (a0 : List UInt8) : impl_ReadDecimal a0 = some (readDecP a0) := rfl

/- impl.ReadList -/
def impl_ReadList_k0 : C :=
 .seq (.reg false [⟨some 16, false, .bin .lss (.t 15) (.t 14), none, false, []⟩] [4, 13, 14, 15, 16] [4]) (.seq (.cond (.t 16) .skip (.exit 0)) (.seq (.block 1 (.seq (.reg false [⟨some 17, false, .ia 1 (.t 13) (.t 15), none, false, []⟩, ⟨some 18, false, .ld none (.t 17), none, false, []⟩, ⟨some 6, false, .asg (.t 18), none, false, []⟩] [4, 6, 13, 14, 15] [4]) (.seq (.reg false [⟨some 20, false, .mv (.t 6), none, false, []⟩, ⟨some 21, false, .call (.c (.fn 522 [])) [.t 20], none, false, []⟩, ⟨some 19, false, .mv (.t 21), none, false, []⟩, ⟨some 22, false, .ext (.t 19) 0, none, false, []⟩, ⟨some 23, false, .ext (.t 19) 1, none, false, []⟩, ⟨some 7, false, .asg (.t 22), none, false, []⟩, ⟨some 8, false, .asg (.t 23), none, false, []⟩] [4, 7, 8, 13, 14, 15] [4]) (.seq (.seq (.reg false [⟨some 24, false, .mv (.t 8), none, false, []⟩, ⟨some 25, false, .un .not (.t 24), none, false, []⟩, ⟨some 26, false, .mv (.t 25), none, false, []⟩, ⟨some 27, false, .mv (.t 7), some (2, false), false, []⟩, ⟨some 28, false, .call (.c (.fn 23 [])) [.t 27, .c (.int .i64 (-1000000000000)), .c (.int .i64 1000000000000)], some (2, false), false, []⟩, ⟨some 29, false, .un .not (.t 28), some (2, false), false, []⟩, ⟨some 30, false, .pick (.t 26) (.c (.bool true)) (.t 29), none, false, []⟩, ⟨some 31, false, .mv (.t 30), none, false, []⟩, ⟨some 32, false, .mv (.t 4), some (7, false), false, []⟩, ⟨some 33, false, .len (.t 32), some (7, false), false, []⟩, ⟨some 34, false, .bin .eql (.t 33) (.c (.int .i64 64)), some (7, false), false, []⟩, ⟨some 35, false, .pick (.t 31) (.c (.bool true)) (.t 34), none, false, []⟩] [4, 7, 13, 14, 15, 35] [4]) (.cond (.t 35) (.seq (.reg false [⟨some 2, true, .asg (.c (.nils 1)), none, false, []⟩, ⟨some 3, false, .asg (.c (.bool false)), none, false, []⟩] [2, 3] [2, 4]) .ret) .skip)) (.reg false [⟨some 36, false, .mv (.t 4), none, false, []⟩, ⟨some 37, false, .mv (.t 7), none, false, []⟩, ⟨some 38, false, .bsl 1 (.int .i64 0) 1 [(0, .t 37)], none, false, []⟩, ⟨some 39, true, .app 1 8 (.t 36) (.t 38), none, false, []⟩, ⟨some 4, true, .asg (.t 39), none, false, []⟩] [4, 13, 14, 15] [4]))))) (.reg false [⟨some 40, false, .bin .add (.t 15) (.c (.int .i64 1)), none, false, []⟩, ⟨some 15, false, .mv (.t 40), none, false, []⟩] [4, 13, 14, 15] [4])))
def impl_ReadList_k1 : C :=
 .norm [4, 13, 14, 15] [4] impl_ReadList_k0
def impl_ReadList_k2 : C :=
 .seq (.reg false [⟨some 41, false, .mv (.t 4), none, false, []⟩, ⟨some 2, true, .asg (.t 41), none, false, []⟩, ⟨some 3, false, .asg (.c (.bool true)), none, false, []⟩] [2, 3] [2, 4]) .ret
def impl_ReadList_ir : Fn := { np := 1, io := [], res := [.t 2, .t 3], own := [true, false], body :=
 (.seq (.reg false [⟨some 2, true, .asg (.c (.nils 1)), none, false, []⟩, ⟨some 3, false, .asg (.c (.bool false)), none, false, []⟩] [0] []) (.seq (.seq (.reg false [⟨some 9, false, .mv (.t 0), none, false, []⟩, ⟨some 10, false, .bin .eql (.t 9) (.c (.str [45])), none, false, []⟩] [0, 10] []) (.cond (.t 10) (.seq (.reg false [⟨some 2, true, .asg (.c (.nils 1)), none, false, []⟩, ⟨some 3, false, .asg (.c (.bool true)), none, false, []⟩] [2, 3] [2, 4]) .ret) .skip)) (.seq (.reg false [⟨some 11, false, .bsl 1 (.int .i64 0) 0 [], none, false, []⟩, ⟨some 4, true, .asg (.t 11), none, false, []⟩] [0, 4] [4]) (.seq (.seq (.reg false [⟨some 12, false, .mv (.t 0), none, false, []⟩, ⟨some 13, false, .call (.c (.fn 683 [])) [.t 12, .c (.str [44])], none, false, []⟩, ⟨some 14, false, .len (.t 13), none, false, []⟩, ⟨some 15, false, .mv (.c (.int .i64 0)), none, false, []⟩] [4, 13, 14, 15] [4]) (.block 0 (.loop impl_ReadList_k1))) impl_ReadList_k2)))) }
noncomputable def impl_ReadList_D : List (Nat × Callee) := [(23, impl_within_c), (522, impl_ReadDecimal_c), (683, strings_Split_c)]
def impl_ReadList_H : List (Nat × ET) := [(2, (.one (.int .i64))), (4, (.one (.int .i64))), (11, (.one (.int .i64))), (13, (.one .str)), (32, (.one (.int .i64))), (36, (.one (.int .i64))), (38, (.one (.int .i64))), (39, (.one (.int .i64))), (41, (.one (.int .i64)))]
noncomputable def impl_ReadList_c : Callee := mkCallee impl_ReadList_D impl_ReadList_H impl_ReadList_ir [.d (.one .str)] [.tok (.one (.int .i64)), .d (.one .bool)] []
noncomputable def impl_ReadList (a0 : List UInt8) : Option (List Int × Bool) := impl_ReadList_c.f (a0, ())
noncomputable def impl_ReadList_p0  (v13 : List (List UInt8)) (v14 : Int) (v15 : Int) (r4 : List Int) : Option (List Int × Bool) :=
 goL impl_ReadList_D impl_ReadList_H (vleave impl_ReadList_ir [.d (.one .str)] [.tok (.one (.int .i64)), .d (.one .bool)] [] []) [.c impl_ReadList_k0, .l impl_ReadList_k1, .e 0, .c impl_ReadList_k2]
  ⟨[(4, .view 4 0 r4.length), (13, .sl (.one .str) v13), (14, .int .i64 v14), (15, .int .i64 v15)], [(4, some (.sl (.one (.int .i64)) r4))]⟩
theorem impl_ReadList_eq (a0 : List UInt8) : impl_ReadList a0 =
  if (a0 == [45]) then
   some ([], true)
  else
   (strings_Split a0 [44]).bind fun x1 =>
    impl_ReadList_p0 x1 (x1.length : Int) 0 [] :=
 (mk_f _ _ _ _ _ _ _ 4000).trans (by kernel_rfl)
theorem impl_ReadList_p0_eq  (v13 : List (List UInt8)) (v14 : Int) (v15 : Int) (r4 : List Int) : impl_ReadList_p0 v13 v14 v15 r4 =
  if decide (v15 < v14) then
   if decide (0 ≤ v15) then
    (v13[v15.toNat]?).bind fun x1 =>
     (impl_ReadDecimal x1).bind fun x2 =>
      if (!x2.2) then
       some ([], false)
      else
       (impl_within x2.1 (-1000000000000) 1000000000000).bind fun x3 =>
        if (!x3) then
         some ([], false)
        else
         if ((r4.length : Int) == 64) then
          some ([], false)
         else
          if decide (r4.length + 1 < lim) then
           impl_ReadList_p0 v13 v14 (IntKind.i64.wrap (v15 + 1)) ((r4.take r4.length) ++ [x2.1])
          else
           none
   else
    none
  else
   some ((r4.take r4.length), true) :=
 (goL_dn _ _ _ 4000 _ _).trans (by kernel_rfl)

/- impl.readNamed -/
def impl_readNamed_ir : Fn := { np := 2, io := [], res := [.t 4, .t 5, .t 6], own := [false, false, false], body :=
 (.seq (.reg false [⟨some 4, false, .asg (.c (.str [])), none, false, []⟩, ⟨some 5, true, .asg (.c (.nils 1)), none, false, []⟩, ⟨some 6, false, .asg (.c (.bool false)), none, false, []⟩] [0, 1] []) (.seq (.reg false [⟨some 13, false, .mv (.t 0), none, false, []⟩, ⟨some 14, false, .call (.c (.fn 523 [])) [.t 13, .c (.str [32])], none, false, []⟩, ⟨some 12, false, .mv (.t 14), none, false, []⟩, ⟨some 15, false, .ext (.t 12) 0, none, false, []⟩, ⟨some 16, false, .ext (.t 12) 1, none, false, []⟩, ⟨some 17, false, .ext (.t 12) 2, none, false, []⟩, ⟨some 7, false, .asg (.t 15), none, false, []⟩, ⟨some 8, false, .asg (.t 16), none, false, []⟩, ⟨some 9, false, .asg (.t 17), none, false, []⟩] [1, 7, 8, 9] []) (.seq (.reg false [⟨some 19, false, .mv (.t 8), none, false, []⟩, ⟨some 20, false, .call (.c (.fn 457 [])) [.t 19], none, false, []⟩, ⟨some 18, false, .mv (.t 20), none, false, []⟩, ⟨some 21, false, .ext (.t 18) 0, none, false, []⟩, ⟨some 22, false, .ext (.t 18) 1, none, false, []⟩, ⟨some 10, true, .asg (.t 21), none, false, []⟩, ⟨some 11, false, .asg (.t 22), none, false, []⟩] [1, 7, 9, 10, 11] [10]) (.seq (.reg false [⟨some 23, false, .mv (.t 7), none, false, []⟩, ⟨some 24, false, .mv (.t 10), none, false, []⟩, ⟨some 25, false, .mv (.t 9), none, false, []⟩, ⟨some 26, false, .mv (.t 25), none, false, []⟩, ⟨some 27, false, .mv (.t 11), some (3, true), false, []⟩, ⟨some 28, false, .pick (.t 26) (.t 27) (.c (.bool false)), none, false, []⟩, ⟨some 29, false, .mv (.t 28), none, false, []⟩, ⟨some 30, false, .mv (.t 10), some (6, true), false, []⟩, ⟨some 31, false, .len (.t 30), some (6, true), false, []⟩, ⟨some 32, false, .mv (.t 1), some (6, true), false, []⟩, ⟨some 33, false, .bin .eql (.t 31) (.t 32), some (6, true), false, []⟩, ⟨some 34, false, .pick (.t 29) (.t 33) (.c (.bool false)), none, false, []⟩, ⟨some 4, false, .asg (.t 23), none, false, []⟩, ⟨some 5, true, .asg (.t 24), none, false, []⟩, ⟨some 6, false, .asg (.t 34), none, false, []⟩] [4, 5, 6] [5, 10]) .ret)))) }
noncomputable def impl_readNamed_D : List (Nat × Callee) := [(457, impl_ReadList_c), (523, strings_Cut_c)]
def impl_readNamed_H : List (Nat × ET) := [(5, (.one (.int .i64))), (10, (.one (.int .i64))), (21, (.one (.int .i64))), (24, (.one (.int .i64))), (30, (.one (.int .i64)))]
noncomputable def impl_readNamed_c : Callee := mkCallee impl_readNamed_D impl_readNamed_H impl_readNamed_ir [.d (.one .str), .d (.one (.int .i64))] [.d (.one .str), .d (.one (.sl (.one (.int .i64)))), .d (.one .bool)] []
noncomputable def impl_readNamed (a0 : List UInt8) (a1 : Int) : Option (List UInt8 × List Int × Bool) := impl_readNamed_c.f (a0, a1, ())
theorem impl_readNamed_eq (a0 : List UInt8) (a1 : Int) : impl_readNamed a0 a1 =
  (strings_Cut a0 [32]).bind fun x1 =>
   (impl_ReadList x1.2.1).bind fun x2 =>
    if x1.2.2 then
     if x2.2 then
      some (x1.1, (x2.1.take x2.1.length), ((x2.1.length : Int) == a1))
     else
      some (x1.1, (x2.1.take x2.1.length), false)
    else
     some (x1.1, (x2.1.take x2.1.length), false) :=
 (mk_f _ _ _ _ _ _ _ 4000).trans (by kernel_rfl)

/- impl.ReadPeg -/
def impl_ReadPeg_ir : Fn := { np := 1, io := [], res := [.cell 2 (some 4), .t 3], own := [false, false], body :=
 (.seq (.reg false [⟨some 2, true, .alloc 4 (.agg [.str [], .int .i64 0, .int .i64 0, .int .i64 0]), none, false, []⟩, ⟨some 3, false, .asg (.c (.bool false)), none, false, []⟩] [0, 2] [2]) (.seq (.reg false [⟨some 9, false, .mv (.t 0), none, false, []⟩, ⟨some 10, false, .call (.c (.fn 747 [])) [.t 9, .c (.int .i64 3)], none, false, []⟩, ⟨some 8, false, .mv (.t 10), none, false, []⟩, ⟨some 11, false, .ext (.t 8) 0, none, false, []⟩, ⟨some 12, false, .ext (.t 8) 1, none, false, []⟩, ⟨some 13, false, .ext (.t 8) 2, none, false, []⟩, ⟨some 4, false, .asg (.t 11), none, false, []⟩, ⟨some 5, true, .asg (.t 12), none, false, []⟩, ⟨some 6, false, .asg (.t 13), none, false, []⟩] [2, 4, 5, 6] [2, 5]) (.seq (.seq (.reg false [⟨some 14, false, .mv (.t 6), none, false, []⟩, ⟨some 15, false, .un .not (.t 14), none, false, []⟩] [2, 4, 5, 15] [2, 5]) (.cond (.t 15) (.seq (.reg false [⟨some 16, false, .build [.str [], .int .i64 0, .int .i64 0, .int .i64 0] [], none, false, []⟩, ⟨none, true, .sto 4 (.t 2) (.t 16), none, false, []⟩, ⟨some 3, false, .asg (.c (.bool false)), none, false, []⟩] [2, 3] [2]) .ret) .skip)) (.seq (.reg true [⟨some 17, false, .mv (.t 4), none, false, [7]⟩, ⟨some 18, false, .mv (.t 5), none, false, [7]⟩, ⟨some 19, false, .ia 1 (.t 18) (.c (.int .i64 0)), none, false, [7]⟩, ⟨some 20, false, .ld none (.t 19), none, false, [7]⟩, ⟨some 21, false, .mv (.t 5), none, false, [7]⟩, ⟨some 22, false, .ia 1 (.t 21) (.c (.int .i64 1)), none, false, [7]⟩, ⟨some 23, false, .ld none (.t 22), none, false, [7]⟩, ⟨some 24, false, .mv (.t 5), none, false, [7]⟩, ⟨some 25, false, .ia 1 (.t 24) (.c (.int .i64 2)), none, false, [7]⟩, ⟨some 26, false, .ld none (.t 25), none, false, [7]⟩, ⟨some 27, false, .build [.str [], .int .i64 0, .int .i64 0, .int .i64 0] [(0, 1, .t 17), (1, 1, .t 20), (2, 1, .t 23), (3, 1, .t 26)], none, false, [7]⟩, ⟨some 7, true, .alloc 4 (.agg [.str [], .int .i64 0, .int .i64 0, .int .i64 0]), none, false, []⟩, ⟨none, true, .sto 4 (.t 7) (.t 27), none, false, []⟩] [2, 7] [2, 7]) (.seq (.seq (.reg false [⟨some 28, false, .ld (some 4) (.t 7), none, false, []⟩, ⟨some 29, false, .call (.c (.fn 796 [])) [.t 28], none, false, []⟩, ⟨some 30, false, .un .not (.t 29), none, false, []⟩] [2, 7, 30] [2, 7]) (.cond (.t 30) (.seq (.reg false [⟨some 31, false, .build [.str [], .int .i64 0, .int .i64 0, .int .i64 0] [], none, false, []⟩, ⟨none, true, .sto 4 (.t 2) (.t 31), none, false, []⟩, ⟨some 3, false, .asg (.c (.bool false)), none, false, []⟩] [2, 3] [2]) .ret) .skip)) (.seq (.reg false [⟨some 32, false, .ld (some 4) (.t 7), none, false, []⟩, ⟨none, true, .sto 4 (.t 2) (.t 32), none, false, []⟩, ⟨some 3, false, .asg (.c (.bool true)), none, false, []⟩] [2, 3] [2]) .ret)))))) }
noncomputable def impl_ReadPeg_D : List (Nat × Callee) := [(747, impl_readNamed_c), (796, impl_Peg_valid_c)]
def impl_ReadPeg_H : List (Nat × ET) := [(5, (.one (.int .i64))), (12, (.one (.int .i64))), (18, (.one (.int .i64))), (21, (.one (.int .i64))), (24, (.one (.int .i64)))]
noncomputable def impl_ReadPeg_c : Callee := mkCallee impl_ReadPeg_D impl_ReadPeg_H impl_ReadPeg_ir [.d (.one .str)] [.d T_Peg, .d (.one .bool)] []
noncomputable def impl_ReadPeg (a0 : List UInt8) : Option (T_Peg.ty × Bool) := impl_ReadPeg_c.f (a0, ())
theorem impl_ReadPeg_eq (a0 : List UInt8) : impl_ReadPeg a0 =
  (impl_readNamed a0 3).bind fun x1 =>
   if (!x1.2.2) then
    some (([], 0, 0, 0, ()), false)
   else
    (x1.2.1[0]?).bind fun x2 =>
     (x1.2.1[1]?).bind fun x3 =>
      (x1.2.1[2]?).bind fun x4 =>
       (impl_Peg_valid (x1.1, x2, x3, x4, ())).bind fun x5 =>
        if (!x5) then
         some (([], 0, 0, 0, ()), false)
        else
         some ((x1.1, x2, x3, x4, ()), true) :=
 (mk_f _ _ _ _ _ _ _ 4000).trans (by kernel_rfl)

/- spec.l01List -/
def spec_l01List_k0 : C :=
 .reg false [⟨some 18, false, .mv (.t 3), none, false, []⟩, ⟨some 19, false, .mv (.t 0), none, false, []⟩, ⟨some 20, false, .mv (.t 4), none, false, []⟩, ⟨some 21, false, .ia 1 (.t 19) (.t 20), none, false, []⟩, ⟨some 22, false, .ld none (.t 21), none, false, []⟩, ⟨some 23, false, .call (.c (.fn 726 [])) [.t 22], none, false, []⟩, ⟨some 24, false, .bin .add (.t 18) (.t 23), none, false, []⟩, ⟨some 3, false, .asg (.t 24), none, false, []⟩] [0, 3, 4] []
def spec_l01List_k1 : C :=
 .reg false [⟨some 12, false, .mv (.t 4), none, false, []⟩, ⟨some 13, false, .bin .add (.t 12) (.c (.int .i64 1)), none, false, []⟩, ⟨some 4, false, .asg (.t 13), none, false, []⟩] [0, 3, 4] []
def spec_l01List_k2 : C :=
 .seq (.seq (.reg false [⟨some 8, false, .mv (.t 4), none, false, []⟩, ⟨some 9, false, .mv (.t 0), none, false, []⟩, ⟨some 10, false, .len (.t 9), none, false, []⟩, ⟨some 11, false, .bin .lss (.t 8) (.t 10), none, false, []⟩] [0, 3, 4, 11] []) (.cond (.t 11) .skip (.exit 0))) (.seq (.block 1 (.seq (.seq (.reg false [⟨some 14, false, .mv (.t 4), none, false, []⟩, ⟨some 15, false, .bin .gtr (.t 14) (.c (.int .i64 0)), none, false, []⟩] [0, 3, 4, 15] []) (.cond (.t 15) (.reg false [⟨some 16, false, .mv (.t 3), none, false, []⟩, ⟨some 17, false, .bin .add (.t 16) (.c (.str [44])), none, false, []⟩, ⟨some 3, false, .asg (.t 17), none, false, []⟩] [0, 3, 4] []) .skip)) (.norm [0, 3, 4] [] spec_l01List_k0))) spec_l01List_k1)
def spec_l01List_k3 : C :=
 .norm [0, 3, 4] [] spec_l01List_k2
def spec_l01List_k4 : C :=
 .seq (.reg false [⟨some 25, false, .mv (.t 3), none, false, []⟩, ⟨some 2, false, .asg (.t 25), none, false, []⟩] [2] []) .ret
def spec_l01List_ir : Fn := { np := 1, io := [], res := [.t 2], own := [false], body :=
 (.seq (.reg false [⟨some 2, false, .asg (.c (.str [])), none, false, []⟩] [0] []) (.seq (.seq (.reg false [⟨some 5, false, .mv (.t 0), none, false, []⟩, ⟨some 6, false, .len (.t 5), none, false, []⟩, ⟨some 7, false, .bin .eql (.t 6) (.c (.int .i64 0)), none, false, []⟩] [0, 7] []) (.cond (.t 7) (.seq (.reg false [⟨some 2, false, .asg (.c (.str [45])), none, false, []⟩] [2] []) .ret) .skip)) (.seq (.reg false [⟨some 3, false, .asg (.c (.str [])), none, false, []⟩] [0, 3] []) (.seq (.seq (.reg false [⟨some 4, false, .asg (.c (.int .i64 0)), none, false, []⟩] [0, 3, 4] []) (.block 0 (.loop spec_l01List_k3))) spec_l01List_k4)))) }
noncomputable def spec_l01List_D : List (Nat × Callee) := [(726, spec_l01Dec_c)]
def spec_l01List_H : List (Nat × ET) := [(5, (.one (.int .i64))), (9, (.one (.int .i64))), (19, (.one (.int .i64)))]
noncomputable def spec_l01List_c : Callee := mkCallee spec_l01List_D spec_l01List_H spec_l01List_ir [.d (.one (.sl (.one (.int .i64))))] [.d (.one .str)] []
noncomputable def spec_l01List (a0 : List Int) : Option (List UInt8) := spec_l01List_c.f (a0, ())
noncomputable def spec_l01List_p0  (v0 : List Int) (v3 : List UInt8) (v4 : Int) : Option (List UInt8) :=
 goL spec_l01List_D spec_l01List_H (vleave spec_l01List_ir [.d (.one (.sl (.one (.int .i64))))] [.d (.one .str)] [] []) [.c spec_l01List_k2, .l spec_l01List_k3, .e 0, .c spec_l01List_k4]
  ⟨[(0, .sl (.one (.int .i64)) v0), (3, .str v3), (4, .int .i64 v4)], []⟩
noncomputable def spec_l01List_p1  (v0 : List Int) (v3 : List UInt8) (v4 : Int) : Option (List UInt8) :=
 goL spec_l01List_D spec_l01List_H (vleave spec_l01List_ir [.d (.one (.sl (.one (.int .i64))))] [.d (.one .str)] [] []) [.c spec_l01List_k0, .e 1, .c spec_l01List_k1, .l spec_l01List_k3, .e 0, .c spec_l01List_k4]
  ⟨[(0, .sl (.one (.int .i64)) v0), (3, .str v3), (4, .int .i64 v4)], []⟩
theorem spec_l01List_eq (a0 : List Int) : spec_l01List a0 =
  if ((a0.length : Int) == 0) then
   some [45]
  else
   spec_l01List_p0 a0 [] 0 :=
 (mk_f _ _ _ _ _ _ _ 4000).trans (by kernel_rfl)
theorem spec_l01List_p0_eq  (v0 : List Int) (v3 : List UInt8) (v4 : Int) : spec_l01List_p0 v0 v3 v4 =
  if decide (v4 < (v0.length : Int)) then
   if decide (v4 > 0) then
    if decide (v3.length + [44].length ≤ strMax) then
     spec_l01List_p1 v0 (v3 ++ [44]) v4
    else
     none
   else
    spec_l01List_p1 v0 v3 v4
  else
   some v3 :=
 (goL_dn _ _ _ 4000 _ _).trans (by kernel_rfl)
theorem spec_l01List_p1_eq  (v0 : List Int) (v3 : List UInt8) (v4 : Int) : spec_l01List_p1 v0 v3 v4 =
  if decide (0 ≤ v4) then
   (v0[v4.toNat]?).bind fun x1 =>
    (spec_l01Dec x1).bind fun x2 =>
     if decide (v3.length + x2.length ≤ strMax) then
      spec_l01List_p0 v0 (v3 ++ x2) (IntKind.i64.wrap (v4 + 1))
     else
      none
  else
   none :=
 (goL_dn _ _ _ 4000 _ _).trans (by kernel_rfl)

/- spec.l12Text -/
def spec_l12Text_ir : Fn := { np := 1, io := [], res := [.t 2], own := [false], body :=
 (.seq (.reg false [⟨some 2, false, .asg (.c (.str [])), none, false, []⟩] [0] []) (.seq (.reg true [⟨some 3, false, .mv (.t 0), none, false, []⟩, ⟨some 4, false, .nilck (.t 3), none, false, []⟩, ⟨some 5, false, .fa 0 (.t 4), none, false, []⟩, ⟨some 6, false, .ld none (.t 5), none, false, []⟩, ⟨some 7, false, .bin .add (.t 6) (.c (.str [32])), none, false, []⟩, ⟨some 8, false, .mv (.t 0), none, false, []⟩, ⟨some 9, false, .nilck (.t 8), none, false, []⟩, ⟨some 10, false, .fa 1 (.t 9), none, false, []⟩, ⟨some 11, false, .ld none (.t 10), none, false, []⟩, ⟨some 12, false, .mv (.t 0), none, false, []⟩, ⟨some 13, false, .nilck (.t 12), none, false, []⟩, ⟨some 14, false, .fa 2 (.t 13), none, false, []⟩, ⟨some 15, false, .ld none (.t 14), none, false, []⟩, ⟨some 16, false, .mv (.t 0), none, false, []⟩, ⟨some 17, false, .nilck (.t 16), none, false, []⟩, ⟨some 18, false, .fa 3 (.t 17), none, false, []⟩, ⟨some 19, false, .ld none (.t 18), none, false, []⟩, ⟨some 20, false, .bsl 1 (.int .i64 0) 3 [(0, .t 11), (1, .t 15), (2, .t 19)], none, false, []⟩, ⟨some 21, false, .call (.c (.fn 963 [])) [.t 20], none, false, []⟩, ⟨some 22, false, .bin .add (.t 7) (.t 21), none, false, []⟩, ⟨some 2, false, .asg (.t 22), none, false, []⟩] [2] []) .ret)) }
noncomputable def spec_l12Text_D : List (Nat × Callee) := [(963, spec_l01List_c)]
def spec_l12Text_H : List (Nat × ET) := [(20, (.one (.int .i64)))]
noncomputable def spec_l12Text_c : Callee := mkCallee spec_l12Text_D spec_l12Text_H spec_l12Text_ir [.p T_Peg] [.d (.one .str)] []
noncomputable def spec_l12Text (a0 : T_Peg.ty) : Option (List UInt8) := spec_l12Text_c.f (a0, ())
theorem spec_l12Text_eq (a0 : T_Peg.ty) : spec_l12Text a0 =
  if decide (a0.1.length + [32].length ≤ strMax) then
   (spec_l01List [a0.2.1, a0.2.2.1, a0.2.2.2.1]).bind fun x1 =>
    if decide ((a0.1 ++ [32]).length + x1.length ≤ strMax) then
     some ((a0.1 ++ [32]) ++ x1)
    else
     none
  else
   none :=
 (mk_f _ _ _ _ _ _ _ 4000).trans (by kernel_rfl)

/- spec.PegText -/
def spec_PegText_ir : Fn := { np := 1, io := [], res := [.t 2], own := [false], body :=
 (.seq (.reg false [⟨some 1, true, .box 4 (.t 0), none, false, []⟩, ⟨some 2, false, .asg (.c (.str [])), none, false, []⟩] [1] [1]) (.seq (.seq (.reg false [⟨some 3, false, .call (.c (.fn 800 [])) [.t 1], none, false, []⟩, ⟨some 4, false, .un .not (.t 3), none, false, []⟩] [1, 4] [1]) (.cond (.t 4) (.seq (.reg false [⟨some 2, false, .asg (.c (.str [])), none, false, []⟩] [2] []) .ret) .skip)) (.seq (.reg false [⟨some 5, false, .call (.c (.fn 801 [])) [.t 1], none, false, []⟩, ⟨some 2, false, .asg (.t 5), none, false, []⟩] [2] []) .ret))) }
noncomputable def spec_PegText_D : List (Nat × Callee) := [(800, spec_l12One_c), (801, spec_l12Text_c)]
def spec_PegText_H : List (Nat × ET) := []
noncomputable def spec_PegText_c : Callee := mkCallee spec_PegText_D spec_PegText_H spec_PegText_ir [.d T_Peg] [.d (.one .str)] []
noncomputable def spec_PegText (a0 : T_Peg.ty) : Option (List UInt8) := spec_PegText_c.f (a0, ())
theorem spec_PegText_eq (a0 : T_Peg.ty) : spec_PegText a0 =
  (spec_l12One a0).bind fun x1 =>
   if (!x1) then
    some []
   else
    (spec_l12Text a0).bind fun x2 =>
     some x2 :=
 (mk_f _ _ _ _ _ _ _ 4000).trans (by kernel_rfl)

/- laws.FnPegs -/
def laws_FnPegs_k0 : C :=
 .seq (.reg true [⟨some 167, false, .mv (.t 15), none, false, []⟩, ⟨some 168, false, .mv (.t 18), none, false, []⟩, ⟨some 169, false, .mv (.t 20), none, false, []⟩, ⟨some 170, false, .ia 1 (.t 168) (.t 169), none, false, []⟩, ⟨some 171, false, .ld none (.t 170), none, false, []⟩, ⟨some 172, false, .ia 4 (.t 167) (.t 171), none, false, []⟩, ⟨some 173, false, .ld (some 4) (.t 172), none, false, []⟩, ⟨some 174, false, .mv (.t 16), none, false, []⟩, ⟨some 175, false, .mv (.t 20), none, false, []⟩, ⟨some 176, false, .ia 1 (.t 174) (.t 175), none, false, []⟩, ⟨some 177, false, .ld none (.t 176), none, false, []⟩, ⟨some 178, false, .call (.c (.fn 379 [])) [.t 173, .t 177], none, false, []⟩, ⟨some 166, false, .mv (.t 178), none, false, []⟩, ⟨some 179, false, .ext (.t 166) 0, none, false, []⟩, ⟨some 180, false, .ext (.t 166) 1, none, false, []⟩, ⟨some 21, false, .asg (.t 179), none, false, []⟩, ⟨some 22, false, .asg (.t 180), none, false, []⟩] [0, 1, 15, 16, 17, 18, 20, 21, 22] [15, 16, 18]) (.seq (.reg false [⟨some 181, false, .mv (.t 22), none, false, []⟩, ⟨some 182, false, .bin .neq (.t 181) (.c (.int .i64 0)), none, false, []⟩, ⟨some 183, false, .mv (.t 182), none, false, []⟩, ⟨some 184, false, .mv (.t 21), some (2, false), false, []⟩, ⟨some 185, false, .mv (.t 17), some (2, false), false, []⟩, ⟨some 186, false, .bin .gtr (.t 184) (.t 185), some (2, false), false, []⟩, ⟨some 187, false, .pick (.t 183) (.c (.bool true)) (.t 186), none, false, []⟩] [0, 1, 15, 16, 17, 18, 20, 187] [15, 16, 18]) (.cond (.t 187) (.seq (.reg false [⟨some 4, false, .asg (.c (.bool false)), none, false, []⟩] [4] []) .ret) .skip))
def laws_FnPegs_k1 : C :=
 .reg false [⟨some 140, false, .mv (.t 20), none, false, []⟩, ⟨some 141, false, .bin .add (.t 140) (.c (.int .i64 1)), none, false, []⟩, ⟨some 20, false, .asg (.t 141), none, false, []⟩] [0, 1, 15, 16, 17, 18, 20] [15, 16, 18]
def laws_FnPegs_k2 : C :=
 .seq (.seq (.reg false [⟨some 136, false, .mv (.t 20), none, false, []⟩, ⟨some 137, false, .mv (.t 18), none, false, []⟩, ⟨some 138, false, .len (.t 137), none, false, []⟩, ⟨some 139, false, .bin .lss (.t 136) (.t 138), none, false, []⟩] [0, 1, 15, 16, 17, 18, 20, 139] [15, 16, 18]) (.cond (.t 139) .skip (.exit 0))) (.seq (.block 1 (.seq (.seq (.reg true [⟨some 142, false, .mv (.t 18), none, false, []⟩, ⟨some 143, false, .mv (.t 20), none, false, []⟩, ⟨some 144, false, .ia 1 (.t 142) (.t 143), none, false, []⟩, ⟨some 145, false, .ld none (.t 144), none, false, []⟩, ⟨some 146, false, .bin .lss (.t 145) (.c (.int .i64 0)), none, false, []⟩, ⟨some 147, false, .mv (.t 146), none, false, []⟩, ⟨some 148, false, .mv (.t 18), some (5, false), false, []⟩, ⟨some 149, false, .mv (.t 20), some (5, false), false, []⟩, ⟨some 150, false, .ia 1 (.t 148) (.t 149), some (5, false), false, []⟩, ⟨some 151, false, .ld none (.t 150), some (5, false), false, []⟩, ⟨some 152, false, .mv (.t 15), some (5, false), false, []⟩, ⟨some 153, false, .len (.t 152), some (5, false), false, []⟩, ⟨some 154, false, .bin .geq (.t 151) (.t 153), some (5, false), false, []⟩, ⟨some 155, false, .pick (.t 147) (.c (.bool true)) (.t 154), none, false, []⟩, ⟨some 156, false, .mv (.t 155), none, false, []⟩, ⟨some 157, false, .mv (.t 18), some (14, false), false, []⟩, ⟨some 158, false, .mv (.t 20), some (14, false), false, []⟩, ⟨some 159, false, .slc 1 (.t 157) none (some (.t 158)), some (14, false), false, []⟩, ⟨some 160, false, .mv (.t 18), some (14, false), false, []⟩, ⟨some 161, false, .mv (.t 20), some (14, false), false, []⟩, ⟨some 162, false, .ia 1 (.t 160) (.t 161), some (14, false), false, []⟩, ⟨some 163, false, .ld none (.t 162), some (14, false), false, []⟩, ⟨some 164, false, .call (.c (.fn 69 [])) [.t 159, .t 163], some (14, false), false, []⟩, ⟨some 165, false, .pick (.t 156) (.c (.bool true)) (.t 164), none, false, []⟩] [0, 1, 15, 16, 17, 18, 20, 165] [15, 16, 18]) (.cond (.t 165) (.seq (.reg false [⟨some 4, false, .asg (.c (.bool false)), none, false, []⟩] [4] []) .ret) .skip)) (.norm [0, 1, 15, 16, 17, 18, 20] [15, 16, 18] laws_FnPegs_k0))) laws_FnPegs_k1)
def laws_FnPegs_k3 : C :=
 .norm [0, 1, 15, 16, 17, 18, 20] [15, 16, 18] laws_FnPegs_k2
def laws_FnPegs_k4 : C :=
 .seq (.reg false [⟨some 249, false, .mv (.t 1), none, false, []⟩, ⟨some 250, false, .call (.c (.fn 378 [])) [.t 249], none, false, []⟩, ⟨some 32, true, .alloc 4 (.agg [.str [], .int .i64 0, .int .i64 0, .int .i64 0]), none, false, []⟩, ⟨none, true, .sto 4 (.t 32) (.t 250), none, false, []⟩] [32] [32]) (.seq (.reg false [⟨some 251, false, .ld (some 4) (.t 32), none, false, []⟩, ⟨some 252, false, .call (.c (.fn 377 [])) [.t 251], none, false, []⟩, ⟨some 33, false, .asg (.t 252), none, false, []⟩] [32, 33] [32]) (.seq (.reg false [⟨some 254, false, .mv (.t 33), none, false, []⟩, ⟨some 255, false, .call (.c (.fn 376 [])) [.t 254], none, false, []⟩, ⟨some 253, false, .mv (.t 255), none, false, []⟩, ⟨some 256, false, .ext (.t 253) 0, none, false, []⟩, ⟨some 257, false, .ext (.t 253) 1, none, false, []⟩, ⟨some 34, true, .alloc 4 (.agg [.str [], .int .i64 0, .int .i64 0, .int .i64 0]), none, false, []⟩, ⟨none, true, .sto 4 (.t 34) (.t 256), none, false, []⟩, ⟨some 35, false, .asg (.t 257), none, false, []⟩] [32, 33, 34, 35] [32, 34]) (.seq (.reg false [⟨some 258, false, .mv (.t 33), none, false, []⟩, ⟨some 259, false, .bin .eql (.t 258) (.c (.str [])), none, false, []⟩, ⟨some 260, false, .ld (some 4) (.t 32), none, false, []⟩, ⟨some 261, false, .call (.c (.fn 375 [])) [.t 260], none, false, []⟩, ⟨some 262, false, .bin .eql (.t 261) (.c (.str [])), none, false, []⟩, ⟨some 263, false, .eqb false (.t 259) (.t 262), none, false, []⟩, ⟨some 264, false, .mv (.t 263), none, false, []⟩, ⟨some 265, false, .mv (.t 33), some (6, true), false, []⟩, ⟨some 266, false, .bin .eql (.t 265) (.c (.str [])), some (6, true), false, []⟩, ⟨some 267, false, .mv (.t 35), some (6, true), false, []⟩, ⟨some 268, false, .eqb true (.t 266) (.t 267), some (6, true), false, []⟩, ⟨some 269, false, .pick (.t 264) (.t 268) (.c (.bool false)), none, false, []⟩, ⟨some 270, false, .mv (.t 269), none, false, []⟩, ⟨some 271, false, .mv (.t 35), some (12, true), false, []⟩, ⟨some 272, false, .un .not (.t 271), some (12, true), false, []⟩, ⟨some 273, false, .mv (.t 272), some (12, true), false, []⟩, ⟨some 274, false, .ld (some 4) (.t 34), some (15, false), false, []⟩, ⟨some 275, false, .ld (some 4) (.t 32), some (15, false), false, []⟩, ⟨some 276, false, .eqs false [.s, .i, .i, .i] (.t 274) (.t 275), some (15, false), false, []⟩, ⟨some 277, false, .pick (.t 273) (.c (.bool true)) (.t 276), some (12, true), false, []⟩, ⟨some 278, false, .pick (.t 270) (.t 277) (.c (.bool false)), none, false, []⟩, ⟨some 4, false, .asg (.t 278), none, false, []⟩] [4] []) .ret)))
def laws_FnPegs_k5 : C :=
 .seq (.reg false [⟨some 192, false, .mv (.t 0), none, false, []⟩, ⟨some 193, false, .call (.c (.fn 381 [])) [.t 192], none, false, []⟩, ⟨some 191, false, .mv (.t 193), none, false, []⟩, ⟨some 194, false, .ext (.t 191) 0, none, false, []⟩, ⟨some 195, false, .ext (.t 191) 1, none, false, []⟩, ⟨some 196, false, .ext (.t 191) 2, none, false, []⟩, ⟨some 24, true, .alloc 4 (.agg [.str [], .int .i64 0, .int .i64 0, .int .i64 0]), none, false, []⟩, ⟨some 23, false, .asg (.t 194), none, false, []⟩, ⟨none, true, .sto 4 (.t 24) (.t 195), none, false, []⟩, ⟨some 25, false, .asg (.t 196), none, false, []⟩] [1, 23, 24, 25] [24]) (.seq (.reg false [⟨some 198, false, .mv (.t 23), none, false, []⟩, ⟨some 199, false, .ld (some 4) (.t 24), none, false, []⟩, ⟨some 200, false, .mv (.t 25), none, false, []⟩, ⟨some 201, false, .call (.c (.fn 380 [])) [.t 198, .t 199, .t 200], none, false, []⟩, ⟨some 197, false, .mv (.t 201), none, false, []⟩, ⟨some 202, false, .ext (.t 197) 0, none, false, []⟩, ⟨some 203, false, .ext (.t 197) 1, none, false, []⟩, ⟨some 26, false, .asg (.t 202), none, false, []⟩, ⟨some 27, false, .asg (.t 203), none, false, []⟩] [1, 23, 24, 25, 26, 27] [24]) (.seq (.seq (.reg false [⟨some 204, false, .mv (.t 27), none, false, []⟩, ⟨some 205, false, .bin .eql (.t 204) (.c (.int .i64 0)), none, false, []⟩] [1, 23, 24, 25, 26, 205] [24]) (.cond (.t 205) (.seq (.reg false [⟨some 207, false, .ld (some 4) (.t 24), none, false, []⟩, ⟨some 208, false, .mv (.t 23), none, false, []⟩, ⟨some 209, false, .mv (.t 26), none, false, []⟩, ⟨some 210, false, .bin .add (.t 208) (.t 209), none, false, []⟩, ⟨some 211, false, .call (.c (.fn 379 [])) [.t 207, .t 210], none, false, []⟩, ⟨some 206, false, .mv (.t 211), none, false, []⟩, ⟨some 212, false, .ext (.t 206) 0, none, false, []⟩, ⟨some 213, false, .ext (.t 206) 1, none, false, []⟩, ⟨some 28, false, .asg (.t 212), none, false, []⟩, ⟨some 29, false, .asg (.t 213), none, false, []⟩] [1, 23, 24, 25, 26, 28, 29] [24]) (.seq (.reg false [⟨some 215, false, .ld (some 4) (.t 24), none, false, []⟩, ⟨some 216, false, .mv (.t 23), none, false, []⟩, ⟨some 217, false, .mv (.t 26), none, false, []⟩, ⟨some 218, false, .bin .add (.t 216) (.t 217), none, false, []⟩, ⟨some 219, false, .bin .sub (.t 218) (.c (.int .i64 1)), none, false, []⟩, ⟨some 220, false, .call (.c (.fn 379 [])) [.t 215, .t 219], none, false, []⟩, ⟨some 214, false, .mv (.t 220), none, false, []⟩, ⟨some 221, false, .ext (.t 214) 0, none, false, []⟩, ⟨some 222, false, .ext (.t 214) 1, none, false, []⟩, ⟨some 30, false, .asg (.t 221), none, false, []⟩, ⟨some 31, false, .asg (.t 222), none, false, []⟩] [1, 25, 26, 28, 29, 30, 31] []) (.seq (.reg false [⟨some 223, false, .mv (.t 26), none, false, []⟩, ⟨some 224, false, .bin .lss (.t 223) (.c (.int .i64 0)), none, false, []⟩, ⟨some 225, false, .mv (.t 224), none, false, []⟩, ⟨some 226, false, .mv (.t 29), some (2, false), false, []⟩, ⟨some 227, false, .bin .neq (.t 226) (.c (.int .i64 0)), some (2, false), false, []⟩, ⟨some 228, false, .pick (.t 225) (.c (.bool true)) (.t 227), none, false, []⟩, ⟨some 229, false, .mv (.t 228), none, false, []⟩, ⟨some 230, false, .mv (.t 28), some (6, false), false, []⟩, ⟨some 231, false, .mv (.t 25), some (6, false), false, []⟩, ⟨some 232, false, .bin .lss (.t 230) (.t 231), some (6, false), false, []⟩, ⟨some 233, false, .pick (.t 229) (.c (.bool true)) (.t 232), none, false, []⟩, ⟨some 234, false, .mv (.t 233), none, false, []⟩, ⟨some 235, false, .mv (.t 26), some (11, false), false, []⟩, ⟨some 236, false, .bin .gtr (.t 235) (.c (.int .i64 0)), some (11, false), false, []⟩, ⟨some 237, false, .mv (.t 236), some (11, false), false, []⟩, ⟨some 238, false, .mv (.t 31), some (14, true), false, []⟩, ⟨some 239, false, .bin .neq (.t 238) (.c (.int .i64 0)), some (14, true), false, []⟩, ⟨some 240, false, .mv (.t 239), some (14, true), false, []⟩, ⟨some 241, false, .mv (.t 30), some (17, false), false, []⟩, ⟨some 242, false, .mv (.t 25), some (17, false), false, []⟩, ⟨some 243, false, .bin .geq (.t 241) (.t 242), some (17, false), false, []⟩, ⟨some 244, false, .pick (.t 240) (.c (.bool true)) (.t 243), some (14, true), false, []⟩, ⟨some 245, false, .pick (.t 237) (.t 244) (.c (.bool false)), some (11, false), false, []⟩, ⟨some 246, false, .pick (.t 234) (.c (.bool true)) (.t 245), none, false, []⟩] [1, 246] []) (.cond (.t 246) (.seq (.reg false [⟨some 4, false, .asg (.c (.bool false)), none, false, []⟩] [4] []) .ret) .skip)))) (.seq (.reg false [⟨some 247, false, .mv (.t 26), none, false, []⟩, ⟨some 248, false, .bin .neq (.t 247) (.c (.int .i64 0)), none, false, []⟩] [1, 248] []) (.cond (.t 248) (.seq (.reg false [⟨some 4, false, .asg (.c (.bool false)), none, false, []⟩] [4] []) .ret) .skip)))) (.norm [1] [] laws_FnPegs_k4)))
def laws_FnPegs_k6 : C :=
 .norm [0, 1] [] laws_FnPegs_k5
def laws_FnPegs_k7 : C :=
 .seq (.reg false [⟨some 117, false, .mv (.t 1), none, false, []⟩, ⟨some 118, false, .call (.c (.fn 382 [])) [.t 117], none, false, []⟩, ⟨some 116, false, .mv (.t 118), none, false, []⟩, ⟨some 119, false, .ext (.t 116) 0, none, false, []⟩, ⟨some 120, false, .ext (.t 116) 1, none, false, []⟩, ⟨some 121, false, .ext (.t 116) 2, none, false, []⟩, ⟨some 15, true, .asg (.t 119), none, false, []⟩, ⟨some 16, true, .asg (.t 120), none, false, []⟩, ⟨some 17, false, .asg (.t 121), none, false, []⟩] [0, 1, 15, 16, 17] [15, 16]) (.seq (.reg false [⟨some 123, false, .mv (.t 15), none, false, []⟩, ⟨some 124, false, .mv (.t 16), none, false, []⟩, ⟨some 125, false, .mv (.t 17), none, false, []⟩, ⟨some 126, true, .call (.c (.fn 122 [])) [.t 123, .t 124, .t 125], none, false, []⟩, ⟨some 122, false, .mv (.t 126), none, false, []⟩, ⟨some 127, false, .ext (.t 122) 0, none, false, []⟩, ⟨some 128, false, .ext (.t 122) 1, none, false, []⟩, ⟨some 18, true, .asg (.t 127), none, false, []⟩, ⟨some 19, false, .asg (.t 128), none, false, []⟩] [0, 1, 15, 16, 17, 18, 19] [15, 16, 18]) (.seq (.seq (.reg false [⟨some 129, false, .mv (.t 19), none, false, []⟩, ⟨some 130, false, .bin .eql (.t 129) (.c (.int .i64 0)), none, false, []⟩] [0, 1, 15, 16, 17, 18, 130] [15, 16, 18]) (.cond (.t 130) (.seq (.seq (.reg false [⟨some 131, false, .mv (.t 18), none, false, []⟩, ⟨some 132, false, .len (.t 131), none, false, []⟩, ⟨some 133, false, .mv (.t 16), none, false, []⟩, ⟨some 134, false, .len (.t 133), none, false, []⟩, ⟨some 135, false, .bin .neq (.t 132) (.t 134), none, false, []⟩] [0, 1, 15, 16, 17, 18, 135] [15, 16, 18]) (.cond (.t 135) (.seq (.reg false [⟨some 4, false, .asg (.c (.bool false)), none, false, []⟩] [4] []) .ret) .skip)) (.seq (.reg false [⟨some 20, false, .asg (.c (.int .i64 0)), none, false, []⟩] [0, 1, 15, 16, 17, 18, 20] [15, 16, 18]) (.block 0 (.loop laws_FnPegs_k3)))) (.seq (.reg false [⟨some 188, false, .mv (.t 18), none, false, []⟩, ⟨some 189, false, .len (.t 188), none, false, []⟩, ⟨some 190, false, .bin .neq (.t 189) (.c (.int .i64 0)), none, false, []⟩] [0, 1, 190] []) (.cond (.t 190) (.seq (.reg false [⟨some 4, false, .asg (.c (.bool false)), none, false, []⟩] [4] []) .ret) .skip)))) laws_FnPegs_k6))
def laws_FnPegs_k8 : C :=
 .seq (.reg false [⟨some 43, false, .mv (.t 0), none, false, []⟩, ⟨some 44, false, .call (.c (.fn 386 [])) [.t 43], none, false, []⟩, ⟨some 42, false, .mv (.t 44), none, false, []⟩, ⟨some 45, false, .ext (.t 42) 0, none, false, []⟩, ⟨some 46, false, .ext (.t 42) 1, none, false, []⟩, ⟨some 5, true, .alloc 4 (.agg [.str [], .int .i64 0, .int .i64 0, .int .i64 0]), none, false, []⟩, ⟨none, true, .sto 4 (.t 5) (.t 45), none, false, []⟩, ⟨some 6, false, .asg (.t 46), none, false, []⟩] [0, 1, 5, 6] [5]) (.seq (.reg false [⟨some 48, false, .ld (some 4) (.t 5), none, false, []⟩, ⟨some 49, false, .mv (.t 6), none, false, []⟩, ⟨some 50, false, .call (.c (.fn 385 [])) [.t 48, .t 49], none, false, []⟩, ⟨some 47, false, .mv (.t 50), none, false, []⟩, ⟨some 51, false, .ext (.t 47) 0, none, false, []⟩, ⟨some 52, false, .ext (.t 47) 1, none, false, []⟩, ⟨some 7, false, .asg (.t 51), none, false, []⟩, ⟨some 8, false, .asg (.t 52), none, false, []⟩] [0, 1, 5, 6, 7, 8] [5]) (.seq (.seq (.reg false [⟨some 53, false, .mv (.t 8), none, false, []⟩, ⟨some 54, false, .bin .eql (.t 53) (.c (.int .i64 0)), none, false, []⟩] [0, 1, 5, 6, 7, 54] [5]) (.cond (.t 54) (.seq (.reg false [⟨some 56, false, .ld (some 4) (.t 5), none, false, []⟩, ⟨some 57, false, .mv (.t 7), none, false, []⟩, ⟨some 58, false, .call (.c (.fn 384 [])) [.t 56, .t 57], none, false, []⟩, ⟨some 55, false, .mv (.t 58), none, false, []⟩, ⟨some 59, false, .ext (.t 55) 0, none, false, []⟩, ⟨some 60, false, .ext (.t 55) 1, none, false, []⟩, ⟨some 9, false, .asg (.t 59), none, false, []⟩, ⟨some 10, false, .asg (.t 60), none, false, []⟩] [0, 1, 5, 6, 7, 9, 10] [5]) (.seq (.reg false [⟨some 62, false, .ld (some 4) (.t 5), none, false, []⟩, ⟨some 63, false, .mv (.t 7), none, false, []⟩, ⟨some 64, false, .bin .sub (.t 63) (.c (.int .i64 1)), none, false, []⟩, ⟨some 65, false, .call (.c (.fn 384 [])) [.t 62, .t 64], none, false, []⟩, ⟨some 61, false, .mv (.t 65), none, false, []⟩, ⟨some 66, false, .ext (.t 61) 0, none, false, []⟩, ⟨some 67, false, .ext (.t 61) 1, none, false, []⟩, ⟨some 11, false, .asg (.t 66), none, false, []⟩, ⟨some 12, false, .asg (.t 67), none, false, []⟩] [0, 1, 5, 6, 7, 9, 10, 11, 12] [5]) (.seq (.reg false [⟨some 69, false, .ld (some 4) (.t 5), none, false, []⟩, ⟨some 70, false, .mv (.t 6), none, false, []⟩, ⟨some 71, false, .call (.c (.fn 383 [])) [.t 69, .t 70, .c (.int .i64 10)], none, false, []⟩, ⟨some 68, false, .mv (.t 71), none, false, []⟩, ⟨some 72, false, .ext (.t 68) 0, none, false, []⟩, ⟨some 73, false, .ext (.t 68) 1, none, false, []⟩, ⟨some 13, false, .asg (.t 72), none, false, []⟩, ⟨some 14, false, .asg (.t 73), none, false, []⟩] [0, 1, 5, 6, 7, 9, 10, 11, 12, 13, 14] [5]) (.seq (.reg false [⟨some 74, false, .mv (.t 10), none, false, []⟩, ⟨some 75, false, .bin .neq (.t 74) (.c (.int .i64 0)), none, false, []⟩, ⟨some 76, false, .mv (.t 75), none, false, []⟩, ⟨some 77, false, .mv (.t 9), some (2, false), false, []⟩, ⟨some 78, false, .mv (.t 6), some (2, false), false, []⟩, ⟨some 79, false, .bin .lss (.t 77) (.t 78), some (2, false), false, []⟩, ⟨some 80, false, .pick (.t 76) (.c (.bool true)) (.t 79), none, false, []⟩, ⟨some 81, false, .mv (.t 80), none, false, []⟩, ⟨some 82, false, .mv (.t 7), some (7, false), false, []⟩, ⟨some 83, false, .bin .lss (.t 82) (.c (.int .i64 0)), some (7, false), false, []⟩, ⟨some 84, false, .pick (.t 81) (.c (.bool true)) (.t 83), none, false, []⟩, ⟨some 85, false, .mv (.t 84), none, false, []⟩, ⟨some 86, false, .mv (.t 7), some (11, false), false, []⟩, ⟨some 87, false, .fa 2 (.t 5), some (11, false), false, []⟩, ⟨some 88, false, .ld none (.t 87), some (11, false), false, []⟩, ⟨some 89, false, .bin .gtr (.t 86) (.t 88), some (11, false), false, []⟩, ⟨some 90, false, .pick (.t 85) (.c (.bool true)) (.t 89), none, false, []⟩, ⟨some 91, false, .mv (.t 90), none, false, []⟩, ⟨some 92, false, .mv (.t 12), some (17, false), false, []⟩, ⟨some 93, false, .bin .eql (.t 92) (.c (.int .i64 0)), some (17, false), false, []⟩, ⟨some 94, false, .mv (.t 93), some (17, false), false, []⟩, ⟨some 95, false, .mv (.t 11), some (20, true), false, []⟩, ⟨some 96, false, .mv (.t 6), some (20, true), false, []⟩, ⟨some 97, false, .bin .geq (.t 95) (.t 96), some (20, true), false, []⟩, ⟨some 98, false, .pick (.t 94) (.t 97) (.c (.bool false)), some (17, false), false, []⟩, ⟨some 99, false, .pick (.t 91) (.c (.bool true)) (.t 98), none, false, []⟩, ⟨some 100, false, .mv (.t 99), none, false, []⟩, ⟨some 101, false, .mv (.t 14), some (26, false), false, []⟩, ⟨some 102, false, .bin .neq (.t 101) (.c (.int .i64 0)), some (26, false), false, []⟩, ⟨some 103, false, .pick (.t 100) (.c (.bool true)) (.t 102), none, false, []⟩, ⟨some 104, false, .mv (.t 103), none, false, []⟩, ⟨some 105, false, .mv (.t 9), some (30, false), false, []⟩, ⟨some 106, false, .bin .mul (.c (.int .i64 3142)) (.t 105), some (30, false), false, []⟩, ⟨some 107, false, .mv (.t 13), some (30, false), false, []⟩, ⟨some 108, false, .bin .mul (.t 106) (.t 107), some (30, false), false, []⟩, ⟨some 109, false, .bin .sub (.t 108) (.c (.int .i64 3600000)), some (30, false), false, []⟩, ⟨some 110, false, .call (.c (.fn 66 [])) [.t 109], some (30, false), false, []⟩, ⟨some 111, false, .bin .mul (.c (.int .i64 2)) (.t 110), some (30, false), false, []⟩, ⟨some 112, false, .mv (.t 9), some (30, false), false, []⟩, ⟨some 113, false, .bin .mul (.c (.int .i64 3142)) (.t 112), some (30, false), false, []⟩, ⟨some 114, false, .bin .gtr (.t 111) (.t 113), some (30, false), false, []⟩, ⟨some 115, false, .pick (.t 104) (.c (.bool true)) (.t 114), none, false, []⟩] [0, 1, 115] []) (.cond (.t 115) (.seq (.reg false [⟨some 4, false, .asg (.c (.bool false)), none, false, []⟩] [4] []) .ret) .skip))))) .skip)) (.norm [0, 1] [] laws_FnPegs_k7)))
def laws_FnPegs_ir : Fn := { np := 2, io := [], res := [.t 4], own := [false], body :=
 (.seq (.reg false [⟨some 4, false, .asg (.c (.bool false)), none, false, []⟩] [0, 1] []) (.seq (.seq (.reg false [⟨some 36, false, .mv (.t 0), none, false, []⟩, ⟨some 37, false, .call (.c (.fn 76 [])) [.t 36], none, false, []⟩, ⟨some 38, false, .mv (.t 37), none, false, []⟩, ⟨some 39, false, .mv (.t 1), some (2, false), false, []⟩, ⟨some 40, false, .call (.c (.fn 76 [])) [.t 39], some (2, false), false, []⟩, ⟨some 41, false, .pick (.t 38) (.c (.bool true)) (.t 40), none, false, []⟩] [0, 1, 41] []) (.cond (.t 41) (.seq (.reg false [⟨some 4, false, .asg (.c (.bool true)), none, false, []⟩] [4] []) .ret) .skip)) (.norm [0, 1] [] laws_FnPegs_k8))) }
noncomputable def laws_FnPegs_D : List (Nat × Callee) := [(66, laws_b10Abs_c), (69, laws_b10Has_c), (76, laws_b10Long_c), (122, impl_FitPegs_c), (375, spec_PegText_c), (376, impl_ReadPeg_c), (377, impl_PegText_c), (378, spec_DrawPegText_c), (379, spec_WayIn_c), (380, impl_ReamTo_c), (381, spec_DrawReamTo_c), (382, spec_DrawFitPegs_c), (383, impl_TurnFor_c), (384, impl_PegAt_c), (385, impl_WayIn_c), (386, spec_DrawWayIn_c)]
def laws_FnPegs_H : List (Nat × ET) := [(15, T_Peg), (16, (.one (.int .i64))), (18, (.one (.int .i64))), (36, (.one (.int .u8))), (39, (.one (.int .u8))), (43, (.one (.int .u8))), (117, (.one (.int .u8))), (119, T_Peg), (120, (.one (.int .i64))), (123, T_Peg), (124, (.one (.int .i64))), (127, (.one (.int .i64))), (131, (.one (.int .i64))), (133, (.one (.int .i64))), (137, (.one (.int .i64))), (142, (.one (.int .i64))), (148, (.one (.int .i64))), (152, T_Peg), (157, (.one (.int .i64))), (159, (.one (.int .i64))), (160, (.one (.int .i64))), (167, T_Peg), (168, (.one (.int .i64))), (174, (.one (.int .i64))), (188, (.one (.int .i64))), (192, (.one (.int .u8))), (249, (.one (.int .u8)))]
noncomputable def laws_FnPegs_c : Callee := mkCallee laws_FnPegs_D laws_FnPegs_H laws_FnPegs_ir [.d (.one (.sl (.one (.int .u8)))), .d (.one (.sl (.one (.int .u8))))] [.d (.one .bool)] []
noncomputable def laws_FnPegs (a0 : List Int) (a1 : List Int) : Option (Bool) := laws_FnPegs_c.f (a0, a1, ())
noncomputable def laws_FnPegs_p0  (v0 : List Int) (v1 : List Int) : Option (Bool) :=
 goL laws_FnPegs_D laws_FnPegs_H (vleave laws_FnPegs_ir [.d (.one (.sl (.one (.int .u8)))), .d (.one (.sl (.one (.int .u8))))] [.d (.one .bool)] [] []) [.c laws_FnPegs_k8]
  ⟨[(0, .sl (.one (.int .u8)) v0), (1, .sl (.one (.int .u8)) v1)], []⟩
noncomputable def laws_FnPegs_p1  (v0 : List Int) (v1 : List Int) : Option (Bool) :=
 goL laws_FnPegs_D laws_FnPegs_H (vleave laws_FnPegs_ir [.d (.one (.sl (.one (.int .u8)))), .d (.one (.sl (.one (.int .u8))))] [.d (.one .bool)] [] []) [.c laws_FnPegs_k7]
  ⟨[(0, .sl (.one (.int .u8)) v0), (1, .sl (.one (.int .u8)) v1)], []⟩
noncomputable def laws_FnPegs_p2  (v0 : List Int) (v1 : List Int) (v15 : List T_Peg.ty) (v16 : List Int) (v17 : Int) (v18 : List Int) (v20 : Int) : Option (Bool) :=
 goL laws_FnPegs_D laws_FnPegs_H (vleave laws_FnPegs_ir [.d (.one (.sl (.one (.int .u8)))), .d (.one (.sl (.one (.int .u8))))] [.d (.one .bool)] [] []) [.c laws_FnPegs_k2, .l laws_FnPegs_k3, .e 0, .c laws_FnPegs_k6]
  ⟨[(0, .sl (.one (.int .u8)) v0), (1, .sl (.one (.int .u8)) v1), (15, .sl T_Peg v15), (16, .sl (.one (.int .i64)) v16), (17, .int .i64 v17), (18, .sl (.one (.int .i64)) v18), (20, .int .i64 v20)], [(15, none), (16, none), (18, none)]⟩
noncomputable def laws_FnPegs_p3  (v0 : List Int) (v1 : List Int) : Option (Bool) :=
 goL laws_FnPegs_D laws_FnPegs_H (vleave laws_FnPegs_ir [.d (.one (.sl (.one (.int .u8)))), .d (.one (.sl (.one (.int .u8))))] [.d (.one .bool)] [] []) [.c laws_FnPegs_k5]
  ⟨[(0, .sl (.one (.int .u8)) v0), (1, .sl (.one (.int .u8)) v1)], []⟩
noncomputable def laws_FnPegs_p4  (v0 : List Int) (v1 : List Int) (v15 : List T_Peg.ty) (v16 : List Int) (v17 : Int) (v18 : List Int) (v20 : Int) : Option (Bool) :=
 goL laws_FnPegs_D laws_FnPegs_H (vleave laws_FnPegs_ir [.d (.one (.sl (.one (.int .u8)))), .d (.one (.sl (.one (.int .u8))))] [.d (.one .bool)] [] []) [.c laws_FnPegs_k0, .e 1, .c laws_FnPegs_k1, .l laws_FnPegs_k3, .e 0, .c laws_FnPegs_k6]
  ⟨[(0, .sl (.one (.int .u8)) v0), (1, .sl (.one (.int .u8)) v1), (15, .sl T_Peg v15), (16, .sl (.one (.int .i64)) v16), (17, .int .i64 v17), (18, .sl (.one (.int .i64)) v18), (20, .int .i64 v20)], [(15, none), (16, none), (18, none)]⟩
noncomputable def laws_FnPegs_p5  (v1 : List Int) : Option (Bool) :=
 goL laws_FnPegs_D laws_FnPegs_H (vleave laws_FnPegs_ir [.d (.one (.sl (.one (.int .u8)))), .d (.one (.sl (.one (.int .u8))))] [.d (.one .bool)] [] []) [.c laws_FnPegs_k4]
  ⟨[(1, .sl (.one (.int .u8)) v1)], []⟩
theorem laws_FnPegs_eq (a0 : List Int) (a1 : List Int) : laws_FnPegs a0 a1 =
  (laws_b10Long a0).bind fun x1 =>
   if x1 then
    some true
   else
    (laws_b10Long a1).bind fun x2 =>
     if x2 then
      some true
     else
      laws_FnPegs_p0 a0 a1 :=
 (mk_f _ _ _ _ _ _ _ 4000).trans (by kernel_rfl)
theorem laws_FnPegs_p0_eq  (v0 : List Int) (v1 : List Int) : laws_FnPegs_p0 v0 v1 =
  (spec_DrawWayIn v0).bind fun x1 =>
   (impl_WayIn (x1.1.1, x1.1.2.1, x1.1.2.2.1, x1.1.2.2.2.1, ()) x1.2).bind fun x2 =>
    if (x2.2 == 0) then
     (impl_PegAt (x1.1.1, x1.1.2.1, x1.1.2.2.1, x1.1.2.2.2.1, ()) x2.1).bind fun x3 =>
      (impl_PegAt (x1.1.1, x1.1.2.1, x1.1.2.2.1, x1.1.2.2.2.1, ()) (IntKind.i64.wrap (x2.1 - 1))).bind fun x4 =>
       (impl_TurnFor (x1.1.1, x1.1.2.1, x1.1.2.2.1, x1.1.2.2.2.1, ()) x1.2 10).bind fun x5 =>
        if (x3.2 != 0) then
         some false
        else
         if decide (x3.1 < x1.2) then
          some false
         else
          if decide (x2.1 < 0) then
           some false
          else
           if decide (x2.1 > x1.1.2.2.1) then
            some false
           else
            if (x4.2 == 0) then
             if decide (x4.1 ≥ x1.2) then
              some false
             else
              if (x5.2 != 0) then
               some false
              else
               (laws_b10Abs (IntKind.i64.wrap ((IntKind.i64.wrap ((IntKind.i64.wrap (3142 * x3.1)) * x5.1)) - 3600000))).bind fun x6 =>
                if decide (IntKind.i64.wrap (2 * x6) > IntKind.i64.wrap (3142 * x3.1)) then
                 some false
                else
                 laws_FnPegs_p1 v0 v1
            else
             if (x5.2 != 0) then
              some false
             else
              (laws_b10Abs (IntKind.i64.wrap ((IntKind.i64.wrap ((IntKind.i64.wrap (3142 * x3.1)) * x5.1)) - 3600000))).bind fun x7 =>
               if decide (IntKind.i64.wrap (2 * x7) > IntKind.i64.wrap (3142 * x3.1)) then
                some false
               else
                laws_FnPegs_p1 v0 v1
    else
     laws_FnPegs_p1 v0 v1 :=
 (goL_dn _ _ _ 4000 _ _).trans (by kernel_rfl)
theorem laws_FnPegs_p1_eq  (v0 : List Int) (v1 : List Int) : laws_FnPegs_p1 v0 v1 =
  (spec_DrawFitPegs v1).bind fun x1 =>
   (impl_FitPegs (x1.1.take x1.1.length) (x1.2.1.take x1.2.1.length) x1.2.2).bind fun x2 =>
    if (x2.2 == 0) then
     if ((x2.1.length : Int) != ((x1.2.1.take x1.2.1.length).length : Int)) then
      some false
     else
      laws_FnPegs_p2 v0 v1 (x1.1.take x1.1.length) (x1.2.1.take x1.2.1.length) x1.2.2 x2.1 0
    else
     if ((x2.1.length : Int) != 0) then
      some false
     else
      laws_FnPegs_p3 v0 v1 :=
 (goL_dn _ _ _ 4000 _ _).trans (by kernel_rfl)
theorem laws_FnPegs_p2_eq  (v0 : List Int) (v1 : List Int) (v15 : List T_Peg.ty) (v16 : List Int) (v17 : Int) (v18 : List Int) (v20 : Int) : laws_FnPegs_p2 v0 v1 v15 v16 v17 v18 v20 =
  if decide (v20 < (v18.length : Int)) then
   if decide (0 ≤ v20) then
    (v18[v20.toNat]?).bind fun x1 =>
     if decide (x1 < 0) then
      some false
     else
      if decide (0 ≤ v20) then
       (v18[v20.toNat]?).bind fun x2 =>
        if decide (x2 ≥ (v15.length : Int)) then
         some false
        else
         if decide (0 ≤ v20) && decide (v20 ≤ (v18.length : Int)) then
          if decide (0 ≤ v20) then
           (v18[v20.toNat]?).bind fun x3 =>
            (laws_b10Has (v18.take v20.toNat) x3).bind fun x4 =>
             if x4 then
              some false
             else
              laws_FnPegs_p4 v0 v1 v15 v16 v17 v18 v20
          else
           none
         else
          none
      else
       none
   else
    none
  else
   laws_FnPegs_p3 v0 v1 :=
 (goL_dn _ _ _ 4000 _ _).trans (by kernel_rfl)
theorem laws_FnPegs_p3_eq  (v0 : List Int) (v1 : List Int) : laws_FnPegs_p3 v0 v1 =
  (spec_DrawReamTo v0).bind fun x1 =>
   (impl_ReamTo x1.1 (x1.2.1.1, x1.2.1.2.1, x1.2.1.2.2.1, x1.2.1.2.2.2.1, ()) x1.2.2).bind fun x2 =>
    if (x2.2 == 0) then
     (spec_WayIn (x1.2.1.1, x1.2.1.2.1, x1.2.1.2.2.1, x1.2.1.2.2.2.1, ()) (IntKind.i64.wrap (x1.1 + x2.1))).bind fun x3 =>
      (spec_WayIn (x1.2.1.1, x1.2.1.2.1, x1.2.1.2.2.1, x1.2.1.2.2.2.1, ()) (IntKind.i64.wrap ((IntKind.i64.wrap (x1.1 + x2.1)) - 1))).bind fun x4 =>
       if decide (x2.1 < 0) then
        some false
       else
        if (x3.2 != 0) then
         some false
        else
         if decide (x3.1 < x1.2.2) then
          some false
         else
          if decide (x2.1 > 0) then
           if (x4.2 != 0) then
            some false
           else
            if decide (x4.1 ≥ x1.2.2) then
             some false
            else
             laws_FnPegs_p5 v1
          else
           laws_FnPegs_p5 v1
    else
     if (x2.1 != 0) then
      some false
     else
      laws_FnPegs_p5 v1 :=
 (goL_dn _ _ _ 4000 _ _).trans (by kernel_rfl)
theorem laws_FnPegs_p4_eq  (v0 : List Int) (v1 : List Int) (v15 : List T_Peg.ty) (v16 : List Int) (v17 : Int) (v18 : List Int) (v20 : Int) : laws_FnPegs_p4 v0 v1 v15 v16 v17 v18 v20 =
  if decide (0 ≤ v20) then
   (v18[v20.toNat]?).bind fun x1 =>
    if decide (0 ≤ x1) then
     (v15[x1.toNat]?).bind fun x2 =>
      if decide (0 ≤ v20) then
       (v16[v20.toNat]?).bind fun x3 =>
        (spec_WayIn x2 x3).bind fun x4 =>
         if (x4.2 != 0) then
          some false
         else
          if decide (x4.1 > v17) then
           some false
          else
           laws_FnPegs_p2 v0 v1 v15 v16 v17 v18 (IntKind.i64.wrap (v20 + 1))
      else
       none
    else
     none
  else
   none :=
 (goL_dn _ _ _ 4000 _ _).trans (by kernel_rfl)
theorem laws_FnPegs_p5_eq  (v1 : List Int) : laws_FnPegs_p5 v1 =
  (spec_DrawPegText v1).bind fun x1 =>
   (impl_PegText x1).bind fun x2 =>
    (impl_ReadPeg x2).bind fun x3 =>
     (spec_PegText x1).bind fun x4 =>
      if ((x2 == []) == (x4 == [])) then
       if (!((x2 == []) == x3.2)) then
        if (!x3.2) then
         some true
        else
         some ((x3.1.1 == x1.1) && ((x3.1.2.1 == x1.2.1) && ((x3.1.2.2.1 == x1.2.2.1) && (x3.1.2.2.2.1 == x1.2.2.2.1))))
       else
        some false
      else
       some false :=
 (goL_dn _ _ _ 4000 _ _).trans (by kernel_rfl)

end Go.Ab.P
