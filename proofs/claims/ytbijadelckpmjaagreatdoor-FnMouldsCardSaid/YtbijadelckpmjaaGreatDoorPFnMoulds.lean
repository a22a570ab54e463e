/- Functions of the program: abstract forms, and what their runs give. Conditions: none. -/
import Derived.Test.YtbijadelckpmjaaGreatDoorL4
set_option maxRecDepth 100000
set_option linter.unusedVariables false
namespace Go.Ab.P
open Go.Ab
@[reducible] def T_Problem : ET := .agg (.cons (.int .i64) (.cons .str (.cons .str .nil)))
@[reducible] def T_Pot : ET := .agg (.cons .str (.cons (.int .i64) (.cons (.int .i64) (.cons (.int .i64) (.cons (.int .i64) .nil)))))
@[reducible] def T_Neck : ET := .agg (.cons (.int .i64) (.cons (.int .i64) (.cons (.int .i64) (.cons (.int .i64) .nil))))
@[reducible] def T_Step : ET := .agg (.cons .str (.cons (.int .i64) (.cons (.int .i64) (.cons (.sl (.one (.int .i64))) .nil))))
@[reducible] def T_Peg : ET := .agg (.cons .str (.cons (.int .i64) (.cons (.int .i64) (.cons (.int .i64) .nil))))
@[reducible] def T_Mode : ET := .agg (.cons .str (.cons (.int .i64) (.cons (.int .i64) .nil)))
@[reducible] def T_Deed : ET := .agg (.cons .str (.cons .str (.cons (.int .i64) (.cons (.int .i64) .nil))))
@[reducible] def T_Block : ET := .agg (.cons .str (.cons .str (.cons .str .nil)))
@[reducible] def T_Paper : ET := .agg (.cons .str (.cons .str (.cons (.int .i64) (.cons (.int .i64) (.cons (.int .i64) .nil)))))
@[reducible] def T_Desk : ET := .agg (.cons (.sl T_Peg) (.cons (.sl T_Mode) (.cons (.sl (.one (.sl (.one (.int .i64))))) (.cons (.int .i64) (.cons (.int .i64) (.cons (.int .i64) (.cons (.int .i64) (.cons (.sl T_Peg) (.cons (.sl T_Pot) (.cons (.sl T_Mode) (.cons (.sl T_Peg) (.cons (.sl T_Paper) .nil))))))))))))
@[reducible] def T_Arc : ET := .agg (.cons (.int .i64) (.cons (.int .i64) (.cons (.int .i64) (.cons (.int .i64) (.cons (.int .i64) (.cons (.int .i64) .nil))))))
@[reducible] def T_Entry : ET := .agg (.cons (.int .i64) (.cons .str (.cons .str (.cons (.int .i64) .nil))))
@[reducible] def T_Shop : ET := .agg (.cons (.sl T_Arc) (.cons (.sl T_Neck) (.cons (.int .i64) (.cons (.sl T_Step) (.cons (.sl (.one (.int .i64))) (.cons (.int .i64) (.cons (.sl T_Paper) (.cons (.sl T_Entry) .nil))))))))
@[reducible] def T_Setting : ET := .agg (.cons .str (.cons (.int .i64) .nil))
@[reducible] def T_Version : ET := .agg (.cons (.int .i64) (.cons (.int .i64) (.cons .str (.cons (.sl T_Setting) .nil))))
@[reducible] def T_Point : ET := .agg (.cons (.int .i64) (.cons (.int .i64) .nil))
@[reducible] def T_Grant : ET := .agg (.cons .str (.cons .str (.cons (.int .i64) .nil)))
@[reducible] def T_Role : ET := .agg (.cons .str (.cons (.sl (.one .str)) .nil))
@[reducible] def T_matching : ET := .agg (.cons (.sl T_Mode) (.cons (.sl T_Mode) (.cons (.sl (.one .bool)) (.cons (.int .i64) (.cons (.sl (.one (.int .i64))) (.cons (.int .i64) (.cons (.sl (.one (.int .i64))) (.cons (.int .i64) (.cons .bool .nil)))))))))
@[reducible] def T_cutting : ET := .agg (.cons (.sl T_Mode) (.cons (.int .i64) (.cons (.int .i64) (.cons (.sl (.one (.int .i64))) (.cons (.sl (.one (.int .i64))) (.cons (.int .i64) (.cons (.int .i64) .nil)))))))
@[reducible] def T_link : ET := .agg (.cons .bool (.cons (.int .i64) (.cons (.int .i64) .nil)))
@[reducible] def T_gluing : ET := .agg (.cons (.sl T_Pot) (.cons (.sl (.one (.int .i64))) (.cons (.sl (.one (.int .i64))) (.cons (.int .i64) (.cons (.sl (.one (.int .i64))) (.cons (.int .i64) (.cons (.sl (.one (.int .i64))) (.cons (.int .i64) (.cons .bool .nil)))))))))
@[reducible] def T_Change : ET := .agg (.cons (.int .i64) (.cons .str (.cons (.int .i64) .nil)))
@[reducible] def T_placing : ET := .agg (.cons (.sl T_Peg) (.cons (.sl (.one (.sl (.one (.int .i64))))) (.cons (.int .i64) .nil)))
@[reducible] def T_trusting : ET := .agg (.cons (.sl T_Paper) (.cons (.int .i64) (.cons (.sl (.one (.int .i64))) (.cons (.int .i64) (.cons (.sl (.one (.int .i64))) (.cons (.int .i64) .nil))))))
@[reducible] def T_l00Src : ET := .agg (.cons (.sl (.one (.int .u8))) (.cons (.int .i64) (.cons (.int .u64) .nil)))
@[reducible] def T_arguments : ET := .agg (.cons (.sl (.one (.int .i64))) (.cons (.sl (.one (.int .i64))) (.cons (.int .i64) (.cons .str .nil))))
@[reducible] def T_l14Search : ET := .agg (.cons (.sl T_Pot) (.cons (.sl (.one (.int .i64))) (.cons (.sl (.one (.int .i64))) (.cons (.sl (.one (.int .i64))) (.cons (.sl (.one (.int .i64))) (.cons (.int .i64) (.cons (.int .i64) (.cons (.int .i64) (.cons .bool .nil)))))))))
@[reducible] def T_l06Search : ET := .agg (.cons (.sl T_Mode) (.cons (.int .i64) (.cons (.int .i64) (.cons (.int .i64) (.cons (.sl (.one (.int .i64))) (.cons (.sl (.one (.int .i64))) (.cons (.int .i64) (.cons (.int .i64) (.cons .bool .nil)))))))))
@[reducible] def T_l20Search : ET := .agg (.cons (.sl T_Paper) (.cons (.sl (.one (.int .i64))) (.cons (.sl (.one (.int .i64))) (.cons (.int .i64) (.cons (.int .i64) (.cons (.int .i64) (.cons .bool .nil)))))))
@[reducible] def T_l18Search : ET := .agg (.cons (.sl T_Peg) (.cons (.sl (.one (.sl (.one (.int .i64))))) (.cons (.int .i64) (.cons (.int .i64) (.cons .bool .nil)))))
/- laws.b10Long -/
def laws_b10Long_ir : Fn := { np := 1, io := [], res := [.t 2], own := [false], body :=
 (.seq (.reg false [⟨some 2, false, .asg (.c (.bool false)), none, false, []⟩] [0] []) (.seq (.reg false [⟨some 3, false, .mv (.t 0), none, false, []⟩, ⟨some 4, false, .len (.t 3), none, false, []⟩, ⟨some 5, false, .bin .gtr (.t 4) (.c (.int .i64 1048576)), none, false, []⟩, ⟨some 2, false, .asg (.t 5), none, false, []⟩] [2] []) .ret)) }
noncomputable def laws_b10Long_D : List (Nat × Callee) := []
def laws_b10Long_H : List (Nat × ET) := [(3, (.one (.int .u8)))]
noncomputable def laws_b10Long_c : Callee := mkCallee laws_b10Long_D laws_b10Long_H laws_b10Long_ir [.d (.one (.sl (.one (.int .u8))))] [.d (.one .bool)] []
noncomputable def laws_b10Long (a0 : List Int) : Option (Bool) := laws_b10Long_c.f (a0, ())
theorem laws_b10Long_eq (a0 : List Int) : laws_b10Long a0 =
  some (decide ((a0.length : Int) > 1048576)) :=
 (mk_f _ _ _ _ _ _ _ 4000).trans (by kernel_rfl)

/- spec.l00From -/
def spec_l00From_ir : Fn := { np := 1, io := [], res := [.t 2], own := [true], body :=
 (.seq (.reg false [⟨some 2, false, .asg (.c (.cst (.pointer none))), none, false, []⟩] [0] []) (.seq (.reg false [⟨some 3, false, .mv (.t 0), none, false, []⟩, ⟨some 4, false, .build [.nils 1, .int .i64 0, .int .u64 0] [(0, 1, .t 3)], none, false, []⟩, ⟨some 5, true, .box 3 (.t 4), none, false, []⟩, ⟨some 2, false, .asg (.t 5), none, false, []⟩] [2] [5, 6000]) .ret)) }
noncomputable def spec_l00From_D : List (Nat × Callee) := []
def spec_l00From_H : List (Nat × ET) := [(3, (.one (.int .u8)))]
noncomputable def spec_l00From_c : Callee := mkCallee spec_l00From_D spec_l00From_H spec_l00From_ir [.d (.one (.sl (.one (.int .u8))))] [.box T_l00Src] []
noncomputable def spec_l00From (a0 : List Int) : Option (T_l00Src.ty) := spec_l00From_c.f (a0, ())
theorem spec_l00From_eq (a0 : List Int) : spec_l00From a0 =
  some (a0, 0, 0, ()) :=
 (mk_f _ _ _ _ _ _ _ 4000).trans (by kernel_rfl)

/- (*spec.l00Src).next -/
def spec_l00Src_next_k0 : C :=
 .seq (.reg false [⟨some 25, false, .mv (.t 0), none, false, []⟩, ⟨some 26, false, .nilck (.t 25), none, false, []⟩, ⟨some 27, false, .fa 1 (.t 26), none, false, []⟩, ⟨some 28, false, .ld none (.t 27), none, false, []⟩, ⟨some 29, false, .bin .add (.t 28) (.c (.int .i64 1)), none, false, []⟩, ⟨some 30, false, .nilck (.t 25), none, false, []⟩, ⟨some 31, false, .fa 1 (.t 30), none, false, []⟩, ⟨none, true, .sto 1 (.t 31) (.t 29), none, false, []⟩] [0, 3] [0, 1000]) (.seq (.reg false [⟨some 32, false, .mv (.t 0), none, false, []⟩, ⟨some 33, false, .mv (.t 0), none, false, []⟩, ⟨some 34, false, .nilck (.t 33), none, false, []⟩, ⟨some 35, false, .fa 2 (.t 34), none, false, []⟩, ⟨some 36, false, .ld none (.t 35), none, false, []⟩, ⟨some 37, false, .bin .mul (.t 36) (.c (.int .u64 6364136223846793005)), none, false, []⟩, ⟨some 38, false, .mv (.t 3), none, false, []⟩, ⟨some 39, false, .conv (.int .u64) (.t 38), none, false, []⟩, ⟨some 40, false, .bin .add (.t 37) (.t 39), none, false, []⟩, ⟨some 41, false, .bin .add (.t 40) (.c (.int .u64 1442695040888963407)), none, false, []⟩, ⟨some 42, false, .nilck (.t 32), none, false, []⟩, ⟨some 43, false, .fa 2 (.t 42), none, false, []⟩, ⟨none, true, .sto 1 (.t 43) (.t 41), none, false, []⟩] [0, 3] [0, 1000]) (.seq (.seq (.reg true [⟨some 44, false, .mv (.t 0), none, false, []⟩, ⟨some 45, false, .nilck (.t 44), none, false, []⟩, ⟨some 46, false, .fa 1 (.t 45), none, false, []⟩, ⟨some 47, false, .ld none (.t 46), none, false, []⟩, ⟨some 48, false, .mv (.t 0), none, false, []⟩, ⟨some 49, false, .nilck (.t 48), none, false, []⟩, ⟨some 50, false, .fa 0 (.t 49), none, false, []⟩, ⟨some 51, false, .ld none (.t 50), none, false, []⟩, ⟨some 52, false, .len (.t 51), none, false, []⟩, ⟨some 53, false, .bin .leq (.t 47) (.t 52), none, false, []⟩] [0, 3, 53] [0, 1000]) (.cond (.t 53) (.seq (.reg false [⟨some 54, false, .mv (.t 3), none, false, []⟩, ⟨some 2, false, .asg (.t 54), none, false, []⟩] [0, 2] [0, 1000]) .ret) .skip)) (.seq (.reg false [⟨some 55, false, .mv (.t 0), none, false, []⟩, ⟨some 56, false, .nilck (.t 55), none, false, []⟩, ⟨some 57, false, .fa 2 (.t 56), none, false, []⟩, ⟨some 58, false, .ld none (.t 57), none, false, []⟩, ⟨some 59, false, .bin .shr (.t 58) (.c (.int .u64 40)), none, false, []⟩, ⟨some 60, false, .bin .and (.t 59) (.c (.int .u64 255)), none, false, []⟩, ⟨some 61, false, .conv (.int .i64) (.t 60), none, false, []⟩, ⟨some 2, false, .asg (.t 61), none, false, []⟩] [0, 2] [0, 1000]) .ret)))
def spec_l00Src_next_ir : Fn := { np := 1, io := [true], res := [.t 2], own := [false], body :=
 (.seq (.reg false [⟨some 2, false, .asg (.c (.int .i64 0)), none, false, []⟩] [0] [0, 1000]) (.seq (.reg false [⟨some 3, false, .asg (.c (.int .i64 0)), none, false, []⟩] [0, 3] [0, 1000]) (.seq (.seq (.reg true [⟨some 4, false, .mv (.t 0), none, false, []⟩, ⟨some 5, false, .nilck (.t 4), none, false, []⟩, ⟨some 6, false, .fa 1 (.t 5), none, false, []⟩, ⟨some 7, false, .ld none (.t 6), none, false, []⟩, ⟨some 8, false, .mv (.t 0), none, false, []⟩, ⟨some 9, false, .nilck (.t 8), none, false, []⟩, ⟨some 10, false, .fa 0 (.t 9), none, false, []⟩, ⟨some 11, false, .ld none (.t 10), none, false, []⟩, ⟨some 12, false, .len (.t 11), none, false, []⟩, ⟨some 13, false, .bin .lss (.t 7) (.t 12), none, false, []⟩] [0, 3, 13] [0, 1000]) (.cond (.t 13) (.reg true [⟨some 14, false, .mv (.t 0), none, false, []⟩, ⟨some 15, false, .nilck (.t 14), none, false, []⟩, ⟨some 16, false, .fa 0 (.t 15), none, false, []⟩, ⟨some 17, false, .ld none (.t 16), none, false, []⟩, ⟨some 18, false, .mv (.t 0), none, false, []⟩, ⟨some 19, false, .nilck (.t 18), none, false, []⟩, ⟨some 20, false, .fa 1 (.t 19), none, false, []⟩, ⟨some 21, false, .ld none (.t 20), none, false, []⟩, ⟨some 22, false, .ia 1 (.t 17) (.t 21), none, false, []⟩, ⟨some 23, false, .ld none (.t 22), none, false, []⟩, ⟨some 24, false, .conv (.int .i64) (.t 23), none, false, []⟩, ⟨some 3, false, .asg (.t 24), none, false, []⟩] [0, 3] [0, 1000]) .skip)) (.norm [0, 3] [0, 1000] spec_l00Src_next_k0)))) }
noncomputable def spec_l00Src_next_D : List (Nat × Callee) := []
def spec_l00Src_next_H : List (Nat × ET) := [(11, (.one (.int .u8))), (17, (.one (.int .u8))), (51, (.one (.int .u8)))]
noncomputable def spec_l00Src_next_c : Callee := mkCallee spec_l00Src_next_D spec_l00Src_next_H spec_l00Src_next_ir [.box T_l00Src] [.d (.one (.int .i64))] [.box T_l00Src]
noncomputable def spec_l00Src_next (a0 : T_l00Src.ty) : Option (Int × T_l00Src.ty) := spec_l00Src_next_c.f (a0, ())
noncomputable def spec_l00Src_next_p0  (v3 : Int) (r0_0 : List Int) (r0_1 : Int) (r0_2 : Int) : Option (Int × T_l00Src.ty) :=
 goL spec_l00Src_next_D spec_l00Src_next_H (vleave spec_l00Src_next_ir [.box T_l00Src] [.d (.one (.int .i64))] [.box T_l00Src] []) [.c spec_l00Src_next_k0]
  ⟨[(0, .loc 0 0 0), (3, .int .i64 v3)], [(0, some (.var 3 (.agg [.sl (.one (.int .u8)) r0_0, .int .i64 r0_1, .int .u64 r0_2]))), (1000, none)]⟩
theorem spec_l00Src_next_eq (a0 : T_l00Src.ty) : spec_l00Src_next a0 =
  if decide (a0.2.1 < (a0.1.length : Int)) then
   if decide (0 ≤ a0.2.1) then
    (a0.1[a0.2.1.toNat]?).bind fun x1 =>
     spec_l00Src_next_p0 (IntKind.i64.wrap x1) a0.1 a0.2.1 a0.2.2.1
   else
    none
  else
   spec_l00Src_next_p0 0 a0.1 a0.2.1 a0.2.2.1 :=
 (mk_f _ _ _ _ _ _ _ 4000).trans (by kernel_rfl)
theorem spec_l00Src_next_p0_eq  (v3 : Int) (r0_0 : List Int) (r0_1 : Int) (r0_2 : Int) : spec_l00Src_next_p0 v3 r0_0 r0_1 r0_2 =
  if decide (IntKind.i64.wrap (r0_1 + 1) ≤ (r0_0.length : Int)) then
   some (v3, (r0_0, IntKind.i64.wrap (r0_1 + 1), IntKind.u64.wrap ((IntKind.u64.wrap ((IntKind.u64.wrap (r0_2 * 6364136223846793005)) + (IntKind.u64.wrap v3))) + 1442695040888963407), ()))
  else
   some (IntKind.i64.wrap (IntKind.u64.wrap ((BitVec.ofInt IntKind.u64.bits (Int.fdiv (IntKind.u64.wrap ((IntKind.u64.wrap ((IntKind.u64.wrap (r0_2 * 6364136223846793005)) + (IntKind.u64.wrap v3))) + 1442695040888963407)) (2 ^ (min (40 : Int).toNat IntKind.u64.bits))) &&& BitVec.ofInt IntKind.u64.bits 255).toNat : Int)), (r0_0, IntKind.i64.wrap (r0_1 + 1), IntKind.u64.wrap ((IntKind.u64.wrap ((IntKind.u64.wrap (r0_2 * 6364136223846793005)) + (IntKind.u64.wrap v3))) + 1442695040888963407), ())) :=
 (goL_dn _ _ _ 4000 _ _).trans (by kernel_rfl)

/- (*spec.l00Src).pick -/
def spec_l00Src_pick_ir : Fn := { np := 2, io := [true, false], res := [.t 4], own := [false], body :=
 (.seq (.reg false [⟨some 4, false, .asg (.c (.int .i64 0)), none, false, []⟩] [0, 1] [0, 1000]) (.seq (.seq (.reg false [⟨some 6, false, .mv (.t 1), none, false, []⟩, ⟨some 7, false, .bin .leq (.t 6) (.c (.int .i64 1)), none, false, []⟩] [0, 1, 7] [0, 1000]) (.cond (.t 7) (.seq (.reg false [⟨some 4, false, .asg (.c (.int .i64 0)), none, false, []⟩] [0, 4] [0, 1000]) .ret) .skip)) (.seq (.reg false [⟨some 8, false, .mv (.t 0), none, false, []⟩, ⟨some 9, true, .call (.c (.fn 847 [])) [.t 8], none, false, []⟩, ⟨some 5, false, .asg (.t 9), none, false, []⟩] [0, 1, 5] [0, 1000]) (.seq (.seq (.reg false [⟨some 10, false, .mv (.t 1), none, false, []⟩, ⟨some 11, false, .bin .gtr (.t 10) (.c (.int .i64 200)), none, false, []⟩] [0, 1, 5, 11] [0, 1000]) (.cond (.t 11) (.reg false [⟨some 12, false, .mv (.t 5), none, false, []⟩, ⟨some 13, false, .bin .mul (.t 12) (.c (.int .i64 256)), none, false, []⟩, ⟨some 14, false, .mv (.t 0), none, false, []⟩, ⟨some 15, true, .call (.c (.fn 847 [])) [.t 14], none, false, []⟩, ⟨some 16, false, .bin .add (.t 13) (.t 15), none, false, []⟩, ⟨some 5, false, .asg (.t 16), none, false, []⟩] [0, 1, 5] [0, 1000]) .skip)) (.seq (.reg false [⟨some 17, false, .mv (.t 5), none, false, []⟩, ⟨some 18, false, .mv (.t 1), none, false, []⟩, ⟨some 19, false, .bin .rem (.t 17) (.t 18), none, false, []⟩, ⟨some 4, false, .asg (.t 19), none, false, []⟩] [0, 4] [0, 1000]) .ret))))) }
noncomputable def spec_l00Src_pick_D : List (Nat × Callee) := [(847, spec_l00Src_next_c)]
def spec_l00Src_pick_H : List (Nat × ET) := []
noncomputable def spec_l00Src_pick_c : Callee := mkCallee spec_l00Src_pick_D spec_l00Src_pick_H spec_l00Src_pick_ir [.box T_l00Src, .d (.one (.int .i64))] [.d (.one (.int .i64))] [.box T_l00Src]
noncomputable def spec_l00Src_pick (a0 : T_l00Src.ty) (a1 : Int) : Option (Int × T_l00Src.ty) := spec_l00Src_pick_c.f (a0, a1, ())
theorem spec_l00Src_pick_eq (a0 : T_l00Src.ty) (a1 : Int) : spec_l00Src_pick a0 a1 =
  if decide (a1 ≤ 1) then
   some (0, a0)
  else
   (spec_l00Src_next a0).bind fun x1 =>
    if decide (a1 > 200) then
     (spec_l00Src_next (x1.2.1, x1.2.2.1, x1.2.2.2.1, ())).bind fun x2 =>
      if decide (a1 = 0) then
       none
      else
       some ((IntKind.i64.wrap ((IntKind.i64.wrap (x1.1 * 256)) + x2.1)).tmod a1, (x2.2.1, x2.2.2.1, x2.2.2.2.1, ()))
    else
     if decide (a1 = 0) then
      none
     else
      some (x1.1.tmod a1, (x1.2.1, x1.2.2.1, x1.2.2.2.1, ())) :=
 (mk_f _ _ _ _ _ _ _ 4000).trans (by kernel_rfl)

/- (*spec.l00Src).one -/
def spec_l00Src_one_ir : Fn := { np := 2, io := [true, false], res := [.t 4], own := [false], body :=
 (.seq (.reg false [⟨some 4, false, .asg (.c (.bool false)), none, false, []⟩] [0, 1] [0, 1000]) (.seq (.reg false [⟨some 5, false, .mv (.t 0), none, false, []⟩, ⟨some 6, false, .mv (.t 1), none, false, []⟩, ⟨some 7, true, .call (.c (.fn 463 [])) [.t 5, .t 6], none, false, []⟩, ⟨some 8, false, .bin .eql (.t 7) (.c (.int .i64 0)), none, false, []⟩, ⟨some 4, false, .asg (.t 8), none, false, []⟩] [0, 4] [0, 1000]) .ret)) }
noncomputable def spec_l00Src_one_D : List (Nat × Callee) := [(463, spec_l00Src_pick_c)]
def spec_l00Src_one_H : List (Nat × ET) := []
noncomputable def spec_l00Src_one_c : Callee := mkCallee spec_l00Src_one_D spec_l00Src_one_H spec_l00Src_one_ir [.box T_l00Src, .d (.one (.int .i64))] [.d (.one .bool)] [.box T_l00Src]
noncomputable def spec_l00Src_one (a0 : T_l00Src.ty) (a1 : Int) : Option (Bool × T_l00Src.ty) := spec_l00Src_one_c.f (a0, a1, ())
theorem spec_l00Src_one_eq (a0 : T_l00Src.ty) (a1 : Int) : spec_l00Src_one a0 a1 =
  (spec_l00Src_pick a0 a1).bind fun x1 =>
   some ((x1.1 == 0), (x1.2.1, x1.2.2.1, x1.2.2.2.1, ())) :=
 (mk_f _ _ _ _ _ _ _ 4000).trans (by kernel_rfl)

/- spec.l06DrawOne -/
def spec_l06DrawOne_ir : Fn := { np := 2, io := [true, false], res := [.cell 4 (some 3)], own := [false], body :=
 (.seq (.reg false [⟨some 4, true, .alloc 3 (.agg [.str [], .int .i64 0, .int .i64 0]), none, false, []⟩] [0, 1, 4] [0, 4, 1000]) (.seq (.reg false [⟨some 6, false, .mv (.t 1), none, false, []⟩, ⟨some 7, false, .mv (.t 0), none, false, []⟩, ⟨some 8, true, .call (.c (.fn 463 [])) [.t 7, .c (.int .i64 160)], none, false, []⟩, ⟨some 9, false, .bin .mul (.c (.int .i64 10)) (.t 8), none, false, []⟩, ⟨some 10, false, .bin .add (.c (.int .i64 500)) (.t 9), none, false, []⟩, ⟨some 11, false, .build [.str [], .int .i64 0, .int .i64 0] [(0, 1, .t 6), (1, 1, .t 10)], none, false, []⟩, ⟨some 5, true, .alloc 3 (.agg [.str [], .int .i64 0, .int .i64 0]), none, false, []⟩, ⟨none, true, .sto 3 (.t 5) (.t 11), none, false, []⟩] [0, 4, 5] [0, 4, 5, 1000]) (.seq (.reg false [⟨some 12, false, .mv (.t 0), none, false, []⟩, ⟨some 13, true, .call (.c (.fn 463 [])) [.t 12, .c (.int .i64 20)], none, false, []⟩, ⟨some 14, false, .bin .mul (.c (.int .i64 5)) (.t 13), none, false, []⟩, ⟨some 15, false, .bin .add (.c (.int .i64 250)) (.t 14), none, false, []⟩, ⟨some 16, false, .fa 2 (.t 5), none, false, []⟩, ⟨none, true, .sto 1 (.t 16) (.t 15), none, false, []⟩] [0, 4, 5] [0, 4, 5, 1000]) (.seq (.reg false [⟨some 17, false, .ld (some 3) (.t 5), none, false, []⟩, ⟨none, true, .sto 3 (.t 4) (.t 17), none, false, []⟩] [0, 4] [0, 4, 1000]) .ret)))) }
noncomputable def spec_l06DrawOne_D : List (Nat × Callee) := [(463, spec_l00Src_pick_c)]
def spec_l06DrawOne_H : List (Nat × ET) := []
noncomputable def spec_l06DrawOne_c : Callee := mkCallee spec_l06DrawOne_D spec_l06DrawOne_H spec_l06DrawOne_ir [.box T_l00Src, .d (.one .str)] [.d T_Mode] [.box T_l00Src]
noncomputable def spec_l06DrawOne (a0 : T_l00Src.ty) (a1 : List UInt8) : Option (T_Mode.ty × T_l00Src.ty) := spec_l06DrawOne_c.f (a0, a1, ())
theorem spec_l06DrawOne_eq (a0 : T_l00Src.ty) (a1 : List UInt8) : spec_l06DrawOne a0 a1 =
  (spec_l00Src_pick a0 160).bind fun x1 =>
   (spec_l00Src_pick (x1.2.1, x1.2.2.1, x1.2.2.2.1, ()) 20).bind fun x2 =>
    some ((a1, IntKind.i64.wrap (500 + (IntKind.i64.wrap (10 * x1.1))), IntKind.i64.wrap (250 + (IntKind.i64.wrap (5 * x2.1))), ()), (x2.2.1, x2.2.2.1, x2.2.2.2.1, ())) :=
 (mk_f _ _ _ _ _ _ _ 4000).trans (by kernel_rfl)

/- (*spec.l00Src).among -/
def spec_l00Src_among_ir : Fn := { np := 2, io := [true, false], res := [.t 4], own := [false], body :=
 (.seq (.reg false [⟨some 4, false, .asg (.c (.int .i64 0)), none, false, []⟩] [0, 1] [0, 1000]) (.seq (.reg false [⟨some 5, false, .mv (.t 1), none, false, []⟩, ⟨some 6, false, .mv (.t 0), none, false, []⟩, ⟨some 7, false, .mv (.t 1), none, false, []⟩, ⟨some 8, false, .len (.t 7), none, false, []⟩, ⟨some 9, true, .call (.c (.fn 463 [])) [.t 6, .t 8], none, false, []⟩, ⟨some 10, false, .ia 1 (.t 5) (.t 9), none, false, []⟩, ⟨some 11, false, .ld none (.t 10), none, false, []⟩, ⟨some 4, false, .asg (.t 11), none, false, []⟩] [0, 4] [0, 1000]) .ret)) }
noncomputable def spec_l00Src_among_D : List (Nat × Callee) := [(463, spec_l00Src_pick_c)]
def spec_l00Src_among_H : List (Nat × ET) := [(5, (.one (.int .i64))), (7, (.one (.int .i64)))]
noncomputable def spec_l00Src_among_c : Callee := mkCallee spec_l00Src_among_D spec_l00Src_among_H spec_l00Src_among_ir [.box T_l00Src, .d (.one (.sl (.one (.int .i64))))] [.d (.one (.int .i64))] [.box T_l00Src]
noncomputable def spec_l00Src_among (a0 : T_l00Src.ty) (a1 : List Int) : Option (Int × T_l00Src.ty) := spec_l00Src_among_c.f (a0, a1, ())
theorem spec_l00Src_among_eq (a0 : T_l00Src.ty) (a1 : List Int) : spec_l00Src_among a0 a1 =
  (spec_l00Src_pick a0 (a1.length : Int)).bind fun x1 =>
   if decide (0 ≤ x1.1) then
    (a1[x1.1.toNat]?).bind fun x2 =>
     some (x2, (x1.2.1, x1.2.2.1, x1.2.2.2.1, ()))
   else
    none :=
 (mk_f _ _ _ _ _ _ _ 4000).trans (by kernel_rfl)

/- spec.l06Bent -/
def spec_l06Bent_ir : Fn := { np := 2, io := [true, false], res := [.cell 4 (some 3)], own := [false], body :=
 (.seq (.reg false [⟨some 3, true, .box 3 (.t 1), none, false, []⟩, ⟨some 4, true, .alloc 3 (.agg [.str [], .int .i64 0, .int .i64 0]), none, false, []⟩] [0, 3, 4] [0, 3, 4, 1000]) (.seq (.seq (.reg false [⟨some 5, false, .mv (.t 0), none, false, []⟩, ⟨some 6, true, .call (.c (.fn 463 [])) [.t 5, .c (.int .i64 16)], none, false, []⟩] [0, 3, 4, 6] [0, 3, 4, 1000]) (.block 0 (.seq (.reg false [⟨some 8, false, .bin .eql (.t 6) (.c (.int .i64 0)), none, false, []⟩, ⟨some 7, false, .asg (.t 8), none, false, []⟩] [0, 3, 4, 6, 7] [0, 3, 4, 1000]) (.cond (.t 7) (.reg false [⟨some 9, false, .mv (.t 0), none, false, []⟩, ⟨some 10, false, .bsl 1 (.int .i64 0) 4 [(0, .c (.int .i64 0)), (1, .c (.int .i64 1)), (2, .c (.int .i64 10000)), (3, .c (.int .i64 10001))], none, false, []⟩, ⟨some 11, true, .call (.c (.fn 445 [])) [.t 9, .t 10], none, false, []⟩, ⟨some 12, false, .fa 1 (.t 3), none, false, []⟩, ⟨none, true, .sto 1 (.t 12) (.t 11), none, false, []⟩] [0, 3, 4] [0, 3, 4, 1000]) (.seq (.reg false [⟨some 14, false, .bin .eql (.t 6) (.c (.int .i64 1)), none, false, []⟩, ⟨some 13, false, .asg (.t 14), none, false, []⟩] [0, 3, 4, 13] [0, 3, 4, 1000]) (.cond (.t 13) (.reg false [⟨some 15, false, .mv (.t 0), none, false, []⟩, ⟨some 16, false, .bsl 1 (.int .i64 0) 4 [(0, .c (.int .i64 0)), (1, .c (.int .i64 1)), (2, .c (.int .i64 10000)), (3, .c (.int .i64 10001))], none, false, []⟩, ⟨some 17, true, .call (.c (.fn 445 [])) [.t 15, .t 16], none, false, []⟩, ⟨some 18, false, .fa 2 (.t 3), none, false, []⟩, ⟨none, true, .sto 1 (.t 18) (.t 17), none, false, []⟩] [0, 3, 4] [0, 3, 4, 1000]) .skip)))))) (.seq (.reg false [⟨some 19, false, .ld (some 3) (.t 3), none, false, []⟩, ⟨none, true, .sto 3 (.t 4) (.t 19), none, false, []⟩] [0, 4] [0, 4, 1000]) .ret))) }
noncomputable def spec_l06Bent_D : List (Nat × Callee) := [(445, spec_l00Src_among_c), (463, spec_l00Src_pick_c)]
def spec_l06Bent_H : List (Nat × ET) := [(10, (.one (.int .i64))), (16, (.one (.int .i64)))]
noncomputable def spec_l06Bent_c : Callee := mkCallee spec_l06Bent_D spec_l06Bent_H spec_l06Bent_ir [.box T_l00Src, .d T_Mode] [.d T_Mode] [.box T_l00Src]
noncomputable def spec_l06Bent (a0 : T_l00Src.ty) (a1 : T_Mode.ty) : Option (T_Mode.ty × T_l00Src.ty) := spec_l06Bent_c.f (a0, a1, ())
theorem spec_l06Bent_eq (a0 : T_l00Src.ty) (a1 : T_Mode.ty) : spec_l06Bent a0 a1 =
  (spec_l00Src_pick a0 16).bind fun x1 =>
   if (x1.1 == 0) then
    (spec_l00Src_among (x1.2.1, x1.2.2.1, x1.2.2.2.1, ()) [0, 1, 10000, 10001]).bind fun x2 =>
     some ((a1.1, x2.1, a1.2.2.1, ()), (x2.2.1, x2.2.2.1, x2.2.2.2.1, ()))
   else
    if (x1.1 == 1) then
     (spec_l00Src_among (x1.2.1, x1.2.2.1, x1.2.2.2.1, ()) [0, 1, 10000, 10001]).bind fun x3 =>
      some ((a1.1, a1.2.1, x3.1, ()), (x3.2.1, x3.2.2.1, x3.2.2.2.1, ()))
    else
     some (a1, (x1.2.1, x1.2.2.1, x1.2.2.2.1, ())) :=
 (mk_f _ _ _ _ _ _ _ 4000).trans (by kernel_rfl)

/- spec.l01Dec -/
def spec_l01Dec_k0 : C :=
 .reg false [⟨some 22, false, .mv (.t 3), none, false, []⟩, ⟨some 23, false, .mv (.t 5), none, false, []⟩, ⟨some 24, false, .bin .add (.c (.int .i64 48)) (.t 23), none, false, []⟩, ⟨some 25, false, .conv (.int .u8) (.t 24), none, false, []⟩, ⟨some 26, false, .bsl 1 (.int .u8 0) 1 [(0, .t 25)], none, false, []⟩, ⟨some 27, true, .app 1 1 (.t 22) (.t 26), none, false, []⟩, ⟨some 3, true, .asg (.t 27), none, false, []⟩] [0, 3, 4] [3]
def spec_l01Dec_k1 : C :=
 .reg false [⟨some 14, false, .mv (.t 4), none, false, []⟩, ⟨some 15, false, .bin .quo (.t 14) (.c (.int .i64 10)), none, false, []⟩, ⟨some 4, false, .asg (.t 15), none, false, []⟩] [0, 3, 4] [3]
def spec_l01Dec_k2 : C :=
 .seq (.seq (.reg false [⟨some 12, false, .mv (.t 4), none, false, []⟩, ⟨some 13, false, .bin .neq (.t 12) (.c (.int .i64 0)), none, false, []⟩] [0, 3, 4, 13] [3]) (.cond (.t 13) .skip (.exit 0))) (.seq (.block 1 (.seq (.reg false [⟨some 16, false, .mv (.t 4), none, false, []⟩, ⟨some 17, false, .bin .rem (.t 16) (.c (.int .i64 10)), none, false, []⟩, ⟨some 5, false, .asg (.t 17), none, false, []⟩] [0, 3, 4, 5] [3]) (.seq (.seq (.reg false [⟨some 18, false, .mv (.t 5), none, false, []⟩, ⟨some 19, false, .bin .lss (.t 18) (.c (.int .i64 0)), none, false, []⟩] [0, 3, 4, 5, 19] [3]) (.cond (.t 19) (.reg false [⟨some 20, false, .mv (.t 5), none, false, []⟩, ⟨some 21, false, .un .neg (.t 20), none, false, []⟩, ⟨some 5, false, .asg (.t 21), none, false, []⟩] [0, 3, 4, 5] [3]) .skip)) (.norm [0, 3, 4, 5] [3] spec_l01Dec_k0)))) spec_l01Dec_k1)
def spec_l01Dec_k3 : C :=
 .norm [0, 3, 4] [3] spec_l01Dec_k2
def spec_l01Dec_k4 : C :=
 .seq (.seq (.reg false [⟨some 37, false, .mv (.t 7), none, false, []⟩, ⟨some 38, false, .bin .geq (.t 37) (.c (.int .i64 0)), none, false, []⟩] [3, 6, 7, 38] [3, 6]) (.cond (.t 38) .skip (.exit 2))) (.seq (.block 3 (.reg false [⟨some 41, false, .mv (.t 6), none, false, []⟩, ⟨some 42, false, .mv (.t 3), none, false, []⟩, ⟨some 43, false, .mv (.t 7), none, false, []⟩, ⟨some 44, false, .ia 1 (.t 42) (.t 43), none, false, []⟩, ⟨some 45, false, .ld none (.t 44), none, false, []⟩, ⟨some 46, false, .bsl 1 (.int .u8 0) 1 [(0, .t 45)], none, false, []⟩, ⟨some 47, true, .app 1 1 (.t 41) (.t 46), none, false, []⟩, ⟨some 6, true, .asg (.t 47), none, false, []⟩] [3, 6, 7] [3, 6])) (.reg false [⟨some 39, false, .mv (.t 7), none, false, []⟩, ⟨some 40, false, .bin .sub (.t 39) (.c (.int .i64 1)), none, false, []⟩, ⟨some 7, false, .asg (.t 40), none, false, []⟩] [3, 6, 7] [3, 6]))
def spec_l01Dec_k5 : C :=
 .norm [3, 6, 7] [3, 6] spec_l01Dec_k4
def spec_l01Dec_k6 : C :=
 .seq (.reg false [⟨some 48, false, .mv (.t 6), none, false, []⟩, ⟨some 49, false, .conv .bytesStr (.t 48), none, false, []⟩, ⟨some 2, false, .asg (.t 49), none, false, []⟩] [2] []) .ret
def spec_l01Dec_k7 : C :=
 .seq (.reg false [⟨some 33, false, .bsl 1 (.int .u8 0) 0 [], none, false, []⟩, ⟨some 6, true, .asg (.t 33), none, false, []⟩] [3, 6] [3, 6]) (.seq (.seq (.reg false [⟨some 34, false, .mv (.t 3), none, false, []⟩, ⟨some 35, false, .len (.t 34), none, false, []⟩, ⟨some 36, false, .bin .sub (.t 35) (.c (.int .i64 1)), none, false, []⟩, ⟨some 7, false, .asg (.t 36), none, false, []⟩] [3, 6, 7] [3, 6]) (.block 2 (.loop spec_l01Dec_k5))) spec_l01Dec_k6)
def spec_l01Dec_k8 : C :=
 .seq (.seq (.reg false [⟨some 28, false, .mv (.t 0), none, false, []⟩, ⟨some 29, false, .bin .lss (.t 28) (.c (.int .i64 0)), none, false, []⟩] [3, 29] [3]) (.cond (.t 29) (.reg false [⟨some 30, false, .mv (.t 3), none, false, []⟩, ⟨some 31, false, .bsl 1 (.int .u8 0) 1 [(0, .c (.int .u8 45))], none, false, []⟩, ⟨some 32, true, .app 1 1 (.t 30) (.t 31), none, false, []⟩, ⟨some 3, true, .asg (.t 32), none, false, []⟩] [3] [3]) .skip)) (.norm [3] [3] spec_l01Dec_k7)
def spec_l01Dec_ir : Fn := { np := 1, io := [], res := [.t 2], own := [false], body :=
 (.seq (.reg false [⟨some 2, false, .asg (.c (.str [])), none, false, []⟩] [0] []) (.seq (.seq (.reg false [⟨some 8, false, .mv (.t 0), none, false, []⟩, ⟨some 9, false, .bin .eql (.t 8) (.c (.int .i64 0)), none, false, []⟩] [0, 9] []) (.cond (.t 9) (.seq (.reg false [⟨some 2, false, .asg (.c (.str [48])), none, false, []⟩] [2] []) .ret) .skip)) (.seq (.reg false [⟨some 10, false, .bsl 1 (.int .u8 0) 0 [], none, false, []⟩, ⟨some 3, true, .asg (.t 10), none, false, []⟩] [0, 3] [3]) (.seq (.seq (.reg false [⟨some 11, false, .mv (.t 0), none, false, []⟩, ⟨some 4, false, .asg (.t 11), none, false, []⟩] [0, 3, 4] [3]) (.block 0 (.loop spec_l01Dec_k3))) spec_l01Dec_k8)))) }
noncomputable def spec_l01Dec_D : List (Nat × Callee) := []
def spec_l01Dec_H : List (Nat × ET) := [(3, (.one (.int .u8))), (6, (.one (.int .u8))), (10, (.one (.int .u8))), (22, (.one (.int .u8))), (26, (.one (.int .u8))), (27, (.one (.int .u8))), (30, (.one (.int .u8))), (31, (.one (.int .u8))), (32, (.one (.int .u8))), (33, (.one (.int .u8))), (34, (.one (.int .u8))), (41, (.one (.int .u8))), (42, (.one (.int .u8))), (46, (.one (.int .u8))), (47, (.one (.int .u8))), (48, (.one (.int .u8)))]
noncomputable def spec_l01Dec_c : Callee := mkCallee spec_l01Dec_D spec_l01Dec_H spec_l01Dec_ir [.d (.one (.int .i64))] [.d (.one .str)] []
noncomputable def spec_l01Dec (a0 : Int) : Option (List UInt8) := spec_l01Dec_c.f (a0, ())
noncomputable def spec_l01Dec_p0  (v0 : Int) (v4 : Int) (r3 : List Int) : Option (List UInt8) :=
 goL spec_l01Dec_D spec_l01Dec_H (vleave spec_l01Dec_ir [.d (.one (.int .i64))] [.d (.one .str)] [] []) [.c spec_l01Dec_k2, .l spec_l01Dec_k3, .e 0, .c spec_l01Dec_k8]
  ⟨[(0, .int .i64 v0), (3, .view 3 0 r3.length), (4, .int .i64 v4)], [(3, some (.sl (.one (.int .u8)) r3))]⟩
noncomputable def spec_l01Dec_p1  (v0 : Int) (v4 : Int) (v5 : Int) (r3 : List Int) : Option (List UInt8) :=
 goL spec_l01Dec_D spec_l01Dec_H (vleave spec_l01Dec_ir [.d (.one (.int .i64))] [.d (.one .str)] [] []) [.c spec_l01Dec_k0, .e 1, .c spec_l01Dec_k1, .l spec_l01Dec_k3, .e 0, .c spec_l01Dec_k8]
  ⟨[(0, .int .i64 v0), (3, .view 3 0 r3.length), (4, .int .i64 v4), (5, .int .i64 v5)], [(3, some (.sl (.one (.int .u8)) r3))]⟩
noncomputable def spec_l01Dec_p2  (r3 : List Int) : Option (List UInt8) :=
 goL spec_l01Dec_D spec_l01Dec_H (vleave spec_l01Dec_ir [.d (.one (.int .i64))] [.d (.one .str)] [] []) [.c spec_l01Dec_k7]
  ⟨[(3, .view 3 0 r3.length)], [(3, some (.sl (.one (.int .u8)) r3))]⟩
noncomputable def spec_l01Dec_p3  (v7 : Int) (r3 : List Int) (r6 : List Int) : Option (List UInt8) :=
 goL spec_l01Dec_D spec_l01Dec_H (vleave spec_l01Dec_ir [.d (.one (.int .i64))] [.d (.one .str)] [] []) [.c spec_l01Dec_k4, .l spec_l01Dec_k5, .e 2, .c spec_l01Dec_k6]
  ⟨[(3, .view 3 0 r3.length), (6, .view 6 0 r6.length), (7, .int .i64 v7)], [(3, some (.sl (.one (.int .u8)) r3)), (6, some (.sl (.one (.int .u8)) r6))]⟩
theorem spec_l01Dec_eq (a0 : Int) : spec_l01Dec a0 =
  if (a0 == 0) then
   some [48]
  else
   spec_l01Dec_p0 a0 a0 [] :=
 (mk_f _ _ _ _ _ _ _ 4000).trans (by kernel_rfl)
theorem spec_l01Dec_p0_eq  (v0 : Int) (v4 : Int) (r3 : List Int) : spec_l01Dec_p0 v0 v4 r3 =
  if (v4 != 0) then
   if decide (v4.tmod 10 < 0) then
    spec_l01Dec_p1 v0 v4 (IntKind.i64.wrap (0 - (v4.tmod 10))) r3
   else
    spec_l01Dec_p1 v0 v4 (v4.tmod 10) r3
  else
   if decide (v0 < 0) then
    if decide (r3.length + 1 < lim) then
     spec_l01Dec_p2 ((r3.take r3.length) ++ [45])
    else
     none
   else
    spec_l01Dec_p2 r3 :=
 (goL_dn _ _ _ 4000 _ _).trans (by kernel_rfl)
theorem spec_l01Dec_p1_eq  (v0 : Int) (v4 : Int) (v5 : Int) (r3 : List Int) : spec_l01Dec_p1 v0 v4 v5 r3 =
  if decide (r3.length + 1 < lim) then
   spec_l01Dec_p0 v0 (IntKind.i64.wrap (v4.tdiv 10)) ((r3.take r3.length) ++ [IntKind.u8.wrap (IntKind.i64.wrap (48 + v5))])
  else
   none :=
 (goL_dn _ _ _ 4000 _ _).trans (by kernel_rfl)
theorem spec_l01Dec_p2_eq  (r3 : List Int) : spec_l01Dec_p2 r3 =
  spec_l01Dec_p3 (IntKind.i64.wrap ((r3.length : Int) - 1)) r3 [] :=
 (goL_dn _ _ _ 4000 _ _).trans (by kernel_rfl)
theorem spec_l01Dec_p3_eq  (v7 : Int) (r3 : List Int) (r6 : List Int) : spec_l01Dec_p3 v7 r3 r6 =
  if decide (v7 ≥ 0) then
   if decide (0 ≤ v7) && decide (v7 < (r3.length : Int)) then
    (r3[v7.toNat]?).bind fun x1 =>
     if decide (r6.length + 1 < lim) then
      spec_l01Dec_p3 (IntKind.i64.wrap (v7 - 1)) r3 ((r6.take r6.length) ++ [x1])
     else
      none
   else
    none
  else
   some ((r6.take r6.length).map vu8) :=
 (goL_dn _ _ _ 4000 _ _).trans (by kernel_rfl)

/- spec.l06Draw -/
def spec_l06Draw_k0 : C :=
 .seq (.seq (.reg false [⟨some 10, false, .mv (.t 5), none, false, []⟩, ⟨some 11, false, .mv (.t 3), none, false, []⟩, ⟨some 12, false, .len (.t 11), none, false, []⟩, ⟨some 13, false, .bin .lss (.t 10) (.t 12), none, false, []⟩] [0, 3, 4, 5, 13] [0, 3, 4, 1000]) (.cond (.t 13) .skip (.exit 0))) (.seq (.block 1 (.seq (.reg false [⟨some 16, false, .mv (.t 0), none, false, []⟩, ⟨some 17, true, .call (.c (.fn 642 [])) [.t 16, .c (.int .i64 4)], none, false, []⟩, ⟨some 18, false, .un .not (.t 17), none, false, []⟩] [0, 3, 4, 5, 18] [0, 3, 4, 1000]) (.cond (.t 18) (.reg false [⟨some 19, false, .mv (.t 4), none, false, []⟩, ⟨some 20, false, .mv (.t 0), none, false, []⟩, ⟨some 21, false, .mv (.t 3), none, false, []⟩, ⟨some 22, false, .mv (.t 5), none, false, []⟩, ⟨some 23, false, .ia 1 (.t 21) (.t 22), none, false, []⟩, ⟨some 24, false, .ld none (.t 23), none, false, []⟩, ⟨some 25, true, .call (.c (.fn 760 [])) [.t 20, .t 24], none, false, []⟩, ⟨some 26, false, .bsl 3 (.agg [.str [], .int .i64 0, .int .i64 0]) 1 [(0, .t 25)], none, false, []⟩, ⟨some 27, true, .app 3 32 (.t 19) (.t 26), none, false, []⟩, ⟨some 4, true, .asg (.t 27), none, false, []⟩] [0, 3, 4, 5] [0, 3, 4, 1000]) .skip))) (.reg false [⟨some 14, false, .mv (.t 5), none, false, []⟩, ⟨some 15, false, .bin .add (.t 14) (.c (.int .i64 1)), none, false, []⟩, ⟨some 5, false, .asg (.t 15), none, false, []⟩] [0, 3, 4, 5] [0, 3, 4, 1000]))
def spec_l06Draw_k1 : C :=
 .norm [0, 3, 4, 5] [0, 3, 4, 1000] spec_l06Draw_k0
def spec_l06Draw_k2 : C :=
 .seq (.seq (.reg false [⟨some 45, false, .mv (.t 7), none, false, []⟩, ⟨some 46, false, .mv (.t 6), none, false, []⟩, ⟨some 47, false, .bin .lss (.t 45) (.t 46), none, false, []⟩] [0, 4, 6, 7, 47] [0, 4, 1000]) (.cond (.t 47) .skip (.exit 3))) (.seq (.block 4 (.reg false [⟨some 50, false, .mv (.t 4), none, false, []⟩, ⟨some 51, false, .mv (.t 0), none, false, []⟩, ⟨some 52, false, .mv (.t 7), none, false, []⟩, ⟨some 53, false, .call (.c (.fn 726 [])) [.t 52], none, false, []⟩, ⟨some 54, false, .bin .add (.c (.str [110])) (.t 53), none, false, []⟩, ⟨some 55, true, .call (.c (.fn 760 [])) [.t 51, .t 54], none, false, []⟩, ⟨some 56, false, .bsl 3 (.agg [.str [], .int .i64 0, .int .i64 0]) 1 [(0, .t 55)], none, false, []⟩, ⟨some 57, true, .app 3 32 (.t 50) (.t 56), none, false, []⟩, ⟨some 4, true, .asg (.t 57), none, false, []⟩] [0, 4, 6, 7] [0, 4, 1000])) (.reg false [⟨some 48, false, .mv (.t 7), none, false, []⟩, ⟨some 49, false, .bin .add (.t 48) (.c (.int .i64 1)), none, false, []⟩, ⟨some 7, false, .asg (.t 49), none, false, []⟩] [0, 4, 6, 7] [0, 4, 1000]))
def spec_l06Draw_k3 : C :=
 .norm [0, 4, 6, 7] [0, 4, 1000] spec_l06Draw_k2
def spec_l06Draw_k4 : C :=
 .seq (.reg false [⟨some 58, false, .mv (.t 4), none, false, []⟩, ⟨some 2, true, .asg (.t 58), none, false, []⟩] [0, 2] [0, 2, 4, 1000]) .ret
def spec_l06Draw_k5 : C :=
 .seq (.seq (.reg false [⟨some 28, false, .mv (.t 0), none, false, []⟩, ⟨some 29, true, .call (.c (.fn 463 [])) [.t 28, .c (.int .i64 20)], none, false, []⟩] [0, 4, 29] [0, 4, 1000]) (.block 2 (.seq (.reg false [⟨some 31, false, .bin .eql (.t 29) (.c (.int .i64 0)), none, false, []⟩, ⟨some 30, false, .asg (.t 31), none, false, []⟩] [0, 4, 29, 30] [0, 4, 1000]) (.cond (.t 30) (.reg false [⟨some 32, false, .mv (.t 4), none, false, []⟩, ⟨some 33, false, .mv (.t 0), none, false, []⟩, ⟨some 34, false, .mv (.t 0), none, false, []⟩, ⟨some 35, true, .call (.c (.fn 760 [])) [.t 34, .c (.str [122, 122])], none, false, []⟩, ⟨some 36, true, .call (.c (.fn 761 [])) [.t 33, .t 35], none, false, []⟩, ⟨some 37, false, .bsl 3 (.agg [.str [], .int .i64 0, .int .i64 0]) 1 [(0, .t 36)], none, false, []⟩, ⟨some 38, true, .app 3 32 (.t 32) (.t 37), none, false, []⟩, ⟨some 4, true, .asg (.t 38), none, false, []⟩] [0, 4] [0, 4, 1000]) (.seq (.reg false [⟨some 40, false, .bin .eql (.t 29) (.c (.int .i64 1)), none, false, []⟩, ⟨some 39, false, .asg (.t 40), none, false, []⟩] [0, 4, 39] [0, 4, 1000]) (.cond (.t 39) (.seq (.reg false [⟨some 41, false, .mv (.t 0), none, false, []⟩, ⟨some 42, false, .bsl 1 (.int .i64 0) 2 [(0, .c (.int .i64 8)), (1, .c (.int .i64 9))], none, false, []⟩, ⟨some 43, true, .call (.c (.fn 445 [])) [.t 41, .t 42], none, false, []⟩, ⟨some 6, false, .asg (.t 43), none, false, []⟩] [0, 6] [0, 1000]) (.seq (.reg false [⟨some 44, false, .bsl 3 (.agg [.str [], .int .i64 0, .int .i64 0]) 0 [], none, false, []⟩, ⟨some 4, true, .asg (.t 44), none, false, []⟩] [0, 4, 6] [0, 4, 1000]) (.seq (.reg false [⟨some 7, false, .asg (.c (.int .i64 0)), none, false, []⟩] [0, 4, 6, 7] [0, 4, 1000]) (.block 3 (.loop spec_l06Draw_k3))))) .skip)))))) spec_l06Draw_k4
def spec_l06Draw_ir : Fn := { np := 1, io := [true], res := [.t 2], own := [true], body :=
 (.seq (.reg false [⟨some 2, true, .asg (.c (.nils 3)), none, false, []⟩] [0] [0, 1000]) (.seq (.reg false [⟨some 8, false, .bsl 1 (.str []) 6 [(0, .c (.str [114, 97])), (1, .c (.str [114, 98])), (2, .c (.str [114, 99])), (3, .c (.str [114, 100])), (4, .c (.str [114, 101])), (5, .c (.str [114, 102]))], none, false, []⟩, ⟨some 3, true, .asg (.t 8), none, false, []⟩] [0, 3] [0, 3, 1000]) (.seq (.reg false [⟨some 9, false, .bsl 3 (.agg [.str [], .int .i64 0, .int .i64 0]) 0 [], none, false, []⟩, ⟨some 4, true, .asg (.t 9), none, false, []⟩] [0, 3, 4] [0, 3, 4, 1000]) (.seq (.seq (.reg false [⟨some 5, false, .asg (.c (.int .i64 0)), none, false, []⟩] [0, 3, 4, 5] [0, 3, 4, 1000]) (.block 0 (.loop spec_l06Draw_k1))) spec_l06Draw_k5)))) }
noncomputable def spec_l06Draw_D : List (Nat × Callee) := [(445, spec_l00Src_among_c), (463, spec_l00Src_pick_c), (642, spec_l00Src_one_c), (726, spec_l01Dec_c), (760, spec_l06DrawOne_c), (761, spec_l06Bent_c)]
def spec_l06Draw_H : List (Nat × ET) := [(2, T_Mode), (3, (.one .str)), (4, T_Mode), (8, (.one .str)), (9, T_Mode), (11, (.one .str)), (19, T_Mode), (21, (.one .str)), (26, T_Mode), (27, T_Mode), (32, T_Mode), (37, T_Mode), (38, T_Mode), (42, (.one (.int .i64))), (44, T_Mode), (50, T_Mode), (56, T_Mode), (57, T_Mode), (58, T_Mode)]
noncomputable def spec_l06Draw_c : Callee := mkCallee spec_l06Draw_D spec_l06Draw_H spec_l06Draw_ir [.box T_l00Src] [.tok T_Mode] [.box T_l00Src]
noncomputable def spec_l06Draw (a0 : T_l00Src.ty) : Option (List T_Mode.ty × T_l00Src.ty) := spec_l06Draw_c.f (a0, ())
noncomputable def spec_l06Draw_p0  (v5 : Int) (r0_0 : List Int) (r0_1 : Int) (r0_2 : Int) (r3 : List (List UInt8)) (r4 : List T_Mode.ty) : Option (List T_Mode.ty × T_l00Src.ty) :=
 goL spec_l06Draw_D spec_l06Draw_H (vleave spec_l06Draw_ir [.box T_l00Src] [.tok T_Mode] [.box T_l00Src] []) [.c spec_l06Draw_k0, .l spec_l06Draw_k1, .e 0, .c spec_l06Draw_k5]
  ⟨[(0, .loc 0 0 0), (3, .view 3 0 r3.length), (4, .view 4 0 r4.length), (5, .int .i64 v5)], [(0, some (.var 3 (.agg [.sl (.one (.int .u8)) r0_0, .int .i64 r0_1, .int .u64 r0_2]))), (3, some (.sl (.one .str) r3)), (4, some (.sl T_Mode r4)), (1000, none)]⟩
noncomputable def spec_l06Draw_p1  (v6 : Int) (v7 : Int) (r0_0 : List Int) (r0_1 : Int) (r0_2 : Int) (r4 : List T_Mode.ty) : Option (List T_Mode.ty × T_l00Src.ty) :=
 goL spec_l06Draw_D spec_l06Draw_H (vleave spec_l06Draw_ir [.box T_l00Src] [.tok T_Mode] [.box T_l00Src] []) [.c spec_l06Draw_k2, .l spec_l06Draw_k3, .e 3, .e 2, .c spec_l06Draw_k4]
  ⟨[(0, .loc 0 0 0), (4, .view 4 0 r4.length), (6, .int .i64 v6), (7, .int .i64 v7)], [(0, some (.var 3 (.agg [.sl (.one (.int .u8)) r0_0, .int .i64 r0_1, .int .u64 r0_2]))), (4, some (.sl T_Mode r4)), (1000, none)]⟩
theorem spec_l06Draw_eq (a0 : T_l00Src.ty) : spec_l06Draw a0 =
  spec_l06Draw_p0 0 a0.1 a0.2.1 a0.2.2.1 [[114, 97], [114, 98], [114, 99], [114, 100], [114, 101], [114, 102]] [] :=
 (mk_f _ _ _ _ _ _ _ 4000).trans (by kernel_rfl)
theorem spec_l06Draw_p0_eq  (v5 : Int) (r0_0 : List Int) (r0_1 : Int) (r0_2 : Int) (r3 : List (List UInt8)) (r4 : List T_Mode.ty) : spec_l06Draw_p0 v5 r0_0 r0_1 r0_2 r3 r4 =
  if decide (v5 < (r3.length : Int)) then
   (spec_l00Src_one (r0_0, r0_1, r0_2, ()) 4).bind fun x1 =>
    if (!x1.1) then
     if decide (0 ≤ v5) && decide (v5 < (r3.length : Int)) then
      (r3[v5.toNat]?).bind fun x2 =>
       (spec_l06DrawOne (x1.2.1, x1.2.2.1, x1.2.2.2.1, ()) x2).bind fun x3 =>
        if decide (r4.length + 1 < lim) then
         spec_l06Draw_p0 (IntKind.i64.wrap (v5 + 1)) x3.2.1 x3.2.2.1 x3.2.2.2.1 r3 ((r4.take r4.length) ++ [(x3.1.1, x3.1.2.1, x3.1.2.2.1, ())])
        else
         none
     else
      none
    else
     spec_l06Draw_p0 (IntKind.i64.wrap (v5 + 1)) x1.2.1 x1.2.2.1 x1.2.2.2.1 r3 r4
  else
   (spec_l00Src_pick (r0_0, r0_1, r0_2, ()) 20).bind fun x4 =>
    if (x4.1 == 0) then
     (spec_l06DrawOne (x4.2.1, x4.2.2.1, x4.2.2.2.1, ()) [122, 122]).bind fun x5 =>
      (spec_l06Bent (x5.2.1, x5.2.2.1, x5.2.2.2.1, ()) (x5.1.1, x5.1.2.1, x5.1.2.2.1, ())).bind fun x6 =>
       if decide (r4.length + 1 < lim) then
        some ((((r4.take r4.length) ++ [(x6.1.1, x6.1.2.1, x6.1.2.2.1, ())]).take (((r4.take r4.length) ++ [(x6.1.1, x6.1.2.1, x6.1.2.2.1, ())]).length)), (x6.2.1, x6.2.2.1, x6.2.2.2.1, ()))
       else
        none
    else
     if (x4.1 == 1) then
      (spec_l00Src_among (x4.2.1, x4.2.2.1, x4.2.2.2.1, ()) [8, 9]).bind fun x7 =>
       spec_l06Draw_p1 x7.1 0 x7.2.1 x7.2.2.1 x7.2.2.2.1 []
     else
      some ((r4.take r4.length), (x4.2.1, x4.2.2.1, x4.2.2.2.1, ())) :=
 (goL_dn _ _ _ 4000 _ _).trans (by kernel_rfl)
theorem spec_l06Draw_p1_eq  (v6 : Int) (v7 : Int) (r0_0 : List Int) (r0_1 : Int) (r0_2 : Int) (r4 : List T_Mode.ty) : spec_l06Draw_p1 v6 v7 r0_0 r0_1 r0_2 r4 =
  if decide (v7 < v6) then
   (spec_l01Dec v7).bind fun x1 =>
    if decide ([110].length + x1.length ≤ strMax) then
     (spec_l06DrawOne (r0_0, r0_1, r0_2, ()) ([110] ++ x1)).bind fun x2 =>
      if decide (r4.length + 1 < lim) then
       spec_l06Draw_p1 v6 (IntKind.i64.wrap (v7 + 1)) x2.2.1 x2.2.2.1 x2.2.2.2.1 ((r4.take r4.length) ++ [(x2.1.1, x2.1.2.1, x2.1.2.2.1, ())])
      else
       none
    else
     none
  else
   some ((r4.take r4.length), (r0_0, r0_1, r0_2, ())) :=
 (goL_dn _ _ _ 4000 _ _).trans (by kernel_rfl)

/- spec.l06DrawRound -/
def spec_l06DrawRound_ir : Fn := { np := 1, io := [true], res := [.t 2], own := [false], body :=
 (.seq (.reg false [⟨some 2, false, .asg (.c (.int .i64 0)), none, false, []⟩] [0] [0, 1000]) (.seq (.seq (.reg false [⟨some 3, false, .mv (.t 0), none, false, []⟩, ⟨some 4, true, .call (.c (.fn 642 [])) [.t 3, .c (.int .i64 8)], none, false, []⟩] [0, 4] [0, 1000]) (.cond (.t 4) (.seq (.reg false [⟨some 5, false, .mv (.t 0), none, false, []⟩, ⟨some 6, false, .bsl 1 (.int .i64 0) 4 [(0, .c (.int .i64 (-1))), (1, .c (.int .i64 0)), (2, .c (.int .i64 100000)), (3, .c (.int .i64 100001))], none, false, []⟩, ⟨some 7, true, .call (.c (.fn 445 [])) [.t 5, .t 6], none, false, []⟩, ⟨some 2, false, .asg (.t 7), none, false, []⟩] [0, 2] [0, 1000]) .ret) .skip)) (.seq (.reg false [⟨some 8, false, .mv (.t 0), none, false, []⟩, ⟨some 9, true, .call (.c (.fn 463 [])) [.t 8, .c (.int .i64 1200)], none, false, []⟩, ⟨some 10, false, .bin .mul (.c (.int .i64 10)) (.t 9), none, false, []⟩, ⟨some 2, false, .asg (.t 10), none, false, []⟩] [0, 2] [0, 1000]) .ret))) }
noncomputable def spec_l06DrawRound_D : List (Nat × Callee) := [(445, spec_l00Src_among_c), (463, spec_l00Src_pick_c), (642, spec_l00Src_one_c)]
def spec_l06DrawRound_H : List (Nat × ET) := [(6, (.one (.int .i64)))]
noncomputable def spec_l06DrawRound_c : Callee := mkCallee spec_l06DrawRound_D spec_l06DrawRound_H spec_l06DrawRound_ir [.box T_l00Src] [.d (.one (.int .i64))] [.box T_l00Src]
noncomputable def spec_l06DrawRound (a0 : T_l00Src.ty) : Option (Int × T_l00Src.ty) := spec_l06DrawRound_c.f (a0, ())
theorem spec_l06DrawRound_eq (a0 : T_l00Src.ty) : spec_l06DrawRound a0 =
  (spec_l00Src_one a0 8).bind fun x1 =>
   if x1.1 then
    (spec_l00Src_among (x1.2.1, x1.2.2.1, x1.2.2.2.1, ()) [(-1), 0, 100000, 100001]).bind fun x2 =>
     some (x2.1, (x2.2.1, x2.2.2.1, x2.2.2.2.1, ()))
   else
    (spec_l00Src_pick (x1.2.1, x1.2.2.1, x1.2.2.2.1, ()) 1200).bind fun x3 =>
     some (IntKind.i64.wrap (10 * x3.1), (x3.2.1, x3.2.2.1, x3.2.2.2.1, ())) :=
 (mk_f _ _ _ _ _ _ _ 4000).trans (by kernel_rfl)

/- spec.DrawStretchRibs -/
def spec_DrawStretchRibs_ir : Fn := { np := 1, io := [], res := [.t 2, .t 3], own := [true, false], body :=
 (.seq (.reg false [⟨some 2, true, .asg (.c (.nils 3)), none, false, []⟩, ⟨some 3, false, .asg (.c (.int .i64 0)), none, false, []⟩] [0] []) (.seq (.reg false [⟨some 6, false, .mv (.t 0), none, false, []⟩, ⟨some 7, true, .call (.c (.fn 441 [])) [.t 6], none, false, []⟩, ⟨some 4, false, .asg (.t 7), none, false, []⟩] [4] [7, 8000]) (.seq (.reg false [⟨some 8, false, .mv (.t 4), none, false, []⟩, ⟨some 9, true, .call (.c (.fn 505 [])) [.t 8], none, false, []⟩, ⟨some 5, true, .asg (.t 9), none, false, []⟩] [4, 5] [5, 7, 8000]) (.seq (.reg false [⟨some 10, false, .mv (.t 5), none, false, []⟩, ⟨some 11, false, .mv (.t 4), none, false, []⟩, ⟨some 12, true, .call (.c (.fn 756 [])) [.t 11], none, false, []⟩, ⟨some 2, true, .asg (.t 10), none, false, []⟩, ⟨some 3, false, .asg (.t 12), none, false, []⟩] [2, 3] [2, 5]) .ret)))) }
noncomputable def spec_DrawStretchRibs_D : List (Nat × Callee) := [(441, spec_l00From_c), (505, spec_l06Draw_c), (756, spec_l06DrawRound_c)]
def spec_DrawStretchRibs_H : List (Nat × ET) := [(2, T_Mode), (5, T_Mode), (6, (.one (.int .u8))), (9, T_Mode), (10, T_Mode)]
noncomputable def spec_DrawStretchRibs_c : Callee := mkCallee spec_DrawStretchRibs_D spec_DrawStretchRibs_H spec_DrawStretchRibs_ir [.d (.one (.sl (.one (.int .u8))))] [.tok T_Mode, .d (.one (.int .i64))] []
noncomputable def spec_DrawStretchRibs (a0 : List Int) : Option (List T_Mode.ty × Int) := spec_DrawStretchRibs_c.f (a0, ())
theorem spec_DrawStretchRibs_eq (a0 : List Int) : spec_DrawStretchRibs a0 =
  (spec_l00From a0).bind fun x1 =>
   (spec_l06Draw x1).bind fun x2 =>
    (spec_l06DrawRound (x2.2.1, x2.2.2.1, x2.2.2.2.1, ())).bind fun x3 =>
     some ((x2.1.take x2.1.length), x3.1) :=
 (mk_f _ _ _ _ _ _ _ 4000).trans (by kernel_rfl)

/- impl.isDigit -/
def impl_isDigit_ir : Fn := { np := 1, io := [], res := [.t 2], own := [false], body :=
 (.seq (.reg false [⟨some 2, false, .asg (.c (.bool false)), none, false, []⟩] [0] []) (.seq (.reg false [⟨some 3, false, .mv (.t 0), none, false, []⟩, ⟨some 4, false, .bin .geq (.t 3) (.c (.int .u8 48)), none, false, []⟩, ⟨some 5, false, .mv (.t 4), none, false, []⟩, ⟨some 6, false, .mv (.t 0), some (2, true), false, []⟩, ⟨some 7, false, .bin .leq (.t 6) (.c (.int .u8 57)), some (2, true), false, []⟩, ⟨some 8, false, .pick (.t 5) (.t 7) (.c (.bool false)), none, false, []⟩, ⟨some 2, false, .asg (.t 8), none, false, []⟩] [2] []) .ret)) }
noncomputable def impl_isDigit_D : List (Nat × Callee) := []
def impl_isDigit_H : List (Nat × ET) := []
noncomputable def impl_isDigit_c : Callee := mkCallee impl_isDigit_D impl_isDigit_H impl_isDigit_ir [.d (.one (.int .u8))] [.d (.one .bool)] []
noncomputable def impl_isDigit (a0 : Int) : Option (Bool) := impl_isDigit_c.f (a0, ())
theorem impl_isDigit_eq (a0 : Int) : impl_isDigit a0 =
  if decide (a0 ≥ 48) then
   some (decide (a0 ≤ 57))
  else
   some false :=
 (mk_f _ _ _ _ _ _ _ 4000).trans (by kernel_rfl)

/- impl.few -/
def impl_few_ir : Fn := { np := 2, io := [], res := [.t 4], own := [false], body :=
 (.seq (.reg false [⟨some 4, false, .asg (.c (.bool false)), none, false, []⟩] [0, 1] []) (.seq (.reg false [⟨some 5, false, .mv (.t 0), none, false, []⟩, ⟨some 6, false, .mv (.t 1), none, false, []⟩, ⟨some 7, false, .bin .leq (.t 5) (.t 6), none, false, []⟩, ⟨some 4, false, .asg (.t 7), none, false, []⟩] [4] []) .ret)) }
noncomputable def impl_few_D : List (Nat × Callee) := []
def impl_few_H : List (Nat × ET) := []
noncomputable def impl_few_c : Callee := mkCallee impl_few_D impl_few_H impl_few_ir [.d (.one (.int .i64)), .d (.one (.int .i64))] [.d (.one .bool)] []
noncomputable def impl_few (a0 : Int) (a1 : Int) : Option (Bool) := impl_few_c.f (a0, a1, ())
theorem impl_few_eq (a0 : Int) (a1 : Int) : impl_few a0 a1 =
  some (decide (a0 ≤ a1)) :=
 (mk_f _ _ _ _ _ _ _ 4000).trans (by kernel_rfl)

/- impl.IsName -/
def impl_IsName_k0 : C :=
 .seq (.reg false [⟨some 21, false, .mv (.t 4), none, false, []⟩, ⟨some 22, false, .un .not (.t 21), none, false, []⟩, ⟨some 23, false, .mv (.t 22), none, false, []⟩, ⟨some 24, false, .mv (.t 3), some (2, true), false, []⟩, ⟨some 25, false, .bin .eql (.t 24) (.c (.int .i64 0)), some (2, true), false, []⟩, ⟨some 26, false, .mv (.t 25), some (2, true), false, []⟩, ⟨some 27, false, .mv (.t 0), some (5, false), false, []⟩, ⟨some 28, false, .mv (.t 3), some (5, false), false, []⟩, ⟨some 29, false, .ix (.t 27) (.t 28), some (5, false), false, []⟩, ⟨some 30, false, .call (.c (.fn 22 [])) [.t 29], some (5, false), false, []⟩, ⟨some 31, false, .un .not (.t 30), some (5, false), false, []⟩, ⟨some 32, false, .pick (.t 26) (.c (.bool true)) (.t 31), some (2, true), false, []⟩, ⟨some 33, false, .pick (.t 23) (.t 32) (.c (.bool false)), none, false, []⟩] [0, 3, 33] []) (.cond (.t 33) (.seq (.reg false [⟨some 2, false, .asg (.c (.bool false)), none, false, []⟩] [2] []) .ret) .skip)
def impl_IsName_k1 : C :=
 .reg false [⟨some 9, false, .mv (.t 3), none, false, []⟩, ⟨some 10, false, .bin .add (.t 9) (.c (.int .i64 1)), none, false, []⟩, ⟨some 3, false, .asg (.t 10), none, false, []⟩] [0, 3] []
def impl_IsName_k2 : C :=
 .seq (.seq (.reg false [⟨some 5, false, .mv (.t 3), none, false, []⟩, ⟨some 6, false, .mv (.t 0), none, false, []⟩, ⟨some 7, false, .lens (.t 6), none, false, []⟩, ⟨some 8, false, .bin .lss (.t 5) (.t 7), none, false, []⟩] [0, 3, 8] []) (.cond (.t 8) .skip (.exit 0))) (.seq (.block 1 (.seq (.reg false [⟨some 11, false, .mv (.t 0), none, false, []⟩, ⟨some 12, false, .mv (.t 3), none, false, []⟩, ⟨some 13, false, .ix (.t 11) (.t 12), none, false, []⟩, ⟨some 14, false, .bin .geq (.t 13) (.c (.int .u8 97)), none, false, []⟩, ⟨some 15, false, .mv (.t 14), none, false, []⟩, ⟨some 16, false, .mv (.t 0), some (4, true), false, []⟩, ⟨some 17, false, .mv (.t 3), some (4, true), false, []⟩, ⟨some 18, false, .ix (.t 16) (.t 17), some (4, true), false, []⟩, ⟨some 19, false, .bin .leq (.t 18) (.c (.int .u8 122)), some (4, true), false, []⟩, ⟨some 20, false, .pick (.t 15) (.t 19) (.c (.bool false)), none, false, []⟩, ⟨some 4, false, .asg (.t 20), none, false, []⟩] [0, 3, 4] []) (.norm [0, 3, 4] [] impl_IsName_k0))) impl_IsName_k1)
def impl_IsName_k3 : C :=
 .norm [0, 3] [] impl_IsName_k2
def impl_IsName_k4 : C :=
 .seq (.reg false [⟨some 34, false, .mv (.t 0), none, false, []⟩, ⟨some 35, false, .bin .neq (.t 34) (.c (.str [])), none, false, []⟩, ⟨some 36, false, .mv (.t 35), none, false, []⟩, ⟨some 37, false, .mv (.t 0), some (2, true), false, []⟩, ⟨some 38, false, .lens (.t 37), some (2, true), false, []⟩, ⟨some 39, false, .call (.c (.fn 21 [])) [.t 38, .c (.int .i64 10)], some (2, true), false, []⟩, ⟨some 40, false, .pick (.t 36) (.t 39) (.c (.bool false)), none, false, []⟩, ⟨some 2, false, .asg (.t 40), none, false, []⟩] [2] []) .ret
def impl_IsName_ir : Fn := { np := 1, io := [], res := [.t 2], own := [false], body :=
 (.seq (.reg false [⟨some 2, false, .asg (.c (.bool false)), none, false, []⟩] [0] []) (.seq (.seq (.reg false [⟨some 3, false, .asg (.c (.int .i64 0)), none, false, []⟩] [0, 3] []) (.block 0 (.loop impl_IsName_k3))) impl_IsName_k4)) }
noncomputable def impl_IsName_D : List (Nat × Callee) := [(21, impl_few_c), (22, impl_isDigit_c)]
def impl_IsName_H : List (Nat × ET) := []
noncomputable def impl_IsName_c : Callee := mkCallee impl_IsName_D impl_IsName_H impl_IsName_ir [.d (.one .str)] [.d (.one .bool)] []
noncomputable def impl_IsName (a0 : List UInt8) : Option (Bool) := impl_IsName_c.f (a0, ())
noncomputable def impl_IsName_p0  (v0 : List UInt8) (v3 : Int) : Option (Bool) :=
 goL impl_IsName_D impl_IsName_H (vleave impl_IsName_ir [.d (.one .str)] [.d (.one .bool)] [] []) [.c impl_IsName_k2, .l impl_IsName_k3, .e 0, .c impl_IsName_k4]
  ⟨[(0, .str v0), (3, .int .i64 v3)], []⟩
noncomputable def impl_IsName_p1  (v0 : List UInt8) (v3 : Int) (v4 : Bool) : Option (Bool) :=
 goL impl_IsName_D impl_IsName_H (vleave impl_IsName_ir [.d (.one .str)] [.d (.one .bool)] [] []) [.c impl_IsName_k0, .e 1, .c impl_IsName_k1, .l impl_IsName_k3, .e 0, .c impl_IsName_k4]
  ⟨[(0, .str v0), (3, .int .i64 v3), (4, .bool v4)], []⟩
theorem impl_IsName_eq (a0 : List UInt8) : impl_IsName a0 =
  impl_IsName_p0 a0 0 :=
 (mk_f _ _ _ _ _ _ _ 4000).trans (by kernel_rfl)
theorem impl_IsName_p0_eq  (v0 : List UInt8) (v3 : Int) : impl_IsName_p0 v0 v3 =
  if decide (v3 < (v0.length : Int)) then
   if decide (0 ≤ v3) then
    (v0[v3.toNat]?).bind fun x1 =>
     if decide ((x1.toNat : Int) ≥ 97) then
      if decide (0 ≤ v3) then
       (v0[v3.toNat]?).bind fun x2 =>
        impl_IsName_p1 v0 v3 (decide ((x2.toNat : Int) ≤ 122))
      else
       none
     else
      impl_IsName_p1 v0 v3 false
   else
    none
  else
   if (!(v0 == [])) then
    (impl_few (v0.length : Int) 10).bind fun x3 =>
     some x3
   else
    some false :=
 (goL_dn _ _ _ 4000 _ _).trans (by kernel_rfl)
theorem impl_IsName_p1_eq  (v0 : List UInt8) (v3 : Int) (v4 : Bool) : impl_IsName_p1 v0 v3 v4 =
  if (!v4) then
   if (v3 == 0) then
    some false
   else
    if decide (0 ≤ v3) then
     (v0[v3.toNat]?).bind fun x1 =>
      (impl_isDigit (x1.toNat : Int)).bind fun x2 =>
       if (!x2) then
        some false
       else
        impl_IsName_p0 v0 (IntKind.i64.wrap (v3 + 1))
    else
     none
  else
   impl_IsName_p0 v0 (IntKind.i64.wrap (v3 + 1)) :=
 (goL_dn _ _ _ 4000 _ _).trans (by kernel_rfl)

/- impl.within -/
def impl_within_ir : Fn := { np := 3, io := [], res := [.t 6], own := [false], body :=
 (.seq (.reg false [⟨some 6, false, .asg (.c (.bool false)), none, false, []⟩] [0, 1, 2] []) (.seq (.reg false [⟨some 7, false, .mv (.t 1), none, false, []⟩, ⟨some 8, false, .mv (.t 0), none, false, []⟩, ⟨some 9, false, .bin .leq (.t 7) (.t 8), none, false, []⟩, ⟨some 10, false, .mv (.t 9), none, false, []⟩, ⟨some 11, false, .mv (.t 0), some (3, true), false, []⟩, ⟨some 12, false, .mv (.t 2), some (3, true), false, []⟩, ⟨some 13, false, .bin .leq (.t 11) (.t 12), some (3, true), false, []⟩, ⟨some 14, false, .pick (.t 10) (.t 13) (.c (.bool false)), none, false, []⟩, ⟨some 6, false, .asg (.t 14), none, false, []⟩] [6] []) .ret)) }
noncomputable def impl_within_D : List (Nat × Callee) := []
def impl_within_H : List (Nat × ET) := []
noncomputable def impl_within_c : Callee := mkCallee impl_within_D impl_within_H impl_within_ir [.d (.one (.int .i64)), .d (.one (.int .i64)), .d (.one (.int .i64))] [.d (.one .bool)] []
noncomputable def impl_within (a0 : Int) (a1 : Int) (a2 : Int) : Option (Bool) := impl_within_c.f (a0, a1, a2, ())
theorem impl_within_eq (a0 : Int) (a1 : Int) (a2 : Int) : impl_within a0 a1 a2 =
  if decide (a1 ≤ a0) then
   some (decide (a0 ≤ a2))
  else
   some false :=
 (mk_f _ _ _ _ _ _ _ 4000).trans (by kernel_rfl)

/- (impl.Rib).valid -/
def impl_Rib_valid_ir : Fn := { np := 1, io := [], res := [.t 2], own := [false], body :=
 (.seq (.reg false [⟨some 1, true, .box 3 (.t 0), none, false, []⟩, ⟨some 2, false, .asg (.c (.bool false)), none, false, []⟩] [1] [1]) (.seq (.reg false [⟨some 3, false, .fa 0 (.t 1), none, false, []⟩, ⟨some 4, false, .ld none (.t 3), none, false, []⟩, ⟨some 5, false, .call (.c (.fn 24 [])) [.t 4], none, false, []⟩, ⟨some 6, false, .mv (.t 5), none, false, []⟩, ⟨some 7, false, .fa 1 (.t 1), some (3, true), false, []⟩, ⟨some 8, false, .ld none (.t 7), some (3, true), false, []⟩, ⟨some 9, false, .call (.c (.fn 23 [])) [.t 8, .c (.int .i64 1), .c (.int .i64 10000)], some (3, true), false, []⟩, ⟨some 10, false, .pick (.t 6) (.t 9) (.c (.bool false)), none, false, []⟩, ⟨some 11, false, .mv (.t 10), none, false, []⟩, ⟨some 12, false, .fa 2 (.t 1), some (8, true), false, []⟩, ⟨some 13, false, .ld none (.t 12), some (8, true), false, []⟩, ⟨some 14, false, .call (.c (.fn 23 [])) [.t 13, .c (.int .i64 1), .c (.int .i64 10000)], some (8, true), false, []⟩, ⟨some 15, false, .pick (.t 11) (.t 14) (.c (.bool false)), none, false, []⟩, ⟨some 2, false, .asg (.t 15), none, false, []⟩] [2] []) .ret)) }
noncomputable def impl_Rib_valid_D : List (Nat × Callee) := [(23, impl_within_c), (24, impl_IsName_c)]
def impl_Rib_valid_H : List (Nat × ET) := []
noncomputable def impl_Rib_valid_c : Callee := mkCallee impl_Rib_valid_D impl_Rib_valid_H impl_Rib_valid_ir [.d T_Mode] [.d (.one .bool)] []
noncomputable def impl_Rib_valid (a0 : T_Mode.ty) : Option (Bool) := impl_Rib_valid_c.f (a0, ())
theorem impl_Rib_valid_eq (a0 : T_Mode.ty) : impl_Rib_valid a0 =
  (impl_IsName a0.1).bind fun x1 =>
   if x1 then
    (impl_within a0.2.1 1 10000).bind fun x2 =>
     if x2 then
      (impl_within a0.2.2.1 1 10000).bind fun x3 =>
       some x3
     else
      some false
   else
    some false :=
 (mk_f _ _ _ _ _ _ _ 4000).trans (by kernel_rfl)

/- impl.ValidRibs -/
def impl_ValidRibs_k0 : C :=
 .seq (.reg false [⟨some 8, false, .bin .lss (.t 7) (.t 6), none, false, []⟩] [0, 5, 6, 7, 8] []) (.seq (.cond (.t 8) .skip (.exit 0)) (.seq (.block 1 (.seq (.reg false [⟨some 9, false, .mv (.t 7), none, false, []⟩, ⟨some 10, false, .ia 3 (.t 5) (.t 7), none, false, []⟩, ⟨some 11, false, .ld (some 3) (.t 10), none, false, []⟩, ⟨some 4, true, .alloc 3 (.agg [.str [], .int .i64 0, .int .i64 0]), none, false, []⟩, ⟨some 3, false, .asg (.t 9), none, false, []⟩, ⟨none, true, .sto 3 (.t 4) (.t 11), none, false, []⟩] [0, 3, 4, 5, 6, 7] [4]) (.seq (.reg true [⟨some 12, false, .ld (some 3) (.t 4), none, false, []⟩, ⟨some 13, false, .call (.c (.fn 762 [])) [.t 12], none, false, []⟩, ⟨some 14, false, .un .not (.t 13), none, false, []⟩, ⟨some 15, false, .mv (.t 14), none, false, []⟩, ⟨some 16, false, .mv (.t 3), some (3, false), false, []⟩, ⟨some 17, false, .bin .gtr (.t 16) (.c (.int .i64 0)), some (3, false), false, []⟩, ⟨some 18, false, .mv (.t 17), some (3, false), false, []⟩, ⟨some 19, false, .mv (.t 0), some (6, true), false, []⟩, ⟨some 20, false, .mv (.t 3), some (6, true), false, []⟩, ⟨some 21, false, .bin .sub (.t 20) (.c (.int .i64 1)), some (6, true), false, []⟩, ⟨some 22, false, .ia 3 (.t 19) (.t 21), some (6, true), false, []⟩, ⟨some 23, false, .fa 0 (.t 22), some (6, true), false, []⟩, ⟨some 24, false, .ld none (.t 23), some (6, true), false, []⟩, ⟨some 25, false, .fa 0 (.t 4), some (6, true), false, []⟩, ⟨some 26, false, .ld none (.t 25), some (6, true), false, []⟩, ⟨some 27, false, .bin .geq (.t 24) (.t 26), some (6, true), false, []⟩, ⟨some 28, false, .pick (.t 18) (.t 27) (.c (.bool false)), some (3, false), false, []⟩, ⟨some 29, false, .pick (.t 15) (.c (.bool true)) (.t 28), none, false, []⟩] [0, 5, 6, 7, 29] []) (.cond (.t 29) (.seq (.reg false [⟨some 2, false, .asg (.c (.bool false)), none, false, []⟩] [2] []) .ret) .skip)))) (.reg false [⟨some 30, false, .bin .add (.t 7) (.c (.int .i64 1)), none, false, []⟩, ⟨some 7, false, .mv (.t 30), none, false, []⟩] [0, 5, 6, 7] [])))
def impl_ValidRibs_k1 : C :=
 .norm [0, 5, 6, 7] [] impl_ValidRibs_k0
def impl_ValidRibs_k2 : C :=
 .seq (.reg false [⟨some 31, false, .mv (.t 0), none, false, []⟩, ⟨some 32, false, .len (.t 31), none, false, []⟩, ⟨some 33, false, .call (.c (.fn 21 [])) [.t 32, .c (.int .i64 8)], none, false, []⟩, ⟨some 2, false, .asg (.t 33), none, false, []⟩] [2] []) .ret
def impl_ValidRibs_ir : Fn := { np := 1, io := [], res := [.t 2], own := [false], body :=
 (.seq (.reg false [⟨some 2, false, .asg (.c (.bool false)), none, false, []⟩] [0] []) (.seq (.seq (.reg false [⟨some 5, false, .mv (.t 0), none, false, []⟩, ⟨some 6, false, .len (.t 5), none, false, []⟩, ⟨some 7, false, .mv (.c (.int .i64 0)), none, false, []⟩] [0, 5, 6, 7] []) (.block 0 (.loop impl_ValidRibs_k1))) impl_ValidRibs_k2)) }
noncomputable def impl_ValidRibs_D : List (Nat × Callee) := [(21, impl_few_c), (762, impl_Rib_valid_c)]
def impl_ValidRibs_H : List (Nat × ET) := [(5, T_Mode), (19, T_Mode), (31, T_Mode)]
noncomputable def impl_ValidRibs_c : Callee := mkCallee impl_ValidRibs_D impl_ValidRibs_H impl_ValidRibs_ir [.d (.one (.sl T_Mode))] [.d (.one .bool)] []
noncomputable def impl_ValidRibs (a0 : List T_Mode.ty) : Option (Bool) := impl_ValidRibs_c.f (a0, ())
noncomputable def impl_ValidRibs_p0  (v0 : List T_Mode.ty) (v5 : List T_Mode.ty) (v6 : Int) (v7 : Int) : Option (Bool) :=
 goL impl_ValidRibs_D impl_ValidRibs_H (vleave impl_ValidRibs_ir [.d (.one (.sl T_Mode))] [.d (.one .bool)] [] []) [.c impl_ValidRibs_k0, .l impl_ValidRibs_k1, .e 0, .c impl_ValidRibs_k2]
  ⟨[(0, .sl T_Mode v0), (5, .sl T_Mode v5), (6, .int .i64 v6), (7, .int .i64 v7)], []⟩
theorem impl_ValidRibs_eq (a0 : List T_Mode.ty) : impl_ValidRibs a0 =
  impl_ValidRibs_p0 a0 a0 (a0.length : Int) 0 :=
 (mk_f _ _ _ _ _ _ _ 4000).trans (by kernel_rfl)
theorem impl_ValidRibs_p0_eq  (v0 : List T_Mode.ty) (v5 : List T_Mode.ty) (v6 : Int) (v7 : Int) : impl_ValidRibs_p0 v0 v5 v6 v7 =
  if decide (v7 < v6) then
   if decide (0 ≤ v7) then
    (v5[v7.toNat]?).bind fun x1 =>
     (impl_Rib_valid x1).bind fun x2 =>
      if (!x2) then
       some false
      else
       if decide (v7 > 0) then
        if decide (0 ≤ IntKind.i64.wrap (v7 - 1)) then
         (v0[(IntKind.i64.wrap (v7 - 1)).toNat]?).bind fun x3 =>
          if (!Op.bytesLess x3.1 x1.1) then
           some false
          else
           impl_ValidRibs_p0 v0 v5 v6 (IntKind.i64.wrap (v7 + 1))
        else
         none
       else
        impl_ValidRibs_p0 v0 v5 v6 (IntKind.i64.wrap (v7 + 1))
   else
    none
  else
   (impl_few (v0.length : Int) 8).bind fun x4 =>
    some x4 :=
 (goL_dn _ _ _ 4000 _ _).trans (by kernel_rfl)

/- impl.isRound -/
def impl_isRound_ir : Fn := { np := 1, io := [], res := [.t 2], own := [false], body :=
 (.seq (.reg false [⟨some 2, false, .asg (.c (.bool false)), none, false, []⟩] [0] []) (.seq (.reg false [⟨some 3, false, .mv (.t 0), none, false, []⟩, ⟨some 4, false, .call (.c (.fn 23 [])) [.t 3, .c (.int .i64 0), .c (.int .i64 100000)], none, false, []⟩, ⟨some 2, false, .asg (.t 4), none, false, []⟩] [2] []) .ret)) }
noncomputable def impl_isRound_D : List (Nat × Callee) := [(23, impl_within_c)]
def impl_isRound_H : List (Nat × ET) := []
noncomputable def impl_isRound_c : Callee := mkCallee impl_isRound_D impl_isRound_H impl_isRound_ir [.d (.one (.int .i64))] [.d (.one .bool)] []
noncomputable def impl_isRound (a0 : Int) : Option (Bool) := impl_isRound_c.f (a0, ())
theorem impl_isRound_eq (a0 : Int) : impl_isRound a0 =
  (impl_within a0 0 100000).bind fun x1 =>
   some x1 :=
 (mk_f _ _ _ _ _ _ _ 4000).trans (by kernel_rfl)

/- impl.ribsLength -/
def impl_ribsLength_k0 : C :=
 .seq (.reg false [⟨some 9, false, .bin .lss (.t 8) (.t 7), none, false, []⟩] [3, 6, 7, 8, 9] []) (.seq (.cond (.t 9) .skip (.exit 0)) (.seq (.block 1 (.seq (.reg false [⟨some 10, false, .ia 3 (.t 6) (.t 8), none, false, []⟩, ⟨some 11, false, .ld (some 3) (.t 10), none, false, []⟩, ⟨some 5, true, .alloc 3 (.agg [.str [], .int .i64 0, .int .i64 0]), none, false, []⟩, ⟨none, true, .sto 3 (.t 5) (.t 11), none, false, []⟩] [3, 5, 6, 7, 8] [5]) (.reg false [⟨some 12, false, .mv (.t 3), none, false, []⟩, ⟨some 13, false, .fa 1 (.t 5), none, false, []⟩, ⟨some 14, false, .ld none (.t 13), none, false, []⟩, ⟨some 15, false, .bin .add (.t 12) (.t 14), none, false, []⟩, ⟨some 3, false, .asg (.t 15), none, false, []⟩] [3, 6, 7, 8] []))) (.reg false [⟨some 16, false, .bin .add (.t 8) (.c (.int .i64 1)), none, false, []⟩, ⟨some 8, false, .mv (.t 16), none, false, []⟩] [3, 6, 7, 8] [])))
def impl_ribsLength_k1 : C :=
 .norm [3, 6, 7, 8] [] impl_ribsLength_k0
def impl_ribsLength_k2 : C :=
 .seq (.reg false [⟨some 17, false, .mv (.t 3), none, false, []⟩, ⟨some 2, false, .asg (.t 17), none, false, []⟩] [2] []) .ret
def impl_ribsLength_ir : Fn := { np := 1, io := [], res := [.t 2], own := [false], body :=
 (.seq (.reg false [⟨some 2, false, .asg (.c (.int .i64 0)), none, false, []⟩] [0] []) (.seq (.reg false [⟨some 3, false, .asg (.c (.int .i64 0)), none, false, []⟩] [0, 3] []) (.seq (.seq (.reg false [⟨some 6, false, .mv (.t 0), none, false, []⟩, ⟨some 7, false, .len (.t 6), none, false, []⟩, ⟨some 8, false, .mv (.c (.int .i64 0)), none, false, []⟩] [3, 6, 7, 8] []) (.block 0 (.loop impl_ribsLength_k1))) impl_ribsLength_k2))) }
noncomputable def impl_ribsLength_D : List (Nat × Callee) := []
def impl_ribsLength_H : List (Nat × ET) := [(6, T_Mode)]
noncomputable def impl_ribsLength_c : Callee := mkCallee impl_ribsLength_D impl_ribsLength_H impl_ribsLength_ir [.d (.one (.sl T_Mode))] [.d (.one (.int .i64))] []
noncomputable def impl_ribsLength (a0 : List T_Mode.ty) : Option (Int) := impl_ribsLength_c.f (a0, ())
noncomputable def impl_ribsLength_p0  (v3 : Int) (v6 : List T_Mode.ty) (v7 : Int) (v8 : Int) : Option (Int) :=
 goL impl_ribsLength_D impl_ribsLength_H (vleave impl_ribsLength_ir [.d (.one (.sl T_Mode))] [.d (.one (.int .i64))] [] []) [.c impl_ribsLength_k0, .l impl_ribsLength_k1, .e 0, .c impl_ribsLength_k2]
  ⟨[(3, .int .i64 v3), (6, .sl T_Mode v6), (7, .int .i64 v7), (8, .int .i64 v8)], []⟩
theorem impl_ribsLength_eq (a0 : List T_Mode.ty) : impl_ribsLength a0 =
  impl_ribsLength_p0 0 a0 (a0.length : Int) 0 :=
 (mk_f _ _ _ _ _ _ _ 4000).trans (by kernel_rfl)
theorem impl_ribsLength_p0_eq  (v3 : Int) (v6 : List T_Mode.ty) (v7 : Int) (v8 : Int) : impl_ribsLength_p0 v3 v6 v7 v8 =
  if decide (v8 < v7) then
   if decide (0 ≤ v8) then
    (v6[v8.toNat]?).bind fun x1 =>
     impl_ribsLength_p0 (IntKind.i64.wrap (v3 + x1.2.1)) v6 v7 (IntKind.i64.wrap (v8 + 1))
   else
    none
  else
   some v3 :=
 (goL_dn _ _ _ 4000 _ _).trans (by kernel_rfl)

/- impl.clone[impl.Rib] -/
def impl_clone_impl_Rib__ir : Fn := { np := 1, io := [], res := [.t 2], own := [true], body :=
 (.seq (.reg false [⟨some 2, true, .asg (.c (.nils 3)), none, false, []⟩] [0] []) (.seq (.reg false [⟨some 3, false, .mv (.t 0), none, false, []⟩, ⟨some 4, false, .len (.t 3), none, false, []⟩, ⟨some 5, false, .mks 3 32 (.agg [.str [], .int .i64 0, .int .i64 0]) (.c (.int .i64 0)) (.t 4), none, false, []⟩, ⟨some 6, false, .mv (.t 0), none, false, []⟩, ⟨some 7, true, .app 3 32 (.t 5) (.t 6), none, false, []⟩, ⟨some 2, true, .asg (.t 7), none, false, []⟩] [2] [2]) .ret)) }
noncomputable def impl_clone_impl_Rib__D : List (Nat × Callee) := []
def impl_clone_impl_Rib__H : List (Nat × ET) := [(2, T_Mode), (3, T_Mode), (5, T_Mode), (6, T_Mode), (7, T_Mode)]
noncomputable def impl_clone_impl_Rib__c : Callee := mkCallee impl_clone_impl_Rib__D impl_clone_impl_Rib__H impl_clone_impl_Rib__ir [.d (.one (.sl T_Mode))] [.tok T_Mode] []
noncomputable def impl_clone_impl_Rib_ (a0 : List T_Mode.ty) : Option (List T_Mode.ty) := impl_clone_impl_Rib__c.f (a0, ())
theorem impl_clone_impl_Rib__eq (a0 : List T_Mode.ty) : impl_clone_impl_Rib_ a0 =
  if decide (0 ≤ (a0.length : Int)) && decide ((a0.length : Int).toNat < lim) then
   if decide (0 + a0.length < lim) then
    some (([] ++ a0).take (([] ++ a0).length))
   else
    none
  else
   none :=
 (mk_f _ _ _ _ _ _ _ 4000).trans (by kernel_rfl)

/- impl.StretchRibs -/
def impl_StretchRibs_k0 : C :=
 .seq (.reg false [⟨some 29, false, .bin .lss (.t 28) (.t 27), none, false, []⟩] [0, 1, 6, 7, 27, 28, 29] [7]) (.seq (.cond (.t 29) .skip (.exit 1)) (.seq (.block 2 (.seq (.reg false [⟨some 30, false, .mv (.t 28), none, false, []⟩, ⟨some 8, false, .asg (.t 30), none, false, []⟩] [0, 1, 6, 7, 8, 27, 28] [7]) (.reg false [⟨some 31, false, .mv (.t 7), none, false, []⟩, ⟨some 32, false, .mv (.t 8), none, false, []⟩, ⟨some 33, false, .mv (.t 1), none, false, []⟩, ⟨some 34, false, .mv (.t 0), none, false, []⟩, ⟨some 35, false, .mv (.t 8), none, false, []⟩, ⟨some 36, false, .ia 3 (.t 34) (.t 35), none, false, []⟩, ⟨some 37, false, .fa 1 (.t 36), none, false, []⟩, ⟨some 38, false, .ld none (.t 37), none, false, []⟩, ⟨some 39, false, .bin .mul (.t 33) (.t 38), none, false, []⟩, ⟨some 40, false, .mv (.t 6), none, false, []⟩, ⟨some 41, false, .bin .quo (.t 39) (.t 40), none, false, []⟩, ⟨some 42, false, .ia 3 (.t 31) (.t 32), none, false, []⟩, ⟨some 43, false, .fa 1 (.t 42), none, false, []⟩, ⟨none, true, .sto 1 (.t 43) (.t 41), none, false, []⟩] [0, 1, 6, 7, 27, 28] [7]))) (.reg false [⟨some 44, false, .bin .add (.t 28) (.c (.int .i64 1)), none, false, []⟩, ⟨some 28, false, .mv (.t 44), none, false, []⟩] [0, 1, 6, 7, 27, 28] [7])))
def impl_StretchRibs_k1 : C :=
 .norm [0, 1, 6, 7, 27, 28] [7] impl_StretchRibs_k0
def impl_StretchRibs_k2 : C :=
 .seq (.reg false [⟨some 50, false, .bin .lss (.t 49) (.t 48), none, false, []⟩] [7, 48, 49, 50] [7]) (.seq (.cond (.t 50) .skip (.exit 3)) (.seq (.block 4 (.seq (.reg false [⟨some 51, false, .mv (.t 49), none, false, []⟩, ⟨some 9, false, .asg (.t 51), none, false, []⟩] [7, 9, 48, 49] [7]) (.reg false [⟨some 52, false, .mv (.t 7), none, false, []⟩, ⟨some 53, false, .mv (.t 9), none, false, []⟩, ⟨some 54, false, .ia 3 (.t 52) (.t 53), none, false, []⟩, ⟨some 55, false, .fa 1 (.t 54), none, false, []⟩, ⟨some 56, false, .ld none (.t 55), none, false, []⟩, ⟨some 57, false, .bin .add (.t 56) (.c (.int .i64 1)), none, false, []⟩, ⟨some 58, false, .ia 3 (.t 52) (.t 53), none, false, []⟩, ⟨some 59, false, .fa 1 (.t 58), none, false, []⟩, ⟨none, true, .sto 1 (.t 59) (.t 57), none, false, []⟩] [7, 48, 49] [7]))) (.reg false [⟨some 60, false, .bin .add (.t 49) (.c (.int .i64 1)), none, false, []⟩, ⟨some 49, false, .mv (.t 60), none, false, []⟩] [7, 48, 49] [7])))
def impl_StretchRibs_k3 : C :=
 .norm [7, 48, 49] [7] impl_StretchRibs_k2
def impl_StretchRibs_k4 : C :=
 .seq (.seq (.reg false [⟨some 61, false, .mv (.t 7), none, false, []⟩, ⟨some 62, false, .call (.c (.fn 509 [])) [.t 61], none, false, []⟩, ⟨some 63, false, .un .not (.t 62), none, false, []⟩] [7, 63] [7]) (.cond (.t 63) (.seq (.reg false [⟨some 4, true, .asg (.c (.nils 3)), none, false, []⟩, ⟨some 5, false, .asg (.c (.int .i64 6)), none, false, []⟩] [4, 5] [4, 7]) .ret) .skip)) (.seq (.reg false [⟨some 64, false, .mv (.t 7), none, false, []⟩, ⟨some 4, true, .asg (.t 64), none, false, []⟩, ⟨some 5, false, .asg (.c (.int .i64 0)), none, false, []⟩] [4, 5] [4, 7]) .ret)
def impl_StretchRibs_k5 : C :=
 .seq (.seq (.reg false [⟨some 45, false, .mv (.t 1), none, false, []⟩, ⟨some 46, false, .mv (.t 7), none, false, []⟩, ⟨some 47, false, .call (.c (.fn 757 [])) [.t 46], none, false, []⟩, ⟨some 48, false, .bin .sub (.t 45) (.t 47), none, false, []⟩, ⟨some 49, false, .mv (.c (.int .i64 0)), none, false, []⟩] [7, 48, 49] [7]) (.block 3 (.loop impl_StretchRibs_k3))) impl_StretchRibs_k4
def impl_StretchRibs_ir : Fn := { np := 2, io := [], res := [.t 4, .t 5], own := [true, false], body :=
 (.seq (.reg false [⟨some 4, true, .asg (.c (.nils 3)), none, false, []⟩, ⟨some 5, false, .asg (.c (.int .i64 0)), none, false, []⟩] [0, 1] []) (.seq (.block 0 (.seq (.reg false [⟨some 11, false, .mv (.t 0), none, false, []⟩, ⟨some 12, false, .call (.c (.fn 509 [])) [.t 11], none, false, []⟩, ⟨some 13, false, .un .not (.t 12), none, false, []⟩, ⟨some 10, false, .asg (.t 13), none, false, []⟩] [0, 1, 10] []) (.cond (.t 10) (.seq (.reg false [⟨some 4, true, .asg (.c (.nils 3)), none, false, []⟩, ⟨some 5, false, .asg (.c (.int .i64 1)), none, false, []⟩] [4, 5] [4, 7]) .ret) (.seq (.reg false [⟨some 15, false, .mv (.t 1), none, false, []⟩, ⟨some 16, false, .call (.c (.fn 759 [])) [.t 15], none, false, []⟩, ⟨some 17, false, .un .not (.t 16), none, false, []⟩, ⟨some 14, false, .asg (.t 17), none, false, []⟩] [0, 1, 14] []) (.cond (.t 14) (.seq (.reg false [⟨some 4, true, .asg (.c (.nils 3)), none, false, []⟩, ⟨some 5, false, .asg (.c (.int .i64 2)), none, false, []⟩] [4, 5] [4, 7]) .ret) (.seq (.reg false [⟨some 19, false, .mv (.t 0), none, false, []⟩, ⟨some 20, false, .len (.t 19), none, false, []⟩, ⟨some 21, false, .bin .eql (.t 20) (.c (.int .i64 0)), none, false, []⟩, ⟨some 18, false, .asg (.t 21), none, false, []⟩] [0, 1, 18] []) (.cond (.t 18) (.seq (.reg false [⟨some 4, true, .asg (.c (.nils 3)), none, false, []⟩, ⟨some 5, false, .asg (.c (.int .i64 6)), none, false, []⟩] [4, 5] [4, 7]) .ret) .skip))))))) (.seq (.reg false [⟨some 22, false, .mv (.t 0), none, false, []⟩, ⟨some 23, false, .call (.c (.fn 757 [])) [.t 22], none, false, []⟩, ⟨some 6, false, .asg (.t 23), none, false, []⟩] [0, 1, 6] []) (.seq (.reg false [⟨some 24, false, .mv (.t 0), none, false, []⟩, ⟨some 25, false, .call (.c (.fn 758 [])) [.t 24], none, false, []⟩, ⟨some 7, true, .asg (.t 25), none, false, []⟩] [0, 1, 6, 7] [7]) (.seq (.seq (.reg false [⟨some 26, false, .mv (.t 7), none, false, []⟩, ⟨some 27, false, .len (.t 26), none, false, []⟩, ⟨some 28, false, .mv (.c (.int .i64 0)), none, false, []⟩] [0, 1, 6, 7, 27, 28] [7]) (.block 1 (.loop impl_StretchRibs_k1))) impl_StretchRibs_k5))))) }
noncomputable def impl_StretchRibs_D : List (Nat × Callee) := [(509, impl_ValidRibs_c), (757, impl_ribsLength_c), (758, impl_clone_impl_Rib__c), (759, impl_isRound_c)]
def impl_StretchRibs_H : List (Nat × ET) := [(4, T_Mode), (7, T_Mode), (11, T_Mode), (19, T_Mode), (22, T_Mode), (24, T_Mode), (25, T_Mode), (26, T_Mode), (31, T_Mode), (34, T_Mode), (46, T_Mode), (52, T_Mode), (61, T_Mode), (64, T_Mode)]
noncomputable def impl_StretchRibs_c : Callee := mkCallee impl_StretchRibs_D impl_StretchRibs_H impl_StretchRibs_ir [.d (.one (.sl T_Mode)), .d (.one (.int .i64))] [.tok T_Mode, .d (.one (.int .i64))] []
noncomputable def impl_StretchRibs (a0 : List T_Mode.ty) (a1 : Int) : Option (List T_Mode.ty × Int) := impl_StretchRibs_c.f (a0, a1, ())
noncomputable def impl_StretchRibs_p0  (v0 : List T_Mode.ty) (v1 : Int) (v6 : Int) (v7n : Nat) (v27 : Int) (v28 : Int) (r7 : List T_Mode.ty) : Option (List T_Mode.ty × Int) :=
 goL impl_StretchRibs_D impl_StretchRibs_H (vleave impl_StretchRibs_ir [.d (.one (.sl T_Mode)), .d (.one (.int .i64))] [.tok T_Mode, .d (.one (.int .i64))] [] []) [.c impl_StretchRibs_k0, .l impl_StretchRibs_k1, .e 1, .c impl_StretchRibs_k5]
  ⟨[(0, .sl T_Mode v0), (1, .int .i64 v1), (6, .int .i64 v6), (7, .view 7 0 v7n), (27, .int .i64 v27), (28, .int .i64 v28)], [(7, some (.sl T_Mode r7))]⟩
noncomputable def impl_StretchRibs_p1  (v7n : Nat) (v48 : Int) (v49 : Int) (r7 : List T_Mode.ty) : Option (List T_Mode.ty × Int) :=
 goL impl_StretchRibs_D impl_StretchRibs_H (vleave impl_StretchRibs_ir [.d (.one (.sl T_Mode)), .d (.one (.int .i64))] [.tok T_Mode, .d (.one (.int .i64))] [] []) [.c impl_StretchRibs_k2, .l impl_StretchRibs_k3, .e 3, .c impl_StretchRibs_k4]
  ⟨[(7, .view 7 0 v7n), (48, .int .i64 v48), (49, .int .i64 v49)], [(7, some (.sl T_Mode r7))]⟩
theorem impl_StretchRibs_eq (a0 : List T_Mode.ty) (a1 : Int) : impl_StretchRibs a0 a1 =
  (impl_ValidRibs a0).bind fun x1 =>
   if (!x1) then
    some ([], 1)
   else
    (impl_isRound a1).bind fun x2 =>
     if (!x2) then
      some ([], 2)
     else
      if ((a0.length : Int) == 0) then
       some ([], 6)
      else
       (impl_ribsLength a0).bind fun x3 =>
        (impl_clone_impl_Rib_ a0).bind fun x4 =>
         impl_StretchRibs_p0 a0 a1 x3 x4.length (x4.length : Int) 0 x4 :=
 (mk_f _ _ _ _ _ _ _ 4000).trans (by kernel_rfl)
theorem impl_StretchRibs_p0_eq  (v0 : List T_Mode.ty) (v1 : Int) (v6 : Int) (v7n : Nat) (v27 : Int) (v28 : Int) (r7 : List T_Mode.ty) : impl_StretchRibs_p0 v0 v1 v6 v7n v27 v28 r7 =
  if decide (v28 < v27) then
   if decide (0 ≤ v28) then
    (v0[v28.toNat]?).bind fun x1 =>
     if decide (v6 = 0) then
      none
     else
      if decide (0 ≤ v28) && decide (v28 < (v7n : Int)) then
       (r7[v28.toNat]?).bind fun x2 =>
        impl_StretchRibs_p0 v0 v1 v6 v7n v27 (IntKind.i64.wrap (v28 + 1)) (r7.set v28.toNat (x2.1, IntKind.i64.wrap ((IntKind.i64.wrap (v1 * x1.2.1)).tdiv v6), x2.2.2.1, ()))
      else
       none
   else
    none
  else
   (impl_ribsLength (r7.take v7n)).bind fun x3 =>
    impl_StretchRibs_p1 v7n (IntKind.i64.wrap (v1 - x3)) 0 r7 :=
 (goL_dn _ _ _ 4000 _ _).trans (by kernel_rfl)
theorem impl_StretchRibs_p1_eq  (v7n : Nat) (v48 : Int) (v49 : Int) (r7 : List T_Mode.ty) : impl_StretchRibs_p1 v7n v48 v49 r7 =
  if decide (v49 < v48) then
   if decide (0 ≤ v49) && decide (v49 < (v7n : Int)) then
    (r7[v49.toNat]?).bind fun x1 =>
     if decide (0 ≤ v49) && decide (v49 < (v7n : Int)) then
      (r7[v49.toNat]?).bind fun x2 =>
       impl_StretchRibs_p1 v7n v48 (IntKind.i64.wrap (v49 + 1)) (r7.set v49.toNat (x2.1, IntKind.i64.wrap (x1.2.1 + 1), x2.2.2.1, ()))
     else
      none
   else
    none
  else
   (impl_ValidRibs (r7.take v7n)).bind fun x3 =>
    if (!x3) then
     some ([], 6)
    else
     some ((r7.take v7n), 0) :=
 (goL_dn _ _ _ 4000 _ _).trans (by kernel_rfl)

/- impl.MouldGap -/
def impl_MouldGap_ir : Fn := { np := 2, io := [], res := [.t 4, .t 5], own := [false, false], body :=
 (.seq (.reg false [⟨some 4, false, .asg (.c (.int .i64 0)), none, false, []⟩, ⟨some 5, false, .asg (.c (.int .i64 0)), none, false, []⟩] [0, 1] []) (.seq (.seq (.reg false [⟨some 6, false, .mv (.t 0), none, false, []⟩, ⟨some 7, false, .call (.c (.fn 509 [])) [.t 6], none, false, []⟩, ⟨some 8, false, .un .not (.t 7), none, false, []⟩] [0, 1, 8] []) (.cond (.t 8) (.seq (.reg false [⟨some 4, false, .asg (.c (.int .i64 0)), none, false, []⟩, ⟨some 5, false, .asg (.c (.int .i64 1)), none, false, []⟩] [4, 5] []) .ret) .skip)) (.seq (.seq (.reg false [⟨some 9, false, .mv (.t 1), none, false, []⟩, ⟨some 10, false, .call (.c (.fn 759 [])) [.t 9], none, false, []⟩, ⟨some 11, false, .un .not (.t 10), none, false, []⟩] [0, 1, 11] []) (.cond (.t 11) (.seq (.reg false [⟨some 4, false, .asg (.c (.int .i64 0)), none, false, []⟩, ⟨some 5, false, .asg (.c (.int .i64 2)), none, false, []⟩] [4, 5] []) .ret) .skip)) (.seq (.reg false [⟨some 12, false, .mv (.t 1), none, false, []⟩, ⟨some 13, false, .mv (.t 0), none, false, []⟩, ⟨some 14, false, .call (.c (.fn 757 [])) [.t 13], none, false, []⟩, ⟨some 15, false, .bin .sub (.t 12) (.t 14), none, false, []⟩, ⟨some 4, false, .asg (.t 15), none, false, []⟩, ⟨some 5, false, .asg (.c (.int .i64 0)), none, false, []⟩] [4, 5] []) .ret)))) }
noncomputable def impl_MouldGap_D : List (Nat × Callee) := [(509, impl_ValidRibs_c), (757, impl_ribsLength_c), (759, impl_isRound_c)]
def impl_MouldGap_H : List (Nat × ET) := [(6, T_Mode), (13, T_Mode)]
noncomputable def impl_MouldGap_c : Callee := mkCallee impl_MouldGap_D impl_MouldGap_H impl_MouldGap_ir [.d (.one (.sl T_Mode)), .d (.one (.int .i64))] [.d (.one (.int .i64)), .d (.one (.int .i64))] []
noncomputable def impl_MouldGap (a0 : List T_Mode.ty) (a1 : Int) : Option (Int × Int) := impl_MouldGap_c.f (a0, a1, ())
theorem impl_MouldGap_eq (a0 : List T_Mode.ty) (a1 : Int) : impl_MouldGap a0 a1 =
  (impl_ValidRibs a0).bind fun x1 =>
   if (!x1) then
    some (0, 1)
   else
    (impl_isRound a1).bind fun x2 =>
     if (!x2) then
      some (0, 2)
     else
      (impl_ribsLength a0).bind fun x3 =>
       some (IntKind.i64.wrap (a1 - x3), 0) :=
 (mk_f _ _ _ _ _ _ _ 4000).trans (by kernel_rfl)

/- impl.RibsLength -/
def impl_RibsLength_ir : Fn := { np := 1, io := [], res := [.t 2, .t 3], own := [false, false], body :=
 (.seq (.reg false [⟨some 2, false, .asg (.c (.int .i64 0)), none, false, []⟩, ⟨some 3, false, .asg (.c (.int .i64 0)), none, false, []⟩] [0] []) (.seq (.seq (.reg false [⟨some 4, false, .mv (.t 0), none, false, []⟩, ⟨some 5, false, .call (.c (.fn 509 [])) [.t 4], none, false, []⟩, ⟨some 6, false, .un .not (.t 5), none, false, []⟩] [0, 6] []) (.cond (.t 6) (.seq (.reg false [⟨some 2, false, .asg (.c (.int .i64 0)), none, false, []⟩, ⟨some 3, false, .asg (.c (.int .i64 1)), none, false, []⟩] [2, 3] []) .ret) .skip)) (.seq (.reg false [⟨some 7, false, .mv (.t 0), none, false, []⟩, ⟨some 8, false, .call (.c (.fn 757 [])) [.t 7], none, false, []⟩, ⟨some 2, false, .asg (.t 8), none, false, []⟩, ⟨some 3, false, .asg (.c (.int .i64 0)), none, false, []⟩] [2, 3] []) .ret))) }
noncomputable def impl_RibsLength_D : List (Nat × Callee) := [(509, impl_ValidRibs_c), (757, impl_ribsLength_c)]
def impl_RibsLength_H : List (Nat × ET) := [(4, T_Mode), (7, T_Mode)]
noncomputable def impl_RibsLength_c : Callee := mkCallee impl_RibsLength_D impl_RibsLength_H impl_RibsLength_ir [.d (.one (.sl T_Mode))] [.d (.one (.int .i64)), .d (.one (.int .i64))] []
noncomputable def impl_RibsLength (a0 : List T_Mode.ty) : Option (Int × Int) := impl_RibsLength_c.f (a0, ())
theorem impl_RibsLength_eq (a0 : List T_Mode.ty) : impl_RibsLength a0 =
  (impl_ValidRibs a0).bind fun x1 =>
   if (!x1) then
    some (0, 1)
   else
    (impl_ribsLength a0).bind fun x2 =>
     some (x2, 0) :=
 (mk_f _ _ _ _ _ _ _ 4000).trans (by kernel_rfl)

/- laws.b10Abs -/
def laws_b10Abs_ir : Fn := { np := 1, io := [], res := [.t 2], own := [false], body :=
 (.seq (.reg false [⟨some 2, false, .asg (.c (.int .i64 0)), none, false, []⟩] [0] []) (.seq (.seq (.reg false [⟨some 3, false, .mv (.t 0), none, false, []⟩, ⟨some 4, false, .bin .lss (.t 3) (.c (.int .i64 0)), none, false, []⟩] [0, 4] []) (.cond (.t 4) (.seq (.reg false [⟨some 5, false, .mv (.t 0), none, false, []⟩, ⟨some 6, false, .un .neg (.t 5), none, false, []⟩, ⟨some 2, false, .asg (.t 6), none, false, []⟩] [2] []) .ret) .skip)) (.seq (.reg false [⟨some 7, false, .mv (.t 0), none, false, []⟩, ⟨some 2, false, .asg (.t 7), none, false, []⟩] [2] []) .ret))) }
noncomputable def laws_b10Abs_D : List (Nat × Callee) := []
def laws_b10Abs_H : List (Nat × ET) := []
noncomputable def laws_b10Abs_c : Callee := mkCallee laws_b10Abs_D laws_b10Abs_H laws_b10Abs_ir [.d (.one (.int .i64))] [.d (.one (.int .i64))] []
noncomputable def laws_b10Abs (a0 : Int) : Option (Int) := laws_b10Abs_c.f (a0, ())
theorem laws_b10Abs_eq (a0 : Int) : laws_b10Abs a0 =
  if decide (a0 < 0) then
   some (IntKind.i64.wrap (0 - a0))
  else
   some a0 :=
 (mk_f _ _ _ _ _ _ _ 4000).trans (by kernel_rfl)

/- spec.DrawBlocksAt -/
def spec_DrawBlocksAt_ir : Fn := { np := 1, io := [], res := [.t 2, .t 3], own := [true, false], body :=
 (.seq (.reg false [⟨some 2, true, .asg (.c (.nils 3)), none, false, []⟩, ⟨some 3, false, .asg (.c (.int .i64 0)), none, false, []⟩] [0] []) (.seq (.reg false [⟨some 6, false, .mv (.t 0), none, false, []⟩, ⟨some 7, true, .call (.c (.fn 441 [])) [.t 6], none, false, []⟩, ⟨some 4, false, .asg (.t 7), none, false, []⟩] [4] [7, 8000]) (.seq (.reg false [⟨some 8, false, .mv (.t 4), none, false, []⟩, ⟨some 9, true, .call (.c (.fn 505 [])) [.t 8], none, false, []⟩, ⟨some 5, true, .asg (.t 9), none, false, []⟩] [4, 5] [5, 7, 8000]) (.seq (.reg false [⟨some 10, false, .mv (.t 5), none, false, []⟩, ⟨some 11, false, .mv (.t 4), none, false, []⟩, ⟨some 12, false, .bsl 1 (.int .i64 0) 7 [(0, .c (.int .i64 1)), (1, .c (.int .i64 200)), (2, .c (.int .i64 250)), (3, .c (.int .i64 300)), (4, .c (.int .i64 10000)), (5, .c (.int .i64 10001)), (6, .c (.int .i64 0))], none, false, []⟩, ⟨some 13, true, .call (.c (.fn 445 [])) [.t 11, .t 12], none, false, []⟩, ⟨some 2, true, .asg (.t 10), none, false, []⟩, ⟨some 3, false, .asg (.t 13), none, false, []⟩] [2, 3] [2, 5]) .ret)))) }
noncomputable def spec_DrawBlocksAt_D : List (Nat × Callee) := [(441, spec_l00From_c), (445, spec_l00Src_among_c), (505, spec_l06Draw_c)]
def spec_DrawBlocksAt_H : List (Nat × ET) := [(2, T_Mode), (5, T_Mode), (6, (.one (.int .u8))), (9, T_Mode), (10, T_Mode), (12, (.one (.int .i64)))]
noncomputable def spec_DrawBlocksAt_c : Callee := mkCallee spec_DrawBlocksAt_D spec_DrawBlocksAt_H spec_DrawBlocksAt_ir [.d (.one (.sl (.one (.int .u8))))] [.tok T_Mode, .d (.one (.int .i64))] []
noncomputable def spec_DrawBlocksAt (a0 : List Int) : Option (List T_Mode.ty × Int) := spec_DrawBlocksAt_c.f (a0, ())
theorem spec_DrawBlocksAt_eq (a0 : List Int) : spec_DrawBlocksAt a0 =
  (spec_l00From a0).bind fun x1 =>
   (spec_l06Draw x1).bind fun x2 =>
    (spec_l00Src_among (x2.2.1, x2.2.2.1, x2.2.2.2.1, ()) [1, 200, 250, 300, 10000, 10001, 0]).bind fun x3 =>
     some ((x2.1.take x2.1.length), x3.1) :=
 (mk_f _ _ _ _ _ _ _ 4000).trans (by kernel_rfl)

/- impl.BlocksAt -/
def impl_BlocksAt_k0 : C :=
 .seq (.reg false [⟨some 20, false, .bin .lss (.t 19) (.t 18), none, false, []⟩] [1, 6, 7, 17, 18, 19, 20] [6]) (.seq (.cond (.t 20) .skip (.exit 0)) (.seq (.block 1 (.seq (.reg false [⟨some 21, false, .ia 3 (.t 17) (.t 19), none, false, []⟩, ⟨some 22, false, .ld (some 3) (.t 21), none, false, []⟩, ⟨some 9, true, .alloc 3 (.agg [.str [], .int .i64 0, .int .i64 0]), none, false, []⟩, ⟨none, true, .sto 3 (.t 9) (.t 22), none, false, []⟩] [1, 6, 7, 9, 17, 18, 19] [6, 9]) (.seq (.seq (.reg false [⟨some 23, false, .fa 2 (.t 9), none, false, []⟩, ⟨some 24, false, .ld none (.t 23), none, false, []⟩, ⟨some 25, false, .mv (.t 1), none, false, []⟩, ⟨some 26, false, .bin .lss (.t 24) (.t 25), none, false, []⟩] [1, 6, 7, 9, 17, 18, 19, 26] [6, 9]) (.cond (.t 26) (.seq (.reg false [⟨some 4, true, .asg (.c (.nils 1)), none, false, []⟩, ⟨some 5, false, .asg (.c (.int .i64 6)), none, false, []⟩] [4, 5] [4, 6]) .ret) .skip)) (.seq (.reg false [⟨some 27, false, .mv (.t 6), none, false, []⟩, ⟨some 28, false, .mv (.t 7), none, false, []⟩, ⟨some 29, false, .bsl 1 (.int .i64 0) 1 [(0, .t 28)], none, false, []⟩, ⟨some 30, true, .app 1 8 (.t 27) (.t 29), none, false, []⟩, ⟨some 6, true, .asg (.t 30), none, false, []⟩] [1, 6, 7, 9, 17, 18, 19] [6, 9]) (.reg false [⟨some 31, false, .mv (.t 7), none, false, []⟩, ⟨some 32, false, .fa 1 (.t 9), none, false, []⟩, ⟨some 33, false, .ld none (.t 32), none, false, []⟩, ⟨some 34, false, .bin .add (.t 31) (.t 33), none, false, []⟩, ⟨some 7, false, .asg (.t 34), none, false, []⟩] [1, 6, 7, 17, 18, 19] [6]))))) (.reg false [⟨some 35, false, .bin .add (.t 19) (.c (.int .i64 1)), none, false, []⟩, ⟨some 19, false, .mv (.t 35), none, false, []⟩] [1, 6, 7, 17, 18, 19] [6])))
def impl_BlocksAt_k1 : C :=
 .norm [1, 6, 7, 17, 18, 19] [6] impl_BlocksAt_k0
def impl_BlocksAt_k2 : C :=
 .seq (.reg false [⟨some 36, false, .mv (.t 6), none, false, []⟩, ⟨some 4, true, .asg (.t 36), none, false, []⟩, ⟨some 5, false, .asg (.c (.int .i64 0)), none, false, []⟩] [4, 5] [4, 6]) .ret
def impl_BlocksAt_ir : Fn := { np := 2, io := [], res := [.t 4, .t 5], own := [true, false], body :=
 (.seq (.reg false [⟨some 4, true, .asg (.c (.nils 1)), none, false, []⟩, ⟨some 5, false, .asg (.c (.int .i64 0)), none, false, []⟩] [0, 1] []) (.seq (.seq (.reg false [⟨some 10, false, .mv (.t 0), none, false, []⟩, ⟨some 11, false, .call (.c (.fn 509 [])) [.t 10], none, false, []⟩, ⟨some 12, false, .un .not (.t 11), none, false, []⟩] [0, 1, 12] []) (.cond (.t 12) (.seq (.reg false [⟨some 4, true, .asg (.c (.nils 1)), none, false, []⟩, ⟨some 5, false, .asg (.c (.int .i64 1)), none, false, []⟩] [4, 5] [4, 6]) .ret) .skip)) (.seq (.seq (.reg false [⟨some 13, false, .mv (.t 1), none, false, []⟩, ⟨some 14, false, .call (.c (.fn 23 [])) [.t 13, .c (.int .i64 1), .c (.int .i64 10000)], none, false, []⟩, ⟨some 15, false, .un .not (.t 14), none, false, []⟩] [0, 1, 15] []) (.cond (.t 15) (.seq (.reg false [⟨some 4, true, .asg (.c (.nils 1)), none, false, []⟩, ⟨some 5, false, .asg (.c (.int .i64 2)), none, false, []⟩] [4, 5] [4, 6]) .ret) .skip)) (.seq (.reg false [⟨some 16, false, .bsl 1 (.int .i64 0) 0 [], none, false, []⟩, ⟨some 6, true, .asg (.t 16), none, false, []⟩] [0, 1, 6] [6]) (.seq (.reg false [⟨some 7, false, .asg (.c (.int .i64 0)), none, false, []⟩] [0, 1, 6, 7] [6]) (.seq (.seq (.reg false [⟨some 17, false, .mv (.t 0), none, false, []⟩, ⟨some 18, false, .len (.t 17), none, false, []⟩, ⟨some 19, false, .mv (.c (.int .i64 0)), none, false, []⟩] [1, 6, 7, 17, 18, 19] [6]) (.block 0 (.loop impl_BlocksAt_k1))) impl_BlocksAt_k2)))))) }
noncomputable def impl_BlocksAt_D : List (Nat × Callee) := [(23, impl_within_c), (509, impl_ValidRibs_c)]
def impl_BlocksAt_H : List (Nat × ET) := [(4, (.one (.int .i64))), (6, (.one (.int .i64))), (10, T_Mode), (16, (.one (.int .i64))), (17, T_Mode), (27, (.one (.int .i64))), (29, (.one (.int .i64))), (30, (.one (.int .i64))), (36, (.one (.int .i64)))]
noncomputable def impl_BlocksAt_c : Callee := mkCallee impl_BlocksAt_D impl_BlocksAt_H impl_BlocksAt_ir [.d (.one (.sl T_Mode)), .d (.one (.int .i64))] [.tok (.one (.int .i64)), .d (.one (.int .i64))] []
noncomputable def impl_BlocksAt (a0 : List T_Mode.ty) (a1 : Int) : Option (List Int × Int) := impl_BlocksAt_c.f (a0, a1, ())
noncomputable def impl_BlocksAt_p0  (v1 : Int) (v7 : Int) (v17 : List T_Mode.ty) (v18 : Int) (v19 : Int) (r6 : List Int) : Option (List Int × Int) :=
 goL impl_BlocksAt_D impl_BlocksAt_H (vleave impl_BlocksAt_ir [.d (.one (.sl T_Mode)), .d (.one (.int .i64))] [.tok (.one (.int .i64)), .d (.one (.int .i64))] [] []) [.c impl_BlocksAt_k0, .l impl_BlocksAt_k1, .e 0, .c impl_BlocksAt_k2]
  ⟨[(1, .int .i64 v1), (6, .view 6 0 r6.length), (7, .int .i64 v7), (17, .sl T_Mode v17), (18, .int .i64 v18), (19, .int .i64 v19)], [(6, some (.sl (.one (.int .i64)) r6))]⟩
theorem impl_BlocksAt_eq (a0 : List T_Mode.ty) (a1 : Int) : impl_BlocksAt a0 a1 =
  (impl_ValidRibs a0).bind fun x1 =>
   if (!x1) then
    some ([], 1)
   else
    (impl_within a1 1 10000).bind fun x2 =>
     if (!x2) then
      some ([], 2)
     else
      impl_BlocksAt_p0 a1 0 a0 (a0.length : Int) 0 [] :=
 (mk_f _ _ _ _ _ _ _ 4000).trans (by kernel_rfl)
theorem impl_BlocksAt_p0_eq  (v1 : Int) (v7 : Int) (v17 : List T_Mode.ty) (v18 : Int) (v19 : Int) (r6 : List Int) : impl_BlocksAt_p0 v1 v7 v17 v18 v19 r6 =
  if decide (v19 < v18) then
   if decide (0 ≤ v19) then
    (v17[v19.toNat]?).bind fun x1 =>
     if decide (x1.2.2.1 < v1) then
      some ([], 6)
     else
      if decide (r6.length + 1 < lim) then
       impl_BlocksAt_p0 v1 (IntKind.i64.wrap (v7 + x1.2.1)) v17 v18 (IntKind.i64.wrap (v19 + 1)) ((r6.take r6.length) ++ [v7])
      else
       none
   else
    none
  else
   some ((r6.take r6.length), 0) :=
 (goL_dn _ _ _ 4000 _ _).trans (by kernel_rfl)

/- spec.DrawRibText -/
def spec_DrawRibText_ir : Fn := { np := 1, io := [], res := [.cell 2 (some 3)], own := [false], body :=
 (.seq (.reg false [⟨some 2, true, .alloc 3 (.agg [.str [], .int .i64 0, .int .i64 0]), none, false, []⟩] [0, 2] [2]) (.seq (.reg false [⟨some 4, false, .mv (.t 0), none, false, []⟩, ⟨some 5, true, .call (.c (.fn 441 [])) [.t 4], none, false, []⟩, ⟨some 3, false, .asg (.t 5), none, false, []⟩] [2, 3] [2, 5, 6000]) (.seq (.reg false [⟨some 6, false, .mv (.t 3), none, false, []⟩, ⟨some 7, false, .mv (.t 3), none, false, []⟩, ⟨some 8, true, .call (.c (.fn 760 [])) [.t 7, .c (.str [114, 97])], none, false, []⟩, ⟨some 9, true, .call (.c (.fn 761 [])) [.t 6, .t 8], none, false, []⟩, ⟨none, true, .sto 3 (.t 2) (.t 9), none, false, []⟩] [2] [2]) .ret))) }
noncomputable def spec_DrawRibText_D : List (Nat × Callee) := [(441, spec_l00From_c), (760, spec_l06DrawOne_c), (761, spec_l06Bent_c)]
def spec_DrawRibText_H : List (Nat × ET) := [(4, (.one (.int .u8)))]
noncomputable def spec_DrawRibText_c : Callee := mkCallee spec_DrawRibText_D spec_DrawRibText_H spec_DrawRibText_ir [.d (.one (.sl (.one (.int .u8))))] [.d T_Mode] []
noncomputable def spec_DrawRibText (a0 : List Int) : Option (T_Mode.ty) := spec_DrawRibText_c.f (a0, ())
theorem spec_DrawRibText_eq (a0 : List Int) : spec_DrawRibText a0 =
  (spec_l00From a0).bind fun x1 =>
   (spec_l06DrawOne x1 [114, 97]).bind fun x2 =>
    (spec_l06Bent (x2.2.1, x2.2.2.1, x2.2.2.2.1, ()) (x2.1.1, x2.1.2.1, x2.1.2.2.1, ())).bind fun x3 =>
     some (x3.1.1, x3.1.2.1, x3.1.2.2.1, ()) :=
 (mk_f _ _ _ _ _ _ _ 4000).trans (by kernel_rfl)

/- strconv.FormatInt -/
noncomputable def strconv_FormatInt_c : Callee := formatIntC
noncomputable def strconv_FormatInt (a0 : Int) (a1 : Int) : Option (List UInt8) := strconv_FormatInt_c.f (a0, a1, ())
theorem strconv_FormatInt_eq (a0 : Int) (a1 : Int) : strconv_FormatInt a0 a1 = if decide (a1 = 10) && (decide (-9223372036854775808 ≤ a0) && decide (a0 ≤ 9223372036854775807)) then some (Lib.itoa a0) else none := rfl

/- impl.Decimal -/
def impl_Decimal_ir : Fn := { np := 1, io := [], res := [.t 2], own := [false], body :=
 (.seq (.reg false [⟨some 2, false, .asg (.c (.str [])), none, false, []⟩] [0] []) (.seq (.reg false [⟨some 3, false, .mv (.t 0), none, false, []⟩, ⟨some 4, false, .call (.c (.fn 864 [])) [.t 3, .c (.int .i64 10)], none, false, []⟩, ⟨some 2, false, .asg (.t 4), none, false, []⟩] [2] []) .ret)) }
noncomputable def impl_Decimal_D : List (Nat × Callee) := [(864, strconv_FormatInt_c)]
def impl_Decimal_H : List (Nat × ET) := []
noncomputable def impl_Decimal_c : Callee := mkCallee impl_Decimal_D impl_Decimal_H impl_Decimal_ir [.d (.one (.int .i64))] [.d (.one .str)] []
noncomputable def impl_Decimal (a0 : Int) : Option (List UInt8) := impl_Decimal_c.f (a0, ())
theorem impl_Decimal_eq (a0 : Int) : impl_Decimal a0 =
  (strconv_FormatInt a0 10).bind fun x1 =>
   some x1 :=
 (mk_f _ _ _ _ _ _ _ 4000).trans (by kernel_rfl)

/- strings.Join -/
noncomputable def strings_Join_c : Callee := joinC
noncomputable def strings_Join (a0 : List (List UInt8)) (a1 : List UInt8) : Option (List UInt8) := strings_Join_c.f (a0, a1, ())
theorem strings_Join_eq (a0 : List (List UInt8)) (a1 : List UInt8) : strings_Join a0 a1 = if decide (a0.length ≤ 140737488355328) && decide ((Lib.join a0 a1).length ≤ 140737488355328) then some (Lib.join a0 a1) else none := rfl

/- impl.ListText -/
def impl_ListText_k0 : C :=
 .seq (.reg false [⟨some 17, false, .bin .lss (.t 16) (.t 15), none, false, []⟩] [3, 14, 15, 16, 17] [3]) (.seq (.cond (.t 17) .skip (.exit 0)) (.seq (.block 1 (.seq (.reg false [⟨some 18, false, .ia 1 (.t 14) (.t 16), none, false, []⟩, ⟨some 19, false, .ld none (.t 18), none, false, []⟩, ⟨some 5, false, .asg (.t 19), none, false, []⟩] [3, 5, 14, 15, 16] [3]) (.seq (.seq (.reg false [⟨some 20, false, .mv (.t 5), none, false, []⟩, ⟨some 21, false, .call (.c (.fn 23 [])) [.t 20, .c (.int .i64 (-1000000000000)), .c (.int .i64 1000000000000)], none, false, []⟩, ⟨some 22, false, .un .not (.t 21), none, false, []⟩] [3, 5, 14, 15, 16, 22] [3]) (.cond (.t 22) (.seq (.reg false [⟨some 2, false, .asg (.c (.str [])), none, false, []⟩] [2] []) .ret) .skip)) (.reg false [⟨some 23, false, .mv (.t 3), none, false, []⟩, ⟨some 24, false, .mv (.t 5), none, false, []⟩, ⟨some 25, false, .call (.c (.fn 524 [])) [.t 24], none, false, []⟩, ⟨some 26, false, .bsl 1 (.str []) 1 [(0, .t 25)], none, false, []⟩, ⟨some 27, true, .app 1 16 (.t 23) (.t 26), none, false, []⟩, ⟨some 3, true, .asg (.t 27), none, false, []⟩] [3, 14, 15, 16] [3])))) (.reg false [⟨some 28, false, .bin .add (.t 16) (.c (.int .i64 1)), none, false, []⟩, ⟨some 16, false, .mv (.t 28), none, false, []⟩] [3, 14, 15, 16] [3])))
def impl_ListText_k1 : C :=
 .norm [3, 14, 15, 16] [3] impl_ListText_k0
def impl_ListText_k2 : C :=
 .seq (.reg false [⟨some 29, false, .mv (.t 3), none, false, []⟩, ⟨some 30, false, .call (.c (.fn 630 [])) [.t 29, .c (.str [44])], none, false, []⟩, ⟨some 2, false, .asg (.t 30), none, false, []⟩] [2] []) .ret
def impl_ListText_ir : Fn := { np := 1, io := [], res := [.t 2], own := [false], body :=
 (.seq (.reg false [⟨some 2, false, .asg (.c (.str [])), none, false, []⟩] [0] []) (.seq (.seq (.reg false [⟨some 6, false, .mv (.t 0), none, false, []⟩, ⟨some 7, false, .len (.t 6), none, false, []⟩, ⟨some 8, false, .call (.c (.fn 21 [])) [.t 7, .c (.int .i64 64)], none, false, []⟩, ⟨some 9, false, .un .not (.t 8), none, false, []⟩] [0, 9] []) (.cond (.t 9) (.seq (.reg false [⟨some 2, false, .asg (.c (.str [])), none, false, []⟩] [2] []) .ret) .skip)) (.seq (.seq (.reg false [⟨some 10, false, .mv (.t 0), none, false, []⟩, ⟨some 11, false, .len (.t 10), none, false, []⟩, ⟨some 12, false, .bin .eql (.t 11) (.c (.int .i64 0)), none, false, []⟩] [0, 12] []) (.cond (.t 12) (.seq (.reg false [⟨some 2, false, .asg (.c (.str [45])), none, false, []⟩] [2] []) .ret) .skip)) (.seq (.reg false [⟨some 13, false, .bsl 1 (.str []) 0 [], none, false, []⟩, ⟨some 3, true, .asg (.t 13), none, false, []⟩] [0, 3] [3]) (.seq (.seq (.reg false [⟨some 14, false, .mv (.t 0), none, false, []⟩, ⟨some 15, false, .len (.t 14), none, false, []⟩, ⟨some 16, false, .mv (.c (.int .i64 0)), none, false, []⟩] [3, 14, 15, 16] [3]) (.block 0 (.loop impl_ListText_k1))) impl_ListText_k2))))) }
noncomputable def impl_ListText_D : List (Nat × Callee) := [(21, impl_few_c), (23, impl_within_c), (524, impl_Decimal_c), (630, strings_Join_c)]
def impl_ListText_H : List (Nat × ET) := [(3, (.one .str)), (6, (.one (.int .i64))), (10, (.one (.int .i64))), (13, (.one .str)), (14, (.one (.int .i64))), (23, (.one .str)), (26, (.one .str)), (27, (.one .str)), (29, (.one .str))]
noncomputable def impl_ListText_c : Callee := mkCallee impl_ListText_D impl_ListText_H impl_ListText_ir [.d (.one (.sl (.one (.int .i64))))] [.d (.one .str)] []
noncomputable def impl_ListText (a0 : List Int) : Option (List UInt8) := impl_ListText_c.f (a0, ())
noncomputable def impl_ListText_p0  (v14 : List Int) (v15 : Int) (v16 : Int) (r3 : List (List UInt8)) : Option (List UInt8) :=
 goL impl_ListText_D impl_ListText_H (vleave impl_ListText_ir [.d (.one (.sl (.one (.int .i64))))] [.d (.one .str)] [] []) [.c impl_ListText_k0, .l impl_ListText_k1, .e 0, .c impl_ListText_k2]
  ⟨[(3, .view 3 0 r3.length), (14, .sl (.one (.int .i64)) v14), (15, .int .i64 v15), (16, .int .i64 v16)], [(3, some (.sl (.one .str) r3))]⟩
theorem impl_ListText_eq (a0 : List Int) : impl_ListText a0 =
  (impl_few (a0.length : Int) 64).bind fun x1 =>
   if (!x1) then
    some []
   else
    if ((a0.length : Int) == 0) then
     some [45]
    else
     impl_ListText_p0 a0 (a0.length : Int) 0 [] :=
 (mk_f _ _ _ _ _ _ _ 4000).trans (by kernel_rfl)
theorem impl_ListText_p0_eq  (v14 : List Int) (v15 : Int) (v16 : Int) (r3 : List (List UInt8)) : impl_ListText_p0 v14 v15 v16 r3 =
  if decide (v16 < v15) then
   if decide (0 ≤ v16) then
    (v14[v16.toNat]?).bind fun x1 =>
     (impl_within x1 (-1000000000000) 1000000000000).bind fun x2 =>
      if (!x2) then
       some []
      else
       (impl_Decimal x1).bind fun x3 =>
        if decide (r3.length + 1 < lim) then
         impl_ListText_p0 v14 v15 (IntKind.i64.wrap (v16 + 1)) ((r3.take r3.length) ++ [x3])
        else
         none
   else
    none
  else
   (strings_Join (r3.take r3.length) [44]).bind fun x4 =>
    some x4 :=
 (goL_dn _ _ _ 4000 _ _).trans (by kernel_rfl)

/- impl.named -/
def impl_named_ir : Fn := { np := 2, io := [], res := [.t 4], own := [false], body :=
 (.seq (.reg false [⟨some 4, false, .asg (.c (.str [])), none, false, []⟩] [0, 1] []) (.seq (.reg false [⟨some 5, false, .mv (.t 0), none, false, []⟩, ⟨some 6, false, .bin .add (.t 5) (.c (.str [32])), none, false, []⟩, ⟨some 7, false, .mv (.t 1), none, false, []⟩, ⟨some 8, false, .call (.c (.fn 460 [])) [.t 7], none, false, []⟩, ⟨some 9, false, .bin .add (.t 6) (.t 8), none, false, []⟩, ⟨some 4, false, .asg (.t 9), none, false, []⟩] [4] []) .ret)) }
noncomputable def impl_named_D : List (Nat × Callee) := [(460, impl_ListText_c)]
def impl_named_H : List (Nat × ET) := [(7, (.one (.int .i64)))]
noncomputable def impl_named_c : Callee := mkCallee impl_named_D impl_named_H impl_named_ir [.d (.one .str), .d (.one (.sl (.one (.int .i64))))] [.d (.one .str)] []
noncomputable def impl_named (a0 : List UInt8) (a1 : List Int) : Option (List UInt8) := impl_named_c.f (a0, a1, ())
theorem impl_named_eq (a0 : List UInt8) (a1 : List Int) : impl_named a0 a1 =
  if decide (a0.length + [32].length ≤ strMax) then
   (impl_ListText a1).bind fun x1 =>
    if decide ((a0 ++ [32]).length + x1.length ≤ strMax) then
     some ((a0 ++ [32]) ++ x1)
    else
     none
  else
   none :=
 (mk_f _ _ _ _ _ _ _ 4000).trans (by kernel_rfl)

/- impl.RibText -/
def impl_RibText_ir : Fn := { np := 1, io := [], res := [.t 2], own := [false], body :=
 (.seq (.reg false [⟨some 1, true, .box 3 (.t 0), none, false, []⟩, ⟨some 2, false, .asg (.c (.str [])), none, false, []⟩] [1] [1]) (.seq (.seq (.reg false [⟨some 3, false, .ld (some 3) (.t 1), none, false, []⟩, ⟨some 4, false, .call (.c (.fn 762 [])) [.t 3], none, false, []⟩, ⟨some 5, false, .un .not (.t 4), none, false, []⟩] [1, 5] [1]) (.cond (.t 5) (.seq (.reg false [⟨some 2, false, .asg (.c (.str [])), none, false, []⟩] [2] []) .ret) .skip)) (.seq (.reg false [⟨some 6, false, .fa 0 (.t 1), none, false, []⟩, ⟨some 7, false, .ld none (.t 6), none, false, []⟩, ⟨some 8, false, .fa 1 (.t 1), none, false, []⟩, ⟨some 9, false, .ld none (.t 8), none, false, []⟩, ⟨some 10, false, .fa 2 (.t 1), none, false, []⟩, ⟨some 11, false, .ld none (.t 10), none, false, []⟩, ⟨some 12, false, .bsl 1 (.int .i64 0) 2 [(0, .t 9), (1, .t 11)], none, false, []⟩, ⟨some 13, false, .call (.c (.fn 459 [])) [.t 7, .t 12], none, false, []⟩, ⟨some 2, false, .asg (.t 13), none, false, []⟩] [2] []) .ret))) }
noncomputable def impl_RibText_D : List (Nat × Callee) := [(459, impl_named_c), (762, impl_Rib_valid_c)]
def impl_RibText_H : List (Nat × ET) := [(12, (.one (.int .i64)))]
noncomputable def impl_RibText_c : Callee := mkCallee impl_RibText_D impl_RibText_H impl_RibText_ir [.d T_Mode] [.d (.one .str)] []
noncomputable def impl_RibText (a0 : T_Mode.ty) : Option (List UInt8) := impl_RibText_c.f (a0, ())
theorem impl_RibText_eq (a0 : T_Mode.ty) : impl_RibText a0 =
  (impl_Rib_valid a0).bind fun x1 =>
   if (!x1) then
    some []
   else
    (impl_named a0.1 [a0.2.1, a0.2.2.1]).bind fun x2 =>
     some x2 :=
 (mk_f _ _ _ _ _ _ _ 4000).trans (by kernel_rfl)

/- strings.Cut -/
noncomputable def strings_Cut_c : Callee := cutC
noncomputable def strings_Cut (a0 : List UInt8) (a1 : List UInt8) : Option (List UInt8 × List UInt8 × Bool) := strings_Cut_c.f (a0, a1, ())
theorem strings_Cut_eq (a0 : List UInt8) (a1 : List UInt8) : strings_Cut a0 a1 = if decide (a0.length < 4294967281) then some (Lib.cut a0 a1) else none := rfl

/- strings.Split -/
noncomputable def strings_Split_c : Callee := splitC
noncomputable def strings_Split (a0 : List UInt8) (a1 : List UInt8) : Option (List (List UInt8)) := strings_Split_c.f (a0, a1, ())
theorem strings_Split_eq (a0 : List UInt8) (a1 : List UInt8) : strings_Split a0 a1 = if decide (a0.length < 4294967281) && decide (1 ≤ a1.length) then some (Lib.splitK a1 0 (Lib.count a0 a1) a0) else none := rfl

/- loop.example/g01061/impl.ReadDecimal -/
noncomputable def impl_ReadDecimal_c : Callee := readDecC
noncomputable def impl_ReadDecimal (a0 : List UInt8) : Option (Int × Bool) := impl_ReadDecimal_c.f (a0, ())
theorem impl_ReadDecimal_eq (a0 : List UInt8) : impl_ReadDecimal a0 = some (readDecP a0) := rfl

/- impl.ReadList -/
def impl_ReadList_k0 : C :=
 .seq (.reg false [⟨some 16, false, .bin .lss (.t 15) (.t 14), none, false, []⟩] [4, 13, 14, 15, 16] [4]) (.seq (.cond (.t 16) .skip (.exit 0)) (.seq (.block 1 (.seq (.reg false [⟨some 17, false, .ia 1 (.t 13) (.t 15), none, false, []⟩, ⟨some 18, false, .ld none (.t 17), none, false, []⟩, ⟨some 6, false, .asg (.t 18), none, false, []⟩] [4, 6, 13, 14, 15] [4]) (.seq (.reg false [⟨some 20, false, .mv (.t 6), none, false, []⟩, ⟨some 21, false, .call (.c (.fn 522 [])) [.t 20], none, false, []⟩, ⟨some 19, false, .mv (.t 21), none, false, []⟩, ⟨some 22, false, .ext (.t 19) 0, none, false, []⟩, ⟨some 23, false, .ext (.t 19) 1, none, false, []⟩, ⟨some 7, false, .asg (.t 22), none, false, []⟩, ⟨some 8, false, .asg (.t 23), none, false, []⟩] [4, 7, 8, 13, 14, 15] [4]) (.seq (.seq (.reg false [⟨some 24, false, .mv (.t 8), none, false, []⟩, ⟨some 25, false, .un .not (.t 24), none, false, []⟩, ⟨some 26, false, .mv (.t 25), none, false, []⟩, ⟨some 27, false, .mv (.t 7), some (2, false), false, []⟩, ⟨some 28, false, .call (.c (.fn 23 [])) [.t 27, .c (.int .i64 (-1000000000000)), .c (.int .i64 1000000000000)], some (2, false), false, []⟩, ⟨some 29, false, .un .not (.t 28), some (2, false), false, []⟩, ⟨some 30, false, .pick (.t 26) (.c (.bool true)) (.t 29), none, false, []⟩, ⟨some 31, false, .mv (.t 30), none, false, []⟩, ⟨some 32, false, .mv (.t 4), some (7, false), false, []⟩, ⟨some 33, false, .len (.t 32), some (7, false), false, []⟩, ⟨some 34, false, .bin .eql (.t 33) (.c (.int .i64 64)), some (7, false), false, []⟩, ⟨some 35, false, .pick (.t 31) (.c (.bool true)) (.t 34), none, false, []⟩] [4, 7, 13, 14, 15, 35] [4]) (.cond (.t 35) (.seq (.reg false [⟨some 2, true, .asg (.c (.nils 1)), none, false, []⟩, ⟨some 3, false, .asg (.c (.bool false)), none, false, []⟩] [2, 3] [2, 4]) .ret) .skip)) (.reg false [⟨some 36, false, .mv (.t 4), none, false, []⟩, ⟨some 37, false, .mv (.t 7), none, false, []⟩, ⟨some 38, false, .bsl 1 (.int .i64 0) 1 [(0, .t 37)], none, false, []⟩, ⟨some 39, true, .app 1 8 (.t 36) (.t 38), none, false, []⟩, ⟨some 4, true, .asg (.t 39), none, false, []⟩] [4, 13, 14, 15] [4]))))) (.reg false [⟨some 40, false, .bin .add (.t 15) (.c (.int .i64 1)), none, false, []⟩, ⟨some 15, false, .mv (.t 40), none, false, []⟩] [4, 13, 14, 15] [4])))
def impl_ReadList_k1 : C :=
 .norm [4, 13, 14, 15] [4] impl_ReadList_k0
def impl_ReadList_k2 : C :=
 .seq (.reg false [⟨some 41, false, .mv (.t 4), none, false, []⟩, ⟨some 2, true, .asg (.t 41), none, false, []⟩, ⟨some 3, false, .asg (.c (.bool true)), none, false, []⟩] [2, 3] [2, 4]) .ret
def impl_ReadList_ir : Fn := { np := 1, io := [], res := [.t 2, .t 3], own := [true, false], body :=
 (.seq (.reg false [⟨some 2, true, .asg (.c (.nils 1)), none, false, []⟩, ⟨some 3, false, .asg (.c (.bool false)), none, false, []⟩] [0] []) (.seq (.seq (.reg false [⟨some 9, false, .mv (.t 0), none, false, []⟩, ⟨some 10, false, .bin .eql (.t 9) (.c (.str [45])), none, false, []⟩] [0, 10] []) (.cond (.t 10) (.seq (.reg false [⟨some 2, true, .asg (.c (.nils 1)), none, false, []⟩, ⟨some 3, false, .asg (.c (.bool true)), none, false, []⟩] [2, 3] [2, 4]) .ret) .skip)) (.seq (.reg false [⟨some 11, false, .bsl 1 (.int .i64 0) 0 [], none, false, []⟩, ⟨some 4, true, .asg (.t 11), none, false, []⟩] [0, 4] [4]) (.seq (.seq (.reg false [⟨some 12, false, .mv (.t 0), none, false, []⟩, ⟨some 13, false, .call (.c (.fn 683 [])) [.t 12, .c (.str [44])], none, false, []⟩, ⟨some 14, false, .len (.t 13), none, false, []⟩, ⟨some 15, false, .mv (.c (.int .i64 0)), none, false, []⟩] [4, 13, 14, 15] [4]) (.block 0 (.loop impl_ReadList_k1))) impl_ReadList_k2)))) }
noncomputable def impl_ReadList_D : List (Nat × Callee) := [(23, impl_within_c), (522, impl_ReadDecimal_c), (683, strings_Split_c)]
def impl_ReadList_H : List (Nat × ET) := [(2, (.one (.int .i64))), (4, (.one (.int .i64))), (11, (.one (.int .i64))), (13, (.one .str)), (32, (.one (.int .i64))), (36, (.one (.int .i64))), (38, (.one (.int .i64))), (39, (.one (.int .i64))), (41, (.one (.int .i64)))]
noncomputable def impl_ReadList_c : Callee := mkCallee impl_ReadList_D impl_ReadList_H impl_ReadList_ir [.d (.one .str)] [.tok (.one (.int .i64)), .d (.one .bool)] []
noncomputable def impl_ReadList (a0 : List UInt8) : Option (List Int × Bool) := impl_ReadList_c.f (a0, ())
noncomputable def impl_ReadList_p0  (v13 : List (List UInt8)) (v14 : Int) (v15 : Int) (r4 : List Int) : Option (List Int × Bool) :=
 goL impl_ReadList_D impl_ReadList_H (vleave impl_ReadList_ir [.d (.one .str)] [.tok (.one (.int .i64)), .d (.one .bool)] [] []) [.c impl_ReadList_k0, .l impl_ReadList_k1, .e 0, .c impl_ReadList_k2]
  ⟨[(4, .view 4 0 r4.length), (13, .sl (.one .str) v13), (14, .int .i64 v14), (15, .int .i64 v15)], [(4, some (.sl (.one (.int .i64)) r4))]⟩
theorem impl_ReadList_eq (a0 : List UInt8) : impl_ReadList a0 =
  if (a0 == [45]) then
   some ([], true)
  else
   (strings_Split a0 [44]).bind fun x1 =>
    impl_ReadList_p0 x1 (x1.length : Int) 0 [] :=
 (mk_f _ _ _ _ _ _ _ 4000).trans (by kernel_rfl)
theorem impl_ReadList_p0_eq  (v13 : List (List UInt8)) (v14 : Int) (v15 : Int) (r4 : List Int) : impl_ReadList_p0 v13 v14 v15 r4 =
  if decide (v15 < v14) then
   if decide (0 ≤ v15) then
    (v13[v15.toNat]?).bind fun x1 =>
     (impl_ReadDecimal x1).bind fun x2 =>
      if (!x2.2) then
       some ([], false)
      else
       (impl_within x2.1 (-1000000000000) 1000000000000).bind fun x3 =>
        if (!x3) then
         some ([], false)
        else
         if ((r4.length : Int) == 64) then
          some ([], false)
         else
          if decide (r4.length + 1 < lim) then
           impl_ReadList_p0 v13 v14 (IntKind.i64.wrap (v15 + 1)) ((r4.take r4.length) ++ [x2.1])
          else
           none
   else
    none
  else
   some ((r4.take r4.length), true) :=
 (goL_dn _ _ _ 4000 _ _).trans (by kernel_rfl)

/- impl.readNamed -/
def impl_readNamed_ir : Fn := { np := 2, io := [], res := [.t 4, .t 5, .t 6], own := [false, false, false], body :=
 (.seq (.reg false [⟨some 4, false, .asg (.c (.str [])), none, false, []⟩, ⟨some 5, true, .asg (.c (.nils 1)), none, false, []⟩, ⟨some 6, false, .asg (.c (.bool false)), none, false, []⟩] [0, 1] []) (.seq (.reg false [⟨some 13, false, .mv (.t 0), none, false, []⟩, ⟨some 14, false, .call (.c (.fn 523 [])) [.t 13, .c (.str [32])], none, false, []⟩, ⟨some 12, false, .mv (.t 14), none, false, []⟩, ⟨some 15, false, .ext (.t 12) 0, none, false, []⟩, ⟨some 16, false, .ext (.t 12) 1, none, false, []⟩, ⟨some 17, false, .ext (.t 12) 2, none, false, []⟩, ⟨some 7, false, .asg (.t 15), none, false, []⟩, ⟨some 8, false, .asg (.t 16), none, false, []⟩, ⟨some 9, false, .asg (.t 17), none, false, []⟩] [1, 7, 8, 9] []) (.seq (.reg false [⟨some 19, false, .mv (.t 8), none, false, []⟩, ⟨some 20, false, .call (.c (.fn 457 [])) [.t 19], none, false, []⟩, ⟨some 18, false, .mv (.t 20), none, false, []⟩, ⟨some 21, false, .ext (.t 18) 0, none, false, []⟩, ⟨some 22, false, .ext (.t 18) 1, none, false, []⟩, ⟨some 10, true, .asg (.t 21), none, false, []⟩, ⟨some 11, false, .asg (.t 22), none, false, []⟩] [1, 7, 9, 10, 11] [10]) (.seq (.reg false [⟨some 23, false, .mv (.t 7), none, false, []⟩, ⟨some 24, false, .mv (.t 10), none, false, []⟩, ⟨some 25, false, .mv (.t 9), none, false, []⟩, ⟨some 26, false, .mv (.t 25), none, false, []⟩, ⟨some 27, false, .mv (.t 11), some (3, true), false, []⟩, ⟨some 28, false, .pick (.t 26) (.t 27) (.c (.bool false)), none, false, []⟩, ⟨some 29, false, .mv (.t 28), none, false, []⟩, ⟨some 30, false, .mv (.t 10), some (6, true), false, []⟩, ⟨some 31, false, .len (.t 30), some (6, true), false, []⟩, ⟨some 32, false, .mv (.t 1), some (6, true), false, []⟩, ⟨some 33, false, .bin .eql (.t 31) (.t 32), some (6, true), false, []⟩, ⟨some 34, false, .pick (.t 29) (.t 33) (.c (.bool false)), none, false, []⟩, ⟨some 4, false, .asg (.t 23), none, false, []⟩, ⟨some 5, true, .asg (.t 24), none, false, []⟩, ⟨some 6, false, .asg (.t 34), none, false, []⟩] [4, 5, 6] [5, 10]) .ret)))) }
noncomputable def impl_readNamed_D : List (Nat × Callee) := [(457, impl_ReadList_c), (523, strings_Cut_c)]
def impl_readNamed_H : List (Nat × ET) := [(5, (.one (.int .i64))), (10, (.one (.int .i64))), (21, (.one (.int .i64))), (24, (.one (.int .i64))), (30, (.one (.int .i64)))]
noncomputable def impl_readNamed_c : Callee := mkCallee impl_readNamed_D impl_readNamed_H impl_readNamed_ir [.d (.one .str), .d (.one (.int .i64))] [.d (.one .str), .d (.one (.sl (.one (.int .i64)))), .d (.one .bool)] []
noncomputable def impl_readNamed (a0 : List UInt8) (a1 : Int) : Option (List UInt8 × List Int × Bool) := impl_readNamed_c.f (a0, a1, ())
theorem impl_readNamed_eq (a0 : List UInt8) (a1 : Int) : impl_readNamed a0 a1 =
  (strings_Cut a0 [32]).bind fun x1 =>
   (impl_ReadList x1.2.1).bind fun x2 =>
    if x1.2.2 then
     if x2.2 then
      some (x1.1, (x2.1.take x2.1.length), ((x2.1.length : Int) == a1))
     else
      some (x1.1, (x2.1.take x2.1.length), false)
    else
     some (x1.1, (x2.1.take x2.1.length), false) :=
 (mk_f _ _ _ _ _ _ _ 4000).trans (by kernel_rfl)

/- impl.ReadRib -/
def impl_ReadRib_ir : Fn := { np := 1, io := [], res := [.cell 2 (some 3), .t 3], own := [false, false], body :=
 (.seq (.reg false [⟨some 2, true, .alloc 3 (.agg [.str [], .int .i64 0, .int .i64 0]), none, false, []⟩, ⟨some 3, false, .asg (.c (.bool false)), none, false, []⟩] [0, 2] [2]) (.seq (.reg false [⟨some 9, false, .mv (.t 0), none, false, []⟩, ⟨some 10, false, .call (.c (.fn 747 [])) [.t 9, .c (.int .i64 2)], none, false, []⟩, ⟨some 8, false, .mv (.t 10), none, false, []⟩, ⟨some 11, false, .ext (.t 8) 0, none, false, []⟩, ⟨some 12, false, .ext (.t 8) 1, none, false, []⟩, ⟨some 13, false, .ext (.t 8) 2, none, false, []⟩, ⟨some 4, false, .asg (.t 11), none, false, []⟩, ⟨some 5, true, .asg (.t 12), none, false, []⟩, ⟨some 6, false, .asg (.t 13), none, false, []⟩] [2, 4, 5, 6] [2, 5]) (.seq (.seq (.reg false [⟨some 14, false, .mv (.t 6), none, false, []⟩, ⟨some 15, false, .un .not (.t 14), none, false, []⟩] [2, 4, 5, 15] [2, 5]) (.cond (.t 15) (.seq (.reg false [⟨some 16, false, .build [.str [], .int .i64 0, .int .i64 0] [], none, false, []⟩, ⟨none, true, .sto 3 (.t 2) (.t 16), none, false, []⟩, ⟨some 3, false, .asg (.c (.bool false)), none, false, []⟩] [2, 3] [2]) .ret) .skip)) (.seq (.reg true [⟨some 17, false, .mv (.t 4), none, false, [7]⟩, ⟨some 18, false, .mv (.t 5), none, false, [7]⟩, ⟨some 19, false, .ia 1 (.t 18) (.c (.int .i64 0)), none, false, [7]⟩, ⟨some 20, false, .ld none (.t 19), none, false, [7]⟩, ⟨some 21, false, .mv (.t 5), none, false, [7]⟩, ⟨some 22, false, .ia 1 (.t 21) (.c (.int .i64 1)), none, false, [7]⟩, ⟨some 23, false, .ld none (.t 22), none, false, [7]⟩, ⟨some 24, false, .build [.str [], .int .i64 0, .int .i64 0] [(0, 1, .t 17), (1, 1, .t 20), (2, 1, .t 23)], none, false, [7]⟩, ⟨some 7, true, .alloc 3 (.agg [.str [], .int .i64 0, .int .i64 0]), none, false, []⟩, ⟨none, true, .sto 3 (.t 7) (.t 24), none, false, []⟩] [2, 7] [2, 7]) (.seq (.seq (.reg false [⟨some 25, false, .ld (some 3) (.t 7), none, false, []⟩, ⟨some 26, false, .call (.c (.fn 762 [])) [.t 25], none, false, []⟩, ⟨some 27, false, .un .not (.t 26), none, false, []⟩] [2, 7, 27] [2, 7]) (.cond (.t 27) (.seq (.reg false [⟨some 28, false, .build [.str [], .int .i64 0, .int .i64 0] [], none, false, []⟩, ⟨none, true, .sto 3 (.t 2) (.t 28), none, false, []⟩, ⟨some 3, false, .asg (.c (.bool false)), none, false, []⟩] [2, 3] [2]) .ret) .skip)) (.seq (.reg false [⟨some 29, false, .ld (some 3) (.t 7), none, false, []⟩, ⟨none, true, .sto 3 (.t 2) (.t 29), none, false, []⟩, ⟨some 3, false, .asg (.c (.bool true)), none, false, []⟩] [2, 3] [2]) .ret)))))) }
noncomputable def impl_ReadRib_D : List (Nat × Callee) := [(747, impl_readNamed_c), (762, impl_Rib_valid_c)]
def impl_ReadRib_H : List (Nat × ET) := [(5, (.one (.int .i64))), (12, (.one (.int .i64))), (18, (.one (.int .i64))), (21, (.one (.int .i64)))]
noncomputable def impl_ReadRib_c : Callee := mkCallee impl_ReadRib_D impl_ReadRib_H impl_ReadRib_ir [.d (.one .str)] [.d T_Mode, .d (.one .bool)] []
noncomputable def impl_ReadRib (a0 : List UInt8) : Option (T_Mode.ty × Bool) := impl_ReadRib_c.f (a0, ())
theorem impl_ReadRib_eq (a0 : List UInt8) : impl_ReadRib a0 =
  (impl_readNamed a0 2).bind fun x1 =>
   if (!x1.2.2) then
    some (([], 0, 0, ()), false)
   else
    (x1.2.1[0]?).bind fun x2 =>
     (x1.2.1[1]?).bind fun x3 =>
      (impl_Rib_valid (x1.1, x2, x3, ())).bind fun x4 =>
       if (!x4) then
        some (([], 0, 0, ()), false)
       else
        some ((x1.1, x2, x3, ()), true) :=
 (mk_f _ _ _ _ _ _ _ 4000).trans (by kernel_rfl)

/- spec.l01Small -/
def spec_l01Small_ir : Fn := { np := 1, io := [], res := [.t 2], own := [false], body :=
 (.seq (.reg false [⟨some 2, false, .asg (.c (.bool false)), none, false, []⟩] [0] []) (.seq (.reg false [⟨some 3, false, .mv (.t 0), none, false, []⟩, ⟨some 4, false, .bin .geq (.t 3) (.c (.int .u8 97)), none, false, []⟩, ⟨some 5, false, .mv (.t 4), none, false, []⟩, ⟨some 6, false, .mv (.t 0), some (2, true), false, []⟩, ⟨some 7, false, .bin .leq (.t 6) (.c (.int .u8 122)), some (2, true), false, []⟩, ⟨some 8, false, .pick (.t 5) (.t 7) (.c (.bool false)), none, false, []⟩, ⟨some 2, false, .asg (.t 8), none, false, []⟩] [2] []) .ret)) }
noncomputable def spec_l01Small_D : List (Nat × Callee) := []
def spec_l01Small_H : List (Nat × ET) := []
noncomputable def spec_l01Small_c : Callee := mkCallee spec_l01Small_D spec_l01Small_H spec_l01Small_ir [.d (.one (.int .u8))] [.d (.one .bool)] []
noncomputable def spec_l01Small (a0 : Int) : Option (Bool) := spec_l01Small_c.f (a0, ())
theorem spec_l01Small_eq (a0 : Int) : spec_l01Small a0 =
  if decide (a0 ≥ 97) then
   some (decide (a0 ≤ 122))
  else
   some false :=
 (mk_f _ _ _ _ _ _ _ 4000).trans (by kernel_rfl)

/- spec.l01Digit -/
def spec_l01Digit_ir : Fn := { np := 1, io := [], res := [.t 2], own := [false], body :=
 (.seq (.reg false [⟨some 2, false, .asg (.c (.bool false)), none, false, []⟩] [0] []) (.seq (.reg false [⟨some 3, false, .mv (.t 0), none, false, []⟩, ⟨some 4, false, .bin .geq (.t 3) (.c (.int .u8 48)), none, false, []⟩, ⟨some 5, false, .mv (.t 4), none, false, []⟩, ⟨some 6, false, .mv (.t 0), some (2, true), false, []⟩, ⟨some 7, false, .bin .leq (.t 6) (.c (.int .u8 57)), some (2, true), false, []⟩, ⟨some 8, false, .pick (.t 5) (.t 7) (.c (.bool false)), none, false, []⟩, ⟨some 2, false, .asg (.t 8), none, false, []⟩] [2] []) .ret)) }
noncomputable def spec_l01Digit_D : List (Nat × Callee) := []
def spec_l01Digit_H : List (Nat × ET) := []
noncomputable def spec_l01Digit_c : Callee := mkCallee spec_l01Digit_D spec_l01Digit_H spec_l01Digit_ir [.d (.one (.int .u8))] [.d (.one .bool)] []
noncomputable def spec_l01Digit (a0 : Int) : Option (Bool) := spec_l01Digit_c.f (a0, ())
theorem spec_l01Digit_eq (a0 : Int) : spec_l01Digit a0 =
  if decide (a0 ≥ 48) then
   some (decide (a0 ≤ 57))
  else
   some false :=
 (mk_f _ _ _ _ _ _ _ 4000).trans (by kernel_rfl)

/- spec.l01Name -/
def spec_l01Name_k0 : C :=
 .seq (.seq (.reg false [⟨some 17, false, .mv (.t 3), none, false, []⟩, ⟨some 18, false, .mv (.t 0), none, false, []⟩, ⟨some 19, false, .lens (.t 18), none, false, []⟩, ⟨some 20, false, .bin .lss (.t 17) (.t 19), none, false, []⟩] [0, 3, 20] []) (.cond (.t 20) .skip (.exit 0))) (.seq (.block 1 (.seq (.reg false [⟨some 23, false, .mv (.t 0), none, false, []⟩, ⟨some 24, false, .mv (.t 3), none, false, []⟩, ⟨some 25, false, .ix (.t 23) (.t 24), none, false, []⟩, ⟨some 26, false, .call (.c (.fn 11 [])) [.t 25], none, false, []⟩, ⟨some 27, false, .un .not (.t 26), none, false, []⟩, ⟨some 28, false, .mv (.t 27), none, false, []⟩, ⟨some 29, false, .mv (.t 0), some (5, true), false, []⟩, ⟨some 30, false, .mv (.t 3), some (5, true), false, []⟩, ⟨some 31, false, .ix (.t 29) (.t 30), some (5, true), false, []⟩, ⟨some 32, false, .call (.c (.fn 12 [])) [.t 31], some (5, true), false, []⟩, ⟨some 33, false, .un .not (.t 32), some (5, true), false, []⟩, ⟨some 34, false, .pick (.t 28) (.t 33) (.c (.bool false)), none, false, []⟩] [0, 3, 34] []) (.cond (.t 34) (.seq (.reg false [⟨some 2, false, .asg (.c (.bool false)), none, false, []⟩] [2] []) .ret) .skip))) (.reg false [⟨some 21, false, .mv (.t 3), none, false, []⟩, ⟨some 22, false, .bin .add (.t 21) (.c (.int .i64 1)), none, false, []⟩, ⟨some 3, false, .asg (.t 22), none, false, []⟩] [0, 3] []))
def spec_l01Name_k1 : C :=
 .norm [0, 3] [] spec_l01Name_k0
def spec_l01Name_k2 : C :=
 .seq (.reg false [⟨some 2, false, .asg (.c (.bool true)), none, false, []⟩] [2] []) .ret
def spec_l01Name_k3 : C :=
 .seq (.seq (.reg false [⟨some 3, false, .asg (.c (.int .i64 0)), none, false, []⟩] [0, 3] []) (.block 0 (.loop spec_l01Name_k1))) spec_l01Name_k2
def spec_l01Name_ir : Fn := { np := 1, io := [], res := [.t 2], own := [false], body :=
 (.seq (.reg false [⟨some 2, false, .asg (.c (.bool false)), none, false, []⟩] [0] []) (.seq (.seq (.reg false [⟨some 4, false, .mv (.t 0), none, false, []⟩, ⟨some 5, false, .bin .eql (.t 4) (.c (.str [])), none, false, []⟩, ⟨some 6, false, .mv (.t 5), none, false, []⟩, ⟨some 7, false, .mv (.t 0), some (2, false), false, []⟩, ⟨some 8, false, .lens (.t 7), some (2, false), false, []⟩, ⟨some 9, false, .bin .gtr (.t 8) (.c (.int .i64 10)), some (2, false), false, []⟩, ⟨some 10, false, .pick (.t 6) (.c (.bool true)) (.t 9), none, false, []⟩, ⟨some 11, false, .mv (.t 10), none, false, []⟩, ⟨some 12, false, .mv (.t 0), some (7, false), false, []⟩, ⟨some 13, false, .ix (.t 12) (.c (.int .i64 0)), some (7, false), false, []⟩, ⟨some 14, false, .call (.c (.fn 11 [])) [.t 13], some (7, false), false, []⟩, ⟨some 15, false, .un .not (.t 14), some (7, false), false, []⟩, ⟨some 16, false, .pick (.t 11) (.c (.bool true)) (.t 15), none, false, []⟩] [0, 16] []) (.cond (.t 16) (.seq (.reg false [⟨some 2, false, .asg (.c (.bool false)), none, false, []⟩] [2] []) .ret) .skip)) (.norm [0] [] spec_l01Name_k3))) }
noncomputable def spec_l01Name_D : List (Nat × Callee) := [(11, spec_l01Small_c), (12, spec_l01Digit_c)]
def spec_l01Name_H : List (Nat × ET) := []
noncomputable def spec_l01Name_c : Callee := mkCallee spec_l01Name_D spec_l01Name_H spec_l01Name_ir [.d (.one .str)] [.d (.one .bool)] []
noncomputable def spec_l01Name (a0 : List UInt8) : Option (Bool) := spec_l01Name_c.f (a0, ())
noncomputable def spec_l01Name_p0  (v0 : List UInt8) : Option (Bool) :=
 goL spec_l01Name_D spec_l01Name_H (vleave spec_l01Name_ir [.d (.one .str)] [.d (.one .bool)] [] []) [.c spec_l01Name_k3]
  ⟨[(0, .str v0)], []⟩
noncomputable def spec_l01Name_p1  (v0 : List UInt8) (v3 : Int) : Option (Bool) :=
 goL spec_l01Name_D spec_l01Name_H (vleave spec_l01Name_ir [.d (.one .str)] [.d (.one .bool)] [] []) [.c spec_l01Name_k0, .l spec_l01Name_k1, .e 0, .c spec_l01Name_k2]
  ⟨[(0, .str v0), (3, .int .i64 v3)], []⟩
theorem spec_l01Name_eq (a0 : List UInt8) : spec_l01Name a0 =
  if (a0 == []) then
   some false
  else
   if decide ((a0.length : Int) > 10) then
    some false
   else
    (a0[0]?).bind fun x1 =>
     (spec_l01Small (x1.toNat : Int)).bind fun x2 =>
      if (!x2) then
       some false
      else
       spec_l01Name_p0 a0 :=
 (mk_f _ _ _ _ _ _ _ 4000).trans (by kernel_rfl)
theorem spec_l01Name_p0_eq  (v0 : List UInt8) : spec_l01Name_p0 v0 =
  spec_l01Name_p1 v0 0 :=
 (goL_dn _ _ _ 4000 _ _).trans (by kernel_rfl)
theorem spec_l01Name_p1_eq  (v0 : List UInt8) (v3 : Int) : spec_l01Name_p1 v0 v3 =
  if decide (v3 < (v0.length : Int)) then
   if decide (0 ≤ v3) then
    (v0[v3.toNat]?).bind fun x1 =>
     (spec_l01Small (x1.toNat : Int)).bind fun x2 =>
      if (!x2) then
       if decide (0 ≤ v3) then
        (v0[v3.toNat]?).bind fun x3 =>
         (spec_l01Digit (x3.toNat : Int)).bind fun x4 =>
          if (!x4) then
           some false
          else
           spec_l01Name_p1 v0 (IntKind.i64.wrap (v3 + 1))
       else
        none
      else
       spec_l01Name_p1 v0 (IntKind.i64.wrap (v3 + 1))
   else
    none
  else
   some true :=
 (goL_dn _ _ _ 4000 _ _).trans (by kernel_rfl)

/- spec.l00In -/
def spec_l00In_ir : Fn := { np := 3, io := [], res := [.t 6], own := [false], body :=
 (.seq (.reg false [⟨some 6, false, .asg (.c (.bool false)), none, false, []⟩] [0, 1, 2] []) (.seq (.reg false [⟨some 7, false, .mv (.t 0), none, false, []⟩, ⟨some 8, false, .mv (.t 1), none, false, []⟩, ⟨some 9, false, .bin .geq (.t 7) (.t 8), none, false, []⟩, ⟨some 10, false, .mv (.t 9), none, false, []⟩, ⟨some 11, false, .mv (.t 0), some (3, true), false, []⟩, ⟨some 12, false, .mv (.t 2), some (3, true), false, []⟩, ⟨some 13, false, .bin .leq (.t 11) (.t 12), some (3, true), false, []⟩, ⟨some 14, false, .pick (.t 10) (.t 13) (.c (.bool false)), none, false, []⟩, ⟨some 6, false, .asg (.t 14), none, false, []⟩] [6] []) .ret)) }
noncomputable def spec_l00In_D : List (Nat × Callee) := []
def spec_l00In_H : List (Nat × ET) := []
noncomputable def spec_l00In_c : Callee := mkCallee spec_l00In_D spec_l00In_H spec_l00In_ir [.d (.one (.int .i64)), .d (.one (.int .i64)), .d (.one (.int .i64))] [.d (.one .bool)] []
noncomputable def spec_l00In (a0 : Int) (a1 : Int) (a2 : Int) : Option (Bool) := spec_l00In_c.f (a0, a1, a2, ())
theorem spec_l00In_eq (a0 : Int) (a1 : Int) (a2 : Int) : spec_l00In a0 a1 a2 =
  if decide (a0 ≥ a1) then
   some (decide (a0 ≤ a2))
  else
   some false :=
 (mk_f _ _ _ _ _ _ _ 4000).trans (by kernel_rfl)

/- spec.l06Size -/
def spec_l06Size_ir : Fn := { np := 1, io := [], res := [.t 2], own := [false], body :=
 (.seq (.reg false [⟨some 2, false, .asg (.c (.bool false)), none, false, []⟩] [0] []) (.seq (.reg false [⟨some 3, false, .mv (.t 0), none, false, []⟩, ⟨some 4, false, .call (.c (.fn 1 [])) [.t 3, .c (.int .i64 1), .c (.int .i64 10000)], none, false, []⟩, ⟨some 2, false, .asg (.t 4), none, false, []⟩] [2] []) .ret)) }
noncomputable def spec_l06Size_D : List (Nat × Callee) := [(1, spec_l00In_c)]
def spec_l06Size_H : List (Nat × ET) := []
noncomputable def spec_l06Size_c : Callee := mkCallee spec_l06Size_D spec_l06Size_H spec_l06Size_ir [.d (.one (.int .i64))] [.d (.one .bool)] []
noncomputable def spec_l06Size (a0 : Int) : Option (Bool) := spec_l06Size_c.f (a0, ())
theorem spec_l06Size_eq (a0 : Int) : spec_l06Size a0 =
  (spec_l00In a0 1 10000).bind fun x1 =>
   some x1 :=
 (mk_f _ _ _ _ _ _ _ 4000).trans (by kernel_rfl)

/- spec.l06One -/
def spec_l06One_ir : Fn := { np := 1, io := [], res := [.t 2], own := [false], body :=
 (.seq (.reg false [⟨some 2, false, .asg (.c (.bool false)), none, false, []⟩] [0] []) (.seq (.reg false [⟨some 3, false, .mv (.t 0), none, false, []⟩, ⟨some 4, false, .nilck (.t 3), none, false, []⟩, ⟨some 5, false, .fa 0 (.t 4), none, false, []⟩, ⟨some 6, false, .ld none (.t 5), none, false, []⟩, ⟨some 7, false, .call (.c (.fn 13 [])) [.t 6], none, false, []⟩, ⟨some 8, false, .mv (.t 7), none, false, []⟩, ⟨some 9, false, .mv (.t 0), some (5, true), false, []⟩, ⟨some 10, false, .nilck (.t 9), some (5, true), false, []⟩, ⟨some 11, false, .fa 1 (.t 10), some (5, true), false, []⟩, ⟨some 12, false, .ld none (.t 11), some (5, true), false, []⟩, ⟨some 13, false, .call (.c (.fn 962 [])) [.t 12], some (5, true), false, []⟩, ⟨some 14, false, .pick (.t 8) (.t 13) (.c (.bool false)), none, false, []⟩, ⟨some 15, false, .mv (.t 14), none, false, []⟩, ⟨some 16, false, .mv (.t 0), some (12, true), false, []⟩, ⟨some 17, false, .nilck (.t 16), some (12, true), false, []⟩, ⟨some 18, false, .fa 2 (.t 17), some (12, true), false, []⟩, ⟨some 19, false, .ld none (.t 18), some (12, true), false, []⟩, ⟨some 20, false, .call (.c (.fn 962 [])) [.t 19], some (12, true), false, []⟩, ⟨some 21, false, .pick (.t 15) (.t 20) (.c (.bool false)), none, false, []⟩, ⟨some 2, false, .asg (.t 21), none, false, []⟩] [2] []) .ret)) }
noncomputable def spec_l06One_D : List (Nat × Callee) := [(13, spec_l01Name_c), (962, spec_l06Size_c)]
def spec_l06One_H : List (Nat × ET) := []
noncomputable def spec_l06One_c : Callee := mkCallee spec_l06One_D spec_l06One_H spec_l06One_ir [.p T_Mode] [.d (.one .bool)] []
noncomputable def spec_l06One (a0 : T_Mode.ty) : Option (Bool) := spec_l06One_c.f (a0, ())
theorem spec_l06One_eq (a0 : T_Mode.ty) : spec_l06One a0 =
  (spec_l01Name a0.1).bind fun x1 =>
   if x1 then
    (spec_l06Size a0.2.1).bind fun x2 =>
     if x2 then
      (spec_l06Size a0.2.2.1).bind fun x3 =>
       some x3
     else
      some false
   else
    some false :=
 (mk_f _ _ _ _ _ _ _ 4000).trans (by kernel_rfl)

/- spec.l01List -/
def spec_l01List_k0 : C :=
 .reg false [⟨some 18, false, .mv (.t 3), none, false, []⟩, ⟨some 19, false, .mv (.t 0), none, false, []⟩, ⟨some 20, false, .mv (.t 4), none, false, []⟩, ⟨some 21, false, .ia 1 (.t 19) (.t 20), none, false, []⟩, ⟨some 22, false, .ld none (.t 21), none, false, []⟩, ⟨some 23, false, .call (.c (.fn 726 [])) [.t 22], none, false, []⟩, ⟨some 24, false, .bin .add (.t 18) (.t 23), none, false, []⟩, ⟨some 3, false, .asg (.t 24), none, false, []⟩] [0, 3, 4] []
def spec_l01List_k1 : C :=
 .reg false [⟨some 12, false, .mv (.t 4), none, false, []⟩, ⟨some 13, false, .bin .add (.t 12) (.c (.int .i64 1)), none, false, []⟩, ⟨some 4, false, .asg (.t 13), none, false, []⟩] [0, 3, 4] []
def spec_l01List_k2 : C :=
 .seq (.seq (.reg false [⟨some 8, false, .mv (.t 4), none, false, []⟩, ⟨some 9, false, .mv (.t 0), none, false, []⟩, ⟨some 10, false, .len (.t 9), none, false, []⟩, ⟨some 11, false, .bin .lss (.t 8) (.t 10), none, false, []⟩] [0, 3, 4, 11] []) (.cond (.t 11) .skip (.exit 0))) (.seq (.block 1 (.seq (.seq (.reg false [⟨some 14, false, .mv (.t 4), none, false, []⟩, ⟨some 15, false, .bin .gtr (.t 14) (.c (.int .i64 0)), none, false, []⟩] [0, 3, 4, 15] []) (.cond (.t 15) (.reg false [⟨some 16, false, .mv (.t 3), none, false, []⟩, ⟨some 17, false, .bin .add (.t 16) (.c (.str [44])), none, false, []⟩, ⟨some 3, false, .asg (.t 17), none, false, []⟩] [0, 3, 4] []) .skip)) (.norm [0, 3, 4] [] spec_l01List_k0))) spec_l01List_k1)
def spec_l01List_k3 : C :=
 .norm [0, 3, 4] [] spec_l01List_k2
def spec_l01List_k4 : C :=
 .seq (.reg false [⟨some 25, false, .mv (.t 3), none, false, []⟩, ⟨some 2, false, .asg (.t 25), none, false, []⟩] [2] []) .ret
def spec_l01List_ir : Fn := { np := 1, io := [], res := [.t 2], own := [false], body :=
 (.seq (.reg false [⟨some 2, false, .asg (.c (.str [])), none, false, []⟩] [0] []) (.seq (.seq (.reg false [⟨some 5, false, .mv (.t 0), none, false, []⟩, ⟨some 6, false, .len (.t 5), none, false, []⟩, ⟨some 7, false, .bin .eql (.t 6) (.c (.int .i64 0)), none, false, []⟩] [0, 7] []) (.cond (.t 7) (.seq (.reg false [⟨some 2, false, .asg (.c (.str [45])), none, false, []⟩] [2] []) .ret) .skip)) (.seq (.reg false [⟨some 3, false, .asg (.c (.str [])), none, false, []⟩] [0, 3] []) (.seq (.seq (.reg false [⟨some 4, false, .asg (.c (.int .i64 0)), none, false, []⟩] [0, 3, 4] []) (.block 0 (.loop spec_l01List_k3))) spec_l01List_k4)))) }
noncomputable def spec_l01List_D : List (Nat × Callee) := [(726, spec_l01Dec_c)]
def spec_l01List_H : List (Nat × ET) := [(5, (.one (.int .i64))), (9, (.one (.int .i64))), (19, (.one (.int .i64)))]
noncomputable def spec_l01List_c : Callee := mkCallee spec_l01List_D spec_l01List_H spec_l01List_ir [.d (.one (.sl (.one (.int .i64))))] [.d (.one .str)] []
noncomputable def spec_l01List (a0 : List Int) : Option (List UInt8) := spec_l01List_c.f (a0, ())
noncomputable def spec_l01List_p0  (v0 : List Int) (v3 : List UInt8) (v4 : Int) : Option (List UInt8) :=
 goL spec_l01List_D spec_l01List_H (vleave spec_l01List_ir [.d (.one (.sl (.one (.int .i64))))] [.d (.one .str)] [] []) [.c spec_l01List_k2, .l spec_l01List_k3, .e 0, .c spec_l01List_k4]
  ⟨[(0, .sl (.one (.int .i64)) v0), (3, .str v3), (4, .int .i64 v4)], []⟩
noncomputable def spec_l01List_p1  (v0 : List Int) (v3 : List UInt8) (v4 : Int) : Option (List UInt8) :=
 goL spec_l01List_D spec_l01List_H (vleave spec_l01List_ir [.d (.one (.sl (.one (.int .i64))))] [.d (.one .str)] [] []) [.c spec_l01List_k0, .e 1, .c spec_l01List_k1, .l spec_l01List_k3, .e 0, .c spec_l01List_k4]
  ⟨[(0, .sl (.one (.int .i64)) v0), (3, .str v3), (4, .int .i64 v4)], []⟩
theorem spec_l01List_eq (a0 : List Int) : spec_l01List a0 =
  if ((a0.length : Int) == 0) then
   some [45]
  else
   spec_l01List_p0 a0 [] 0 :=
 (mk_f _ _ _ _ _ _ _ 4000).trans (by kernel_rfl)
theorem spec_l01List_p0_eq  (v0 : List Int) (v3 : List UInt8) (v4 : Int) : spec_l01List_p0 v0 v3 v4 =
  if decide (v4 < (v0.length : Int)) then
   if decide (v4 > 0) then
    if decide (v3.length + [44].length ≤ strMax) then
     spec_l01List_p1 v0 (v3 ++ [44]) v4
    else
     none
   else
    spec_l01List_p1 v0 v3 v4
  else
   some v3 :=
 (goL_dn _ _ _ 4000 _ _).trans (by kernel_rfl)
theorem spec_l01List_p1_eq  (v0 : List Int) (v3 : List UInt8) (v4 : Int) : spec_l01List_p1 v0 v3 v4 =
  if decide (0 ≤ v4) then
   (v0[v4.toNat]?).bind fun x1 =>
    (spec_l01Dec x1).bind fun x2 =>
     if decide (v3.length + x2.length ≤ strMax) then
      spec_l01List_p0 v0 (v3 ++ x2) (IntKind.i64.wrap (v4 + 1))
     else
      none
  else
   none :=
 (goL_dn _ _ _ 4000 _ _).trans (by kernel_rfl)

/- spec.l06Text -/
def spec_l06Text_ir : Fn := { np := 1, io := [], res := [.t 2], own := [false], body :=
 (.seq (.reg false [⟨some 2, false, .asg (.c (.str [])), none, false, []⟩] [0] []) (.seq (.reg true [⟨some 3, false, .mv (.t 0), none, false, []⟩, ⟨some 4, false, .nilck (.t 3), none, false, []⟩, ⟨some 5, false, .fa 0 (.t 4), none, false, []⟩, ⟨some 6, false, .ld none (.t 5), none, false, []⟩, ⟨some 7, false, .bin .add (.t 6) (.c (.str [32])), none, false, []⟩, ⟨some 8, false, .mv (.t 0), none, false, []⟩, ⟨some 9, false, .nilck (.t 8), none, false, []⟩, ⟨some 10, false, .fa 1 (.t 9), none, false, []⟩, ⟨some 11, false, .ld none (.t 10), none, false, []⟩, ⟨some 12, false, .mv (.t 0), none, false, []⟩, ⟨some 13, false, .nilck (.t 12), none, false, []⟩, ⟨some 14, false, .fa 2 (.t 13), none, false, []⟩, ⟨some 15, false, .ld none (.t 14), none, false, []⟩, ⟨some 16, false, .bsl 1 (.int .i64 0) 2 [(0, .t 11), (1, .t 15)], none, false, []⟩, ⟨some 17, false, .call (.c (.fn 963 [])) [.t 16], none, false, []⟩, ⟨some 18, false, .bin .add (.t 7) (.t 17), none, false, []⟩, ⟨some 2, false, .asg (.t 18), none, false, []⟩] [2] []) .ret)) }
noncomputable def spec_l06Text_D : List (Nat × Callee) := [(963, spec_l01List_c)]
def spec_l06Text_H : List (Nat × ET) := [(16, (.one (.int .i64)))]
noncomputable def spec_l06Text_c : Callee := mkCallee spec_l06Text_D spec_l06Text_H spec_l06Text_ir [.p T_Mode] [.d (.one .str)] []
noncomputable def spec_l06Text (a0 : T_Mode.ty) : Option (List UInt8) := spec_l06Text_c.f (a0, ())
theorem spec_l06Text_eq (a0 : T_Mode.ty) : spec_l06Text a0 =
  if decide (a0.1.length + [32].length ≤ strMax) then
   (spec_l01List [a0.2.1, a0.2.2.1]).bind fun x1 =>
    if decide ((a0.1 ++ [32]).length + x1.length ≤ strMax) then
     some ((a0.1 ++ [32]) ++ x1)
    else
     none
  else
   none :=
 (mk_f _ _ _ _ _ _ _ 4000).trans (by kernel_rfl)

/- spec.RibText -/
def spec_RibText_ir : Fn := { np := 1, io := [], res := [.t 2], own := [false], body :=
 (.seq (.reg false [⟨some 1, true, .box 3 (.t 0), none, false, []⟩, ⟨some 2, false, .asg (.c (.str [])), none, false, []⟩] [1] [1]) (.seq (.seq (.reg false [⟨some 3, false, .call (.c (.fn 764 [])) [.t 1], none, false, []⟩, ⟨some 4, false, .un .not (.t 3), none, false, []⟩] [1, 4] [1]) (.cond (.t 4) (.seq (.reg false [⟨some 2, false, .asg (.c (.str [])), none, false, []⟩] [2] []) .ret) .skip)) (.seq (.reg false [⟨some 5, false, .call (.c (.fn 763 [])) [.t 1], none, false, []⟩, ⟨some 2, false, .asg (.t 5), none, false, []⟩] [2] []) .ret))) }
noncomputable def spec_RibText_D : List (Nat × Callee) := [(763, spec_l06Text_c), (764, spec_l06One_c)]
def spec_RibText_H : List (Nat × ET) := []
noncomputable def spec_RibText_c : Callee := mkCallee spec_RibText_D spec_RibText_H spec_RibText_ir [.d T_Mode] [.d (.one .str)] []
noncomputable def spec_RibText (a0 : T_Mode.ty) : Option (List UInt8) := spec_RibText_c.f (a0, ())
theorem spec_RibText_eq (a0 : T_Mode.ty) : spec_RibText a0 =
  (spec_l06One a0).bind fun x1 =>
   if (!x1) then
    some []
   else
    (spec_l06Text a0).bind fun x2 =>
     some x2 :=
 (mk_f _ _ _ _ _ _ _ 4000).trans (by kernel_rfl)

/- laws.FnMoulds -/
def laws_FnMoulds_k0 : C :=
 .seq (.seq (.reg false [⟨some 98, false, .mv (.t 15), none, false, []⟩, ⟨some 99, false, .mv (.t 7), none, false, []⟩, ⟨some 100, false, .len (.t 99), none, false, []⟩, ⟨some 101, false, .bin .lss (.t 98) (.t 100), none, false, []⟩] [0, 1, 5, 6, 7, 11, 15, 101] [5, 7]) (.cond (.t 101) .skip (.exit 0))) (.seq (.block 1 (.seq (.reg true [⟨some 104, false, .mv (.t 7), none, false, []⟩, ⟨some 105, false, .mv (.t 15), none, false, []⟩, ⟨some 106, false, .ia 3 (.t 104) (.t 105), none, false, []⟩, ⟨some 107, false, .fa 0 (.t 106), none, false, []⟩, ⟨some 108, false, .ld none (.t 107), none, false, []⟩, ⟨some 109, false, .mv (.t 5), none, false, []⟩, ⟨some 110, false, .mv (.t 15), none, false, []⟩, ⟨some 111, false, .ia 3 (.t 109) (.t 110), none, false, []⟩, ⟨some 112, false, .fa 0 (.t 111), none, false, []⟩, ⟨some 113, false, .ld none (.t 112), none, false, []⟩, ⟨some 114, false, .bin .neq (.t 108) (.t 113), none, false, []⟩, ⟨some 115, false, .mv (.t 114), none, false, []⟩, ⟨some 116, false, .mv (.t 7), some (11, false), false, []⟩, ⟨some 117, false, .mv (.t 15), some (11, false), false, []⟩, ⟨some 118, false, .ia 3 (.t 116) (.t 117), some (11, false), false, []⟩, ⟨some 119, false, .fa 2 (.t 118), some (11, false), false, []⟩, ⟨some 120, false, .ld none (.t 119), some (11, false), false, []⟩, ⟨some 121, false, .mv (.t 5), some (11, false), false, []⟩, ⟨some 122, false, .mv (.t 15), some (11, false), false, []⟩, ⟨some 123, false, .ia 3 (.t 121) (.t 122), some (11, false), false, []⟩, ⟨some 124, false, .fa 2 (.t 123), some (11, false), false, []⟩, ⟨some 125, false, .ld none (.t 124), some (11, false), false, []⟩, ⟨some 126, false, .bin .neq (.t 120) (.t 125), some (11, false), false, []⟩, ⟨some 127, false, .pick (.t 115) (.c (.bool true)) (.t 126), none, false, []⟩, ⟨some 128, false, .mv (.t 127), none, false, []⟩, ⟨some 129, false, .mv (.t 7), some (24, false), false, []⟩, ⟨some 130, false, .mv (.t 15), some (24, false), false, []⟩, ⟨some 131, false, .ia 3 (.t 129) (.t 130), some (24, false), false, []⟩, ⟨some 132, false, .fa 1 (.t 131), some (24, false), false, []⟩, ⟨some 133, false, .ld none (.t 132), some (24, false), false, []⟩, ⟨some 134, false, .mv (.t 11), some (24, false), false, []⟩, ⟨some 135, false, .bin .mul (.t 133) (.t 134), some (24, false), false, []⟩, ⟨some 136, false, .mv (.t 5), some (24, false), false, []⟩, ⟨some 137, false, .mv (.t 15), some (24, false), false, []⟩, ⟨some 138, false, .ia 3 (.t 136) (.t 137), some (24, false), false, []⟩, ⟨some 139, false, .fa 1 (.t 138), some (24, false), false, []⟩, ⟨some 140, false, .ld none (.t 139), some (24, false), false, []⟩, ⟨some 141, false, .mv (.t 6), some (24, false), false, []⟩, ⟨some 142, false, .bin .mul (.t 140) (.t 141), some (24, false), false, []⟩, ⟨some 143, false, .bin .sub (.t 135) (.t 142), some (24, false), false, []⟩, ⟨some 144, false, .call (.c (.fn 66 [])) [.t 143], some (24, false), false, []⟩, ⟨some 145, false, .mv (.t 11), some (24, false), false, []⟩, ⟨some 146, false, .bin .gtr (.t 144) (.t 145), some (24, false), false, []⟩, ⟨some 147, false, .pick (.t 128) (.c (.bool true)) (.t 146), none, false, []⟩] [0, 1, 5, 6, 7, 11, 15, 147] [5, 7]) (.cond (.t 147) (.seq (.reg false [⟨some 4, false, .asg (.c (.bool false)), none, false, []⟩] [4] []) .ret) .skip))) (.reg false [⟨some 102, false, .mv (.t 15), none, false, []⟩, ⟨some 103, false, .bin .add (.t 102) (.c (.int .i64 1)), none, false, []⟩, ⟨some 15, false, .asg (.t 103), none, false, []⟩] [0, 1, 5, 6, 7, 11, 15] [5, 7]))
def laws_FnMoulds_k1 : C :=
 .norm [0, 1, 5, 6, 7, 11, 15] [5, 7] laws_FnMoulds_k0
def laws_FnMoulds_k2 : C :=
 .seq (.reg false [⟨some 15, false, .asg (.c (.int .i64 0)), none, false, []⟩] [0, 1, 5, 6, 7, 11, 15] [5, 7]) (.block 0 (.loop laws_FnMoulds_k1))
def laws_FnMoulds_k3 : C :=
 .reg false [⟨some 190, false, .mv (.t 20), none, false, []⟩, ⟨some 191, false, .mv (.t 16), none, false, []⟩, ⟨some 192, false, .mv (.t 21), none, false, []⟩, ⟨some 193, false, .ia 3 (.t 191) (.t 192), none, false, []⟩, ⟨some 194, false, .fa 1 (.t 193), none, false, []⟩, ⟨some 195, false, .ld none (.t 194), none, false, []⟩, ⟨some 196, false, .bin .add (.t 190) (.t 195), none, false, []⟩, ⟨some 20, false, .asg (.t 196), none, false, []⟩] [0, 16, 17, 18, 20, 21] [16, 18]
def laws_FnMoulds_k4 : C :=
 .reg false [⟨some 173, false, .mv (.t 21), none, false, []⟩, ⟨some 174, false, .bin .add (.t 173) (.c (.int .i64 1)), none, false, []⟩, ⟨some 21, false, .asg (.t 174), none, false, []⟩] [0, 16, 17, 18, 20, 21] [16, 18]
def laws_FnMoulds_k5 : C :=
 .seq (.seq (.reg false [⟨some 169, false, .mv (.t 21), none, false, []⟩, ⟨some 170, false, .mv (.t 16), none, false, []⟩, ⟨some 171, false, .len (.t 170), none, false, []⟩, ⟨some 172, false, .bin .lss (.t 169) (.t 171), none, false, []⟩] [0, 16, 17, 18, 20, 21, 172] [16, 18]) (.cond (.t 172) .skip (.exit 2))) (.seq (.block 3 (.seq (.seq (.reg false [⟨some 175, false, .mv (.t 18), none, false, []⟩, ⟨some 176, false, .mv (.t 21), none, false, []⟩, ⟨some 177, false, .ia 1 (.t 175) (.t 176), none, false, []⟩, ⟨some 178, false, .ld none (.t 177), none, false, []⟩, ⟨some 179, false, .mv (.t 20), none, false, []⟩, ⟨some 180, false, .bin .neq (.t 178) (.t 179), none, false, []⟩, ⟨some 181, false, .mv (.t 180), none, false, []⟩, ⟨some 182, false, .mv (.t 16), some (6, false), false, []⟩, ⟨some 183, false, .mv (.t 21), some (6, false), false, []⟩, ⟨some 184, false, .ia 3 (.t 182) (.t 183), some (6, false), false, []⟩, ⟨some 185, false, .fa 2 (.t 184), some (6, false), false, []⟩, ⟨some 186, false, .ld none (.t 185), some (6, false), false, []⟩, ⟨some 187, false, .mv (.t 17), some (6, false), false, []⟩, ⟨some 188, false, .bin .lss (.t 186) (.t 187), some (6, false), false, []⟩, ⟨some 189, false, .pick (.t 181) (.c (.bool true)) (.t 188), none, false, []⟩] [0, 16, 17, 18, 20, 21, 189] [16, 18]) (.cond (.t 189) (.seq (.reg false [⟨some 4, false, .asg (.c (.bool false)), none, false, []⟩] [4] []) .ret) .skip)) (.norm [0, 16, 17, 18, 20, 21] [16, 18] laws_FnMoulds_k3))) laws_FnMoulds_k4)
def laws_FnMoulds_k6 : C :=
 .norm [0, 16, 17, 18, 20, 21] [16, 18] laws_FnMoulds_k5
def laws_FnMoulds_k7 : C :=
 .seq (.reg false [⟨some 197, false, .mv (.t 0), none, false, []⟩, ⟨some 198, false, .call (.c (.fn 342 [])) [.t 197], none, false, []⟩, ⟨some 22, true, .alloc 3 (.agg [.str [], .int .i64 0, .int .i64 0]), none, false, []⟩, ⟨none, true, .sto 3 (.t 22) (.t 198), none, false, []⟩] [22] [22]) (.seq (.reg false [⟨some 199, false, .ld (some 3) (.t 22), none, false, []⟩, ⟨some 200, false, .call (.c (.fn 341 [])) [.t 199], none, false, []⟩, ⟨some 23, false, .asg (.t 200), none, false, []⟩] [22, 23] [22]) (.seq (.reg false [⟨some 202, false, .mv (.t 23), none, false, []⟩, ⟨some 203, false, .call (.c (.fn 340 [])) [.t 202], none, false, []⟩, ⟨some 201, false, .mv (.t 203), none, false, []⟩, ⟨some 204, false, .ext (.t 201) 0, none, false, []⟩, ⟨some 205, false, .ext (.t 201) 1, none, false, []⟩, ⟨some 24, true, .alloc 3 (.agg [.str [], .int .i64 0, .int .i64 0]), none, false, []⟩, ⟨none, true, .sto 3 (.t 24) (.t 204), none, false, []⟩, ⟨some 25, false, .asg (.t 205), none, false, []⟩] [22, 23, 24, 25] [22, 24]) (.seq (.reg false [⟨some 206, false, .mv (.t 23), none, false, []⟩, ⟨some 207, false, .bin .eql (.t 206) (.c (.str [])), none, false, []⟩, ⟨some 208, false, .ld (some 3) (.t 22), none, false, []⟩, ⟨some 209, false, .call (.c (.fn 339 [])) [.t 208], none, false, []⟩, ⟨some 210, false, .bin .eql (.t 209) (.c (.str [])), none, false, []⟩, ⟨some 211, false, .eqb false (.t 207) (.t 210), none, false, []⟩, ⟨some 212, false, .mv (.t 211), none, false, []⟩, ⟨some 213, false, .mv (.t 23), some (6, true), false, []⟩, ⟨some 214, false, .bin .eql (.t 213) (.c (.str [])), some (6, true), false, []⟩, ⟨some 215, false, .mv (.t 25), some (6, true), false, []⟩, ⟨some 216, false, .eqb true (.t 214) (.t 215), some (6, true), false, []⟩, ⟨some 217, false, .pick (.t 212) (.t 216) (.c (.bool false)), none, false, []⟩, ⟨some 218, false, .mv (.t 217), none, false, []⟩, ⟨some 219, false, .mv (.t 25), some (12, true), false, []⟩, ⟨some 220, false, .un .not (.t 219), some (12, true), false, []⟩, ⟨some 221, false, .mv (.t 220), some (12, true), false, []⟩, ⟨some 222, false, .ld (some 3) (.t 24), some (15, false), false, []⟩, ⟨some 223, false, .ld (some 3) (.t 22), some (15, false), false, []⟩, ⟨some 224, false, .eqs false [.s, .i, .i] (.t 222) (.t 223), some (15, false), false, []⟩, ⟨some 225, false, .pick (.t 221) (.c (.bool true)) (.t 224), some (12, true), false, []⟩, ⟨some 226, false, .pick (.t 218) (.t 225) (.c (.bool false)), none, false, []⟩, ⟨some 4, false, .asg (.t 226), none, false, []⟩] [4] []) .ret)))
def laws_FnMoulds_k8 : C :=
 .norm [0] [] laws_FnMoulds_k7
def laws_FnMoulds_k9 : C :=
 .seq (.reg false [⟨some 152, false, .mv (.t 1), none, false, []⟩, ⟨some 153, false, .call (.c (.fn 344 [])) [.t 152], none, false, []⟩, ⟨some 151, false, .mv (.t 153), none, false, []⟩, ⟨some 154, false, .ext (.t 151) 0, none, false, []⟩, ⟨some 155, false, .ext (.t 151) 1, none, false, []⟩, ⟨some 16, true, .asg (.t 154), none, false, []⟩, ⟨some 17, false, .asg (.t 155), none, false, []⟩] [0, 16, 17] [16]) (.seq (.reg false [⟨some 157, false, .mv (.t 16), none, false, []⟩, ⟨some 158, false, .mv (.t 17), none, false, []⟩, ⟨some 159, false, .call (.c (.fn 343 [])) [.t 157, .t 158], none, false, []⟩, ⟨some 156, false, .mv (.t 159), none, false, []⟩, ⟨some 160, false, .ext (.t 156) 0, none, false, []⟩, ⟨some 161, false, .ext (.t 156) 1, none, false, []⟩, ⟨some 18, true, .asg (.t 160), none, false, []⟩, ⟨some 19, false, .asg (.t 161), none, false, []⟩] [0, 16, 17, 18, 19] [16, 18]) (.seq (.seq (.reg false [⟨some 162, false, .mv (.t 19), none, false, []⟩, ⟨some 163, false, .bin .eql (.t 162) (.c (.int .i64 0)), none, false, []⟩] [0, 16, 17, 18, 163] [16, 18]) (.cond (.t 163) (.seq (.seq (.reg false [⟨some 164, false, .mv (.t 18), none, false, []⟩, ⟨some 165, false, .len (.t 164), none, false, []⟩, ⟨some 166, false, .mv (.t 16), none, false, []⟩, ⟨some 167, false, .len (.t 166), none, false, []⟩, ⟨some 168, false, .bin .neq (.t 165) (.t 167), none, false, []⟩] [0, 16, 17, 18, 168] [16, 18]) (.cond (.t 168) (.seq (.reg false [⟨some 4, false, .asg (.c (.bool false)), none, false, []⟩] [4] []) .ret) .skip)) (.seq (.reg false [⟨some 20, false, .asg (.c (.int .i64 0)), none, false, []⟩] [0, 16, 17, 18, 20] [16, 18]) (.seq (.reg false [⟨some 21, false, .asg (.c (.int .i64 0)), none, false, []⟩] [0, 16, 17, 18, 20, 21] [16, 18]) (.block 2 (.loop laws_FnMoulds_k6))))) .skip)) laws_FnMoulds_k8))
def laws_FnMoulds_k10 : C :=
 .norm [0, 1] [] laws_FnMoulds_k9
def laws_FnMoulds_k11 : C :=
 .seq (.seq (.reg false [⟨some 73, false, .mv (.t 8), none, false, []⟩, ⟨some 74, false, .bin .eql (.t 73) (.c (.int .i64 0)), none, false, []⟩] [0, 1, 5, 6, 7, 10, 11, 74] [5, 7]) (.cond (.t 74) (.seq (.reg false [⟨some 76, false, .mv (.t 7), none, false, []⟩, ⟨some 77, false, .mv (.t 6), none, false, []⟩, ⟨some 78, false, .call (.c (.fn 345 [])) [.t 76, .t 77], none, false, []⟩, ⟨some 75, false, .mv (.t 78), none, false, []⟩, ⟨some 79, false, .ext (.t 75) 0, none, false, []⟩, ⟨some 80, false, .ext (.t 75) 1, none, false, []⟩, ⟨some 13, false, .asg (.t 79), none, false, []⟩, ⟨some 14, false, .asg (.t 80), none, false, []⟩] [0, 1, 5, 6, 7, 10, 11, 13, 14] [5, 7]) (.seq (.seq (.reg false [⟨some 81, false, .mv (.t 7), none, false, []⟩, ⟨some 82, false, .len (.t 81), none, false, []⟩, ⟨some 83, false, .mv (.t 5), none, false, []⟩, ⟨some 84, false, .len (.t 83), none, false, []⟩, ⟨some 85, false, .bin .neq (.t 82) (.t 84), none, false, []⟩, ⟨some 86, false, .mv (.t 85), none, false, []⟩, ⟨some 87, false, .mv (.t 14), some (5, false), false, []⟩, ⟨some 88, false, .bin .neq (.t 87) (.c (.int .i64 0)), some (5, false), false, []⟩, ⟨some 89, false, .pick (.t 86) (.c (.bool true)) (.t 88), none, false, []⟩, ⟨some 90, false, .mv (.t 89), none, false, []⟩, ⟨some 91, false, .mv (.t 13), some (9, false), false, []⟩, ⟨some 92, false, .bin .neq (.t 91) (.c (.int .i64 0)), some (9, false), false, []⟩, ⟨some 93, false, .pick (.t 90) (.c (.bool true)) (.t 92), none, false, []⟩, ⟨some 94, false, .mv (.t 93), none, false, []⟩, ⟨some 95, false, .mv (.t 10), some (13, false), false, []⟩, ⟨some 96, false, .bin .neq (.t 95) (.c (.int .i64 0)), some (13, false), false, []⟩, ⟨some 97, false, .pick (.t 94) (.c (.bool true)) (.t 96), none, false, []⟩] [0, 1, 5, 6, 7, 11, 97] [5, 7]) (.cond (.t 97) (.seq (.reg false [⟨some 4, false, .asg (.c (.bool false)), none, false, []⟩] [4] []) .ret) .skip)) (.norm [0, 1, 5, 6, 7, 11] [5, 7] laws_FnMoulds_k2))) (.seq (.reg false [⟨some 148, false, .mv (.t 7), none, false, []⟩, ⟨some 149, false, .len (.t 148), none, false, []⟩, ⟨some 150, false, .bin .neq (.t 149) (.c (.int .i64 0)), none, false, []⟩] [0, 1, 150] []) (.cond (.t 150) (.seq (.reg false [⟨some 4, false, .asg (.c (.bool false)), none, false, []⟩] [4] []) .ret) .skip)))) laws_FnMoulds_k10
def laws_FnMoulds_k12 : C :=
 .seq (.reg false [⟨some 33, false, .mv (.t 0), none, false, []⟩, ⟨some 34, false, .call (.c (.fn 348 [])) [.t 33], none, false, []⟩, ⟨some 32, false, .mv (.t 34), none, false, []⟩, ⟨some 35, false, .ext (.t 32) 0, none, false, []⟩, ⟨some 36, false, .ext (.t 32) 1, none, false, []⟩, ⟨some 5, true, .asg (.t 35), none, false, []⟩, ⟨some 6, false, .asg (.t 36), none, false, []⟩] [0, 1, 5, 6] [5]) (.seq (.reg false [⟨some 38, false, .mv (.t 5), none, false, []⟩, ⟨some 39, false, .mv (.t 6), none, false, []⟩, ⟨some 40, false, .call (.c (.fn 347 [])) [.t 38, .t 39], none, false, []⟩, ⟨some 37, false, .mv (.t 40), none, false, []⟩, ⟨some 41, false, .ext (.t 37) 0, none, false, []⟩, ⟨some 42, false, .ext (.t 37) 1, none, false, []⟩, ⟨some 7, true, .asg (.t 41), none, false, []⟩, ⟨some 8, false, .asg (.t 42), none, false, []⟩] [0, 1, 5, 6, 7, 8] [5, 7]) (.seq (.reg false [⟨some 44, false, .mv (.t 5), none, false, []⟩, ⟨some 45, false, .mv (.t 6), none, false, []⟩, ⟨some 46, false, .call (.c (.fn 345 [])) [.t 44, .t 45], none, false, []⟩, ⟨some 43, false, .mv (.t 46), none, false, []⟩, ⟨some 47, false, .ext (.t 43) 0, none, false, []⟩, ⟨some 48, false, .ext (.t 43) 1, none, false, []⟩, ⟨some 9, false, .asg (.t 47), none, false, []⟩, ⟨some 10, false, .asg (.t 48), none, false, []⟩] [0, 1, 5, 6, 7, 8, 9, 10] [5, 7]) (.seq (.reg false [⟨some 50, false, .mv (.t 5), none, false, []⟩, ⟨some 51, false, .call (.c (.fn 346 [])) [.t 50], none, false, []⟩, ⟨some 49, false, .mv (.t 51), none, false, []⟩, ⟨some 52, false, .ext (.t 49) 0, none, false, []⟩, ⟨some 53, false, .ext (.t 49) 1, none, false, []⟩, ⟨some 11, false, .asg (.t 52), none, false, []⟩, ⟨some 12, false, .asg (.t 53), none, false, []⟩] [0, 1, 5, 6, 7, 8, 9, 10, 11, 12] [5, 7]) (.seq (.seq (.reg false [⟨some 54, false, .mv (.t 10), none, false, []⟩, ⟨some 55, false, .bin .eql (.t 54) (.c (.int .i64 0)), none, false, []⟩, ⟨some 56, false, .mv (.t 55), none, false, []⟩, ⟨some 57, false, .mv (.t 12), some (2, true), false, []⟩, ⟨some 58, false, .bin .neq (.t 57) (.c (.int .i64 0)), some (2, true), false, []⟩, ⟨some 59, false, .mv (.t 58), some (2, true), false, []⟩, ⟨some 60, false, .mv (.t 9), some (5, false), false, []⟩, ⟨some 61, false, .mv (.t 6), some (5, false), false, []⟩, ⟨some 62, false, .mv (.t 11), some (5, false), false, []⟩, ⟨some 63, false, .bin .sub (.t 61) (.t 62), some (5, false), false, []⟩, ⟨some 64, false, .bin .neq (.t 60) (.t 63), some (5, false), false, []⟩, ⟨some 65, false, .pick (.t 59) (.c (.bool true)) (.t 64), some (2, true), false, []⟩, ⟨some 66, false, .mv (.t 65), some (2, true), false, []⟩, ⟨some 67, false, .mv (.t 11), some (12, false), false, []⟩, ⟨some 68, false, .mv (.t 5), some (12, false), false, []⟩, ⟨some 69, false, .len (.t 68), some (12, false), false, []⟩, ⟨some 70, false, .bin .lss (.t 67) (.t 69), some (12, false), false, []⟩, ⟨some 71, false, .pick (.t 66) (.c (.bool true)) (.t 70), some (2, true), false, []⟩, ⟨some 72, false, .pick (.t 56) (.t 71) (.c (.bool false)), none, false, []⟩] [0, 1, 5, 6, 7, 8, 10, 11, 72] [5, 7]) (.cond (.t 72) (.seq (.reg false [⟨some 4, false, .asg (.c (.bool false)), none, false, []⟩] [4] []) .ret) .skip)) (.norm [0, 1, 5, 6, 7, 8, 10, 11] [5, 7] laws_FnMoulds_k11)))))
def laws_FnMoulds_ir : Fn := { np := 2, io := [], res := [.t 4], own := [false], body :=
 (.seq (.reg false [⟨some 4, false, .asg (.c (.bool false)), none, false, []⟩] [0, 1] []) (.seq (.seq (.reg false [⟨some 26, false, .mv (.t 0), none, false, []⟩, ⟨some 27, false, .call (.c (.fn 76 [])) [.t 26], none, false, []⟩, ⟨some 28, false, .mv (.t 27), none, false, []⟩, ⟨some 29, false, .mv (.t 1), some (2, false), false, []⟩, ⟨some 30, false, .call (.c (.fn 76 [])) [.t 29], some (2, false), false, []⟩, ⟨some 31, false, .pick (.t 28) (.c (.bool true)) (.t 30), none, false, []⟩] [0, 1, 31] []) (.cond (.t 31) (.seq (.reg false [⟨some 4, false, .asg (.c (.bool true)), none, false, []⟩] [4] []) .ret) .skip)) (.norm [0, 1] [] laws_FnMoulds_k12))) }
noncomputable def laws_FnMoulds_D : List (Nat × Callee) := [(66, laws_b10Abs_c), (76, laws_b10Long_c), (339, spec_RibText_c), (340, impl_ReadRib_c), (341, impl_RibText_c), (342, spec_DrawRibText_c), (343, impl_BlocksAt_c), (344, spec_DrawBlocksAt_c), (345, impl_MouldGap_c), (346, impl_RibsLength_c), (347, impl_StretchRibs_c), (348, spec_DrawStretchRibs_c)]
def laws_FnMoulds_H : List (Nat × ET) := [(5, T_Mode), (7, T_Mode), (16, T_Mode), (18, (.one (.int .i64))), (26, (.one (.int .u8))), (29, (.one (.int .u8))), (33, (.one (.int .u8))), (35, T_Mode), (38, T_Mode), (41, T_Mode), (44, T_Mode), (50, T_Mode), (68, T_Mode), (76, T_Mode), (81, T_Mode), (83, T_Mode), (99, T_Mode), (104, T_Mode), (109, T_Mode), (116, T_Mode), (121, T_Mode), (129, T_Mode), (136, T_Mode), (148, T_Mode), (152, (.one (.int .u8))), (154, T_Mode), (157, T_Mode), (160, (.one (.int .i64))), (164, (.one (.int .i64))), (166, T_Mode), (170, T_Mode), (175, (.one (.int .i64))), (182, T_Mode), (191, T_Mode), (197, (.one (.int .u8)))]
noncomputable def laws_FnMoulds_c : Callee := mkCallee laws_FnMoulds_D laws_FnMoulds_H laws_FnMoulds_ir [.d (.one (.sl (.one (.int .u8)))), .d (.one (.sl (.one (.int .u8))))] [.d (.one .bool)] []
noncomputable def laws_FnMoulds (a0 : List Int) (a1 : List Int) : Option (Bool) := laws_FnMoulds_c.f (a0, a1, ())
noncomputable def laws_FnMoulds_p0  (v0 : List Int) (v1 : List Int) : Option (Bool) :=
 goL laws_FnMoulds_D laws_FnMoulds_H (vleave laws_FnMoulds_ir [.d (.one (.sl (.one (.int .u8)))), .d (.one (.sl (.one (.int .u8))))] [.d (.one .bool)] [] []) [.c laws_FnMoulds_k12]
  ⟨[(0, .sl (.one (.int .u8)) v0), (1, .sl (.one (.int .u8)) v1)], []⟩
noncomputable def laws_FnMoulds_p1  (v0 : List Int) (v1 : List Int) (v6 : Int) (v8 : Int) (v10 : Int) (v11 : Int) (r5 : List T_Mode.ty) (r7 : List T_Mode.ty) : Option (Bool) :=
 goL laws_FnMoulds_D laws_FnMoulds_H (vleave laws_FnMoulds_ir [.d (.one (.sl (.one (.int .u8)))), .d (.one (.sl (.one (.int .u8))))] [.d (.one .bool)] [] []) [.c laws_FnMoulds_k11]
  ⟨[(0, .sl (.one (.int .u8)) v0), (1, .sl (.one (.int .u8)) v1), (5, .view 5 0 r5.length), (6, .int .i64 v6), (7, .view 7 0 r7.length), (8, .int .i64 v8), (10, .int .i64 v10), (11, .int .i64 v11)], [(5, some (.sl T_Mode r5)), (7, some (.sl T_Mode r7))]⟩
noncomputable def laws_FnMoulds_p2  (v0 : List Int) (v1 : List Int) (v6 : Int) (v11 : Int) (r5 : List T_Mode.ty) (r7 : List T_Mode.ty) : Option (Bool) :=
 goL laws_FnMoulds_D laws_FnMoulds_H (vleave laws_FnMoulds_ir [.d (.one (.sl (.one (.int .u8)))), .d (.one (.sl (.one (.int .u8))))] [.d (.one .bool)] [] []) [.c laws_FnMoulds_k2, .c laws_FnMoulds_k10]
  ⟨[(0, .sl (.one (.int .u8)) v0), (1, .sl (.one (.int .u8)) v1), (5, .view 5 0 r5.length), (6, .int .i64 v6), (7, .view 7 0 r7.length), (11, .int .i64 v11)], [(5, some (.sl T_Mode r5)), (7, some (.sl T_Mode r7))]⟩
noncomputable def laws_FnMoulds_p3  (v0 : List Int) (v1 : List Int) : Option (Bool) :=
 goL laws_FnMoulds_D laws_FnMoulds_H (vleave laws_FnMoulds_ir [.d (.one (.sl (.one (.int .u8)))), .d (.one (.sl (.one (.int .u8))))] [.d (.one .bool)] [] []) [.c laws_FnMoulds_k9]
  ⟨[(0, .sl (.one (.int .u8)) v0), (1, .sl (.one (.int .u8)) v1)], []⟩
noncomputable def laws_FnMoulds_p4  (v0 : List Int) (v1 : List Int) (v6 : Int) (v11 : Int) (v15 : Int) (r5 : List T_Mode.ty) (r7 : List T_Mode.ty) : Option (Bool) :=
 goL laws_FnMoulds_D laws_FnMoulds_H (vleave laws_FnMoulds_ir [.d (.one (.sl (.one (.int .u8)))), .d (.one (.sl (.one (.int .u8))))] [.d (.one .bool)] [] []) [.c laws_FnMoulds_k0, .l laws_FnMoulds_k1, .e 0, .c laws_FnMoulds_k10]
  ⟨[(0, .sl (.one (.int .u8)) v0), (1, .sl (.one (.int .u8)) v1), (5, .view 5 0 r5.length), (6, .int .i64 v6), (7, .view 7 0 r7.length), (11, .int .i64 v11), (15, .int .i64 v15)], [(5, some (.sl T_Mode r5)), (7, some (.sl T_Mode r7))]⟩
noncomputable def laws_FnMoulds_p5  (v0 : List Int) (v17 : Int) (v20 : Int) (v21 : Int) (r16 : List T_Mode.ty) (r18 : List Int) : Option (Bool) :=
 goL laws_FnMoulds_D laws_FnMoulds_H (vleave laws_FnMoulds_ir [.d (.one (.sl (.one (.int .u8)))), .d (.one (.sl (.one (.int .u8))))] [.d (.one .bool)] [] []) [.c laws_FnMoulds_k5, .l laws_FnMoulds_k6, .e 2, .c laws_FnMoulds_k8]
  ⟨[(0, .sl (.one (.int .u8)) v0), (16, .view 16 0 r16.length), (17, .int .i64 v17), (18, .view 18 0 r18.length), (20, .int .i64 v20), (21, .int .i64 v21)], [(16, some (.sl T_Mode r16)), (18, some (.sl (.one (.int .i64)) r18))]⟩
noncomputable def laws_FnMoulds_p6  (v0 : List Int) : Option (Bool) :=
 goL laws_FnMoulds_D laws_FnMoulds_H (vleave laws_FnMoulds_ir [.d (.one (.sl (.one (.int .u8)))), .d (.one (.sl (.one (.int .u8))))] [.d (.one .bool)] [] []) [.c laws_FnMoulds_k7]
  ⟨[(0, .sl (.one (.int .u8)) v0)], []⟩
noncomputable def laws_FnMoulds_p7  (v0 : List Int) (v17 : Int) (v20 : Int) (v21 : Int) (r16 : List T_Mode.ty) (r18 : List Int) : Option (Bool) :=
 goL laws_FnMoulds_D laws_FnMoulds_H (vleave laws_FnMoulds_ir [.d (.one (.sl (.one (.int .u8)))), .d (.one (.sl (.one (.int .u8))))] [.d (.one .bool)] [] []) [.c laws_FnMoulds_k3, .e 3, .c laws_FnMoulds_k4, .l laws_FnMoulds_k6, .e 2, .c laws_FnMoulds_k8]
  ⟨[(0, .sl (.one (.int .u8)) v0), (16, .view 16 0 r16.length), (17, .int .i64 v17), (18, .view 18 0 r18.length), (20, .int .i64 v20), (21, .int .i64 v21)], [(16, some (.sl T_Mode r16)), (18, some (.sl (.one (.int .i64)) r18))]⟩
theorem laws_FnMoulds_eq (a0 : List Int) (a1 : List Int) : laws_FnMoulds a0 a1 =
  (laws_b10Long a0).bind fun x1 =>
   if x1 then
    some true
   else
    (laws_b10Long a1).bind fun x2 =>
     if x2 then
      some true
     else
      laws_FnMoulds_p0 a0 a1 :=
 (mk_f _ _ _ _ _ _ _ 4000).trans (by kernel_rfl)
theorem laws_FnMoulds_p0_eq  (v0 : List Int) (v1 : List Int) : laws_FnMoulds_p0 v0 v1 =
  (spec_DrawStretchRibs v0).bind fun x1 =>
   (impl_StretchRibs (x1.1.take x1.1.length) x1.2).bind fun x2 =>
    (impl_MouldGap (x1.1.take x1.1.length) x1.2).bind fun x3 =>
     (impl_RibsLength (x1.1.take x1.1.length)).bind fun x4 =>
      if (x3.2 == 0) then
       if (x4.2 != 0) then
        some false
       else
        if (x3.1 != IntKind.i64.wrap (x1.2 - x4.1)) then
         some false
        else
         if decide (x4.1 < (x1.1.length : Int)) then
          some false
         else
          laws_FnMoulds_p1 v0 v1 x1.2 x2.2 x3.2 x4.1 x1.1 x2.1
      else
       laws_FnMoulds_p1 v0 v1 x1.2 x2.2 x3.2 x4.1 x1.1 x2.1 :=
 (goL_dn _ _ _ 4000 _ _).trans (by kernel_rfl)
theorem laws_FnMoulds_p1_eq  (v0 : List Int) (v1 : List Int) (v6 : Int) (v8 : Int) (v10 : Int) (v11 : Int) (r5 : List T_Mode.ty) (r7 : List T_Mode.ty) : laws_FnMoulds_p1 v0 v1 v6 v8 v10 v11 r5 r7 =
  if (v8 == 0) then
   (impl_MouldGap (r7.take r7.length) v6).bind fun x1 =>
    if ((r7.length : Int) != (r5.length : Int)) then
     some false
    else
     if (x1.2 != 0) then
      some false
     else
      if (x1.1 != 0) then
       some false
      else
       if (v10 != 0) then
        some false
       else
        laws_FnMoulds_p2 v0 v1 v6 v11 r5 r7
  else
   if ((r7.length : Int) != 0) then
    some false
   else
    laws_FnMoulds_p3 v0 v1 :=
 (goL_dn _ _ _ 4000 _ _).trans (by kernel_rfl)
theorem laws_FnMoulds_p2_eq  (v0 : List Int) (v1 : List Int) (v6 : Int) (v11 : Int) (r5 : List T_Mode.ty) (r7 : List T_Mode.ty) : laws_FnMoulds_p2 v0 v1 v6 v11 r5 r7 =
  laws_FnMoulds_p4 v0 v1 v6 v11 0 r5 r7 :=
 (goL_dn _ _ _ 4000 _ _).trans (by kernel_rfl)
theorem laws_FnMoulds_p3_eq  (v0 : List Int) (v1 : List Int) : laws_FnMoulds_p3 v0 v1 =
  (spec_DrawBlocksAt v1).bind fun x1 =>
   (impl_BlocksAt (x1.1.take x1.1.length) x1.2).bind fun x2 =>
    if (x2.2 == 0) then
     if ((x2.1.length : Int) != (x1.1.length : Int)) then
      some false
     else
      laws_FnMoulds_p5 v0 x1.2 0 0 x1.1 x2.1
    else
     laws_FnMoulds_p6 v0 :=
 (goL_dn _ _ _ 4000 _ _).trans (by kernel_rfl)
theorem laws_FnMoulds_p4_eq  (v0 : List Int) (v1 : List Int) (v6 : Int) (v11 : Int) (v15 : Int) (r5 : List T_Mode.ty) (r7 : List T_Mode.ty) : laws_FnMoulds_p4 v0 v1 v6 v11 v15 r5 r7 =
  if decide (v15 < (r7.length : Int)) then
   if decide (0 ≤ v15) && decide (v15 < (r7.length : Int)) then
    (r7[v15.toNat]?).bind fun x1 =>
     if decide (0 ≤ v15) && decide (v15 < (r5.length : Int)) then
      (r5[v15.toNat]?).bind fun x2 =>
       if (!(x1.1 == x2.1)) then
        some false
       else
        if decide (0 ≤ v15) && decide (v15 < (r7.length : Int)) then
         (r7[v15.toNat]?).bind fun x3 =>
          if decide (0 ≤ v15) && decide (v15 < (r5.length : Int)) then
           (r5[v15.toNat]?).bind fun x4 =>
            if (x3.2.2.1 != x4.2.2.1) then
             some false
            else
             if decide (0 ≤ v15) && decide (v15 < (r7.length : Int)) then
              (r7[v15.toNat]?).bind fun x5 =>
               if decide (0 ≤ v15) && decide (v15 < (r5.length : Int)) then
                (r5[v15.toNat]?).bind fun x6 =>
                 (laws_b10Abs (IntKind.i64.wrap ((IntKind.i64.wrap (x5.2.1 * v11)) - (IntKind.i64.wrap (x6.2.1 * v6))))).bind fun x7 =>
                  if decide (x7 > v11) then
                   some false
                  else
                   laws_FnMoulds_p4 v0 v1 v6 v11 (IntKind.i64.wrap (v15 + 1)) r5 r7
               else
                none
             else
              none
          else
           none
        else
         none
     else
      none
   else
    none
  else
   laws_FnMoulds_p3 v0 v1 :=
 (goL_dn _ _ _ 4000 _ _).trans (by kernel_rfl)
theorem laws_FnMoulds_p5_eq  (v0 : List Int) (v17 : Int) (v20 : Int) (v21 : Int) (r16 : List T_Mode.ty) (r18 : List Int) : laws_FnMoulds_p5 v0 v17 v20 v21 r16 r18 =
  if decide (v21 < (r16.length : Int)) then
   if decide (0 ≤ v21) && decide (v21 < (r18.length : Int)) then
    (r18[v21.toNat]?).bind fun x1 =>
     if (x1 != v20) then
      some false
     else
      if decide (0 ≤ v21) && decide (v21 < (r16.length : Int)) then
       (r16[v21.toNat]?).bind fun x2 =>
        if decide (x2.2.2.1 < v17) then
         some false
        else
         laws_FnMoulds_p7 v0 v17 v20 v21 r16 r18
      else
       none
   else
    none
  else
   laws_FnMoulds_p6 v0 :=
 (goL_dn _ _ _ 4000 _ _).trans (by kernel_rfl)
theorem laws_FnMoulds_p6_eq  (v0 : List Int) : laws_FnMoulds_p6 v0 =
  (spec_DrawRibText v0).bind fun x1 =>
   (impl_RibText x1).bind fun x2 =>
    (impl_ReadRib x2).bind fun x3 =>
     (spec_RibText x1).bind fun x4 =>
      if ((x2 == []) == (x4 == [])) then
       if (!((x2 == []) == x3.2)) then
        if (!x3.2) then
         some true
        else
         some ((x3.1.1 == x1.1) && ((x3.1.2.1 == x1.2.1) && (x3.1.2.2.1 == x1.2.2.1)))
       else
        some false
      else
       some false :=
 (goL_dn _ _ _ 4000 _ _).trans (by kernel_rfl)
theorem laws_FnMoulds_p7_eq  (v0 : List Int) (v17 : Int) (v20 : Int) (v21 : Int) (r16 : List T_Mode.ty) (r18 : List Int) : laws_FnMoulds_p7 v0 v17 v20 v21 r16 r18 =
  if decide (0 ≤ v21) && decide (v21 < (r16.length : Int)) then
   (r16[v21.toNat]?).bind fun x1 =>
    laws_FnMoulds_p5 v0 v17 (IntKind.i64.wrap (v20 + x1.2.1)) (IntKind.i64.wrap (v21 + 1)) r16 r18
  else
   none :=
 (goL_dn _ _ _ 4000 _ _).trans (by kernel_rfl)

end Go.Ab.P
