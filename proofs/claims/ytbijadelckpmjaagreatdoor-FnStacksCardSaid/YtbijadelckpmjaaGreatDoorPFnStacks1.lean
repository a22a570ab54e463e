/- Functions of the program: abstract forms, and what their runs give. Conditions: none. -/
import Derived.Test.YtbijadelckpmjaaGreatDoorL4
set_option maxRecDepth 100000
set_option linter.unusedVariables false
namespace Go.Ab.P
open Go.Ab
@[reducible] def T_Problem : ET := .agg (.cons (.int .i64) (.cons .str (.cons .str .nil)))
@[reducible] def T_Pot : ET := .agg (.cons .str (.cons (.int .i64) (.cons (.int .i64) (.cons (.int .i64) (.cons (.int .i64) .nil)))))
@[reducible] def T_Neck : ET := .agg (.cons (.int .i64) (.cons (.int .i64) (.cons (.int .i64) (.cons (.int .i64) .nil))))
@[reducible] def T_Step : ET := .agg (.cons .str (.cons (.int .i64) (.cons (.int .i64) (.cons (.sl (.one (.int .i64))) .nil))))
@[reducible] def T_Peg : ET := .agg (.cons .str (.cons (.int .i64) (.cons (.int .i64) (.cons (.int .i64) .nil))))
@[reducible] def T_Mode : ET := .agg (.cons .str (.cons (.int .i64) (.cons (.int .i64) .nil)))
@[reducible] def T_Deed : ET := .agg (.cons .str (.cons .str (.cons (.int .i64) (.cons (.int .i64) .nil))))
@[reducible] def T_Block : ET := .agg (.cons .str (.cons .str (.cons .str .nil)))
@[reducible] def T_Paper : ET := .agg (.cons .str (.cons .str (.cons (.int .i64) (.cons (.int .i64) (.cons (.int .i64) .nil)))))
@[reducible] def T_Desk : ET := .agg (.cons (.sl T_Peg) (.cons (.sl T_Mode) (.cons (.sl (.one (.sl (.one (.int .i64))))) (.cons (.int .i64) (.cons (.int .i64) (.cons (.int .i64) (.cons (.int .i64) (.cons (.sl T_Peg) (.cons (.sl T_Pot) (.cons (.sl T_Mode) (.cons (.sl T_Peg) (.cons (.sl T_Paper) .nil))))))))))))
@[reducible] def T_Arc : ET := .agg (.cons (.int .i64) (.cons (.int .i64) (.cons (.int .i64) (.cons (.int .i64) (.cons (.int .i64) (.cons (.int .i64) .nil))))))
@[reducible] def T_Entry : ET := .agg (.cons (.int .i64) (.cons .str (.cons .str (.cons (.int .i64) .nil))))
@[reducible] def T_Shop : ET := .agg (.cons (.sl T_Arc) (.cons (.sl T_Neck) (.cons (.int .i64) (.cons (.sl T_Step) (.cons (.sl (.one (.int .i64))) (.cons (.int .i64) (.cons (.sl T_Paper) (.cons (.sl T_Entry) .nil))))))))
@[reducible] def T_Setting : ET := .agg (.cons .str (.cons (.int .i64) .nil))
@[reducible] def T_Version : ET := .agg (.cons (.int .i64) (.cons (.int .i64) (.cons .str (.cons (.sl T_Setting) .nil))))
@[reducible] def T_Point : ET := .agg (.cons (.int .i64) (.cons (.int .i64) .nil))
@[reducible] def T_Grant : ET := .agg (.cons .str (.cons .str (.cons (.int .i64) .nil)))
@[reducible] def T_Role : ET := .agg (.cons .str (.cons (.sl (.one .str)) .nil))
@[reducible] def T_matching : ET := .agg (.cons (.sl T_Mode) (.cons (.sl T_Mode) (.cons (.sl (.one .bool)) (.cons (.int .i64) (.cons (.sl (.one (.int .i64))) (.cons (.int .i64) (.cons (.sl (.one (.int .i64))) (.cons (.int .i64) (.cons .bool .nil)))))))))
@[reducible] def T_cutting : ET := .agg (.cons (.sl T_Mode) (.cons (.int .i64) (.cons (.int .i64) (.cons (.sl (.one (.int .i64))) (.cons (.sl (.one (.int .i64))) (.cons (.int .i64) (.cons (.int .i64) .nil)))))))
@[reducible] def T_link : ET := .agg (.cons .bool (.cons (.int .i64) (.cons (.int .i64) .nil)))
@[reducible] def T_gluing : ET := .agg (.cons (.sl T_Pot) (.cons (.sl (.one (.int .i64))) (.cons (.sl (.one (.int .i64))) (.cons (.int .i64) (.cons (.sl (.one (.int .i64))) (.cons (.int .i64) (.cons (.sl (.one (.int .i64))) (.cons (.int .i64) (.cons .bool .nil)))))))))
@[reducible] def T_Change : ET := .agg (.cons (.int .i64) (.cons .str (.cons (.int .i64) .nil)))
@[reducible] def T_placing : ET := .agg (.cons (.sl T_Peg) (.cons (.sl (.one (.sl (.one (.int .i64))))) (.cons (.int .i64) .nil)))
@[reducible] def T_trusting : ET := .agg (.cons (.sl T_Paper) (.cons (.int .i64) (.cons (.sl (.one (.int .i64))) (.cons (.int .i64) (.cons (.sl (.one (.int .i64))) (.cons (.int .i64) .nil))))))
@[reducible] def T_l00Src : ET := .agg (.cons (.sl (.one (.int .u8))) (.cons (.int .i64) (.cons (.int .u64) .nil)))
@[reducible] def T_arguments : ET := .agg (.cons (.sl (.one (.int .i64))) (.cons (.sl (.one (.int .i64))) (.cons (.int .i64) (.cons .str .nil))))
@[reducible] def T_l14Search : ET := .agg (.cons (.sl T_Pot) (.cons (.sl (.one (.int .i64))) (.cons (.sl (.one (.int .i64))) (.cons (.sl (.one (.int .i64))) (.cons (.sl (.one (.int .i64))) (.cons (.int .i64) (.cons (.int .i64) (.cons (.int .i64) (.cons .bool .nil)))))))))
@[reducible] def T_l06Search : ET := .agg (.cons (.sl T_Mode) (.cons (.int .i64) (.cons (.int .i64) (.cons (.int .i64) (.cons (.sl (.one (.int .i64))) (.cons (.sl (.one (.int .i64))) (.cons (.int .i64) (.cons (.int .i64) (.cons .bool .nil)))))))))
@[reducible] def T_l20Search : ET := .agg (.cons (.sl T_Paper) (.cons (.sl (.one (.int .i64))) (.cons (.sl (.one (.int .i64))) (.cons (.int .i64) (.cons (.int .i64) (.cons (.int .i64) (.cons .bool .nil)))))))
@[reducible] def T_l18Search : ET := .agg (.cons (.sl T_Peg) (.cons (.sl (.one (.sl (.one (.int .i64))))) (.cons (.int .i64) (.cons (.int .i64) (.cons .bool .nil)))))
/- laws.b10Long -/
def laws_b10Long_ir : Fn := { np := 1, io := [], res := [.t 2], own := [false], body :=
 (.seq (.reg false [⟨some 2, false, .asg (.c (.bool false)), none, false, []⟩] [0] []) (.seq (.reg false [⟨some 3, false, .mv (.t 0), none, false, []⟩, ⟨some 4, false, .len (.t 3), none, false, []⟩, ⟨some 5, false, .bin .gtr (.t 4) (.c (.int .i64 1048576)), none, false, []⟩, ⟨some 2, false, .asg (.t 5), none, false, []⟩] [2] []) .ret)) }
noncomputable def laws_b10Long_D : List (Nat × Callee) := []
def laws_b10Long_H : List (Nat × ET) := [(3, (.one (.int .u8)))]
noncomputable def laws_b10Long_c : Callee := mkCallee laws_b10Long_D laws_b10Long_H laws_b10Long_ir [.d (.one (.sl (.one (.int .u8))))] [.d (.one .bool)] []
noncomputable def laws_b10Long (a0 : List Int) : Option (Bool) := laws_b10Long_c.f (a0, ())
theorem laws_b10Long_eq (a0 : List Int) : laws_b10Long a0 =
  some (decide ((a0.length : Int) > 1048576)) :=
 (mk_f _ _ _ _ _ _ _ 4000).trans (by kernel_rfl)

/- spec.l00From -/
def spec_l00From_ir : Fn := { np := 1, io := [], res := [.t 2], own := [true], body :=
 (.seq (.reg false [⟨some 2, false, .asg (.c (.cst (.pointer none))), none, false, []⟩] [0] []) (.seq (.reg false [⟨some 3, false, .mv (.t 0), none, false, []⟩, ⟨some 4, false, .build [.nils 1, .int .i64 0, .int .u64 0] [(0, 1, .t 3)], none, false, []⟩, ⟨some 5, true, .box 3 (.t 4), none, false, []⟩, ⟨some 2, false, .asg (.t 5), none, false, []⟩] [2] [5, 6000]) .ret)) }
noncomputable def spec_l00From_D : List (Nat × Callee) := []
def spec_l00From_H : List (Nat × ET) := [(3, (.one (.int .u8)))]
noncomputable def spec_l00From_c : Callee := mkCallee spec_l00From_D spec_l00From_H spec_l00From_ir [.d (.one (.sl (.one (.int .u8))))] [.box T_l00Src] []
noncomputable def spec_l00From (a0 : List Int) : Option (T_l00Src.ty) := spec_l00From_c.f (a0, ())
theorem spec_l00From_eq (a0 : List Int) : spec_l00From a0 =
  some (a0, 0, 0, ()) :=
 (mk_f _ _ _ _ _ _ _ 4000).trans (by kernel_rfl)

/- (*spec.l00Src).next -/
def spec_l00Src_next_k0 : C :=
 .seq (.reg false [⟨some 25, false, .mv (.t 0), none, false, []⟩, ⟨some 26, false, .nilck (.t 25), none, false, []⟩, ⟨some 27, false, .fa 1 (.t 26), none, false, []⟩, ⟨some 28, false, .ld none (.t 27), none, false, []⟩, ⟨some 29, false, .bin .add (.t 28) (.c (.int .i64 1)), none, false, []⟩, ⟨some 30, false, .nilck (.t 25), none, false, []⟩, ⟨some 31, false, .fa 1 (.t 30), none, false, []⟩, ⟨none, true, .sto 1 (.t 31) (.t 29), none, false, []⟩] [0, 3] [0, 1000]) (.seq (.reg false [⟨some 32, false, .mv (.t 0), none, false, []⟩, ⟨some 33, false, .mv (.t 0), none, false, []⟩, ⟨some 34, false, .nilck (.t 33), none, false, []⟩, ⟨some 35, false, .fa 2 (.t 34), none, false, []⟩, ⟨some 36, false, .ld none (.t 35), none, false, []⟩, ⟨some 37, false, .bin .mul (.t 36) (.c (.int .u64 6364136223846793005)), none, false, []⟩, ⟨some 38, false, .mv (.t 3), none, false, []⟩, ⟨some 39, false, .conv (.int .u64) (.t 38), none, false, []⟩, ⟨some 40, false, .bin .add (.t 37) (.t 39), none, false, []⟩, ⟨some 41, false, .bin .add (.t 40) (.c (.int .u64 1442695040888963407)), none, false, []⟩, ⟨some 42, false, .nilck (.t 32), none, false, []⟩, ⟨some 43, false, .fa 2 (.t 42), none, false, []⟩, ⟨none, true, .sto 1 (.t 43) (.t 41), none, false, []⟩] [0, 3] [0, 1000]) (.seq (.seq (.reg true [⟨some 44, false, .mv (.t 0), none, false, []⟩, ⟨some 45, false, .nilck (.t 44), none, false, []⟩, ⟨some 46, false, .fa 1 (.t 45), none, false, []⟩, ⟨some 47, false, .ld none (.t 46), none, false, []⟩, ⟨some 48, false, .mv (.t 0), none, false, []⟩, ⟨some 49, false, .nilck (.t 48), none, false, []⟩, ⟨some 50, false, .fa 0 (.t 49), none, false, []⟩, ⟨some 51, false, .ld none (.t 50), none, false, []⟩, ⟨some 52, false, .len (.t 51), none, false, []⟩, ⟨some 53, false, .bin .leq (.t 47) (.t 52), none, false, []⟩] [0, 3, 53] [0, 1000]) (.cond (.t 53) (.seq (.reg false [⟨some 54, false, .mv (.t 3), none, false, []⟩, ⟨some 2, false, .asg (.t 54), none, false, []⟩] [0, 2] [0, 1000]) .ret) .skip)) (.seq (.reg false [⟨some 55, false, .mv (.t 0), none, false, []⟩, ⟨some 56, false, .nilck (.t 55), none, false, []⟩, ⟨some 57, false, .fa 2 (.t 56), none, false, []⟩, ⟨some 58, false, .ld none (.t 57), none, false, []⟩, ⟨some 59, false, .bin .shr (.t 58) (.c (.int .u64 40)), none, false, []⟩, ⟨some 60, false, .bin .and (.t 59) (.c (.int .u64 255)), none, false, []⟩, ⟨some 61, false, .conv (.int .i64) (.t 60), none, false, []⟩, ⟨some 2, false, .asg (.t 61), none, false, []⟩] [0, 2] [0, 1000]) .ret)))
def spec_l00Src_next_ir : Fn := { np := 1, io := [true], res := [.t 2], own := [false], body :=
 (.seq (.reg false [⟨some 2, false, .asg (.c (.int .i64 0)), none, false, []⟩] [0] [0, 1000]) (.seq (.reg false [⟨some 3, false, .asg (.c (.int .i64 0)), none, false, []⟩] [0, 3] [0, 1000]) (.seq (.seq (.reg true [⟨some 4, false, .mv (.t 0), none, false, []⟩, ⟨some 5, false, .nilck (.t 4), none, false, []⟩, ⟨some 6, false, .fa 1 (.t 5), none, false, []⟩, ⟨some 7, false, .ld none (.t 6), none, false, []⟩, ⟨some 8, false, .mv (.t 0), none, false, []⟩, ⟨some 9, false, .nilck (.t 8), none, false, []⟩, ⟨some 10, false, .fa 0 (.t 9), none, false, []⟩, ⟨some 11, false, .ld none (.t 10), none, false, []⟩, ⟨some 12, false, .len (.t 11), none, false, []⟩, ⟨some 13, false, .bin .lss (.t 7) (.t 12), none, false, []⟩] [0, 3, 13] [0, 1000]) (.cond (.t 13) (.reg true [⟨some 14, false, .mv (.t 0), none, false, []⟩, ⟨some 15, false, .nilck (.t 14), none, false, []⟩, ⟨some 16, false, .fa 0 (.t 15), none, false, []⟩, ⟨some 17, false, .ld none (.t 16), none, false, []⟩, ⟨some 18, false, .mv (.t 0), none, false, []⟩, ⟨some 19, false, .nilck (.t 18), none, false, []⟩, ⟨some 20, false, .fa 1 (.t 19), none, false, []⟩, ⟨some 21, false, .ld none (.t 20), none, false, []⟩, ⟨some 22, false, .ia 1 (.t 17) (.t 21), none, false, []⟩, ⟨some 23, false, .ld none (.t 22), none, false, []⟩, ⟨some 24, false, .conv (.int .i64) (.t 23), none, false, []⟩, ⟨some 3, false, .asg (.t 24), none, false, []⟩] [0, 3] [0, 1000]) .skip)) (.norm [0, 3] [0, 1000] spec_l00Src_next_k0)))) }
noncomputable def spec_l00Src_next_D : List (Nat × Callee) := []
def spec_l00Src_next_H : List (Nat × ET) := [(11, (.one (.int .u8))), (17, (.one (.int .u8))), (51, (.one (.int .u8)))]
noncomputable def spec_l00Src_next_c : Callee := mkCallee spec_l00Src_next_D spec_l00Src_next_H spec_l00Src_next_ir [.box T_l00Src] [.d (.one (.int .i64))] [.box T_l00Src]
noncomputable def spec_l00Src_next (a0 : T_l00Src.ty) : Option (Int × T_l00Src.ty) := spec_l00Src_next_c.f (a0, ())
noncomputable def spec_l00Src_next_p0  (v3 : Int) (r0_0 : List Int) (r0_1 : Int) (r0_2 : Int) : Option (Int × T_l00Src.ty) :=
 goL spec_l00Src_next_D spec_l00Src_next_H (vleave spec_l00Src_next_ir [.box T_l00Src] [.d (.one (.int .i64))] [.box T_l00Src] []) [.c spec_l00Src_next_k0]
  ⟨[(0, .loc 0 0 0), (3, .int .i64 v3)], [(0, some (.var 3 (.agg [.sl (.one (.int .u8)) r0_0, .int .i64 r0_1, .int .u64 r0_2]))), (1000, none)]⟩
theorem spec_l00Src_next_eq (a0 : T_l00Src.ty) : spec_l00Src_next a0 =
  if decide (a0.2.1 < (a0.1.length : Int)) then
   if decide (0 ≤ a0.2.1) then
    (a0.1[a0.2.1.toNat]?).bind fun x1 =>
     spec_l00Src_next_p0 (IntKind.i64.wrap x1) a0.1 a0.2.1 a0.2.2.1
   else
    none
  else
   spec_l00Src_next_p0 0 a0.1 a0.2.1 a0.2.2.1 :=
 (mk_f _ _ _ _ _ _ _ 4000).trans (by kernel_rfl)
theorem spec_l00Src_next_p0_eq  (v3 : Int) (r0_0 : List Int) (r0_1 : Int) (r0_2 : Int) : spec_l00Src_next_p0 v3 r0_0 r0_1 r0_2 =
  if decide (IntKind.i64.wrap (r0_1 + 1) ≤ (r0_0.length : Int)) then
   some (v3, (r0_0, IntKind.i64.wrap (r0_1 + 1), IntKind.u64.wrap ((IntKind.u64.wrap ((IntKind.u64.wrap (r0_2 * 6364136223846793005)) + (IntKind.u64.wrap v3))) + 1442695040888963407), ()))
  else
   some (IntKind.i64.wrap (IntKind.u64.wrap ((BitVec.ofInt IntKind.u64.bits (Int.fdiv (IntKind.u64.wrap ((IntKind.u64.wrap ((IntKind.u64.wrap (r0_2 * 6364136223846793005)) + (IntKind.u64.wrap v3))) + 1442695040888963407)) (2 ^ (min (40 : Int).toNat IntKind.u64.bits))) &&& BitVec.ofInt IntKind.u64.bits 255).toNat : Int)), (r0_0, IntKind.i64.wrap (r0_1 + 1), IntKind.u64.wrap ((IntKind.u64.wrap ((IntKind.u64.wrap (r0_2 * 6364136223846793005)) + (IntKind.u64.wrap v3))) + 1442695040888963407), ())) :=
 (goL_dn _ _ _ 4000 _ _).trans (by kernel_rfl)

/- (*spec.l00Src).pick -/
def spec_l00Src_pick_ir : Fn := { np := 2, io := [true, false], res := [.t 4], own := [false], body :=
 (.seq (.reg false [⟨some 4, false, .asg (.c (.int .i64 0)), none, false, []⟩] [0, 1] [0, 1000]) (.seq (.seq (.reg false [⟨some 6, false, .mv (.t 1), none, false, []⟩, ⟨some 7, false, .bin .leq (.t 6) (.c (.int .i64 1)), none, false, []⟩] [0, 1, 7] [0, 1000]) (.cond (.t 7) (.seq (.reg false [⟨some 4, false, .asg (.c (.int .i64 0)), none, false, []⟩] [0, 4] [0, 1000]) .ret) .skip)) (.seq (.reg false [⟨some 8, false, .mv (.t 0), none, false, []⟩, ⟨some 9, true, .call (.c (.fn 847 [])) [.t 8], none, false, []⟩, ⟨some 5, false, .asg (.t 9), none, false, []⟩] [0, 1, 5] [0, 1000]) (.seq (.seq (.reg false [⟨some 10, false, .mv (.t 1), none, false, []⟩, ⟨some 11, false, .bin .gtr (.t 10) (.c (.int .i64 200)), none, false, []⟩] [0, 1, 5, 11] [0, 1000]) (.cond (.t 11) (.reg false [⟨some 12, false, .mv (.t 5), none, false, []⟩, ⟨some 13, false, .bin .mul (.t 12) (.c (.int .i64 256)), none, false, []⟩, ⟨some 14, false, .mv (.t 0), none, false, []⟩, ⟨some 15, true, .call (.c (.fn 847 [])) [.t 14], none, false, []⟩, ⟨some 16, false, .bin .add (.t 13) (.t 15), none, false, []⟩, ⟨some 5, false, .asg (.t 16), none, false, []⟩] [0, 1, 5] [0, 1000]) .skip)) (.seq (.reg false [⟨some 17, false, .mv (.t 5), none, false, []⟩, ⟨some 18, false, .mv (.t 1), none, false, []⟩, ⟨some 19, false, .bin .rem (.t 17) (.t 18), none, false, []⟩, ⟨some 4, false, .asg (.t 19), none, false, []⟩] [0, 4] [0, 1000]) .ret))))) }
noncomputable def spec_l00Src_pick_D : List (Nat × Callee) := [(847, spec_l00Src_next_c)]
def spec_l00Src_pick_H : List (Nat × ET) := []
noncomputable def spec_l00Src_pick_c : Callee := mkCallee spec_l00Src_pick_D spec_l00Src_pick_H spec_l00Src_pick_ir [.box T_l00Src, .d (.one (.int .i64))] [.d (.one (.int .i64))] [.box T_l00Src]
noncomputable def spec_l00Src_pick (a0 : T_l00Src.ty) (a1 : Int) : Option (Int × T_l00Src.ty) := spec_l00Src_pick_c.f (a0, a1, ())
theorem spec_l00Src_pick_eq (a0 : T_l00Src.ty) (a1 : Int) : spec_l00Src_pick a0 a1 =
  if decide (a1 ≤ 1) then
   some (0, a0)
  else
   (spec_l00Src_next a0).bind fun x1 =>
    if decide (a1 > 200) then
     (spec_l00Src_next (x1.2.1, x1.2.2.1, x1.2.2.2.1, ())).bind fun x2 =>
      if decide (a1 = 0) then
       none
      else
       some ((IntKind.i64.wrap ((IntKind.i64.wrap (x1.1 * 256)) + x2.1)).tmod a1, (x2.2.1, x2.2.2.1, x2.2.2.2.1, ()))
    else
     if decide (a1 = 0) then
      none
     else
      some (x1.1.tmod a1, (x1.2.1, x1.2.2.1, x1.2.2.2.1, ())) :=
 (mk_f _ _ _ _ _ _ _ 4000).trans (by kernel_rfl)

/- (*spec.l00Src).one -/
def spec_l00Src_one_ir : Fn := { np := 2, io := [true, false], res := [.t 4], own := [false], body :=
 (.seq (.reg false [⟨some 4, false, .asg (.c (.bool false)), none, false, []⟩] [0, 1] [0, 1000]) (.seq (.reg false [⟨some 5, false, .mv (.t 0), none, false, []⟩, ⟨some 6, false, .mv (.t 1), none, false, []⟩, ⟨some 7, true, .call (.c (.fn 463 [])) [.t 5, .t 6], none, false, []⟩, ⟨some 8, false, .bin .eql (.t 7) (.c (.int .i64 0)), none, false, []⟩, ⟨some 4, false, .asg (.t 8), none, false, []⟩] [0, 4] [0, 1000]) .ret)) }
noncomputable def spec_l00Src_one_D : List (Nat × Callee) := [(463, spec_l00Src_pick_c)]
def spec_l00Src_one_H : List (Nat × ET) := []
noncomputable def spec_l00Src_one_c : Callee := mkCallee spec_l00Src_one_D spec_l00Src_one_H spec_l00Src_one_ir [.box T_l00Src, .d (.one (.int .i64))] [.d (.one .bool)] [.box T_l00Src]
noncomputable def spec_l00Src_one (a0 : T_l00Src.ty) (a1 : Int) : Option (Bool × T_l00Src.ty) := spec_l00Src_one_c.f (a0, a1, ())
theorem spec_l00Src_one_eq (a0 : T_l00Src.ty) (a1 : Int) : spec_l00Src_one a0 a1 =
  (spec_l00Src_pick a0 a1).bind fun x1 =>
   some ((x1.1 == 0), (x1.2.1, x1.2.2.1, x1.2.2.2.1, ())) :=
 (mk_f _ _ _ _ _ _ _ 4000).trans (by kernel_rfl)

/- (*spec.l00Src).among -/
def spec_l00Src_among_ir : Fn := { np := 2, io := [true, false], res := [.t 4], own := [false], body :=
 (.seq (.reg false [⟨some 4, false, .asg (.c (.int .i64 0)), none, false, []⟩] [0, 1] [0, 1000]) (.seq (.reg false [⟨some 5, false, .mv (.t 1), none, false, []⟩, ⟨some 6, false, .mv (.t 0), none, false, []⟩, ⟨some 7, false, .mv (.t 1), none, false, []⟩, ⟨some 8, false, .len (.t 7), none, false, []⟩, ⟨some 9, true, .call (.c (.fn 463 [])) [.t 6, .t 8], none, false, []⟩, ⟨some 10, false, .ia 1 (.t 5) (.t 9), none, false, []⟩, ⟨some 11, false, .ld none (.t 10), none, false, []⟩, ⟨some 4, false, .asg (.t 11), none, false, []⟩] [0, 4] [0, 1000]) .ret)) }
noncomputable def spec_l00Src_among_D : List (Nat × Callee) := [(463, spec_l00Src_pick_c)]
def spec_l00Src_among_H : List (Nat × ET) := [(5, (.one (.int .i64))), (7, (.one (.int .i64)))]
noncomputable def spec_l00Src_among_c : Callee := mkCallee spec_l00Src_among_D spec_l00Src_among_H spec_l00Src_among_ir [.box T_l00Src, .d (.one (.sl (.one (.int .i64))))] [.d (.one (.int .i64))] [.box T_l00Src]
noncomputable def spec_l00Src_among (a0 : T_l00Src.ty) (a1 : List Int) : Option (Int × T_l00Src.ty) := spec_l00Src_among_c.f (a0, a1, ())
theorem spec_l00Src_among_eq (a0 : T_l00Src.ty) (a1 : List Int) : spec_l00Src_among a0 a1 =
  (spec_l00Src_pick a0 (a1.length : Int)).bind fun x1 =>
   if decide (0 ≤ x1.1) then
    (a1[x1.1.toNat]?).bind fun x2 =>
     some (x2, (x1.2.1, x1.2.2.1, x1.2.2.2.1, ()))
   else
    none :=
 (mk_f _ _ _ _ _ _ _ 4000).trans (by kernel_rfl)

/- spec.l04DrawShare -/
def spec_l04DrawShare_ir : Fn := { np := 1, io := [true], res := [.t 2], own := [false], body :=
 (.seq (.reg false [⟨some 2, false, .asg (.c (.int .i64 0)), none, false, []⟩] [0] [0, 1000]) (.seq (.seq (.reg false [⟨some 3, false, .mv (.t 0), none, false, []⟩, ⟨some 4, true, .call (.c (.fn 642 [])) [.t 3, .c (.int .i64 9)], none, false, []⟩] [0, 4] [0, 1000]) (.cond (.t 4) (.seq (.reg false [⟨some 5, false, .mv (.t 0), none, false, []⟩, ⟨some 6, false, .bsl 1 (.int .i64 0) 4 [(0, .c (.int .i64 (-1))), (1, .c (.int .i64 0)), (2, .c (.int .i64 1000)), (3, .c (.int .i64 1001))], none, false, []⟩, ⟨some 7, true, .call (.c (.fn 445 [])) [.t 5, .t 6], none, false, []⟩, ⟨some 2, false, .asg (.t 7), none, false, []⟩] [0, 2] [0, 1000]) .ret) .skip)) (.seq (.reg false [⟨some 8, false, .mv (.t 0), none, false, []⟩, ⟨some 9, true, .call (.c (.fn 463 [])) [.t 8, .c (.int .i64 100)], none, false, []⟩, ⟨some 10, false, .bin .mul (.c (.int .i64 10)) (.t 9), none, false, []⟩, ⟨some 2, false, .asg (.t 10), none, false, []⟩] [0, 2] [0, 1000]) .ret))) }
noncomputable def spec_l04DrawShare_D : List (Nat × Callee) := [(445, spec_l00Src_among_c), (463, spec_l00Src_pick_c), (642, spec_l00Src_one_c)]
def spec_l04DrawShare_H : List (Nat × ET) := [(6, (.one (.int .i64)))]
noncomputable def spec_l04DrawShare_c : Callee := mkCallee spec_l04DrawShare_D spec_l04DrawShare_H spec_l04DrawShare_ir [.box T_l00Src] [.d (.one (.int .i64))] [.box T_l00Src]
noncomputable def spec_l04DrawShare (a0 : T_l00Src.ty) : Option (Int × T_l00Src.ty) := spec_l04DrawShare_c.f (a0, ())
theorem spec_l04DrawShare_eq (a0 : T_l00Src.ty) : spec_l04DrawShare a0 =
  (spec_l00Src_one a0 9).bind fun x1 =>
   if x1.1 then
    (spec_l00Src_among (x1.2.1, x1.2.2.1, x1.2.2.2.1, ()) [(-1), 0, 1000, 1001]).bind fun x2 =>
     some (x2.1, (x2.2.1, x2.2.2.1, x2.2.2.2.1, ()))
   else
    (spec_l00Src_pick (x1.2.1, x1.2.2.1, x1.2.2.2.1, ()) 100).bind fun x3 =>
     some (IntKind.i64.wrap (10 * x3.1), (x3.2.1, x3.2.2.1, x3.2.2.2.1, ())) :=
 (mk_f _ _ _ _ _ _ _ 4000).trans (by kernel_rfl)

/- spec.l04DrawGoal -/
def spec_l04DrawGoal_ir : Fn := { np := 1, io := [true], res := [.t 2], own := [false], body :=
 (.seq (.reg false [⟨some 2, false, .asg (.c (.int .i64 0)), none, false, []⟩] [0] [0, 1000]) (.seq (.seq (.reg false [⟨some 3, false, .mv (.t 0), none, false, []⟩, ⟨some 4, true, .call (.c (.fn 642 [])) [.t 3, .c (.int .i64 9)], none, false, []⟩] [0, 4] [0, 1000]) (.cond (.t 4) (.seq (.reg false [⟨some 5, false, .mv (.t 0), none, false, []⟩, ⟨some 6, false, .bsl 1 (.int .i64 0) 4 [(0, .c (.int .i64 (-1))), (1, .c (.int .i64 0)), (2, .c (.int .i64 1000)), (3, .c (.int .i64 1001))], none, false, []⟩, ⟨some 7, true, .call (.c (.fn 445 [])) [.t 5, .t 6], none, false, []⟩, ⟨some 2, false, .asg (.t 7), none, false, []⟩] [0, 2] [0, 1000]) .ret) .skip)) (.seq (.reg false [⟨some 8, false, .mv (.t 0), none, false, []⟩, ⟨some 9, true, .call (.c (.fn 463 [])) [.t 8, .c (.int .i64 50)], none, false, []⟩, ⟨some 10, false, .bin .mul (.c (.int .i64 5)) (.t 9), none, false, []⟩, ⟨some 2, false, .asg (.t 10), none, false, []⟩] [0, 2] [0, 1000]) .ret))) }
noncomputable def spec_l04DrawGoal_D : List (Nat × Callee) := [(445, spec_l00Src_among_c), (463, spec_l00Src_pick_c), (642, spec_l00Src_one_c)]
def spec_l04DrawGoal_H : List (Nat × ET) := [(6, (.one (.int .i64)))]
noncomputable def spec_l04DrawGoal_c : Callee := mkCallee spec_l04DrawGoal_D spec_l04DrawGoal_H spec_l04DrawGoal_ir [.box T_l00Src] [.d (.one (.int .i64))] [.box T_l00Src]
noncomputable def spec_l04DrawGoal (a0 : T_l00Src.ty) : Option (Int × T_l00Src.ty) := spec_l04DrawGoal_c.f (a0, ())
theorem spec_l04DrawGoal_eq (a0 : T_l00Src.ty) : spec_l04DrawGoal a0 =
  (spec_l00Src_one a0 9).bind fun x1 =>
   if x1.1 then
    (spec_l00Src_among (x1.2.1, x1.2.2.1, x1.2.2.2.1, ()) [(-1), 0, 1000, 1001]).bind fun x2 =>
     some (x2.1, (x2.2.1, x2.2.2.1, x2.2.2.2.1, ()))
   else
    (spec_l00Src_pick (x1.2.1, x1.2.2.1, x1.2.2.2.1, ()) 50).bind fun x3 =>
     some (IntKind.i64.wrap (5 * x3.1), (x3.2.1, x3.2.2.1, x3.2.2.2.1, ())) :=
 (mk_f _ _ _ _ _ _ _ 4000).trans (by kernel_rfl)

/- spec.DrawThickToDry -/
def spec_DrawThickToDry_ir : Fn := { np := 1, io := [], res := [.t 2, .t 3, .t 4, .t 5], own := [false, false, false, false], body :=
 (.seq (.reg false [⟨some 2, false, .asg (.c (.int .i64 0)), none, false, []⟩, ⟨some 3, false, .asg (.c (.int .i64 0)), none, false, []⟩, ⟨some 4, false, .asg (.c (.int .i64 0)), none, false, []⟩, ⟨some 5, false, .asg (.c (.int .i64 0)), none, false, []⟩] [0] []) (.seq (.reg false [⟨some 10, false, .mv (.t 0), none, false, []⟩, ⟨some 11, true, .call (.c (.fn 441 [])) [.t 10], none, false, []⟩, ⟨some 6, false, .asg (.t 11), none, false, []⟩] [6] [11, 12000]) (.seq (.reg false [⟨some 12, false, .mv (.t 6), none, false, []⟩, ⟨some 13, true, .call (.c (.fn 479 [])) [.t 12], none, false, []⟩, ⟨some 7, false, .asg (.t 13), none, false, []⟩] [6, 7] [11, 12000]) (.seq (.reg false [⟨some 14, false, .mv (.t 6), none, false, []⟩, ⟨some 15, true, .call (.c (.fn 479 [])) [.t 14], none, false, []⟩, ⟨some 8, false, .asg (.t 15), none, false, []⟩] [6, 7, 8] [11, 12000]) (.seq (.reg false [⟨some 16, false, .mv (.t 6), none, false, []⟩, ⟨some 17, true, .call (.c (.fn 487 [])) [.t 16], none, false, []⟩, ⟨some 9, false, .asg (.t 17), none, false, []⟩] [6, 7, 8, 9] [11, 12000]) (.seq (.reg false [⟨some 18, false, .mv (.t 7), none, false, []⟩, ⟨some 19, false, .mv (.t 8), none, false, []⟩, ⟨some 20, false, .mv (.t 9), none, false, []⟩, ⟨some 21, false, .mv (.t 6), none, false, []⟩, ⟨some 22, false, .bsl 1 (.int .i64 0) 7 [(0, .c (.int .i64 0)), (1, .c (.int .i64 5)), (2, .c (.int .i64 30)), (3, .c (.int .i64 90)), (4, .c (.int .i64 300)), (5, .c (.int .i64 4001)), (6, .c (.int .i64 (-1)))], none, false, []⟩, ⟨some 23, true, .call (.c (.fn 445 [])) [.t 21, .t 22], none, false, []⟩, ⟨some 2, false, .asg (.t 18), none, false, []⟩, ⟨some 3, false, .asg (.t 19), none, false, []⟩, ⟨some 4, false, .asg (.t 20), none, false, []⟩, ⟨some 5, false, .asg (.t 23), none, false, []⟩] [2, 3, 4, 5] []) .ret)))))) }
noncomputable def spec_DrawThickToDry_D : List (Nat × Callee) := [(441, spec_l00From_c), (445, spec_l00Src_among_c), (479, spec_l04DrawShare_c), (487, spec_l04DrawGoal_c)]
def spec_DrawThickToDry_H : List (Nat × ET) := [(10, (.one (.int .u8))), (22, (.one (.int .i64)))]
noncomputable def spec_DrawThickToDry_c : Callee := mkCallee spec_DrawThickToDry_D spec_DrawThickToDry_H spec_DrawThickToDry_ir [.d (.one (.sl (.one (.int .u8))))] [.d (.one (.int .i64)), .d (.one (.int .i64)), .d (.one (.int .i64)), .d (.one (.int .i64))] []
noncomputable def spec_DrawThickToDry (a0 : List Int) : Option (Int × Int × Int × Int) := spec_DrawThickToDry_c.f (a0, ())
theorem spec_DrawThickToDry_eq (a0 : List Int) : spec_DrawThickToDry a0 =
  (spec_l00From a0).bind fun x1 =>
   (spec_l04DrawShare x1).bind fun x2 =>
    (spec_l04DrawShare (x2.2.1, x2.2.2.1, x2.2.2.2.1, ())).bind fun x3 =>
     (spec_l04DrawGoal (x3.2.1, x3.2.2.1, x3.2.2.2.1, ())).bind fun x4 =>
      (spec_l00Src_among (x4.2.1, x4.2.2.1, x4.2.2.2.1, ()) [0, 5, 30, 90, 300, 4001, (-1)]).bind fun x5 =>
       some (x2.1, x3.1, x4.1, x5.1) :=
 (mk_f _ _ _ _ _ _ _ 4000).trans (by kernel_rfl)

/- impl.within -/
def impl_within_ir : Fn := { np := 3, io := [], res := [.t 6], own := [false], body :=
 (.seq (.reg false [⟨some 6, false, .asg (.c (.bool false)), none, false, []⟩] [0, 1, 2] []) (.seq (.reg false [⟨some 7, false, .mv (.t 1), none, false, []⟩, ⟨some 8, false, .mv (.t 0), none, false, []⟩, ⟨some 9, false, .bin .leq (.t 7) (.t 8), none, false, []⟩, ⟨some 10, false, .mv (.t 9), none, false, []⟩, ⟨some 11, false, .mv (.t 0), some (3, true), false, []⟩, ⟨some 12, false, .mv (.t 2), some (3, true), false, []⟩, ⟨some 13, false, .bin .leq (.t 11) (.t 12), some (3, true), false, []⟩, ⟨some 14, false, .pick (.t 10) (.t 13) (.c (.bool false)), none, false, []⟩, ⟨some 6, false, .asg (.t 14), none, false, []⟩] [6] []) .ret)) }
noncomputable def impl_within_D : List (Nat × Callee) := []
def impl_within_H : List (Nat × ET) := []
noncomputable def impl_within_c : Callee := mkCallee impl_within_D impl_within_H impl_within_ir [.d (.one (.int .i64)), .d (.one (.int .i64)), .d (.one (.int .i64))] [.d (.one .bool)] []
noncomputable def impl_within (a0 : Int) (a1 : Int) (a2 : Int) : Option (Bool) := impl_within_c.f (a0, a1, a2, ())
theorem impl_within_eq (a0 : Int) (a1 : Int) (a2 : Int) : impl_within a0 a1 a2 =
  if decide (a1 ≤ a0) then
   some (decide (a0 ≤ a2))
  else
   some false :=
 (mk_f _ _ _ _ _ _ _ 4000).trans (by kernel_rfl)

/- impl.isPart -/
def impl_isPart_ir : Fn := { np := 1, io := [], res := [.t 2], own := [false], body :=
 (.seq (.reg false [⟨some 2, false, .asg (.c (.bool false)), none, false, []⟩] [0] []) (.seq (.reg false [⟨some 3, false, .mv (.t 0), none, false, []⟩, ⟨some 4, false, .call (.c (.fn 23 [])) [.t 3, .c (.int .i64 0), .c (.int .i64 1000)], none, false, []⟩, ⟨some 2, false, .asg (.t 4), none, false, []⟩] [2] []) .ret)) }
noncomputable def impl_isPart_D : List (Nat × Callee) := [(23, impl_within_c)]
def impl_isPart_H : List (Nat × ET) := []
noncomputable def impl_isPart_c : Callee := mkCallee impl_isPart_D impl_isPart_H impl_isPart_ir [.d (.one (.int .i64))] [.d (.one .bool)] []
noncomputable def impl_isPart (a0 : Int) : Option (Bool) := impl_isPart_c.f (a0, ())
theorem impl_isPart_eq (a0 : Int) : impl_isPart a0 =
  (impl_within a0 0 1000).bind fun x1 =>
   some x1 :=
 (mk_f _ _ _ _ _ _ _ 4000).trans (by kernel_rfl)

/- impl.isDry -/
def impl_isDry_ir : Fn := { np := 1, io := [], res := [.t 2], own := [false], body :=
 (.seq (.reg false [⟨some 2, false, .asg (.c (.bool false)), none, false, []⟩] [0] []) (.seq (.reg false [⟨some 3, false, .mv (.t 0), none, false, []⟩, ⟨some 4, false, .call (.c (.fn 23 [])) [.t 3, .c (.int .i64 0), .c (.int .i64 4000)], none, false, []⟩, ⟨some 2, false, .asg (.t 4), none, false, []⟩] [2] []) .ret)) }
noncomputable def impl_isDry_D : List (Nat × Callee) := [(23, impl_within_c)]
def impl_isDry_H : List (Nat × ET) := []
noncomputable def impl_isDry_c : Callee := mkCallee impl_isDry_D impl_isDry_H impl_isDry_ir [.d (.one (.int .i64))] [.d (.one .bool)] []
noncomputable def impl_isDry (a0 : Int) : Option (Bool) := impl_isDry_c.f (a0, ())
theorem impl_isDry_eq (a0 : Int) : impl_isDry a0 =
  (impl_within a0 0 4000).bind fun x1 =>
   some x1 :=
 (mk_f _ _ _ _ _ _ _ 4000).trans (by kernel_rfl)

/- impl.divRound -/
def impl_divRound_ir : Fn := { np := 2, io := [], res := [.t 4], own := [false], body :=
 (.seq (.reg false [⟨some 4, false, .asg (.c (.int .i64 0)), none, false, []⟩] [0, 1] []) (.seq (.reg false [⟨some 8, false, .mv (.t 0), none, false, []⟩, ⟨some 9, false, .bin .lss (.t 8) (.c (.int .i64 0)), none, false, []⟩, ⟨some 10, false, .mv (.t 1), none, false, []⟩, ⟨some 11, false, .bin .lss (.t 10) (.c (.int .i64 0)), none, false, []⟩, ⟨some 12, false, .eqb true (.t 9) (.t 11), none, false, []⟩, ⟨some 5, false, .asg (.t 12), none, false, []⟩] [0, 1, 5] []) (.seq (.reg false [⟨some 13, false, .mv (.t 0), none, false, []⟩, ⟨some 14, false, .mv (.t 0), none, false, []⟩, ⟨some 15, false, .un .neg (.t 14), none, false, []⟩, ⟨some 16, false, .max [.t 13, .t 15], none, false, []⟩, ⟨some 17, false, .mv (.t 1), none, false, []⟩, ⟨some 18, false, .mv (.t 1), none, false, []⟩, ⟨some 19, false, .un .neg (.t 18), none, false, []⟩, ⟨some 20, false, .max [.t 17, .t 19], none, false, []⟩, ⟨some 0, false, .asg (.t 16), none, false, []⟩, ⟨some 1, false, .asg (.t 20), none, false, []⟩] [0, 1, 5] []) (.seq (.reg false [⟨some 21, false, .mv (.t 0), none, false, []⟩, ⟨some 22, false, .mv (.t 1), none, false, []⟩, ⟨some 23, false, .bin .quo (.t 21) (.t 22), none, false, []⟩, ⟨some 6, false, .asg (.t 23), none, false, []⟩] [0, 1, 5, 6] []) (.seq (.seq (.reg false [⟨some 24, false, .mv (.t 0), none, false, []⟩, ⟨some 25, false, .mv (.t 1), none, false, []⟩, ⟨some 26, false, .bin .rem (.t 24) (.t 25), none, false, []⟩, ⟨some 7, false, .asg (.t 26), none, false, []⟩] [1, 5, 6, 7] []) (.seq (.reg false [⟨some 27, false, .mv (.t 7), none, false, []⟩, ⟨some 28, false, .mv (.t 1), none, false, []⟩, ⟨some 29, false, .mv (.t 7), none, false, []⟩, ⟨some 30, false, .bin .sub (.t 28) (.t 29), none, false, []⟩, ⟨some 31, false, .bin .geq (.t 27) (.t 30), none, false, []⟩] [5, 6, 31] []) (.cond (.t 31) (.reg false [⟨some 32, false, .mv (.t 6), none, false, []⟩, ⟨some 33, false, .bin .add (.t 32) (.c (.int .i64 1)), none, false, []⟩, ⟨some 6, false, .asg (.t 33), none, false, []⟩] [5, 6] []) .skip))) (.seq (.seq (.reg false [⟨some 34, false, .mv (.t 5), none, false, []⟩] [6, 34] []) (.cond (.t 34) (.seq (.reg false [⟨some 35, false, .mv (.t 6), none, false, []⟩, ⟨some 36, false, .un .neg (.t 35), none, false, []⟩, ⟨some 4, false, .asg (.t 36), none, false, []⟩] [4] []) .ret) .skip)) (.seq (.reg false [⟨some 37, false, .mv (.t 6), none, false, []⟩, ⟨some 4, false, .asg (.t 37), none, false, []⟩] [4] []) .ret))))))) }
noncomputable def impl_divRound_D : List (Nat × Callee) := []
def impl_divRound_H : List (Nat × ET) := []
noncomputable def impl_divRound_c : Callee := mkCallee impl_divRound_D impl_divRound_H impl_divRound_ir [.d (.one (.int .i64)), .d (.one (.int .i64))] [.d (.one (.int .i64))] []
noncomputable def impl_divRound (a0 : Int) (a1 : Int) : Option (Int) := impl_divRound_c.f (a0, a1, ())
theorem impl_divRound_eq (a0 : Int) (a1 : Int) : impl_divRound a0 a1 =
  if decide ((if IntKind.i64.wrap (0 - a1) > a1 then IntKind.i64.wrap (0 - a1) else a1) = 0) then
   none
  else
   if decide ((if IntKind.i64.wrap (0 - a1) > a1 then IntKind.i64.wrap (0 - a1) else a1) = 0) then
    none
   else
    if decide ((if IntKind.i64.wrap (0 - a0) > a0 then IntKind.i64.wrap (0 - a0) else a0).tmod (if IntKind.i64.wrap (0 - a1) > a1 then IntKind.i64.wrap (0 - a1) else a1) ≥ IntKind.i64.wrap ((if IntKind.i64.wrap (0 - a1) > a1 then IntKind.i64.wrap (0 - a1) else a1) - ((if IntKind.i64.wrap (0 - a0) > a0 then IntKind.i64.wrap (0 - a0) else a0).tmod (if IntKind.i64.wrap (0 - a1) > a1 then IntKind.i64.wrap (0 - a1) else a1)))) then
     if (!(decide (a0 < 0) == decide (a1 < 0))) then
      some (IntKind.i64.wrap (0 - (IntKind.i64.wrap ((IntKind.i64.wrap ((if IntKind.i64.wrap (0 - a0) > a0 then IntKind.i64.wrap (0 - a0) else a0).tdiv (if IntKind.i64.wrap (0 - a1) > a1 then IntKind.i64.wrap (0 - a1) else a1))) + 1))))
     else
      some (IntKind.i64.wrap ((IntKind.i64.wrap ((if IntKind.i64.wrap (0 - a0) > a0 then IntKind.i64.wrap (0 - a0) else a0).tdiv (if IntKind.i64.wrap (0 - a1) > a1 then IntKind.i64.wrap (0 - a1) else a1))) + 1))
    else
     if (!(decide (a0 < 0) == decide (a1 < 0))) then
      some (IntKind.i64.wrap (0 - (IntKind.i64.wrap ((if IntKind.i64.wrap (0 - a0) > a0 then IntKind.i64.wrap (0 - a0) else a0).tdiv (if IntKind.i64.wrap (0 - a1) > a1 then IntKind.i64.wrap (0 - a1) else a1)))))
     else
      some (IntKind.i64.wrap ((if IntKind.i64.wrap (0 - a0) > a0 then IntKind.i64.wrap (0 - a0) else a0).tdiv (if IntKind.i64.wrap (0 - a1) > a1 then IntKind.i64.wrap (0 - a1) else a1))) :=
 (mk_f _ _ _ _ _ _ _ 4000).trans (by kernel_rfl)

/- impl.blend -/
def impl_blend_k0 : C :=
 .seq (.reg false [⟨some 26, false, .mv (.t 1), none, false, []⟩, ⟨some 27, false, .mv (.t 3), none, false, []⟩, ⟨some 28, false, .mv (.t 1), none, false, []⟩, ⟨some 29, false, .bin .sub (.t 27) (.t 28), none, false, []⟩, ⟨some 30, false, .mv (.t 4), none, false, []⟩, ⟨some 31, false, .mv (.t 0), none, false, []⟩, ⟨some 32, false, .bin .sub (.t 30) (.t 31), none, false, []⟩, ⟨some 33, false, .bin .mul (.t 29) (.t 32), none, false, []⟩, ⟨some 34, false, .mv (.t 2), none, false, []⟩, ⟨some 35, false, .mv (.t 0), none, false, []⟩, ⟨some 36, false, .bin .sub (.t 34) (.t 35), none, false, []⟩, ⟨some 37, false, .call (.c (.fn 27 [])) [.t 33, .t 36], none, false, []⟩, ⟨some 38, false, .bin .add (.t 26) (.t 37), none, false, []⟩, ⟨some 10, false, .asg (.t 38), none, false, []⟩] [10] []) .ret
def impl_blend_ir : Fn := { np := 5, io := [], res := [.t 10], own := [false], body :=
 (.seq (.reg false [⟨some 10, false, .asg (.c (.int .i64 0)), none, false, []⟩] [0, 1, 2, 3, 4] []) (.seq (.block 0 (.seq (.reg false [⟨some 12, false, .mv (.t 4), none, false, []⟩, ⟨some 13, false, .mv (.t 0), none, false, []⟩, ⟨some 14, false, .bin .leq (.t 12) (.t 13), none, false, []⟩, ⟨some 15, false, .mv (.t 14), none, false, []⟩, ⟨some 16, false, .mv (.t 2), some (3, false), false, []⟩, ⟨some 17, false, .mv (.t 0), some (3, false), false, []⟩, ⟨some 18, false, .bin .leq (.t 16) (.t 17), some (3, false), false, []⟩, ⟨some 19, false, .pick (.t 15) (.c (.bool true)) (.t 18), none, false, []⟩, ⟨some 11, false, .asg (.t 19), none, false, []⟩] [0, 1, 2, 3, 4, 11] []) (.cond (.t 11) (.seq (.reg false [⟨some 20, false, .mv (.t 1), none, false, []⟩, ⟨some 10, false, .asg (.t 20), none, false, []⟩] [10] []) .ret) (.seq (.reg false [⟨some 22, false, .mv (.t 4), none, false, []⟩, ⟨some 23, false, .mv (.t 2), none, false, []⟩, ⟨some 24, false, .bin .geq (.t 22) (.t 23), none, false, []⟩, ⟨some 21, false, .asg (.t 24), none, false, []⟩] [0, 1, 2, 3, 4, 21] []) (.cond (.t 21) (.seq (.reg false [⟨some 25, false, .mv (.t 3), none, false, []⟩, ⟨some 10, false, .asg (.t 25), none, false, []⟩] [10] []) .ret) .skip))))) (.norm [0, 1, 2, 3, 4] [] impl_blend_k0))) }
noncomputable def impl_blend_D : List (Nat × Callee) := [(27, impl_divRound_c)]
def impl_blend_H : List (Nat × ET) := []
noncomputable def impl_blend_c : Callee := mkCallee impl_blend_D impl_blend_H impl_blend_ir [.d (.one (.int .i64)), .d (.one (.int .i64)), .d (.one (.int .i64)), .d (.one (.int .i64)), .d (.one (.int .i64))] [.d (.one (.int .i64))] []
noncomputable def impl_blend (a0 : Int) (a1 : Int) (a2 : Int) (a3 : Int) (a4 : Int) : Option (Int) := impl_blend_c.f (a0, a1, a2, a3, a4, ())
noncomputable def impl_blend_p0  (v0 : Int) (v1 : Int) (v2 : Int) (v3 : Int) (v4 : Int) : Option (Int) :=
 goL impl_blend_D impl_blend_H (vleave impl_blend_ir [.d (.one (.int .i64)), .d (.one (.int .i64)), .d (.one (.int .i64)), .d (.one (.int .i64)), .d (.one (.int .i64))] [.d (.one (.int .i64))] [] []) [.c impl_blend_k0]
  ⟨[(0, .int .i64 v0), (1, .int .i64 v1), (2, .int .i64 v2), (3, .int .i64 v3), (4, .int .i64 v4)], []⟩
theorem impl_blend_eq (a0 : Int) (a1 : Int) (a2 : Int) (a3 : Int) (a4 : Int) : impl_blend a0 a1 a2 a3 a4 =
  if decide (a4 ≤ a0) then
   some a1
  else
   if decide (a2 ≤ a0) then
    some a1
   else
    if decide (a4 ≥ a2) then
     some a3
    else
     impl_blend_p0 a0 a1 a2 a3 a4 :=
 (mk_f _ _ _ _ _ _ _ 4000).trans (by kernel_rfl)
theorem impl_blend_p0_eq  (v0 : Int) (v1 : Int) (v2 : Int) (v3 : Int) (v4 : Int) : impl_blend_p0 v0 v1 v2 v3 v4 =
  (impl_divRound (IntKind.i64.wrap ((IntKind.i64.wrap (v3 - v1)) * (IntKind.i64.wrap (v4 - v0)))) (IntKind.i64.wrap (v2 - v0))).bind fun x1 =>
   some (IntKind.i64.wrap (v1 + x1)) :=
 (goL_dn _ _ _ 4000 _ _).trans (by kernel_rfl)

/- impl.even -/
def impl_even_k0 : C :=
 .seq (.seq (.reg false [⟨some 11, false, .mv (.t 4), none, false, []⟩, ⟨some 12, false, .bin .lss (.t 11) (.c (.int .i64 4)), none, false, []⟩, ⟨some 13, false, .mv (.t 12), none, false, []⟩, ⟨some 14, false, .mv (.t 0), some (2, true), false, []⟩, ⟨some 15, false, .mv (.t 4), some (2, true), false, []⟩, ⟨some 16, false, .iaa 5 2 (.t 3) (.t 15), some (2, true), false, []⟩, ⟨some 17, false, .iaa 2 1 (.t 16) (.c (.int .i64 0)), some (2, true), false, []⟩, ⟨some 18, false, .ld none (.t 17), some (2, true), false, []⟩, ⟨some 19, false, .bin .gtr (.t 14) (.t 18), some (2, true), false, []⟩, ⟨some 20, false, .pick (.t 13) (.t 19) (.c (.bool false)), none, false, []⟩] [0, 3, 4, 20] [3]) (.cond (.t 20) .skip (.exit 0))) (.block 1 (.reg false [⟨some 21, false, .mv (.t 4), none, false, []⟩, ⟨some 22, false, .bin .add (.t 21) (.c (.int .i64 1)), none, false, []⟩, ⟨some 4, false, .asg (.t 22), none, false, []⟩] [0, 3, 4] [3]))
def impl_even_k1 : C :=
 .norm [0, 3, 4] [3] impl_even_k0
def impl_even_k2 : C :=
 .seq (.reg true [⟨some 23, false, .mv (.t 4), none, false, []⟩, ⟨some 24, false, .bin .sub (.t 23) (.c (.int .i64 1)), none, false, []⟩, ⟨some 25, false, .iaa 5 2 (.t 3) (.t 24), none, false, []⟩, ⟨some 26, false, .iaa 2 1 (.t 25) (.c (.int .i64 0)), none, false, []⟩, ⟨some 27, false, .ld none (.t 26), none, false, []⟩, ⟨some 28, false, .mv (.t 4), none, false, []⟩, ⟨some 29, false, .bin .sub (.t 28) (.c (.int .i64 1)), none, false, []⟩, ⟨some 30, false, .iaa 5 2 (.t 3) (.t 29), none, false, []⟩, ⟨some 31, false, .iaa 2 1 (.t 30) (.c (.int .i64 1)), none, false, []⟩, ⟨some 32, false, .ld none (.t 31), none, false, []⟩, ⟨some 33, false, .mv (.t 4), none, false, []⟩, ⟨some 34, false, .iaa 5 2 (.t 3) (.t 33), none, false, []⟩, ⟨some 35, false, .iaa 2 1 (.t 34) (.c (.int .i64 0)), none, false, []⟩, ⟨some 36, false, .ld none (.t 35), none, false, []⟩, ⟨some 37, false, .mv (.t 4), none, false, []⟩, ⟨some 38, false, .iaa 5 2 (.t 3) (.t 37), none, false, []⟩, ⟨some 39, false, .iaa 2 1 (.t 38) (.c (.int .i64 1)), none, false, []⟩, ⟨some 40, false, .ld none (.t 39), none, false, []⟩, ⟨some 41, false, .mv (.t 0), none, false, []⟩, ⟨some 42, false, .call (.c (.fn 452 [])) [.t 27, .t 32, .t 36, .t 40, .t 41], none, false, []⟩, ⟨some 2, false, .asg (.t 42), none, false, []⟩] [2] []) .ret
def impl_even_k3 : C :=
 .norm [0, 3, 4] [3] impl_even_k2
def impl_even_ir : Fn := { np := 1, io := [], res := [.t 2], own := [false], body :=
 (.seq (.reg false [⟨some 2, false, .asg (.c (.int .i64 0)), none, false, []⟩] [0] []) (.seq (.reg false [⟨some 5, false, .build [.int .i64 0, .int .i64 0] [(0, 1, .c (.int .i64 0)), (1, 1, .c (.int .i64 0))], none, false, []⟩, ⟨some 6, false, .build [.int .i64 0, .int .i64 0] [(0, 1, .c (.int .i64 300)), (1, 1, .c (.int .i64 60))], none, false, []⟩, ⟨some 7, false, .build [.int .i64 0, .int .i64 0] [(0, 1, .c (.int .i64 600)), (1, 1, .c (.int .i64 110))], none, false, []⟩, ⟨some 8, false, .build [.int .i64 0, .int .i64 0] [(0, 1, .c (.int .i64 800)), (1, 1, .c (.int .i64 160))], none, false, []⟩, ⟨some 9, false, .build [.int .i64 0, .int .i64 0] [(0, 1, .c (.int .i64 1000)), (1, 1, .c (.int .i64 280))], none, false, []⟩, ⟨some 10, false, .build [.int .i64 0, .int .i64 0, .int .i64 0, .int .i64 0, .int .i64 0, .int .i64 0, .int .i64 0, .int .i64 0, .int .i64 0, .int .i64 0] [(0, 2, .t 5), (2, 2, .t 6), (4, 2, .t 7), (6, 2, .t 8), (8, 2, .t 9)], none, false, []⟩, ⟨some 3, true, .alloc 10 (.agg [.int .i64 0, .int .i64 0, .int .i64 0, .int .i64 0, .int .i64 0, .int .i64 0, .int .i64 0, .int .i64 0, .int .i64 0, .int .i64 0]), none, false, []⟩, ⟨none, true, .sto 10 (.t 3) (.t 10), none, false, []⟩] [0, 3] [3]) (.seq (.reg false [⟨some 4, false, .asg (.c (.int .i64 1)), none, false, []⟩] [0, 3, 4] [3]) (.seq (.block 0 (.loop impl_even_k1)) impl_even_k3)))) }
noncomputable def impl_even_D : List (Nat × Callee) := [(452, impl_blend_c)]
def impl_even_H : List (Nat × ET) := []
noncomputable def impl_even_c : Callee := mkCallee impl_even_D impl_even_H impl_even_ir [.d (.one (.int .i64))] [.d (.one (.int .i64))] []
noncomputable def impl_even (a0 : Int) : Option (Int) := impl_even_c.f (a0, ())
noncomputable def impl_even_p0  (v0 : Int) (v4 : Int) (r3_0 : Int) (r3_1 : Int) (r3_2 : Int) (r3_3 : Int) (r3_4 : Int) (r3_5 : Int) (r3_6 : Int) (r3_7 : Int) (r3_8 : Int) (r3_9 : Int) : Option (Int) :=
 goL impl_even_D impl_even_H (vleave impl_even_ir [.d (.one (.int .i64))] [.d (.one (.int .i64))] [] []) [.c impl_even_k0, .l impl_even_k1, .e 0, .c impl_even_k3]
  ⟨[(0, .int .i64 v0), (3, .loc 3 0 0), (4, .int .i64 v4)], [(3, some (.var 10 (.agg [.int .i64 r3_0, .int .i64 r3_1, .int .i64 r3_2, .int .i64 r3_3, .int .i64 r3_4, .int .i64 r3_5, .int .i64 r3_6, .int .i64 r3_7, .int .i64 r3_8, .int .i64 r3_9])))]⟩
noncomputable def impl_even_p1  (v0 : Int) (v4 : Int) (r3_0 : Int) (r3_1 : Int) (r3_2 : Int) (r3_3 : Int) (r3_4 : Int) (r3_5 : Int) (r3_6 : Int) (r3_7 : Int) (r3_8 : Int) (r3_9 : Int) : Option (Int) :=
 goL impl_even_D impl_even_H (vleave impl_even_ir [.d (.one (.int .i64))] [.d (.one (.int .i64))] [] []) [.c impl_even_k2]
  ⟨[(0, .int .i64 v0), (3, .loc 3 0 0), (4, .int .i64 v4)], [(3, some (.var 10 (.agg [.int .i64 r3_0, .int .i64 r3_1, .int .i64 r3_2, .int .i64 r3_3, .int .i64 r3_4, .int .i64 r3_5, .int .i64 r3_6, .int .i64 r3_7, .int .i64 r3_8, .int .i64 r3_9])))]⟩
theorem impl_even_eq (a0 : Int) : impl_even a0 =
  impl_even_p0 a0 1 0 0 300 60 600 110 800 160 1000 280 :=
 (mk_f _ _ _ _ _ _ _ 4000).trans (by kernel_rfl)
theorem impl_even_p0_eq  (v0 : Int) (v4 : Int) (r3_0 : Int) (r3_1 : Int) (r3_2 : Int) (r3_3 : Int) (r3_4 : Int) (r3_5 : Int) (r3_6 : Int) (r3_7 : Int) (r3_8 : Int) (r3_9 : Int) : impl_even_p0 v0 v4 r3_0 r3_1 r3_2 r3_3 r3_4 r3_5 r3_6 r3_7 r3_8 r3_9 =
  if decide (v4 < 4) then
   if decide (v4 = 0) then
    if decide (v0 > r3_0) then
     impl_even_p0 v0 (IntKind.i64.wrap (v4 + 1)) r3_0 r3_1 r3_2 r3_3 r3_4 r3_5 r3_6 r3_7 r3_8 r3_9
    else
     impl_even_p1 v0 v4 r3_0 r3_1 r3_2 r3_3 r3_4 r3_5 r3_6 r3_7 r3_8 r3_9
   else
    if decide (v4 = 1) then
     if decide (v0 > r3_2) then
      impl_even_p0 v0 (IntKind.i64.wrap (v4 + 1)) r3_0 r3_1 r3_2 r3_3 r3_4 r3_5 r3_6 r3_7 r3_8 r3_9
     else
      impl_even_p1 v0 v4 r3_0 r3_1 r3_2 r3_3 r3_4 r3_5 r3_6 r3_7 r3_8 r3_9
    else
     if decide (v4 = 2) then
      if decide (v0 > r3_4) then
       impl_even_p0 v0 (IntKind.i64.wrap (v4 + 1)) r3_0 r3_1 r3_2 r3_3 r3_4 r3_5 r3_6 r3_7 r3_8 r3_9
      else
       impl_even_p1 v0 v4 r3_0 r3_1 r3_2 r3_3 r3_4 r3_5 r3_6 r3_7 r3_8 r3_9
     else
      if decide (v4 = 3) then
       if decide (v0 > r3_6) then
        impl_even_p0 v0 (IntKind.i64.wrap (v4 + 1)) r3_0 r3_1 r3_2 r3_3 r3_4 r3_5 r3_6 r3_7 r3_8 r3_9
       else
        impl_even_p1 v0 v4 r3_0 r3_1 r3_2 r3_3 r3_4 r3_5 r3_6 r3_7 r3_8 r3_9
      else
       if decide (v4 = 4) then
        if decide (v0 > r3_8) then
         impl_even_p0 v0 (IntKind.i64.wrap (v4 + 1)) r3_0 r3_1 r3_2 r3_3 r3_4 r3_5 r3_6 r3_7 r3_8 r3_9
        else
         impl_even_p1 v0 v4 r3_0 r3_1 r3_2 r3_3 r3_4 r3_5 r3_6 r3_7 r3_8 r3_9
       else
        none
  else
   impl_even_p1 v0 v4 r3_0 r3_1 r3_2 r3_3 r3_4 r3_5 r3_6 r3_7 r3_8 r3_9 :=
 (goL_dn _ _ _ 4000 _ _).trans (by kernel_rfl)
theorem impl_even_p1_eq  (v0 : Int) (v4 : Int) (r3_0 : Int) (r3_1 : Int) (r3_2 : Int) (r3_3 : Int) (r3_4 : Int) (r3_5 : Int) (r3_6 : Int) (r3_7 : Int) (r3_8 : Int) (r3_9 : Int) : impl_even_p1 v0 v4 r3_0 r3_1 r3_2 r3_3 r3_4 r3_5 r3_6 r3_7 r3_8 r3_9 =
  if decide (IntKind.i64.wrap (v4 - 1) = 0) then
   if decide (IntKind.i64.wrap (v4 - 1) = 0) then
    if decide (v4 = 0) then
     if decide (v4 = 0) then
      (impl_blend r3_0 r3_1 r3_0 r3_1 v0).bind fun x1 =>
       some x1
     else
      if decide (v4 = 1) then
       (impl_blend r3_0 r3_1 r3_0 r3_3 v0).bind fun x2 =>
        some x2
      else
       if decide (v4 = 2) then
        (impl_blend r3_0 r3_1 r3_0 r3_5 v0).bind fun x3 =>
         some x3
       else
        if decide (v4 = 3) then
         (impl_blend r3_0 r3_1 r3_0 r3_7 v0).bind fun x4 =>
          some x4
        else
         if decide (v4 = 4) then
          (impl_blend r3_0 r3_1 r3_0 r3_9 v0).bind fun x5 =>
           some x5
         else
          none
    else
     if decide (v4 = 1) then
      if decide (v4 = 0) then
       (impl_blend r3_0 r3_1 r3_2 r3_1 v0).bind fun x6 =>
        some x6
      else
       if decide (v4 = 1) then
        (impl_blend r3_0 r3_1 r3_2 r3_3 v0).bind fun x7 =>
         some x7
       else
        if decide (v4 = 2) then
         (impl_blend r3_0 r3_1 r3_2 r3_5 v0).bind fun x8 =>
          some x8
        else
         if decide (v4 = 3) then
          (impl_blend r3_0 r3_1 r3_2 r3_7 v0).bind fun x9 =>
           some x9
         else
          if decide (v4 = 4) then
           (impl_blend r3_0 r3_1 r3_2 r3_9 v0).bind fun x10 =>
            some x10
          else
           none
     else
      if decide (v4 = 2) then
       if decide (v4 = 0) then
        (impl_blend r3_0 r3_1 r3_4 r3_1 v0).bind fun x11 =>
         some x11
       else
        if decide (v4 = 1) then
         (impl_blend r3_0 r3_1 r3_4 r3_3 v0).bind fun x12 =>
          some x12
        else
         if decide (v4 = 2) then
          (impl_blend r3_0 r3_1 r3_4 r3_5 v0).bind fun x13 =>
           some x13
         else
          if decide (v4 = 3) then
           (impl_blend r3_0 r3_1 r3_4 r3_7 v0).bind fun x14 =>
            some x14
          else
           if decide (v4 = 4) then
            (impl_blend r3_0 r3_1 r3_4 r3_9 v0).bind fun x15 =>
             some x15
           else
            none
      else
       if decide (v4 = 3) then
        if decide (v4 = 0) then
         (impl_blend r3_0 r3_1 r3_6 r3_1 v0).bind fun x16 =>
          some x16
        else
         if decide (v4 = 1) then
          (impl_blend r3_0 r3_1 r3_6 r3_3 v0).bind fun x17 =>
           some x17
         else
          if decide (v4 = 2) then
           (impl_blend r3_0 r3_1 r3_6 r3_5 v0).bind fun x18 =>
            some x18
          else
           if decide (v4 = 3) then
            (impl_blend r3_0 r3_1 r3_6 r3_7 v0).bind fun x19 =>
             some x19
           else
            if decide (v4 = 4) then
             (impl_blend r3_0 r3_1 r3_6 r3_9 v0).bind fun x20 =>
              some x20
            else
             none
       else
        if decide (v4 = 4) then
         if decide (v4 = 0) then
          (impl_blend r3_0 r3_1 r3_8 r3_1 v0).bind fun x21 =>
           some x21
         else
          if decide (v4 = 1) then
           (impl_blend r3_0 r3_1 r3_8 r3_3 v0).bind fun x22 =>
            some x22
          else
           if decide (v4 = 2) then
            (impl_blend r3_0 r3_1 r3_8 r3_5 v0).bind fun x23 =>
             some x23
           else
            if decide (v4 = 3) then
             (impl_blend r3_0 r3_1 r3_8 r3_7 v0).bind fun x24 =>
              some x24
            else
             if decide (v4 = 4) then
              (impl_blend r3_0 r3_1 r3_8 r3_9 v0).bind fun x25 =>
               some x25
             else
              none
        else
         none
   else
    if decide (IntKind.i64.wrap (v4 - 1) = 1) then
     if decide (v4 = 0) then
      if decide (v4 = 0) then
       (impl_blend r3_0 r3_3 r3_0 r3_1 v0).bind fun x26 =>
        some x26
      else
       if decide (v4 = 1) then
        (impl_blend r3_0 r3_3 r3_0 r3_3 v0).bind fun x27 =>
         some x27
       else
        if decide (v4 = 2) then
         (impl_blend r3_0 r3_3 r3_0 r3_5 v0).bind fun x28 =>
          some x28
        else
         if decide (v4 = 3) then
          (impl_blend r3_0 r3_3 r3_0 r3_7 v0).bind fun x29 =>
           some x29
         else
          if decide (v4 = 4) then
           (impl_blend r3_0 r3_3 r3_0 r3_9 v0).bind fun x30 =>
            some x30
          else
           none
     else
      if decide (v4 = 1) then
       if decide (v4 = 0) then
        (impl_blend r3_0 r3_3 r3_2 r3_1 v0).bind fun x31 =>
         some x31
       else
        if decide (v4 = 1) then
         (impl_blend r3_0 r3_3 r3_2 r3_3 v0).bind fun x32 =>
          some x32
        else
         if decide (v4 = 2) then
          (impl_blend r3_0 r3_3 r3_2 r3_5 v0).bind fun x33 =>
           some x33
         else
          if decide (v4 = 3) then
           (impl_blend r3_0 r3_3 r3_2 r3_7 v0).bind fun x34 =>
            some x34
          else
           if decide (v4 = 4) then
            (impl_blend r3_0 r3_3 r3_2 r3_9 v0).bind fun x35 =>
             some x35
           else
            none
      else
       if decide (v4 = 2) then
        if decide (v4 = 0) then
         (impl_blend r3_0 r3_3 r3_4 r3_1 v0).bind fun x36 =>
          some x36
        else
         if decide (v4 = 1) then
          (impl_blend r3_0 r3_3 r3_4 r3_3 v0).bind fun x37 =>
           some x37
         else
          if decide (v4 = 2) then
           (impl_blend r3_0 r3_3 r3_4 r3_5 v0).bind fun x38 =>
            some x38
          else
           if decide (v4 = 3) then
            (impl_blend r3_0 r3_3 r3_4 r3_7 v0).bind fun x39 =>
             some x39
           else
            if decide (v4 = 4) then
             (impl_blend r3_0 r3_3 r3_4 r3_9 v0).bind fun x40 =>
              some x40
            else
             none
       else
        if decide (v4 = 3) then
         if decide (v4 = 0) then
          (impl_blend r3_0 r3_3 r3_6 r3_1 v0).bind fun x41 =>
           some x41
         else
          if decide (v4 = 1) then
           (impl_blend r3_0 r3_3 r3_6 r3_3 v0).bind fun x42 =>
            some x42
          else
           if decide (v4 = 2) then
            (impl_blend r3_0 r3_3 r3_6 r3_5 v0).bind fun x43 =>
             some x43
           else
            if decide (v4 = 3) then
             (impl_blend r3_0 r3_3 r3_6 r3_7 v0).bind fun x44 =>
              some x44
            else
             if decide (v4 = 4) then
              (impl_blend r3_0 r3_3 r3_6 r3_9 v0).bind fun x45 =>
               some x45
             else
              none
        else
         if decide (v4 = 4) then
          if decide (v4 = 0) then
           (impl_blend r3_0 r3_3 r3_8 r3_1 v0).bind fun x46 =>
            some x46
          else
           if decide (v4 = 1) then
            (impl_blend r3_0 r3_3 r3_8 r3_3 v0).bind fun x47 =>
             some x47
           else
            if decide (v4 = 2) then
             (impl_blend r3_0 r3_3 r3_8 r3_5 v0).bind fun x48 =>
              some x48
            else
             if decide (v4 = 3) then
              (impl_blend r3_0 r3_3 r3_8 r3_7 v0).bind fun x49 =>
               some x49
             else
              if decide (v4 = 4) then
               (impl_blend r3_0 r3_3 r3_8 r3_9 v0).bind fun x50 =>
                some x50
              else
               none
         else
          none
    else
     if decide (IntKind.i64.wrap (v4 - 1) = 2) then
      if decide (v4 = 0) then
       if decide (v4 = 0) then
        (impl_blend r3_0 r3_5 r3_0 r3_1 v0).bind fun x51 =>
         some x51
       else
        if decide (v4 = 1) then
         (impl_blend r3_0 r3_5 r3_0 r3_3 v0).bind fun x52 =>
          some x52
        else
         if decide (v4 = 2) then
          (impl_blend r3_0 r3_5 r3_0 r3_5 v0).bind fun x53 =>
           some x53
         else
          if decide (v4 = 3) then
           (impl_blend r3_0 r3_5 r3_0 r3_7 v0).bind fun x54 =>
            some x54
          else
           if decide (v4 = 4) then
            (impl_blend r3_0 r3_5 r3_0 r3_9 v0).bind fun x55 =>
             some x55
           else
            none
      else
       if decide (v4 = 1) then
        if decide (v4 = 0) then
         (impl_blend r3_0 r3_5 r3_2 r3_1 v0).bind fun x56 =>
          some x56
        else
         if decide (v4 = 1) then
          (impl_blend r3_0 r3_5 r3_2 r3_3 v0).bind fun x57 =>
           some x57
         else
          if decide (v4 = 2) then
           (impl_blend r3_0 r3_5 r3_2 r3_5 v0).bind fun x58 =>
            some x58
          else
           if decide (v4 = 3) then
            (impl_blend r3_0 r3_5 r3_2 r3_7 v0).bind fun x59 =>
             some x59
           else
            if decide (v4 = 4) then
             (impl_blend r3_0 r3_5 r3_2 r3_9 v0).bind fun x60 =>
              some x60
            else
             none
       else
        if decide (v4 = 2) then
         if decide (v4 = 0) then
          (impl_blend r3_0 r3_5 r3_4 r3_1 v0).bind fun x61 =>
           some x61
         else
          if decide (v4 = 1) then
           (impl_blend r3_0 r3_5 r3_4 r3_3 v0).bind fun x62 =>
            some x62
          else
           if decide (v4 = 2) then
            (impl_blend r3_0 r3_5 r3_4 r3_5 v0).bind fun x63 =>
             some x63
           else
            if decide (v4 = 3) then
             (impl_blend r3_0 r3_5 r3_4 r3_7 v0).bind fun x64 =>
              some x64
            else
             if decide (v4 = 4) then
              (impl_blend r3_0 r3_5 r3_4 r3_9 v0).bind fun x65 =>
               some x65
             else
              none
        else
         if decide (v4 = 3) then
          if decide (v4 = 0) then
           (impl_blend r3_0 r3_5 r3_6 r3_1 v0).bind fun x66 =>
            some x66
          else
           if decide (v4 = 1) then
            (impl_blend r3_0 r3_5 r3_6 r3_3 v0).bind fun x67 =>
             some x67
           else
            if decide (v4 = 2) then
             (impl_blend r3_0 r3_5 r3_6 r3_5 v0).bind fun x68 =>
              some x68
            else
             if decide (v4 = 3) then
              (impl_blend r3_0 r3_5 r3_6 r3_7 v0).bind fun x69 =>
               some x69
             else
              if decide (v4 = 4) then
               (impl_blend r3_0 r3_5 r3_6 r3_9 v0).bind fun x70 =>
                some x70
              else
               none
         else
          if decide (v4 = 4) then
           if decide (v4 = 0) then
            (impl_blend r3_0 r3_5 r3_8 r3_1 v0).bind fun x71 =>
             some x71
           else
            if decide (v4 = 1) then
             (impl_blend r3_0 r3_5 r3_8 r3_3 v0).bind fun x72 =>
              some x72
            else
             if decide (v4 = 2) then
              (impl_blend r3_0 r3_5 r3_8 r3_5 v0).bind fun x73 =>
               some x73
             else
              if decide (v4 = 3) then
               (impl_blend r3_0 r3_5 r3_8 r3_7 v0).bind fun x74 =>
                some x74
              else
               if decide (v4 = 4) then
                (impl_blend r3_0 r3_5 r3_8 r3_9 v0).bind fun x75 =>
                 some x75
               else
                none
          else
           none
     else
      if decide (IntKind.i64.wrap (v4 - 1) = 3) then
       if decide (v4 = 0) then
        if decide (v4 = 0) then
         (impl_blend r3_0 r3_7 r3_0 r3_1 v0).bind fun x76 =>
          some x76
        else
         if decide (v4 = 1) then
          (impl_blend r3_0 r3_7 r3_0 r3_3 v0).bind fun x77 =>
           some x77
         else
          if decide (v4 = 2) then
           (impl_blend r3_0 r3_7 r3_0 r3_5 v0).bind fun x78 =>
            some x78
          else
           if decide (v4 = 3) then
            (impl_blend r3_0 r3_7 r3_0 r3_7 v0).bind fun x79 =>
             some x79
           else
            if decide (v4 = 4) then
             (impl_blend r3_0 r3_7 r3_0 r3_9 v0).bind fun x80 =>
              some x80
            else
             none
       else
        if decide (v4 = 1) then
         if decide (v4 = 0) then
          (impl_blend r3_0 r3_7 r3_2 r3_1 v0).bind fun x81 =>
           some x81
         else
          if decide (v4 = 1) then
           (impl_blend r3_0 r3_7 r3_2 r3_3 v0).bind fun x82 =>
            some x82
          else
           if decide (v4 = 2) then
            (impl_blend r3_0 r3_7 r3_2 r3_5 v0).bind fun x83 =>
             some x83
           else
            if decide (v4 = 3) then
             (impl_blend r3_0 r3_7 r3_2 r3_7 v0).bind fun x84 =>
              some x84
            else
             if decide (v4 = 4) then
              (impl_blend r3_0 r3_7 r3_2 r3_9 v0).bind fun x85 =>
               some x85
             else
              none
        else
         if decide (v4 = 2) then
          if decide (v4 = 0) then
           (impl_blend r3_0 r3_7 r3_4 r3_1 v0).bind fun x86 =>
            some x86
          else
           if decide (v4 = 1) then
            (impl_blend r3_0 r3_7 r3_4 r3_3 v0).bind fun x87 =>
             some x87
           else
            if decide (v4 = 2) then
             (impl_blend r3_0 r3_7 r3_4 r3_5 v0).bind fun x88 =>
              some x88
            else
             if decide (v4 = 3) then
              (impl_blend r3_0 r3_7 r3_4 r3_7 v0).bind fun x89 =>
               some x89
             else
              if decide (v4 = 4) then
               (impl_blend r3_0 r3_7 r3_4 r3_9 v0).bind fun x90 =>
                some x90
              else
               none
         else
          if decide (v4 = 3) then
           if decide (v4 = 0) then
            (impl_blend r3_0 r3_7 r3_6 r3_1 v0).bind fun x91 =>
             some x91
           else
            if decide (v4 = 1) then
             (impl_blend r3_0 r3_7 r3_6 r3_3 v0).bind fun x92 =>
              some x92
            else
             if decide (v4 = 2) then
              (impl_blend r3_0 r3_7 r3_6 r3_5 v0).bind fun x93 =>
               some x93
             else
              if decide (v4 = 3) then
               (impl_blend r3_0 r3_7 r3_6 r3_7 v0).bind fun x94 =>
                some x94
              else
               if decide (v4 = 4) then
                (impl_blend r3_0 r3_7 r3_6 r3_9 v0).bind fun x95 =>
                 some x95
               else
                none
          else
           if decide (v4 = 4) then
            if decide (v4 = 0) then
             (impl_blend r3_0 r3_7 r3_8 r3_1 v0).bind fun x96 =>
              some x96
            else
             if decide (v4 = 1) then
              (impl_blend r3_0 r3_7 r3_8 r3_3 v0).bind fun x97 =>
               some x97
             else
              if decide (v4 = 2) then
               (impl_blend r3_0 r3_7 r3_8 r3_5 v0).bind fun x98 =>
                some x98
              else
               if decide (v4 = 3) then
                (impl_blend r3_0 r3_7 r3_8 r3_7 v0).bind fun x99 =>
                 some x99
               else
                if decide (v4 = 4) then
                 (impl_blend r3_0 r3_7 r3_8 r3_9 v0).bind fun x100 =>
                  some x100
                else
                 none
           else
            none
      else
       if decide (IntKind.i64.wrap (v4 - 1) = 4) then
        if decide (v4 = 0) then
         if decide (v4 = 0) then
          (impl_blend r3_0 r3_9 r3_0 r3_1 v0).bind fun x101 =>
           some x101
         else
          if decide (v4 = 1) then
           (impl_blend r3_0 r3_9 r3_0 r3_3 v0).bind fun x102 =>
            some x102
          else
           if decide (v4 = 2) then
            (impl_blend r3_0 r3_9 r3_0 r3_5 v0).bind fun x103 =>
             some x103
           else
            if decide (v4 = 3) then
             (impl_blend r3_0 r3_9 r3_0 r3_7 v0).bind fun x104 =>
              some x104
            else
             if decide (v4 = 4) then
              (impl_blend r3_0 r3_9 r3_0 r3_9 v0).bind fun x105 =>
               some x105
             else
              none
        else
         if decide (v4 = 1) then
          if decide (v4 = 0) then
           (impl_blend r3_0 r3_9 r3_2 r3_1 v0).bind fun x106 =>
            some x106
          else
           if decide (v4 = 1) then
            (impl_blend r3_0 r3_9 r3_2 r3_3 v0).bind fun x107 =>
             some x107
           else
            if decide (v4 = 2) then
             (impl_blend r3_0 r3_9 r3_2 r3_5 v0).bind fun x108 =>
              some x108
            else
             if decide (v4 = 3) then
              (impl_blend r3_0 r3_9 r3_2 r3_7 v0).bind fun x109 =>
               some x109
             else
              if decide (v4 = 4) then
               (impl_blend r3_0 r3_9 r3_2 r3_9 v0).bind fun x110 =>
                some x110
              else
               none
         else
          if decide (v4 = 2) then
           if decide (v4 = 0) then
            (impl_blend r3_0 r3_9 r3_4 r3_1 v0).bind fun x111 =>
             some x111
           else
            if decide (v4 = 1) then
             (impl_blend r3_0 r3_9 r3_4 r3_3 v0).bind fun x112 =>
              some x112
            else
             if decide (v4 = 2) then
              (impl_blend r3_0 r3_9 r3_4 r3_5 v0).bind fun x113 =>
               some x113
             else
              if decide (v4 = 3) then
               (impl_blend r3_0 r3_9 r3_4 r3_7 v0).bind fun x114 =>
                some x114
              else
               if decide (v4 = 4) then
                (impl_blend r3_0 r3_9 r3_4 r3_9 v0).bind fun x115 =>
                 some x115
               else
                none
          else
           if decide (v4 = 3) then
            if decide (v4 = 0) then
             (impl_blend r3_0 r3_9 r3_6 r3_1 v0).bind fun x116 =>
              some x116
            else
             if decide (v4 = 1) then
              (impl_blend r3_0 r3_9 r3_6 r3_3 v0).bind fun x117 =>
               some x117
             else
              if decide (v4 = 2) then
               (impl_blend r3_0 r3_9 r3_6 r3_5 v0).bind fun x118 =>
                some x118
              else
               if decide (v4 = 3) then
                (impl_blend r3_0 r3_9 r3_6 r3_7 v0).bind fun x119 =>
                 some x119
               else
                if decide (v4 = 4) then
                 (impl_blend r3_0 r3_9 r3_6 r3_9 v0).bind fun x120 =>
                  some x120
                else
                 none
           else
            if decide (v4 = 4) then
             if decide (v4 = 0) then
              (impl_blend r3_0 r3_9 r3_8 r3_1 v0).bind fun x121 =>
               some x121
             else
              if decide (v4 = 1) then
               (impl_blend r3_0 r3_9 r3_8 r3_3 v0).bind fun x122 =>
                some x122
              else
               if decide (v4 = 2) then
                (impl_blend r3_0 r3_9 r3_8 r3_5 v0).bind fun x123 =>
                 some x123
               else
                if decide (v4 = 3) then
                 (impl_blend r3_0 r3_9 r3_8 r3_7 v0).bind fun x124 =>
                  some x124
                else
                 if decide (v4 = 4) then
                  (impl_blend r3_0 r3_9 r3_8 r3_9 v0).bind fun x125 =>
                   some x125
                 else
                  none
            else
             none
       else
        none
  else
   if decide (IntKind.i64.wrap (v4 - 1) = 1) then
    if decide (IntKind.i64.wrap (v4 - 1) = 0) then
     if decide (v4 = 0) then
      if decide (v4 = 0) then
       (impl_blend r3_2 r3_1 r3_0 r3_1 v0).bind fun x126 =>
        some x126
      else
       if decide (v4 = 1) then
        (impl_blend r3_2 r3_1 r3_0 r3_3 v0).bind fun x127 =>
         some x127
       else
        if decide (v4 = 2) then
         (impl_blend r3_2 r3_1 r3_0 r3_5 v0).bind fun x128 =>
          some x128
        else
         if decide (v4 = 3) then
          (impl_blend r3_2 r3_1 r3_0 r3_7 v0).bind fun x129 =>
           some x129
         else
          if decide (v4 = 4) then
           (impl_blend r3_2 r3_1 r3_0 r3_9 v0).bind fun x130 =>
            some x130
          else
           none
     else
      if decide (v4 = 1) then
       if decide (v4 = 0) then
        (impl_blend r3_2 r3_1 r3_2 r3_1 v0).bind fun x131 =>
         some x131
       else
        if decide (v4 = 1) then
         (impl_blend r3_2 r3_1 r3_2 r3_3 v0).bind fun x132 =>
          some x132
        else
         if decide (v4 = 2) then
          (impl_blend r3_2 r3_1 r3_2 r3_5 v0).bind fun x133 =>
           some x133
         else
          if decide (v4 = 3) then
           (impl_blend r3_2 r3_1 r3_2 r3_7 v0).bind fun x134 =>
            some x134
          else
           if decide (v4 = 4) then
            (impl_blend r3_2 r3_1 r3_2 r3_9 v0).bind fun x135 =>
             some x135
           else
            none
      else
       if decide (v4 = 2) then
        if decide (v4 = 0) then
         (impl_blend r3_2 r3_1 r3_4 r3_1 v0).bind fun x136 =>
          some x136
        else
         if decide (v4 = 1) then
          (impl_blend r3_2 r3_1 r3_4 r3_3 v0).bind fun x137 =>
           some x137
         else
          if decide (v4 = 2) then
           (impl_blend r3_2 r3_1 r3_4 r3_5 v0).bind fun x138 =>
            some x138
          else
           if decide (v4 = 3) then
            (impl_blend r3_2 r3_1 r3_4 r3_7 v0).bind fun x139 =>
             some x139
           else
            if decide (v4 = 4) then
             (impl_blend r3_2 r3_1 r3_4 r3_9 v0).bind fun x140 =>
              some x140
            else
             none
       else
        if decide (v4 = 3) then
         if decide (v4 = 0) then
          (impl_blend r3_2 r3_1 r3_6 r3_1 v0).bind fun x141 =>
           some x141
         else
          if decide (v4 = 1) then
           (impl_blend r3_2 r3_1 r3_6 r3_3 v0).bind fun x142 =>
            some x142
          else
           if decide (v4 = 2) then
            (impl_blend r3_2 r3_1 r3_6 r3_5 v0).bind fun x143 =>
             some x143
           else
            if decide (v4 = 3) then
             (impl_blend r3_2 r3_1 r3_6 r3_7 v0).bind fun x144 =>
              some x144
            else
             if decide (v4 = 4) then
              (impl_blend r3_2 r3_1 r3_6 r3_9 v0).bind fun x145 =>
               some x145
             else
              none
        else
         if decide (v4 = 4) then
          if decide (v4 = 0) then
           (impl_blend r3_2 r3_1 r3_8 r3_1 v0).bind fun x146 =>
            some x146
          else
           if decide (v4 = 1) then
            (impl_blend r3_2 r3_1 r3_8 r3_3 v0).bind fun x147 =>
             some x147
           else
            if decide (v4 = 2) then
             (impl_blend r3_2 r3_1 r3_8 r3_5 v0).bind fun x148 =>
              some x148
            else
             if decide (v4 = 3) then
              (impl_blend r3_2 r3_1 r3_8 r3_7 v0).bind fun x149 =>
               some x149
             else
              if decide (v4 = 4) then
               (impl_blend r3_2 r3_1 r3_8 r3_9 v0).bind fun x150 =>
                some x150
              else
               none
         else
          none
    else
     if decide (IntKind.i64.wrap (v4 - 1) = 1) then
      if decide (v4 = 0) then
       if decide (v4 = 0) then
        (impl_blend r3_2 r3_3 r3_0 r3_1 v0).bind fun x151 =>
         some x151
       else
        if decide (v4 = 1) then
         (impl_blend r3_2 r3_3 r3_0 r3_3 v0).bind fun x152 =>
          some x152
        else
         if decide (v4 = 2) then
          (impl_blend r3_2 r3_3 r3_0 r3_5 v0).bind fun x153 =>
           some x153
         else
          if decide (v4 = 3) then
           (impl_blend r3_2 r3_3 r3_0 r3_7 v0).bind fun x154 =>
            some x154
          else
           if decide (v4 = 4) then
            (impl_blend r3_2 r3_3 r3_0 r3_9 v0).bind fun x155 =>
             some x155
           else
            none
      else
       if decide (v4 = 1) then
        if decide (v4 = 0) then
         (impl_blend r3_2 r3_3 r3_2 r3_1 v0).bind fun x156 =>
          some x156
        else
         if decide (v4 = 1) then
          (impl_blend r3_2 r3_3 r3_2 r3_3 v0).bind fun x157 =>
           some x157
         else
          if decide (v4 = 2) then
           (impl_blend r3_2 r3_3 r3_2 r3_5 v0).bind fun x158 =>
            some x158
          else
           if decide (v4 = 3) then
            (impl_blend r3_2 r3_3 r3_2 r3_7 v0).bind fun x159 =>
             some x159
           else
            if decide (v4 = 4) then
             (impl_blend r3_2 r3_3 r3_2 r3_9 v0).bind fun x160 =>
              some x160
            else
             none
       else
        if decide (v4 = 2) then
         if decide (v4 = 0) then
          (impl_blend r3_2 r3_3 r3_4 r3_1 v0).bind fun x161 =>
           some x161
         else
          if decide (v4 = 1) then
           (impl_blend r3_2 r3_3 r3_4 r3_3 v0).bind fun x162 =>
            some x162
          else
           if decide (v4 = 2) then
            (impl_blend r3_2 r3_3 r3_4 r3_5 v0).bind fun x163 =>
             some x163
           else
            if decide (v4 = 3) then
             (impl_blend r3_2 r3_3 r3_4 r3_7 v0).bind fun x164 =>
              some x164
            else
             if decide (v4 = 4) then
              (impl_blend r3_2 r3_3 r3_4 r3_9 v0).bind fun x165 =>
               some x165
             else
              none
        else
         if decide (v4 = 3) then
          if decide (v4 = 0) then
           (impl_blend r3_2 r3_3 r3_6 r3_1 v0).bind fun x166 =>
            some x166
          else
           if decide (v4 = 1) then
            (impl_blend r3_2 r3_3 r3_6 r3_3 v0).bind fun x167 =>
             some x167
           else
            if decide (v4 = 2) then
             (impl_blend r3_2 r3_3 r3_6 r3_5 v0).bind fun x168 =>
              some x168
            else
             if decide (v4 = 3) then
              (impl_blend r3_2 r3_3 r3_6 r3_7 v0).bind fun x169 =>
               some x169
             else
              if decide (v4 = 4) then
               (impl_blend r3_2 r3_3 r3_6 r3_9 v0).bind fun x170 =>
                some x170
              else
               none
         else
          if decide (v4 = 4) then
           if decide (v4 = 0) then
            (impl_blend r3_2 r3_3 r3_8 r3_1 v0).bind fun x171 =>
             some x171
           else
            if decide (v4 = 1) then
             (impl_blend r3_2 r3_3 r3_8 r3_3 v0).bind fun x172 =>
              some x172
            else
             if decide (v4 = 2) then
              (impl_blend r3_2 r3_3 r3_8 r3_5 v0).bind fun x173 =>
               some x173
             else
              if decide (v4 = 3) then
               (impl_blend r3_2 r3_3 r3_8 r3_7 v0).bind fun x174 =>
                some x174
              else
               if decide (v4 = 4) then
                (impl_blend r3_2 r3_3 r3_8 r3_9 v0).bind fun x175 =>
                 some x175
               else
                none
          else
           none
     else
      if decide (IntKind.i64.wrap (v4 - 1) = 2) then
       if decide (v4 = 0) then
        if decide (v4 = 0) then
         (impl_blend r3_2 r3_5 r3_0 r3_1 v0).bind fun x176 =>
          some x176
        else
         if decide (v4 = 1) then
          (impl_blend r3_2 r3_5 r3_0 r3_3 v0).bind fun x177 =>
           some x177
         else
          if decide (v4 = 2) then
           (impl_blend r3_2 r3_5 r3_0 r3_5 v0).bind fun x178 =>
            some x178
          else
           if decide (v4 = 3) then
            (impl_blend r3_2 r3_5 r3_0 r3_7 v0).bind fun x179 =>
             some x179
           else
            if decide (v4 = 4) then
             (impl_blend r3_2 r3_5 r3_0 r3_9 v0).bind fun x180 =>
              some x180
            else
             none
       else
        if decide (v4 = 1) then
         if decide (v4 = 0) then
          (impl_blend r3_2 r3_5 r3_2 r3_1 v0).bind fun x181 =>
           some x181
         else
          if decide (v4 = 1) then
           (impl_blend r3_2 r3_5 r3_2 r3_3 v0).bind fun x182 =>
            some x182
          else
           if decide (v4 = 2) then
            (impl_blend r3_2 r3_5 r3_2 r3_5 v0).bind fun x183 =>
             some x183
           else
            if decide (v4 = 3) then
             (impl_blend r3_2 r3_5 r3_2 r3_7 v0).bind fun x184 =>
              some x184
            else
             if decide (v4 = 4) then
              (impl_blend r3_2 r3_5 r3_2 r3_9 v0).bind fun x185 =>
               some x185
             else
              none
        else
         if decide (v4 = 2) then
          if decide (v4 = 0) then
           (impl_blend r3_2 r3_5 r3_4 r3_1 v0).bind fun x186 =>
            some x186
          else
           if decide (v4 = 1) then
            (impl_blend r3_2 r3_5 r3_4 r3_3 v0).bind fun x187 =>
             some x187
           else
            if decide (v4 = 2) then
             (impl_blend r3_2 r3_5 r3_4 r3_5 v0).bind fun x188 =>
              some x188
            else
             if decide (v4 = 3) then
              (impl_blend r3_2 r3_5 r3_4 r3_7 v0).bind fun x189 =>
               some x189
             else
              if decide (v4 = 4) then
               (impl_blend r3_2 r3_5 r3_4 r3_9 v0).bind fun x190 =>
                some x190
              else
               none
         else
          if decide (v4 = 3) then
           if decide (v4 = 0) then
            (impl_blend r3_2 r3_5 r3_6 r3_1 v0).bind fun x191 =>
             some x191
           else
            if decide (v4 = 1) then
             (impl_blend r3_2 r3_5 r3_6 r3_3 v0).bind fun x192 =>
              some x192
            else
             if decide (v4 = 2) then
              (impl_blend r3_2 r3_5 r3_6 r3_5 v0).bind fun x193 =>
               some x193
             else
              if decide (v4 = 3) then
               (impl_blend r3_2 r3_5 r3_6 r3_7 v0).bind fun x194 =>
                some x194
              else
               if decide (v4 = 4) then
                (impl_blend r3_2 r3_5 r3_6 r3_9 v0).bind fun x195 =>
                 some x195
               else
                none
          else
           if decide (v4 = 4) then
            if decide (v4 = 0) then
             (impl_blend r3_2 r3_5 r3_8 r3_1 v0).bind fun x196 =>
              some x196
            else
             if decide (v4 = 1) then
              (impl_blend r3_2 r3_5 r3_8 r3_3 v0).bind fun x197 =>
               some x197
             else
              if decide (v4 = 2) then
               (impl_blend r3_2 r3_5 r3_8 r3_5 v0).bind fun x198 =>
                some x198
              else
               if decide (v4 = 3) then
                (impl_blend r3_2 r3_5 r3_8 r3_7 v0).bind fun x199 =>
                 some x199
               else
                if decide (v4 = 4) then
                 (impl_blend r3_2 r3_5 r3_8 r3_9 v0).bind fun x200 =>
                  some x200
                else
                 none
           else
            none
      else
       if decide (IntKind.i64.wrap (v4 - 1) = 3) then
        if decide (v4 = 0) then
         if decide (v4 = 0) then
          (impl_blend r3_2 r3_7 r3_0 r3_1 v0).bind fun x201 =>
           some x201
         else
          if decide (v4 = 1) then
           (impl_blend r3_2 r3_7 r3_0 r3_3 v0).bind fun x202 =>
            some x202
          else
           if decide (v4 = 2) then
            (impl_blend r3_2 r3_7 r3_0 r3_5 v0).bind fun x203 =>
             some x203
           else
            if decide (v4 = 3) then
             (impl_blend r3_2 r3_7 r3_0 r3_7 v0).bind fun x204 =>
              some x204
            else
             if decide (v4 = 4) then
              (impl_blend r3_2 r3_7 r3_0 r3_9 v0).bind fun x205 =>
               some x205
             else
              none
        else
         if decide (v4 = 1) then
          if decide (v4 = 0) then
           (impl_blend r3_2 r3_7 r3_2 r3_1 v0).bind fun x206 =>
            some x206
          else
           if decide (v4 = 1) then
            (impl_blend r3_2 r3_7 r3_2 r3_3 v0).bind fun x207 =>
             some x207
           else
            if decide (v4 = 2) then
             (impl_blend r3_2 r3_7 r3_2 r3_5 v0).bind fun x208 =>
              some x208
            else
             if decide (v4 = 3) then
              (impl_blend r3_2 r3_7 r3_2 r3_7 v0).bind fun x209 =>
               some x209
             else
              if decide (v4 = 4) then
               (impl_blend r3_2 r3_7 r3_2 r3_9 v0).bind fun x210 =>
                some x210
              else
               none
         else
          if decide (v4 = 2) then
           if decide (v4 = 0) then
            (impl_blend r3_2 r3_7 r3_4 r3_1 v0).bind fun x211 =>
             some x211
           else
            if decide (v4 = 1) then
             (impl_blend r3_2 r3_7 r3_4 r3_3 v0).bind fun x212 =>
              some x212
            else
             if decide (v4 = 2) then
              (impl_blend r3_2 r3_7 r3_4 r3_5 v0).bind fun x213 =>
               some x213
             else
              if decide (v4 = 3) then
               (impl_blend r3_2 r3_7 r3_4 r3_7 v0).bind fun x214 =>
                some x214
              else
               if decide (v4 = 4) then
                (impl_blend r3_2 r3_7 r3_4 r3_9 v0).bind fun x215 =>
                 some x215
               else
                none
          else
           if decide (v4 = 3) then
            if decide (v4 = 0) then
             (impl_blend r3_2 r3_7 r3_6 r3_1 v0).bind fun x216 =>
              some x216
            else
             if decide (v4 = 1) then
              (impl_blend r3_2 r3_7 r3_6 r3_3 v0).bind fun x217 =>
               some x217
             else
              if decide (v4 = 2) then
               (impl_blend r3_2 r3_7 r3_6 r3_5 v0).bind fun x218 =>
                some x218
              else
               if decide (v4 = 3) then
                (impl_blend r3_2 r3_7 r3_6 r3_7 v0).bind fun x219 =>
                 some x219
               else
                if decide (v4 = 4) then
                 (impl_blend r3_2 r3_7 r3_6 r3_9 v0).bind fun x220 =>
                  some x220
                else
                 none
           else
            if decide (v4 = 4) then
             if decide (v4 = 0) then
              (impl_blend r3_2 r3_7 r3_8 r3_1 v0).bind fun x221 =>
               some x221
             else
              if decide (v4 = 1) then
               (impl_blend r3_2 r3_7 r3_8 r3_3 v0).bind fun x222 =>
                some x222
              else
               if decide (v4 = 2) then
                (impl_blend r3_2 r3_7 r3_8 r3_5 v0).bind fun x223 =>
                 some x223
               else
                if decide (v4 = 3) then
                 (impl_blend r3_2 r3_7 r3_8 r3_7 v0).bind fun x224 =>
                  some x224
                else
                 if decide (v4 = 4) then
                  (impl_blend r3_2 r3_7 r3_8 r3_9 v0).bind fun x225 =>
                   some x225
                 else
                  none
            else
             none
       else
        if decide (IntKind.i64.wrap (v4 - 1) = 4) then
         if decide (v4 = 0) then
          if decide (v4 = 0) then
           (impl_blend r3_2 r3_9 r3_0 r3_1 v0).bind fun x226 =>
            some x226
          else
           if decide (v4 = 1) then
            (impl_blend r3_2 r3_9 r3_0 r3_3 v0).bind fun x227 =>
             some x227
           else
            if decide (v4 = 2) then
             (impl_blend r3_2 r3_9 r3_0 r3_5 v0).bind fun x228 =>
              some x228
            else
             if decide (v4 = 3) then
              (impl_blend r3_2 r3_9 r3_0 r3_7 v0).bind fun x229 =>
               some x229
             else
              if decide (v4 = 4) then
               (impl_blend r3_2 r3_9 r3_0 r3_9 v0).bind fun x230 =>
                some x230
              else
               none
         else
          if decide (v4 = 1) then
           if decide (v4 = 0) then
            (impl_blend r3_2 r3_9 r3_2 r3_1 v0).bind fun x231 =>
             some x231
           else
            if decide (v4 = 1) then
             (impl_blend r3_2 r3_9 r3_2 r3_3 v0).bind fun x232 =>
              some x232
            else
             if decide (v4 = 2) then
              (impl_blend r3_2 r3_9 r3_2 r3_5 v0).bind fun x233 =>
               some x233
             else
              if decide (v4 = 3) then
               (impl_blend r3_2 r3_9 r3_2 r3_7 v0).bind fun x234 =>
                some x234
              else
               if decide (v4 = 4) then
                (impl_blend r3_2 r3_9 r3_2 r3_9 v0).bind fun x235 =>
                 some x235
               else
                none
          else
           if decide (v4 = 2) then
            if decide (v4 = 0) then
             (impl_blend r3_2 r3_9 r3_4 r3_1 v0).bind fun x236 =>
              some x236
            else
             if decide (v4 = 1) then
              (impl_blend r3_2 r3_9 r3_4 r3_3 v0).bind fun x237 =>
               some x237
             else
              if decide (v4 = 2) then
               (impl_blend r3_2 r3_9 r3_4 r3_5 v0).bind fun x238 =>
                some x238
              else
               if decide (v4 = 3) then
                (impl_blend r3_2 r3_9 r3_4 r3_7 v0).bind fun x239 =>
                 some x239
               else
                if decide (v4 = 4) then
                 (impl_blend r3_2 r3_9 r3_4 r3_9 v0).bind fun x240 =>
                  some x240
                else
                 none
           else
            if decide (v4 = 3) then
             if decide (v4 = 0) then
              (impl_blend r3_2 r3_9 r3_6 r3_1 v0).bind fun x241 =>
               some x241
             else
              if decide (v4 = 1) then
               (impl_blend r3_2 r3_9 r3_6 r3_3 v0).bind fun x242 =>
                some x242
              else
               if decide (v4 = 2) then
                (impl_blend r3_2 r3_9 r3_6 r3_5 v0).bind fun x243 =>
                 some x243
               else
                if decide (v4 = 3) then
                 (impl_blend r3_2 r3_9 r3_6 r3_7 v0).bind fun x244 =>
                  some x244
                else
                 if decide (v4 = 4) then
                  (impl_blend r3_2 r3_9 r3_6 r3_9 v0).bind fun x245 =>
                   some x245
                 else
                  none
            else
             if decide (v4 = 4) then
              if decide (v4 = 0) then
               (impl_blend r3_2 r3_9 r3_8 r3_1 v0).bind fun x246 =>
                some x246
              else
               if decide (v4 = 1) then
                (impl_blend r3_2 r3_9 r3_8 r3_3 v0).bind fun x247 =>
                 some x247
               else
                if decide (v4 = 2) then
                 (impl_blend r3_2 r3_9 r3_8 r3_5 v0).bind fun x248 =>
                  some x248
                else
                 if decide (v4 = 3) then
                  (impl_blend r3_2 r3_9 r3_8 r3_7 v0).bind fun x249 =>
                   some x249
                 else
                  if decide (v4 = 4) then
                   (impl_blend r3_2 r3_9 r3_8 r3_9 v0).bind fun x250 =>
                    some x250
                  else
                   none
             else
              none
        else
         none
   else
    if decide (IntKind.i64.wrap (v4 - 1) = 2) then
     if decide (IntKind.i64.wrap (v4 - 1) = 0) then
      if decide (v4 = 0) then
       if decide (v4 = 0) then
        (impl_blend r3_4 r3_1 r3_0 r3_1 v0).bind fun x251 =>
         some x251
       else
        if decide (v4 = 1) then
         (impl_blend r3_4 r3_1 r3_0 r3_3 v0).bind fun x252 =>
          some x252
        else
         if decide (v4 = 2) then
          (impl_blend r3_4 r3_1 r3_0 r3_5 v0).bind fun x253 =>
           some x253
         else
          if decide (v4 = 3) then
           (impl_blend r3_4 r3_1 r3_0 r3_7 v0).bind fun x254 =>
            some x254
          else
           if decide (v4 = 4) then
            (impl_blend r3_4 r3_1 r3_0 r3_9 v0).bind fun x255 =>
             some x255
           else
            none
      else
       if decide (v4 = 1) then
        if decide (v4 = 0) then
         (impl_blend r3_4 r3_1 r3_2 r3_1 v0).bind fun x256 =>
          some x256
        else
         if decide (v4 = 1) then
          (impl_blend r3_4 r3_1 r3_2 r3_3 v0).bind fun x257 =>
           some x257
         else
          if decide (v4 = 2) then
           (impl_blend r3_4 r3_1 r3_2 r3_5 v0).bind fun x258 =>
            some x258
          else
           if decide (v4 = 3) then
            (impl_blend r3_4 r3_1 r3_2 r3_7 v0).bind fun x259 =>
             some x259
           else
            if decide (v4 = 4) then
             (impl_blend r3_4 r3_1 r3_2 r3_9 v0).bind fun x260 =>
              some x260
            else
             none
       else
        if decide (v4 = 2) then
         if decide (v4 = 0) then
          (impl_blend r3_4 r3_1 r3_4 r3_1 v0).bind fun x261 =>
           some x261
         else
          if decide (v4 = 1) then
           (impl_blend r3_4 r3_1 r3_4 r3_3 v0).bind fun x262 =>
            some x262
          else
           if decide (v4 = 2) then
            (impl_blend r3_4 r3_1 r3_4 r3_5 v0).bind fun x263 =>
             some x263
           else
            if decide (v4 = 3) then
             (impl_blend r3_4 r3_1 r3_4 r3_7 v0).bind fun x264 =>
              some x264
            else
             if decide (v4 = 4) then
              (impl_blend r3_4 r3_1 r3_4 r3_9 v0).bind fun x265 =>
               some x265
             else
              none
        else
         if decide (v4 = 3) then
          if decide (v4 = 0) then
           (impl_blend r3_4 r3_1 r3_6 r3_1 v0).bind fun x266 =>
            some x266
          else
           if decide (v4 = 1) then
            (impl_blend r3_4 r3_1 r3_6 r3_3 v0).bind fun x267 =>
             some x267
           else
            if decide (v4 = 2) then
             (impl_blend r3_4 r3_1 r3_6 r3_5 v0).bind fun x268 =>
              some x268
            else
             if decide (v4 = 3) then
              (impl_blend r3_4 r3_1 r3_6 r3_7 v0).bind fun x269 =>
               some x269
             else
              if decide (v4 = 4) then
               (impl_blend r3_4 r3_1 r3_6 r3_9 v0).bind fun x270 =>
                some x270
              else
               none
         else
          if decide (v4 = 4) then
           if decide (v4 = 0) then
            (impl_blend r3_4 r3_1 r3_8 r3_1 v0).bind fun x271 =>
             some x271
           else
            if decide (v4 = 1) then
             (impl_blend r3_4 r3_1 r3_8 r3_3 v0).bind fun x272 =>
              some x272
            else
             if decide (v4 = 2) then
              (impl_blend r3_4 r3_1 r3_8 r3_5 v0).bind fun x273 =>
               some x273
             else
              if decide (v4 = 3) then
               (impl_blend r3_4 r3_1 r3_8 r3_7 v0).bind fun x274 =>
                some x274
              else
               if decide (v4 = 4) then
                (impl_blend r3_4 r3_1 r3_8 r3_9 v0).bind fun x275 =>
                 some x275
               else
                none
          else
           none
     else
      if decide (IntKind.i64.wrap (v4 - 1) = 1) then
       if decide (v4 = 0) then
        if decide (v4 = 0) then
         (impl_blend r3_4 r3_3 r3_0 r3_1 v0).bind fun x276 =>
          some x276
        else
         if decide (v4 = 1) then
          (impl_blend r3_4 r3_3 r3_0 r3_3 v0).bind fun x277 =>
           some x277
         else
          if decide (v4 = 2) then
           (impl_blend r3_4 r3_3 r3_0 r3_5 v0).bind fun x278 =>
            some x278
          else
           if decide (v4 = 3) then
            (impl_blend r3_4 r3_3 r3_0 r3_7 v0).bind fun x279 =>
             some x279
           else
            if decide (v4 = 4) then
             (impl_blend r3_4 r3_3 r3_0 r3_9 v0).bind fun x280 =>
              some x280
            else
             none
       else
        if decide (v4 = 1) then
         if decide (v4 = 0) then
          (impl_blend r3_4 r3_3 r3_2 r3_1 v0).bind fun x281 =>
           some x281
         else
          if decide (v4 = 1) then
           (impl_blend r3_4 r3_3 r3_2 r3_3 v0).bind fun x282 =>
            some x282
          else
           if decide (v4 = 2) then
            (impl_blend r3_4 r3_3 r3_2 r3_5 v0).bind fun x283 =>
             some x283
           else
            if decide (v4 = 3) then
             (impl_blend r3_4 r3_3 r3_2 r3_7 v0).bind fun x284 =>
              some x284
            else
             if decide (v4 = 4) then
              (impl_blend r3_4 r3_3 r3_2 r3_9 v0).bind fun x285 =>
               some x285
             else
              none
        else
         if decide (v4 = 2) then
          if decide (v4 = 0) then
           (impl_blend r3_4 r3_3 r3_4 r3_1 v0).bind fun x286 =>
            some x286
          else
           if decide (v4 = 1) then
            (impl_blend r3_4 r3_3 r3_4 r3_3 v0).bind fun x287 =>
             some x287
           else
            if decide (v4 = 2) then
             (impl_blend r3_4 r3_3 r3_4 r3_5 v0).bind fun x288 =>
              some x288
            else
             if decide (v4 = 3) then
              (impl_blend r3_4 r3_3 r3_4 r3_7 v0).bind fun x289 =>
               some x289
             else
              if decide (v4 = 4) then
               (impl_blend r3_4 r3_3 r3_4 r3_9 v0).bind fun x290 =>
                some x290
              else
               none
         else
          if decide (v4 = 3) then
           if decide (v4 = 0) then
            (impl_blend r3_4 r3_3 r3_6 r3_1 v0).bind fun x291 =>
             some x291
           else
            if decide (v4 = 1) then
             (impl_blend r3_4 r3_3 r3_6 r3_3 v0).bind fun x292 =>
              some x292
            else
             if decide (v4 = 2) then
              (impl_blend r3_4 r3_3 r3_6 r3_5 v0).bind fun x293 =>
               some x293
             else
              if decide (v4 = 3) then
               (impl_blend r3_4 r3_3 r3_6 r3_7 v0).bind fun x294 =>
                some x294
              else
               if decide (v4 = 4) then
                (impl_blend r3_4 r3_3 r3_6 r3_9 v0).bind fun x295 =>
                 some x295
               else
                none
          else
           if decide (v4 = 4) then
            if decide (v4 = 0) then
             (impl_blend r3_4 r3_3 r3_8 r3_1 v0).bind fun x296 =>
              some x296
            else
             if decide (v4 = 1) then
              (impl_blend r3_4 r3_3 r3_8 r3_3 v0).bind fun x297 =>
               some x297
             else
              if decide (v4 = 2) then
               (impl_blend r3_4 r3_3 r3_8 r3_5 v0).bind fun x298 =>
                some x298
              else
               if decide (v4 = 3) then
                (impl_blend r3_4 r3_3 r3_8 r3_7 v0).bind fun x299 =>
                 some x299
               else
                if decide (v4 = 4) then
                 (impl_blend r3_4 r3_3 r3_8 r3_9 v0).bind fun x300 =>
                  some x300
                else
                 none
           else
            none
      else
       if decide (IntKind.i64.wrap (v4 - 1) = 2) then
        if decide (v4 = 0) then
         if decide (v4 = 0) then
          (impl_blend r3_4 r3_5 r3_0 r3_1 v0).bind fun x301 =>
           some x301
         else
          if decide (v4 = 1) then
           (impl_blend r3_4 r3_5 r3_0 r3_3 v0).bind fun x302 =>
            some x302
          else
           if decide (v4 = 2) then
            (impl_blend r3_4 r3_5 r3_0 r3_5 v0).bind fun x303 =>
             some x303
           else
            if decide (v4 = 3) then
             (impl_blend r3_4 r3_5 r3_0 r3_7 v0).bind fun x304 =>
              some x304
            else
             if decide (v4 = 4) then
              (impl_blend r3_4 r3_5 r3_0 r3_9 v0).bind fun x305 =>
               some x305
             else
              none
        else
         if decide (v4 = 1) then
          if decide (v4 = 0) then
           (impl_blend r3_4 r3_5 r3_2 r3_1 v0).bind fun x306 =>
            some x306
          else
           if decide (v4 = 1) then
            (impl_blend r3_4 r3_5 r3_2 r3_3 v0).bind fun x307 =>
             some x307
           else
            if decide (v4 = 2) then
             (impl_blend r3_4 r3_5 r3_2 r3_5 v0).bind fun x308 =>
              some x308
            else
             if decide (v4 = 3) then
              (impl_blend r3_4 r3_5 r3_2 r3_7 v0).bind fun x309 =>
               some x309
             else
              if decide (v4 = 4) then
               (impl_blend r3_4 r3_5 r3_2 r3_9 v0).bind fun x310 =>
                some x310
              else
               none
         else
          if decide (v4 = 2) then
           if decide (v4 = 0) then
            (impl_blend r3_4 r3_5 r3_4 r3_1 v0).bind fun x311 =>
             some x311
           else
            if decide (v4 = 1) then
             (impl_blend r3_4 r3_5 r3_4 r3_3 v0).bind fun x312 =>
              some x312
            else
             if decide (v4 = 2) then
              (impl_blend r3_4 r3_5 r3_4 r3_5 v0).bind fun x313 =>
               some x313
             else
              if decide (v4 = 3) then
               (impl_blend r3_4 r3_5 r3_4 r3_7 v0).bind fun x314 =>
                some x314
              else
               if decide (v4 = 4) then
                (impl_blend r3_4 r3_5 r3_4 r3_9 v0).bind fun x315 =>
                 some x315
               else
                none
          else
           if decide (v4 = 3) then
            if decide (v4 = 0) then
             (impl_blend r3_4 r3_5 r3_6 r3_1 v0).bind fun x316 =>
              some x316
            else
             if decide (v4 = 1) then
              (impl_blend r3_4 r3_5 r3_6 r3_3 v0).bind fun x317 =>
               some x317
             else
              if decide (v4 = 2) then
               (impl_blend r3_4 r3_5 r3_6 r3_5 v0).bind fun x318 =>
                some x318
              else
               if decide (v4 = 3) then
                (impl_blend r3_4 r3_5 r3_6 r3_7 v0).bind fun x319 =>
                 some x319
               else
                if decide (v4 = 4) then
                 (impl_blend r3_4 r3_5 r3_6 r3_9 v0).bind fun x320 =>
                  some x320
                else
                 none
           else
            if decide (v4 = 4) then
             if decide (v4 = 0) then
              (impl_blend r3_4 r3_5 r3_8 r3_1 v0).bind fun x321 =>
               some x321
             else
              if decide (v4 = 1) then
               (impl_blend r3_4 r3_5 r3_8 r3_3 v0).bind fun x322 =>
                some x322
              else
               if decide (v4 = 2) then
                (impl_blend r3_4 r3_5 r3_8 r3_5 v0).bind fun x323 =>
                 some x323
               else
                if decide (v4 = 3) then
                 (impl_blend r3_4 r3_5 r3_8 r3_7 v0).bind fun x324 =>
                  some x324
                else
                 if decide (v4 = 4) then
                  (impl_blend r3_4 r3_5 r3_8 r3_9 v0).bind fun x325 =>
                   some x325
                 else
                  none
            else
             none
       else
        if decide (IntKind.i64.wrap (v4 - 1) = 3) then
         if decide (v4 = 0) then
          if decide (v4 = 0) then
           (impl_blend r3_4 r3_7 r3_0 r3_1 v0).bind fun x326 =>
            some x326
          else
           if decide (v4 = 1) then
            (impl_blend r3_4 r3_7 r3_0 r3_3 v0).bind fun x327 =>
             some x327
           else
            if decide (v4 = 2) then
             (impl_blend r3_4 r3_7 r3_0 r3_5 v0).bind fun x328 =>
              some x328
            else
             if decide (v4 = 3) then
              (impl_blend r3_4 r3_7 r3_0 r3_7 v0).bind fun x329 =>
               some x329
             else
              if decide (v4 = 4) then
               (impl_blend r3_4 r3_7 r3_0 r3_9 v0).bind fun x330 =>
                some x330
              else
               none
         else
          if decide (v4 = 1) then
           if decide (v4 = 0) then
            (impl_blend r3_4 r3_7 r3_2 r3_1 v0).bind fun x331 =>
             some x331
           else
            if decide (v4 = 1) then
             (impl_blend r3_4 r3_7 r3_2 r3_3 v0).bind fun x332 =>
              some x332
            else
             if decide (v4 = 2) then
              (impl_blend r3_4 r3_7 r3_2 r3_5 v0).bind fun x333 =>
               some x333
             else
              if decide (v4 = 3) then
               (impl_blend r3_4 r3_7 r3_2 r3_7 v0).bind fun x334 =>
                some x334
              else
               if decide (v4 = 4) then
                (impl_blend r3_4 r3_7 r3_2 r3_9 v0).bind fun x335 =>
                 some x335
               else
                none
          else
           if decide (v4 = 2) then
            if decide (v4 = 0) then
             (impl_blend r3_4 r3_7 r3_4 r3_1 v0).bind fun x336 =>
              some x336
            else
             if decide (v4 = 1) then
              (impl_blend r3_4 r3_7 r3_4 r3_3 v0).bind fun x337 =>
               some x337
             else
              if decide (v4 = 2) then
               (impl_blend r3_4 r3_7 r3_4 r3_5 v0).bind fun x338 =>
                some x338
              else
               if decide (v4 = 3) then
                (impl_blend r3_4 r3_7 r3_4 r3_7 v0).bind fun x339 =>
                 some x339
               else
                if decide (v4 = 4) then
                 (impl_blend r3_4 r3_7 r3_4 r3_9 v0).bind fun x340 =>
                  some x340
                else
                 none
           else
            if decide (v4 = 3) then
             if decide (v4 = 0) then
              (impl_blend r3_4 r3_7 r3_6 r3_1 v0).bind fun x341 =>
               some x341
             else
              if decide (v4 = 1) then
               (impl_blend r3_4 r3_7 r3_6 r3_3 v0).bind fun x342 =>
                some x342
              else
               if decide (v4 = 2) then
                (impl_blend r3_4 r3_7 r3_6 r3_5 v0).bind fun x343 =>
                 some x343
               else
                if decide (v4 = 3) then
                 (impl_blend r3_4 r3_7 r3_6 r3_7 v0).bind fun x344 =>
                  some x344
                else
                 if decide (v4 = 4) then
                  (impl_blend r3_4 r3_7 r3_6 r3_9 v0).bind fun x345 =>
                   some x345
                 else
                  none
            else
             if decide (v4 = 4) then
              if decide (v4 = 0) then
               (impl_blend r3_4 r3_7 r3_8 r3_1 v0).bind fun x346 =>
                some x346
              else
               if decide (v4 = 1) then
                (impl_blend r3_4 r3_7 r3_8 r3_3 v0).bind fun x347 =>
                 some x347
               else
                if decide (v4 = 2) then
                 (impl_blend r3_4 r3_7 r3_8 r3_5 v0).bind fun x348 =>
                  some x348
                else
                 if decide (v4 = 3) then
                  (impl_blend r3_4 r3_7 r3_8 r3_7 v0).bind fun x349 =>
                   some x349
                 else
                  if decide (v4 = 4) then
                   (impl_blend r3_4 r3_7 r3_8 r3_9 v0).bind fun x350 =>
                    some x350
                  else
                   none
             else
              none
        else
         if decide (IntKind.i64.wrap (v4 - 1) = 4) then
          if decide (v4 = 0) then
           if decide (v4 = 0) then
            (impl_blend r3_4 r3_9 r3_0 r3_1 v0).bind fun x351 =>
             some x351
           else
            if decide (v4 = 1) then
             (impl_blend r3_4 r3_9 r3_0 r3_3 v0).bind fun x352 =>
              some x352
            else
             if decide (v4 = 2) then
              (impl_blend r3_4 r3_9 r3_0 r3_5 v0).bind fun x353 =>
               some x353
             else
              if decide (v4 = 3) then
               (impl_blend r3_4 r3_9 r3_0 r3_7 v0).bind fun x354 =>
                some x354
              else
               if decide (v4 = 4) then
                (impl_blend r3_4 r3_9 r3_0 r3_9 v0).bind fun x355 =>
                 some x355
               else
                none
          else
           if decide (v4 = 1) then
            if decide (v4 = 0) then
             (impl_blend r3_4 r3_9 r3_2 r3_1 v0).bind fun x356 =>
              some x356
            else
             if decide (v4 = 1) then
              (impl_blend r3_4 r3_9 r3_2 r3_3 v0).bind fun x357 =>
               some x357
             else
              if decide (v4 = 2) then
               (impl_blend r3_4 r3_9 r3_2 r3_5 v0).bind fun x358 =>
                some x358
              else
               if decide (v4 = 3) then
                (impl_blend r3_4 r3_9 r3_2 r3_7 v0).bind fun x359 =>
                 some x359
               else
                if decide (v4 = 4) then
                 (impl_blend r3_4 r3_9 r3_2 r3_9 v0).bind fun x360 =>
                  some x360
                else
                 none
           else
            if decide (v4 = 2) then
             if decide (v4 = 0) then
              (impl_blend r3_4 r3_9 r3_4 r3_1 v0).bind fun x361 =>
               some x361
             else
              if decide (v4 = 1) then
               (impl_blend r3_4 r3_9 r3_4 r3_3 v0).bind fun x362 =>
                some x362
              else
               if decide (v4 = 2) then
                (impl_blend r3_4 r3_9 r3_4 r3_5 v0).bind fun x363 =>
                 some x363
               else
                if decide (v4 = 3) then
                 (impl_blend r3_4 r3_9 r3_4 r3_7 v0).bind fun x364 =>
                  some x364
                else
                 if decide (v4 = 4) then
                  (impl_blend r3_4 r3_9 r3_4 r3_9 v0).bind fun x365 =>
                   some x365
                 else
                  none
            else
             if decide (v4 = 3) then
              if decide (v4 = 0) then
               (impl_blend r3_4 r3_9 r3_6 r3_1 v0).bind fun x366 =>
                some x366
              else
               if decide (v4 = 1) then
                (impl_blend r3_4 r3_9 r3_6 r3_3 v0).bind fun x367 =>
                 some x367
               else
                if decide (v4 = 2) then
                 (impl_blend r3_4 r3_9 r3_6 r3_5 v0).bind fun x368 =>
                  some x368
                else
                 if decide (v4 = 3) then
                  (impl_blend r3_4 r3_9 r3_6 r3_7 v0).bind fun x369 =>
                   some x369
                 else
                  if decide (v4 = 4) then
                   (impl_blend r3_4 r3_9 r3_6 r3_9 v0).bind fun x370 =>
                    some x370
                  else
                   none
             else
              if decide (v4 = 4) then
               if decide (v4 = 0) then
                (impl_blend r3_4 r3_9 r3_8 r3_1 v0).bind fun x371 =>
                 some x371
               else
                if decide (v4 = 1) then
                 (impl_blend r3_4 r3_9 r3_8 r3_3 v0).bind fun x372 =>
                  some x372
                else
                 if decide (v4 = 2) then
                  (impl_blend r3_4 r3_9 r3_8 r3_5 v0).bind fun x373 =>
                   some x373
                 else
                  if decide (v4 = 3) then
                   (impl_blend r3_4 r3_9 r3_8 r3_7 v0).bind fun x374 =>
                    some x374
                  else
                   if decide (v4 = 4) then
                    (impl_blend r3_4 r3_9 r3_8 r3_9 v0).bind fun x375 =>
                     some x375
                   else
                    none
              else
               none
         else
          none
    else
     if decide (IntKind.i64.wrap (v4 - 1) = 3) then
      if decide (IntKind.i64.wrap (v4 - 1) = 0) then
       if decide (v4 = 0) then
        if decide (v4 = 0) then
         (impl_blend r3_6 r3_1 r3_0 r3_1 v0).bind fun x376 =>
          some x376
        else
         if decide (v4 = 1) then
          (impl_blend r3_6 r3_1 r3_0 r3_3 v0).bind fun x377 =>
           some x377
         else
          if decide (v4 = 2) then
           (impl_blend r3_6 r3_1 r3_0 r3_5 v0).bind fun x378 =>
            some x378
          else
           if decide (v4 = 3) then
            (impl_blend r3_6 r3_1 r3_0 r3_7 v0).bind fun x379 =>
             some x379
           else
            if decide (v4 = 4) then
             (impl_blend r3_6 r3_1 r3_0 r3_9 v0).bind fun x380 =>
              some x380
            else
             none
       else
        if decide (v4 = 1) then
         if decide (v4 = 0) then
          (impl_blend r3_6 r3_1 r3_2 r3_1 v0).bind fun x381 =>
           some x381
         else
          if decide (v4 = 1) then
           (impl_blend r3_6 r3_1 r3_2 r3_3 v0).bind fun x382 =>
            some x382
          else
           if decide (v4 = 2) then
            (impl_blend r3_6 r3_1 r3_2 r3_5 v0).bind fun x383 =>
             some x383
           else
            if decide (v4 = 3) then
             (impl_blend r3_6 r3_1 r3_2 r3_7 v0).bind fun x384 =>
              some x384
            else
             if decide (v4 = 4) then
              (impl_blend r3_6 r3_1 r3_2 r3_9 v0).bind fun x385 =>
               some x385
             else
              none
        else
         if decide (v4 = 2) then
          if decide (v4 = 0) then
           (impl_blend r3_6 r3_1 r3_4 r3_1 v0).bind fun x386 =>
            some x386
          else
           if decide (v4 = 1) then
            (impl_blend r3_6 r3_1 r3_4 r3_3 v0).bind fun x387 =>
             some x387
           else
            if decide (v4 = 2) then
             (impl_blend r3_6 r3_1 r3_4 r3_5 v0).bind fun x388 =>
              some x388
            else
             if decide (v4 = 3) then
              (impl_blend r3_6 r3_1 r3_4 r3_7 v0).bind fun x389 =>
               some x389
             else
              if decide (v4 = 4) then
               (impl_blend r3_6 r3_1 r3_4 r3_9 v0).bind fun x390 =>
                some x390
              else
               none
         else
          if decide (v4 = 3) then
           if decide (v4 = 0) then
            (impl_blend r3_6 r3_1 r3_6 r3_1 v0).bind fun x391 =>
             some x391
           else
            if decide (v4 = 1) then
             (impl_blend r3_6 r3_1 r3_6 r3_3 v0).bind fun x392 =>
              some x392
            else
             if decide (v4 = 2) then
              (impl_blend r3_6 r3_1 r3_6 r3_5 v0).bind fun x393 =>
               some x393
             else
              if decide (v4 = 3) then
               (impl_blend r3_6 r3_1 r3_6 r3_7 v0).bind fun x394 =>
                some x394
              else
               if decide (v4 = 4) then
                (impl_blend r3_6 r3_1 r3_6 r3_9 v0).bind fun x395 =>
                 some x395
               else
                none
          else
           if decide (v4 = 4) then
            if decide (v4 = 0) then
             (impl_blend r3_6 r3_1 r3_8 r3_1 v0).bind fun x396 =>
              some x396
            else
             if decide (v4 = 1) then
              (impl_blend r3_6 r3_1 r3_8 r3_3 v0).bind fun x397 =>
               some x397
             else
              if decide (v4 = 2) then
               (impl_blend r3_6 r3_1 r3_8 r3_5 v0).bind fun x398 =>
                some x398
              else
               if decide (v4 = 3) then
                (impl_blend r3_6 r3_1 r3_8 r3_7 v0).bind fun x399 =>
                 some x399
               else
                if decide (v4 = 4) then
                 (impl_blend r3_6 r3_1 r3_8 r3_9 v0).bind fun x400 =>
                  some x400
                else
                 none
           else
            none
      else
       if decide (IntKind.i64.wrap (v4 - 1) = 1) then
        if decide (v4 = 0) then
         if decide (v4 = 0) then
          (impl_blend r3_6 r3_3 r3_0 r3_1 v0).bind fun x401 =>
           some x401
         else
          if decide (v4 = 1) then
           (impl_blend r3_6 r3_3 r3_0 r3_3 v0).bind fun x402 =>
            some x402
          else
           if decide (v4 = 2) then
            (impl_blend r3_6 r3_3 r3_0 r3_5 v0).bind fun x403 =>
             some x403
           else
            if decide (v4 = 3) then
             (impl_blend r3_6 r3_3 r3_0 r3_7 v0).bind fun x404 =>
              some x404
            else
             if decide (v4 = 4) then
              (impl_blend r3_6 r3_3 r3_0 r3_9 v0).bind fun x405 =>
               some x405
             else
              none
        else
         if decide (v4 = 1) then
          if decide (v4 = 0) then
           (impl_blend r3_6 r3_3 r3_2 r3_1 v0).bind fun x406 =>
            some x406
          else
           if decide (v4 = 1) then
            (impl_blend r3_6 r3_3 r3_2 r3_3 v0).bind fun x407 =>
             some x407
           else
            if decide (v4 = 2) then
             (impl_blend r3_6 r3_3 r3_2 r3_5 v0).bind fun x408 =>
              some x408
            else
             if decide (v4 = 3) then
              (impl_blend r3_6 r3_3 r3_2 r3_7 v0).bind fun x409 =>
               some x409
             else
              if decide (v4 = 4) then
               (impl_blend r3_6 r3_3 r3_2 r3_9 v0).bind fun x410 =>
                some x410
              else
               none
         else
          if decide (v4 = 2) then
           if decide (v4 = 0) then
            (impl_blend r3_6 r3_3 r3_4 r3_1 v0).bind fun x411 =>
             some x411
           else
            if decide (v4 = 1) then
             (impl_blend r3_6 r3_3 r3_4 r3_3 v0).bind fun x412 =>
              some x412
            else
             if decide (v4 = 2) then
              (impl_blend r3_6 r3_3 r3_4 r3_5 v0).bind fun x413 =>
               some x413
             else
              if decide (v4 = 3) then
               (impl_blend r3_6 r3_3 r3_4 r3_7 v0).bind fun x414 =>
                some x414
              else
               if decide (v4 = 4) then
                (impl_blend r3_6 r3_3 r3_4 r3_9 v0).bind fun x415 =>
                 some x415
               else
                none
          else
           if decide (v4 = 3) then
            if decide (v4 = 0) then
             (impl_blend r3_6 r3_3 r3_6 r3_1 v0).bind fun x416 =>
              some x416
            else
             if decide (v4 = 1) then
              (impl_blend r3_6 r3_3 r3_6 r3_3 v0).bind fun x417 =>
               some x417
             else
              if decide (v4 = 2) then
               (impl_blend r3_6 r3_3 r3_6 r3_5 v0).bind fun x418 =>
                some x418
              else
               if decide (v4 = 3) then
                (impl_blend r3_6 r3_3 r3_6 r3_7 v0).bind fun x419 =>
                 some x419
               else
                if decide (v4 = 4) then
                 (impl_blend r3_6 r3_3 r3_6 r3_9 v0).bind fun x420 =>
                  some x420
                else
                 none
           else
            if decide (v4 = 4) then
             if decide (v4 = 0) then
              (impl_blend r3_6 r3_3 r3_8 r3_1 v0).bind fun x421 =>
               some x421
             else
              if decide (v4 = 1) then
               (impl_blend r3_6 r3_3 r3_8 r3_3 v0).bind fun x422 =>
                some x422
              else
               if decide (v4 = 2) then
                (impl_blend r3_6 r3_3 r3_8 r3_5 v0).bind fun x423 =>
                 some x423
               else
                if decide (v4 = 3) then
                 (impl_blend r3_6 r3_3 r3_8 r3_7 v0).bind fun x424 =>
                  some x424
                else
                 if decide (v4 = 4) then
                  (impl_blend r3_6 r3_3 r3_8 r3_9 v0).bind fun x425 =>
                   some x425
                 else
                  none
            else
             none
       else
        if decide (IntKind.i64.wrap (v4 - 1) = 2) then
         if decide (v4 = 0) then
          if decide (v4 = 0) then
           (impl_blend r3_6 r3_5 r3_0 r3_1 v0).bind fun x426 =>
            some x426
          else
           if decide (v4 = 1) then
            (impl_blend r3_6 r3_5 r3_0 r3_3 v0).bind fun x427 =>
             some x427
           else
            if decide (v4 = 2) then
             (impl_blend r3_6 r3_5 r3_0 r3_5 v0).bind fun x428 =>
              some x428
            else
             if decide (v4 = 3) then
              (impl_blend r3_6 r3_5 r3_0 r3_7 v0).bind fun x429 =>
               some x429
             else
              if decide (v4 = 4) then
               (impl_blend r3_6 r3_5 r3_0 r3_9 v0).bind fun x430 =>
                some x430
              else
               none
         else
          if decide (v4 = 1) then
           if decide (v4 = 0) then
            (impl_blend r3_6 r3_5 r3_2 r3_1 v0).bind fun x431 =>
             some x431
           else
            if decide (v4 = 1) then
             (impl_blend r3_6 r3_5 r3_2 r3_3 v0).bind fun x432 =>
              some x432
            else
             if decide (v4 = 2) then
              (impl_blend r3_6 r3_5 r3_2 r3_5 v0).bind fun x433 =>
               some x433
             else
              if decide (v4 = 3) then
               (impl_blend r3_6 r3_5 r3_2 r3_7 v0).bind fun x434 =>
                some x434
              else
               if decide (v4 = 4) then
                (impl_blend r3_6 r3_5 r3_2 r3_9 v0).bind fun x435 =>
                 some x435
               else
                none
          else
           if decide (v4 = 2) then
            if decide (v4 = 0) then
             (impl_blend r3_6 r3_5 r3_4 r3_1 v0).bind fun x436 =>
              some x436
            else
             if decide (v4 = 1) then
              (impl_blend r3_6 r3_5 r3_4 r3_3 v0).bind fun x437 =>
               some x437
             else
              if decide (v4 = 2) then
               (impl_blend r3_6 r3_5 r3_4 r3_5 v0).bind fun x438 =>
                some x438
              else
               if decide (v4 = 3) then
                (impl_blend r3_6 r3_5 r3_4 r3_7 v0).bind fun x439 =>
                 some x439
               else
                if decide (v4 = 4) then
                 (impl_blend r3_6 r3_5 r3_4 r3_9 v0).bind fun x440 =>
                  some x440
                else
                 none
           else
            if decide (v4 = 3) then
             if decide (v4 = 0) then
              (impl_blend r3_6 r3_5 r3_6 r3_1 v0).bind fun x441 =>
               some x441
             else
              if decide (v4 = 1) then
               (impl_blend r3_6 r3_5 r3_6 r3_3 v0).bind fun x442 =>
                some x442
              else
               if decide (v4 = 2) then
                (impl_blend r3_6 r3_5 r3_6 r3_5 v0).bind fun x443 =>
                 some x443
               else
                if decide (v4 = 3) then
                 (impl_blend r3_6 r3_5 r3_6 r3_7 v0).bind fun x444 =>
                  some x444
                else
                 if decide (v4 = 4) then
                  (impl_blend r3_6 r3_5 r3_6 r3_9 v0).bind fun x445 =>
                   some x445
                 else
                  none
            else
             if decide (v4 = 4) then
              if decide (v4 = 0) then
               (impl_blend r3_6 r3_5 r3_8 r3_1 v0).bind fun x446 =>
                some x446
              else
               if decide (v4 = 1) then
                (impl_blend r3_6 r3_5 r3_8 r3_3 v0).bind fun x447 =>
                 some x447
               else
                if decide (v4 = 2) then
                 (impl_blend r3_6 r3_5 r3_8 r3_5 v0).bind fun x448 =>
                  some x448
                else
                 if decide (v4 = 3) then
                  (impl_blend r3_6 r3_5 r3_8 r3_7 v0).bind fun x449 =>
                   some x449
                 else
                  if decide (v4 = 4) then
                   (impl_blend r3_6 r3_5 r3_8 r3_9 v0).bind fun x450 =>
                    some x450
                  else
                   none
             else
              none
        else
         if decide (IntKind.i64.wrap (v4 - 1) = 3) then
          if decide (v4 = 0) then
           if decide (v4 = 0) then
            (impl_blend r3_6 r3_7 r3_0 r3_1 v0).bind fun x451 =>
             some x451
           else
            if decide (v4 = 1) then
             (impl_blend r3_6 r3_7 r3_0 r3_3 v0).bind fun x452 =>
              some x452
            else
             if decide (v4 = 2) then
              (impl_blend r3_6 r3_7 r3_0 r3_5 v0).bind fun x453 =>
               some x453
             else
              if decide (v4 = 3) then
               (impl_blend r3_6 r3_7 r3_0 r3_7 v0).bind fun x454 =>
                some x454
              else
               if decide (v4 = 4) then
                (impl_blend r3_6 r3_7 r3_0 r3_9 v0).bind fun x455 =>
                 some x455
               else
                none
          else
           if decide (v4 = 1) then
            if decide (v4 = 0) then
             (impl_blend r3_6 r3_7 r3_2 r3_1 v0).bind fun x456 =>
              some x456
            else
             if decide (v4 = 1) then
              (impl_blend r3_6 r3_7 r3_2 r3_3 v0).bind fun x457 =>
               some x457
             else
              if decide (v4 = 2) then
               (impl_blend r3_6 r3_7 r3_2 r3_5 v0).bind fun x458 =>
                some x458
              else
               if decide (v4 = 3) then
                (impl_blend r3_6 r3_7 r3_2 r3_7 v0).bind fun x459 =>
                 some x459
               else
                if decide (v4 = 4) then
                 (impl_blend r3_6 r3_7 r3_2 r3_9 v0).bind fun x460 =>
                  some x460
                else
                 none
           else
            if decide (v4 = 2) then
             if decide (v4 = 0) then
              (impl_blend r3_6 r3_7 r3_4 r3_1 v0).bind fun x461 =>
               some x461
             else
              if decide (v4 = 1) then
               (impl_blend r3_6 r3_7 r3_4 r3_3 v0).bind fun x462 =>
                some x462
              else
               if decide (v4 = 2) then
                (impl_blend r3_6 r3_7 r3_4 r3_5 v0).bind fun x463 =>
                 some x463
               else
                if decide (v4 = 3) then
                 (impl_blend r3_6 r3_7 r3_4 r3_7 v0).bind fun x464 =>
                  some x464
                else
                 if decide (v4 = 4) then
                  (impl_blend r3_6 r3_7 r3_4 r3_9 v0).bind fun x465 =>
                   some x465
                 else
                  none
            else
             if decide (v4 = 3) then
              if decide (v4 = 0) then
               (impl_blend r3_6 r3_7 r3_6 r3_1 v0).bind fun x466 =>
                some x466
              else
               if decide (v4 = 1) then
                (impl_blend r3_6 r3_7 r3_6 r3_3 v0).bind fun x467 =>
                 some x467
               else
                if decide (v4 = 2) then
                 (impl_blend r3_6 r3_7 r3_6 r3_5 v0).bind fun x468 =>
                  some x468
                else
                 if decide (v4 = 3) then
                  (impl_blend r3_6 r3_7 r3_6 r3_7 v0).bind fun x469 =>
                   some x469
                 else
                  if decide (v4 = 4) then
                   (impl_blend r3_6 r3_7 r3_6 r3_9 v0).bind fun x470 =>
                    some x470
                  else
                   none
             else
              if decide (v4 = 4) then
               if decide (v4 = 0) then
                (impl_blend r3_6 r3_7 r3_8 r3_1 v0).bind fun x471 =>
                 some x471
               else
                if decide (v4 = 1) then
                 (impl_blend r3_6 r3_7 r3_8 r3_3 v0).bind fun x472 =>
                  some x472
                else
                 if decide (v4 = 2) then
                  (impl_blend r3_6 r3_7 r3_8 r3_5 v0).bind fun x473 =>
                   some x473
                 else
                  if decide (v4 = 3) then
                   (impl_blend r3_6 r3_7 r3_8 r3_7 v0).bind fun x474 =>
                    some x474
                  else
                   if decide (v4 = 4) then
                    (impl_blend r3_6 r3_7 r3_8 r3_9 v0).bind fun x475 =>
                     some x475
                   else
                    none
              else
               none
         else
          if decide (IntKind.i64.wrap (v4 - 1) = 4) then
           if decide (v4 = 0) then
            if decide (v4 = 0) then
             (impl_blend r3_6 r3_9 r3_0 r3_1 v0).bind fun x476 =>
              some x476
            else
             if decide (v4 = 1) then
              (impl_blend r3_6 r3_9 r3_0 r3_3 v0).bind fun x477 =>
               some x477
             else
              if decide (v4 = 2) then
               (impl_blend r3_6 r3_9 r3_0 r3_5 v0).bind fun x478 =>
                some x478
              else
               if decide (v4 = 3) then
                (impl_blend r3_6 r3_9 r3_0 r3_7 v0).bind fun x479 =>
                 some x479
               else
                if decide (v4 = 4) then
                 (impl_blend r3_6 r3_9 r3_0 r3_9 v0).bind fun x480 =>
                  some x480
                else
                 none
           else
            if decide (v4 = 1) then
             if decide (v4 = 0) then
              (impl_blend r3_6 r3_9 r3_2 r3_1 v0).bind fun x481 =>
               some x481
             else
              if decide (v4 = 1) then
               (impl_blend r3_6 r3_9 r3_2 r3_3 v0).bind fun x482 =>
                some x482
              else
               if decide (v4 = 2) then
                (impl_blend r3_6 r3_9 r3_2 r3_5 v0).bind fun x483 =>
                 some x483
               else
                if decide (v4 = 3) then
                 (impl_blend r3_6 r3_9 r3_2 r3_7 v0).bind fun x484 =>
                  some x484
                else
                 if decide (v4 = 4) then
                  (impl_blend r3_6 r3_9 r3_2 r3_9 v0).bind fun x485 =>
                   some x485
                 else
                  none
            else
             if decide (v4 = 2) then
              if decide (v4 = 0) then
               (impl_blend r3_6 r3_9 r3_4 r3_1 v0).bind fun x486 =>
                some x486
              else
               if decide (v4 = 1) then
                (impl_blend r3_6 r3_9 r3_4 r3_3 v0).bind fun x487 =>
                 some x487
               else
                if decide (v4 = 2) then
                 (impl_blend r3_6 r3_9 r3_4 r3_5 v0).bind fun x488 =>
                  some x488
                else
                 if decide (v4 = 3) then
                  (impl_blend r3_6 r3_9 r3_4 r3_7 v0).bind fun x489 =>
                   some x489
                 else
                  if decide (v4 = 4) then
                   (impl_blend r3_6 r3_9 r3_4 r3_9 v0).bind fun x490 =>
                    some x490
                  else
                   none
             else
              if decide (v4 = 3) then
               if decide (v4 = 0) then
                (impl_blend r3_6 r3_9 r3_6 r3_1 v0).bind fun x491 =>
                 some x491
               else
                if decide (v4 = 1) then
                 (impl_blend r3_6 r3_9 r3_6 r3_3 v0).bind fun x492 =>
                  some x492
                else
                 if decide (v4 = 2) then
                  (impl_blend r3_6 r3_9 r3_6 r3_5 v0).bind fun x493 =>
                   some x493
                 else
                  if decide (v4 = 3) then
                   (impl_blend r3_6 r3_9 r3_6 r3_7 v0).bind fun x494 =>
                    some x494
                  else
                   if decide (v4 = 4) then
                    (impl_blend r3_6 r3_9 r3_6 r3_9 v0).bind fun x495 =>
                     some x495
                   else
                    none
              else
               if decide (v4 = 4) then
                if decide (v4 = 0) then
                 (impl_blend r3_6 r3_9 r3_8 r3_1 v0).bind fun x496 =>
                  some x496
                else
                 if decide (v4 = 1) then
                  (impl_blend r3_6 r3_9 r3_8 r3_3 v0).bind fun x497 =>
                   some x497
                 else
                  if decide (v4 = 2) then
                   (impl_blend r3_6 r3_9 r3_8 r3_5 v0).bind fun x498 =>
                    some x498
                  else
                   if decide (v4 = 3) then
                    (impl_blend r3_6 r3_9 r3_8 r3_7 v0).bind fun x499 =>
                     some x499
                   else
                    if decide (v4 = 4) then
                     (impl_blend r3_6 r3_9 r3_8 r3_9 v0).bind fun x500 =>
                      some x500
                    else
                     none
               else
                none
          else
           none
     else
      if decide (IntKind.i64.wrap (v4 - 1) = 4) then
       if decide (IntKind.i64.wrap (v4 - 1) = 0) then
        if decide (v4 = 0) then
         if decide (v4 = 0) then
          (impl_blend r3_8 r3_1 r3_0 r3_1 v0).bind fun x501 =>
           some x501
         else
          if decide (v4 = 1) then
           (impl_blend r3_8 r3_1 r3_0 r3_3 v0).bind fun x502 =>
            some x502
          else
           if decide (v4 = 2) then
            (impl_blend r3_8 r3_1 r3_0 r3_5 v0).bind fun x503 =>
             some x503
           else
            if decide (v4 = 3) then
             (impl_blend r3_8 r3_1 r3_0 r3_7 v0).bind fun x504 =>
              some x504
            else
             if decide (v4 = 4) then
              (impl_blend r3_8 r3_1 r3_0 r3_9 v0).bind fun x505 =>
               some x505
             else
              none
        else
         if decide (v4 = 1) then
          if decide (v4 = 0) then
           (impl_blend r3_8 r3_1 r3_2 r3_1 v0).bind fun x506 =>
            some x506
          else
           if decide (v4 = 1) then
            (impl_blend r3_8 r3_1 r3_2 r3_3 v0).bind fun x507 =>
             some x507
           else
            if decide (v4 = 2) then
             (impl_blend r3_8 r3_1 r3_2 r3_5 v0).bind fun x508 =>
              some x508
            else
             if decide (v4 = 3) then
              (impl_blend r3_8 r3_1 r3_2 r3_7 v0).bind fun x509 =>
               some x509
             else
              if decide (v4 = 4) then
               (impl_blend r3_8 r3_1 r3_2 r3_9 v0).bind fun x510 =>
                some x510
              else
               none
         else
          if decide (v4 = 2) then
           if decide (v4 = 0) then
            (impl_blend r3_8 r3_1 r3_4 r3_1 v0).bind fun x511 =>
             some x511
           else
            if decide (v4 = 1) then
             (impl_blend r3_8 r3_1 r3_4 r3_3 v0).bind fun x512 =>
              some x512
            else
             if decide (v4 = 2) then
              (impl_blend r3_8 r3_1 r3_4 r3_5 v0).bind fun x513 =>
               some x513
             else
              if decide (v4 = 3) then
               (impl_blend r3_8 r3_1 r3_4 r3_7 v0).bind fun x514 =>
                some x514
              else
               if decide (v4 = 4) then
                (impl_blend r3_8 r3_1 r3_4 r3_9 v0).bind fun x515 =>
                 some x515
               else
                none
          else
           if decide (v4 = 3) then
            if decide (v4 = 0) then
             (impl_blend r3_8 r3_1 r3_6 r3_1 v0).bind fun x516 =>
              some x516
            else
             if decide (v4 = 1) then
              (impl_blend r3_8 r3_1 r3_6 r3_3 v0).bind fun x517 =>
               some x517
             else
              if decide (v4 = 2) then
               (impl_blend r3_8 r3_1 r3_6 r3_5 v0).bind fun x518 =>
                some x518
              else
               if decide (v4 = 3) then
                (impl_blend r3_8 r3_1 r3_6 r3_7 v0).bind fun x519 =>
                 some x519
               else
                if decide (v4 = 4) then
                 (impl_blend r3_8 r3_1 r3_6 r3_9 v0).bind fun x520 =>
                  some x520
                else
                 none
           else
            if decide (v4 = 4) then
             if decide (v4 = 0) then
              (impl_blend r3_8 r3_1 r3_8 r3_1 v0).bind fun x521 =>
               some x521
             else
              if decide (v4 = 1) then
               (impl_blend r3_8 r3_1 r3_8 r3_3 v0).bind fun x522 =>
                some x522
              else
               if decide (v4 = 2) then
                (impl_blend r3_8 r3_1 r3_8 r3_5 v0).bind fun x523 =>
                 some x523
               else
                if decide (v4 = 3) then
                 (impl_blend r3_8 r3_1 r3_8 r3_7 v0).bind fun x524 =>
                  some x524
                else
                 if decide (v4 = 4) then
                  (impl_blend r3_8 r3_1 r3_8 r3_9 v0).bind fun x525 =>
                   some x525
                 else
                  none
            else
             none
       else
        if decide (IntKind.i64.wrap (v4 - 1) = 1) then
         if decide (v4 = 0) then
          if decide (v4 = 0) then
           (impl_blend r3_8 r3_3 r3_0 r3_1 v0).bind fun x526 =>
            some x526
          else
           if decide (v4 = 1) then
            (impl_blend r3_8 r3_3 r3_0 r3_3 v0).bind fun x527 =>
             some x527
           else
            if decide (v4 = 2) then
             (impl_blend r3_8 r3_3 r3_0 r3_5 v0).bind fun x528 =>
              some x528
            else
             if decide (v4 = 3) then
              (impl_blend r3_8 r3_3 r3_0 r3_7 v0).bind fun x529 =>
               some x529
             else
              if decide (v4 = 4) then
               (impl_blend r3_8 r3_3 r3_0 r3_9 v0).bind fun x530 =>
                some x530
              else
               none
         else
          if decide (v4 = 1) then
           if decide (v4 = 0) then
            (impl_blend r3_8 r3_3 r3_2 r3_1 v0).bind fun x531 =>
             some x531
           else
            if decide (v4 = 1) then
             (impl_blend r3_8 r3_3 r3_2 r3_3 v0).bind fun x532 =>
              some x532
            else
             if decide (v4 = 2) then
              (impl_blend r3_8 r3_3 r3_2 r3_5 v0).bind fun x533 =>
               some x533
             else
              if decide (v4 = 3) then
               (impl_blend r3_8 r3_3 r3_2 r3_7 v0).bind fun x534 =>
                some x534
              else
               if decide (v4 = 4) then
                (impl_blend r3_8 r3_3 r3_2 r3_9 v0).bind fun x535 =>
                 some x535
               else
                none
          else
           if decide (v4 = 2) then
            if decide (v4 = 0) then
             (impl_blend r3_8 r3_3 r3_4 r3_1 v0).bind fun x536 =>
              some x536
            else
             if decide (v4 = 1) then
              (impl_blend r3_8 r3_3 r3_4 r3_3 v0).bind fun x537 =>
               some x537
             else
              if decide (v4 = 2) then
               (impl_blend r3_8 r3_3 r3_4 r3_5 v0).bind fun x538 =>
                some x538
              else
               if decide (v4 = 3) then
                (impl_blend r3_8 r3_3 r3_4 r3_7 v0).bind fun x539 =>
                 some x539
               else
                if decide (v4 = 4) then
                 (impl_blend r3_8 r3_3 r3_4 r3_9 v0).bind fun x540 =>
                  some x540
                else
                 none
           else
            if decide (v4 = 3) then
             if decide (v4 = 0) then
              (impl_blend r3_8 r3_3 r3_6 r3_1 v0).bind fun x541 =>
               some x541
             else
              if decide (v4 = 1) then
               (impl_blend r3_8 r3_3 r3_6 r3_3 v0).bind fun x542 =>
                some x542
              else
               if decide (v4 = 2) then
                (impl_blend r3_8 r3_3 r3_6 r3_5 v0).bind fun x543 =>
                 some x543
               else
                if decide (v4 = 3) then
                 (impl_blend r3_8 r3_3 r3_6 r3_7 v0).bind fun x544 =>
                  some x544
                else
                 if decide (v4 = 4) then
                  (impl_blend r3_8 r3_3 r3_6 r3_9 v0).bind fun x545 =>
                   some x545
                 else
                  none
            else
             if decide (v4 = 4) then
              if decide (v4 = 0) then
               (impl_blend r3_8 r3_3 r3_8 r3_1 v0).bind fun x546 =>
                some x546
              else
               if decide (v4 = 1) then
                (impl_blend r3_8 r3_3 r3_8 r3_3 v0).bind fun x547 =>
                 some x547
               else
                if decide (v4 = 2) then
                 (impl_blend r3_8 r3_3 r3_8 r3_5 v0).bind fun x548 =>
                  some x548
                else
                 if decide (v4 = 3) then
                  (impl_blend r3_8 r3_3 r3_8 r3_7 v0).bind fun x549 =>
                   some x549
                 else
                  if decide (v4 = 4) then
                   (impl_blend r3_8 r3_3 r3_8 r3_9 v0).bind fun x550 =>
                    some x550
                  else
                   none
             else
              none
        else
         if decide (IntKind.i64.wrap (v4 - 1) = 2) then
          if decide (v4 = 0) then
           if decide (v4 = 0) then
            (impl_blend r3_8 r3_5 r3_0 r3_1 v0).bind fun x551 =>
             some x551
           else
            if decide (v4 = 1) then
             (impl_blend r3_8 r3_5 r3_0 r3_3 v0).bind fun x552 =>
              some x552
            else
             if decide (v4 = 2) then
              (impl_blend r3_8 r3_5 r3_0 r3_5 v0).bind fun x553 =>
               some x553
             else
              if decide (v4 = 3) then
               (impl_blend r3_8 r3_5 r3_0 r3_7 v0).bind fun x554 =>
                some x554
              else
               if decide (v4 = 4) then
                (impl_blend r3_8 r3_5 r3_0 r3_9 v0).bind fun x555 =>
                 some x555
               else
                none
          else
           if decide (v4 = 1) then
            if decide (v4 = 0) then
             (impl_blend r3_8 r3_5 r3_2 r3_1 v0).bind fun x556 =>
              some x556
            else
             if decide (v4 = 1) then
              (impl_blend r3_8 r3_5 r3_2 r3_3 v0).bind fun x557 =>
               some x557
             else
              if decide (v4 = 2) then
               (impl_blend r3_8 r3_5 r3_2 r3_5 v0).bind fun x558 =>
                some x558
              else
               if decide (v4 = 3) then
                (impl_blend r3_8 r3_5 r3_2 r3_7 v0).bind fun x559 =>
                 some x559
               else
                if decide (v4 = 4) then
                 (impl_blend r3_8 r3_5 r3_2 r3_9 v0).bind fun x560 =>
                  some x560
                else
                 none
           else
            if decide (v4 = 2) then
             if decide (v4 = 0) then
              (impl_blend r3_8 r3_5 r3_4 r3_1 v0).bind fun x561 =>
               some x561
             else
              if decide (v4 = 1) then
               (impl_blend r3_8 r3_5 r3_4 r3_3 v0).bind fun x562 =>
                some x562
              else
               if decide (v4 = 2) then
                (impl_blend r3_8 r3_5 r3_4 r3_5 v0).bind fun x563 =>
                 some x563
               else
                if decide (v4 = 3) then
                 (impl_blend r3_8 r3_5 r3_4 r3_7 v0).bind fun x564 =>
                  some x564
                else
                 if decide (v4 = 4) then
                  (impl_blend r3_8 r3_5 r3_4 r3_9 v0).bind fun x565 =>
                   some x565
                 else
                  none
            else
             if decide (v4 = 3) then
              if decide (v4 = 0) then
               (impl_blend r3_8 r3_5 r3_6 r3_1 v0).bind fun x566 =>
                some x566
              else
               if decide (v4 = 1) then
                (impl_blend r3_8 r3_5 r3_6 r3_3 v0).bind fun x567 =>
                 some x567
               else
                if decide (v4 = 2) then
                 (impl_blend r3_8 r3_5 r3_6 r3_5 v0).bind fun x568 =>
                  some x568
                else
                 if decide (v4 = 3) then
                  (impl_blend r3_8 r3_5 r3_6 r3_7 v0).bind fun x569 =>
                   some x569
                 else
                  if decide (v4 = 4) then
                   (impl_blend r3_8 r3_5 r3_6 r3_9 v0).bind fun x570 =>
                    some x570
                  else
                   none
             else
              if decide (v4 = 4) then
               if decide (v4 = 0) then
                (impl_blend r3_8 r3_5 r3_8 r3_1 v0).bind fun x571 =>
                 some x571
               else
                if decide (v4 = 1) then
                 (impl_blend r3_8 r3_5 r3_8 r3_3 v0).bind fun x572 =>
                  some x572
                else
                 if decide (v4 = 2) then
                  (impl_blend r3_8 r3_5 r3_8 r3_5 v0).bind fun x573 =>
                   some x573
                 else
                  if decide (v4 = 3) then
                   (impl_blend r3_8 r3_5 r3_8 r3_7 v0).bind fun x574 =>
                    some x574
                  else
                   if decide (v4 = 4) then
                    (impl_blend r3_8 r3_5 r3_8 r3_9 v0).bind fun x575 =>
                     some x575
                   else
                    none
              else
               none
         else
          if decide (IntKind.i64.wrap (v4 - 1) = 3) then
           if decide (v4 = 0) then
            if decide (v4 = 0) then
             (impl_blend r3_8 r3_7 r3_0 r3_1 v0).bind fun x576 =>
              some x576
            else
             if decide (v4 = 1) then
              (impl_blend r3_8 r3_7 r3_0 r3_3 v0).bind fun x577 =>
               some x577
             else
              if decide (v4 = 2) then
               (impl_blend r3_8 r3_7 r3_0 r3_5 v0).bind fun x578 =>
                some x578
              else
               if decide (v4 = 3) then
                (impl_blend r3_8 r3_7 r3_0 r3_7 v0).bind fun x579 =>
                 some x579
               else
                if decide (v4 = 4) then
                 (impl_blend r3_8 r3_7 r3_0 r3_9 v0).bind fun x580 =>
                  some x580
                else
                 none
           else
            if decide (v4 = 1) then
             if decide (v4 = 0) then
              (impl_blend r3_8 r3_7 r3_2 r3_1 v0).bind fun x581 =>
               some x581
             else
              if decide (v4 = 1) then
               (impl_blend r3_8 r3_7 r3_2 r3_3 v0).bind fun x582 =>
                some x582
              else
               if decide (v4 = 2) then
                (impl_blend r3_8 r3_7 r3_2 r3_5 v0).bind fun x583 =>
                 some x583
               else
                if decide (v4 = 3) then
                 (impl_blend r3_8 r3_7 r3_2 r3_7 v0).bind fun x584 =>
                  some x584
                else
                 if decide (v4 = 4) then
                  (impl_blend r3_8 r3_7 r3_2 r3_9 v0).bind fun x585 =>
                   some x585
                 else
                  none
            else
             if decide (v4 = 2) then
              if decide (v4 = 0) then
               (impl_blend r3_8 r3_7 r3_4 r3_1 v0).bind fun x586 =>
                some x586
              else
               if decide (v4 = 1) then
                (impl_blend r3_8 r3_7 r3_4 r3_3 v0).bind fun x587 =>
                 some x587
               else
                if decide (v4 = 2) then
                 (impl_blend r3_8 r3_7 r3_4 r3_5 v0).bind fun x588 =>
                  some x588
                else
                 if decide (v4 = 3) then
                  (impl_blend r3_8 r3_7 r3_4 r3_7 v0).bind fun x589 =>
                   some x589
                 else
                  if decide (v4 = 4) then
                   (impl_blend r3_8 r3_7 r3_4 r3_9 v0).bind fun x590 =>
                    some x590
                  else
                   none
             else
              if decide (v4 = 3) then
               if decide (v4 = 0) then
                (impl_blend r3_8 r3_7 r3_6 r3_1 v0).bind fun x591 =>
                 some x591
               else
                if decide (v4 = 1) then
                 (impl_blend r3_8 r3_7 r3_6 r3_3 v0).bind fun x592 =>
                  some x592
                else
                 if decide (v4 = 2) then
                  (impl_blend r3_8 r3_7 r3_6 r3_5 v0).bind fun x593 =>
                   some x593
                 else
                  if decide (v4 = 3) then
                   (impl_blend r3_8 r3_7 r3_6 r3_7 v0).bind fun x594 =>
                    some x594
                  else
                   if decide (v4 = 4) then
                    (impl_blend r3_8 r3_7 r3_6 r3_9 v0).bind fun x595 =>
                     some x595
                   else
                    none
              else
               if decide (v4 = 4) then
                if decide (v4 = 0) then
                 (impl_blend r3_8 r3_7 r3_8 r3_1 v0).bind fun x596 =>
                  some x596
                else
                 if decide (v4 = 1) then
                  (impl_blend r3_8 r3_7 r3_8 r3_3 v0).bind fun x597 =>
                   some x597
                 else
                  if decide (v4 = 2) then
                   (impl_blend r3_8 r3_7 r3_8 r3_5 v0).bind fun x598 =>
                    some x598
                  else
                   if decide (v4 = 3) then
                    (impl_blend r3_8 r3_7 r3_8 r3_7 v0).bind fun x599 =>
                     some x599
                   else
                    if decide (v4 = 4) then
                     (impl_blend r3_8 r3_7 r3_8 r3_9 v0).bind fun x600 =>
                      some x600
                    else
                     none
               else
                none
          else
           if decide (IntKind.i64.wrap (v4 - 1) = 4) then
            if decide (v4 = 0) then
             if decide (v4 = 0) then
              (impl_blend r3_8 r3_9 r3_0 r3_1 v0).bind fun x601 =>
               some x601
             else
              if decide (v4 = 1) then
               (impl_blend r3_8 r3_9 r3_0 r3_3 v0).bind fun x602 =>
                some x602
              else
               if decide (v4 = 2) then
                (impl_blend r3_8 r3_9 r3_0 r3_5 v0).bind fun x603 =>
                 some x603
               else
                if decide (v4 = 3) then
                 (impl_blend r3_8 r3_9 r3_0 r3_7 v0).bind fun x604 =>
                  some x604
                else
                 if decide (v4 = 4) then
                  (impl_blend r3_8 r3_9 r3_0 r3_9 v0).bind fun x605 =>
                   some x605
                 else
                  none
            else
             if decide (v4 = 1) then
              if decide (v4 = 0) then
               (impl_blend r3_8 r3_9 r3_2 r3_1 v0).bind fun x606 =>
                some x606
              else
               if decide (v4 = 1) then
                (impl_blend r3_8 r3_9 r3_2 r3_3 v0).bind fun x607 =>
                 some x607
               else
                if decide (v4 = 2) then
                 (impl_blend r3_8 r3_9 r3_2 r3_5 v0).bind fun x608 =>
                  some x608
                else
                 if decide (v4 = 3) then
                  (impl_blend r3_8 r3_9 r3_2 r3_7 v0).bind fun x609 =>
                   some x609
                 else
                  if decide (v4 = 4) then
                   (impl_blend r3_8 r3_9 r3_2 r3_9 v0).bind fun x610 =>
                    some x610
                  else
                   none
             else
              if decide (v4 = 2) then
               if decide (v4 = 0) then
                (impl_blend r3_8 r3_9 r3_4 r3_1 v0).bind fun x611 =>
                 some x611
               else
                if decide (v4 = 1) then
                 (impl_blend r3_8 r3_9 r3_4 r3_3 v0).bind fun x612 =>
                  some x612
                else
                 if decide (v4 = 2) then
                  (impl_blend r3_8 r3_9 r3_4 r3_5 v0).bind fun x613 =>
                   some x613
                 else
                  if decide (v4 = 3) then
                   (impl_blend r3_8 r3_9 r3_4 r3_7 v0).bind fun x614 =>
                    some x614
                  else
                   if decide (v4 = 4) then
                    (impl_blend r3_8 r3_9 r3_4 r3_9 v0).bind fun x615 =>
                     some x615
                   else
                    none
              else
               if decide (v4 = 3) then
                if decide (v4 = 0) then
                 (impl_blend r3_8 r3_9 r3_6 r3_1 v0).bind fun x616 =>
                  some x616
                else
                 if decide (v4 = 1) then
                  (impl_blend r3_8 r3_9 r3_6 r3_3 v0).bind fun x617 =>
                   some x617
                 else
                  if decide (v4 = 2) then
                   (impl_blend r3_8 r3_9 r3_6 r3_5 v0).bind fun x618 =>
                    some x618
                  else
                   if decide (v4 = 3) then
                    (impl_blend r3_8 r3_9 r3_6 r3_7 v0).bind fun x619 =>
                     some x619
                   else
                    if decide (v4 = 4) then
                     (impl_blend r3_8 r3_9 r3_6 r3_9 v0).bind fun x620 =>
                      some x620
                    else
                     none
               else
                if decide (v4 = 4) then
                 if decide (v4 = 0) then
                  (impl_blend r3_8 r3_9 r3_8 r3_1 v0).bind fun x621 =>
                   some x621
                 else
                  if decide (v4 = 1) then
                   (impl_blend r3_8 r3_9 r3_8 r3_3 v0).bind fun x622 =>
                    some x622
                  else
                   if decide (v4 = 2) then
                    (impl_blend r3_8 r3_9 r3_8 r3_5 v0).bind fun x623 =>
                     some x623
                   else
                    if decide (v4 = 3) then
                     (impl_blend r3_8 r3_9 r3_8 r3_7 v0).bind fun x624 =>
                      some x624
                    else
                     if decide (v4 = 4) then
                      (impl_blend r3_8 r3_9 r3_8 r3_9 v0).bind fun x625 =>
                       some x625
                     else
                      none
                else
                 none
           else
            none
      else
       none :=
 (goL_dn _ _ _ 4000 _ _).trans (by kernel_rfl)

/- impl.change -/
def impl_change_ir : Fn := { np := 3, io := [], res := [.t 6], own := [false], body :=
 (.seq (.reg false [⟨some 6, false, .asg (.c (.int .i64 0)), none, false, []⟩] [0, 1, 2] []) (.seq (.reg false [⟨some 7, false, .mv (.t 1), none, false, []⟩, ⟨some 8, false, .mv (.t 0), none, false, []⟩, ⟨some 9, false, .bin .sub (.t 7) (.t 8), none, false, []⟩, ⟨some 10, false, .bin .mul (.c (.int .i64 20)) (.t 9), none, false, []⟩, ⟨some 11, false, .mv (.t 2), none, false, []⟩, ⟨some 12, false, .bin .add (.t 11) (.c (.int .i64 20)), none, false, []⟩, ⟨some 13, false, .call (.c (.fn 27 [])) [.t 10, .t 12], none, false, []⟩, ⟨some 6, false, .asg (.t 13), none, false, []⟩] [6] []) .ret)) }
noncomputable def impl_change_D : List (Nat × Callee) := [(27, impl_divRound_c)]
def impl_change_H : List (Nat × ET) := []
noncomputable def impl_change_c : Callee := mkCallee impl_change_D impl_change_H impl_change_ir [.d (.one (.int .i64)), .d (.one (.int .i64)), .d (.one (.int .i64))] [.d (.one (.int .i64))] []
noncomputable def impl_change (a0 : Int) (a1 : Int) (a2 : Int) : Option (Int) := impl_change_c.f (a0, a1, a2, ())
theorem impl_change_eq (a0 : Int) (a1 : Int) (a2 : Int) : impl_change a0 a1 a2 =
  (impl_divRound (IntKind.i64.wrap (20 * (IntKind.i64.wrap (a1 - a0)))) (IntKind.i64.wrap (a2 + 20))).bind fun x1 =>
   some x1 :=
 (mk_f _ _ _ _ _ _ _ 4000).trans (by kernel_rfl)

/- (impl.Stack).after -/
def impl_Stack_after_k0 : C :=
 .seq (.reg false [⟨some 16, false, .bin .lss (.t 15) (.t 14), none, false, []⟩] [3, 7, 8, 14, 15, 16] [3]) (.seq (.cond (.t 16) .skip (.exit 0)) (.seq (.block 1 (.seq (.reg false [⟨some 17, false, .mv (.t 8), none, false, []⟩, ⟨some 18, false, .mv (.t 7), none, false, []⟩, ⟨some 19, false, .fa 2 (.t 3), none, false, []⟩, ⟨some 20, false, .ld none (.t 19), none, false, []⟩, ⟨some 21, false, .call (.c (.fn 849 [])) [.t 17, .t 18, .t 20], none, false, []⟩, ⟨some 9, false, .asg (.t 21), none, false, []⟩] [3, 7, 8, 9, 14, 15] [3]) (.seq (.seq (.reg false [⟨some 22, false, .mv (.t 9), none, false, []⟩, ⟨some 23, false, .bin .eql (.t 22) (.c (.int .i64 0)), none, false, []⟩] [3, 7, 8, 9, 14, 15, 23] [3]) (.cond (.t 23) (.exit 0) .skip)) (.reg false [⟨some 24, false, .mv (.t 8), none, false, []⟩, ⟨some 25, false, .mv (.t 9), none, false, []⟩, ⟨some 26, false, .bin .add (.t 24) (.t 25), none, false, []⟩, ⟨some 8, false, .asg (.t 26), none, false, []⟩] [3, 7, 8, 14, 15] [3])))) (.reg false [⟨some 27, false, .bin .add (.t 15) (.c (.int .i64 1)), none, false, []⟩, ⟨some 15, false, .mv (.t 27), none, false, []⟩] [3, 7, 8, 14, 15] [3])))
def impl_Stack_after_k1 : C :=
 .norm [3, 7, 8, 14, 15] [3] impl_Stack_after_k0
def impl_Stack_after_k2 : C :=
 .seq (.reg false [⟨some 28, false, .mv (.t 8), none, false, []⟩, ⟨some 6, false, .asg (.t 28), none, false, []⟩] [6] []) .ret
def impl_Stack_after_ir : Fn := { np := 3, io := [], res := [.t 6], own := [false], body :=
 (.seq (.reg false [⟨some 3, true, .box 4 (.t 0), none, false, []⟩, ⟨some 6, false, .asg (.c (.int .i64 0)), none, false, []⟩] [1, 2, 3] [3]) (.seq (.reg true [⟨some 10, false, .mv (.t 1), none, false, []⟩, ⟨some 11, false, .call (.c (.fn 486 [])) [.t 10], none, false, []⟩, ⟨some 12, false, .fa 1 (.t 3), none, false, []⟩, ⟨some 13, false, .ld none (.t 12), none, false, []⟩, ⟨some 7, false, .asg (.t 11), none, false, []⟩, ⟨some 8, false, .asg (.t 13), none, false, []⟩] [2, 3, 7, 8] [3]) (.seq (.seq (.reg false [⟨some 14, false, .mv (.t 2), none, false, []⟩, ⟨some 15, false, .mv (.c (.int .i64 0)), none, false, []⟩] [3, 7, 8, 14, 15] [3]) (.block 0 (.loop impl_Stack_after_k1))) impl_Stack_after_k2))) }
noncomputable def impl_Stack_after_D : List (Nat × Callee) := [(486, impl_even_c), (849, impl_change_c)]
def impl_Stack_after_H : List (Nat × ET) := []
noncomputable def impl_Stack_after_c : Callee := mkCallee impl_Stack_after_D impl_Stack_after_H impl_Stack_after_ir [.d T_Peg, .d (.one (.int .i64)), .d (.one (.int .i64))] [.d (.one (.int .i64))] []
noncomputable def impl_Stack_after (a0 : T_Peg.ty) (a1 : Int) (a2 : Int) : Option (Int) := impl_Stack_after_c.f (a0, a1, a2, ())
noncomputable def impl_Stack_after_p0  (v7 : Int) (v8 : Int) (v14 : Int) (v15 : Int) (r3_0 : List UInt8) (r3_1 : Int) (r3_2 : Int) (r3_3 : Int) : Option (Int) :=
 goL impl_Stack_after_D impl_Stack_after_H (vleave impl_Stack_after_ir [.d T_Peg, .d (.one (.int .i64)), .d (.one (.int .i64))] [.d (.one (.int .i64))] [] []) [.c impl_Stack_after_k0, .l impl_Stack_after_k1, .e 0, .c impl_Stack_after_k2]
  ⟨[(3, .loc 3 0 0), (7, .int .i64 v7), (8, .int .i64 v8), (14, .int .i64 v14), (15, .int .i64 v15)], [(3, some (.var 4 (.agg [.str r3_0, .int .i64 r3_1, .int .i64 r3_2, .int .i64 r3_3])))]⟩
theorem impl_Stack_after_eq (a0 : T_Peg.ty) (a1 : Int) (a2 : Int) : impl_Stack_after a0 a1 a2 =
  (impl_even a1).bind fun x1 =>
   impl_Stack_after_p0 x1 a0.2.1 a2 0 a0.1 a0.2.1 a0.2.2.1 a0.2.2.2.1 :=
 (mk_f _ _ _ _ _ _ _ 4000).trans (by kernel_rfl)
theorem impl_Stack_after_p0_eq  (v7 : Int) (v8 : Int) (v14 : Int) (v15 : Int) (r3_0 : List UInt8) (r3_1 : Int) (r3_2 : Int) (r3_3 : Int) : impl_Stack_after_p0 v7 v8 v14 v15 r3_0 r3_1 r3_2 r3_3 =
  if decide (v15 < v14) then
   (impl_change v8 v7 r3_2).bind fun x1 =>
    if (x1 == 0) then
     some v8
    else
     impl_Stack_after_p0 v7 (IntKind.i64.wrap (v8 + x1)) v14 (IntKind.i64.wrap (v15 + 1)) r3_0 r3_1 r3_2 r3_3
  else
   some v8 :=
 (goL_dn _ _ _ 4000 _ _).trans (by kernel_rfl)

/- impl.ThickToDry -/
def impl_ThickToDry_k0 : C :=
 .seq (.seq (.reg false [⟨some 29, false, .mv (.t 10), none, false, []⟩, ⟨some 30, false, .bin .geq (.t 29) (.c (.int .i64 10)), none, false, []⟩] [0, 1, 2, 3, 10, 30] []) (.cond (.t 30) .skip (.exit 0))) (.seq (.block 1 (.seq (.reg false [⟨some 33, false, .mv (.t 0), none, false, []⟩, ⟨some 34, false, .mv (.t 10), none, false, []⟩, ⟨some 35, false, .build [.str [], .int .i64 0, .int .i64 0, .int .i64 0] [(1, 1, .t 33), (2, 1, .t 34)], none, false, []⟩, ⟨some 36, false, .mv (.t 1), none, false, []⟩, ⟨some 37, false, .mv (.t 3), none, false, []⟩, ⟨some 38, false, .call (.c (.fn 482 [])) [.t 35, .t 36, .t 37], none, false, []⟩, ⟨some 39, false, .mv (.t 2), none, false, []⟩, ⟨some 40, false, .bin .leq (.t 38) (.t 39), none, false, []⟩] [0, 1, 2, 3, 10, 40] []) (.cond (.t 40) (.seq (.reg false [⟨some 41, false, .mv (.t 10), none, false, []⟩, ⟨some 8, false, .asg (.t 41), none, false, []⟩, ⟨some 9, false, .asg (.c (.int .i64 0)), none, false, []⟩] [8, 9] []) .ret) .skip))) (.reg false [⟨some 31, false, .mv (.t 10), none, false, []⟩, ⟨some 32, false, .bin .sub (.t 31) (.c (.int .i64 1)), none, false, []⟩, ⟨some 10, false, .asg (.t 32), none, false, []⟩] [0, 1, 2, 3, 10] []))
def impl_ThickToDry_k1 : C :=
 .norm [0, 1, 2, 3, 10] [] impl_ThickToDry_k0
def impl_ThickToDry_k2 : C :=
 .seq (.reg false [⟨some 8, false, .asg (.c (.int .i64 0)), none, false, []⟩, ⟨some 9, false, .asg (.c (.int .i64 3)), none, false, []⟩] [8, 9] []) .ret
def impl_ThickToDry_k3 : C :=
 .seq (.seq (.reg false [⟨some 10, false, .asg (.c (.int .i64 1000)), none, false, []⟩] [0, 1, 2, 3, 10] []) (.block 0 (.loop impl_ThickToDry_k1))) impl_ThickToDry_k2
def impl_ThickToDry_ir : Fn := { np := 4, io := [], res := [.t 8, .t 9], own := [false, false], body :=
 (.seq (.reg false [⟨some 8, false, .asg (.c (.int .i64 0)), none, false, []⟩, ⟨some 9, false, .asg (.c (.int .i64 0)), none, false, []⟩] [0, 1, 2, 3] []) (.seq (.seq (.reg false [⟨some 11, false, .mv (.t 0), none, false, []⟩, ⟨some 12, false, .call (.c (.fn 483 [])) [.t 11], none, false, []⟩, ⟨some 13, false, .un .not (.t 12), none, false, []⟩, ⟨some 14, false, .mv (.t 13), none, false, []⟩, ⟨some 15, false, .mv (.t 1), some (3, false), false, []⟩, ⟨some 16, false, .call (.c (.fn 483 [])) [.t 15], some (3, false), false, []⟩, ⟨some 17, false, .un .not (.t 16), some (3, false), false, []⟩, ⟨some 18, false, .pick (.t 14) (.c (.bool true)) (.t 17), none, false, []⟩, ⟨some 19, false, .mv (.t 18), none, false, []⟩, ⟨some 20, false, .mv (.t 2), some (8, false), false, []⟩, ⟨some 21, false, .call (.c (.fn 483 [])) [.t 20], some (8, false), false, []⟩, ⟨some 22, false, .un .not (.t 21), some (8, false), false, []⟩, ⟨some 23, false, .pick (.t 19) (.c (.bool true)) (.t 22), none, false, []⟩, ⟨some 24, false, .mv (.t 23), none, false, []⟩, ⟨some 25, false, .mv (.t 3), some (13, false), false, []⟩, ⟨some 26, false, .call (.c (.fn 484 [])) [.t 25], some (13, false), false, []⟩, ⟨some 27, false, .un .not (.t 26), some (13, false), false, []⟩, ⟨some 28, false, .pick (.t 24) (.c (.bool true)) (.t 27), none, false, []⟩] [0, 1, 2, 3, 28] []) (.cond (.t 28) (.seq (.reg false [⟨some 8, false, .asg (.c (.int .i64 0)), none, false, []⟩, ⟨some 9, false, .asg (.c (.int .i64 2)), none, false, []⟩] [8, 9] []) .ret) .skip)) (.norm [0, 1, 2, 3] [] impl_ThickToDry_k3))) }
noncomputable def impl_ThickToDry_D : List (Nat × Callee) := [(482, impl_Stack_after_c), (483, impl_isPart_c), (484, impl_isDry_c)]
def impl_ThickToDry_H : List (Nat × ET) := []
noncomputable def impl_ThickToDry_c : Callee := mkCallee impl_ThickToDry_D impl_ThickToDry_H impl_ThickToDry_ir [.d (.one (.int .i64)), .d (.one (.int .i64)), .d (.one (.int .i64)), .d (.one (.int .i64))] [.d (.one (.int .i64)), .d (.one (.int .i64))] []
noncomputable def impl_ThickToDry (a0 : Int) (a1 : Int) (a2 : Int) (a3 : Int) : Option (Int × Int) := impl_ThickToDry_c.f (a0, a1, a2, a3, ())
noncomputable def impl_ThickToDry_p0  (v0 : Int) (v1 : Int) (v2 : Int) (v3 : Int) : Option (Int × Int) :=
 goL impl_ThickToDry_D impl_ThickToDry_H (vleave impl_ThickToDry_ir [.d (.one (.int .i64)), .d (.one (.int .i64)), .d (.one (.int .i64)), .d (.one (.int .i64))] [.d (.one (.int .i64)), .d (.one (.int .i64))] [] []) [.c impl_ThickToDry_k3]
  ⟨[(0, .int .i64 v0), (1, .int .i64 v1), (2, .int .i64 v2), (3, .int .i64 v3)], []⟩
noncomputable def impl_ThickToDry_p1  (v0 : Int) (v1 : Int) (v2 : Int) (v3 : Int) (v10 : Int) : Option (Int × Int) :=
 goL impl_ThickToDry_D impl_ThickToDry_H (vleave impl_ThickToDry_ir [.d (.one (.int .i64)), .d (.one (.int .i64)), .d (.one (.int .i64)), .d (.one (.int .i64))] [.d (.one (.int .i64)), .d (.one (.int .i64))] [] []) [.c impl_ThickToDry_k0, .l impl_ThickToDry_k1, .e 0, .c impl_ThickToDry_k2]
  ⟨[(0, .int .i64 v0), (1, .int .i64 v1), (2, .int .i64 v2), (3, .int .i64 v3), (10, .int .i64 v10)], []⟩
theorem impl_ThickToDry_eq (a0 : Int) (a1 : Int) (a2 : Int) (a3 : Int) : impl_ThickToDry a0 a1 a2 a3 =
  (impl_isPart a0).bind fun x1 =>
   if (!x1) then
    some (0, 2)
   else
    (impl_isPart a1).bind fun x2 =>
     if (!x2) then
      some (0, 2)
     else
      (impl_isPart a2).bind fun x3 =>
       if (!x3) then
        some (0, 2)
       else
        (impl_isDry a3).bind fun x4 =>
         if (!x4) then
          some (0, 2)
         else
          impl_ThickToDry_p0 a0 a1 a2 a3 :=
 (mk_f _ _ _ _ _ _ _ 4000).trans (by kernel_rfl)
theorem impl_ThickToDry_p0_eq  (v0 : Int) (v1 : Int) (v2 : Int) (v3 : Int) : impl_ThickToDry_p0 v0 v1 v2 v3 =
  impl_ThickToDry_p1 v0 v1 v2 v3 1000 :=
 (goL_dn _ _ _ 4000 _ _).trans (by kernel_rfl)
theorem impl_ThickToDry_p1_eq  (v0 : Int) (v1 : Int) (v2 : Int) (v3 : Int) (v10 : Int) : impl_ThickToDry_p1 v0 v1 v2 v3 v10 =
  if decide (v10 ≥ 10) then
   (impl_Stack_after ([], v0, v10, 0, ()) v1 v3).bind fun x1 =>
    if decide (x1 ≤ v2) then
     some (v10, 0)
    else
     impl_ThickToDry_p1 v0 v1 v2 v3 (IntKind.i64.wrap (v10 - 1))
  else
   some (0, 3) :=
 (goL_dn _ _ _ 4000 _ _).trans (by kernel_rfl)

/- spec.l01Small -/
def spec_l01Small_ir : Fn := { np := 1, io := [], res := [.t 2], own := [false], body :=
 (.seq (.reg false [⟨some 2, false, .asg (.c (.bool false)), none, false, []⟩] [0] []) (.seq (.reg false [⟨some 3, false, .mv (.t 0), none, false, []⟩, ⟨some 4, false, .bin .geq (.t 3) (.c (.int .u8 97)), none, false, []⟩, ⟨some 5, false, .mv (.t 4), none, false, []⟩, ⟨some 6, false, .mv (.t 0), some (2, true), false, []⟩, ⟨some 7, false, .bin .leq (.t 6) (.c (.int .u8 122)), some (2, true), false, []⟩, ⟨some 8, false, .pick (.t 5) (.t 7) (.c (.bool false)), none, false, []⟩, ⟨some 2, false, .asg (.t 8), none, false, []⟩] [2] []) .ret)) }
noncomputable def spec_l01Small_D : List (Nat × Callee) := []
def spec_l01Small_H : List (Nat × ET) := []
noncomputable def spec_l01Small_c : Callee := mkCallee spec_l01Small_D spec_l01Small_H spec_l01Small_ir [.d (.one (.int .u8))] [.d (.one .bool)] []
noncomputable def spec_l01Small (a0 : Int) : Option (Bool) := spec_l01Small_c.f (a0, ())
theorem spec_l01Small_eq (a0 : Int) : spec_l01Small a0 =
  if decide (a0 ≥ 97) then
   some (decide (a0 ≤ 122))
  else
   some false :=
 (mk_f _ _ _ _ _ _ _ 4000).trans (by kernel_rfl)

/- spec.l01Digit -/
def spec_l01Digit_ir : Fn := { np := 1, io := [], res := [.t 2], own := [false], body :=
 (.seq (.reg false [⟨some 2, false, .asg (.c (.bool false)), none, false, []⟩] [0] []) (.seq (.reg false [⟨some 3, false, .mv (.t 0), none, false, []⟩, ⟨some 4, false, .bin .geq (.t 3) (.c (.int .u8 48)), none, false, []⟩, ⟨some 5, false, .mv (.t 4), none, false, []⟩, ⟨some 6, false, .mv (.t 0), some (2, true), false, []⟩, ⟨some 7, false, .bin .leq (.t 6) (.c (.int .u8 57)), some (2, true), false, []⟩, ⟨some 8, false, .pick (.t 5) (.t 7) (.c (.bool false)), none, false, []⟩, ⟨some 2, false, .asg (.t 8), none, false, []⟩] [2] []) .ret)) }
noncomputable def spec_l01Digit_D : List (Nat × Callee) := []
def spec_l01Digit_H : List (Nat × ET) := []
noncomputable def spec_l01Digit_c : Callee := mkCallee spec_l01Digit_D spec_l01Digit_H spec_l01Digit_ir [.d (.one (.int .u8))] [.d (.one .bool)] []
noncomputable def spec_l01Digit (a0 : Int) : Option (Bool) := spec_l01Digit_c.f (a0, ())
theorem spec_l01Digit_eq (a0 : Int) : spec_l01Digit a0 =
  if decide (a0 ≥ 48) then
   some (decide (a0 ≤ 57))
  else
   some false :=
 (mk_f _ _ _ _ _ _ _ 4000).trans (by kernel_rfl)

/- spec.l01Name -/
def spec_l01Name_k0 : C :=
 .seq (.seq (.reg false [⟨some 17, false, .mv (.t 3), none, false, []⟩, ⟨some 18, false, .mv (.t 0), none, false, []⟩, ⟨some 19, false, .lens (.t 18), none, false, []⟩, ⟨some 20, false, .bin .lss (.t 17) (.t 19), none, false, []⟩] [0, 3, 20] []) (.cond (.t 20) .skip (.exit 0))) (.seq (.block 1 (.seq (.reg false [⟨some 23, false, .mv (.t 0), none, false, []⟩, ⟨some 24, false, .mv (.t 3), none, false, []⟩, ⟨some 25, false, .ix (.t 23) (.t 24), none, false, []⟩, ⟨some 26, false, .call (.c (.fn 11 [])) [.t 25], none, false, []⟩, ⟨some 27, false, .un .not (.t 26), none, false, []⟩, ⟨some 28, false, .mv (.t 27), none, false, []⟩, ⟨some 29, false, .mv (.t 0), some (5, true), false, []⟩, ⟨some 30, false, .mv (.t 3), some (5, true), false, []⟩, ⟨some 31, false, .ix (.t 29) (.t 30), some (5, true), false, []⟩, ⟨some 32, false, .call (.c (.fn 12 [])) [.t 31], some (5, true), false, []⟩, ⟨some 33, false, .un .not (.t 32), some (5, true), false, []⟩, ⟨some 34, false, .pick (.t 28) (.t 33) (.c (.bool false)), none, false, []⟩] [0, 3, 34] []) (.cond (.t 34) (.seq (.reg false [⟨some 2, false, .asg (.c (.bool false)), none, false, []⟩] [2] []) .ret) .skip))) (.reg false [⟨some 21, false, .mv (.t 3), none, false, []⟩, ⟨some 22, false, .bin .add (.t 21) (.c (.int .i64 1)), none, false, []⟩, ⟨some 3, false, .asg (.t 22), none, false, []⟩] [0, 3] []))
def spec_l01Name_k1 : C :=
 .norm [0, 3] [] spec_l01Name_k0
def spec_l01Name_k2 : C :=
 .seq (.reg false [⟨some 2, false, .asg (.c (.bool true)), none, false, []⟩] [2] []) .ret
def spec_l01Name_k3 : C :=
 .seq (.seq (.reg false [⟨some 3, false, .asg (.c (.int .i64 0)), none, false, []⟩] [0, 3] []) (.block 0 (.loop spec_l01Name_k1))) spec_l01Name_k2
def spec_l01Name_ir : Fn := { np := 1, io := [], res := [.t 2], own := [false], body :=
 (.seq (.reg false [⟨some 2, false, .asg (.c (.bool false)), none, false, []⟩] [0] []) (.seq (.seq (.reg false [⟨some 4, false, .mv (.t 0), none, false, []⟩, ⟨some 5, false, .bin .eql (.t 4) (.c (.str [])), none, false, []⟩, ⟨some 6, false, .mv (.t 5), none, false, []⟩, ⟨some 7, false, .mv (.t 0), some (2, false), false, []⟩, ⟨some 8, false, .lens (.t 7), some (2, false), false, []⟩, ⟨some 9, false, .bin .gtr (.t 8) (.c (.int .i64 10)), some (2, false), false, []⟩, ⟨some 10, false, .pick (.t 6) (.c (.bool true)) (.t 9), none, false, []⟩, ⟨some 11, false, .mv (.t 10), none, false, []⟩, ⟨some 12, false, .mv (.t 0), some (7, false), false, []⟩, ⟨some 13, false, .ix (.t 12) (.c (.int .i64 0)), some (7, false), false, []⟩, ⟨some 14, false, .call (.c (.fn 11 [])) [.t 13], some (7, false), false, []⟩, ⟨some 15, false, .un .not (.t 14), some (7, false), false, []⟩, ⟨some 16, false, .pick (.t 11) (.c (.bool true)) (.t 15), none, false, []⟩] [0, 16] []) (.cond (.t 16) (.seq (.reg false [⟨some 2, false, .asg (.c (.bool false)), none, false, []⟩] [2] []) .ret) .skip)) (.norm [0] [] spec_l01Name_k3))) }
noncomputable def spec_l01Name_D : List (Nat × Callee) := [(11, spec_l01Small_c), (12, spec_l01Digit_c)]
def spec_l01Name_H : List (Nat × ET) := []
noncomputable def spec_l01Name_c : Callee := mkCallee spec_l01Name_D spec_l01Name_H spec_l01Name_ir [.d (.one .str)] [.d (.one .bool)] []
noncomputable def spec_l01Name (a0 : List UInt8) : Option (Bool) := spec_l01Name_c.f (a0, ())
noncomputable def spec_l01Name_p0  (v0 : List UInt8) : Option (Bool) :=
 goL spec_l01Name_D spec_l01Name_H (vleave spec_l01Name_ir [.d (.one .str)] [.d (.one .bool)] [] []) [.c spec_l01Name_k3]
  ⟨[(0, .str v0)], []⟩
noncomputable def spec_l01Name_p1  (v0 : List UInt8) (v3 : Int) : Option (Bool) :=
 goL spec_l01Name_D spec_l01Name_H (vleave spec_l01Name_ir [.d (.one .str)] [.d (.one .bool)] [] []) [.c spec_l01Name_k0, .l spec_l01Name_k1, .e 0, .c spec_l01Name_k2]
  ⟨[(0, .str v0), (3, .int .i64 v3)], []⟩
theorem spec_l01Name_eq (a0 : List UInt8) : spec_l01Name a0 =
  if (a0 == []) then
   some false
  else
   if decide ((a0.length : Int) > 10) then
    some false
   else
    (a0[0]?).bind fun x1 =>
     (spec_l01Small (x1.toNat : Int)).bind fun x2 =>
      if (!x2) then
       some false
      else
       spec_l01Name_p0 a0 :=
 (mk_f _ _ _ _ _ _ _ 4000).trans (by kernel_rfl)
theorem spec_l01Name_p0_eq  (v0 : List UInt8) : spec_l01Name_p0 v0 =
  spec_l01Name_p1 v0 0 :=
 (goL_dn _ _ _ 4000 _ _).trans (by kernel_rfl)
theorem spec_l01Name_p1_eq  (v0 : List UInt8) (v3 : Int) : spec_l01Name_p1 v0 v3 =
  if decide (v3 < (v0.length : Int)) then
   if decide (0 ≤ v3) then
    (v0[v3.toNat]?).bind fun x1 =>
     (spec_l01Small (x1.toNat : Int)).bind fun x2 =>
      if (!x2) then
       if decide (0 ≤ v3) then
        (v0[v3.toNat]?).bind fun x3 =>
         (spec_l01Digit (x3.toNat : Int)).bind fun x4 =>
          if (!x4) then
           some false
          else
           spec_l01Name_p1 v0 (IntKind.i64.wrap (v3 + 1))
       else
        none
      else
       spec_l01Name_p1 v0 (IntKind.i64.wrap (v3 + 1))
   else
    none
  else
   some true :=
 (goL_dn _ _ _ 4000 _ _).trans (by kernel_rfl)

/- spec.l00In -/
def spec_l00In_ir : Fn := { np := 3, io := [], res := [.t 6], own := [false], body :=
 (.seq (.reg false [⟨some 6, false, .asg (.c (.bool false)), none, false, []⟩] [0, 1, 2] []) (.seq (.reg false [⟨some 7, false, .mv (.t 0), none, false, []⟩, ⟨some 8, false, .mv (.t 1), none, false, []⟩, ⟨some 9, false, .bin .geq (.t 7) (.t 8), none, false, []⟩, ⟨some 10, false, .mv (.t 9), none, false, []⟩, ⟨some 11, false, .mv (.t 0), some (3, true), false, []⟩, ⟨some 12, false, .mv (.t 2), some (3, true), false, []⟩, ⟨some 13, false, .bin .leq (.t 11) (.t 12), some (3, true), false, []⟩, ⟨some 14, false, .pick (.t 10) (.t 13) (.c (.bool false)), none, false, []⟩, ⟨some 6, false, .asg (.t 14), none, false, []⟩] [6] []) .ret)) }
noncomputable def spec_l00In_D : List (Nat × Callee) := []
def spec_l00In_H : List (Nat × ET) := []
noncomputable def spec_l00In_c : Callee := mkCallee spec_l00In_D spec_l00In_H spec_l00In_ir [.d (.one (.int .i64)), .d (.one (.int .i64)), .d (.one (.int .i64))] [.d (.one .bool)] []
noncomputable def spec_l00In (a0 : Int) (a1 : Int) (a2 : Int) : Option (Bool) := spec_l00In_c.f (a0, a1, a2, ())
theorem spec_l00In_eq (a0 : Int) (a1 : Int) (a2 : Int) : spec_l00In a0 a1 a2 =
  if decide (a0 ≥ a1) then
   some (decide (a0 ≤ a2))
  else
   some false :=
 (mk_f _ _ _ _ _ _ _ 4000).trans (by kernel_rfl)

/- spec.l04Share -/
def spec_l04Share_ir : Fn := { np := 1, io := [], res := [.t 2], own := [false], body :=
 (.seq (.reg false [⟨some 2, false, .asg (.c (.bool false)), none, false, []⟩] [0] []) (.seq (.reg false [⟨some 3, false, .mv (.t 0), none, false, []⟩, ⟨some 4, false, .call (.c (.fn 1 [])) [.t 3, .c (.int .i64 0), .c (.int .i64 1000)], none, false, []⟩, ⟨some 2, false, .asg (.t 4), none, false, []⟩] [2] []) .ret)) }
noncomputable def spec_l04Share_D : List (Nat × Callee) := [(1, spec_l00In_c)]
def spec_l04Share_H : List (Nat × ET) := []
noncomputable def spec_l04Share_c : Callee := mkCallee spec_l04Share_D spec_l04Share_H spec_l04Share_ir [.d (.one (.int .i64))] [.d (.one .bool)] []
noncomputable def spec_l04Share (a0 : Int) : Option (Bool) := spec_l04Share_c.f (a0, ())
theorem spec_l04Share_eq (a0 : Int) : spec_l04Share a0 =
  (spec_l00In a0 0 1000).bind fun x1 =>
   some x1 :=
 (mk_f _ _ _ _ _ _ _ 4000).trans (by kernel_rfl)

/- spec.l04Thick -/
def spec_l04Thick_ir : Fn := { np := 1, io := [], res := [.t 2], own := [false], body :=
 (.seq (.reg false [⟨some 2, false, .asg (.c (.bool false)), none, false, []⟩] [0] []) (.seq (.reg false [⟨some 3, false, .mv (.t 0), none, false, []⟩, ⟨some 4, false, .call (.c (.fn 1 [])) [.t 3, .c (.int .i64 10), .c (.int .i64 1000)], none, false, []⟩, ⟨some 2, false, .asg (.t 4), none, false, []⟩] [2] []) .ret)) }
noncomputable def spec_l04Thick_D : List (Nat × Callee) := [(1, spec_l00In_c)]
def spec_l04Thick_H : List (Nat × ET) := []
noncomputable def spec_l04Thick_c : Callee := mkCallee spec_l04Thick_D spec_l04Thick_H spec_l04Thick_ir [.d (.one (.int .i64))] [.d (.one .bool)] []
noncomputable def spec_l04Thick (a0 : Int) : Option (Bool) := spec_l04Thick_c.f (a0, ())
theorem spec_l04Thick_eq (a0 : Int) : spec_l04Thick a0 =
  (spec_l00In a0 10 1000).bind fun x1 =>
   some x1 :=
 (mk_f _ _ _ _ _ _ _ 4000).trans (by kernel_rfl)

/- spec.l02Day -/
def spec_l02Day_ir : Fn := { np := 1, io := [], res := [.t 2], own := [false], body :=
 (.seq (.reg false [⟨some 2, false, .asg (.c (.bool false)), none, false, []⟩] [0] []) (.seq (.reg false [⟨some 3, false, .mv (.t 0), none, false, []⟩, ⟨some 4, false, .call (.c (.fn 1 [])) [.t 3, .c (.int .i64 0), .c (.int .i64 36524)], none, false, []⟩, ⟨some 2, false, .asg (.t 4), none, false, []⟩] [2] []) .ret)) }
noncomputable def spec_l02Day_D : List (Nat × Callee) := [(1, spec_l00In_c)]
def spec_l02Day_H : List (Nat × ET) := []
noncomputable def spec_l02Day_c : Callee := mkCallee spec_l02Day_D spec_l02Day_H spec_l02Day_ir [.d (.one (.int .i64))] [.d (.one .bool)] []
noncomputable def spec_l02Day (a0 : Int) : Option (Bool) := spec_l02Day_c.f (a0, ())
theorem spec_l02Day_eq (a0 : Int) : spec_l02Day a0 =
  (spec_l00In a0 0 36524).bind fun x1 =>
   some x1 :=
 (mk_f _ _ _ _ _ _ _ 4000).trans (by kernel_rfl)

/- spec.l04One -/
def spec_l04One_ir : Fn := { np := 1, io := [], res := [.t 2], own := [false], body :=
 (.seq (.reg false [⟨some 2, false, .asg (.c (.bool false)), none, false, []⟩] [0] []) (.seq (.reg false [⟨some 3, false, .mv (.t 0), none, false, []⟩, ⟨some 4, false, .nilck (.t 3), none, false, []⟩, ⟨some 5, false, .fa 0 (.t 4), none, false, []⟩, ⟨some 6, false, .ld none (.t 5), none, false, []⟩, ⟨some 7, false, .call (.c (.fn 13 [])) [.t 6], none, false, []⟩, ⟨some 8, false, .mv (.t 7), none, false, []⟩, ⟨some 9, false, .mv (.t 0), some (5, true), false, []⟩, ⟨some 10, false, .nilck (.t 9), some (5, true), false, []⟩, ⟨some 11, false, .fa 1 (.t 10), some (5, true), false, []⟩, ⟨some 12, false, .ld none (.t 11), some (5, true), false, []⟩, ⟨some 13, false, .call (.c (.fn 490 [])) [.t 12], some (5, true), false, []⟩, ⟨some 14, false, .pick (.t 8) (.t 13) (.c (.bool false)), none, false, []⟩, ⟨some 15, false, .mv (.t 14), none, false, []⟩, ⟨some 16, false, .mv (.t 0), some (12, true), false, []⟩, ⟨some 17, false, .nilck (.t 16), some (12, true), false, []⟩, ⟨some 18, false, .fa 2 (.t 17), some (12, true), false, []⟩, ⟨some 19, false, .ld none (.t 18), some (12, true), false, []⟩, ⟨some 20, false, .call (.c (.fn 850 [])) [.t 19], some (12, true), false, []⟩, ⟨some 21, false, .pick (.t 15) (.t 20) (.c (.bool false)), none, false, []⟩, ⟨some 22, false, .mv (.t 21), none, false, []⟩, ⟨some 23, false, .mv (.t 0), some (19, true), false, []⟩, ⟨some 24, false, .nilck (.t 23), some (19, true), false, []⟩, ⟨some 25, false, .fa 3 (.t 24), some (19, true), false, []⟩, ⟨some 26, false, .ld none (.t 25), some (19, true), false, []⟩, ⟨some 27, false, .call (.c (.fn 851 [])) [.t 26], some (19, true), false, []⟩, ⟨some 28, false, .pick (.t 22) (.t 27) (.c (.bool false)), none, false, []⟩, ⟨some 2, false, .asg (.t 28), none, false, []⟩] [2] []) .ret)) }
noncomputable def spec_l04One_D : List (Nat × Callee) := [(13, spec_l01Name_c), (490, spec_l04Share_c), (850, spec_l04Thick_c), (851, spec_l02Day_c)]
def spec_l04One_H : List (Nat × ET) := []
noncomputable def spec_l04One_c : Callee := mkCallee spec_l04One_D spec_l04One_H spec_l04One_ir [.p T_Peg] [.d (.one .bool)] []
noncomputable def spec_l04One (a0 : T_Peg.ty) : Option (Bool) := spec_l04One_c.f (a0, ())
theorem spec_l04One_eq (a0 : T_Peg.ty) : spec_l04One a0 =
  (spec_l01Name a0.1).bind fun x1 =>
   if x1 then
    (spec_l04Share a0.2.1).bind fun x2 =>
     if x2 then
      (spec_l04Thick a0.2.2.1).bind fun x3 =>
       if x3 then
        (spec_l02Day a0.2.2.2.1).bind fun x4 =>
         some x4
       else
        some false
     else
      some false
   else
    some false :=
 (mk_f _ _ _ _ _ _ _ 4000).trans (by kernel_rfl)

/- spec.l04Days -/
def spec_l04Days_ir : Fn := { np := 1, io := [], res := [.t 2], own := [false], body :=
 (.seq (.reg false [⟨some 2, false, .asg (.c (.bool false)), none, false, []⟩] [0] []) (.seq (.reg false [⟨some 3, false, .mv (.t 0), none, false, []⟩, ⟨some 4, false, .call (.c (.fn 1 [])) [.t 3, .c (.int .i64 0), .c (.int .i64 4000)], none, false, []⟩, ⟨some 2, false, .asg (.t 4), none, false, []⟩] [2] []) .ret)) }
noncomputable def spec_l04Days_D : List (Nat × Callee) := [(1, spec_l00In_c)]
def spec_l04Days_H : List (Nat × ET) := []
noncomputable def spec_l04Days_c : Callee := mkCallee spec_l04Days_D spec_l04Days_H spec_l04Days_ir [.d (.one (.int .i64))] [.d (.one .bool)] []
noncomputable def spec_l04Days (a0 : Int) : Option (Bool) := spec_l04Days_c.f (a0, ())
theorem spec_l04Days_eq (a0 : Int) : spec_l04Days a0 =
  (spec_l00In a0 0 4000).bind fun x1 =>
   some x1 :=
 (mk_f _ _ _ _ _ _ _ 4000).trans (by kernel_rfl)

/- spec.l01Div -/
def spec_l01Div_k0 : C :=
 .seq (.seq (.reg false [⟨some 11, false, .mv (.t 0), none, false, []⟩, ⟨some 12, false, .bin .lss (.t 11) (.c (.int .i64 0)), none, false, []⟩] [0, 1, 12] []) (.cond (.t 12) (.seq (.reg false [⟨some 13, false, .mv (.t 1), none, false, []⟩, ⟨some 14, false, .mv (.t 0), none, false, []⟩, ⟨some 15, false, .bin .mul (.c (.int .i64 2)) (.t 14), none, false, []⟩, ⟨some 16, false, .bin .sub (.t 13) (.t 15), none, false, []⟩, ⟨some 17, false, .mv (.t 1), none, false, []⟩, ⟨some 18, false, .bin .mul (.c (.int .i64 2)) (.t 17), none, false, []⟩, ⟨some 19, false, .bin .quo (.t 16) (.t 18), none, false, []⟩, ⟨some 20, false, .un .neg (.t 19), none, false, []⟩, ⟨some 4, false, .asg (.t 20), none, false, []⟩] [4] []) .ret) .skip)) (.seq (.reg false [⟨some 21, false, .mv (.t 0), none, false, []⟩, ⟨some 22, false, .bin .mul (.c (.int .i64 2)) (.t 21), none, false, []⟩, ⟨some 23, false, .mv (.t 1), none, false, []⟩, ⟨some 24, false, .bin .add (.t 22) (.t 23), none, false, []⟩, ⟨some 25, false, .mv (.t 1), none, false, []⟩, ⟨some 26, false, .bin .mul (.c (.int .i64 2)) (.t 25), none, false, []⟩, ⟨some 27, false, .bin .quo (.t 24) (.t 26), none, false, []⟩, ⟨some 4, false, .asg (.t 27), none, false, []⟩] [4] []) .ret)
def spec_l01Div_ir : Fn := { np := 2, io := [], res := [.t 4], own := [false], body :=
 (.seq (.reg false [⟨some 4, false, .asg (.c (.int .i64 0)), none, false, []⟩] [0, 1] []) (.seq (.seq (.reg false [⟨some 5, false, .mv (.t 1), none, false, []⟩, ⟨some 6, false, .bin .lss (.t 5) (.c (.int .i64 0)), none, false, []⟩] [0, 1, 6] []) (.cond (.t 6) (.seq (.reg false [⟨some 7, false, .mv (.t 0), none, false, []⟩, ⟨some 8, false, .un .neg (.t 7), none, false, []⟩, ⟨some 0, false, .asg (.t 8), none, false, []⟩] [0, 1] []) (.reg false [⟨some 9, false, .mv (.t 1), none, false, []⟩, ⟨some 10, false, .un .neg (.t 9), none, false, []⟩, ⟨some 1, false, .asg (.t 10), none, false, []⟩] [0, 1] [])) .skip)) (.norm [0, 1] [] spec_l01Div_k0))) }
noncomputable def spec_l01Div_D : List (Nat × Callee) := []
def spec_l01Div_H : List (Nat × ET) := []
noncomputable def spec_l01Div_c : Callee := mkCallee spec_l01Div_D spec_l01Div_H spec_l01Div_ir [.d (.one (.int .i64)), .d (.one (.int .i64))] [.d (.one (.int .i64))] []
noncomputable def spec_l01Div (a0 : Int) (a1 : Int) : Option (Int) := spec_l01Div_c.f (a0, a1, ())
noncomputable def spec_l01Div_p0  (v0 : Int) (v1 : Int) : Option (Int) :=
 goL spec_l01Div_D spec_l01Div_H (vleave spec_l01Div_ir [.d (.one (.int .i64)), .d (.one (.int .i64))] [.d (.one (.int .i64))] [] []) [.c spec_l01Div_k0]
  ⟨[(0, .int .i64 v0), (1, .int .i64 v1)], []⟩
theorem spec_l01Div_eq (a0 : Int) (a1 : Int) : spec_l01Div a0 a1 =
  if decide (a1 < 0) then
   spec_l01Div_p0 (IntKind.i64.wrap (0 - a0)) (IntKind.i64.wrap (0 - a1))
  else
   spec_l01Div_p0 a0 a1 :=
 (mk_f _ _ _ _ _ _ _ 4000).trans (by kernel_rfl)
theorem spec_l01Div_p0_eq  (v0 : Int) (v1 : Int) : spec_l01Div_p0 v0 v1 =
  if decide (v0 < 0) then
   if decide (IntKind.i64.wrap (2 * v1) = 0) then
    none
   else
    some (IntKind.i64.wrap (0 - (IntKind.i64.wrap ((IntKind.i64.wrap (v1 - (IntKind.i64.wrap (2 * v0)))).tdiv (IntKind.i64.wrap (2 * v1))))))
  else
   if decide (IntKind.i64.wrap (2 * v1) = 0) then
    none
   else
    some (IntKind.i64.wrap ((IntKind.i64.wrap ((IntKind.i64.wrap (2 * v0)) + v1)).tdiv (IntKind.i64.wrap (2 * v1)))) :=
 (goL_dn _ _ _ 4000 _ _).trans (by kernel_rfl)

/- spec.l01Line -/
def spec_l01Line_k0 : C :=
 .seq (.seq (.reg false [⟨some 20, false, .mv (.t 4), none, false, []⟩, ⟨some 21, false, .mv (.t 2), none, false, []⟩, ⟨some 22, false, .bin .geq (.t 20) (.t 21), none, false, []⟩] [0, 1, 2, 3, 4, 22] []) (.cond (.t 22) (.seq (.reg false [⟨some 23, false, .mv (.t 3), none, false, []⟩, ⟨some 10, false, .asg (.t 23), none, false, []⟩] [10] []) .ret) .skip)) (.seq (.reg false [⟨some 24, false, .mv (.t 1), none, false, []⟩, ⟨some 25, false, .mv (.t 3), none, false, []⟩, ⟨some 26, false, .mv (.t 1), none, false, []⟩, ⟨some 27, false, .bin .sub (.t 25) (.t 26), none, false, []⟩, ⟨some 28, false, .mv (.t 4), none, false, []⟩, ⟨some 29, false, .mv (.t 0), none, false, []⟩, ⟨some 30, false, .bin .sub (.t 28) (.t 29), none, false, []⟩, ⟨some 31, false, .bin .mul (.t 27) (.t 30), none, false, []⟩, ⟨some 32, false, .mv (.t 2), none, false, []⟩, ⟨some 33, false, .mv (.t 0), none, false, []⟩, ⟨some 34, false, .bin .sub (.t 32) (.t 33), none, false, []⟩, ⟨some 35, false, .call (.c (.fn 16 [])) [.t 31, .t 34], none, false, []⟩, ⟨some 36, false, .bin .add (.t 24) (.t 35), none, false, []⟩, ⟨some 10, false, .asg (.t 36), none, false, []⟩] [10] []) .ret)
def spec_l01Line_ir : Fn := { np := 5, io := [], res := [.t 10], own := [false], body :=
 (.seq (.reg false [⟨some 10, false, .asg (.c (.int .i64 0)), none, false, []⟩] [0, 1, 2, 3, 4] []) (.seq (.seq (.reg false [⟨some 11, false, .mv (.t 4), none, false, []⟩, ⟨some 12, false, .mv (.t 0), none, false, []⟩, ⟨some 13, false, .bin .leq (.t 11) (.t 12), none, false, []⟩, ⟨some 14, false, .mv (.t 13), none, false, []⟩, ⟨some 15, false, .mv (.t 2), some (3, false), false, []⟩, ⟨some 16, false, .mv (.t 0), some (3, false), false, []⟩, ⟨some 17, false, .bin .leq (.t 15) (.t 16), some (3, false), false, []⟩, ⟨some 18, false, .pick (.t 14) (.c (.bool true)) (.t 17), none, false, []⟩] [0, 1, 2, 3, 4, 18] []) (.cond (.t 18) (.seq (.reg false [⟨some 19, false, .mv (.t 1), none, false, []⟩, ⟨some 10, false, .asg (.t 19), none, false, []⟩] [10] []) .ret) .skip)) (.norm [0, 1, 2, 3, 4] [] spec_l01Line_k0))) }
noncomputable def spec_l01Line_D : List (Nat × Callee) := [(16, spec_l01Div_c)]
def spec_l01Line_H : List (Nat × ET) := []
noncomputable def spec_l01Line_c : Callee := mkCallee spec_l01Line_D spec_l01Line_H spec_l01Line_ir [.d (.one (.int .i64)), .d (.one (.int .i64)), .d (.one (.int .i64)), .d (.one (.int .i64)), .d (.one (.int .i64))] [.d (.one (.int .i64))] []
noncomputable def spec_l01Line (a0 : Int) (a1 : Int) (a2 : Int) (a3 : Int) (a4 : Int) : Option (Int) := spec_l01Line_c.f (a0, a1, a2, a3, a4, ())
noncomputable def spec_l01Line_p0  (v0 : Int) (v1 : Int) (v2 : Int) (v3 : Int) (v4 : Int) : Option (Int) :=
 goL spec_l01Line_D spec_l01Line_H (vleave spec_l01Line_ir [.d (.one (.int .i64)), .d (.one (.int .i64)), .d (.one (.int .i64)), .d (.one (.int .i64)), .d (.one (.int .i64))] [.d (.one (.int .i64))] [] []) [.c spec_l01Line_k0]
  ⟨[(0, .int .i64 v0), (1, .int .i64 v1), (2, .int .i64 v2), (3, .int .i64 v3), (4, .int .i64 v4)], []⟩
theorem spec_l01Line_eq (a0 : Int) (a1 : Int) (a2 : Int) (a3 : Int) (a4 : Int) : spec_l01Line a0 a1 a2 a3 a4 =
  if decide (a4 ≤ a0) then
   some a1
  else
   if decide (a2 ≤ a0) then
    some a1
   else
    spec_l01Line_p0 a0 a1 a2 a3 a4 :=
 (mk_f _ _ _ _ _ _ _ 4000).trans (by kernel_rfl)
theorem spec_l01Line_p0_eq  (v0 : Int) (v1 : Int) (v2 : Int) (v3 : Int) (v4 : Int) : spec_l01Line_p0 v0 v1 v2 v3 v4 =
  if decide (v4 ≥ v2) then
   some v3
  else
   (spec_l01Div (IntKind.i64.wrap ((IntKind.i64.wrap (v3 - v1)) * (IntKind.i64.wrap (v4 - v0)))) (IntKind.i64.wrap (v2 - v0))).bind fun x1 =>
    some (IntKind.i64.wrap (v1 + x1)) :=
 (goL_dn _ _ _ 4000 _ _).trans (by kernel_rfl)

/- spec.l04Even -/
def spec_l04Even_k0 : C :=
 .seq (.seq (.reg false [⟨some 8, false, .mv (.t 5), none, false, []⟩, ⟨some 9, false, .mv (.t 3), none, false, []⟩, ⟨some 10, false, .len (.t 9), none, false, []⟩, ⟨some 11, false, .bin .lss (.t 8) (.t 10), none, false, []⟩] [0, 3, 4, 5, 11] [3, 4]) (.cond (.t 11) .skip (.exit 0))) (.seq (.block 1 (.seq (.reg false [⟨some 14, false, .mv (.t 0), none, false, []⟩, ⟨some 15, false, .mv (.t 3), none, false, []⟩, ⟨some 16, false, .mv (.t 5), none, false, []⟩, ⟨some 17, false, .ia 1 (.t 15) (.t 16), none, false, []⟩, ⟨some 18, false, .ld none (.t 17), none, false, []⟩, ⟨some 19, false, .bin .leq (.t 14) (.t 18), none, false, []⟩] [0, 3, 4, 5, 19] [3, 4]) (.cond (.t 19) (.seq (.reg true [⟨some 20, false, .mv (.t 3), none, false, []⟩, ⟨some 21, false, .mv (.t 5), none, false, []⟩, ⟨some 22, false, .bin .sub (.t 21) (.c (.int .i64 1)), none, false, []⟩, ⟨some 23, false, .ia 1 (.t 20) (.t 22), none, false, []⟩, ⟨some 24, false, .ld none (.t 23), none, false, []⟩, ⟨some 25, false, .mv (.t 4), none, false, []⟩, ⟨some 26, false, .mv (.t 5), none, false, []⟩, ⟨some 27, false, .bin .sub (.t 26) (.c (.int .i64 1)), none, false, []⟩, ⟨some 28, false, .ia 1 (.t 25) (.t 27), none, false, []⟩, ⟨some 29, false, .ld none (.t 28), none, false, []⟩, ⟨some 30, false, .mv (.t 3), none, false, []⟩, ⟨some 31, false, .mv (.t 5), none, false, []⟩, ⟨some 32, false, .ia 1 (.t 30) (.t 31), none, false, []⟩, ⟨some 33, false, .ld none (.t 32), none, false, []⟩, ⟨some 34, false, .mv (.t 4), none, false, []⟩, ⟨some 35, false, .mv (.t 5), none, false, []⟩, ⟨some 36, false, .ia 1 (.t 34) (.t 35), none, false, []⟩, ⟨some 37, false, .ld none (.t 36), none, false, []⟩, ⟨some 38, false, .mv (.t 0), none, false, []⟩, ⟨some 39, false, .call (.c (.fn 853 [])) [.t 24, .t 29, .t 33, .t 37, .t 38], none, false, []⟩, ⟨some 2, false, .asg (.t 39), none, false, []⟩] [2] []) .ret) .skip))) (.reg false [⟨some 12, false, .mv (.t 5), none, false, []⟩, ⟨some 13, false, .bin .add (.t 12) (.c (.int .i64 1)), none, false, []⟩, ⟨some 5, false, .asg (.t 13), none, false, []⟩] [0, 3, 4, 5] [3, 4]))
def spec_l04Even_k1 : C :=
 .norm [0, 3, 4, 5] [3, 4] spec_l04Even_k0
def spec_l04Even_k2 : C :=
 .seq (.reg false [⟨some 2, false, .asg (.c (.int .i64 280)), none, false, []⟩] [2] []) .ret
def spec_l04Even_ir : Fn := { np := 1, io := [], res := [.t 2], own := [false], body :=
 (.seq (.reg false [⟨some 2, false, .asg (.c (.int .i64 0)), none, false, []⟩] [0] []) (.seq (.reg false [⟨some 6, false, .bsl 1 (.int .i64 0) 5 [(0, .c (.int .i64 0)), (1, .c (.int .i64 300)), (2, .c (.int .i64 600)), (3, .c (.int .i64 800)), (4, .c (.int .i64 1000))], none, false, []⟩, ⟨some 3, true, .asg (.t 6), none, false, []⟩] [0, 3] [3]) (.seq (.reg false [⟨some 7, false, .bsl 1 (.int .i64 0) 5 [(0, .c (.int .i64 0)), (1, .c (.int .i64 60)), (2, .c (.int .i64 110)), (3, .c (.int .i64 160)), (4, .c (.int .i64 280))], none, false, []⟩, ⟨some 4, true, .asg (.t 7), none, false, []⟩] [0, 3, 4] [3, 4]) (.seq (.seq (.reg false [⟨some 5, false, .asg (.c (.int .i64 1)), none, false, []⟩] [0, 3, 4, 5] [3, 4]) (.block 0 (.loop spec_l04Even_k1))) spec_l04Even_k2)))) }
noncomputable def spec_l04Even_D : List (Nat × Callee) := [(853, spec_l01Line_c)]
def spec_l04Even_H : List (Nat × ET) := [(3, (.one (.int .i64))), (4, (.one (.int .i64))), (6, (.one (.int .i64))), (7, (.one (.int .i64))), (9, (.one (.int .i64))), (15, (.one (.int .i64))), (20, (.one (.int .i64))), (25, (.one (.int .i64))), (30, (.one (.int .i64))), (34, (.one (.int .i64)))]
noncomputable def spec_l04Even_c : Callee := mkCallee spec_l04Even_D spec_l04Even_H spec_l04Even_ir [.d (.one (.int .i64))] [.d (.one (.int .i64))] []
noncomputable def spec_l04Even (a0 : Int) : Option (Int) := spec_l04Even_c.f (a0, ())
noncomputable def spec_l04Even_p0  (v0 : Int) (v5 : Int) (r3 : List Int) (r4 : List Int) : Option (Int) :=
 goL spec_l04Even_D spec_l04Even_H (vleave spec_l04Even_ir [.d (.one (.int .i64))] [.d (.one (.int .i64))] [] []) [.c spec_l04Even_k0, .l spec_l04Even_k1, .e 0, .c spec_l04Even_k2]
  ⟨[(0, .int .i64 v0), (3, .view 3 0 r3.length), (4, .view 4 0 r4.length), (5, .int .i64 v5)], [(3, some (.sl (.one (.int .i64)) r3)), (4, some (.sl (.one (.int .i64)) r4))]⟩
theorem spec_l04Even_eq (a0 : Int) : spec_l04Even a0 =
  spec_l04Even_p0 a0 1 [0, 300, 600, 800, 1000] [0, 60, 110, 160, 280] :=
 (mk_f _ _ _ _ _ _ _ 4000).trans (by kernel_rfl)
theorem spec_l04Even_p0_eq  (v0 : Int) (v5 : Int) (r3 : List Int) (r4 : List Int) : spec_l04Even_p0 v0 v5 r3 r4 =
  if decide (v5 < (r3.length : Int)) then
   if decide (0 ≤ v5) && decide (v5 < (r3.length : Int)) then
    (r3[v5.toNat]?).bind fun x1 =>
     if decide (v0 ≤ x1) then
      if decide (0 ≤ IntKind.i64.wrap (v5 - 1)) && decide (IntKind.i64.wrap (v5 - 1) < (r3.length : Int)) then
       (r3[(IntKind.i64.wrap (v5 - 1)).toNat]?).bind fun x2 =>
        if decide (0 ≤ IntKind.i64.wrap (v5 - 1)) && decide (IntKind.i64.wrap (v5 - 1) < (r4.length : Int)) then
         (r4[(IntKind.i64.wrap (v5 - 1)).toNat]?).bind fun x3 =>
          if decide (0 ≤ v5) && decide (v5 < (r3.length : Int)) then
           (r3[v5.toNat]?).bind fun x4 =>
            if decide (0 ≤ v5) && decide (v5 < (r4.length : Int)) then
             (r4[v5.toNat]?).bind fun x5 =>
              (spec_l01Line x2 x3 x4 x5 v0).bind fun x6 =>
               some x6
            else
             none
          else
           none
        else
         none
      else
       none
     else
      spec_l04Even_p0 v0 (IntKind.i64.wrap (v5 + 1)) r3 r4
   else
    none
  else
   some 280 :=
 (goL_dn _ _ _ 4000 _ _).trans (by kernel_rfl)

/- spec.l04Change -/
def spec_l04Change_ir : Fn := { np := 3, io := [], res := [.t 6], own := [false], body :=
 (.seq (.reg false [⟨some 6, false, .asg (.c (.int .i64 0)), none, false, []⟩] [0, 1, 2] []) (.seq (.reg false [⟨some 7, false, .mv (.t 1), none, false, []⟩, ⟨some 8, false, .mv (.t 0), none, false, []⟩, ⟨some 9, false, .bin .sub (.t 7) (.t 8), none, false, []⟩, ⟨some 10, false, .bin .mul (.c (.int .i64 20)) (.t 9), none, false, []⟩, ⟨some 11, false, .mv (.t 2), none, false, []⟩, ⟨some 12, false, .bin .add (.t 11) (.c (.int .i64 20)), none, false, []⟩, ⟨some 13, false, .call (.c (.fn 16 [])) [.t 10, .t 12], none, false, []⟩, ⟨some 6, false, .asg (.t 13), none, false, []⟩] [6] []) .ret)) }
noncomputable def spec_l04Change_D : List (Nat × Callee) := [(16, spec_l01Div_c)]
def spec_l04Change_H : List (Nat × ET) := []
noncomputable def spec_l04Change_c : Callee := mkCallee spec_l04Change_D spec_l04Change_H spec_l04Change_ir [.d (.one (.int .i64)), .d (.one (.int .i64)), .d (.one (.int .i64))] [.d (.one (.int .i64))] []
noncomputable def spec_l04Change (a0 : Int) (a1 : Int) (a2 : Int) : Option (Int) := spec_l04Change_c.f (a0, a1, a2, ())
theorem spec_l04Change_eq (a0 : Int) (a1 : Int) (a2 : Int) : spec_l04Change a0 a1 a2 =
  (spec_l01Div (IntKind.i64.wrap (20 * (IntKind.i64.wrap (a1 - a0)))) (IntKind.i64.wrap (a2 + 20))).bind fun x1 =>
   some x1 :=
 (mk_f _ _ _ _ _ _ _ 4000).trans (by kernel_rfl)

/- spec.l04After -/
def spec_l04After_k0 : C :=
 .seq (.seq (.reg false [⟨some 11, false, .mv (.t 9), none, false, []⟩, ⟨some 12, false, .mv (.t 3), none, false, []⟩, ⟨some 13, false, .bin .lss (.t 11) (.t 12), none, false, []⟩] [0, 1, 2, 3, 9, 13] []) (.cond (.t 13) .skip (.exit 0))) (.seq (.block 1 (.seq (.reg false [⟨some 16, false, .mv (.t 0), none, false, []⟩, ⟨some 17, false, .mv (.t 1), none, false, []⟩, ⟨some 18, false, .mv (.t 2), none, false, []⟩, ⟨some 19, false, .call (.c (.fn 852 [])) [.t 16, .t 17, .t 18], none, false, []⟩, ⟨some 10, false, .asg (.t 19), none, false, []⟩] [0, 1, 2, 3, 9, 10] []) (.seq (.seq (.reg false [⟨some 20, false, .mv (.t 10), none, false, []⟩, ⟨some 21, false, .bin .eql (.t 20) (.c (.int .i64 0)), none, false, []⟩] [0, 1, 2, 3, 9, 10, 21] []) (.cond (.t 21) (.exit 0) .skip)) (.reg false [⟨some 22, false, .mv (.t 0), none, false, []⟩, ⟨some 23, false, .mv (.t 10), none, false, []⟩, ⟨some 24, false, .bin .add (.t 22) (.t 23), none, false, []⟩, ⟨some 0, false, .asg (.t 24), none, false, []⟩] [0, 1, 2, 3, 9] [])))) (.reg false [⟨some 14, false, .mv (.t 9), none, false, []⟩, ⟨some 15, false, .bin .add (.t 14) (.c (.int .i64 1)), none, false, []⟩, ⟨some 9, false, .asg (.t 15), none, false, []⟩] [0, 1, 2, 3, 9] []))
def spec_l04After_k1 : C :=
 .norm [0, 1, 2, 3, 9] [] spec_l04After_k0
def spec_l04After_k2 : C :=
 .seq (.reg false [⟨some 25, false, .mv (.t 0), none, false, []⟩, ⟨some 8, false, .asg (.t 25), none, false, []⟩] [8] []) .ret
def spec_l04After_ir : Fn := { np := 4, io := [], res := [.t 8], own := [false], body :=
 (.seq (.reg false [⟨some 8, false, .asg (.c (.int .i64 0)), none, false, []⟩] [0, 1, 2, 3] []) (.seq (.seq (.reg false [⟨some 9, false, .asg (.c (.int .i64 0)), none, false, []⟩] [0, 1, 2, 3, 9] []) (.block 0 (.loop spec_l04After_k1))) spec_l04After_k2)) }
noncomputable def spec_l04After_D : List (Nat × Callee) := [(852, spec_l04Change_c)]
def spec_l04After_H : List (Nat × ET) := []
noncomputable def spec_l04After_c : Callee := mkCallee spec_l04After_D spec_l04After_H spec_l04After_ir [.d (.one (.int .i64)), .d (.one (.int .i64)), .d (.one (.int .i64)), .d (.one (.int .i64))] [.d (.one (.int .i64))] []
noncomputable def spec_l04After (a0 : Int) (a1 : Int) (a2 : Int) (a3 : Int) : Option (Int) := spec_l04After_c.f (a0, a1, a2, a3, ())
noncomputable def spec_l04After_p0  (v0 : Int) (v1 : Int) (v2 : Int) (v3 : Int) (v9 : Int) : Option (Int) :=
 goL spec_l04After_D spec_l04After_H (vleave spec_l04After_ir [.d (.one (.int .i64)), .d (.one (.int .i64)), .d (.one (.int .i64)), .d (.one (.int .i64))] [.d (.one (.int .i64))] [] []) [.c spec_l04After_k0, .l spec_l04After_k1, .e 0, .c spec_l04After_k2]
  ⟨[(0, .int .i64 v0), (1, .int .i64 v1), (2, .int .i64 v2), (3, .int .i64 v3), (9, .int .i64 v9)], []⟩
theorem spec_l04After_eq (a0 : Int) (a1 : Int) (a2 : Int) (a3 : Int) : spec_l04After a0 a1 a2 a3 =
  spec_l04After_p0 a0 a1 a2 a3 0 :=
 (mk_f _ _ _ _ _ _ _ 4000).trans (by kernel_rfl)
theorem spec_l04After_p0_eq  (v0 : Int) (v1 : Int) (v2 : Int) (v3 : Int) (v9 : Int) : spec_l04After_p0 v0 v1 v2 v3 v9 =
  if decide (v9 < v3) then
   (spec_l04Change v0 v1 v2).bind fun x1 =>
    if (x1 == 0) then
     some v0
    else
     spec_l04After_p0 (IntKind.i64.wrap (v0 + x1)) v1 v2 v3 (IntKind.i64.wrap (v9 + 1))
  else
   some v0 :=
 (goL_dn _ _ _ 4000 _ _).trans (by kernel_rfl)

/- spec.MoistureAfter -/
def spec_MoistureAfter_k0 : C :=
 .seq (.reg true [⟨some 18, false, .fa 1 (.t 3), none, false, []⟩, ⟨some 19, false, .ld none (.t 18), none, false, []⟩, ⟨some 20, false, .mv (.t 1), none, false, []⟩, ⟨some 21, false, .call (.c (.fn 488 [])) [.t 20], none, false, []⟩, ⟨some 22, false, .fa 2 (.t 3), none, false, []⟩, ⟨some 23, false, .ld none (.t 22), none, false, []⟩, ⟨some 24, false, .mv (.t 2), none, false, []⟩, ⟨some 25, false, .call (.c (.fn 489 [])) [.t 19, .t 21, .t 23, .t 24], none, false, []⟩, ⟨some 6, false, .asg (.t 25), none, false, []⟩, ⟨some 7, false, .asg (.c (.int .i64 0)), none, false, []⟩] [6, 7] []) .ret
def spec_MoistureAfter_ir : Fn := { np := 3, io := [], res := [.t 6, .t 7], own := [false, false], body :=
 (.seq (.reg false [⟨some 3, true, .box 4 (.t 0), none, false, []⟩, ⟨some 6, false, .asg (.c (.int .i64 0)), none, false, []⟩, ⟨some 7, false, .asg (.c (.int .i64 0)), none, false, []⟩] [1, 2, 3] [3]) (.seq (.seq (.reg false [⟨some 8, false, .call (.c (.fn 492 [])) [.t 3], none, false, []⟩, ⟨some 9, false, .un .not (.t 8), none, false, []⟩] [1, 2, 3, 9] [3]) (.cond (.t 9) (.seq (.reg false [⟨some 6, false, .asg (.c (.int .i64 0)), none, false, []⟩, ⟨some 7, false, .asg (.c (.int .i64 1)), none, false, []⟩] [6, 7] []) .ret) .skip)) (.seq (.seq (.reg false [⟨some 10, false, .mv (.t 1), none, false, []⟩, ⟨some 11, false, .call (.c (.fn 490 [])) [.t 10], none, false, []⟩, ⟨some 12, false, .un .not (.t 11), none, false, []⟩, ⟨some 13, false, .mv (.t 12), none, false, []⟩, ⟨some 14, false, .mv (.t 2), some (3, false), false, []⟩, ⟨some 15, false, .call (.c (.fn 491 [])) [.t 14], some (3, false), false, []⟩, ⟨some 16, false, .un .not (.t 15), some (3, false), false, []⟩, ⟨some 17, false, .pick (.t 13) (.c (.bool true)) (.t 16), none, false, []⟩] [1, 2, 3, 17] [3]) (.cond (.t 17) (.seq (.reg false [⟨some 6, false, .asg (.c (.int .i64 0)), none, false, []⟩, ⟨some 7, false, .asg (.c (.int .i64 2)), none, false, []⟩] [6, 7] []) .ret) .skip)) (.norm [1, 2, 3] [3] spec_MoistureAfter_k0)))) }
noncomputable def spec_MoistureAfter_D : List (Nat × Callee) := [(488, spec_l04Even_c), (489, spec_l04After_c), (490, spec_l04Share_c), (491, spec_l04Days_c), (492, spec_l04One_c)]
def spec_MoistureAfter_H : List (Nat × ET) := []
noncomputable def spec_MoistureAfter_c : Callee := mkCallee spec_MoistureAfter_D spec_MoistureAfter_H spec_MoistureAfter_ir [.d T_Peg, .d (.one (.int .i64)), .d (.one (.int .i64))] [.d (.one (.int .i64)), .d (.one (.int .i64))] []
noncomputable def spec_MoistureAfter (a0 : T_Peg.ty) (a1 : Int) (a2 : Int) : Option (Int × Int) := spec_MoistureAfter_c.f (a0, a1, a2, ())
noncomputable def spec_MoistureAfter_p0  (v1 : Int) (v2 : Int) (r3_0 : List UInt8) (r3_1 : Int) (r3_2 : Int) (r3_3 : Int) : Option (Int × Int) :=
 goL spec_MoistureAfter_D spec_MoistureAfter_H (vleave spec_MoistureAfter_ir [.d T_Peg, .d (.one (.int .i64)), .d (.one (.int .i64))] [.d (.one (.int .i64)), .d (.one (.int .i64))] [] []) [.c spec_MoistureAfter_k0]
  ⟨[(1, .int .i64 v1), (2, .int .i64 v2), (3, .loc 3 0 0)], [(3, some (.var 4 (.agg [.str r3_0, .int .i64 r3_1, .int .i64 r3_2, .int .i64 r3_3])))]⟩
theorem spec_MoistureAfter_eq (a0 : T_Peg.ty) (a1 : Int) (a2 : Int) : spec_MoistureAfter a0 a1 a2 =
  (spec_l04One a0).bind fun x1 =>
   if (!x1) then
    some (0, 1)
   else
    (spec_l04Share a1).bind fun x2 =>
     if (!x2) then
      some (0, 2)
     else
      (spec_l04Days a2).bind fun x3 =>
       if (!x3) then
        some (0, 2)
       else
        spec_MoistureAfter_p0 a1 a2 a0.1 a0.2.1 a0.2.2.1 a0.2.2.2.1 :=
 (mk_f _ _ _ _ _ _ _ 4000).trans (by kernel_rfl)
theorem spec_MoistureAfter_p0_eq  (v1 : Int) (v2 : Int) (r3_0 : List UInt8) (r3_1 : Int) (r3_2 : Int) (r3_3 : Int) : spec_MoistureAfter_p0 v1 v2 r3_0 r3_1 r3_2 r3_3 =
  (spec_l04Even v1).bind fun x1 =>
   (spec_l04After r3_1 x1 r3_2 v2).bind fun x2 =>
    some (x2, 0) :=
 (goL_dn _ _ _ 4000 _ _).trans (by kernel_rfl)

/- spec.l04DrawOne -/
def spec_l04DrawOne_ir : Fn := { np := 2, io := [true, false], res := [.cell 4 (some 4)], own := [false], body :=
 (.seq (.reg false [⟨some 4, true, .alloc 4 (.agg [.str [], .int .i64 0, .int .i64 0, .int .i64 0]), none, false, []⟩] [0, 1, 4] [0, 4, 1000]) (.seq (.reg false [⟨some 6, false, .mv (.t 1), none, false, []⟩, ⟨some 7, false, .mv (.t 0), none, false, []⟩, ⟨some 8, true, .call (.c (.fn 463 [])) [.t 7, .c (.int .i64 120)], none, false, []⟩, ⟨some 9, false, .bin .mul (.c (.int .i64 5)) (.t 8), none, false, []⟩, ⟨some 10, false, .mv (.t 0), none, false, []⟩, ⟨some 11, true, .call (.c (.fn 463 [])) [.t 10, .c (.int .i64 50)], none, false, []⟩, ⟨some 12, false, .bin .mul (.c (.int .i64 10)) (.t 11), none, false, []⟩, ⟨some 13, false, .bin .add (.c (.int .i64 10)) (.t 12), none, false, []⟩, ⟨some 14, false, .build [.str [], .int .i64 0, .int .i64 0, .int .i64 0] [(0, 1, .t 6), (1, 1, .t 9), (2, 1, .t 13)], none, false, []⟩, ⟨some 5, true, .alloc 4 (.agg [.str [], .int .i64 0, .int .i64 0, .int .i64 0]), none, false, []⟩, ⟨none, true, .sto 4 (.t 5) (.t 14), none, false, []⟩] [0, 4, 5] [0, 4, 5, 1000]) (.seq (.reg false [⟨some 15, false, .mv (.t 0), none, false, []⟩, ⟨some 16, true, .call (.c (.fn 463 [])) [.t 15, .c (.int .i64 900)], none, false, []⟩, ⟨some 17, false, .bin .add (.c (.int .i64 8000)) (.t 16), none, false, []⟩, ⟨some 18, false, .fa 3 (.t 5), none, false, []⟩, ⟨none, true, .sto 1 (.t 18) (.t 17), none, false, []⟩] [0, 4, 5] [0, 4, 5, 1000]) (.seq (.reg false [⟨some 19, false, .ld (some 4) (.t 5), none, false, []⟩, ⟨none, true, .sto 4 (.t 4) (.t 19), none, false, []⟩] [0, 4] [0, 4, 1000]) .ret)))) }
noncomputable def spec_l04DrawOne_D : List (Nat × Callee) := [(463, spec_l00Src_pick_c)]
def spec_l04DrawOne_H : List (Nat × ET) := []
noncomputable def spec_l04DrawOne_c : Callee := mkCallee spec_l04DrawOne_D spec_l04DrawOne_H spec_l04DrawOne_ir [.box T_l00Src, .d (.one .str)] [.d T_Peg] [.box T_l00Src]
noncomputable def spec_l04DrawOne (a0 : T_l00Src.ty) (a1 : List UInt8) : Option (T_Peg.ty × T_l00Src.ty) := spec_l04DrawOne_c.f (a0, a1, ())
theorem spec_l04DrawOne_eq (a0 : T_l00Src.ty) (a1 : List UInt8) : spec_l04DrawOne a0 a1 =
  (spec_l00Src_pick a0 120).bind fun x1 =>
   (spec_l00Src_pick (x1.2.1, x1.2.2.1, x1.2.2.2.1, ()) 50).bind fun x2 =>
    (spec_l00Src_pick (x2.2.1, x2.2.2.1, x2.2.2.2.1, ()) 900).bind fun x3 =>
     some ((a1, IntKind.i64.wrap (5 * x1.1), IntKind.i64.wrap (10 + (IntKind.i64.wrap (10 * x2.1))), IntKind.i64.wrap (8000 + x3.1), ()), (x3.2.1, x3.2.2.1, x3.2.2.2.1, ())) :=
 (mk_f _ _ _ _ _ _ _ 4000).trans (by kernel_rfl)

/- spec.l04Bent -/
def spec_l04Bent_ir : Fn := { np := 2, io := [true, false], res := [.cell 4 (some 4)], own := [false], body :=
 (.seq (.reg false [⟨some 3, true, .box 4 (.t 1), none, false, []⟩, ⟨some 4, true, .alloc 4 (.agg [.str [], .int .i64 0, .int .i64 0, .int .i64 0]), none, false, []⟩] [0, 3, 4] [0, 3, 4, 1000]) (.seq (.seq (.reg false [⟨some 5, false, .mv (.t 0), none, false, []⟩, ⟨some 6, true, .call (.c (.fn 463 [])) [.t 5, .c (.int .i64 20)], none, false, []⟩] [0, 3, 4, 6] [0, 3, 4, 1000]) (.block 0 (.seq (.reg false [⟨some 8, false, .bin .eql (.t 6) (.c (.int .i64 0)), none, false, []⟩, ⟨some 7, false, .asg (.t 8), none, false, []⟩] [0, 3, 4, 6, 7] [0, 3, 4, 1000]) (.cond (.t 7) (.reg false [⟨some 9, false, .mv (.t 0), none, false, []⟩, ⟨some 10, false, .bsl 1 (.int .i64 0) 4 [(0, .c (.int .i64 (-1))), (1, .c (.int .i64 0)), (2, .c (.int .i64 1000)), (3, .c (.int .i64 1001))], none, false, []⟩, ⟨some 11, true, .call (.c (.fn 445 [])) [.t 9, .t 10], none, false, []⟩, ⟨some 12, false, .fa 1 (.t 3), none, false, []⟩, ⟨none, true, .sto 1 (.t 12) (.t 11), none, false, []⟩] [0, 3, 4] [0, 3, 4, 1000]) (.seq (.reg false [⟨some 14, false, .bin .eql (.t 6) (.c (.int .i64 1)), none, false, []⟩, ⟨some 13, false, .asg (.t 14), none, false, []⟩] [0, 3, 4, 6, 13] [0, 3, 4, 1000]) (.cond (.t 13) (.reg false [⟨some 15, false, .mv (.t 0), none, false, []⟩, ⟨some 16, false, .bsl 1 (.int .i64 0) 4 [(0, .c (.int .i64 9)), (1, .c (.int .i64 10)), (2, .c (.int .i64 1000)), (3, .c (.int .i64 1001))], none, false, []⟩, ⟨some 17, true, .call (.c (.fn 445 [])) [.t 15, .t 16], none, false, []⟩, ⟨some 18, false, .fa 2 (.t 3), none, false, []⟩, ⟨none, true, .sto 1 (.t 18) (.t 17), none, false, []⟩] [0, 3, 4] [0, 3, 4, 1000]) (.seq (.reg false [⟨some 20, false, .bin .eql (.t 6) (.c (.int .i64 2)), none, false, []⟩, ⟨some 19, false, .asg (.t 20), none, false, []⟩] [0, 3, 4, 19] [0, 3, 4, 1000]) (.cond (.t 19) (.reg false [⟨some 21, false, .mv (.t 0), none, false, []⟩, ⟨some 22, false, .bsl 1 (.int .i64 0) 4 [(0, .c (.int .i64 (-1))), (1, .c (.int .i64 0)), (2, .c (.int .i64 36524)), (3, .c (.int .i64 36525))], none, false, []⟩, ⟨some 23, true, .call (.c (.fn 445 [])) [.t 21, .t 22], none, false, []⟩, ⟨some 24, false, .fa 3 (.t 3), none, false, []⟩, ⟨none, true, .sto 1 (.t 24) (.t 23), none, false, []⟩] [0, 3, 4] [0, 3, 4, 1000]) .skip)))))))) (.seq (.reg false [⟨some 25, false, .ld (some 4) (.t 3), none, false, []⟩, ⟨none, true, .sto 4 (.t 4) (.t 25), none, false, []⟩] [0, 4] [0, 4, 1000]) .ret))) }
noncomputable def spec_l04Bent_D : List (Nat × Callee) := [(445, spec_l00Src_among_c), (463, spec_l00Src_pick_c)]
def spec_l04Bent_H : List (Nat × ET) := [(10, (.one (.int .i64))), (16, (.one (.int .i64))), (22, (.one (.int .i64)))]
noncomputable def spec_l04Bent_c : Callee := mkCallee spec_l04Bent_D spec_l04Bent_H spec_l04Bent_ir [.box T_l00Src, .d T_Peg] [.d T_Peg] [.box T_l00Src]
noncomputable def spec_l04Bent (a0 : T_l00Src.ty) (a1 : T_Peg.ty) : Option (T_Peg.ty × T_l00Src.ty) := spec_l04Bent_c.f (a0, a1, ())
theorem spec_l04Bent_eq (a0 : T_l00Src.ty) (a1 : T_Peg.ty) : spec_l04Bent a0 a1 =
  (spec_l00Src_pick a0 20).bind fun x1 =>
   if (x1.1 == 0) then
    (spec_l00Src_among (x1.2.1, x1.2.2.1, x1.2.2.2.1, ()) [(-1), 0, 1000, 1001]).bind fun x2 =>
     some ((a1.1, x2.1, a1.2.2.1, a1.2.2.2.1, ()), (x2.2.1, x2.2.2.1, x2.2.2.2.1, ()))
   else
    if (x1.1 == 1) then
     (spec_l00Src_among (x1.2.1, x1.2.2.1, x1.2.2.2.1, ()) [9, 10, 1000, 1001]).bind fun x3 =>
      some ((a1.1, a1.2.1, x3.1, a1.2.2.2.1, ()), (x3.2.1, x3.2.2.1, x3.2.2.2.1, ()))
    else
     if (x1.1 == 2) then
      (spec_l00Src_among (x1.2.1, x1.2.2.1, x1.2.2.2.1, ()) [(-1), 0, 36524, 36525]).bind fun x4 =>
       some ((a1.1, a1.2.1, a1.2.2.1, x4.1, ()), (x4.2.1, x4.2.2.1, x4.2.2.2.1, ()))
     else
      some (a1, (x1.2.1, x1.2.2.1, x1.2.2.2.1, ())) :=
 (mk_f _ _ _ _ _ _ _ 4000).trans (by kernel_rfl)

/- spec.l04Draw -/
def spec_l04Draw_k0 : C :=
 .seq (.seq (.reg false [⟨some 10, false, .mv (.t 5), none, false, []⟩, ⟨some 11, false, .mv (.t 3), none, false, []⟩, ⟨some 12, false, .len (.t 11), none, false, []⟩, ⟨some 13, false, .bin .lss (.t 10) (.t 12), none, false, []⟩] [0, 3, 4, 5, 13] [0, 3, 4, 1000]) (.cond (.t 13) .skip (.exit 0))) (.seq (.block 1 (.seq (.reg false [⟨some 16, false, .mv (.t 0), none, false, []⟩, ⟨some 17, true, .call (.c (.fn 642 [])) [.t 16, .c (.int .i64 3)], none, false, []⟩, ⟨some 18, false, .un .not (.t 17), none, false, []⟩] [0, 3, 4, 5, 18] [0, 3, 4, 1000]) (.cond (.t 18) (.reg false [⟨some 19, false, .mv (.t 4), none, false, []⟩, ⟨some 20, false, .mv (.t 0), none, false, []⟩, ⟨some 21, false, .mv (.t 3), none, false, []⟩, ⟨some 22, false, .mv (.t 5), none, false, []⟩, ⟨some 23, false, .ia 1 (.t 21) (.t 22), none, false, []⟩, ⟨some 24, false, .ld none (.t 23), none, false, []⟩, ⟨some 25, true, .call (.c (.fn 480 [])) [.t 20, .t 24], none, false, []⟩, ⟨some 26, false, .bsl 4 (.agg [.str [], .int .i64 0, .int .i64 0, .int .i64 0]) 1 [(0, .t 25)], none, false, []⟩, ⟨some 27, true, .app 4 40 (.t 19) (.t 26), none, false, []⟩, ⟨some 4, true, .asg (.t 27), none, false, []⟩] [0, 3, 4, 5] [0, 3, 4, 1000]) .skip))) (.reg false [⟨some 14, false, .mv (.t 5), none, false, []⟩, ⟨some 15, false, .bin .add (.t 14) (.c (.int .i64 1)), none, false, []⟩, ⟨some 5, false, .asg (.t 15), none, false, []⟩] [0, 3, 4, 5] [0, 3, 4, 1000]))
def spec_l04Draw_k1 : C :=
 .norm [0, 3, 4, 5] [0, 3, 4, 1000] spec_l04Draw_k0
def spec_l04Draw_k2 : C :=
 .seq (.seq (.reg false [⟨some 45, false, .mv (.t 7), none, false, []⟩, ⟨some 46, false, .mv (.t 6), none, false, []⟩, ⟨some 47, false, .bin .lss (.t 45) (.t 46), none, false, []⟩] [0, 4, 6, 7, 47] [0, 4, 1000]) (.cond (.t 47) .skip (.exit 3))) (.seq (.block 4 (.reg false [⟨some 50, false, .mv (.t 4), none, false, []⟩, ⟨some 51, false, .mv (.t 0), none, false, []⟩, ⟨some 52, false, .mv (.t 7), none, false, []⟩, ⟨some 53, false, .bin .add (.c (.int .i64 97)) (.t 52), none, false, []⟩, ⟨some 54, false, .conv (.int .u8) (.t 53), none, false, []⟩, ⟨some 55, false, .bsl 1 (.int .u8 0) 1 [(0, .t 54)], none, false, []⟩, ⟨some 56, false, .conv .bytesStr (.t 55), none, false, []⟩, ⟨some 57, false, .bin .add (.c (.str [110])) (.t 56), none, false, []⟩, ⟨some 58, true, .call (.c (.fn 480 [])) [.t 51, .t 57], none, false, []⟩, ⟨some 59, false, .bsl 4 (.agg [.str [], .int .i64 0, .int .i64 0, .int .i64 0]) 1 [(0, .t 58)], none, false, []⟩, ⟨some 60, true, .app 4 40 (.t 50) (.t 59), none, false, []⟩, ⟨some 4, true, .asg (.t 60), none, false, []⟩] [0, 4, 6, 7] [0, 4, 1000])) (.reg false [⟨some 48, false, .mv (.t 7), none, false, []⟩, ⟨some 49, false, .bin .add (.t 48) (.c (.int .i64 1)), none, false, []⟩, ⟨some 7, false, .asg (.t 49), none, false, []⟩] [0, 4, 6, 7] [0, 4, 1000]))
def spec_l04Draw_k3 : C :=
 .norm [0, 4, 6, 7] [0, 4, 1000] spec_l04Draw_k2
def spec_l04Draw_k4 : C :=
 .seq (.reg false [⟨some 61, false, .mv (.t 4), none, false, []⟩, ⟨some 2, true, .asg (.t 61), none, false, []⟩] [0, 2] [0, 2, 4, 1000]) .ret
def spec_l04Draw_k5 : C :=
 .seq (.seq (.reg false [⟨some 28, false, .mv (.t 0), none, false, []⟩, ⟨some 29, true, .call (.c (.fn 463 [])) [.t 28, .c (.int .i64 20)], none, false, []⟩] [0, 4, 29] [0, 4, 1000]) (.block 2 (.seq (.reg false [⟨some 31, false, .bin .eql (.t 29) (.c (.int .i64 0)), none, false, []⟩, ⟨some 30, false, .asg (.t 31), none, false, []⟩] [0, 4, 29, 30] [0, 4, 1000]) (.cond (.t 30) (.reg false [⟨some 32, false, .mv (.t 4), none, false, []⟩, ⟨some 33, false, .mv (.t 0), none, false, []⟩, ⟨some 34, false, .mv (.t 0), none, false, []⟩, ⟨some 35, true, .call (.c (.fn 480 [])) [.t 34, .c (.str [122, 122])], none, false, []⟩, ⟨some 36, true, .call (.c (.fn 481 [])) [.t 33, .t 35], none, false, []⟩, ⟨some 37, false, .bsl 4 (.agg [.str [], .int .i64 0, .int .i64 0, .int .i64 0]) 1 [(0, .t 36)], none, false, []⟩, ⟨some 38, true, .app 4 40 (.t 32) (.t 37), none, false, []⟩, ⟨some 4, true, .asg (.t 38), none, false, []⟩] [0, 4] [0, 4, 1000]) (.seq (.reg false [⟨some 40, false, .bin .eql (.t 29) (.c (.int .i64 1)), none, false, []⟩, ⟨some 39, false, .asg (.t 40), none, false, []⟩] [0, 4, 39] [0, 4, 1000]) (.cond (.t 39) (.seq (.reg false [⟨some 41, false, .mv (.t 0), none, false, []⟩, ⟨some 42, false, .bsl 1 (.int .i64 0) 2 [(0, .c (.int .i64 12)), (1, .c (.int .i64 13))], none, false, []⟩, ⟨some 43, true, .call (.c (.fn 445 [])) [.t 41, .t 42], none, false, []⟩, ⟨some 6, false, .asg (.t 43), none, false, []⟩] [0, 6] [0, 1000]) (.seq (.reg false [⟨some 44, false, .bsl 4 (.agg [.str [], .int .i64 0, .int .i64 0, .int .i64 0]) 0 [], none, false, []⟩, ⟨some 4, true, .asg (.t 44), none, false, []⟩] [0, 4, 6] [0, 4, 1000]) (.seq (.reg false [⟨some 7, false, .asg (.c (.int .i64 0)), none, false, []⟩] [0, 4, 6, 7] [0, 4, 1000]) (.block 3 (.loop spec_l04Draw_k3))))) .skip)))))) spec_l04Draw_k4
def spec_l04Draw_ir : Fn := { np := 1, io := [true], res := [.t 2], own := [true], body :=
 (.seq (.reg false [⟨some 2, true, .asg (.c (.nils 4)), none, false, []⟩] [0] [0, 1000]) (.seq (.reg false [⟨some 8, false, .bsl 1 (.str []) 4 [(0, .c (.str [115, 97])), (1, .c (.str [115, 98])), (2, .c (.str [115, 99])), (3, .c (.str [115, 100]))], none, false, []⟩, ⟨some 3, true, .asg (.t 8), none, false, []⟩] [0, 3] [0, 3, 1000]) (.seq (.reg false [⟨some 9, false, .bsl 4 (.agg [.str [], .int .i64 0, .int .i64 0, .int .i64 0]) 0 [], none, false, []⟩, ⟨some 4, true, .asg (.t 9), none, false, []⟩] [0, 3, 4] [0, 3, 4, 1000]) (.seq (.seq (.reg false [⟨some 5, false, .asg (.c (.int .i64 0)), none, false, []⟩] [0, 3, 4, 5] [0, 3, 4, 1000]) (.block 0 (.loop spec_l04Draw_k1))) spec_l04Draw_k5)))) }
noncomputable def spec_l04Draw_D : List (Nat × Callee) := [(445, spec_l00Src_among_c), (463, spec_l00Src_pick_c), (480, spec_l04DrawOne_c), (481, spec_l04Bent_c), (642, spec_l00Src_one_c)]
def spec_l04Draw_H : List (Nat × ET) := [(2, T_Peg), (3, (.one .str)), (4, T_Peg), (8, (.one .str)), (9, T_Peg), (11, (.one .str)), (19, T_Peg), (21, (.one .str)), (26, T_Peg), (27, T_Peg), (32, T_Peg), (37, T_Peg), (38, T_Peg), (42, (.one (.int .i64))), (44, T_Peg), (50, T_Peg), (55, (.one (.int .u8))), (59, T_Peg), (60, T_Peg), (61, T_Peg)]
noncomputable def spec_l04Draw_c : Callee := mkCallee spec_l04Draw_D spec_l04Draw_H spec_l04Draw_ir [.box T_l00Src] [.tok T_Peg] [.box T_l00Src]
noncomputable def spec_l04Draw (a0 : T_l00Src.ty) : Option (List T_Peg.ty × T_l00Src.ty) := spec_l04Draw_c.f (a0, ())
noncomputable def spec_l04Draw_p0  (v5 : Int) (r0_0 : List Int) (r0_1 : Int) (r0_2 : Int) (r3 : List (List UInt8)) (r4 : List T_Peg.ty) : Option (List T_Peg.ty × T_l00Src.ty) :=
 goL spec_l04Draw_D spec_l04Draw_H (vleave spec_l04Draw_ir [.box T_l00Src] [.tok T_Peg] [.box T_l00Src] []) [.c spec_l04Draw_k0, .l spec_l04Draw_k1, .e 0, .c spec_l04Draw_k5]
  ⟨[(0, .loc 0 0 0), (3, .view 3 0 r3.length), (4, .view 4 0 r4.length), (5, .int .i64 v5)], [(0, some (.var 3 (.agg [.sl (.one (.int .u8)) r0_0, .int .i64 r0_1, .int .u64 r0_2]))), (3, some (.sl (.one .str) r3)), (4, some (.sl T_Peg r4)), (1000, none)]⟩
noncomputable def spec_l04Draw_p1  (v6 : Int) (v7 : Int) (r0_0 : List Int) (r0_1 : Int) (r0_2 : Int) (r4 : List T_Peg.ty) : Option (List T_Peg.ty × T_l00Src.ty) :=
 goL spec_l04Draw_D spec_l04Draw_H (vleave spec_l04Draw_ir [.box T_l00Src] [.tok T_Peg] [.box T_l00Src] []) [.c spec_l04Draw_k2, .l spec_l04Draw_k3, .e 3, .e 2, .c spec_l04Draw_k4]
  ⟨[(0, .loc 0 0 0), (4, .view 4 0 r4.length), (6, .int .i64 v6), (7, .int .i64 v7)], [(0, some (.var 3 (.agg [.sl (.one (.int .u8)) r0_0, .int .i64 r0_1, .int .u64 r0_2]))), (4, some (.sl T_Peg r4)), (1000, none)]⟩
theorem spec_l04Draw_eq (a0 : T_l00Src.ty) : spec_l04Draw a0 =
  spec_l04Draw_p0 0 a0.1 a0.2.1 a0.2.2.1 [[115, 97], [115, 98], [115, 99], [115, 100]] [] :=
 (mk_f _ _ _ _ _ _ _ 4000).trans (by kernel_rfl)
theorem spec_l04Draw_p0_eq  (v5 : Int) (r0_0 : List Int) (r0_1 : Int) (r0_2 : Int) (r3 : List (List UInt8)) (r4 : List T_Peg.ty) : spec_l04Draw_p0 v5 r0_0 r0_1 r0_2 r3 r4 =
  if decide (v5 < (r3.length : Int)) then
   (spec_l00Src_one (r0_0, r0_1, r0_2, ()) 3).bind fun x1 =>
    if (!x1.1) then
     if decide (0 ≤ v5) && decide (v5 < (r3.length : Int)) then
      (r3[v5.toNat]?).bind fun x2 =>
       (spec_l04DrawOne (x1.2.1, x1.2.2.1, x1.2.2.2.1, ()) x2).bind fun x3 =>
        if decide (r4.length + 1 < lim) then
         spec_l04Draw_p0 (IntKind.i64.wrap (v5 + 1)) x3.2.1 x3.2.2.1 x3.2.2.2.1 r3 ((r4.take r4.length) ++ [(x3.1.1, x3.1.2.1, x3.1.2.2.1, x3.1.2.2.2.1, ())])
        else
         none
     else
      none
    else
     spec_l04Draw_p0 (IntKind.i64.wrap (v5 + 1)) x1.2.1 x1.2.2.1 x1.2.2.2.1 r3 r4
  else
   (spec_l00Src_pick (r0_0, r0_1, r0_2, ()) 20).bind fun x4 =>
    if (x4.1 == 0) then
     (spec_l04DrawOne (x4.2.1, x4.2.2.1, x4.2.2.2.1, ()) [122, 122]).bind fun x5 =>
      (spec_l04Bent (x5.2.1, x5.2.2.1, x5.2.2.2.1, ()) (x5.1.1, x5.1.2.1, x5.1.2.2.1, x5.1.2.2.2.1, ())).bind fun x6 =>
       if decide (r4.length + 1 < lim) then
        some ((((r4.take r4.length) ++ [(x6.1.1, x6.1.2.1, x6.1.2.2.1, x6.1.2.2.2.1, ())]).take (((r4.take r4.length) ++ [(x6.1.1, x6.1.2.1, x6.1.2.2.1, x6.1.2.2.2.1, ())]).length)), (x6.2.1, x6.2.2.1, x6.2.2.2.1, ()))
       else
        none
    else
     if (x4.1 == 1) then
      (spec_l00Src_among (x4.2.1, x4.2.2.1, x4.2.2.2.1, ()) [12, 13]).bind fun x7 =>
       spec_l04Draw_p1 x7.1 0 x7.2.1 x7.2.2.1 x7.2.2.2.1 []
     else
      some ((r4.take r4.length), (x4.2.1, x4.2.2.1, x4.2.2.2.1, ())) :=
 (goL_dn _ _ _ 4000 _ _).trans (by kernel_rfl)
theorem spec_l04Draw_p1_eq  (v6 : Int) (v7 : Int) (r0_0 : List Int) (r0_1 : Int) (r0_2 : Int) (r4 : List T_Peg.ty) : spec_l04Draw_p1 v6 v7 r0_0 r0_1 r0_2 r4 =
  if decide (v7 < v6) then
   if decide ([110].length + ([IntKind.u8.wrap (IntKind.i64.wrap (97 + v7))].map vu8).length ≤ strMax) then
    (spec_l04DrawOne (r0_0, r0_1, r0_2, ()) ([110] ++ ([IntKind.u8.wrap (IntKind.i64.wrap (97 + v7))].map vu8))).bind fun x1 =>
     if decide (r4.length + 1 < lim) then
      spec_l04Draw_p1 v6 (IntKind.i64.wrap (v7 + 1)) x1.2.1 x1.2.2.1 x1.2.2.2.1 ((r4.take r4.length) ++ [(x1.1.1, x1.1.2.1, x1.1.2.2.1, x1.1.2.2.2.1, ())])
     else
      none
   else
    none
  else
   some ((r4.take r4.length), (r0_0, r0_1, r0_2, ())) :=
 (goL_dn _ _ _ 4000 _ _).trans (by kernel_rfl)

/- spec.DrawReadyStacks -/
def spec_DrawReadyStacks_k0 : C :=
 .seq (.reg false [⟨some 24, false, .mv (.t 7), none, false, []⟩, ⟨some 25, false, .mv (.t 8), none, false, []⟩, ⟨some 26, false, .mv (.t 9), none, false, []⟩, ⟨some 27, false, .mv (.t 6), none, false, []⟩, ⟨some 28, true, .call (.c (.fn 487 [])) [.t 27], none, false, []⟩, ⟨some 2, true, .asg (.t 24), none, false, []⟩, ⟨some 3, false, .asg (.t 25), none, false, []⟩, ⟨some 4, false, .asg (.t 26), none, false, []⟩, ⟨some 5, false, .asg (.t 28), none, false, []⟩] [2, 3, 4, 5] [2, 7]) .ret
def spec_DrawReadyStacks_ir : Fn := { np := 1, io := [], res := [.t 2, .t 3, .t 4, .t 5], own := [true, false, false, false], body :=
 (.seq (.reg false [⟨some 2, true, .asg (.c (.nils 4)), none, false, []⟩, ⟨some 3, false, .asg (.c (.int .i64 0)), none, false, []⟩, ⟨some 4, false, .asg (.c (.int .i64 0)), none, false, []⟩, ⟨some 5, false, .asg (.c (.int .i64 0)), none, false, []⟩] [0] []) (.seq (.reg false [⟨some 10, false, .mv (.t 0), none, false, []⟩, ⟨some 11, true, .call (.c (.fn 441 [])) [.t 10], none, false, []⟩, ⟨some 6, false, .asg (.t 11), none, false, []⟩] [6] [11, 12000]) (.seq (.reg false [⟨some 12, false, .mv (.t 6), none, false, []⟩, ⟨some 13, true, .call (.c (.fn 821 [])) [.t 12], none, false, []⟩, ⟨some 7, true, .asg (.t 13), none, false, []⟩] [6, 7] [7, 11, 12000]) (.seq (.reg false [⟨some 14, false, .mv (.t 6), none, false, []⟩, ⟨some 15, true, .call (.c (.fn 479 [])) [.t 14], none, false, []⟩, ⟨some 8, false, .asg (.t 15), none, false, []⟩] [6, 7, 8] [7, 11, 12000]) (.seq (.reg false [⟨some 16, false, .mv (.t 6), none, false, []⟩, ⟨some 17, true, .call (.c (.fn 463 [])) [.t 16, .c (.int .i64 1500)], none, false, []⟩, ⟨some 18, false, .bin .add (.c (.int .i64 8500)) (.t 17), none, false, []⟩, ⟨some 9, false, .asg (.t 18), none, false, []⟩] [6, 7, 8, 9] [7, 11, 12000]) (.seq (.seq (.reg false [⟨some 19, false, .mv (.t 6), none, false, []⟩, ⟨some 20, true, .call (.c (.fn 642 [])) [.t 19, .c (.int .i64 9)], none, false, []⟩] [6, 7, 8, 9, 20] [7, 11, 12000]) (.cond (.t 20) (.reg false [⟨some 21, false, .mv (.t 6), none, false, []⟩, ⟨some 22, false, .bsl 1 (.int .i64 0) 4 [(0, .c (.int .i64 (-1))), (1, .c (.int .i64 0)), (2, .c (.int .i64 36524)), (3, .c (.int .i64 36525))], none, false, []⟩, ⟨some 23, true, .call (.c (.fn 445 [])) [.t 21, .t 22], none, false, []⟩, ⟨some 9, false, .asg (.t 23), none, false, []⟩] [6, 7, 8, 9] [7, 11, 12000]) .skip)) (.norm [6, 7, 8, 9] [7, 11, 12000] spec_DrawReadyStacks_k0))))))) }
noncomputable def spec_DrawReadyStacks_D : List (Nat × Callee) := [(441, spec_l00From_c), (445, spec_l00Src_among_c), (463, spec_l00Src_pick_c), (479, spec_l04DrawShare_c), (487, spec_l04DrawGoal_c), (642, spec_l00Src_one_c), (821, spec_l04Draw_c)]
def spec_DrawReadyStacks_H : List (Nat × ET) := [(2, T_Peg), (7, T_Peg), (10, (.one (.int .u8))), (13, T_Peg), (22, (.one (.int .i64))), (24, T_Peg)]
noncomputable def spec_DrawReadyStacks_c : Callee := mkCallee spec_DrawReadyStacks_D spec_DrawReadyStacks_H spec_DrawReadyStacks_ir [.d (.one (.sl (.one (.int .u8))))] [.tok T_Peg, .d (.one (.int .i64)), .d (.one (.int .i64)), .d (.one (.int .i64))] []
noncomputable def spec_DrawReadyStacks (a0 : List Int) : Option (List T_Peg.ty × Int × Int × Int) := spec_DrawReadyStacks_c.f (a0, ())
noncomputable def spec_DrawReadyStacks_p0  (v8 : Int) (v9 : Int) (r7 : List T_Peg.ty) (r11_0 : List Int) (r11_1 : Int) (r11_2 : Int) : Option (List T_Peg.ty × Int × Int × Int) :=
 goL spec_DrawReadyStacks_D spec_DrawReadyStacks_H (vleave spec_DrawReadyStacks_ir [.d (.one (.sl (.one (.int .u8))))] [.tok T_Peg, .d (.one (.int .i64)), .d (.one (.int .i64)), .d (.one (.int .i64))] [] []) [.c spec_DrawReadyStacks_k0]
  ⟨[(6, .loc 11 0 0), (7, .view 7 0 r7.length), (8, .int .i64 v8), (9, .int .i64 v9)], [(7, some (.sl T_Peg r7)), (11, some (.var 3 (.agg [.sl (.one (.int .u8)) r11_0, .int .i64 r11_1, .int .u64 r11_2]))), (12000, none)]⟩
theorem spec_DrawReadyStacks_eq (a0 : List Int) : spec_DrawReadyStacks a0 =
  (spec_l00From a0).bind fun x1 =>
   (spec_l04Draw x1).bind fun x2 =>
    (spec_l04DrawShare (x2.2.1, x2.2.2.1, x2.2.2.2.1, ())).bind fun x3 =>
     (spec_l00Src_pick (x3.2.1, x3.2.2.1, x3.2.2.2.1, ()) 1500).bind fun x4 =>
      (spec_l00Src_one (x4.2.1, x4.2.2.1, x4.2.2.2.1, ()) 9).bind fun x5 =>
       if x5.1 then
        (spec_l00Src_among (x5.2.1, x5.2.2.1, x5.2.2.2.1, ()) [(-1), 0, 36524, 36525]).bind fun x6 =>
         spec_DrawReadyStacks_p0 x3.1 x6.1 x2.1 x6.2.1 x6.2.2.1 x6.2.2.2.1
       else
        spec_DrawReadyStacks_p0 x3.1 (IntKind.i64.wrap (8500 + x4.1)) x2.1 x5.2.1 x5.2.2.1 x5.2.2.2.1 :=
 (mk_f _ _ _ _ _ _ _ 4000).trans (by kernel_rfl)
theorem spec_DrawReadyStacks_p0_eq  (v8 : Int) (v9 : Int) (r7 : List T_Peg.ty) (r11_0 : List Int) (r11_1 : Int) (r11_2 : Int) : spec_DrawReadyStacks_p0 v8 v9 r7 r11_0 r11_1 r11_2 =
  (spec_l04DrawGoal (r11_0, r11_1, r11_2, ())).bind fun x1 =>
   some ((r7.take r7.length), v8, v9, x1.1) :=
 (goL_dn _ _ _ 4000 _ _).trans (by kernel_rfl)

/- impl.isDigit -/
def impl_isDigit_ir : Fn := { np := 1, io := [], res := [.t 2], own := [false], body :=
 (.seq (.reg false [⟨some 2, false, .asg (.c (.bool false)), none, false, []⟩] [0] []) (.seq (.reg false [⟨some 3, false, .mv (.t 0), none, false, []⟩, ⟨some 4, false, .bin .geq (.t 3) (.c (.int .u8 48)), none, false, []⟩, ⟨some 5, false, .mv (.t 4), none, false, []⟩, ⟨some 6, false, .mv (.t 0), some (2, true), false, []⟩, ⟨some 7, false, .bin .leq (.t 6) (.c (.int .u8 57)), some (2, true), false, []⟩, ⟨some 8, false, .pick (.t 5) (.t 7) (.c (.bool false)), none, false, []⟩, ⟨some 2, false, .asg (.t 8), none, false, []⟩] [2] []) .ret)) }
noncomputable def impl_isDigit_D : List (Nat × Callee) := []
def impl_isDigit_H : List (Nat × ET) := []
noncomputable def impl_isDigit_c : Callee := mkCallee impl_isDigit_D impl_isDigit_H impl_isDigit_ir [.d (.one (.int .u8))] [.d (.one .bool)] []
noncomputable def impl_isDigit (a0 : Int) : Option (Bool) := impl_isDigit_c.f (a0, ())
theorem impl_isDigit_eq (a0 : Int) : impl_isDigit a0 =
  if decide (a0 ≥ 48) then
   some (decide (a0 ≤ 57))
  else
   some false :=
 (mk_f _ _ _ _ _ _ _ 4000).trans (by kernel_rfl)

/- impl.few -/
def impl_few_ir : Fn := { np := 2, io := [], res := [.t 4], own := [false], body :=
 (.seq (.reg false [⟨some 4, false, .asg (.c (.bool false)), none, false, []⟩] [0, 1] []) (.seq (.reg false [⟨some 5, false, .mv (.t 0), none, false, []⟩, ⟨some 6, false, .mv (.t 1), none, false, []⟩, ⟨some 7, false, .bin .leq (.t 5) (.t 6), none, false, []⟩, ⟨some 4, false, .asg (.t 7), none, false, []⟩] [4] []) .ret)) }
noncomputable def impl_few_D : List (Nat × Callee) := []
def impl_few_H : List (Nat × ET) := []
noncomputable def impl_few_c : Callee := mkCallee impl_few_D impl_few_H impl_few_ir [.d (.one (.int .i64)), .d (.one (.int .i64))] [.d (.one .bool)] []
noncomputable def impl_few (a0 : Int) (a1 : Int) : Option (Bool) := impl_few_c.f (a0, a1, ())
theorem impl_few_eq (a0 : Int) (a1 : Int) : impl_few a0 a1 =
  some (decide (a0 ≤ a1)) :=
 (mk_f _ _ _ _ _ _ _ 4000).trans (by kernel_rfl)

end Go.Ab.P
