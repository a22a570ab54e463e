/- Functions of the program: abstract forms, and what their runs give. Conditions: none. -/
import Derived.Test.YtbijadelckpmjaaGreatDoorL4
set_option maxRecDepth 100000
set_option linter.unusedVariables false
namespace Go.Ab.P
open Go.Ab
@[reducible] def T_Problem : ET := .agg (.cons (.int .i64) (.cons .str (.cons .str .nil)))
@[reducible] def T_Pot : ET := .agg (.cons .str (.cons (.int .i64) (.cons (.int .i64) (.cons (.int .i64) (.cons (.int .i64) .nil)))))
@[reducible] def T_Neck : ET := .agg (.cons (.int .i64) (.cons (.int .i64) (.cons (.int .i64) (.cons (.int .i64) .nil))))
@[reducible] def T_Step : ET := .agg (.cons .str (.cons (.int .i64) (.cons (.int .i64) (.cons (.sl (.one (.int .i64))) .nil))))
@[reducible] def T_Peg : ET := .agg (.cons .str (.cons (.int .i64) (.cons (.int .i64) (.cons (.int .i64) .nil))))
@[reducible] def T_Mode : ET := .agg (.cons .str (.cons (.int .i64) (.cons (.int .i64) .nil)))
@[reducible] def T_Deed : ET := .agg (.cons .str (.cons .str (.cons (.int .i64) (.cons (.int .i64) .nil))))
@[reducible] def T_Block : ET := .agg (.cons .str (.cons .str (.cons .str .nil)))
@[reducible] def T_Paper : ET := .agg (.cons .str (.cons .str (.cons (.int .i64) (.cons (.int .i64) (.cons (.int .i64) .nil)))))
@[reducible] def T_Desk : ET := .agg (.cons (.sl T_Peg) (.cons (.sl T_Mode) (.cons (.sl (.one (.sl (.one (.int .i64))))) (.cons (.int .i64) (.cons (.int .i64) (.cons (.int .i64) (.cons (.int .i64) (.cons (.sl T_Peg) (.cons (.sl T_Pot) (.cons (.sl T_Mode) (.cons (.sl T_Peg) (.cons (.sl T_Paper) .nil))))))))))))
@[reducible] def T_Arc : ET := .agg (.cons (.int .i64) (.cons (.int .i64) (.cons (.int .i64) (.cons (.int .i64) (.cons (.int .i64) (.cons (.int .i64) .nil))))))
@[reducible] def T_Entry : ET := .agg (.cons (.int .i64) (.cons .str (.cons .str (.cons (.int .i64) .nil))))
@[reducible] def T_Shop : ET := .agg (.cons (.sl T_Arc) (.cons (.sl T_Neck) (.cons (.int .i64) (.cons (.sl T_Step) (.cons (.sl (.one (.int .i64))) (.cons (.int .i64) (.cons (.sl T_Paper) (.cons (.sl T_Entry) .nil))))))))
@[reducible] def T_Setting : ET := .agg (.cons .str (.cons (.int .i64) .nil))
@[reducible] def T_Version : ET := .agg (.cons (.int .i64) (.cons (.int .i64) (.cons .str (.cons (.sl T_Setting) .nil))))
@[reducible] def T_Point : ET := .agg (.cons (.int .i64) (.cons (.int .i64) .nil))
@[reducible] def T_Grant : ET := .agg (.cons .str (.cons .str (.cons (.int .i64) .nil)))
@[reducible] def T_Role : ET := .agg (.cons .str (.cons (.sl (.one .str)) .nil))
@[reducible] def T_matching : ET := .agg (.cons (.sl T_Mode) (.cons (.sl T_Mode) (.cons (.sl (.one .bool)) (.cons (.int .i64) (.cons (.sl (.one (.int .i64))) (.cons (.int .i64) (.cons (.sl (.one (.int .i64))) (.cons (.int .i64) (.cons .bool .nil)))))))))
@[reducible] def T_cutting : ET := .agg (.cons (.sl T_Mode) (.cons (.int .i64) (.cons (.int .i64) (.cons (.sl (.one (.int .i64))) (.cons (.sl (.one (.int .i64))) (.cons (.int .i64) (.cons (.int .i64) .nil)))))))
@[reducible] def T_link : ET := .agg (.cons .bool (.cons (.int .i64) (.cons (.int .i64) .nil)))
@[reducible] def T_gluing : ET := .agg (.cons (.sl T_Pot) (.cons (.sl (.one (.int .i64))) (.cons (.sl (.one (.int .i64))) (.cons (.int .i64) (.cons (.sl (.one (.int .i64))) (.cons (.int .i64) (.cons (.sl (.one (.int .i64))) (.cons (.int .i64) (.cons .bool .nil)))))))))
@[reducible] def T_Change : ET := .agg (.cons (.int .i64) (.cons .str (.cons (.int .i64) .nil)))
@[reducible] def T_placing : ET := .agg (.cons (.sl T_Peg) (.cons (.sl (.one (.sl (.one (.int .i64))))) (.cons (.int .i64) .nil)))
@[reducible] def T_trusting : ET := .agg (.cons (.sl T_Paper) (.cons (.int .i64) (.cons (.sl (.one (.int .i64))) (.cons (.int .i64) (.cons (.sl (.one (.int .i64))) (.cons (.int .i64) .nil))))))
@[reducible] def T_l00Src : ET := .agg (.cons (.sl (.one (.int .u8))) (.cons (.int .i64) (.cons (.int .u64) .nil)))
@[reducible] def T_arguments : ET := .agg (.cons (.sl (.one (.int .i64))) (.cons (.sl (.one (.int .i64))) (.cons (.int .i64) (.cons .str .nil))))
@[reducible] def T_l14Search : ET := .agg (.cons (.sl T_Pot) (.cons (.sl (.one (.int .i64))) (.cons (.sl (.one (.int .i64))) (.cons (.sl (.one (.int .i64))) (.cons (.sl (.one (.int .i64))) (.cons (.int .i64) (.cons (.int .i64) (.cons (.int .i64) (.cons .bool .nil)))))))))
@[reducible] def T_l06Search : ET := .agg (.cons (.sl T_Mode) (.cons (.int .i64) (.cons (.int .i64) (.cons (.int .i64) (.cons (.sl (.one (.int .i64))) (.cons (.sl (.one (.int .i64))) (.cons (.int .i64) (.cons (.int .i64) (.cons .bool .nil)))))))))
@[reducible] def T_l20Search : ET := .agg (.cons (.sl T_Paper) (.cons (.sl (.one (.int .i64))) (.cons (.sl (.one (.int .i64))) (.cons (.int .i64) (.cons (.int .i64) (.cons (.int .i64) (.cons .bool .nil)))))))
@[reducible] def T_l18Search : ET := .agg (.cons (.sl T_Peg) (.cons (.sl (.one (.sl (.one (.int .i64))))) (.cons (.int .i64) (.cons (.int .i64) (.cons .bool .nil)))))
/- laws.b10Long -/
def laws_b10Long_ir : Fn := { np := 1, io := [], res := [.t 2], own := [false], body :=
  (.seq (.reg false [⟨some 2, false, .asg (.c (.bool false)), none, false, []⟩] [0] []) (.seq (.reg false [⟨some 3, false, .mv (.t 0), none, false, []⟩, ⟨some 4, false, .len (.t 3), none, false, []⟩, ⟨some 5, false, .bin .gtr (.t 4) (.c (.int .i64 1048576)), none, false, []⟩, ⟨some 2, false, .asg (.t 5), none, false, []⟩] [2] []) .ret)) }
noncomputable def laws_b10Long_D : List (Nat × Callee) := []
def laws_b10Long_H : List (Nat × ET) := [(3, (.one (.int .u8)))]
noncomputable def laws_b10Long_c : Callee := mkCallee laws_b10Long_D laws_b10Long_H laws_b10Long_ir [.d (.one (.sl (.one (.int .u8))))] [.d (.one .bool)] []
noncomputable def laws_b10Long (a0 : List Int) : Option (Bool) := laws_b10Long_c.f (a0, ())
theorem laws_b10Long_eq (a0 : List Int) : laws_b10Long a0 =
    some (decide ((a0.length : Int) > 1048576)) :=
  (mk_f _ _ _ _ _ _ _ 4000).trans (by kernel_rfl)

/- spec.l00From -/
def spec_l00From_ir : Fn := { np := 1, io := [], res := [.t 2], own := [true], body :=
  (.seq (.reg false [⟨some 2, false, .asg (.c (.cst (.pointer none))), none, false, []⟩] [0] []) (.seq (.reg false [⟨some 3, false, .mv (.t 0), none, false, []⟩, ⟨some 4, false, .build [.nils 1, .int .i64 0, .int .u64 0] [(0, 1, .t 3)], none, false, []⟩, ⟨some 5, true, .box 3 (.t 4), none, false, []⟩, ⟨some 2, false, .asg (.t 5), none, false, []⟩] [2] [5, 6000]) .ret)) }
noncomputable def spec_l00From_D : List (Nat × Callee) := []
def spec_l00From_H : List (Nat × ET) := [(3, (.one (.int .u8)))]
noncomputable def spec_l00From_c : Callee := mkCallee spec_l00From_D spec_l00From_H spec_l00From_ir [.d (.one (.sl (.one (.int .u8))))] [.box T_l00Src] []
noncomputable def spec_l00From (a0 : List Int) : Option (T_l00Src.ty) := spec_l00From_c.f (a0, ())
theorem spec_l00From_eq (a0 : List Int) : spec_l00From a0 =
    some (a0, 0, 0, ()) :=
  (mk_f _ _ _ _ _ _ _ 4000).trans (by kernel_rfl)

/- (*spec.l00Src).next -/
def spec_l00Src_next_k0 : C :=
  .seq (.reg false [⟨some 25, false, .mv (.t 0), none, false, []⟩, ⟨some 26, false, .nilck (.t 25), none, false, []⟩, ⟨some 27, false, .fa 1 (.t 26), none, false, []⟩, ⟨some 28, false, .ld none (.t 27), none, false, []⟩, ⟨some 29, false, .bin .add (.t 28) (.c (.int .i64 1)), none, false, []⟩, ⟨some 30, false, .nilck (.t 25), none, false, []⟩, ⟨some 31, false, .fa 1 (.t 30), none, false, []⟩, ⟨none, true, .sto 1 (.t 31) (.t 29), none, false, []⟩] [0, 3] [0, 1000]) (.seq (.reg false [⟨some 32, false, .mv (.t 0), none, false, []⟩, ⟨some 33, false, .mv (.t 0), none, false, []⟩, ⟨some 34, false, .nilck (.t 33), none, false, []⟩, ⟨some 35, false, .fa 2 (.t 34), none, false, []⟩, ⟨some 36, false, .ld none (.t 35), none, false, []⟩, ⟨some 37, false, .bin .mul (.t 36) (.c (.int .u64 6364136223846793005)), none, false, []⟩, ⟨some 38, false, .mv (.t 3), none, false, []⟩, ⟨some 39, false, .conv (.int .u64) (.t 38), none, false, []⟩, ⟨some 40, false, .bin .add (.t 37) (.t 39), none, false, []⟩, ⟨some 41, false, .bin .add (.t 40) (.c (.int .u64 1442695040888963407)), none, false, []⟩, ⟨some 42, false, .nilck (.t 32), none, false, []⟩, ⟨some 43, false, .fa 2 (.t 42), none, false, []⟩, ⟨none, true, .sto 1 (.t 43) (.t 41), none, false, []⟩] [0, 3] [0, 1000]) (.seq (.seq (.reg true [⟨some 44, false, .mv (.t 0), none, false, []⟩, ⟨some 45, false, .nilck (.t 44), none, false, []⟩, ⟨some 46, false, .fa 1 (.t 45), none, false, []⟩, ⟨some 47, false, .ld none (.t 46), none, false, []⟩, ⟨some 48, false, .mv (.t 0), none, false, []⟩, ⟨some 49, false, .nilck (.t 48), none, false, []⟩, ⟨some 50, false, .fa 0 (.t 49), none, false, []⟩, ⟨some 51, false, .ld none (.t 50), none, false, []⟩, ⟨some 52, false, .len (.t 51), none, false, []⟩, ⟨some 53, false, .bin .leq (.t 47) (.t 52), none, false, []⟩] [0, 3, 53] [0, 1000]) (.cond (.t 53) (.seq (.reg false [⟨some 54, false, .mv (.t 3), none, false, []⟩, ⟨some 2, false, .asg (.t 54), none, false, []⟩] [0, 2] [0, 1000]) .ret) .skip)) (.seq (.reg false [⟨some 55, false, .mv (.t 0), none, false, []⟩, ⟨some 56, false, .nilck (.t 55), none, false, []⟩, ⟨some 57, false, .fa 2 (.t 56), none, false, []⟩, ⟨some 58, false, .ld none (.t 57), none, false, []⟩, ⟨some 59, false, .bin .shr (.t 58) (.c (.int .u64 40)), none, false, []⟩, ⟨some 60, false, .bin .and (.t 59) (.c (.int .u64 255)), none, false, []⟩, ⟨some 61, false, .conv (.int .i64) (.t 60), none, false, []⟩, ⟨some 2, false, .asg (.t 61), none, false, []⟩] [0, 2] [0, 1000]) .ret)))
def spec_l00Src_next_ir : Fn := { np := 1, io := [true], res := [.t 2], own := [false], body :=
  (.seq (.reg false [⟨some 2, false, .asg (.c (.int .i64 0)), none, false, []⟩] [0] [0, 1000]) (.seq (.reg false [⟨some 3, false, .asg (.c (.int .i64 0)), none, false, []⟩] [0, 3] [0, 1000]) (.seq (.seq (.reg true [⟨some 4, false, .mv (.t 0), none, false, []⟩, ⟨some 5, false, .nilck (.t 4), none, false, []⟩, ⟨some 6, false, .fa 1 (.t 5), none, false, []⟩, ⟨some 7, false, .ld none (.t 6), none, false, []⟩, ⟨some 8, false, .mv (.t 0), none, false, []⟩, ⟨some 9, false, .nilck (.t 8), none, false, []⟩, ⟨some 10, false, .fa 0 (.t 9), none, false, []⟩, ⟨some 11, false, .ld none (.t 10), none, false, []⟩, ⟨some 12, false, .len (.t 11), none, false, []⟩, ⟨some 13, false, .bin .lss (.t 7) (.t 12), none, false, []⟩] [0, 3, 13] [0, 1000]) (.cond (.t 13) (.reg true [⟨some 14, false, .mv (.t 0), none, false, []⟩, ⟨some 15, false, .nilck (.t 14), none, false, []⟩, ⟨some 16, false, .fa 0 (.t 15), none, false, []⟩, ⟨some 17, false, .ld none (.t 16), none, false, []⟩, ⟨some 18, false, .mv (.t 0), none, false, []⟩, ⟨some 19, false, .nilck (.t 18), none, false, []⟩, ⟨some 20, false, .fa 1 (.t 19), none, false, []⟩, ⟨some 21, false, .ld none (.t 20), none, false, []⟩, ⟨some 22, false, .ia 1 (.t 17) (.t 21), none, false, []⟩, ⟨some 23, false, .ld none (.t 22), none, false, []⟩, ⟨some 24, false, .conv (.int .i64) (.t 23), none, false, []⟩, ⟨some 3, false, .asg (.t 24), none, false, []⟩] [0, 3] [0, 1000]) .skip)) (.norm [0, 3] [0, 1000] spec_l00Src_next_k0)))) }
noncomputable def spec_l00Src_next_D : List (Nat × Callee) := []
def spec_l00Src_next_H : List (Nat × ET) := [(11, (.one (.int .u8))), (17, (.one (.int .u8))), (51, (.one (.int .u8)))]
noncomputable def spec_l00Src_next_c : Callee := mkCallee spec_l00Src_next_D spec_l00Src_next_H spec_l00Src_next_ir [.box T_l00Src] [.d (.one (.int .i64))] [.box T_l00Src]
noncomputable def spec_l00Src_next (a0 : T_l00Src.ty) : Option (Int × T_l00Src.ty) := spec_l00Src_next_c.f (a0, ())
noncomputable def spec_l00Src_next_p0  (v3 : Int) (r0_0 : List Int) (r0_1 : Int) (r0_2 : Int) : Option (Int × T_l00Src.ty) :=
  goL spec_l00Src_next_D spec_l00Src_next_H (vleave spec_l00Src_next_ir [.box T_l00Src] [.d (.one (.int .i64))] [.box T_l00Src] []) [.c spec_l00Src_next_k0]
    ⟨[(0, .loc 0 0 0), (3, .int .i64 v3)], [(0, some (.var 3 (.agg [.sl (.one (.int .u8)) r0_0, .int .i64 r0_1, .int .u64 r0_2]))), (1000, none)]⟩
theorem spec_l00Src_next_eq (a0 : T_l00Src.ty) : spec_l00Src_next a0 =
    if decide (a0.2.1 < (a0.1.length : Int)) then
      if decide (0 ≤ a0.2.1) then
        (a0.1[a0.2.1.toNat]?).bind fun x1 =>
          spec_l00Src_next_p0 (IntKind.i64.wrap x1) a0.1 a0.2.1 a0.2.2.1
      else
        none
    else
      spec_l00Src_next_p0 0 a0.1 a0.2.1 a0.2.2.1 :=
  (mk_f _ _ _ _ _ _ _ 4000).trans (by kernel_rfl)
theorem spec_l00Src_next_p0_eq  (v3 : Int) (r0_0 : List Int) (r0_1 : Int) (r0_2 : Int) : spec_l00Src_next_p0 v3 r0_0 r0_1 r0_2 =
    if decide (IntKind.i64.wrap (r0_1 + 1) ≤ (r0_0.length : Int)) then
      some (v3, (r0_0, IntKind.i64.wrap (r0_1 + 1), IntKind.u64.wrap ((IntKind.u64.wrap ((IntKind.u64.wrap (r0_2 * 6364136223846793005)) + (IntKind.u64.wrap v3))) + 1442695040888963407), ()))
    else
      some (IntKind.i64.wrap (IntKind.u64.wrap ((BitVec.ofInt IntKind.u64.bits (Int.fdiv (IntKind.u64.wrap ((IntKind.u64.wrap ((IntKind.u64.wrap (r0_2 * 6364136223846793005)) + (IntKind.u64.wrap v3))) + 1442695040888963407)) (2 ^ (min (40 : Int).toNat IntKind.u64.bits))) &&& BitVec.ofInt IntKind.u64.bits 255).toNat : Int)), (r0_0, IntKind.i64.wrap (r0_1 + 1), IntKind.u64.wrap ((IntKind.u64.wrap ((IntKind.u64.wrap (r0_2 * 6364136223846793005)) + (IntKind.u64.wrap v3))) + 1442695040888963407), ())) :=
  (goL_dn _ _ _ 4000 _ _).trans (by kernel_rfl)

/- (*spec.l00Src).pick -/
def spec_l00Src_pick_ir : Fn := { np := 2, io := [true, false], res := [.t 4], own := [false], body :=
  (.seq (.reg false [⟨some 4, false, .asg (.c (.int .i64 0)), none, false, []⟩] [0, 1] [0, 1000]) (.seq (.seq (.reg false [⟨some 6, false, .mv (.t 1), none, false, []⟩, ⟨some 7, false, .bin .leq (.t 6) (.c (.int .i64 1)), none, false, []⟩] [0, 1, 7] [0, 1000]) (.cond (.t 7) (.seq (.reg false [⟨some 4, false, .asg (.c (.int .i64 0)), none, false, []⟩] [0, 4] [0, 1000]) .ret) .skip)) (.seq (.reg false [⟨some 8, false, .mv (.t 0), none, false, []⟩, ⟨some 9, true, .call (.c (.fn 847 [])) [.t 8], none, false, []⟩, ⟨some 5, false, .asg (.t 9), none, false, []⟩] [0, 1, 5] [0, 1000]) (.seq (.seq (.reg false [⟨some 10, false, .mv (.t 1), none, false, []⟩, ⟨some 11, false, .bin .gtr (.t 10) (.c (.int .i64 200)), none, false, []⟩] [0, 1, 5, 11] [0, 1000]) (.cond (.t 11) (.reg false [⟨some 12, false, .mv (.t 5), none, false, []⟩, ⟨some 13, false, .bin .mul (.t 12) (.c (.int .i64 256)), none, false, []⟩, ⟨some 14, false, .mv (.t 0), none, false, []⟩, ⟨some 15, true, .call (.c (.fn 847 [])) [.t 14], none, false, []⟩, ⟨some 16, false, .bin .add (.t 13) (.t 15), none, false, []⟩, ⟨some 5, false, .asg (.t 16), none, false, []⟩] [0, 1, 5] [0, 1000]) .skip)) (.seq (.reg false [⟨some 17, false, .mv (.t 5), none, false, []⟩, ⟨some 18, false, .mv (.t 1), none, false, []⟩, ⟨some 19, false, .bin .rem (.t 17) (.t 18), none, false, []⟩, ⟨some 4, false, .asg (.t 19), none, false, []⟩] [0, 4] [0, 1000]) .ret))))) }
noncomputable def spec_l00Src_pick_D : List (Nat × Callee) := [(847, spec_l00Src_next_c)]
def spec_l00Src_pick_H : List (Nat × ET) := []
noncomputable def spec_l00Src_pick_c : Callee := mkCallee spec_l00Src_pick_D spec_l00Src_pick_H spec_l00Src_pick_ir [.box T_l00Src, .d (.one (.int .i64))] [.d (.one (.int .i64))] [.box T_l00Src]
noncomputable def spec_l00Src_pick (a0 : T_l00Src.ty) (a1 : Int) : Option (Int × T_l00Src.ty) := spec_l00Src_pick_c.f (a0, a1, ())
theorem spec_l00Src_pick_eq (a0 : T_l00Src.ty) (a1 : Int) : spec_l00Src_pick a0 a1 =
    if decide (a1 ≤ 1) then
      some (0, a0)
    else
      (spec_l00Src_next a0).bind fun x1 =>
        if decide (a1 > 200) then
          (spec_l00Src_next (x1.2.1, x1.2.2.1, x1.2.2.2.1, ())).bind fun x2 =>
            if decide (a1 = 0) then
              none
            else
              some ((IntKind.i64.wrap ((IntKind.i64.wrap (x1.1 * 256)) + x2.1)).tmod a1, (x2.2.1, x2.2.2.1, x2.2.2.2.1, ()))
        else
          if decide (a1 = 0) then
            none
          else
            some (x1.1.tmod a1, (x1.2.1, x1.2.2.1, x1.2.2.2.1, ())) :=
  (mk_f _ _ _ _ _ _ _ 4000).trans (by kernel_rfl)

/- spec.l14DrawOne -/
def spec_l14DrawOne_ir : Fn := { np := 2, io := [true, false], res := [.cell 4 (some 5)], own := [false], body :=
  (.seq (.reg false [⟨some 4, true, .alloc 5 (.agg [.str [], .int .i64 0, .int .i64 0, .int .i64 0, .int .i64 0]), none, false, []⟩] [0, 1, 4] [0, 4, 1000]) (.seq (.reg false [⟨some 6, false, .mv (.t 1), none, false, []⟩, ⟨some 7, false, .mv (.t 0), none, false, []⟩, ⟨some 8, true, .call (.c (.fn 463 [])) [.t 7, .c (.int .i64 30)], none, false, []⟩, ⟨some 9, false, .bin .mul (.c (.int .i64 10)) (.t 8), none, false, []⟩, ⟨some 10, false, .bin .add (.c (.int .i64 20)) (.t 9), none, false, []⟩, ⟨some 11, false, .build [.str [], .int .i64 0, .int .i64 0, .int .i64 0, .int .i64 0] [(0, 1, .t 6), (1, 1, .t 10)], none, false, []⟩, ⟨some 5, true, .alloc 5 (.agg [.str [], .int .i64 0, .int .i64 0, .int .i64 0, .int .i64 0]), none, false, []⟩, ⟨none, true, .sto 5 (.t 5) (.t 11), none, false, []⟩] [0, 4, 5] [0, 4, 5, 1000]) (.seq (.reg true [⟨some 12, false, .fa 1 (.t 5), none, false, [1000000]⟩, ⟨some 13, false, .ld none (.t 12), none, true, []⟩, ⟨some 14, false, .mv (.t 0), none, false, []⟩, ⟨some 15, true, .call (.c (.fn 463 [])) [.t 14, .c (.int .i64 60)], none, false, [5, 12]⟩, ⟨some 16, false, .bin .mul (.c (.int .i64 10)) (.t 15), none, false, []⟩, ⟨some 17, false, .bin .add (.t 13) (.t 16), none, false, []⟩, ⟨some 18, false, .fa 2 (.t 5), none, false, []⟩, ⟨none, true, .sto 1 (.t 18) (.t 17), none, false, []⟩] [0, 4, 5] [0, 4, 5, 1000]) (.seq (.reg false [⟨some 19, false, .mv (.t 0), none, false, []⟩, ⟨some 20, true, .call (.c (.fn 463 [])) [.t 19, .c (.int .i64 45)], none, false, []⟩, ⟨some 21, false, .bin .add (.c (.int .i64 40)) (.t 20), none, false, []⟩, ⟨some 22, false, .fa 3 (.t 5), none, false, []⟩, ⟨none, true, .sto 1 (.t 22) (.t 21), none, false, []⟩] [0, 4, 5] [0, 4, 5, 1000]) (.seq (.reg false [⟨some 23, false, .mv (.t 0), none, false, []⟩, ⟨some 24, true, .call (.c (.fn 463 [])) [.t 23, .c (.int .i64 3)], none, false, []⟩, ⟨some 25, false, .mv (.t 0), none, false, []⟩, ⟨some 26, true, .call (.c (.fn 463 [])) [.t 25, .c (.int .i64 30)], none, false, []⟩, ⟨some 27, false, .bin .mul (.t 24) (.t 26), none, false, []⟩, ⟨some 28, false, .fa 4 (.t 5), none, false, []⟩, ⟨none, true, .sto 1 (.t 28) (.t 27), none, false, []⟩] [0, 4, 5] [0, 4, 5, 1000]) (.seq (.reg false [⟨some 29, false, .ld (some 5) (.t 5), none, false, []⟩, ⟨none, true, .sto 5 (.t 4) (.t 29), none, false, []⟩] [0, 4] [0, 4, 1000]) .ret)))))) }
noncomputable def spec_l14DrawOne_D : List (Nat × Callee) := [(463, spec_l00Src_pick_c)]
def spec_l14DrawOne_H : List (Nat × ET) := []
noncomputable def spec_l14DrawOne_c : Callee := mkCallee spec_l14DrawOne_D spec_l14DrawOne_H spec_l14DrawOne_ir [.box T_l00Src, .d (.one .str)] [.d T_Pot] [.box T_l00Src]
noncomputable def spec_l14DrawOne (a0 : T_l00Src.ty) (a1 : List UInt8) : Option (T_Pot.ty × T_l00Src.ty) := spec_l14DrawOne_c.f (a0, a1, ())
theorem spec_l14DrawOne_eq (a0 : T_l00Src.ty) (a1 : List UInt8) : spec_l14DrawOne a0 a1 =
    (spec_l00Src_pick a0 30).bind fun x1 =>
      (spec_l00Src_pick (x1.2.1, x1.2.2.1, x1.2.2.2.1, ()) 60).bind fun x2 =>
        (spec_l00Src_pick (x2.2.1, x2.2.2.1, x2.2.2.2.1, ()) 45).bind fun x3 =>
          (spec_l00Src_pick (x3.2.1, x3.2.2.1, x3.2.2.2.1, ()) 3).bind fun x4 =>
            (spec_l00Src_pick (x4.2.1, x4.2.2.1, x4.2.2.2.1, ()) 30).bind fun x5 =>
              some ((a1, IntKind.i64.wrap (20 + (IntKind.i64.wrap (10 * x1.1))), IntKind.i64.wrap ((IntKind.i64.wrap (20 + (IntKind.i64.wrap (10 * x1.1)))) + (IntKind.i64.wrap (10 * x2.1))), IntKind.i64.wrap (40 + x3.1), IntKind.i64.wrap (x4.1 * x5.1), ()), (x5.2.1, x5.2.2.1, x5.2.2.2.1, ())) :=
  (mk_f _ _ _ _ _ _ _ 4000).trans (by kernel_rfl)

/- (*spec.l00Src).among -/
def spec_l00Src_among_ir : Fn := { np := 2, io := [true, false], res := [.t 4], own := [false], body :=
  (.seq (.reg false [⟨some 4, false, .asg (.c (.int .i64 0)), none, false, []⟩] [0, 1] [0, 1000]) (.seq (.reg false [⟨some 5, false, .mv (.t 1), none, false, []⟩, ⟨some 6, false, .mv (.t 0), none, false, []⟩, ⟨some 7, false, .mv (.t 1), none, false, []⟩, ⟨some 8, false, .len (.t 7), none, false, []⟩, ⟨some 9, true, .call (.c (.fn 463 [])) [.t 6, .t 8], none, false, []⟩, ⟨some 10, false, .ia 1 (.t 5) (.t 9), none, false, []⟩, ⟨some 11, false, .ld none (.t 10), none, false, []⟩, ⟨some 4, false, .asg (.t 11), none, false, []⟩] [0, 4] [0, 1000]) .ret)) }
noncomputable def spec_l00Src_among_D : List (Nat × Callee) := [(463, spec_l00Src_pick_c)]
def spec_l00Src_among_H : List (Nat × ET) := [(5, (.one (.int .i64))), (7, (.one (.int .i64)))]
noncomputable def spec_l00Src_among_c : Callee := mkCallee spec_l00Src_among_D spec_l00Src_among_H spec_l00Src_among_ir [.box T_l00Src, .d (.one (.sl (.one (.int .i64))))] [.d (.one (.int .i64))] [.box T_l00Src]
noncomputable def spec_l00Src_among (a0 : T_l00Src.ty) (a1 : List Int) : Option (Int × T_l00Src.ty) := spec_l00Src_among_c.f (a0, a1, ())
theorem spec_l00Src_among_eq (a0 : T_l00Src.ty) (a1 : List Int) : spec_l00Src_among a0 a1 =
    (spec_l00Src_pick a0 (a1.length : Int)).bind fun x1 =>
      if decide (0 ≤ x1.1) then
        (a1[x1.1.toNat]?).bind fun x2 =>
          some (x2, (x1.2.1, x1.2.2.1, x1.2.2.2.1, ()))
      else
        none :=
  (mk_f _ _ _ _ _ _ _ 4000).trans (by kernel_rfl)

/- spec.l14Bent -/
def spec_l14Bent_ir : Fn := { np := 2, io := [true, false], res := [.cell 4 (some 5)], own := [false], body :=
  (.seq (.reg false [⟨some 3, true, .box 5 (.t 1), none, false, []⟩, ⟨some 4, true, .alloc 5 (.agg [.str [], .int .i64 0, .int .i64 0, .int .i64 0, .int .i64 0]), none, false, []⟩] [0, 3, 4] [0, 3, 4, 1000]) (.seq (.seq (.reg false [⟨some 5, false, .mv (.t 0), none, false, []⟩, ⟨some 6, true, .call (.c (.fn 463 [])) [.t 5, .c (.int .i64 20)], none, false, []⟩] [0, 3, 4, 6] [0, 3, 4, 1000]) (.block 0 (.seq (.reg false [⟨some 8, false, .bin .eql (.t 6) (.c (.int .i64 0)), none, false, []⟩, ⟨some 7, false, .asg (.t 8), none, false, []⟩] [0, 3, 4, 6, 7] [0, 3, 4, 1000]) (.cond (.t 7) (.reg false [⟨some 9, false, .mv (.t 0), none, false, []⟩, ⟨some 10, false, .bsl 1 (.int .i64 0) 4 [(0, .c (.int .i64 0)), (1, .c (.int .i64 1)), (2, .c (.int .i64 10000)), (3, .c (.int .i64 10001))], none, false, []⟩, ⟨some 11, true, .call (.c (.fn 445 [])) [.t 9, .t 10], none, false, []⟩, ⟨some 12, false, .fa 1 (.t 3), none, false, []⟩, ⟨none, true, .sto 1 (.t 12) (.t 11), none, false, []⟩] [0, 3, 4] [0, 3, 4, 1000]) (.seq (.reg false [⟨some 14, false, .bin .eql (.t 6) (.c (.int .i64 1)), none, false, []⟩, ⟨some 13, false, .asg (.t 14), none, false, []⟩] [0, 3, 4, 6, 13] [0, 3, 4, 1000]) (.cond (.t 13) (.reg false [⟨some 15, false, .mv (.t 0), none, false, []⟩, ⟨some 16, false, .bsl 1 (.int .i64 0) 4 [(0, .c (.int .i64 0)), (1, .c (.int .i64 1)), (2, .c (.int .i64 10000)), (3, .c (.int .i64 10001))], none, false, []⟩, ⟨some 17, true, .call (.c (.fn 445 [])) [.t 15, .t 16], none, false, []⟩, ⟨some 18, false, .fa 2 (.t 3), none, false, []⟩, ⟨none, true, .sto 1 (.t 18) (.t 17), none, false, []⟩] [0, 3, 4] [0, 3, 4, 1000]) (.seq (.reg false [⟨some 20, false, .bin .eql (.t 6) (.c (.int .i64 2)), none, false, []⟩, ⟨some 19, false, .asg (.t 20), none, false, []⟩] [0, 3, 4, 6, 19] [0, 3, 4, 1000]) (.cond (.t 19) (.reg false [⟨some 21, false, .mv (.t 0), none, false, []⟩, ⟨some 22, false, .bsl 1 (.int .i64 0) 4 [(0, .c (.int .i64 19)), (1, .c (.int .i64 20)), (2, .c (.int .i64 95)), (3, .c (.int .i64 96))], none, false, []⟩, ⟨some 23, true, .call (.c (.fn 445 [])) [.t 21, .t 22], none, false, []⟩, ⟨some 24, false, .fa 3 (.t 3), none, false, []⟩, ⟨none, true, .sto 1 (.t 24) (.t 23), none, false, []⟩] [0, 3, 4] [0, 3, 4, 1000]) (.seq (.reg false [⟨some 26, false, .bin .eql (.t 6) (.c (.int .i64 3)), none, false, []⟩, ⟨some 25, false, .asg (.t 26), none, false, []⟩] [0, 3, 4, 25] [0, 3, 4, 1000]) (.cond (.t 25) (.reg false [⟨some 27, false, .mv (.t 0), none, false, []⟩, ⟨some 28, false, .bsl 1 (.int .i64 0) 4 [(0, .c (.int .i64 (-1))), (1, .c (.int .i64 0)), (2, .c (.int .i64 1000)), (3, .c (.int .i64 1001))], none, false, []⟩, ⟨some 29, true, .call (.c (.fn 445 [])) [.t 27, .t 28], none, false, []⟩, ⟨some 30, false, .fa 4 (.t 3), none, false, []⟩, ⟨none, true, .sto 1 (.t 30) (.t 29), none, false, []⟩] [0, 3, 4] [0, 3, 4, 1000]) .skip)))))))))) (.seq (.reg false [⟨some 31, false, .ld (some 5) (.t 3), none, false, []⟩, ⟨none, true, .sto 5 (.t 4) (.t 31), none, false, []⟩] [0, 4] [0, 4, 1000]) .ret))) }
noncomputable def spec_l14Bent_D : List (Nat × Callee) := [(445, spec_l00Src_among_c), (463, spec_l00Src_pick_c)]
def spec_l14Bent_H : List (Nat × ET) := [(10, (.one (.int .i64))), (16, (.one (.int .i64))), (22, (.one (.int .i64))), (28, (.one (.int .i64)))]
noncomputable def spec_l14Bent_c : Callee := mkCallee spec_l14Bent_D spec_l14Bent_H spec_l14Bent_ir [.box T_l00Src, .d T_Pot] [.d T_Pot] [.box T_l00Src]
noncomputable def spec_l14Bent (a0 : T_l00Src.ty) (a1 : T_Pot.ty) : Option (T_Pot.ty × T_l00Src.ty) := spec_l14Bent_c.f (a0, a1, ())
theorem spec_l14Bent_eq (a0 : T_l00Src.ty) (a1 : T_Pot.ty) : spec_l14Bent a0 a1 =
    (spec_l00Src_pick a0 20).bind fun x1 =>
      if (x1.1 == 0) then
        (spec_l00Src_among (x1.2.1, x1.2.2.1, x1.2.2.2.1, ()) [0, 1, 10000, 10001]).bind fun x2 =>
          some ((a1.1, x2.1, a1.2.2.1, a1.2.2.2.1, a1.2.2.2.2.1, ()), (x2.2.1, x2.2.2.1, x2.2.2.2.1, ()))
      else
        if (x1.1 == 1) then
          (spec_l00Src_among (x1.2.1, x1.2.2.1, x1.2.2.2.1, ()) [0, 1, 10000, 10001]).bind fun x3 =>
            some ((a1.1, a1.2.1, x3.1, a1.2.2.2.1, a1.2.2.2.2.1, ()), (x3.2.1, x3.2.2.1, x3.2.2.2.1, ()))
        else
          if (x1.1 == 2) then
            (spec_l00Src_among (x1.2.1, x1.2.2.1, x1.2.2.2.1, ()) [19, 20, 95, 96]).bind fun x4 =>
              some ((a1.1, a1.2.1, a1.2.2.1, x4.1, a1.2.2.2.2.1, ()), (x4.2.1, x4.2.2.1, x4.2.2.2.1, ()))
          else
            if (x1.1 == 3) then
              (spec_l00Src_among (x1.2.1, x1.2.2.1, x1.2.2.2.1, ()) [(-1), 0, 1000, 1001]).bind fun x5 =>
                some ((a1.1, a1.2.1, a1.2.2.1, a1.2.2.2.1, x5.1, ()), (x5.2.1, x5.2.2.1, x5.2.2.2.1, ()))
            else
              some (a1, (x1.2.1, x1.2.2.1, x1.2.2.2.1, ())) :=
  (mk_f _ _ _ _ _ _ _ 4000).trans (by kernel_rfl)

/- (*spec.l00Src).one -/
def spec_l00Src_one_ir : Fn := { np := 2, io := [true, false], res := [.t 4], own := [false], body :=
  (.seq (.reg false [⟨some 4, false, .asg (.c (.bool false)), none, false, []⟩] [0, 1] [0, 1000]) (.seq (.reg false [⟨some 5, false, .mv (.t 0), none, false, []⟩, ⟨some 6, false, .mv (.t 1), none, false, []⟩, ⟨some 7, true, .call (.c (.fn 463 [])) [.t 5, .t 6], none, false, []⟩, ⟨some 8, false, .bin .eql (.t 7) (.c (.int .i64 0)), none, false, []⟩, ⟨some 4, false, .asg (.t 8), none, false, []⟩] [0, 4] [0, 1000]) .ret)) }
noncomputable def spec_l00Src_one_D : List (Nat × Callee) := [(463, spec_l00Src_pick_c)]
def spec_l00Src_one_H : List (Nat × ET) := []
noncomputable def spec_l00Src_one_c : Callee := mkCallee spec_l00Src_one_D spec_l00Src_one_H spec_l00Src_one_ir [.box T_l00Src, .d (.one (.int .i64))] [.d (.one .bool)] [.box T_l00Src]
noncomputable def spec_l00Src_one (a0 : T_l00Src.ty) (a1 : Int) : Option (Bool × T_l00Src.ty) := spec_l00Src_one_c.f (a0, a1, ())
theorem spec_l00Src_one_eq (a0 : T_l00Src.ty) (a1 : Int) : spec_l00Src_one a0 a1 =
    (spec_l00Src_pick a0 a1).bind fun x1 =>
      some ((x1.1 == 0), (x1.2.1, x1.2.2.1, x1.2.2.2.1, ())) :=
  (mk_f _ _ _ _ _ _ _ 4000).trans (by kernel_rfl)

/- spec.l14DrawSeconds -/
def spec_l14DrawSeconds_ir : Fn := { np := 1, io := [true], res := [.t 2], own := [false], body :=
  (.seq (.reg false [⟨some 2, false, .asg (.c (.int .i64 0)), none, false, []⟩] [0] [0, 1000]) (.seq (.seq (.reg false [⟨some 3, false, .mv (.t 0), none, false, []⟩, ⟨some 4, true, .call (.c (.fn 642 [])) [.t 3, .c (.int .i64 9)], none, false, []⟩] [0, 4] [0, 1000]) (.cond (.t 4) (.seq (.reg false [⟨some 5, false, .mv (.t 0), none, false, []⟩, ⟨some 6, false, .bsl 1 (.int .i64 0) 4 [(0, .c (.int .i64 (-1))), (1, .c (.int .i64 0)), (2, .c (.int .i64 1000)), (3, .c (.int .i64 1001))], none, false, []⟩, ⟨some 7, true, .call (.c (.fn 445 [])) [.t 5, .t 6], none, false, []⟩, ⟨some 2, false, .asg (.t 7), none, false, []⟩] [0, 2] [0, 1000]) .ret) .skip)) (.seq (.reg false [⟨some 8, false, .mv (.t 0), none, false, []⟩, ⟨some 9, true, .call (.c (.fn 463 [])) [.t 8, .c (.int .i64 60)], none, false, []⟩, ⟨some 10, false, .bin .mul (.c (.int .i64 5)) (.t 9), none, false, []⟩, ⟨some 2, false, .asg (.t 10), none, false, []⟩] [0, 2] [0, 1000]) .ret))) }
noncomputable def spec_l14DrawSeconds_D : List (Nat × Callee) := [(445, spec_l00Src_among_c), (463, spec_l00Src_pick_c), (642, spec_l00Src_one_c)]
def spec_l14DrawSeconds_H : List (Nat × ET) := [(6, (.one (.int .i64)))]
noncomputable def spec_l14DrawSeconds_c : Callee := mkCallee spec_l14DrawSeconds_D spec_l14DrawSeconds_H spec_l14DrawSeconds_ir [.box T_l00Src] [.d (.one (.int .i64))] [.box T_l00Src]
noncomputable def spec_l14DrawSeconds (a0 : T_l00Src.ty) : Option (Int × T_l00Src.ty) := spec_l14DrawSeconds_c.f (a0, ())
theorem spec_l14DrawSeconds_eq (a0 : T_l00Src.ty) : spec_l14DrawSeconds a0 =
    (spec_l00Src_one a0 9).bind fun x1 =>
      if x1.1 then
        (spec_l00Src_among (x1.2.1, x1.2.2.1, x1.2.2.2.1, ()) [(-1), 0, 1000, 1001]).bind fun x2 =>
          some (x2.1, (x2.2.1, x2.2.2.1, x2.2.2.2.1, ()))
      else
        (spec_l00Src_pick (x1.2.1, x1.2.2.1, x1.2.2.2.1, ()) 60).bind fun x3 =>
          some (IntKind.i64.wrap (5 * x3.1), (x3.2.1, x3.2.2.1, x3.2.2.2.1, ())) :=
  (mk_f _ _ _ _ _ _ _ 4000).trans (by kernel_rfl)

/- spec.l14DrawRoom -/
def spec_l14DrawRoom_ir : Fn := { np := 1, io := [true], res := [.t 2], own := [false], body :=
  (.seq (.reg false [⟨some 2, false, .asg (.c (.int .i64 0)), none, false, []⟩] [0] [0, 1000]) (.seq (.reg false [⟨some 3, false, .mv (.t 0), none, false, []⟩, ⟨some 4, false, .bsl 1 (.int .i64 0) 8 [(0, .c (.int .i64 0)), (1, .c (.int .i64 10)), (2, .c (.int .i64 15)), (3, .c (.int .i64 20)), (4, .c (.int .i64 25)), (5, .c (.int .i64 40)), (6, .c (.int .i64 41)), (7, .c (.int .i64 (-1)))], none, false, []⟩, ⟨some 5, true, .call (.c (.fn 445 [])) [.t 3, .t 4], none, false, []⟩, ⟨some 2, false, .asg (.t 5), none, false, []⟩] [0, 2] [0, 1000]) .ret)) }
noncomputable def spec_l14DrawRoom_D : List (Nat × Callee) := [(445, spec_l00Src_among_c)]
def spec_l14DrawRoom_H : List (Nat × ET) := [(4, (.one (.int .i64)))]
noncomputable def spec_l14DrawRoom_c : Callee := mkCallee spec_l14DrawRoom_D spec_l14DrawRoom_H spec_l14DrawRoom_ir [.box T_l00Src] [.d (.one (.int .i64))] [.box T_l00Src]
noncomputable def spec_l14DrawRoom (a0 : T_l00Src.ty) : Option (Int × T_l00Src.ty) := spec_l14DrawRoom_c.f (a0, ())
theorem spec_l14DrawRoom_eq (a0 : T_l00Src.ty) : spec_l14DrawRoom a0 =
    (spec_l00Src_among a0 [0, 10, 15, 20, 25, 40, 41, (-1)]).bind fun x1 =>
      some (x1.1, (x1.2.1, x1.2.2.1, x1.2.2.2.1, ())) :=
  (mk_f _ _ _ _ _ _ _ 4000).trans (by kernel_rfl)

/- spec.DrawWaterFor -/
def spec_DrawWaterFor_ir : Fn := { np := 1, io := [], res := [.cell 2 (some 5), .t 3, .t 4], own := [false, false, false], body :=
  (.seq (.reg false [⟨some 2, true, .alloc 5 (.agg [.str [], .int .i64 0, .int .i64 0, .int .i64 0, .int .i64 0]), none, false, []⟩, ⟨some 3, false, .asg (.c (.int .i64 0)), none, false, []⟩, ⟨some 4, false, .asg (.c (.int .i64 0)), none, false, []⟩] [0, 2] [2]) (.seq (.reg false [⟨some 8, false, .mv (.t 0), none, false, []⟩, ⟨some 9, true, .call (.c (.fn 441 [])) [.t 8], none, false, []⟩, ⟨some 5, false, .asg (.t 9), none, false, []⟩] [2, 5] [2, 9, 10000]) (.seq (.reg false [⟨some 10, false, .mv (.t 5), none, false, []⟩, ⟨some 11, false, .mv (.t 5), none, false, []⟩, ⟨some 12, true, .call (.c (.fn 558 [])) [.t 11, .c (.str [104, 105, 100, 101])], none, false, []⟩, ⟨some 13, true, .call (.c (.fn 559 [])) [.t 10, .t 12], none, false, []⟩, ⟨some 6, true, .alloc 5 (.agg [.str [], .int .i64 0, .int .i64 0, .int .i64 0, .int .i64 0]), none, false, []⟩, ⟨none, true, .sto 5 (.t 6) (.t 13), none, false, []⟩] [2, 5, 6] [2, 6, 9, 10000]) (.seq (.reg false [⟨some 14, false, .mv (.t 5), none, false, []⟩, ⟨some 15, true, .call (.c (.fn 561 [])) [.t 14], none, false, []⟩, ⟨some 7, false, .asg (.t 15), none, false, []⟩] [2, 5, 6, 7] [2, 6, 9, 10000]) (.seq (.reg true [⟨some 16, false, .ld (some 5) (.t 6), none, true, []⟩, ⟨some 17, false, .mv (.t 7), none, false, []⟩, ⟨some 18, false, .mv (.t 5), none, false, []⟩, ⟨some 19, true, .call (.c (.fn 560 [])) [.t 18], none, false, [6, 7]⟩, ⟨none, true, .sto 5 (.t 2) (.t 16), none, false, [7]⟩, ⟨some 3, false, .asg (.t 17), none, false, []⟩, ⟨some 4, false, .asg (.t 19), none, false, []⟩] [2, 3, 4] [2]) .ret))))) }
noncomputable def spec_DrawWaterFor_D : List (Nat × Callee) := [(441, spec_l00From_c), (558, spec_l14DrawOne_c), (559, spec_l14Bent_c), (560, spec_l14DrawRoom_c), (561, spec_l14DrawSeconds_c)]
def spec_DrawWaterFor_H : List (Nat × ET) := [(8, (.one (.int .u8)))]
noncomputable def spec_DrawWaterFor_c : Callee := mkCallee spec_DrawWaterFor_D spec_DrawWaterFor_H spec_DrawWaterFor_ir [.d (.one (.sl (.one (.int .u8))))] [.d T_Pot, .d (.one (.int .i64)), .d (.one (.int .i64))] []
noncomputable def spec_DrawWaterFor (a0 : List Int) : Option (T_Pot.ty × Int × Int) := spec_DrawWaterFor_c.f (a0, ())
theorem spec_DrawWaterFor_eq (a0 : List Int) : spec_DrawWaterFor a0 =
    (spec_l00From a0).bind fun x1 =>
      (spec_l14DrawOne x1 [104, 105, 100, 101]).bind fun x2 =>
        (spec_l14Bent (x2.2.1, x2.2.2.1, x2.2.2.2.1, ()) (x2.1.1, x2.1.2.1, x2.1.2.2.1, x2.1.2.2.2.1, x2.1.2.2.2.2.1, ())).bind fun x3 =>
          (spec_l14DrawSeconds (x3.2.1, x3.2.2.1, x3.2.2.2.1, ())).bind fun x4 =>
            (spec_l14DrawRoom (x4.2.1, x4.2.2.1, x4.2.2.2.1, ())).bind fun x5 =>
              some ((x3.1.1, x3.1.2.1, x3.1.2.2.1, x3.1.2.2.2.1, x3.1.2.2.2.2.1, ()), x4.1, x5.1) :=
  (mk_f _ _ _ _ _ _ _ 4000).trans (by kernel_rfl)

/- impl.isDigit -/
def impl_isDigit_ir : Fn := { np := 1, io := [], res := [.t 2], own := [false], body :=
  (.seq (.reg false [⟨some 2, false, .asg (.c (.bool false)), none, false, []⟩] [0] []) (.seq (.reg false [⟨some 3, false, .mv (.t 0), none, false, []⟩, ⟨some 4, false, .bin .geq (.t 3) (.c (.int .u8 48)), none, false, []⟩, ⟨some 5, false, .mv (.t 4), none, false, []⟩, ⟨some 6, false, .mv (.t 0), some (2, true), false, []⟩, ⟨some 7, false, .bin .leq (.t 6) (.c (.int .u8 57)), some (2, true), false, []⟩, ⟨some 8, false, .pick (.t 5) (.t 7) (.c (.bool false)), none, false, []⟩, ⟨some 2, false, .asg (.t 8), none, false, []⟩] [2] []) .ret)) }
noncomputable def impl_isDigit_D : List (Nat × Callee) := []
def impl_isDigit_H : List (Nat × ET) := []
noncomputable def impl_isDigit_c : Callee := mkCallee impl_isDigit_D impl_isDigit_H impl_isDigit_ir [.d (.one (.int .u8))] [.d (.one .bool)] []
noncomputable def impl_isDigit (a0 : Int) : Option (Bool) := impl_isDigit_c.f (a0, ())
theorem impl_isDigit_eq (a0 : Int) : impl_isDigit a0 =
    if decide (a0 ≥ 48) then
      some (decide (a0 ≤ 57))
    else
      some false :=
  (mk_f _ _ _ _ _ _ _ 4000).trans (by kernel_rfl)

/- impl.few -/
def impl_few_ir : Fn := { np := 2, io := [], res := [.t 4], own := [false], body :=
  (.seq (.reg false [⟨some 4, false, .asg (.c (.bool false)), none, false, []⟩] [0, 1] []) (.seq (.reg false [⟨some 5, false, .mv (.t 0), none, false, []⟩, ⟨some 6, false, .mv (.t 1), none, false, []⟩, ⟨some 7, false, .bin .leq (.t 5) (.t 6), none, false, []⟩, ⟨some 4, false, .asg (.t 7), none, false, []⟩] [4] []) .ret)) }
noncomputable def impl_few_D : List (Nat × Callee) := []
def impl_few_H : List (Nat × ET) := []
noncomputable def impl_few_c : Callee := mkCallee impl_few_D impl_few_H impl_few_ir [.d (.one (.int .i64)), .d (.one (.int .i64))] [.d (.one .bool)] []
noncomputable def impl_few (a0 : Int) (a1 : Int) : Option (Bool) := impl_few_c.f (a0, a1, ())
theorem impl_few_eq (a0 : Int) (a1 : Int) : impl_few a0 a1 =
    some (decide (a0 ≤ a1)) :=
  (mk_f _ _ _ _ _ _ _ 4000).trans (by kernel_rfl)

/- impl.IsName -/
def impl_IsName_k0 : C :=
  .seq (.reg false [⟨some 21, false, .mv (.t 4), none, false, []⟩, ⟨some 22, false, .un .not (.t 21), none, false, []⟩, ⟨some 23, false, .mv (.t 22), none, false, []⟩, ⟨some 24, false, .mv (.t 3), some (2, true), false, []⟩, ⟨some 25, false, .bin .eql (.t 24) (.c (.int .i64 0)), some (2, true), false, []⟩, ⟨some 26, false, .mv (.t 25), some (2, true), false, []⟩, ⟨some 27, false, .mv (.t 0), some (5, false), false, []⟩, ⟨some 28, false, .mv (.t 3), some (5, false), false, []⟩, ⟨some 29, false, .ix (.t 27) (.t 28), some (5, false), false, []⟩, ⟨some 30, false, .call (.c (.fn 22 [])) [.t 29], some (5, false), false, []⟩, ⟨some 31, false, .un .not (.t 30), some (5, false), false, []⟩, ⟨some 32, false, .pick (.t 26) (.c (.bool true)) (.t 31), some (2, true), false, []⟩, ⟨some 33, false, .pick (.t 23) (.t 32) (.c (.bool false)), none, false, []⟩] [0, 3, 33] []) (.cond (.t 33) (.seq (.reg false [⟨some 2, false, .asg (.c (.bool false)), none, false, []⟩] [2] []) .ret) .skip)
def impl_IsName_k1 : C :=
  .reg false [⟨some 9, false, .mv (.t 3), none, false, []⟩, ⟨some 10, false, .bin .add (.t 9) (.c (.int .i64 1)), none, false, []⟩, ⟨some 3, false, .asg (.t 10), none, false, []⟩] [0, 3] []
def impl_IsName_k2 : C :=
  .seq (.seq (.reg false [⟨some 5, false, .mv (.t 3), none, false, []⟩, ⟨some 6, false, .mv (.t 0), none, false, []⟩, ⟨some 7, false, .lens (.t 6), none, false, []⟩, ⟨some 8, false, .bin .lss (.t 5) (.t 7), none, false, []⟩] [0, 3, 8] []) (.cond (.t 8) .skip (.exit 0))) (.seq (.block 1 (.seq (.reg false [⟨some 11, false, .mv (.t 0), none, false, []⟩, ⟨some 12, false, .mv (.t 3), none, false, []⟩, ⟨some 13, false, .ix (.t 11) (.t 12), none, false, []⟩, ⟨some 14, false, .bin .geq (.t 13) (.c (.int .u8 97)), none, false, []⟩, ⟨some 15, false, .mv (.t 14), none, false, []⟩, ⟨some 16, false, .mv (.t 0), some (4, true), false, []⟩, ⟨some 17, false, .mv (.t 3), some (4, true), false, []⟩, ⟨some 18, false, .ix (.t 16) (.t 17), some (4, true), false, []⟩, ⟨some 19, false, .bin .leq (.t 18) (.c (.int .u8 122)), some (4, true), false, []⟩, ⟨some 20, false, .pick (.t 15) (.t 19) (.c (.bool false)), none, false, []⟩, ⟨some 4, false, .asg (.t 20), none, false, []⟩] [0, 3, 4] []) (.norm [0, 3, 4] [] impl_IsName_k0))) impl_IsName_k1)
def impl_IsName_k3 : C :=
  .norm [0, 3] [] impl_IsName_k2
def impl_IsName_k4 : C :=
  .seq (.reg false [⟨some 34, false, .mv (.t 0), none, false, []⟩, ⟨some 35, false, .bin .neq (.t 34) (.c (.str [])), none, false, []⟩, ⟨some 36, false, .mv (.t 35), none, false, []⟩, ⟨some 37, false, .mv (.t 0), some (2, true), false, []⟩, ⟨some 38, false, .lens (.t 37), some (2, true), false, []⟩, ⟨some 39, false, .call (.c (.fn 21 [])) [.t 38, .c (.int .i64 10)], some (2, true), false, []⟩, ⟨some 40, false, .pick (.t 36) (.t 39) (.c (.bool false)), none, false, []⟩, ⟨some 2, false, .asg (.t 40), none, false, []⟩] [2] []) .ret
def impl_IsName_ir : Fn := { np := 1, io := [], res := [.t 2], own := [false], body :=
  (.seq (.reg false [⟨some 2, false, .asg (.c (.bool false)), none, false, []⟩] [0] []) (.seq (.seq (.reg false [⟨some 3, false, .asg (.c (.int .i64 0)), none, false, []⟩] [0, 3] []) (.block 0 (.loop impl_IsName_k3))) impl_IsName_k4)) }
noncomputable def impl_IsName_D : List (Nat × Callee) := [(21, impl_few_c), (22, impl_isDigit_c)]
def impl_IsName_H : List (Nat × ET) := []
noncomputable def impl_IsName_c : Callee := mkCallee impl_IsName_D impl_IsName_H impl_IsName_ir [.d (.one .str)] [.d (.one .bool)] []
noncomputable def impl_IsName (a0 : List UInt8) : Option (Bool) := impl_IsName_c.f (a0, ())
noncomputable def impl_IsName_p0  (v0 : List UInt8) (v3 : Int) : Option (Bool) :=
  goL impl_IsName_D impl_IsName_H (vleave impl_IsName_ir [.d (.one .str)] [.d (.one .bool)] [] []) [.c impl_IsName_k2, .l impl_IsName_k3, .e 0, .c impl_IsName_k4]
    ⟨[(0, .str v0), (3, .int .i64 v3)], []⟩
noncomputable def impl_IsName_p1  (v0 : List UInt8) (v3 : Int) (v4 : Bool) : Option (Bool) :=
  goL impl_IsName_D impl_IsName_H (vleave impl_IsName_ir [.d (.one .str)] [.d (.one .bool)] [] []) [.c impl_IsName_k0, .e 1, .c impl_IsName_k1, .l impl_IsName_k3, .e 0, .c impl_IsName_k4]
    ⟨[(0, .str v0), (3, .int .i64 v3), (4, .bool v4)], []⟩
theorem impl_IsName_eq (a0 : List UInt8) : impl_IsName a0 =
    impl_IsName_p0 a0 0 :=
  (mk_f _ _ _ _ _ _ _ 4000).trans (by kernel_rfl)
theorem impl_IsName_p0_eq  (v0 : List UInt8) (v3 : Int) : impl_IsName_p0 v0 v3 =
    if decide (v3 < (v0.length : Int)) then
      if decide (0 ≤ v3) then
        (v0[v3.toNat]?).bind fun x1 =>
          if decide ((x1.toNat : Int) ≥ 97) then
            if decide (0 ≤ v3) then
              (v0[v3.toNat]?).bind fun x2 =>
                impl_IsName_p1 v0 v3 (decide ((x2.toNat : Int) ≤ 122))
            else
              none
          else
            impl_IsName_p1 v0 v3 false
      else
        none
    else
      if (!(v0 == [])) then
        (impl_few (v0.length : Int) 10).bind fun x3 =>
          some x3
      else
        some false :=
  (goL_dn _ _ _ 4000 _ _).trans (by kernel_rfl)
theorem impl_IsName_p1_eq  (v0 : List UInt8) (v3 : Int) (v4 : Bool) : impl_IsName_p1 v0 v3 v4 =
    if (!v4) then
      if (v3 == 0) then
        some false
      else
        if decide (0 ≤ v3) then
          (v0[v3.toNat]?).bind fun x1 =>
            (impl_isDigit (x1.toNat : Int)).bind fun x2 =>
              if (!x2) then
                some false
              else
                impl_IsName_p0 v0 (IntKind.i64.wrap (v3 + 1))
        else
          none
    else
      impl_IsName_p0 v0 (IntKind.i64.wrap (v3 + 1)) :=
  (goL_dn _ _ _ 4000 _ _).trans (by kernel_rfl)

/- impl.within -/
def impl_within_ir : Fn := { np := 3, io := [], res := [.t 6], own := [false], body :=
  (.seq (.reg false [⟨some 6, false, .asg (.c (.bool false)), none, false, []⟩] [0, 1, 2] []) (.seq (.reg false [⟨some 7, false, .mv (.t 1), none, false, []⟩, ⟨some 8, false, .mv (.t 0), none, false, []⟩, ⟨some 9, false, .bin .leq (.t 7) (.t 8), none, false, []⟩, ⟨some 10, false, .mv (.t 9), none, false, []⟩, ⟨some 11, false, .mv (.t 0), some (3, true), false, []⟩, ⟨some 12, false, .mv (.t 2), some (3, true), false, []⟩, ⟨some 13, false, .bin .leq (.t 11) (.t 12), some (3, true), false, []⟩, ⟨some 14, false, .pick (.t 10) (.t 13) (.c (.bool false)), none, false, []⟩, ⟨some 6, false, .asg (.t 14), none, false, []⟩] [6] []) .ret)) }
noncomputable def impl_within_D : List (Nat × Callee) := []
def impl_within_H : List (Nat × ET) := []
noncomputable def impl_within_c : Callee := mkCallee impl_within_D impl_within_H impl_within_ir [.d (.one (.int .i64)), .d (.one (.int .i64)), .d (.one (.int .i64))] [.d (.one .bool)] []
noncomputable def impl_within (a0 : Int) (a1 : Int) (a2 : Int) : Option (Bool) := impl_within_c.f (a0, a1, a2, ())
theorem impl_within_eq (a0 : Int) (a1 : Int) (a2 : Int) : impl_within a0 a1 a2 =
    if decide (a1 ≤ a0) then
      some (decide (a0 ≤ a2))
    else
      some false :=
  (mk_f _ _ _ _ _ _ _ 4000).trans (by kernel_rfl)

/- impl.isGrams -/
def impl_isGrams_ir : Fn := { np := 1, io := [], res := [.t 2], own := [false], body :=
  (.seq (.reg false [⟨some 2, false, .asg (.c (.bool false)), none, false, []⟩] [0] []) (.seq (.reg false [⟨some 3, false, .mv (.t 0), none, false, []⟩, ⟨some 4, false, .call (.c (.fn 23 [])) [.t 3, .c (.int .i64 1), .c (.int .i64 10000)], none, false, []⟩, ⟨some 2, false, .asg (.t 4), none, false, []⟩] [2] []) .ret)) }
noncomputable def impl_isGrams_D : List (Nat × Callee) := [(23, impl_within_c)]
def impl_isGrams_H : List (Nat × ET) := []
noncomputable def impl_isGrams_c : Callee := mkCallee impl_isGrams_D impl_isGrams_H impl_isGrams_ir [.d (.one (.int .i64))] [.d (.one .bool)] []
noncomputable def impl_isGrams (a0 : Int) : Option (Bool) := impl_isGrams_c.f (a0, ())
theorem impl_isGrams_eq (a0 : Int) : impl_isGrams a0 =
    (impl_within a0 1 10000).bind fun x1 =>
      some x1 :=
  (mk_f _ _ _ _ _ _ _ 4000).trans (by kernel_rfl)

/- impl.isHeat -/
def impl_isHeat_ir : Fn := { np := 1, io := [], res := [.t 2], own := [false], body :=
  (.seq (.reg false [⟨some 2, false, .asg (.c (.bool false)), none, false, []⟩] [0] []) (.seq (.reg false [⟨some 3, false, .mv (.t 0), none, false, []⟩, ⟨some 4, false, .call (.c (.fn 23 [])) [.t 3, .c (.int .i64 20), .c (.int .i64 95)], none, false, []⟩, ⟨some 2, false, .asg (.t 4), none, false, []⟩] [2] []) .ret)) }
noncomputable def impl_isHeat_D : List (Nat × Callee) := [(23, impl_within_c)]
def impl_isHeat_H : List (Nat × ET) := []
noncomputable def impl_isHeat_c : Callee := mkCallee impl_isHeat_D impl_isHeat_H impl_isHeat_ir [.d (.one (.int .i64))] [.d (.one .bool)] []
noncomputable def impl_isHeat (a0 : Int) : Option (Bool) := impl_isHeat_c.f (a0, ())
theorem impl_isHeat_eq (a0 : Int) : impl_isHeat a0 =
    (impl_within a0 20 95).bind fun x1 =>
      some x1 :=
  (mk_f _ _ _ _ _ _ _ 4000).trans (by kernel_rfl)

/- (impl.Pot).valid -/
def impl_Pot_valid_ir : Fn := { np := 1, io := [], res := [.t 2], own := [false], body :=
  (.seq (.reg false [⟨some 1, true, .box 5 (.t 0), none, false, []⟩, ⟨some 2, false, .asg (.c (.bool false)), none, false, []⟩] [1] [1]) (.seq (.reg false [⟨some 3, false, .fa 0 (.t 1), none, false, []⟩, ⟨some 4, false, .ld none (.t 3), none, false, []⟩, ⟨some 5, false, .call (.c (.fn 24 [])) [.t 4], none, false, []⟩, ⟨some 6, false, .mv (.t 5), none, false, []⟩, ⟨some 7, false, .fa 1 (.t 1), some (3, true), false, []⟩, ⟨some 8, false, .ld none (.t 7), some (3, true), false, []⟩, ⟨some 9, false, .call (.c (.fn 25 [])) [.t 8], some (3, true), false, []⟩, ⟨some 10, false, .pick (.t 6) (.t 9) (.c (.bool false)), none, false, []⟩, ⟨some 11, false, .mv (.t 10), none, false, []⟩, ⟨some 12, false, .fa 2 (.t 1), some (8, true), false, []⟩, ⟨some 13, false, .ld none (.t 12), some (8, true), false, []⟩, ⟨some 14, false, .call (.c (.fn 25 [])) [.t 13], some (8, true), false, []⟩, ⟨some 15, false, .pick (.t 11) (.t 14) (.c (.bool false)), none, false, []⟩, ⟨some 16, false, .mv (.t 15), none, false, []⟩, ⟨some 17, false, .fa 3 (.t 1), some (13, true), false, []⟩, ⟨some 18, false, .ld none (.t 17), some (13, true), false, []⟩, ⟨some 19, false, .call (.c (.fn 26 [])) [.t 18], some (13, true), false, []⟩, ⟨some 20, false, .pick (.t 16) (.t 19) (.c (.bool false)), none, false, []⟩, ⟨some 21, false, .mv (.t 20), none, false, []⟩, ⟨some 22, false, .fa 4 (.t 1), some (18, true), false, []⟩, ⟨some 23, false, .ld none (.t 22), some (18, true), false, []⟩, ⟨some 24, false, .call (.c (.fn 23 [])) [.t 23, .c (.int .i64 0), .c (.int .i64 1000)], some (18, true), false, []⟩, ⟨some 25, false, .pick (.t 21) (.t 24) (.c (.bool false)), none, false, []⟩, ⟨some 2, false, .asg (.t 25), none, false, []⟩] [2] []) .ret)) }
noncomputable def impl_Pot_valid_D : List (Nat × Callee) := [(23, impl_within_c), (24, impl_IsName_c), (25, impl_isGrams_c), (26, impl_isHeat_c)]
def impl_Pot_valid_H : List (Nat × ET) := []
noncomputable def impl_Pot_valid_c : Callee := mkCallee impl_Pot_valid_D impl_Pot_valid_H impl_Pot_valid_ir [.d T_Pot] [.d (.one .bool)] []
noncomputable def impl_Pot_valid (a0 : T_Pot.ty) : Option (Bool) := impl_Pot_valid_c.f (a0, ())
theorem impl_Pot_valid_eq (a0 : T_Pot.ty) : impl_Pot_valid a0 =
    (impl_IsName a0.1).bind fun x1 =>
      if x1 then
        (impl_isGrams a0.2.1).bind fun x2 =>
          if x2 then
            (impl_isGrams a0.2.2.1).bind fun x3 =>
              if x3 then
                (impl_isHeat a0.2.2.2.1).bind fun x4 =>
                  if x4 then
                    (impl_within a0.2.2.2.2.1 0 1000).bind fun x5 =>
                      some x5
                  else
                    some false
              else
                some false
          else
            some false
      else
        some false :=
  (mk_f _ _ _ _ _ _ _ 4000).trans (by kernel_rfl)

/- impl.isSeconds -/
def impl_isSeconds_ir : Fn := { np := 1, io := [], res := [.t 2], own := [false], body :=
  (.seq (.reg false [⟨some 2, false, .asg (.c (.bool false)), none, false, []⟩] [0] []) (.seq (.reg false [⟨some 3, false, .mv (.t 0), none, false, []⟩, ⟨some 4, false, .call (.c (.fn 23 [])) [.t 3, .c (.int .i64 0), .c (.int .i64 1000)], none, false, []⟩, ⟨some 2, false, .asg (.t 4), none, false, []⟩] [2] []) .ret)) }
noncomputable def impl_isSeconds_D : List (Nat × Callee) := [(23, impl_within_c)]
def impl_isSeconds_H : List (Nat × ET) := []
noncomputable def impl_isSeconds_c : Callee := mkCallee impl_isSeconds_D impl_isSeconds_H impl_isSeconds_ir [.d (.one (.int .i64))] [.d (.one .bool)] []
noncomputable def impl_isSeconds (a0 : Int) : Option (Bool) := impl_isSeconds_c.f (a0, ())
theorem impl_isSeconds_eq (a0 : Int) : impl_isSeconds a0 =
    (impl_within a0 0 1000).bind fun x1 =>
      some x1 :=
  (mk_f _ _ _ _ _ _ _ 4000).trans (by kernel_rfl)

/- impl.isRoom -/
def impl_isRoom_ir : Fn := { np := 1, io := [], res := [.t 2], own := [false], body :=
  (.seq (.reg false [⟨some 2, false, .asg (.c (.bool false)), none, false, []⟩] [0] []) (.seq (.reg false [⟨some 3, false, .mv (.t 0), none, false, []⟩, ⟨some 4, false, .call (.c (.fn 23 [])) [.t 3, .c (.int .i64 0), .c (.int .i64 40)], none, false, []⟩, ⟨some 2, false, .asg (.t 4), none, false, []⟩] [2] []) .ret)) }
noncomputable def impl_isRoom_D : List (Nat × Callee) := [(23, impl_within_c)]
def impl_isRoom_H : List (Nat × ET) := []
noncomputable def impl_isRoom_c : Callee := mkCallee impl_isRoom_D impl_isRoom_H impl_isRoom_ir [.d (.one (.int .i64))] [.d (.one .bool)] []
noncomputable def impl_isRoom (a0 : Int) : Option (Bool) := impl_isRoom_c.f (a0, ())
theorem impl_isRoom_eq (a0 : Int) : impl_isRoom a0 =
    (impl_within a0 0 40).bind fun x1 =>
      some x1 :=
  (mk_f _ _ _ _ _ _ _ 4000).trans (by kernel_rfl)

/- impl.divRound -/
def impl_divRound_ir : Fn := { np := 2, io := [], res := [.t 4], own := [false], body :=
  (.seq (.reg false [⟨some 4, false, .asg (.c (.int .i64 0)), none, false, []⟩] [0, 1] []) (.seq (.reg false [⟨some 8, false, .mv (.t 0), none, false, []⟩, ⟨some 9, false, .bin .lss (.t 8) (.c (.int .i64 0)), none, false, []⟩, ⟨some 10, false, .mv (.t 1), none, false, []⟩, ⟨some 11, false, .bin .lss (.t 10) (.c (.int .i64 0)), none, false, []⟩, ⟨some 12, false, .eqb true (.t 9) (.t 11), none, false, []⟩, ⟨some 5, false, .asg (.t 12), none, false, []⟩] [0, 1, 5] []) (.seq (.reg false [⟨some 13, false, .mv (.t 0), none, false, []⟩, ⟨some 14, false, .mv (.t 0), none, false, []⟩, ⟨some 15, false, .un .neg (.t 14), none, false, []⟩, ⟨some 16, false, .max [.t 13, .t 15], none, false, []⟩, ⟨some 17, false, .mv (.t 1), none, false, []⟩, ⟨some 18, false, .mv (.t 1), none, false, []⟩, ⟨some 19, false, .un .neg (.t 18), none, false, []⟩, ⟨some 20, false, .max [.t 17, .t 19], none, false, []⟩, ⟨some 0, false, .asg (.t 16), none, false, []⟩, ⟨some 1, false, .asg (.t 20), none, false, []⟩] [0, 1, 5] []) (.seq (.reg false [⟨some 21, false, .mv (.t 0), none, false, []⟩, ⟨some 22, false, .mv (.t 1), none, false, []⟩, ⟨some 23, false, .bin .quo (.t 21) (.t 22), none, false, []⟩, ⟨some 6, false, .asg (.t 23), none, false, []⟩] [0, 1, 5, 6] []) (.seq (.seq (.reg false [⟨some 24, false, .mv (.t 0), none, false, []⟩, ⟨some 25, false, .mv (.t 1), none, false, []⟩, ⟨some 26, false, .bin .rem (.t 24) (.t 25), none, false, []⟩, ⟨some 7, false, .asg (.t 26), none, false, []⟩] [1, 5, 6, 7] []) (.seq (.reg false [⟨some 27, false, .mv (.t 7), none, false, []⟩, ⟨some 28, false, .mv (.t 1), none, false, []⟩, ⟨some 29, false, .mv (.t 7), none, false, []⟩, ⟨some 30, false, .bin .sub (.t 28) (.t 29), none, false, []⟩, ⟨some 31, false, .bin .geq (.t 27) (.t 30), none, false, []⟩] [5, 6, 31] []) (.cond (.t 31) (.reg false [⟨some 32, false, .mv (.t 6), none, false, []⟩, ⟨some 33, false, .bin .add (.t 32) (.c (.int .i64 1)), none, false, []⟩, ⟨some 6, false, .asg (.t 33), none, false, []⟩] [5, 6] []) .skip))) (.seq (.seq (.reg false [⟨some 34, false, .mv (.t 5), none, false, []⟩] [6, 34] []) (.cond (.t 34) (.seq (.reg false [⟨some 35, false, .mv (.t 6), none, false, []⟩, ⟨some 36, false, .un .neg (.t 35), none, false, []⟩, ⟨some 4, false, .asg (.t 36), none, false, []⟩] [4] []) .ret) .skip)) (.seq (.reg false [⟨some 37, false, .mv (.t 6), none, false, []⟩, ⟨some 4, false, .asg (.t 37), none, false, []⟩] [4] []) .ret))))))) }
noncomputable def impl_divRound_D : List (Nat × Callee) := []
def impl_divRound_H : List (Nat × ET) := []
noncomputable def impl_divRound_c : Callee := mkCallee impl_divRound_D impl_divRound_H impl_divRound_ir [.d (.one (.int .i64)), .d (.one (.int .i64))] [.d (.one (.int .i64))] []
noncomputable def impl_divRound (a0 : Int) (a1 : Int) : Option (Int) := impl_divRound_c.f (a0, a1, ())
theorem impl_divRound_eq (a0 : Int) (a1 : Int) : impl_divRound a0 a1 =
    if decide ((if IntKind.i64.wrap (0 - a1) > a1 then IntKind.i64.wrap (0 - a1) else a1) = 0) then
      none
    else
      if decide ((if IntKind.i64.wrap (0 - a1) > a1 then IntKind.i64.wrap (0 - a1) else a1) = 0) then
        none
      else
        if decide ((if IntKind.i64.wrap (0 - a0) > a0 then IntKind.i64.wrap (0 - a0) else a0).tmod (if IntKind.i64.wrap (0 - a1) > a1 then IntKind.i64.wrap (0 - a1) else a1) ≥ IntKind.i64.wrap ((if IntKind.i64.wrap (0 - a1) > a1 then IntKind.i64.wrap (0 - a1) else a1) - ((if IntKind.i64.wrap (0 - a0) > a0 then IntKind.i64.wrap (0 - a0) else a0).tmod (if IntKind.i64.wrap (0 - a1) > a1 then IntKind.i64.wrap (0 - a1) else a1)))) then
          if (!(decide (a0 < 0) == decide (a1 < 0))) then
            some (IntKind.i64.wrap (0 - (IntKind.i64.wrap ((IntKind.i64.wrap ((if IntKind.i64.wrap (0 - a0) > a0 then IntKind.i64.wrap (0 - a0) else a0).tdiv (if IntKind.i64.wrap (0 - a1) > a1 then IntKind.i64.wrap (0 - a1) else a1))) + 1))))
          else
            some (IntKind.i64.wrap ((IntKind.i64.wrap ((if IntKind.i64.wrap (0 - a0) > a0 then IntKind.i64.wrap (0 - a0) else a0).tdiv (if IntKind.i64.wrap (0 - a1) > a1 then IntKind.i64.wrap (0 - a1) else a1))) + 1))
        else
          if (!(decide (a0 < 0) == decide (a1 < 0))) then
            some (IntKind.i64.wrap (0 - (IntKind.i64.wrap ((if IntKind.i64.wrap (0 - a0) > a0 then IntKind.i64.wrap (0 - a0) else a0).tdiv (if IntKind.i64.wrap (0 - a1) > a1 then IntKind.i64.wrap (0 - a1) else a1)))))
          else
            some (IntKind.i64.wrap ((if IntKind.i64.wrap (0 - a0) > a0 then IntKind.i64.wrap (0 - a0) else a0).tdiv (if IntKind.i64.wrap (0 - a1) > a1 then IntKind.i64.wrap (0 - a1) else a1))) :=
  (mk_f _ _ _ _ _ _ _ 4000).trans (by kernel_rfl)

/- (impl.Pot).open -/
def impl_Pot_open_ir : Fn := { np := 2, io := [], res := [.t 4], own := [false], body :=
  (.seq (.reg false [⟨some 2, true, .box 5 (.t 0), none, false, []⟩, ⟨some 4, false, .asg (.c (.int .i64 0)), none, false, []⟩] [1, 2] [2]) (.seq (.reg true [⟨some 5, false, .fa 2 (.t 2), none, false, []⟩, ⟨some 6, false, .ld none (.t 5), none, false, []⟩, ⟨some 7, false, .bin .mul (.c (.int .i64 60)) (.t 6), none, false, []⟩, ⟨some 8, false, .fa 1 (.t 2), none, false, []⟩, ⟨some 9, false, .ld none (.t 8), none, false, []⟩, ⟨some 10, false, .call (.c (.fn 27 [])) [.t 7, .t 9], none, false, []⟩, ⟨some 11, false, .mv (.t 1), none, false, []⟩, ⟨some 12, false, .bin .sub (.t 11) (.c (.int .i64 15)), none, false, []⟩, ⟨some 13, false, .bin .mul (.c (.int .i64 2)) (.t 12), none, false, []⟩, ⟨some 14, false, .bin .add (.t 10) (.t 13), none, false, []⟩, ⟨some 15, false, .fa 3 (.t 2), none, false, []⟩, ⟨some 16, false, .ld none (.t 15), none, false, []⟩, ⟨some 17, false, .bin .add (.t 14) (.t 16), none, false, []⟩, ⟨some 18, false, .bin .sub (.t 17) (.c (.int .i64 60)), none, false, []⟩, ⟨some 19, false, .max [.c (.int .i64 0), .t 18], none, false, []⟩, ⟨some 4, false, .asg (.t 19), none, false, []⟩] [4] []) .ret)) }
noncomputable def impl_Pot_open_D : List (Nat × Callee) := [(27, impl_divRound_c)]
def impl_Pot_open_H : List (Nat × ET) := []
noncomputable def impl_Pot_open_c : Callee := mkCallee impl_Pot_open_D impl_Pot_open_H impl_Pot_open_ir [.d T_Pot, .d (.one (.int .i64))] [.d (.one (.int .i64))] []
noncomputable def impl_Pot_open (a0 : T_Pot.ty) (a1 : Int) : Option (Int) := impl_Pot_open_c.f (a0, a1, ())
theorem impl_Pot_open_eq (a0 : T_Pot.ty) (a1 : Int) : impl_Pot_open a0 a1 =
    (impl_divRound (IntKind.i64.wrap (60 * a0.2.2.1)) a0.2.1).bind fun x1 =>
      some (if IntKind.i64.wrap ((IntKind.i64.wrap ((IntKind.i64.wrap (x1 + (IntKind.i64.wrap (2 * (IntKind.i64.wrap (a1 - 15)))))) + a0.2.2.2.1)) - 60) > 0 then IntKind.i64.wrap ((IntKind.i64.wrap ((IntKind.i64.wrap (x1 + (IntKind.i64.wrap (2 * (IntKind.i64.wrap (a1 - 15)))))) + a0.2.2.2.1)) - 60) else 0) :=
  (mk_f _ _ _ _ _ _ _ 4000).trans (by kernel_rfl)

/- impl.WaterFor -/
def impl_WaterFor_k0 : C :=
  .seq (.seq (.reg false [⟨some 22, false, .fa 2 (.t 3), none, false, []⟩, ⟨some 23, false, .ld none (.t 22), none, false, []⟩, ⟨some 24, false, .bin .leq (.t 23) (.c (.int .i64 10000)), none, false, []⟩] [1, 2, 3, 8, 24] [3]) (.cond (.t 24) .skip (.exit 0))) (.seq (.block 1 (.seq (.reg false [⟨some 29, false, .ld (some 5) (.t 3), none, false, []⟩, ⟨some 30, false, .mv (.t 2), none, false, []⟩, ⟨some 31, false, .call (.c (.fn 28 [])) [.t 29, .t 30], none, false, []⟩, ⟨some 32, false, .mv (.t 1), none, false, []⟩, ⟨some 33, false, .bin .geq (.t 31) (.t 32), none, false, []⟩] [1, 2, 3, 8, 33] [3]) (.cond (.t 33) (.seq (.reg false [⟨some 34, false, .fa 2 (.t 3), none, false, []⟩, ⟨some 35, false, .ld none (.t 34), none, false, []⟩, ⟨some 36, false, .mv (.t 8), none, false, []⟩, ⟨some 37, false, .bin .sub (.t 35) (.t 36), none, false, []⟩, ⟨some 6, false, .asg (.t 37), none, false, []⟩, ⟨some 7, false, .asg (.c (.int .i64 0)), none, false, []⟩] [6, 7] []) .ret) .skip))) (.reg false [⟨some 25, false, .fa 2 (.t 3), none, false, []⟩, ⟨some 26, false, .ld none (.t 25), none, false, []⟩, ⟨some 27, false, .bin .add (.t 26) (.c (.int .i64 1)), none, false, []⟩, ⟨some 28, false, .fa 2 (.t 3), none, false, []⟩, ⟨none, true, .sto 1 (.t 28) (.t 27), none, false, []⟩] [1, 2, 3, 8] [3]))
def impl_WaterFor_k1 : C :=
  .norm [1, 2, 3, 8] [3] impl_WaterFor_k0
def impl_WaterFor_k2 : C :=
  .seq (.reg false [⟨some 6, false, .asg (.c (.int .i64 0)), none, false, []⟩, ⟨some 7, false, .asg (.c (.int .i64 3)), none, false, []⟩] [6, 7] []) .ret
def impl_WaterFor_k3 : C :=
  .seq (.reg false [⟨some 20, false, .fa 2 (.t 3), none, false, []⟩, ⟨some 21, false, .ld none (.t 20), none, false, []⟩, ⟨some 8, false, .asg (.t 21), none, false, []⟩] [1, 2, 3, 8] [3]) (.seq (.block 0 (.loop impl_WaterFor_k1)) impl_WaterFor_k2)
def impl_WaterFor_ir : Fn := { np := 3, io := [], res := [.t 6, .t 7], own := [false, false], body :=
  (.seq (.reg false [⟨some 3, true, .box 5 (.t 0), none, false, []⟩, ⟨some 6, false, .asg (.c (.int .i64 0)), none, false, []⟩, ⟨some 7, false, .asg (.c (.int .i64 0)), none, false, []⟩] [1, 2, 3] [3]) (.seq (.seq (.reg false [⟨some 9, false, .ld (some 5) (.t 3), none, false, []⟩, ⟨some 10, false, .call (.c (.fn 30 [])) [.t 9], none, false, []⟩, ⟨some 11, false, .un .not (.t 10), none, false, []⟩] [1, 2, 3, 11] [3]) (.cond (.t 11) (.seq (.reg false [⟨some 6, false, .asg (.c (.int .i64 0)), none, false, []⟩, ⟨some 7, false, .asg (.c (.int .i64 1)), none, false, []⟩] [6, 7] []) .ret) .skip)) (.seq (.seq (.reg false [⟨some 12, false, .mv (.t 1), none, false, []⟩, ⟨some 13, false, .call (.c (.fn 36 [])) [.t 12], none, false, []⟩, ⟨some 14, false, .un .not (.t 13), none, false, []⟩, ⟨some 15, false, .mv (.t 14), none, false, []⟩, ⟨some 16, false, .mv (.t 2), some (3, false), false, []⟩, ⟨some 17, false, .call (.c (.fn 29 [])) [.t 16], some (3, false), false, []⟩, ⟨some 18, false, .un .not (.t 17), some (3, false), false, []⟩, ⟨some 19, false, .pick (.t 15) (.c (.bool true)) (.t 18), none, false, []⟩] [1, 2, 3, 19] [3]) (.cond (.t 19) (.seq (.reg false [⟨some 6, false, .asg (.c (.int .i64 0)), none, false, []⟩, ⟨some 7, false, .asg (.c (.int .i64 2)), none, false, []⟩] [6, 7] []) .ret) .skip)) (.norm [1, 2, 3] [3] impl_WaterFor_k3)))) }
noncomputable def impl_WaterFor_D : List (Nat × Callee) := [(28, impl_Pot_open_c), (29, impl_isRoom_c), (30, impl_Pot_valid_c), (36, impl_isSeconds_c)]
def impl_WaterFor_H : List (Nat × ET) := []
noncomputable def impl_WaterFor_c : Callee := mkCallee impl_WaterFor_D impl_WaterFor_H impl_WaterFor_ir [.d T_Pot, .d (.one (.int .i64)), .d (.one (.int .i64))] [.d (.one (.int .i64)), .d (.one (.int .i64))] []
noncomputable def impl_WaterFor (a0 : T_Pot.ty) (a1 : Int) (a2 : Int) : Option (Int × Int) := impl_WaterFor_c.f (a0, a1, a2, ())
noncomputable def impl_WaterFor_p0  (v1 : Int) (v2 : Int) (r3_0 : List UInt8) (r3_1 : Int) (r3_2 : Int) (r3_3 : Int) (r3_4 : Int) : Option (Int × Int) :=
  goL impl_WaterFor_D impl_WaterFor_H (vleave impl_WaterFor_ir [.d T_Pot, .d (.one (.int .i64)), .d (.one (.int .i64))] [.d (.one (.int .i64)), .d (.one (.int .i64))] [] []) [.c impl_WaterFor_k3]
    ⟨[(1, .int .i64 v1), (2, .int .i64 v2), (3, .loc 3 0 0)], [(3, some (.var 5 (.agg [.str r3_0, .int .i64 r3_1, .int .i64 r3_2, .int .i64 r3_3, .int .i64 r3_4])))]⟩
noncomputable def impl_WaterFor_p1  (v1 : Int) (v2 : Int) (v8 : Int) (r3_0 : List UInt8) (r3_1 : Int) (r3_2 : Int) (r3_3 : Int) (r3_4 : Int) : Option (Int × Int) :=
  goL impl_WaterFor_D impl_WaterFor_H (vleave impl_WaterFor_ir [.d T_Pot, .d (.one (.int .i64)), .d (.one (.int .i64))] [.d (.one (.int .i64)), .d (.one (.int .i64))] [] []) [.c impl_WaterFor_k0, .l impl_WaterFor_k1, .e 0, .c impl_WaterFor_k2]
    ⟨[(1, .int .i64 v1), (2, .int .i64 v2), (3, .loc 3 0 0), (8, .int .i64 v8)], [(3, some (.var 5 (.agg [.str r3_0, .int .i64 r3_1, .int .i64 r3_2, .int .i64 r3_3, .int .i64 r3_4])))]⟩
theorem impl_WaterFor_eq (a0 : T_Pot.ty) (a1 : Int) (a2 : Int) : impl_WaterFor a0 a1 a2 =
    (impl_Pot_valid a0).bind fun x1 =>
      if (!x1) then
        some (0, 1)
      else
        (impl_isSeconds a1).bind fun x2 =>
          if (!x2) then
            some (0, 2)
          else
            (impl_isRoom a2).bind fun x3 =>
              if (!x3) then
                some (0, 2)
              else
                impl_WaterFor_p0 a1 a2 a0.1 a0.2.1 a0.2.2.1 a0.2.2.2.1 a0.2.2.2.2.1 :=
  (mk_f _ _ _ _ _ _ _ 4000).trans (by kernel_rfl)
theorem impl_WaterFor_p0_eq  (v1 : Int) (v2 : Int) (r3_0 : List UInt8) (r3_1 : Int) (r3_2 : Int) (r3_3 : Int) (r3_4 : Int) : impl_WaterFor_p0 v1 v2 r3_0 r3_1 r3_2 r3_3 r3_4 =
    impl_WaterFor_p1 v1 v2 r3_2 r3_0 r3_1 r3_2 r3_3 r3_4 :=
  (goL_dn _ _ _ 4000 _ _).trans (by kernel_rfl)
theorem impl_WaterFor_p1_eq  (v1 : Int) (v2 : Int) (v8 : Int) (r3_0 : List UInt8) (r3_1 : Int) (r3_2 : Int) (r3_3 : Int) (r3_4 : Int) : impl_WaterFor_p1 v1 v2 v8 r3_0 r3_1 r3_2 r3_3 r3_4 =
    if decide (r3_2 ≤ 10000) then
      (impl_Pot_open (r3_0, r3_1, r3_2, r3_3, r3_4, ()) v2).bind fun x1 =>
        if decide (x1 ≥ v1) then
          some (IntKind.i64.wrap (r3_2 - v8), 0)
        else
          impl_WaterFor_p1 v1 v2 v8 r3_0 r3_1 (IntKind.i64.wrap (r3_2 + 1)) r3_3 r3_4
    else
      some (0, 3) :=
  (goL_dn _ _ _ 4000 _ _).trans (by kernel_rfl)

/- impl.OpenSeconds -/
def impl_OpenSeconds_ir : Fn := { np := 2, io := [], res := [.t 4, .t 5], own := [false, false], body :=
  (.seq (.reg false [⟨some 2, true, .box 5 (.t 0), none, false, []⟩, ⟨some 4, false, .asg (.c (.int .i64 0)), none, false, []⟩, ⟨some 5, false, .asg (.c (.int .i64 0)), none, false, []⟩] [1, 2] [2]) (.seq (.seq (.reg false [⟨some 6, false, .ld (some 5) (.t 2), none, false, []⟩, ⟨some 7, false, .call (.c (.fn 30 [])) [.t 6], none, false, []⟩, ⟨some 8, false, .un .not (.t 7), none, false, []⟩] [1, 2, 8] [2]) (.cond (.t 8) (.seq (.reg false [⟨some 4, false, .asg (.c (.int .i64 0)), none, false, []⟩, ⟨some 5, false, .asg (.c (.int .i64 1)), none, false, []⟩] [4, 5] []) .ret) .skip)) (.seq (.seq (.reg false [⟨some 9, false, .mv (.t 1), none, false, []⟩, ⟨some 10, false, .call (.c (.fn 29 [])) [.t 9], none, false, []⟩, ⟨some 11, false, .un .not (.t 10), none, false, []⟩] [1, 2, 11] [2]) (.cond (.t 11) (.seq (.reg false [⟨some 4, false, .asg (.c (.int .i64 0)), none, false, []⟩, ⟨some 5, false, .asg (.c (.int .i64 2)), none, false, []⟩] [4, 5] []) .ret) .skip)) (.seq (.reg false [⟨some 12, false, .ld (some 5) (.t 2), none, false, []⟩, ⟨some 13, false, .mv (.t 1), none, false, []⟩, ⟨some 14, false, .call (.c (.fn 28 [])) [.t 12, .t 13], none, false, []⟩, ⟨some 4, false, .asg (.t 14), none, false, []⟩, ⟨some 5, false, .asg (.c (.int .i64 0)), none, false, []⟩] [4, 5] []) .ret)))) }
noncomputable def impl_OpenSeconds_D : List (Nat × Callee) := [(28, impl_Pot_open_c), (29, impl_isRoom_c), (30, impl_Pot_valid_c)]
def impl_OpenSeconds_H : List (Nat × ET) := []
noncomputable def impl_OpenSeconds_c : Callee := mkCallee impl_OpenSeconds_D impl_OpenSeconds_H impl_OpenSeconds_ir [.d T_Pot, .d (.one (.int .i64))] [.d (.one (.int .i64)), .d (.one (.int .i64))] []
noncomputable def impl_OpenSeconds (a0 : T_Pot.ty) (a1 : Int) : Option (Int × Int) := impl_OpenSeconds_c.f (a0, a1, ())
theorem impl_OpenSeconds_eq (a0 : T_Pot.ty) (a1 : Int) : impl_OpenSeconds a0 a1 =
    (impl_Pot_valid a0).bind fun x1 =>
      if (!x1) then
        some (0, 1)
      else
        (impl_isRoom a1).bind fun x2 =>
          if (!x2) then
            some (0, 2)
          else
            (impl_Pot_open a0 a1).bind fun x3 =>
              some (x3, 0) :=
  (mk_f _ _ _ _ _ _ _ 4000).trans (by kernel_rfl)

/- spec.DrawHoursLeft -/
def spec_DrawHoursLeft_ir : Fn := { np := 1, io := [], res := [.cell 2 (some 5), .t 3], own := [false, false], body :=
  (.seq (.reg false [⟨some 2, true, .alloc 5 (.agg [.str [], .int .i64 0, .int .i64 0, .int .i64 0, .int .i64 0]), none, false, []⟩, ⟨some 3, false, .asg (.c (.int .i64 0)), none, false, []⟩] [0, 2] [2]) (.seq (.reg false [⟨some 6, false, .mv (.t 0), none, false, []⟩, ⟨some 7, true, .call (.c (.fn 441 [])) [.t 6], none, false, []⟩, ⟨some 4, false, .asg (.t 7), none, false, []⟩] [2, 4] [2, 7, 8000]) (.seq (.reg false [⟨some 8, false, .mv (.t 4), none, false, []⟩, ⟨some 9, false, .mv (.t 4), none, false, []⟩, ⟨some 10, true, .call (.c (.fn 558 [])) [.t 9, .c (.str [104, 105, 100, 101])], none, false, []⟩, ⟨some 11, true, .call (.c (.fn 559 [])) [.t 8, .t 10], none, false, []⟩, ⟨some 5, true, .alloc 5 (.agg [.str [], .int .i64 0, .int .i64 0, .int .i64 0, .int .i64 0]), none, false, []⟩, ⟨none, true, .sto 5 (.t 5) (.t 11), none, false, []⟩] [2, 4, 5] [2, 5, 7, 8000]) (.seq (.reg true [⟨some 12, false, .ld (some 5) (.t 5), none, true, []⟩, ⟨some 13, false, .mv (.t 4), none, false, []⟩, ⟨some 14, false, .bsl 1 (.int .i64 0) 8 [(0, .c (.int .i64 0)), (1, .c (.int .i64 50)), (2, .c (.int .i64 100)), (3, .c (.int .i64 200)), (4, .c (.int .i64 300)), (5, .c (.int .i64 1000)), (6, .c (.int .i64 1001)), (7, .c (.int .i64 (-1)))], none, false, []⟩, ⟨some 15, true, .call (.c (.fn 445 [])) [.t 13, .t 14], none, false, [5]⟩, ⟨none, true, .sto 5 (.t 2) (.t 12), none, false, []⟩, ⟨some 3, false, .asg (.t 15), none, false, []⟩] [2, 3] [2]) .ret)))) }
noncomputable def spec_DrawHoursLeft_D : List (Nat × Callee) := [(441, spec_l00From_c), (445, spec_l00Src_among_c), (558, spec_l14DrawOne_c), (559, spec_l14Bent_c)]
def spec_DrawHoursLeft_H : List (Nat × ET) := [(6, (.one (.int .u8))), (14, (.one (.int .i64)))]
noncomputable def spec_DrawHoursLeft_c : Callee := mkCallee spec_DrawHoursLeft_D spec_DrawHoursLeft_H spec_DrawHoursLeft_ir [.d (.one (.sl (.one (.int .u8))))] [.d T_Pot, .d (.one (.int .i64))] []
noncomputable def spec_DrawHoursLeft (a0 : List Int) : Option (T_Pot.ty × Int) := spec_DrawHoursLeft_c.f (a0, ())
theorem spec_DrawHoursLeft_eq (a0 : List Int) : spec_DrawHoursLeft a0 =
    (spec_l00From a0).bind fun x1 =>
      (spec_l14DrawOne x1 [104, 105, 100, 101]).bind fun x2 =>
        (spec_l14Bent (x2.2.1, x2.2.2.1, x2.2.2.2.1, ()) (x2.1.1, x2.1.2.1, x2.1.2.2.1, x2.1.2.2.2.1, x2.1.2.2.2.2.1, ())).bind fun x3 =>
          (spec_l00Src_among (x3.2.1, x3.2.2.1, x3.2.2.2.1, ()) [0, 50, 100, 200, 300, 1000, 1001, (-1)]).bind fun x4 =>
            some ((x3.1.1, x3.1.2.1, x3.1.2.2.1, x3.1.2.2.2.1, x3.1.2.2.2.2.1, ()), x4.1) :=
  (mk_f _ _ _ _ _ _ _ 4000).trans (by kernel_rfl)

/- impl.isPart -/
def impl_isPart_ir : Fn := { np := 1, io := [], res := [.t 2], own := [false], body :=
  (.seq (.reg false [⟨some 2, false, .asg (.c (.bool false)), none, false, []⟩] [0] []) (.seq (.reg false [⟨some 3, false, .mv (.t 0), none, false, []⟩, ⟨some 4, false, .call (.c (.fn 23 [])) [.t 3, .c (.int .i64 0), .c (.int .i64 1000)], none, false, []⟩, ⟨some 2, false, .asg (.t 4), none, false, []⟩] [2] []) .ret)) }
noncomputable def impl_isPart_D : List (Nat × Callee) := [(23, impl_within_c)]
def impl_isPart_H : List (Nat × ET) := []
noncomputable def impl_isPart_c : Callee := mkCallee impl_isPart_D impl_isPart_H impl_isPart_ir [.d (.one (.int .i64))] [.d (.one .bool)] []
noncomputable def impl_isPart (a0 : Int) : Option (Bool) := impl_isPart_c.f (a0, ())
theorem impl_isPart_eq (a0 : Int) : impl_isPart a0 =
    (impl_within a0 0 1000).bind fun x1 =>
      some x1 :=
  (mk_f _ _ _ _ _ _ _ 4000).trans (by kernel_rfl)

/- (impl.Pot).strength -/
def impl_Pot_strength_ir : Fn := { np := 1, io := [], res := [.t 2], own := [false], body :=
  (.seq (.reg false [⟨some 1, true, .box 5 (.t 0), none, false, []⟩, ⟨some 2, false, .asg (.c (.int .i64 0)), none, false, []⟩] [1] [1]) (.seq (.reg true [⟨some 3, false, .fa 1 (.t 1), none, false, []⟩, ⟨some 4, false, .ld none (.t 3), none, false, []⟩, ⟨some 5, false, .bin .mul (.c (.int .i64 1000)) (.t 4), none, false, []⟩, ⟨some 6, false, .fa 1 (.t 1), none, false, []⟩, ⟨some 7, false, .ld none (.t 6), none, false, []⟩, ⟨some 8, false, .fa 2 (.t 1), none, false, []⟩, ⟨some 9, false, .ld none (.t 8), none, false, []⟩, ⟨some 10, false, .bin .add (.t 7) (.t 9), none, false, []⟩, ⟨some 11, false, .call (.c (.fn 27 [])) [.t 5, .t 10], none, false, []⟩, ⟨some 12, false, .fa 4 (.t 1), none, false, []⟩, ⟨some 13, false, .ld none (.t 12), none, false, []⟩, ⟨some 14, false, .bin .mul (.c (.int .i64 2)) (.t 13), none, false, []⟩, ⟨some 15, false, .bin .sub (.t 11) (.t 14), none, false, []⟩, ⟨some 16, false, .fa 3 (.t 1), none, false, []⟩, ⟨some 17, false, .ld none (.t 16), none, false, []⟩, ⟨some 18, false, .bin .sub (.t 17) (.c (.int .i64 70)), none, false, []⟩, ⟨some 19, false, .max [.c (.int .i64 0), .t 18], none, false, []⟩, ⟨some 20, false, .bin .mul (.c (.int .i64 10)) (.t 19), none, false, []⟩, ⟨some 21, false, .bin .sub (.t 15) (.t 20), none, false, []⟩, ⟨some 22, false, .max [.c (.int .i64 0), .t 21], none, false, []⟩, ⟨some 2, false, .asg (.t 22), none, false, []⟩] [2] []) .ret)) }
noncomputable def impl_Pot_strength_D : List (Nat × Callee) := [(27, impl_divRound_c)]
def impl_Pot_strength_H : List (Nat × ET) := []
noncomputable def impl_Pot_strength_c : Callee := mkCallee impl_Pot_strength_D impl_Pot_strength_H impl_Pot_strength_ir [.d T_Pot] [.d (.one (.int .i64))] []
noncomputable def impl_Pot_strength (a0 : T_Pot.ty) : Option (Int) := impl_Pot_strength_c.f (a0, ())
theorem impl_Pot_strength_eq (a0 : T_Pot.ty) : impl_Pot_strength a0 =
    (impl_divRound (IntKind.i64.wrap (1000 * a0.2.1)) (IntKind.i64.wrap (a0.2.1 + a0.2.2.1))).bind fun x1 =>
      some (if IntKind.i64.wrap ((IntKind.i64.wrap (x1 - (IntKind.i64.wrap (2 * a0.2.2.2.2.1)))) - (IntKind.i64.wrap (10 * (if IntKind.i64.wrap (a0.2.2.2.1 - 70) > 0 then IntKind.i64.wrap (a0.2.2.2.1 - 70) else 0)))) > 0 then IntKind.i64.wrap ((IntKind.i64.wrap (x1 - (IntKind.i64.wrap (2 * a0.2.2.2.2.1)))) - (IntKind.i64.wrap (10 * (if IntKind.i64.wrap (a0.2.2.2.1 - 70) > 0 then IntKind.i64.wrap (a0.2.2.2.1 - 70) else 0)))) else 0) :=
  (mk_f _ _ _ _ _ _ _ 4000).trans (by kernel_rfl)

/- impl.HoursLeft -/
def impl_HoursLeft_k0 : C :=
  .seq (.seq (.reg false [⟨some 16, false, .mv (.t 7), none, false, []⟩, ⟨some 17, false, .bin .geq (.t 16) (.c (.int .i64 0)), none, false, []⟩] [1, 2, 6, 7, 17] [2]) (.cond (.t 17) .skip (.exit 0))) (.seq (.block 1 (.seq (.reg false [⟨some 20, false, .mv (.t 6), none, false, []⟩, ⟨some 21, false, .mv (.t 7), none, false, []⟩, ⟨some 22, false, .bin .add (.t 20) (.t 21), none, false, []⟩, ⟨some 23, false, .fa 4 (.t 2), none, false, []⟩, ⟨none, true, .sto 1 (.t 23) (.t 22), none, false, []⟩] [1, 2, 6, 7] [2]) (.seq (.reg false [⟨some 24, false, .ld (some 5) (.t 2), none, false, []⟩, ⟨some 25, false, .call (.c (.fn 54 [])) [.t 24], none, false, []⟩, ⟨some 26, false, .mv (.t 1), none, false, []⟩, ⟨some 27, false, .bin .geq (.t 25) (.t 26), none, false, []⟩] [1, 2, 6, 7, 27] [2]) (.cond (.t 27) (.seq (.reg false [⟨some 28, false, .mv (.t 7), none, false, []⟩, ⟨some 4, false, .asg (.t 28), none, false, []⟩, ⟨some 5, false, .asg (.c (.int .i64 0)), none, false, []⟩] [4, 5] []) .ret) .skip)))) (.reg false [⟨some 18, false, .mv (.t 7), none, false, []⟩, ⟨some 19, false, .bin .sub (.t 18) (.c (.int .i64 1)), none, false, []⟩, ⟨some 7, false, .asg (.t 19), none, false, []⟩] [1, 2, 6, 7] [2]))
def impl_HoursLeft_k1 : C :=
  .norm [1, 2, 6, 7] [2] impl_HoursLeft_k0
def impl_HoursLeft_k2 : C :=
  .seq (.reg false [⟨some 4, false, .asg (.c (.int .i64 0)), none, false, []⟩, ⟨some 5, false, .asg (.c (.int .i64 3)), none, false, []⟩] [4, 5] []) .ret
def impl_HoursLeft_ir : Fn := { np := 2, io := [], res := [.t 4, .t 5], own := [false, false], body :=
  (.seq (.reg false [⟨some 2, true, .box 5 (.t 0), none, false, []⟩, ⟨some 4, false, .asg (.c (.int .i64 0)), none, false, []⟩, ⟨some 5, false, .asg (.c (.int .i64 0)), none, false, []⟩] [1, 2] [2]) (.seq (.seq (.reg false [⟨some 8, false, .ld (some 5) (.t 2), none, false, []⟩, ⟨some 9, false, .call (.c (.fn 30 [])) [.t 8], none, false, []⟩, ⟨some 10, false, .un .not (.t 9), none, false, []⟩] [1, 2, 10] [2]) (.cond (.t 10) (.seq (.reg false [⟨some 4, false, .asg (.c (.int .i64 0)), none, false, []⟩, ⟨some 5, false, .asg (.c (.int .i64 1)), none, false, []⟩] [4, 5] []) .ret) .skip)) (.seq (.seq (.reg false [⟨some 11, false, .mv (.t 1), none, false, []⟩, ⟨some 12, false, .call (.c (.fn 483 [])) [.t 11], none, false, []⟩, ⟨some 13, false, .un .not (.t 12), none, false, []⟩] [1, 2, 13] [2]) (.cond (.t 13) (.seq (.reg false [⟨some 4, false, .asg (.c (.int .i64 0)), none, false, []⟩, ⟨some 5, false, .asg (.c (.int .i64 2)), none, false, []⟩] [4, 5] []) .ret) .skip)) (.seq (.reg false [⟨some 14, false, .fa 4 (.t 2), none, false, []⟩, ⟨some 15, false, .ld none (.t 14), none, false, []⟩, ⟨some 6, false, .asg (.t 15), none, false, []⟩] [1, 2, 6] [2]) (.seq (.seq (.reg false [⟨some 7, false, .asg (.c (.int .i64 1000)), none, false, []⟩] [1, 2, 6, 7] [2]) (.block 0 (.loop impl_HoursLeft_k1))) impl_HoursLeft_k2))))) }
noncomputable def impl_HoursLeft_D : List (Nat × Callee) := [(30, impl_Pot_valid_c), (54, impl_Pot_strength_c), (483, impl_isPart_c)]
def impl_HoursLeft_H : List (Nat × ET) := []
noncomputable def impl_HoursLeft_c : Callee := mkCallee impl_HoursLeft_D impl_HoursLeft_H impl_HoursLeft_ir [.d T_Pot, .d (.one (.int .i64))] [.d (.one (.int .i64)), .d (.one (.int .i64))] []
noncomputable def impl_HoursLeft (a0 : T_Pot.ty) (a1 : Int) : Option (Int × Int) := impl_HoursLeft_c.f (a0, a1, ())
noncomputable def impl_HoursLeft_p0  (v1 : Int) (v6 : Int) (v7 : Int) (r2_0 : List UInt8) (r2_1 : Int) (r2_2 : Int) (r2_3 : Int) (r2_4 : Int) : Option (Int × Int) :=
  goL impl_HoursLeft_D impl_HoursLeft_H (vleave impl_HoursLeft_ir [.d T_Pot, .d (.one (.int .i64))] [.d (.one (.int .i64)), .d (.one (.int .i64))] [] []) [.c impl_HoursLeft_k0, .l impl_HoursLeft_k1, .e 0, .c impl_HoursLeft_k2]
    ⟨[(1, .int .i64 v1), (2, .loc 2 0 0), (6, .int .i64 v6), (7, .int .i64 v7)], [(2, some (.var 5 (.agg [.str r2_0, .int .i64 r2_1, .int .i64 r2_2, .int .i64 r2_3, .int .i64 r2_4])))]⟩
theorem impl_HoursLeft_eq (a0 : T_Pot.ty) (a1 : Int) : impl_HoursLeft a0 a1 =
    (impl_Pot_valid a0).bind fun x1 =>
      if (!x1) then
        some (0, 1)
      else
        (impl_isPart a1).bind fun x2 =>
          if (!x2) then
            some (0, 2)
          else
            impl_HoursLeft_p0 a1 a0.2.2.2.2.1 1000 a0.1 a0.2.1 a0.2.2.1 a0.2.2.2.1 a0.2.2.2.2.1 :=
  (mk_f _ _ _ _ _ _ _ 4000).trans (by kernel_rfl)
theorem impl_HoursLeft_p0_eq  (v1 : Int) (v6 : Int) (v7 : Int) (r2_0 : List UInt8) (r2_1 : Int) (r2_2 : Int) (r2_3 : Int) (r2_4 : Int) : impl_HoursLeft_p0 v1 v6 v7 r2_0 r2_1 r2_2 r2_3 r2_4 =
    if decide (v7 ≥ 0) then
      (impl_Pot_strength (r2_0, r2_1, r2_2, r2_3, IntKind.i64.wrap (v6 + v7), ())).bind fun x1 =>
        if decide (x1 ≥ v1) then
          some (v7, 0)
        else
          impl_HoursLeft_p0 v1 v6 (IntKind.i64.wrap (v7 - 1)) r2_0 r2_1 r2_2 r2_3 (IntKind.i64.wrap (v6 + v7))
    else
      some (0, 3) :=
  (goL_dn _ _ _ 4000 _ _).trans (by kernel_rfl)

/- spec.l01Small -/
def spec_l01Small_ir : Fn := { np := 1, io := [], res := [.t 2], own := [false], body :=
  (.seq (.reg false [⟨some 2, false, .asg (.c (.bool false)), none, false, []⟩] [0] []) (.seq (.reg false [⟨some 3, false, .mv (.t 0), none, false, []⟩, ⟨some 4, false, .bin .geq (.t 3) (.c (.int .u8 97)), none, false, []⟩, ⟨some 5, false, .mv (.t 4), none, false, []⟩, ⟨some 6, false, .mv (.t 0), some (2, true), false, []⟩, ⟨some 7, false, .bin .leq (.t 6) (.c (.int .u8 122)), some (2, true), false, []⟩, ⟨some 8, false, .pick (.t 5) (.t 7) (.c (.bool false)), none, false, []⟩, ⟨some 2, false, .asg (.t 8), none, false, []⟩] [2] []) .ret)) }
noncomputable def spec_l01Small_D : List (Nat × Callee) := []
def spec_l01Small_H : List (Nat × ET) := []
noncomputable def spec_l01Small_c : Callee := mkCallee spec_l01Small_D spec_l01Small_H spec_l01Small_ir [.d (.one (.int .u8))] [.d (.one .bool)] []
noncomputable def spec_l01Small (a0 : Int) : Option (Bool) := spec_l01Small_c.f (a0, ())
theorem spec_l01Small_eq (a0 : Int) : spec_l01Small a0 =
    if decide (a0 ≥ 97) then
      some (decide (a0 ≤ 122))
    else
      some false :=
  (mk_f _ _ _ _ _ _ _ 4000).trans (by kernel_rfl)

/- spec.l01Digit -/
def spec_l01Digit_ir : Fn := { np := 1, io := [], res := [.t 2], own := [false], body :=
  (.seq (.reg false [⟨some 2, false, .asg (.c (.bool false)), none, false, []⟩] [0] []) (.seq (.reg false [⟨some 3, false, .mv (.t 0), none, false, []⟩, ⟨some 4, false, .bin .geq (.t 3) (.c (.int .u8 48)), none, false, []⟩, ⟨some 5, false, .mv (.t 4), none, false, []⟩, ⟨some 6, false, .mv (.t 0), some (2, true), false, []⟩, ⟨some 7, false, .bin .leq (.t 6) (.c (.int .u8 57)), some (2, true), false, []⟩, ⟨some 8, false, .pick (.t 5) (.t 7) (.c (.bool false)), none, false, []⟩, ⟨some 2, false, .asg (.t 8), none, false, []⟩] [2] []) .ret)) }
noncomputable def spec_l01Digit_D : List (Nat × Callee) := []
def spec_l01Digit_H : List (Nat × ET) := []
noncomputable def spec_l01Digit_c : Callee := mkCallee spec_l01Digit_D spec_l01Digit_H spec_l01Digit_ir [.d (.one (.int .u8))] [.d (.one .bool)] []
noncomputable def spec_l01Digit (a0 : Int) : Option (Bool) := spec_l01Digit_c.f (a0, ())
theorem spec_l01Digit_eq (a0 : Int) : spec_l01Digit a0 =
    if decide (a0 ≥ 48) then
      some (decide (a0 ≤ 57))
    else
      some false :=
  (mk_f _ _ _ _ _ _ _ 4000).trans (by kernel_rfl)

/- spec.l01Name -/
def spec_l01Name_k0 : C :=
  .seq (.seq (.reg false [⟨some 17, false, .mv (.t 3), none, false, []⟩, ⟨some 18, false, .mv (.t 0), none, false, []⟩, ⟨some 19, false, .lens (.t 18), none, false, []⟩, ⟨some 20, false, .bin .lss (.t 17) (.t 19), none, false, []⟩] [0, 3, 20] []) (.cond (.t 20) .skip (.exit 0))) (.seq (.block 1 (.seq (.reg false [⟨some 23, false, .mv (.t 0), none, false, []⟩, ⟨some 24, false, .mv (.t 3), none, false, []⟩, ⟨some 25, false, .ix (.t 23) (.t 24), none, false, []⟩, ⟨some 26, false, .call (.c (.fn 11 [])) [.t 25], none, false, []⟩, ⟨some 27, false, .un .not (.t 26), none, false, []⟩, ⟨some 28, false, .mv (.t 27), none, false, []⟩, ⟨some 29, false, .mv (.t 0), some (5, true), false, []⟩, ⟨some 30, false, .mv (.t 3), some (5, true), false, []⟩, ⟨some 31, false, .ix (.t 29) (.t 30), some (5, true), false, []⟩, ⟨some 32, false, .call (.c (.fn 12 [])) [.t 31], some (5, true), false, []⟩, ⟨some 33, false, .un .not (.t 32), some (5, true), false, []⟩, ⟨some 34, false, .pick (.t 28) (.t 33) (.c (.bool false)), none, false, []⟩] [0, 3, 34] []) (.cond (.t 34) (.seq (.reg false [⟨some 2, false, .asg (.c (.bool false)), none, false, []⟩] [2] []) .ret) .skip))) (.reg false [⟨some 21, false, .mv (.t 3), none, false, []⟩, ⟨some 22, false, .bin .add (.t 21) (.c (.int .i64 1)), none, false, []⟩, ⟨some 3, false, .asg (.t 22), none, false, []⟩] [0, 3] []))
def spec_l01Name_k1 : C :=
  .norm [0, 3] [] spec_l01Name_k0
def spec_l01Name_k2 : C :=
  .seq (.reg false [⟨some 2, false, .asg (.c (.bool true)), none, false, []⟩] [2] []) .ret
def spec_l01Name_k3 : C :=
  .seq (.seq (.reg false [⟨some 3, false, .asg (.c (.int .i64 0)), none, false, []⟩] [0, 3] []) (.block 0 (.loop spec_l01Name_k1))) spec_l01Name_k2
def spec_l01Name_ir : Fn := { np := 1, io := [], res := [.t 2], own := [false], body :=
  (.seq (.reg false [⟨some 2, false, .asg (.c (.bool false)), none, false, []⟩] [0] []) (.seq (.seq (.reg false [⟨some 4, false, .mv (.t 0), none, false, []⟩, ⟨some 5, false, .bin .eql (.t 4) (.c (.str [])), none, false, []⟩, ⟨some 6, false, .mv (.t 5), none, false, []⟩, ⟨some 7, false, .mv (.t 0), some (2, false), false, []⟩, ⟨some 8, false, .lens (.t 7), some (2, false), false, []⟩, ⟨some 9, false, .bin .gtr (.t 8) (.c (.int .i64 10)), some (2, false), false, []⟩, ⟨some 10, false, .pick (.t 6) (.c (.bool true)) (.t 9), none, false, []⟩, ⟨some 11, false, .mv (.t 10), none, false, []⟩, ⟨some 12, false, .mv (.t 0), some (7, false), false, []⟩, ⟨some 13, false, .ix (.t 12) (.c (.int .i64 0)), some (7, false), false, []⟩, ⟨some 14, false, .call (.c (.fn 11 [])) [.t 13], some (7, false), false, []⟩, ⟨some 15, false, .un .not (.t 14), some (7, false), false, []⟩, ⟨some 16, false, .pick (.t 11) (.c (.bool true)) (.t 15), none, false, []⟩] [0, 16] []) (.cond (.t 16) (.seq (.reg false [⟨some 2, false, .asg (.c (.bool false)), none, false, []⟩] [2] []) .ret) .skip)) (.norm [0] [] spec_l01Name_k3))) }
noncomputable def spec_l01Name_D : List (Nat × Callee) := [(11, spec_l01Small_c), (12, spec_l01Digit_c)]
def spec_l01Name_H : List (Nat × ET) := []
noncomputable def spec_l01Name_c : Callee := mkCallee spec_l01Name_D spec_l01Name_H spec_l01Name_ir [.d (.one .str)] [.d (.one .bool)] []
noncomputable def spec_l01Name (a0 : List UInt8) : Option (Bool) := spec_l01Name_c.f (a0, ())
noncomputable def spec_l01Name_p0  (v0 : List UInt8) : Option (Bool) :=
  goL spec_l01Name_D spec_l01Name_H (vleave spec_l01Name_ir [.d (.one .str)] [.d (.one .bool)] [] []) [.c spec_l01Name_k3]
    ⟨[(0, .str v0)], []⟩
noncomputable def spec_l01Name_p1  (v0 : List UInt8) (v3 : Int) : Option (Bool) :=
  goL spec_l01Name_D spec_l01Name_H (vleave spec_l01Name_ir [.d (.one .str)] [.d (.one .bool)] [] []) [.c spec_l01Name_k0, .l spec_l01Name_k1, .e 0, .c spec_l01Name_k2]
    ⟨[(0, .str v0), (3, .int .i64 v3)], []⟩
theorem spec_l01Name_eq (a0 : List UInt8) : spec_l01Name a0 =
    if (a0 == []) then
      some false
    else
      if decide ((a0.length : Int) > 10) then
        some false
      else
        (a0[0]?).bind fun x1 =>
          (spec_l01Small (x1.toNat : Int)).bind fun x2 =>
            if (!x2) then
              some false
            else
              spec_l01Name_p0 a0 :=
  (mk_f _ _ _ _ _ _ _ 4000).trans (by kernel_rfl)
theorem spec_l01Name_p0_eq  (v0 : List UInt8) : spec_l01Name_p0 v0 =
    spec_l01Name_p1 v0 0 :=
  (goL_dn _ _ _ 4000 _ _).trans (by kernel_rfl)
theorem spec_l01Name_p1_eq  (v0 : List UInt8) (v3 : Int) : spec_l01Name_p1 v0 v3 =
    if decide (v3 < (v0.length : Int)) then
      if decide (0 ≤ v3) then
        (v0[v3.toNat]?).bind fun x1 =>
          (spec_l01Small (x1.toNat : Int)).bind fun x2 =>
            if (!x2) then
              if decide (0 ≤ v3) then
                (v0[v3.toNat]?).bind fun x3 =>
                  (spec_l01Digit (x3.toNat : Int)).bind fun x4 =>
                    if (!x4) then
                      some false
                    else
                      spec_l01Name_p1 v0 (IntKind.i64.wrap (v3 + 1))
              else
                none
            else
              spec_l01Name_p1 v0 (IntKind.i64.wrap (v3 + 1))
      else
        none
    else
      some true :=
  (goL_dn _ _ _ 4000 _ _).trans (by kernel_rfl)

/- spec.l00In -/
def spec_l00In_ir : Fn := { np := 3, io := [], res := [.t 6], own := [false], body :=
  (.seq (.reg false [⟨some 6, false, .asg (.c (.bool false)), none, false, []⟩] [0, 1, 2] []) (.seq (.reg false [⟨some 7, false, .mv (.t 0), none, false, []⟩, ⟨some 8, false, .mv (.t 1), none, false, []⟩, ⟨some 9, false, .bin .geq (.t 7) (.t 8), none, false, []⟩, ⟨some 10, false, .mv (.t 9), none, false, []⟩, ⟨some 11, false, .mv (.t 0), some (3, true), false, []⟩, ⟨some 12, false, .mv (.t 2), some (3, true), false, []⟩, ⟨some 13, false, .bin .leq (.t 11) (.t 12), some (3, true), false, []⟩, ⟨some 14, false, .pick (.t 10) (.t 13) (.c (.bool false)), none, false, []⟩, ⟨some 6, false, .asg (.t 14), none, false, []⟩] [6] []) .ret)) }
noncomputable def spec_l00In_D : List (Nat × Callee) := []
def spec_l00In_H : List (Nat × ET) := []
noncomputable def spec_l00In_c : Callee := mkCallee spec_l00In_D spec_l00In_H spec_l00In_ir [.d (.one (.int .i64)), .d (.one (.int .i64)), .d (.one (.int .i64))] [.d (.one .bool)] []
noncomputable def spec_l00In (a0 : Int) (a1 : Int) (a2 : Int) : Option (Bool) := spec_l00In_c.f (a0, a1, a2, ())
theorem spec_l00In_eq (a0 : Int) (a1 : Int) (a2 : Int) : spec_l00In a0 a1 a2 =
    if decide (a0 ≥ a1) then
      some (decide (a0 ≤ a2))
    else
      some false :=
  (mk_f _ _ _ _ _ _ _ 4000).trans (by kernel_rfl)

/- spec.l14Grams -/
def spec_l14Grams_ir : Fn := { np := 1, io := [], res := [.t 2], own := [false], body :=
  (.seq (.reg false [⟨some 2, false, .asg (.c (.bool false)), none, false, []⟩] [0] []) (.seq (.reg false [⟨some 3, false, .mv (.t 0), none, false, []⟩, ⟨some 4, false, .call (.c (.fn 1 [])) [.t 3, .c (.int .i64 1), .c (.int .i64 10000)], none, false, []⟩, ⟨some 2, false, .asg (.t 4), none, false, []⟩] [2] []) .ret)) }
noncomputable def spec_l14Grams_D : List (Nat × Callee) := [(1, spec_l00In_c)]
def spec_l14Grams_H : List (Nat × ET) := []
noncomputable def spec_l14Grams_c : Callee := mkCallee spec_l14Grams_D spec_l14Grams_H spec_l14Grams_ir [.d (.one (.int .i64))] [.d (.one .bool)] []
noncomputable def spec_l14Grams (a0 : Int) : Option (Bool) := spec_l14Grams_c.f (a0, ())
theorem spec_l14Grams_eq (a0 : Int) : spec_l14Grams a0 =
    (spec_l00In a0 1 10000).bind fun x1 =>
      some x1 :=
  (mk_f _ _ _ _ _ _ _ 4000).trans (by kernel_rfl)

/- spec.l14Heat -/
def spec_l14Heat_ir : Fn := { np := 1, io := [], res := [.t 2], own := [false], body :=
  (.seq (.reg false [⟨some 2, false, .asg (.c (.bool false)), none, false, []⟩] [0] []) (.seq (.reg false [⟨some 3, false, .mv (.t 0), none, false, []⟩, ⟨some 4, false, .call (.c (.fn 1 [])) [.t 3, .c (.int .i64 20), .c (.int .i64 95)], none, false, []⟩, ⟨some 2, false, .asg (.t 4), none, false, []⟩] [2] []) .ret)) }
noncomputable def spec_l14Heat_D : List (Nat × Callee) := [(1, spec_l00In_c)]
def spec_l14Heat_H : List (Nat × ET) := []
noncomputable def spec_l14Heat_c : Callee := mkCallee spec_l14Heat_D spec_l14Heat_H spec_l14Heat_ir [.d (.one (.int .i64))] [.d (.one .bool)] []
noncomputable def spec_l14Heat (a0 : Int) : Option (Bool) := spec_l14Heat_c.f (a0, ())
theorem spec_l14Heat_eq (a0 : Int) : spec_l14Heat a0 =
    (spec_l00In a0 20 95).bind fun x1 =>
      some x1 :=
  (mk_f _ _ _ _ _ _ _ 4000).trans (by kernel_rfl)

/- spec.l14One -/
def spec_l14One_ir : Fn := { np := 1, io := [], res := [.t 2], own := [false], body :=
  (.seq (.reg false [⟨some 2, false, .asg (.c (.bool false)), none, false, []⟩] [0] []) (.seq (.reg false [⟨some 3, false, .mv (.t 0), none, false, []⟩, ⟨some 4, false, .nilck (.t 3), none, false, []⟩, ⟨some 5, false, .fa 0 (.t 4), none, false, []⟩, ⟨some 6, false, .ld none (.t 5), none, false, []⟩, ⟨some 7, false, .call (.c (.fn 13 [])) [.t 6], none, false, []⟩, ⟨some 8, false, .mv (.t 7), none, false, []⟩, ⟨some 9, false, .mv (.t 0), some (5, true), false, []⟩, ⟨some 10, false, .nilck (.t 9), some (5, true), false, []⟩, ⟨some 11, false, .fa 1 (.t 10), some (5, true), false, []⟩, ⟨some 12, false, .ld none (.t 11), some (5, true), false, []⟩, ⟨some 13, false, .call (.c (.fn 14 [])) [.t 12], some (5, true), false, []⟩, ⟨some 14, false, .pick (.t 8) (.t 13) (.c (.bool false)), none, false, []⟩, ⟨some 15, false, .mv (.t 14), none, false, []⟩, ⟨some 16, false, .mv (.t 0), some (12, true), false, []⟩, ⟨some 17, false, .nilck (.t 16), some (12, true), false, []⟩, ⟨some 18, false, .fa 2 (.t 17), some (12, true), false, []⟩, ⟨some 19, false, .ld none (.t 18), some (12, true), false, []⟩, ⟨some 20, false, .call (.c (.fn 14 [])) [.t 19], some (12, true), false, []⟩, ⟨some 21, false, .pick (.t 15) (.t 20) (.c (.bool false)), none, false, []⟩, ⟨some 22, false, .mv (.t 21), none, false, []⟩, ⟨some 23, false, .mv (.t 0), some (19, true), false, []⟩, ⟨some 24, false, .nilck (.t 23), some (19, true), false, []⟩, ⟨some 25, false, .fa 3 (.t 24), some (19, true), false, []⟩, ⟨some 26, false, .ld none (.t 25), some (19, true), false, []⟩, ⟨some 27, false, .call (.c (.fn 15 [])) [.t 26], some (19, true), false, []⟩, ⟨some 28, false, .pick (.t 22) (.t 27) (.c (.bool false)), none, false, []⟩, ⟨some 29, false, .mv (.t 28), none, false, []⟩, ⟨some 30, false, .mv (.t 0), some (26, true), false, []⟩, ⟨some 31, false, .nilck (.t 30), some (26, true), false, []⟩, ⟨some 32, false, .fa 4 (.t 31), some (26, true), false, []⟩, ⟨some 33, false, .ld none (.t 32), some (26, true), false, []⟩, ⟨some 34, false, .call (.c (.fn 1 [])) [.t 33, .c (.int .i64 0), .c (.int .i64 1000)], some (26, true), false, []⟩, ⟨some 35, false, .pick (.t 29) (.t 34) (.c (.bool false)), none, false, []⟩, ⟨some 2, false, .asg (.t 35), none, false, []⟩] [2] []) .ret)) }
noncomputable def spec_l14One_D : List (Nat × Callee) := [(1, spec_l00In_c), (13, spec_l01Name_c), (14, spec_l14Grams_c), (15, spec_l14Heat_c)]
def spec_l14One_H : List (Nat × ET) := []
noncomputable def spec_l14One_c : Callee := mkCallee spec_l14One_D spec_l14One_H spec_l14One_ir [.p T_Pot] [.d (.one .bool)] []
noncomputable def spec_l14One (a0 : T_Pot.ty) : Option (Bool) := spec_l14One_c.f (a0, ())
theorem spec_l14One_eq (a0 : T_Pot.ty) : spec_l14One a0 =
    (spec_l01Name a0.1).bind fun x1 =>
      if x1 then
        (spec_l14Grams a0.2.1).bind fun x2 =>
          if x2 then
            (spec_l14Grams a0.2.2.1).bind fun x3 =>
              if x3 then
                (spec_l14Heat a0.2.2.2.1).bind fun x4 =>
                  if x4 then
                    (spec_l00In a0.2.2.2.2.1 0 1000).bind fun x5 =>
                      some x5
                  else
                    some false
              else
                some false
          else
            some false
      else
        some false :=
  (mk_f _ _ _ _ _ _ _ 4000).trans (by kernel_rfl)

/- spec.l01Div -/
def spec_l01Div_k0 : C :=
  .seq (.seq (.reg false [⟨some 11, false, .mv (.t 0), none, false, []⟩, ⟨some 12, false, .bin .lss (.t 11) (.c (.int .i64 0)), none, false, []⟩] [0, 1, 12] []) (.cond (.t 12) (.seq (.reg false [⟨some 13, false, .mv (.t 1), none, false, []⟩, ⟨some 14, false, .mv (.t 0), none, false, []⟩, ⟨some 15, false, .bin .mul (.c (.int .i64 2)) (.t 14), none, false, []⟩, ⟨some 16, false, .bin .sub (.t 13) (.t 15), none, false, []⟩, ⟨some 17, false, .mv (.t 1), none, false, []⟩, ⟨some 18, false, .bin .mul (.c (.int .i64 2)) (.t 17), none, false, []⟩, ⟨some 19, false, .bin .quo (.t 16) (.t 18), none, false, []⟩, ⟨some 20, false, .un .neg (.t 19), none, false, []⟩, ⟨some 4, false, .asg (.t 20), none, false, []⟩] [4] []) .ret) .skip)) (.seq (.reg false [⟨some 21, false, .mv (.t 0), none, false, []⟩, ⟨some 22, false, .bin .mul (.c (.int .i64 2)) (.t 21), none, false, []⟩, ⟨some 23, false, .mv (.t 1), none, false, []⟩, ⟨some 24, false, .bin .add (.t 22) (.t 23), none, false, []⟩, ⟨some 25, false, .mv (.t 1), none, false, []⟩, ⟨some 26, false, .bin .mul (.c (.int .i64 2)) (.t 25), none, false, []⟩, ⟨some 27, false, .bin .quo (.t 24) (.t 26), none, false, []⟩, ⟨some 4, false, .asg (.t 27), none, false, []⟩] [4] []) .ret)
def spec_l01Div_ir : Fn := { np := 2, io := [], res := [.t 4], own := [false], body :=
  (.seq (.reg false [⟨some 4, false, .asg (.c (.int .i64 0)), none, false, []⟩] [0, 1] []) (.seq (.seq (.reg false [⟨some 5, false, .mv (.t 1), none, false, []⟩, ⟨some 6, false, .bin .lss (.t 5) (.c (.int .i64 0)), none, false, []⟩] [0, 1, 6] []) (.cond (.t 6) (.seq (.reg false [⟨some 7, false, .mv (.t 0), none, false, []⟩, ⟨some 8, false, .un .neg (.t 7), none, false, []⟩, ⟨some 0, false, .asg (.t 8), none, false, []⟩] [0, 1] []) (.reg false [⟨some 9, false, .mv (.t 1), none, false, []⟩, ⟨some 10, false, .un .neg (.t 9), none, false, []⟩, ⟨some 1, false, .asg (.t 10), none, false, []⟩] [0, 1] [])) .skip)) (.norm [0, 1] [] spec_l01Div_k0))) }
noncomputable def spec_l01Div_D : List (Nat × Callee) := []
def spec_l01Div_H : List (Nat × ET) := []
noncomputable def spec_l01Div_c : Callee := mkCallee spec_l01Div_D spec_l01Div_H spec_l01Div_ir [.d (.one (.int .i64)), .d (.one (.int .i64))] [.d (.one (.int .i64))] []
noncomputable def spec_l01Div (a0 : Int) (a1 : Int) : Option (Int) := spec_l01Div_c.f (a0, a1, ())
noncomputable def spec_l01Div_p0  (v0 : Int) (v1 : Int) : Option (Int) :=
  goL spec_l01Div_D spec_l01Div_H (vleave spec_l01Div_ir [.d (.one (.int .i64)), .d (.one (.int .i64))] [.d (.one (.int .i64))] [] []) [.c spec_l01Div_k0]
    ⟨[(0, .int .i64 v0), (1, .int .i64 v1)], []⟩
theorem spec_l01Div_eq (a0 : Int) (a1 : Int) : spec_l01Div a0 a1 =
    if decide (a1 < 0) then
      spec_l01Div_p0 (IntKind.i64.wrap (0 - a0)) (IntKind.i64.wrap (0 - a1))
    else
      spec_l01Div_p0 a0 a1 :=
  (mk_f _ _ _ _ _ _ _ 4000).trans (by kernel_rfl)
theorem spec_l01Div_p0_eq  (v0 : Int) (v1 : Int) : spec_l01Div_p0 v0 v1 =
    if decide (v0 < 0) then
      if decide (IntKind.i64.wrap (2 * v1) = 0) then
        none
      else
        some (IntKind.i64.wrap (0 - (IntKind.i64.wrap ((IntKind.i64.wrap (v1 - (IntKind.i64.wrap (2 * v0)))).tdiv (IntKind.i64.wrap (2 * v1))))))
    else
      if decide (IntKind.i64.wrap (2 * v1) = 0) then
        none
      else
        some (IntKind.i64.wrap ((IntKind.i64.wrap ((IntKind.i64.wrap (2 * v0)) + v1)).tdiv (IntKind.i64.wrap (2 * v1)))) :=
  (goL_dn _ _ _ 4000 _ _).trans (by kernel_rfl)

/- spec.l00Max -/
def spec_l00Max_ir : Fn := { np := 2, io := [], res := [.t 4], own := [false], body :=
  (.seq (.reg false [⟨some 4, false, .asg (.c (.int .i64 0)), none, false, []⟩] [0, 1] []) (.seq (.seq (.reg false [⟨some 5, false, .mv (.t 0), none, false, []⟩, ⟨some 6, false, .mv (.t 1), none, false, []⟩, ⟨some 7, false, .bin .gtr (.t 5) (.t 6), none, false, []⟩] [0, 1, 7] []) (.cond (.t 7) (.seq (.reg false [⟨some 8, false, .mv (.t 0), none, false, []⟩, ⟨some 4, false, .asg (.t 8), none, false, []⟩] [4] []) .ret) .skip)) (.seq (.reg false [⟨some 9, false, .mv (.t 1), none, false, []⟩, ⟨some 4, false, .asg (.t 9), none, false, []⟩] [4] []) .ret))) }
noncomputable def spec_l00Max_D : List (Nat × Callee) := []
def spec_l00Max_H : List (Nat × ET) := []
noncomputable def spec_l00Max_c : Callee := mkCallee spec_l00Max_D spec_l00Max_H spec_l00Max_ir [.d (.one (.int .i64)), .d (.one (.int .i64))] [.d (.one (.int .i64))] []
noncomputable def spec_l00Max (a0 : Int) (a1 : Int) : Option (Int) := spec_l00Max_c.f (a0, a1, ())
theorem spec_l00Max_eq (a0 : Int) (a1 : Int) : spec_l00Max a0 a1 =
    if decide (a0 > a1) then
      some a0
    else
      some a1 :=
  (mk_f _ _ _ _ _ _ _ 4000).trans (by kernel_rfl)

/- spec.l14Strong -/
def spec_l14Strong_ir : Fn := { np := 1, io := [], res := [.t 2], own := [false], body :=
  (.seq (.reg false [⟨some 2, false, .asg (.c (.int .i64 0)), none, false, []⟩] [0] []) (.seq (.reg true [⟨some 3, false, .mv (.t 0), none, false, []⟩, ⟨some 4, false, .nilck (.t 3), none, false, []⟩, ⟨some 5, false, .fa 1 (.t 4), none, false, []⟩, ⟨some 6, false, .ld none (.t 5), none, false, []⟩, ⟨some 7, false, .bin .mul (.c (.int .i64 1000)) (.t 6), none, false, []⟩, ⟨some 8, false, .mv (.t 0), none, false, []⟩, ⟨some 9, false, .nilck (.t 8), none, false, []⟩, ⟨some 10, false, .fa 1 (.t 9), none, false, []⟩, ⟨some 11, false, .ld none (.t 10), none, false, []⟩, ⟨some 12, false, .mv (.t 0), none, false, []⟩, ⟨some 13, false, .nilck (.t 12), none, false, []⟩, ⟨some 14, false, .fa 2 (.t 13), none, false, []⟩, ⟨some 15, false, .ld none (.t 14), none, false, []⟩, ⟨some 16, false, .bin .add (.t 11) (.t 15), none, false, []⟩, ⟨some 17, false, .call (.c (.fn 16 [])) [.t 7, .t 16], none, false, []⟩, ⟨some 18, false, .mv (.t 0), none, false, []⟩, ⟨some 19, false, .nilck (.t 18), none, false, []⟩, ⟨some 20, false, .fa 4 (.t 19), none, false, []⟩, ⟨some 21, false, .ld none (.t 20), none, false, []⟩, ⟨some 22, false, .bin .mul (.c (.int .i64 2)) (.t 21), none, false, []⟩, ⟨some 23, false, .bin .sub (.t 17) (.t 22), none, false, []⟩, ⟨some 24, false, .mv (.t 0), none, false, []⟩, ⟨some 25, false, .nilck (.t 24), none, false, []⟩, ⟨some 26, false, .fa 3 (.t 25), none, false, []⟩, ⟨some 27, false, .ld none (.t 26), none, false, []⟩, ⟨some 28, false, .bin .sub (.t 27) (.c (.int .i64 70)), none, false, []⟩, ⟨some 29, false, .call (.c (.fn 17 [])) [.c (.int .i64 0), .t 28], none, false, []⟩, ⟨some 30, false, .bin .mul (.c (.int .i64 10)) (.t 29), none, false, []⟩, ⟨some 31, false, .bin .sub (.t 23) (.t 30), none, false, []⟩, ⟨some 32, false, .call (.c (.fn 17 [])) [.c (.int .i64 0), .t 31], none, false, []⟩, ⟨some 2, false, .asg (.t 32), none, false, []⟩] [2] []) .ret)) }
noncomputable def spec_l14Strong_D : List (Nat × Callee) := [(16, spec_l01Div_c), (17, spec_l00Max_c)]
def spec_l14Strong_H : List (Nat × ET) := []
noncomputable def spec_l14Strong_c : Callee := mkCallee spec_l14Strong_D spec_l14Strong_H spec_l14Strong_ir [.p T_Pot] [.d (.one (.int .i64))] []
noncomputable def spec_l14Strong (a0 : T_Pot.ty) : Option (Int) := spec_l14Strong_c.f (a0, ())
theorem spec_l14Strong_eq (a0 : T_Pot.ty) : spec_l14Strong a0 =
    (spec_l01Div (IntKind.i64.wrap (1000 * a0.2.1)) (IntKind.i64.wrap (a0.2.1 + a0.2.2.1))).bind fun x1 =>
      (spec_l00Max 0 (IntKind.i64.wrap (a0.2.2.2.1 - 70))).bind fun x2 =>
        (spec_l00Max 0 (IntKind.i64.wrap ((IntKind.i64.wrap (x1 - (IntKind.i64.wrap (2 * a0.2.2.2.2.1)))) - (IntKind.i64.wrap (10 * x2))))).bind fun x3 =>
          some x3 :=
  (mk_f _ _ _ _ _ _ _ 4000).trans (by kernel_rfl)

/- spec.StrengthOf -/
def spec_StrengthOf_ir : Fn := { np := 1, io := [], res := [.t 2, .t 3], own := [false, false], body :=
  (.seq (.reg false [⟨some 1, true, .box 5 (.t 0), none, false, []⟩, ⟨some 2, false, .asg (.c (.int .i64 0)), none, false, []⟩, ⟨some 3, false, .asg (.c (.int .i64 0)), none, false, []⟩] [1] [1]) (.seq (.seq (.reg false [⟨some 4, false, .call (.c (.fn 20 [])) [.t 1], none, false, []⟩, ⟨some 5, false, .un .not (.t 4), none, false, []⟩] [1, 5] [1]) (.cond (.t 5) (.seq (.reg false [⟨some 2, false, .asg (.c (.int .i64 0)), none, false, []⟩, ⟨some 3, false, .asg (.c (.int .i64 1)), none, false, []⟩] [2, 3] []) .ret) .skip)) (.seq (.reg false [⟨some 6, false, .call (.c (.fn 50 [])) [.t 1], none, false, []⟩, ⟨some 2, false, .asg (.t 6), none, false, []⟩, ⟨some 3, false, .asg (.c (.int .i64 0)), none, false, []⟩] [2, 3] []) .ret))) }
noncomputable def spec_StrengthOf_D : List (Nat × Callee) := [(20, spec_l14One_c), (50, spec_l14Strong_c)]
def spec_StrengthOf_H : List (Nat × ET) := []
noncomputable def spec_StrengthOf_c : Callee := mkCallee spec_StrengthOf_D spec_StrengthOf_H spec_StrengthOf_ir [.d T_Pot] [.d (.one (.int .i64)), .d (.one (.int .i64))] []
noncomputable def spec_StrengthOf (a0 : T_Pot.ty) : Option (Int × Int) := spec_StrengthOf_c.f (a0, ())
theorem spec_StrengthOf_eq (a0 : T_Pot.ty) : spec_StrengthOf a0 =
    (spec_l14One a0).bind fun x1 =>
      if (!x1) then
        some (0, 1)
      else
        (spec_l14Strong a0).bind fun x2 =>
          some (x2, 0) :=
  (mk_f _ _ _ _ _ _ _ 4000).trans (by kernel_rfl)

/- impl.StrengthOf -/
def impl_StrengthOf_ir : Fn := { np := 1, io := [], res := [.t 2, .t 3], own := [false, false], body :=
  (.seq (.reg false [⟨some 1, true, .box 5 (.t 0), none, false, []⟩, ⟨some 2, false, .asg (.c (.int .i64 0)), none, false, []⟩, ⟨some 3, false, .asg (.c (.int .i64 0)), none, false, []⟩] [1] [1]) (.seq (.seq (.reg false [⟨some 4, false, .ld (some 5) (.t 1), none, false, []⟩, ⟨some 5, false, .call (.c (.fn 30 [])) [.t 4], none, false, []⟩, ⟨some 6, false, .un .not (.t 5), none, false, []⟩] [1, 6] [1]) (.cond (.t 6) (.seq (.reg false [⟨some 2, false, .asg (.c (.int .i64 0)), none, false, []⟩, ⟨some 3, false, .asg (.c (.int .i64 1)), none, false, []⟩] [2, 3] []) .ret) .skip)) (.seq (.reg false [⟨some 7, false, .ld (some 5) (.t 1), none, false, []⟩, ⟨some 8, false, .call (.c (.fn 54 [])) [.t 7], none, false, []⟩, ⟨some 2, false, .asg (.t 8), none, false, []⟩, ⟨some 3, false, .asg (.c (.int .i64 0)), none, false, []⟩] [2, 3] []) .ret))) }
noncomputable def impl_StrengthOf_D : List (Nat × Callee) := [(30, impl_Pot_valid_c), (54, impl_Pot_strength_c)]
def impl_StrengthOf_H : List (Nat × ET) := []
noncomputable def impl_StrengthOf_c : Callee := mkCallee impl_StrengthOf_D impl_StrengthOf_H impl_StrengthOf_ir [.d T_Pot] [.d (.one (.int .i64)), .d (.one (.int .i64))] []
noncomputable def impl_StrengthOf (a0 : T_Pot.ty) : Option (Int × Int) := impl_StrengthOf_c.f (a0, ())
theorem impl_StrengthOf_eq (a0 : T_Pot.ty) : impl_StrengthOf a0 =
    (impl_Pot_valid a0).bind fun x1 =>
      if (!x1) then
        some (0, 1)
      else
        (impl_Pot_strength a0).bind fun x2 =>
          some (x2, 0) :=
  (mk_f _ _ _ _ _ _ _ 4000).trans (by kernel_rfl)

/- spec.DrawHeatPot -/
def spec_DrawHeatPot_ir : Fn := { np := 1, io := [], res := [.cell 2 (some 5), .t 3, .t 4], own := [false, false, false], body :=
  (.seq (.reg false [⟨some 2, true, .alloc 5 (.agg [.str [], .int .i64 0, .int .i64 0, .int .i64 0, .int .i64 0]), none, false, []⟩, ⟨some 3, false, .asg (.c (.int .i64 0)), none, false, []⟩, ⟨some 4, false, .asg (.c (.int .i64 0)), none, false, []⟩] [0, 2] [2]) (.seq (.reg false [⟨some 8, false, .mv (.t 0), none, false, []⟩, ⟨some 9, true, .call (.c (.fn 441 [])) [.t 8], none, false, []⟩, ⟨some 5, false, .asg (.t 9), none, false, []⟩] [2, 5] [2, 9, 10000]) (.seq (.reg false [⟨some 10, false, .mv (.t 5), none, false, []⟩, ⟨some 11, false, .mv (.t 5), none, false, []⟩, ⟨some 12, true, .call (.c (.fn 558 [])) [.t 11, .c (.str [104, 105, 100, 101])], none, false, []⟩, ⟨some 13, true, .call (.c (.fn 559 [])) [.t 10, .t 12], none, false, []⟩, ⟨some 6, true, .alloc 5 (.agg [.str [], .int .i64 0, .int .i64 0, .int .i64 0, .int .i64 0]), none, false, []⟩, ⟨none, true, .sto 5 (.t 6) (.t 13), none, false, []⟩] [2, 5, 6] [2, 6, 9, 10000]) (.seq (.reg false [⟨some 14, false, .mv (.t 5), none, false, []⟩, ⟨some 15, false, .bsl 1 (.int .i64 0) 6 [(0, .c (.int .i64 19)), (1, .c (.int .i64 20)), (2, .c (.int .i64 60)), (3, .c (.int .i64 70)), (4, .c (.int .i64 95)), (5, .c (.int .i64 96))], none, false, []⟩, ⟨some 16, true, .call (.c (.fn 445 [])) [.t 14, .t 15], none, false, []⟩, ⟨some 7, false, .asg (.t 16), none, false, []⟩] [2, 5, 6, 7] [2, 6, 9, 10000]) (.seq (.reg true [⟨some 17, false, .ld (some 5) (.t 6), none, true, []⟩, ⟨some 18, false, .mv (.t 7), none, false, []⟩, ⟨some 19, false, .mv (.t 5), none, false, []⟩, ⟨some 20, false, .bsl 1 (.int .i64 0) 8 [(0, .c (.int .i64 0)), (1, .c (.int .i64 1)), (2, .c (.int .i64 8)), (3, .c (.int .i64 40)), (4, .c (.int .i64 300)), (5, .c (.int .i64 1000)), (6, .c (.int .i64 1001)), (7, .c (.int .i64 (-1)))], none, false, []⟩, ⟨some 21, true, .call (.c (.fn 445 [])) [.t 19, .t 20], none, false, [6, 7]⟩, ⟨none, true, .sto 5 (.t 2) (.t 17), none, false, [7]⟩, ⟨some 3, false, .asg (.t 18), none, false, []⟩, ⟨some 4, false, .asg (.t 21), none, false, []⟩] [2, 3, 4] [2]) .ret))))) }
noncomputable def spec_DrawHeatPot_D : List (Nat × Callee) := [(441, spec_l00From_c), (445, spec_l00Src_among_c), (558, spec_l14DrawOne_c), (559, spec_l14Bent_c)]
def spec_DrawHeatPot_H : List (Nat × ET) := [(8, (.one (.int .u8))), (15, (.one (.int .i64))), (20, (.one (.int .i64)))]
noncomputable def spec_DrawHeatPot_c : Callee := mkCallee spec_DrawHeatPot_D spec_DrawHeatPot_H spec_DrawHeatPot_ir [.d (.one (.sl (.one (.int .u8))))] [.d T_Pot, .d (.one (.int .i64)), .d (.one (.int .i64))] []
noncomputable def spec_DrawHeatPot (a0 : List Int) : Option (T_Pot.ty × Int × Int) := spec_DrawHeatPot_c.f (a0, ())
theorem spec_DrawHeatPot_eq (a0 : List Int) : spec_DrawHeatPot a0 =
    (spec_l00From a0).bind fun x1 =>
      (spec_l14DrawOne x1 [104, 105, 100, 101]).bind fun x2 =>
        (spec_l14Bent (x2.2.1, x2.2.2.1, x2.2.2.2.1, ()) (x2.1.1, x2.1.2.1, x2.1.2.2.1, x2.1.2.2.2.1, x2.1.2.2.2.2.1, ())).bind fun x3 =>
          (spec_l00Src_among (x3.2.1, x3.2.2.1, x3.2.2.2.1, ()) [19, 20, 60, 70, 95, 96]).bind fun x4 =>
            (spec_l00Src_among (x4.2.1, x4.2.2.1, x4.2.2.2.1, ()) [0, 1, 8, 40, 300, 1000, 1001, (-1)]).bind fun x5 =>
              some ((x3.1.1, x3.1.2.1, x3.1.2.2.1, x3.1.2.2.2.1, x3.1.2.2.2.2.1, ()), x4.1, x5.1) :=
  (mk_f _ _ _ _ _ _ _ 4000).trans (by kernel_rfl)

/- impl.HeatPot -/
def impl_HeatPot_k0 : C :=
  .seq (.reg false [⟨some 21, false, .mv (.t 1), none, false, []⟩, ⟨some 22, false, .fa 3 (.t 3), none, false, []⟩, ⟨none, true, .sto 1 (.t 22) (.t 21), none, false, []⟩] [1, 2, 3, 6] [3, 6]) (.seq (.reg false [⟨some 23, false, .fa 4 (.t 3), none, false, []⟩, ⟨some 24, false, .ld none (.t 23), none, false, []⟩, ⟨some 25, false, .mv (.t 2), none, false, []⟩, ⟨some 26, false, .bin .add (.t 24) (.t 25), none, false, []⟩, ⟨some 27, false, .fa 4 (.t 3), none, false, []⟩, ⟨none, true, .sto 1 (.t 27) (.t 26), none, false, []⟩] [1, 2, 3, 6] [3, 6]) (.seq (.reg true [⟨some 28, false, .fa 2 (.t 3), none, false, []⟩, ⟨some 29, false, .ld none (.t 28), none, false, []⟩, ⟨some 30, false, .fa 2 (.t 3), none, false, []⟩, ⟨some 31, false, .ld none (.t 30), none, false, []⟩, ⟨some 32, false, .mv (.t 2), none, false, []⟩, ⟨some 33, false, .bin .mul (.t 31) (.t 32), none, false, []⟩, ⟨some 34, false, .mv (.t 1), none, false, []⟩, ⟨some 35, false, .bin .sub (.t 34) (.c (.int .i64 20)), none, false, []⟩, ⟨some 36, false, .bin .mul (.t 33) (.t 35), none, false, []⟩, ⟨some 37, false, .call (.c (.fn 27 [])) [.t 36, .c (.int .i64 100000)], none, false, []⟩, ⟨some 38, false, .bin .sub (.t 29) (.t 37), none, false, []⟩, ⟨some 39, false, .max [.c (.int .i64 1), .t 38], none, false, []⟩, ⟨some 40, false, .fa 2 (.t 3), none, false, []⟩, ⟨none, true, .sto 1 (.t 40) (.t 39), none, false, []⟩] [3, 6] [3, 6]) (.seq (.seq (.reg false [⟨some 41, false, .ld (some 5) (.t 3), none, false, []⟩, ⟨some 42, false, .call (.c (.fn 30 [])) [.t 41], none, false, []⟩, ⟨some 43, false, .un .not (.t 42), none, false, []⟩] [3, 6, 43] [3, 6]) (.cond (.t 43) (.seq (.reg false [⟨some 44, false, .build [.str [], .int .i64 0, .int .i64 0, .int .i64 0, .int .i64 0] [], none, false, []⟩, ⟨none, true, .sto 5 (.t 6) (.t 44), none, false, []⟩, ⟨some 7, false, .asg (.c (.int .i64 6)), none, false, []⟩] [6, 7] [6]) .ret) .skip)) (.seq (.reg false [⟨some 45, false, .ld (some 5) (.t 3), none, false, []⟩, ⟨none, true, .sto 5 (.t 6) (.t 45), none, false, []⟩, ⟨some 7, false, .asg (.c (.int .i64 0)), none, false, []⟩] [6, 7] [6]) .ret))))
def impl_HeatPot_ir : Fn := { np := 3, io := [], res := [.cell 6 (some 5), .t 7], own := [false, false], body :=
  (.seq (.reg false [⟨some 3, true, .box 5 (.t 0), none, false, []⟩, ⟨some 6, true, .alloc 5 (.agg [.str [], .int .i64 0, .int .i64 0, .int .i64 0, .int .i64 0]), none, false, []⟩, ⟨some 7, false, .asg (.c (.int .i64 0)), none, false, []⟩] [1, 2, 3, 6] [3, 6]) (.seq (.seq (.reg false [⟨some 8, false, .ld (some 5) (.t 3), none, false, []⟩, ⟨some 9, false, .call (.c (.fn 30 [])) [.t 8], none, false, []⟩, ⟨some 10, false, .un .not (.t 9), none, false, []⟩] [1, 2, 3, 6, 10] [3, 6]) (.cond (.t 10) (.seq (.reg false [⟨some 11, false, .build [.str [], .int .i64 0, .int .i64 0, .int .i64 0, .int .i64 0] [], none, false, []⟩, ⟨none, true, .sto 5 (.t 6) (.t 11), none, false, []⟩, ⟨some 7, false, .asg (.c (.int .i64 1)), none, false, []⟩] [6, 7] [6]) .ret) .skip)) (.seq (.seq (.reg false [⟨some 12, false, .mv (.t 1), none, false, []⟩, ⟨some 13, false, .call (.c (.fn 26 [])) [.t 12], none, false, []⟩, ⟨some 14, false, .un .not (.t 13), none, false, []⟩, ⟨some 15, false, .mv (.t 14), none, false, []⟩, ⟨some 16, false, .mv (.t 2), some (3, false), false, []⟩, ⟨some 17, false, .call (.c (.fn 23 [])) [.t 16, .c (.int .i64 0), .c (.int .i64 1000)], some (3, false), false, []⟩, ⟨some 18, false, .un .not (.t 17), some (3, false), false, []⟩, ⟨some 19, false, .pick (.t 15) (.c (.bool true)) (.t 18), none, false, []⟩] [1, 2, 3, 6, 19] [3, 6]) (.cond (.t 19) (.seq (.reg false [⟨some 20, false, .build [.str [], .int .i64 0, .int .i64 0, .int .i64 0, .int .i64 0] [], none, false, []⟩, ⟨none, true, .sto 5 (.t 6) (.t 20), none, false, []⟩, ⟨some 7, false, .asg (.c (.int .i64 2)), none, false, []⟩] [6, 7] [6]) .ret) .skip)) (.norm [1, 2, 3, 6] [3, 6] impl_HeatPot_k0)))) }
noncomputable def impl_HeatPot_D : List (Nat × Callee) := [(23, impl_within_c), (26, impl_isHeat_c), (27, impl_divRound_c), (30, impl_Pot_valid_c)]
def impl_HeatPot_H : List (Nat × ET) := []
noncomputable def impl_HeatPot_c : Callee := mkCallee impl_HeatPot_D impl_HeatPot_H impl_HeatPot_ir [.d T_Pot, .d (.one (.int .i64)), .d (.one (.int .i64))] [.d T_Pot, .d (.one (.int .i64))] []
noncomputable def impl_HeatPot (a0 : T_Pot.ty) (a1 : Int) (a2 : Int) : Option (T_Pot.ty × Int) := impl_HeatPot_c.f (a0, a1, a2, ())
noncomputable def impl_HeatPot_p0  (v1 : Int) (v2 : Int) (r3_0 : List UInt8) (r3_1 : Int) (r3_2 : Int) (r3_3 : Int) (r3_4 : Int) (r6_0 : List UInt8) (r6_1 : Int) (r6_2 : Int) (r6_3 : Int) (r6_4 : Int) : Option (T_Pot.ty × Int) :=
  goL impl_HeatPot_D impl_HeatPot_H (vleave impl_HeatPot_ir [.d T_Pot, .d (.one (.int .i64)), .d (.one (.int .i64))] [.d T_Pot, .d (.one (.int .i64))] [] []) [.c impl_HeatPot_k0]
    ⟨[(1, .int .i64 v1), (2, .int .i64 v2), (3, .loc 3 0 0), (6, .loc 6 0 0)], [(3, some (.var 5 (.agg [.str r3_0, .int .i64 r3_1, .int .i64 r3_2, .int .i64 r3_3, .int .i64 r3_4]))), (6, some (.var 5 (.agg [.str r6_0, .int .i64 r6_1, .int .i64 r6_2, .int .i64 r6_3, .int .i64 r6_4])))]⟩
theorem impl_HeatPot_eq (a0 : T_Pot.ty) (a1 : Int) (a2 : Int) : impl_HeatPot a0 a1 a2 =
    (impl_Pot_valid a0).bind fun x1 =>
      if (!x1) then
        some (([], 0, 0, 0, 0, ()), 1)
      else
        (impl_isHeat a1).bind fun x2 =>
          if (!x2) then
            some (([], 0, 0, 0, 0, ()), 2)
          else
            (impl_within a2 0 1000).bind fun x3 =>
              if (!x3) then
                some (([], 0, 0, 0, 0, ()), 2)
              else
                impl_HeatPot_p0 a1 a2 a0.1 a0.2.1 a0.2.2.1 a0.2.2.2.1 a0.2.2.2.2.1 [] 0 0 0 0 :=
  (mk_f _ _ _ _ _ _ _ 4000).trans (by kernel_rfl)
theorem impl_HeatPot_p0_eq  (v1 : Int) (v2 : Int) (r3_0 : List UInt8) (r3_1 : Int) (r3_2 : Int) (r3_3 : Int) (r3_4 : Int) (r6_0 : List UInt8) (r6_1 : Int) (r6_2 : Int) (r6_3 : Int) (r6_4 : Int) : impl_HeatPot_p0 v1 v2 r3_0 r3_1 r3_2 r3_3 r3_4 r6_0 r6_1 r6_2 r6_3 r6_4 =
    (impl_divRound (IntKind.i64.wrap ((IntKind.i64.wrap (r3_2 * v2)) * (IntKind.i64.wrap (v1 - 20)))) 100000).bind fun x1 =>
      (impl_Pot_valid (r3_0, r3_1, (if IntKind.i64.wrap (r3_2 - x1) > 1 then IntKind.i64.wrap (r3_2 - x1) else 1), v1, IntKind.i64.wrap (r3_4 + v2), ())).bind fun x2 =>
        if (!x2) then
          some (([], 0, 0, 0, 0, ()), 6)
        else
          some ((r3_0, r3_1, (if IntKind.i64.wrap (r3_2 - x1) > 1 then IntKind.i64.wrap (r3_2 - x1) else 1), v1, IntKind.i64.wrap (r3_4 + v2), ()), 0) :=
  (goL_dn _ _ _ 4000 _ _).trans (by kernel_rfl)

/- strconv.FormatInt -/
noncomputable def strconv_FormatInt_c : Callee := formatIntC
noncomputable def strconv_FormatInt (a0 : Int) (a1 : Int) : Option (List UInt8) := strconv_FormatInt_c.f (a0, a1, ())
theorem strconv_FormatInt_eq (a0 : Int) (a1 : Int) : strconv_FormatInt a0 a1 = if decide (a1 = 10) && (decide (-9223372036854775808 ≤ a0) && decide (a0 ≤ 9223372036854775807)) then some (Lib.itoa a0) else none := rfl

/- impl.Decimal -/
def impl_Decimal_ir : Fn := { np := 1, io := [], res := [.t 2], own := [false], body :=
  (.seq (.reg false [⟨some 2, false, .asg (.c (.str [])), none, false, []⟩] [0] []) (.seq (.reg false [⟨some 3, false, .mv (.t 0), none, false, []⟩, ⟨some 4, false, .call (.c (.fn 864 [])) [.t 3, .c (.int .i64 10)], none, false, []⟩, ⟨some 2, false, .asg (.t 4), none, false, []⟩] [2] []) .ret)) }
noncomputable def impl_Decimal_D : List (Nat × Callee) := [(864, strconv_FormatInt_c)]
def impl_Decimal_H : List (Nat × ET) := []
noncomputable def impl_Decimal_c : Callee := mkCallee impl_Decimal_D impl_Decimal_H impl_Decimal_ir [.d (.one (.int .i64))] [.d (.one .str)] []
noncomputable def impl_Decimal (a0 : Int) : Option (List UInt8) := impl_Decimal_c.f (a0, ())
theorem impl_Decimal_eq (a0 : Int) : impl_Decimal a0 =
    (strconv_FormatInt a0 10).bind fun x1 =>
      some x1 :=
  (mk_f _ _ _ _ _ _ _ 4000).trans (by kernel_rfl)

/- strings.Join -/
noncomputable def strings_Join_c : Callee := joinC
noncomputable def strings_Join (a0 : List (List UInt8)) (a1 : List UInt8) : Option (List UInt8) := strings_Join_c.f (a0, a1, ())
theorem strings_Join_eq (a0 : List (List UInt8)) (a1 : List UInt8) : strings_Join a0 a1 = if decide (a0.length ≤ 140737488355328) && decide ((Lib.join a0 a1).length ≤ 140737488355328) then some (Lib.join a0 a1) else none := rfl

/- impl.ListText -/
def impl_ListText_k0 : C :=
  .seq (.reg false [⟨some 17, false, .bin .lss (.t 16) (.t 15), none, false, []⟩] [3, 14, 15, 16, 17] [3]) (.seq (.cond (.t 17) .skip (.exit 0)) (.seq (.block 1 (.seq (.reg false [⟨some 18, false, .ia 1 (.t 14) (.t 16), none, false, []⟩, ⟨some 19, false, .ld none (.t 18), none, false, []⟩, ⟨some 5, false, .asg (.t 19), none, false, []⟩] [3, 5, 14, 15, 16] [3]) (.seq (.seq (.reg false [⟨some 20, false, .mv (.t 5), none, false, []⟩, ⟨some 21, false, .call (.c (.fn 23 [])) [.t 20, .c (.int .i64 (-1000000000000)), .c (.int .i64 1000000000000)], none, false, []⟩, ⟨some 22, false, .un .not (.t 21), none, false, []⟩] [3, 5, 14, 15, 16, 22] [3]) (.cond (.t 22) (.seq (.reg false [⟨some 2, false, .asg (.c (.str [])), none, false, []⟩] [2] []) .ret) .skip)) (.reg false [⟨some 23, false, .mv (.t 3), none, false, []⟩, ⟨some 24, false, .mv (.t 5), none, false, []⟩, ⟨some 25, false, .call (.c (.fn 524 [])) [.t 24], none, false, []⟩, ⟨some 26, false, .bsl 1 (.str []) 1 [(0, .t 25)], none, false, []⟩, ⟨some 27, true, .app 1 16 (.t 23) (.t 26), none, false, []⟩, ⟨some 3, true, .asg (.t 27), none, false, []⟩] [3, 14, 15, 16] [3])))) (.reg false [⟨some 28, false, .bin .add (.t 16) (.c (.int .i64 1)), none, false, []⟩, ⟨some 16, false, .mv (.t 28), none, false, []⟩] [3, 14, 15, 16] [3])))
def impl_ListText_k1 : C :=
  .norm [3, 14, 15, 16] [3] impl_ListText_k0
def impl_ListText_k2 : C :=
  .seq (.reg false [⟨some 29, false, .mv (.t 3), none, false, []⟩, ⟨some 30, false, .call (.c (.fn 630 [])) [.t 29, .c (.str [44])], none, false, []⟩, ⟨some 2, false, .asg (.t 30), none, false, []⟩] [2] []) .ret
def impl_ListText_ir : Fn := { np := 1, io := [], res := [.t 2], own := [false], body :=
  (.seq (.reg false [⟨some 2, false, .asg (.c (.str [])), none, false, []⟩] [0] []) (.seq (.seq (.reg false [⟨some 6, false, .mv (.t 0), none, false, []⟩, ⟨some 7, false, .len (.t 6), none, false, []⟩, ⟨some 8, false, .call (.c (.fn 21 [])) [.t 7, .c (.int .i64 64)], none, false, []⟩, ⟨some 9, false, .un .not (.t 8), none, false, []⟩] [0, 9] []) (.cond (.t 9) (.seq (.reg false [⟨some 2, false, .asg (.c (.str [])), none, false, []⟩] [2] []) .ret) .skip)) (.seq (.seq (.reg false [⟨some 10, false, .mv (.t 0), none, false, []⟩, ⟨some 11, false, .len (.t 10), none, false, []⟩, ⟨some 12, false, .bin .eql (.t 11) (.c (.int .i64 0)), none, false, []⟩] [0, 12] []) (.cond (.t 12) (.seq (.reg false [⟨some 2, false, .asg (.c (.str [45])), none, false, []⟩] [2] []) .ret) .skip)) (.seq (.reg false [⟨some 13, false, .bsl 1 (.str []) 0 [], none, false, []⟩, ⟨some 3, true, .asg (.t 13), none, false, []⟩] [0, 3] [3]) (.seq (.seq (.reg false [⟨some 14, false, .mv (.t 0), none, false, []⟩, ⟨some 15, false, .len (.t 14), none, false, []⟩, ⟨some 16, false, .mv (.c (.int .i64 0)), none, false, []⟩] [3, 14, 15, 16] [3]) (.block 0 (.loop impl_ListText_k1))) impl_ListText_k2))))) }
noncomputable def impl_ListText_D : List (Nat × Callee) := [(21, impl_few_c), (23, impl_within_c), (524, impl_Decimal_c), (630, strings_Join_c)]
def impl_ListText_H : List (Nat × ET) := [(3, (.one .str)), (6, (.one (.int .i64))), (10, (.one (.int .i64))), (13, (.one .str)), (14, (.one (.int .i64))), (23, (.one .str)), (26, (.one .str)), (27, (.one .str)), (29, (.one .str))]
noncomputable def impl_ListText_c : Callee := mkCallee impl_ListText_D impl_ListText_H impl_ListText_ir [.d (.one (.sl (.one (.int .i64))))] [.d (.one .str)] []
noncomputable def impl_ListText (a0 : List Int) : Option (List UInt8) := impl_ListText_c.f (a0, ())
noncomputable def impl_ListText_p0  (v14 : List Int) (v15 : Int) (v16 : Int) (r3 : List (List UInt8)) : Option (List UInt8) :=
  goL impl_ListText_D impl_ListText_H (vleave impl_ListText_ir [.d (.one (.sl (.one (.int .i64))))] [.d (.one .str)] [] []) [.c impl_ListText_k0, .l impl_ListText_k1, .e 0, .c impl_ListText_k2]
    ⟨[(3, .view 3 0 r3.length), (14, .sl (.one (.int .i64)) v14), (15, .int .i64 v15), (16, .int .i64 v16)], [(3, some (.sl (.one .str) r3))]⟩
theorem impl_ListText_eq (a0 : List Int) : impl_ListText a0 =
    (impl_few (a0.length : Int) 64).bind fun x1 =>
      if (!x1) then
        some []
      else
        if ((a0.length : Int) == 0) then
          some [45]
        else
          impl_ListText_p0 a0 (a0.length : Int) 0 [] :=
  (mk_f _ _ _ _ _ _ _ 4000).trans (by kernel_rfl)
theorem impl_ListText_p0_eq  (v14 : List Int) (v15 : Int) (v16 : Int) (r3 : List (List UInt8)) : impl_ListText_p0 v14 v15 v16 r3 =
    if decide (v16 < v15) then
      if decide (0 ≤ v16) then
        (v14[v16.toNat]?).bind fun x1 =>
          (impl_within x1 (-1000000000000) 1000000000000).bind fun x2 =>
            if (!x2) then
              some []
            else
              (impl_Decimal x1).bind fun x3 =>
                if decide (r3.length + 1 < lim) then
                  impl_ListText_p0 v14 v15 (IntKind.i64.wrap (v16 + 1)) ((r3.take r3.length) ++ [x3])
                else
                  none
      else
        none
    else
      (strings_Join (r3.take r3.length) [44]).bind fun x4 =>
        some x4 :=
  (goL_dn _ _ _ 4000 _ _).trans (by kernel_rfl)

/- impl.named -/
def impl_named_ir : Fn := { np := 2, io := [], res := [.t 4], own := [false], body :=
  (.seq (.reg false [⟨some 4, false, .asg (.c (.str [])), none, false, []⟩] [0, 1] []) (.seq (.reg false [⟨some 5, false, .mv (.t 0), none, false, []⟩, ⟨some 6, false, .bin .add (.t 5) (.c (.str [32])), none, false, []⟩, ⟨some 7, false, .mv (.t 1), none, false, []⟩, ⟨some 8, false, .call (.c (.fn 460 [])) [.t 7], none, false, []⟩, ⟨some 9, false, .bin .add (.t 6) (.t 8), none, false, []⟩, ⟨some 4, false, .asg (.t 9), none, false, []⟩] [4] []) .ret)) }
noncomputable def impl_named_D : List (Nat × Callee) := [(460, impl_ListText_c)]
def impl_named_H : List (Nat × ET) := [(7, (.one (.int .i64)))]
noncomputable def impl_named_c : Callee := mkCallee impl_named_D impl_named_H impl_named_ir [.d (.one .str), .d (.one (.sl (.one (.int .i64))))] [.d (.one .str)] []
noncomputable def impl_named (a0 : List UInt8) (a1 : List Int) : Option (List UInt8) := impl_named_c.f (a0, a1, ())
theorem impl_named_eq (a0 : List UInt8) (a1 : List Int) : impl_named a0 a1 =
    if decide (a0.length + [32].length ≤ strMax) then
      (impl_ListText a1).bind fun x1 =>
        if decide ((a0 ++ [32]).length + x1.length ≤ strMax) then
          some ((a0 ++ [32]) ++ x1)
        else
          none
    else
      none :=
  (mk_f _ _ _ _ _ _ _ 4000).trans (by kernel_rfl)

/- impl.PotText -/
def impl_PotText_ir : Fn := { np := 1, io := [], res := [.t 2], own := [false], body :=
  (.seq (.reg false [⟨some 1, true, .box 5 (.t 0), none, false, []⟩, ⟨some 2, false, .asg (.c (.str [])), none, false, []⟩] [1] [1]) (.seq (.seq (.reg false [⟨some 3, false, .ld (some 5) (.t 1), none, false, []⟩, ⟨some 4, false, .call (.c (.fn 30 [])) [.t 3], none, false, []⟩, ⟨some 5, false, .un .not (.t 4), none, false, []⟩] [1, 5] [1]) (.cond (.t 5) (.seq (.reg false [⟨some 2, false, .asg (.c (.str [])), none, false, []⟩] [2] []) .ret) .skip)) (.seq (.reg false [⟨some 6, false, .fa 0 (.t 1), none, false, []⟩, ⟨some 7, false, .ld none (.t 6), none, false, []⟩, ⟨some 8, false, .fa 1 (.t 1), none, false, []⟩, ⟨some 9, false, .ld none (.t 8), none, false, []⟩, ⟨some 10, false, .fa 2 (.t 1), none, false, []⟩, ⟨some 11, false, .ld none (.t 10), none, false, []⟩, ⟨some 12, false, .fa 3 (.t 1), none, false, []⟩, ⟨some 13, false, .ld none (.t 12), none, false, []⟩, ⟨some 14, false, .fa 4 (.t 1), none, false, []⟩, ⟨some 15, false, .ld none (.t 14), none, false, []⟩, ⟨some 16, false, .bsl 1 (.int .i64 0) 4 [(0, .t 9), (1, .t 11), (2, .t 13), (3, .t 15)], none, false, []⟩, ⟨some 17, false, .call (.c (.fn 459 [])) [.t 7, .t 16], none, false, []⟩, ⟨some 2, false, .asg (.t 17), none, false, []⟩] [2] []) .ret))) }
noncomputable def impl_PotText_D : List (Nat × Callee) := [(30, impl_Pot_valid_c), (459, impl_named_c)]
def impl_PotText_H : List (Nat × ET) := [(16, (.one (.int .i64)))]
noncomputable def impl_PotText_c : Callee := mkCallee impl_PotText_D impl_PotText_H impl_PotText_ir [.d T_Pot] [.d (.one .str)] []
noncomputable def impl_PotText (a0 : T_Pot.ty) : Option (List UInt8) := impl_PotText_c.f (a0, ())
theorem impl_PotText_eq (a0 : T_Pot.ty) : impl_PotText a0 =
    (impl_Pot_valid a0).bind fun x1 =>
      if (!x1) then
        some []
      else
        (impl_named a0.1 [a0.2.1, a0.2.2.1, a0.2.2.2.1, a0.2.2.2.2.1]).bind fun x2 =>
          some x2 :=
  (mk_f _ _ _ _ _ _ _ 4000).trans (by kernel_rfl)

/- strings.Cut -/
noncomputable def strings_Cut_c : Callee := cutC
noncomputable def strings_Cut (a0 : List UInt8) (a1 : List UInt8) : Option (List UInt8 × List UInt8 × Bool) := strings_Cut_c.f (a0, a1, ())
theorem strings_Cut_eq (a0 : List UInt8) (a1 : List UInt8) : strings_Cut a0 a1 = if decide (a0.length < 4294967281) then some (Lib.cut a0 a1) else none := rfl

/- strings.Split -/
noncomputable def strings_Split_c : Callee := splitC
noncomputable def strings_Split (a0 : List UInt8) (a1 : List UInt8) : Option (List (List UInt8)) := strings_Split_c.f (a0, a1, ())
theorem strings_Split_eq (a0 : List UInt8) (a1 : List UInt8) : strings_Split a0 a1 = if decide (a0.length < 4294967281) && decide (1 ≤ a1.length) then some (Lib.splitK a1 0 (Lib.count a0 a1) a0) else none := rfl

/- loop.example/g01061/impl.ReadDecimal -/
noncomputable def impl_ReadDecimal_c : Callee := readDecC
noncomputable def impl_ReadDecimal (a0 : List UInt8) : Option (Int × Bool) := impl_ReadDecimal_c.f (a0, ())
theorem impl_ReadDecimal_eq (a0 : List UInt8) : impl_ReadDecimal a0 = some (readDecP a0) := rfl

/- impl.ReadList -/
def impl_ReadList_k0 : C :=
  .seq (.reg false [⟨some 16, false, .bin .lss (.t 15) (.t 14), none, false, []⟩] [4, 13, 14, 15, 16] [4]) (.seq (.cond (.t 16) .skip (.exit 0)) (.seq (.block 1 (.seq (.reg false [⟨some 17, false, .ia 1 (.t 13) (.t 15), none, false, []⟩, ⟨some 18, false, .ld none (.t 17), none, false, []⟩, ⟨some 6, false, .asg (.t 18), none, false, []⟩] [4, 6, 13, 14, 15] [4]) (.seq (.reg false [⟨some 20, false, .mv (.t 6), none, false, []⟩, ⟨some 21, false, .call (.c (.fn 522 [])) [.t 20], none, false, []⟩, ⟨some 19, false, .mv (.t 21), none, false, []⟩, ⟨some 22, false, .ext (.t 19) 0, none, false, []⟩, ⟨some 23, false, .ext (.t 19) 1, none, false, []⟩, ⟨some 7, false, .asg (.t 22), none, false, []⟩, ⟨some 8, false, .asg (.t 23), none, false, []⟩] [4, 7, 8, 13, 14, 15] [4]) (.seq (.seq (.reg false [⟨some 24, false, .mv (.t 8), none, false, []⟩, ⟨some 25, false, .un .not (.t 24), none, false, []⟩, ⟨some 26, false, .mv (.t 25), none, false, []⟩, ⟨some 27, false, .mv (.t 7), some (2, false), false, []⟩, ⟨some 28, false, .call (.c (.fn 23 [])) [.t 27, .c (.int .i64 (-1000000000000)), .c (.int .i64 1000000000000)], some (2, false), false, []⟩, ⟨some 29, false, .un .not (.t 28), some (2, false), false, []⟩, ⟨some 30, false, .pick (.t 26) (.c (.bool true)) (.t 29), none, false, []⟩, ⟨some 31, false, .mv (.t 30), none, false, []⟩, ⟨some 32, false, .mv (.t 4), some (7, false), false, []⟩, ⟨some 33, false, .len (.t 32), some (7, false), false, []⟩, ⟨some 34, false, .bin .eql (.t 33) (.c (.int .i64 64)), some (7, false), false, []⟩, ⟨some 35, false, .pick (.t 31) (.c (.bool true)) (.t 34), none, false, []⟩] [4, 7, 13, 14, 15, 35] [4]) (.cond (.t 35) (.seq (.reg false [⟨some 2, true, .asg (.c (.nils 1)), none, false, []⟩, ⟨some 3, false, .asg (.c (.bool false)), none, false, []⟩] [2, 3] [2, 4]) .ret) .skip)) (.reg false [⟨some 36, false, .mv (.t 4), none, false, []⟩, ⟨some 37, false, .mv (.t 7), none, false, []⟩, ⟨some 38, false, .bsl 1 (.int .i64 0) 1 [(0, .t 37)], none, false, []⟩, ⟨some 39, true, .app 1 8 (.t 36) (.t 38), none, false, []⟩, ⟨some 4, true, .asg (.t 39), none, false, []⟩] [4, 13, 14, 15] [4]))))) (.reg false [⟨some 40, false, .bin .add (.t 15) (.c (.int .i64 1)), none, false, []⟩, ⟨some 15, false, .mv (.t 40), none, false, []⟩] [4, 13, 14, 15] [4])))
def impl_ReadList_k1 : C :=
  .norm [4, 13, 14, 15] [4] impl_ReadList_k0
def impl_ReadList_k2 : C :=
  .seq (.reg false [⟨some 41, false, .mv (.t 4), none, false, []⟩, ⟨some 2, true, .asg (.t 41), none, false, []⟩, ⟨some 3, false, .asg (.c (.bool true)), none, false, []⟩] [2, 3] [2, 4]) .ret
def impl_ReadList_ir : Fn := { np := 1, io := [], res := [.t 2, .t 3], own := [true, false], body :=
  (.seq (.reg false [⟨some 2, true, .asg (.c (.nils 1)), none, false, []⟩, ⟨some 3, false, .asg (.c (.bool false)), none, false, []⟩] [0] []) (.seq (.seq (.reg false [⟨some 9, false, .mv (.t 0), none, false, []⟩, ⟨some 10, false, .bin .eql (.t 9) (.c (.str [45])), none, false, []⟩] [0, 10] []) (.cond (.t 10) (.seq (.reg false [⟨some 2, true, .asg (.c (.nils 1)), none, false, []⟩, ⟨some 3, false, .asg (.c (.bool true)), none, false, []⟩] [2, 3] [2, 4]) .ret) .skip)) (.seq (.reg false [⟨some 11, false, .bsl 1 (.int .i64 0) 0 [], none, false, []⟩, ⟨some 4, true, .asg (.t 11), none, false, []⟩] [0, 4] [4]) (.seq (.seq (.reg false [⟨some 12, false, .mv (.t 0), none, false, []⟩, ⟨some 13, false, .call (.c (.fn 683 [])) [.t 12, .c (.str [44])], none, false, []⟩, ⟨some 14, false, .len (.t 13), none, false, []⟩, ⟨some 15, false, .mv (.c (.int .i64 0)), none, false, []⟩] [4, 13, 14, 15] [4]) (.block 0 (.loop impl_ReadList_k1))) impl_ReadList_k2)))) }
noncomputable def impl_ReadList_D : List (Nat × Callee) := [(23, impl_within_c), (522, impl_ReadDecimal_c), (683, strings_Split_c)]
def impl_ReadList_H : List (Nat × ET) := [(2, (.one (.int .i64))), (4, (.one (.int .i64))), (11, (.one (.int .i64))), (13, (.one .str)), (32, (.one (.int .i64))), (36, (.one (.int .i64))), (38, (.one (.int .i64))), (39, (.one (.int .i64))), (41, (.one (.int .i64)))]
noncomputable def impl_ReadList_c : Callee := mkCallee impl_ReadList_D impl_ReadList_H impl_ReadList_ir [.d (.one .str)] [.tok (.one (.int .i64)), .d (.one .bool)] []
noncomputable def impl_ReadList (a0 : List UInt8) : Option (List Int × Bool) := impl_ReadList_c.f (a0, ())
noncomputable def impl_ReadList_p0  (v13 : List (List UInt8)) (v14 : Int) (v15 : Int) (r4 : List Int) : Option (List Int × Bool) :=
  goL impl_ReadList_D impl_ReadList_H (vleave impl_ReadList_ir [.d (.one .str)] [.tok (.one (.int .i64)), .d (.one .bool)] [] []) [.c impl_ReadList_k0, .l impl_ReadList_k1, .e 0, .c impl_ReadList_k2]
    ⟨[(4, .view 4 0 r4.length), (13, .sl (.one .str) v13), (14, .int .i64 v14), (15, .int .i64 v15)], [(4, some (.sl (.one (.int .i64)) r4))]⟩
theorem impl_ReadList_eq (a0 : List UInt8) : impl_ReadList a0 =
    if (a0 == [45]) then
      some ([], true)
    else
      (strings_Split a0 [44]).bind fun x1 =>
        impl_ReadList_p0 x1 (x1.length : Int) 0 [] :=
  (mk_f _ _ _ _ _ _ _ 4000).trans (by kernel_rfl)
theorem impl_ReadList_p0_eq  (v13 : List (List UInt8)) (v14 : Int) (v15 : Int) (r4 : List Int) : impl_ReadList_p0 v13 v14 v15 r4 =
    if decide (v15 < v14) then
      if decide (0 ≤ v15) then
        (v13[v15.toNat]?).bind fun x1 =>
          (impl_ReadDecimal x1).bind fun x2 =>
            if (!x2.2) then
              some ([], false)
            else
              (impl_within x2.1 (-1000000000000) 1000000000000).bind fun x3 =>
                if (!x3) then
                  some ([], false)
                else
                  if ((r4.length : Int) == 64) then
                    some ([], false)
                  else
                    if decide (r4.length + 1 < lim) then
                      impl_ReadList_p0 v13 v14 (IntKind.i64.wrap (v15 + 1)) ((r4.take r4.length) ++ [x2.1])
                    else
                      none
      else
        none
    else
      some ((r4.take r4.length), true) :=
  (goL_dn _ _ _ 4000 _ _).trans (by kernel_rfl)

/- impl.readNamed -/
def impl_readNamed_ir : Fn := { np := 2, io := [], res := [.t 4, .t 5, .t 6], own := [false, false, false], body :=
  (.seq (.reg false [⟨some 4, false, .asg (.c (.str [])), none, false, []⟩, ⟨some 5, true, .asg (.c (.nils 1)), none, false, []⟩, ⟨some 6, false, .asg (.c (.bool false)), none, false, []⟩] [0, 1] []) (.seq (.reg false [⟨some 13, false, .mv (.t 0), none, false, []⟩, ⟨some 14, false, .call (.c (.fn 523 [])) [.t 13, .c (.str [32])], none, false, []⟩, ⟨some 12, false, .mv (.t 14), none, false, []⟩, ⟨some 15, false, .ext (.t 12) 0, none, false, []⟩, ⟨some 16, false, .ext (.t 12) 1, none, false, []⟩, ⟨some 17, false, .ext (.t 12) 2, none, false, []⟩, ⟨some 7, false, .asg (.t 15), none, false, []⟩, ⟨some 8, false, .asg (.t 16), none, false, []⟩, ⟨some 9, false, .asg (.t 17), none, false, []⟩] [1, 7, 8, 9] []) (.seq (.reg false [⟨some 19, false, .mv (.t 8), none, false, []⟩, ⟨some 20, false, .call (.c (.fn 457 [])) [.t 19], none, false, []⟩, ⟨some 18, false, .mv (.t 20), none, false, []⟩, ⟨some 21, false, .ext (.t 18) 0, none, false, []⟩, ⟨some 22, false, .ext (.t 18) 1, none, false, []⟩, ⟨some 10, true, .asg (.t 21), none, false, []⟩, ⟨some 11, false, .asg (.t 22), none, false, []⟩] [1, 7, 9, 10, 11] [10]) (.seq (.reg false [⟨some 23, false, .mv (.t 7), none, false, []⟩, ⟨some 24, false, .mv (.t 10), none, false, []⟩, ⟨some 25, false, .mv (.t 9), none, false, []⟩, ⟨some 26, false, .mv (.t 25), none, false, []⟩, ⟨some 27, false, .mv (.t 11), some (3, true), false, []⟩, ⟨some 28, false, .pick (.t 26) (.t 27) (.c (.bool false)), none, false, []⟩, ⟨some 29, false, .mv (.t 28), none, false, []⟩, ⟨some 30, false, .mv (.t 10), some (6, true), false, []⟩, ⟨some 31, false, .len (.t 30), some (6, true), false, []⟩, ⟨some 32, false, .mv (.t 1), some (6, true), false, []⟩, ⟨some 33, false, .bin .eql (.t 31) (.t 32), some (6, true), false, []⟩, ⟨some 34, false, .pick (.t 29) (.t 33) (.c (.bool false)), none, false, []⟩, ⟨some 4, false, .asg (.t 23), none, false, []⟩, ⟨some 5, true, .asg (.t 24), none, false, []⟩, ⟨some 6, false, .asg (.t 34), none, false, []⟩] [4, 5, 6] [5, 10]) .ret)))) }
noncomputable def impl_readNamed_D : List (Nat × Callee) := [(457, impl_ReadList_c), (523, strings_Cut_c)]
def impl_readNamed_H : List (Nat × ET) := [(5, (.one (.int .i64))), (10, (.one (.int .i64))), (21, (.one (.int .i64))), (24, (.one (.int .i64))), (30, (.one (.int .i64)))]
noncomputable def impl_readNamed_c : Callee := mkCallee impl_readNamed_D impl_readNamed_H impl_readNamed_ir [.d (.one .str), .d (.one (.int .i64))] [.d (.one .str), .d (.one (.sl (.one (.int .i64)))), .d (.one .bool)] []
noncomputable def impl_readNamed (a0 : List UInt8) (a1 : Int) : Option (List UInt8 × List Int × Bool) := impl_readNamed_c.f (a0, a1, ())
theorem impl_readNamed_eq (a0 : List UInt8) (a1 : Int) : impl_readNamed a0 a1 =
    (strings_Cut a0 [32]).bind fun x1 =>
      (impl_ReadList x1.2.1).bind fun x2 =>
        if x1.2.2 then
          if x2.2 then
            some (x1.1, (x2.1.take x2.1.length), ((x2.1.length : Int) == a1))
          else
            some (x1.1, (x2.1.take x2.1.length), false)
        else
          some (x1.1, (x2.1.take x2.1.length), false) :=
  (mk_f _ _ _ _ _ _ _ 4000).trans (by kernel_rfl)

/- impl.ReadPot -/
def impl_ReadPot_ir : Fn := { np := 1, io := [], res := [.cell 2 (some 5), .t 3], own := [false, false], body :=
  (.seq (.reg false [⟨some 2, true, .alloc 5 (.agg [.str [], .int .i64 0, .int .i64 0, .int .i64 0, .int .i64 0]), none, false, []⟩, ⟨some 3, false, .asg (.c (.bool false)), none, false, []⟩] [0, 2] [2]) (.seq (.reg false [⟨some 9, false, .mv (.t 0), none, false, []⟩, ⟨some 10, false, .call (.c (.fn 747 [])) [.t 9, .c (.int .i64 4)], none, false, []⟩, ⟨some 8, false, .mv (.t 10), none, false, []⟩, ⟨some 11, false, .ext (.t 8) 0, none, false, []⟩, ⟨some 12, false, .ext (.t 8) 1, none, false, []⟩, ⟨some 13, false, .ext (.t 8) 2, none, false, []⟩, ⟨some 4, false, .asg (.t 11), none, false, []⟩, ⟨some 5, true, .asg (.t 12), none, false, []⟩, ⟨some 6, false, .asg (.t 13), none, false, []⟩] [2, 4, 5, 6] [2, 5]) (.seq (.seq (.reg false [⟨some 14, false, .mv (.t 6), none, false, []⟩, ⟨some 15, false, .un .not (.t 14), none, false, []⟩] [2, 4, 5, 15] [2, 5]) (.cond (.t 15) (.seq (.reg false [⟨some 16, false, .build [.str [], .int .i64 0, .int .i64 0, .int .i64 0, .int .i64 0] [], none, false, []⟩, ⟨none, true, .sto 5 (.t 2) (.t 16), none, false, []⟩, ⟨some 3, false, .asg (.c (.bool false)), none, false, []⟩] [2, 3] [2]) .ret) .skip)) (.seq (.reg true [⟨some 17, false, .mv (.t 4), none, false, [7]⟩, ⟨some 18, false, .mv (.t 5), none, false, [7]⟩, ⟨some 19, false, .ia 1 (.t 18) (.c (.int .i64 0)), none, false, [7]⟩, ⟨some 20, false, .ld none (.t 19), none, false, [7]⟩, ⟨some 21, false, .mv (.t 5), none, false, [7]⟩, ⟨some 22, false, .ia 1 (.t 21) (.c (.int .i64 1)), none, false, [7]⟩, ⟨some 23, false, .ld none (.t 22), none, false, [7]⟩, ⟨some 24, false, .mv (.t 5), none, false, [7]⟩, ⟨some 25, false, .ia 1 (.t 24) (.c (.int .i64 2)), none, false, [7]⟩, ⟨some 26, false, .ld none (.t 25), none, false, [7]⟩, ⟨some 27, false, .mv (.t 5), none, false, [7]⟩, ⟨some 28, false, .ia 1 (.t 27) (.c (.int .i64 3)), none, false, [7]⟩, ⟨some 29, false, .ld none (.t 28), none, false, [7]⟩, ⟨some 30, false, .build [.str [], .int .i64 0, .int .i64 0, .int .i64 0, .int .i64 0] [(0, 1, .t 17), (1, 1, .t 20), (2, 1, .t 23), (3, 1, .t 26), (4, 1, .t 29)], none, false, [7]⟩, ⟨some 7, true, .alloc 5 (.agg [.str [], .int .i64 0, .int .i64 0, .int .i64 0, .int .i64 0]), none, false, []⟩, ⟨none, true, .sto 5 (.t 7) (.t 30), none, false, []⟩] [2, 7] [2, 7]) (.seq (.seq (.reg false [⟨some 31, false, .ld (some 5) (.t 7), none, false, []⟩, ⟨some 32, false, .call (.c (.fn 30 [])) [.t 31], none, false, []⟩, ⟨some 33, false, .un .not (.t 32), none, false, []⟩] [2, 7, 33] [2, 7]) (.cond (.t 33) (.seq (.reg false [⟨some 34, false, .build [.str [], .int .i64 0, .int .i64 0, .int .i64 0, .int .i64 0] [], none, false, []⟩, ⟨none, true, .sto 5 (.t 2) (.t 34), none, false, []⟩, ⟨some 3, false, .asg (.c (.bool false)), none, false, []⟩] [2, 3] [2]) .ret) .skip)) (.seq (.reg false [⟨some 35, false, .ld (some 5) (.t 7), none, false, []⟩, ⟨none, true, .sto 5 (.t 2) (.t 35), none, false, []⟩, ⟨some 3, false, .asg (.c (.bool true)), none, false, []⟩] [2, 3] [2]) .ret)))))) }
noncomputable def impl_ReadPot_D : List (Nat × Callee) := [(30, impl_Pot_valid_c), (747, impl_readNamed_c)]
def impl_ReadPot_H : List (Nat × ET) := [(5, (.one (.int .i64))), (12, (.one (.int .i64))), (18, (.one (.int .i64))), (21, (.one (.int .i64))), (24, (.one (.int .i64))), (27, (.one (.int .i64)))]
noncomputable def impl_ReadPot_c : Callee := mkCallee impl_ReadPot_D impl_ReadPot_H impl_ReadPot_ir [.d (.one .str)] [.d T_Pot, .d (.one .bool)] []
noncomputable def impl_ReadPot (a0 : List UInt8) : Option (T_Pot.ty × Bool) := impl_ReadPot_c.f (a0, ())
theorem impl_ReadPot_eq (a0 : List UInt8) : impl_ReadPot a0 =
    (impl_readNamed a0 4).bind fun x1 =>
      if (!x1.2.2) then
        some (([], 0, 0, 0, 0, ()), false)
      else
        (x1.2.1[0]?).bind fun x2 =>
          (x1.2.1[1]?).bind fun x3 =>
            (x1.2.1[2]?).bind fun x4 =>
              (x1.2.1[3]?).bind fun x5 =>
                (impl_Pot_valid (x1.1, x2, x3, x4, x5, ())).bind fun x6 =>
                  if (!x6) then
                    some (([], 0, 0, 0, 0, ()), false)
                  else
                    some ((x1.1, x2, x3, x4, x5, ()), true) :=
  (mk_f _ _ _ _ _ _ _ 4000).trans (by kernel_rfl)

/- laws.FnGlue -/
def laws_FnGlue_k0 : C :=
  .seq (.reg false [⟨some 77, false, .mv (.t 8), none, false, []⟩, ⟨some 78, false, .bin .gtr (.t 77) (.c (.int .i64 0)), none, false, []⟩] [0, 1, 6, 7, 10, 78] [10]) (.cond (.t 78) (.seq (.reg false [⟨some 79, false, .fa 2 (.t 10), none, false, []⟩, ⟨some 80, false, .ld none (.t 79), none, false, []⟩, ⟨some 81, false, .bin .sub (.t 80) (.c (.int .i64 1)), none, false, []⟩, ⟨some 82, false, .fa 2 (.t 10), none, false, []⟩, ⟨none, true, .sto 1 (.t 82) (.t 81), none, false, []⟩] [0, 1, 6, 7, 10] [10]) (.seq (.reg false [⟨some 84, false, .ld (some 5) (.t 10), none, false, []⟩, ⟨some 85, false, .mv (.t 7), none, false, []⟩, ⟨some 86, false, .call (.c (.fn 32 [])) [.t 84, .t 85], none, false, []⟩, ⟨some 83, false, .mv (.t 86), none, false, []⟩, ⟨some 87, false, .ext (.t 83) 0, none, false, []⟩, ⟨some 88, false, .ext (.t 83) 1, none, false, []⟩, ⟨some 13, false, .asg (.t 87), none, false, []⟩, ⟨some 14, false, .asg (.t 88), none, false, []⟩] [0, 1, 6, 13, 14] []) (.seq (.reg false [⟨some 89, false, .mv (.t 14), none, false, []⟩, ⟨some 90, false, .bin .neq (.t 89) (.c (.int .i64 0)), none, false, []⟩, ⟨some 91, false, .mv (.t 90), none, false, []⟩, ⟨some 92, false, .mv (.t 13), some (2, false), false, []⟩, ⟨some 93, false, .mv (.t 6), some (2, false), false, []⟩, ⟨some 94, false, .bin .geq (.t 92) (.t 93), some (2, false), false, []⟩, ⟨some 95, false, .pick (.t 91) (.c (.bool true)) (.t 94), none, false, []⟩] [0, 1, 95] []) (.cond (.t 95) (.seq (.reg false [⟨some 4, false, .asg (.c (.bool false)), none, false, []⟩] [4] []) .ret) .skip)))) .skip)
def laws_FnGlue_k1 : C :=
  .seq (.reg false [⟨some 180, false, .mv (.t 0), none, false, []⟩, ⟨some 181, false, .call (.c (.fn 328 [])) [.t 180], none, false, []⟩, ⟨some 179, false, .mv (.t 181), none, false, []⟩, ⟨some 182, false, .ext (.t 179) 0, none, false, []⟩, ⟨some 183, false, .ext (.t 179) 1, none, false, []⟩, ⟨some 184, false, .ext (.t 179) 2, none, false, []⟩, ⟨some 26, true, .alloc 5 (.agg [.str [], .int .i64 0, .int .i64 0, .int .i64 0, .int .i64 0]), none, false, []⟩, ⟨none, true, .sto 5 (.t 26) (.t 182), none, false, []⟩, ⟨some 27, false, .asg (.t 183), none, false, []⟩, ⟨some 28, false, .asg (.t 184), none, false, []⟩] [26, 27, 28] [26]) (.seq (.reg false [⟨some 186, false, .ld (some 5) (.t 26), none, false, []⟩, ⟨some 187, false, .mv (.t 27), none, false, []⟩, ⟨some 188, false, .mv (.t 28), none, false, []⟩, ⟨some 189, false, .call (.c (.fn 327 [])) [.t 186, .t 187, .t 188], none, false, []⟩, ⟨some 185, false, .mv (.t 189), none, false, []⟩, ⟨some 190, false, .ext (.t 185) 0, none, false, []⟩, ⟨some 191, false, .ext (.t 185) 1, none, false, []⟩, ⟨some 29, true, .alloc 5 (.agg [.str [], .int .i64 0, .int .i64 0, .int .i64 0, .int .i64 0]), none, false, []⟩, ⟨none, true, .sto 5 (.t 29) (.t 190), none, false, []⟩, ⟨some 30, false, .asg (.t 191), none, false, []⟩] [26, 27, 28, 29, 30] [26, 29]) (.seq (.seq (.reg false [⟨some 192, false, .mv (.t 30), none, false, []⟩, ⟨some 193, false, .bin .neq (.t 192) (.c (.int .i64 0)), none, false, []⟩] [26, 27, 28, 29, 193] [26, 29]) (.cond (.t 193) (.seq (.reg false [⟨some 194, false, .ld (some 5) (.t 29), none, false, []⟩, ⟨some 195, false, .build [.str [], .int .i64 0, .int .i64 0, .int .i64 0, .int .i64 0] [], none, false, []⟩, ⟨some 196, false, .eqs false [.s, .i, .i, .i, .i] (.t 194) (.t 195), none, false, []⟩, ⟨some 4, false, .asg (.t 196), none, false, []⟩] [4] []) .ret) .skip)) (.seq (.reg false [⟨some 198, false, .ld (some 5) (.t 29), none, false, []⟩, ⟨some 199, false, .call (.c (.fn 325 [])) [.t 198], none, false, []⟩, ⟨some 200, false, .call (.c (.fn 326 [])) [.t 199], none, false, []⟩, ⟨some 197, false, .mv (.t 200), none, false, []⟩, ⟨some 201, false, .ext (.t 197) 0, none, false, []⟩, ⟨some 202, false, .ext (.t 197) 1, none, false, []⟩, ⟨some 31, true, .alloc 5 (.agg [.str [], .int .i64 0, .int .i64 0, .int .i64 0, .int .i64 0]), none, false, []⟩, ⟨none, true, .sto 5 (.t 31) (.t 201), none, false, []⟩, ⟨some 32, false, .asg (.t 202), none, false, []⟩] [26, 27, 28, 29, 31, 32] [26, 29, 31]) (.seq (.reg false [⟨some 203, false, .fa 3 (.t 29), none, false, []⟩, ⟨some 204, false, .ld none (.t 203), none, false, []⟩, ⟨some 205, false, .mv (.t 27), none, false, []⟩, ⟨some 206, false, .bin .eql (.t 204) (.t 205), none, false, []⟩, ⟨some 207, false, .mv (.t 206), none, false, []⟩, ⟨some 208, false, .fa 4 (.t 29), some (4, true), false, []⟩, ⟨some 209, false, .ld none (.t 208), some (4, true), false, []⟩, ⟨some 210, false, .fa 4 (.t 26), some (4, true), false, []⟩, ⟨some 211, false, .ld none (.t 210), some (4, true), false, []⟩, ⟨some 212, false, .mv (.t 28), some (4, true), false, []⟩, ⟨some 213, false, .bin .add (.t 211) (.t 212), some (4, true), false, []⟩, ⟨some 214, false, .bin .eql (.t 209) (.t 213), some (4, true), false, []⟩, ⟨some 215, false, .pick (.t 207) (.t 214) (.c (.bool false)), none, false, []⟩, ⟨some 216, false, .mv (.t 215), none, false, []⟩, ⟨some 217, false, .fa 1 (.t 29), some (13, true), false, []⟩, ⟨some 218, false, .ld none (.t 217), some (13, true), false, []⟩, ⟨some 219, false, .fa 1 (.t 26), some (13, true), false, []⟩, ⟨some 220, false, .ld none (.t 219), some (13, true), false, []⟩, ⟨some 221, false, .bin .eql (.t 218) (.t 220), some (13, true), false, []⟩, ⟨some 222, false, .pick (.t 216) (.t 221) (.c (.bool false)), none, false, []⟩, ⟨some 223, false, .mv (.t 222), none, false, []⟩, ⟨some 224, false, .fa 2 (.t 29), some (20, true), false, []⟩, ⟨some 225, false, .ld none (.t 224), some (20, true), false, []⟩, ⟨some 226, false, .fa 2 (.t 26), some (20, true), false, []⟩, ⟨some 227, false, .ld none (.t 226), some (20, true), false, []⟩, ⟨some 228, false, .bin .leq (.t 225) (.t 227), some (20, true), false, []⟩, ⟨some 229, false, .pick (.t 223) (.t 228) (.c (.bool false)), none, false, []⟩, ⟨some 230, false, .mv (.t 229), none, false, []⟩, ⟨some 231, false, .fa 2 (.t 29), some (27, true), false, []⟩, ⟨some 232, false, .ld none (.t 231), some (27, true), false, []⟩, ⟨some 233, false, .bin .geq (.t 232) (.c (.int .i64 1)), some (27, true), false, []⟩, ⟨some 234, false, .pick (.t 230) (.t 233) (.c (.bool false)), none, false, []⟩, ⟨some 235, false, .mv (.t 234), none, false, []⟩, ⟨some 236, false, .mv (.t 32), some (32, true), false, []⟩, ⟨some 237, false, .pick (.t 235) (.t 236) (.c (.bool false)), none, false, []⟩, ⟨some 238, false, .mv (.t 237), none, false, []⟩, ⟨some 239, false, .ld (some 5) (.t 31), some (35, true), false, []⟩, ⟨some 240, false, .ld (some 5) (.t 29), some (35, true), false, []⟩, ⟨some 241, false, .eqs false [.s, .i, .i, .i, .i] (.t 239) (.t 240), some (35, true), false, []⟩, ⟨some 242, false, .pick (.t 238) (.t 241) (.c (.bool false)), none, false, []⟩, ⟨some 4, false, .asg (.t 242), none, false, []⟩] [4] []) .ret))))
def laws_FnGlue_k2 : C :=
  .seq (.reg false [⟨some 99, false, .mv (.t 1), none, false, []⟩, ⟨some 100, false, .call (.c (.fn 331 [])) [.t 99], none, false, []⟩, ⟨some 98, false, .mv (.t 100), none, false, []⟩, ⟨some 101, false, .ext (.t 98) 0, none, false, []⟩, ⟨some 102, false, .ext (.t 98) 1, none, false, []⟩, ⟨some 15, true, .alloc 5 (.agg [.str [], .int .i64 0, .int .i64 0, .int .i64 0, .int .i64 0]), none, false, []⟩, ⟨none, true, .sto 5 (.t 15) (.t 101), none, false, []⟩, ⟨some 16, false, .asg (.t 102), none, false, []⟩] [0, 15, 16] [15]) (.seq (.reg false [⟨some 104, false, .ld (some 5) (.t 15), none, false, []⟩, ⟨some 105, false, .mv (.t 16), none, false, []⟩, ⟨some 106, false, .call (.c (.fn 330 [])) [.t 104, .t 105], none, false, []⟩, ⟨some 103, false, .mv (.t 106), none, false, []⟩, ⟨some 107, false, .ext (.t 103) 0, none, false, []⟩, ⟨some 108, false, .ext (.t 103) 1, none, false, []⟩, ⟨some 17, false, .asg (.t 107), none, false, []⟩, ⟨some 18, false, .asg (.t 108), none, false, []⟩] [0, 15, 16, 17, 18] [15]) (.seq (.seq (.reg false [⟨some 109, false, .mv (.t 18), none, false, []⟩, ⟨some 110, false, .bin .eql (.t 109) (.c (.int .i64 0)), none, false, []⟩] [0, 15, 16, 17, 110] [15]) (.cond (.t 110) (.seq (.reg false [⟨some 111, false, .ld (some 5) (.t 15), none, false, []⟩, ⟨some 19, true, .alloc 5 (.agg [.str [], .int .i64 0, .int .i64 0, .int .i64 0, .int .i64 0]), none, false, []⟩, ⟨none, true, .sto 5 (.t 19) (.t 111), none, false, []⟩] [0, 15, 16, 17, 19] [15, 19]) (.seq (.reg false [⟨some 112, false, .fa 4 (.t 19), none, false, []⟩, ⟨some 113, false, .ld none (.t 112), none, false, []⟩, ⟨some 114, false, .mv (.t 17), none, false, []⟩, ⟨some 115, false, .bin .add (.t 113) (.t 114), none, false, []⟩, ⟨some 116, false, .fa 4 (.t 19), none, false, []⟩, ⟨none, true, .sto 1 (.t 116) (.t 115), none, false, []⟩] [0, 15, 16, 17, 19] [15, 19]) (.seq (.reg false [⟨some 118, false, .ld (some 5) (.t 19), none, false, []⟩, ⟨some 119, false, .call (.c (.fn 177 [])) [.t 118], none, false, []⟩, ⟨some 117, false, .mv (.t 119), none, false, []⟩, ⟨some 120, false, .ext (.t 117) 0, none, false, []⟩, ⟨some 121, false, .ext (.t 117) 1, none, false, []⟩, ⟨some 20, false, .asg (.t 120), none, false, []⟩, ⟨some 21, false, .asg (.t 121), none, false, []⟩] [0, 15, 16, 17, 19, 20, 21] [15, 19]) (.seq (.reg false [⟨some 122, false, .fa 4 (.t 19), none, false, []⟩, ⟨some 123, false, .ld none (.t 122), none, false, []⟩, ⟨some 124, false, .bin .add (.t 123) (.c (.int .i64 1)), none, false, []⟩, ⟨some 125, false, .fa 4 (.t 19), none, false, []⟩, ⟨none, true, .sto 1 (.t 125) (.t 124), none, false, []⟩] [0, 15, 16, 17, 19, 20, 21] [15, 19]) (.seq (.reg false [⟨some 127, false, .ld (some 5) (.t 19), none, false, []⟩, ⟨some 128, false, .call (.c (.fn 177 [])) [.t 127], none, false, []⟩, ⟨some 126, false, .mv (.t 128), none, false, []⟩, ⟨some 129, false, .ext (.t 126) 0, none, false, []⟩, ⟨some 130, false, .ext (.t 126) 1, none, false, []⟩, ⟨some 22, false, .asg (.t 129), none, false, []⟩, ⟨some 23, false, .asg (.t 130), none, false, []⟩] [0, 15, 16, 17, 20, 21, 22, 23] [15]) (.seq (.reg false [⟨some 132, false, .ld (some 5) (.t 15), none, false, []⟩, ⟨some 133, false, .call (.c (.fn 329 [])) [.t 132], none, false, []⟩, ⟨some 131, false, .mv (.t 133), none, false, []⟩, ⟨some 134, false, .ext (.t 131) 0, none, false, []⟩, ⟨some 135, false, .ext (.t 131) 1, none, false, []⟩, ⟨some 24, false, .asg (.t 134), none, false, []⟩, ⟨some 25, false, .asg (.t 135), none, false, []⟩] [0, 16, 17, 20, 21, 22, 23, 24, 25] []) (.seq (.reg false [⟨some 136, false, .mv (.t 17), none, false, []⟩, ⟨some 137, false, .bin .lss (.t 136) (.c (.int .i64 0)), none, false, []⟩, ⟨some 138, false, .mv (.t 137), none, false, []⟩, ⟨some 139, false, .mv (.t 17), some (2, false), false, []⟩, ⟨some 140, false, .bin .gtr (.t 139) (.c (.int .i64 1000)), some (2, false), false, []⟩, ⟨some 141, false, .pick (.t 138) (.c (.bool true)) (.t 140), none, false, []⟩, ⟨some 142, false, .mv (.t 141), none, false, []⟩, ⟨some 143, false, .mv (.t 21), some (6, false), false, []⟩, ⟨some 144, false, .bin .eql (.t 143) (.c (.int .i64 0)), some (6, false), false, []⟩, ⟨some 145, false, .mv (.t 144), some (6, false), false, []⟩, ⟨some 146, false, .mv (.t 20), some (9, true), false, []⟩, ⟨some 147, false, .mv (.t 16), some (9, true), false, []⟩, ⟨some 148, false, .bin .lss (.t 146) (.t 147), some (9, true), false, []⟩, ⟨some 149, false, .pick (.t 145) (.t 148) (.c (.bool false)), some (6, false), false, []⟩, ⟨some 150, false, .pick (.t 142) (.c (.bool true)) (.t 149), none, false, []⟩, ⟨some 151, false, .mv (.t 150), none, false, []⟩, ⟨some 152, false, .mv (.t 17), some (15, false), false, []⟩, ⟨some 153, false, .bin .lss (.t 152) (.c (.int .i64 1000)), some (15, false), false, []⟩, ⟨some 154, false, .mv (.t 153), some (15, false), false, []⟩, ⟨some 155, false, .mv (.t 23), some (18, true), false, []⟩, ⟨some 156, false, .bin .eql (.t 155) (.c (.int .i64 0)), some (18, true), false, []⟩, ⟨some 157, false, .pick (.t 154) (.t 156) (.c (.bool false)), some (15, false), false, []⟩, ⟨some 158, false, .mv (.t 157), some (15, false), false, []⟩, ⟨some 159, false, .mv (.t 22), some (22, true), false, []⟩, ⟨some 160, false, .mv (.t 16), some (22, true), false, []⟩, ⟨some 161, false, .bin .geq (.t 159) (.t 160), some (22, true), false, []⟩, ⟨some 162, false, .pick (.t 158) (.t 161) (.c (.bool false)), some (15, false), false, []⟩, ⟨some 163, false, .pick (.t 151) (.c (.bool true)) (.t 162), none, false, []⟩, ⟨some 164, false, .mv (.t 163), none, false, []⟩, ⟨some 165, false, .mv (.t 25), some (28, false), false, []⟩, ⟨some 166, false, .bin .neq (.t 165) (.c (.int .i64 0)), some (28, false), false, []⟩, ⟨some 167, false, .pick (.t 164) (.c (.bool true)) (.t 166), none, false, []⟩, ⟨some 168, false, .mv (.t 167), none, false, []⟩, ⟨some 169, false, .mv (.t 24), some (32, false), false, []⟩, ⟨some 170, false, .mv (.t 16), some (32, false), false, []⟩, ⟨some 171, false, .bin .lss (.t 169) (.t 170), some (32, false), false, []⟩, ⟨some 172, false, .pick (.t 168) (.c (.bool true)) (.t 171), none, false, []⟩, ⟨some 173, false, .mv (.t 172), none, false, []⟩, ⟨some 174, false, .mv (.t 24), some (37, false), false, []⟩, ⟨some 175, false, .bin .gtr (.t 174) (.c (.int .i64 1000)), some (37, false), false, []⟩, ⟨some 176, false, .pick (.t 173) (.c (.bool true)) (.t 175), none, false, []⟩] [0, 176] []) (.cond (.t 176) (.seq (.reg false [⟨some 4, false, .asg (.c (.bool false)), none, false, []⟩] [4] []) .ret) .skip)))))))) (.seq (.reg false [⟨some 177, false, .mv (.t 17), none, false, []⟩, ⟨some 178, false, .bin .neq (.t 177) (.c (.int .i64 0)), none, false, []⟩] [0, 178] []) (.cond (.t 178) (.seq (.reg false [⟨some 4, false, .asg (.c (.bool false)), none, false, []⟩] [4] []) .ret) .skip)))) (.norm [0] [] laws_FnGlue_k1)))
def laws_FnGlue_k3 : C :=
  .norm [0, 1] [] laws_FnGlue_k2
def laws_FnGlue_k4 : C :=
  .seq (.reg false [⟨some 40, false, .mv (.t 0), none, false, []⟩, ⟨some 41, false, .call (.c (.fn 332 [])) [.t 40], none, false, []⟩, ⟨some 39, false, .mv (.t 41), none, false, []⟩, ⟨some 42, false, .ext (.t 39) 0, none, false, []⟩, ⟨some 43, false, .ext (.t 39) 1, none, false, []⟩, ⟨some 44, false, .ext (.t 39) 2, none, false, []⟩, ⟨some 5, true, .alloc 5 (.agg [.str [], .int .i64 0, .int .i64 0, .int .i64 0, .int .i64 0]), none, false, []⟩, ⟨none, true, .sto 5 (.t 5) (.t 42), none, false, []⟩, ⟨some 6, false, .asg (.t 43), none, false, []⟩, ⟨some 7, false, .asg (.t 44), none, false, []⟩] [0, 1, 5, 6, 7] [5]) (.seq (.reg false [⟨some 46, false, .ld (some 5) (.t 5), none, false, []⟩, ⟨some 47, false, .mv (.t 6), none, false, []⟩, ⟨some 48, false, .mv (.t 7), none, false, []⟩, ⟨some 49, false, .call (.c (.fn 37 [])) [.t 46, .t 47, .t 48], none, false, []⟩, ⟨some 45, false, .mv (.t 49), none, false, []⟩, ⟨some 50, false, .ext (.t 45) 0, none, false, []⟩, ⟨some 51, false, .ext (.t 45) 1, none, false, []⟩, ⟨some 8, false, .asg (.t 50), none, false, []⟩, ⟨some 9, false, .asg (.t 51), none, false, []⟩] [0, 1, 5, 6, 7, 8, 9] [5]) (.seq (.seq (.reg false [⟨some 52, false, .mv (.t 9), none, false, []⟩, ⟨some 53, false, .bin .eql (.t 52) (.c (.int .i64 0)), none, false, []⟩] [0, 1, 5, 6, 7, 8, 53] [5]) (.cond (.t 53) (.seq (.reg false [⟨some 54, false, .ld (some 5) (.t 5), none, false, []⟩, ⟨some 10, true, .alloc 5 (.agg [.str [], .int .i64 0, .int .i64 0, .int .i64 0, .int .i64 0]), none, false, []⟩, ⟨none, true, .sto 5 (.t 10) (.t 54), none, false, []⟩] [0, 1, 6, 7, 8, 10] [10]) (.seq (.reg false [⟨some 55, false, .fa 2 (.t 10), none, false, []⟩, ⟨some 56, false, .ld none (.t 55), none, false, []⟩, ⟨some 57, false, .mv (.t 8), none, false, []⟩, ⟨some 58, false, .bin .add (.t 56) (.t 57), none, false, []⟩, ⟨some 59, false, .fa 2 (.t 10), none, false, []⟩, ⟨none, true, .sto 1 (.t 59) (.t 58), none, false, []⟩] [0, 1, 6, 7, 8, 10] [10]) (.seq (.reg false [⟨some 61, false, .ld (some 5) (.t 10), none, false, []⟩, ⟨some 62, false, .mv (.t 7), none, false, []⟩, ⟨some 63, false, .call (.c (.fn 32 [])) [.t 61, .t 62], none, false, []⟩, ⟨some 60, false, .mv (.t 63), none, false, []⟩, ⟨some 64, false, .ext (.t 60) 0, none, false, []⟩, ⟨some 65, false, .ext (.t 60) 1, none, false, []⟩, ⟨some 11, false, .asg (.t 64), none, false, []⟩, ⟨some 12, false, .asg (.t 65), none, false, []⟩] [0, 1, 6, 7, 8, 10, 11, 12] [10]) (.seq (.seq (.reg false [⟨some 66, false, .mv (.t 8), none, false, []⟩, ⟨some 67, false, .bin .lss (.t 66) (.c (.int .i64 0)), none, false, []⟩, ⟨some 68, false, .mv (.t 67), none, false, []⟩, ⟨some 69, false, .mv (.t 12), some (2, false), false, []⟩, ⟨some 70, false, .bin .neq (.t 69) (.c (.int .i64 0)), some (2, false), false, []⟩, ⟨some 71, false, .pick (.t 68) (.c (.bool true)) (.t 70), none, false, []⟩, ⟨some 72, false, .mv (.t 71), none, false, []⟩, ⟨some 73, false, .mv (.t 11), some (6, false), false, []⟩, ⟨some 74, false, .mv (.t 6), some (6, false), false, []⟩, ⟨some 75, false, .bin .lss (.t 73) (.t 74), some (6, false), false, []⟩, ⟨some 76, false, .pick (.t 72) (.c (.bool true)) (.t 75), none, false, []⟩] [0, 1, 6, 7, 8, 10, 76] [10]) (.cond (.t 76) (.seq (.reg false [⟨some 4, false, .asg (.c (.bool false)), none, false, []⟩] [4] []) .ret) .skip)) (.norm [0, 1, 6, 7, 8, 10] [10] laws_FnGlue_k0))))) (.seq (.reg false [⟨some 96, false, .mv (.t 8), none, false, []⟩, ⟨some 97, false, .bin .neq (.t 96) (.c (.int .i64 0)), none, false, []⟩] [0, 1, 97] []) (.cond (.t 97) (.seq (.reg false [⟨some 4, false, .asg (.c (.bool false)), none, false, []⟩] [4] []) .ret) .skip)))) laws_FnGlue_k3))
def laws_FnGlue_ir : Fn := { np := 2, io := [], res := [.t 4], own := [false], body :=
  (.seq (.reg false [⟨some 4, false, .asg (.c (.bool false)), none, false, []⟩] [0, 1] []) (.seq (.seq (.reg false [⟨some 33, false, .mv (.t 0), none, false, []⟩, ⟨some 34, false, .call (.c (.fn 76 [])) [.t 33], none, false, []⟩, ⟨some 35, false, .mv (.t 34), none, false, []⟩, ⟨some 36, false, .mv (.t 1), some (2, false), false, []⟩, ⟨some 37, false, .call (.c (.fn 76 [])) [.t 36], some (2, false), false, []⟩, ⟨some 38, false, .pick (.t 35) (.c (.bool true)) (.t 37), none, false, []⟩] [0, 1, 38] []) (.cond (.t 38) (.seq (.reg false [⟨some 4, false, .asg (.c (.bool true)), none, false, []⟩] [4] []) .ret) .skip)) (.norm [0, 1] [] laws_FnGlue_k4))) }
noncomputable def laws_FnGlue_D : List (Nat × Callee) := [(32, impl_OpenSeconds_c), (37, impl_WaterFor_c), (76, laws_b10Long_c), (177, spec_StrengthOf_c), (325, impl_PotText_c), (326, impl_ReadPot_c), (327, impl_HeatPot_c), (328, spec_DrawHeatPot_c), (329, impl_StrengthOf_c), (330, impl_HoursLeft_c), (331, spec_DrawHoursLeft_c), (332, spec_DrawWaterFor_c)]
def laws_FnGlue_H : List (Nat × ET) := [(33, (.one (.int .u8))), (36, (.one (.int .u8))), (40, (.one (.int .u8))), (99, (.one (.int .u8))), (180, (.one (.int .u8)))]
noncomputable def laws_FnGlue_c : Callee := mkCallee laws_FnGlue_D laws_FnGlue_H laws_FnGlue_ir [.d (.one (.sl (.one (.int .u8)))), .d (.one (.sl (.one (.int .u8))))] [.d (.one .bool)] []
noncomputable def laws_FnGlue (a0 : List Int) (a1 : List Int) : Option (Bool) := laws_FnGlue_c.f (a0, a1, ())
noncomputable def laws_FnGlue_p0  (v0 : List Int) (v1 : List Int) : Option (Bool) :=
  goL laws_FnGlue_D laws_FnGlue_H (vleave laws_FnGlue_ir [.d (.one (.sl (.one (.int .u8)))), .d (.one (.sl (.one (.int .u8))))] [.d (.one .bool)] [] []) [.c laws_FnGlue_k4]
    ⟨[(0, .sl (.one (.int .u8)) v0), (1, .sl (.one (.int .u8)) v1)], []⟩
noncomputable def laws_FnGlue_p1  (v0 : List Int) (v1 : List Int) (v6 : Int) (v7 : Int) (v8 : Int) (r10_0 : List UInt8) (r10_1 : Int) (r10_2 : Int) (r10_3 : Int) (r10_4 : Int) : Option (Bool) :=
  goL laws_FnGlue_D laws_FnGlue_H (vleave laws_FnGlue_ir [.d (.one (.sl (.one (.int .u8)))), .d (.one (.sl (.one (.int .u8))))] [.d (.one .bool)] [] []) [.c laws_FnGlue_k0, .c laws_FnGlue_k3]
    ⟨[(0, .sl (.one (.int .u8)) v0), (1, .sl (.one (.int .u8)) v1), (6, .int .i64 v6), (7, .int .i64 v7), (8, .int .i64 v8), (10, .loc 10 0 0)], [(10, some (.var 5 (.agg [.str r10_0, .int .i64 r10_1, .int .i64 r10_2, .int .i64 r10_3, .int .i64 r10_4])))]⟩
noncomputable def laws_FnGlue_p2  (v0 : List Int) (v1 : List Int) : Option (Bool) :=
  goL laws_FnGlue_D laws_FnGlue_H (vleave laws_FnGlue_ir [.d (.one (.sl (.one (.int .u8)))), .d (.one (.sl (.one (.int .u8))))] [.d (.one .bool)] [] []) [.c laws_FnGlue_k2]
    ⟨[(0, .sl (.one (.int .u8)) v0), (1, .sl (.one (.int .u8)) v1)], []⟩
noncomputable def laws_FnGlue_p3  (v0 : List Int) : Option (Bool) :=
  goL laws_FnGlue_D laws_FnGlue_H (vleave laws_FnGlue_ir [.d (.one (.sl (.one (.int .u8)))), .d (.one (.sl (.one (.int .u8))))] [.d (.one .bool)] [] []) [.c laws_FnGlue_k1]
    ⟨[(0, .sl (.one (.int .u8)) v0)], []⟩
theorem laws_FnGlue_eq (a0 : List Int) (a1 : List Int) : laws_FnGlue a0 a1 =
    (laws_b10Long a0).bind fun x1 =>
      if x1 then
        some true
      else
        (laws_b10Long a1).bind fun x2 =>
          if x2 then
            some true
          else
            laws_FnGlue_p0 a0 a1 :=
  (mk_f _ _ _ _ _ _ _ 4000).trans (by kernel_rfl)
theorem laws_FnGlue_p0_eq  (v0 : List Int) (v1 : List Int) : laws_FnGlue_p0 v0 v1 =
    (spec_DrawWaterFor v0).bind fun x1 =>
      (impl_WaterFor (x1.1.1, x1.1.2.1, x1.1.2.2.1, x1.1.2.2.2.1, x1.1.2.2.2.2.1, ()) x1.2.1 x1.2.2).bind fun x2 =>
        if (x2.2 == 0) then
          (impl_OpenSeconds (x1.1.1, x1.1.2.1, IntKind.i64.wrap (x1.1.2.2.1 + x2.1), x1.1.2.2.2.1, x1.1.2.2.2.2.1, ()) x1.2.2).bind fun x3 =>
            if decide (x2.1 < 0) then
              some false
            else
              if (x3.2 != 0) then
                some false
              else
                if decide (x3.1 < x1.2.1) then
                  some false
                else
                  laws_FnGlue_p1 v0 v1 x1.2.1 x1.2.2 x2.1 x1.1.1 x1.1.2.1 (IntKind.i64.wrap (x1.1.2.2.1 + x2.1)) x1.1.2.2.2.1 x1.1.2.2.2.2.1
        else
          if (x2.1 != 0) then
            some false
          else
            laws_FnGlue_p2 v0 v1 :=
  (goL_dn _ _ _ 4000 _ _).trans (by kernel_rfl)
theorem laws_FnGlue_p1_eq  (v0 : List Int) (v1 : List Int) (v6 : Int) (v7 : Int) (v8 : Int) (r10_0 : List UInt8) (r10_1 : Int) (r10_2 : Int) (r10_3 : Int) (r10_4 : Int) : laws_FnGlue_p1 v0 v1 v6 v7 v8 r10_0 r10_1 r10_2 r10_3 r10_4 =
    if decide (v8 > 0) then
      (impl_OpenSeconds (r10_0, r10_1, IntKind.i64.wrap (r10_2 - 1), r10_3, r10_4, ()) v7).bind fun x1 =>
        if (x1.2 != 0) then
          some false
        else
          if decide (x1.1 ≥ v6) then
            some false
          else
            laws_FnGlue_p2 v0 v1
    else
      laws_FnGlue_p2 v0 v1 :=
  (goL_dn _ _ _ 4000 _ _).trans (by kernel_rfl)
theorem laws_FnGlue_p2_eq  (v0 : List Int) (v1 : List Int) : laws_FnGlue_p2 v0 v1 =
    (spec_DrawHoursLeft v1).bind fun x1 =>
      (impl_HoursLeft (x1.1.1, x1.1.2.1, x1.1.2.2.1, x1.1.2.2.2.1, x1.1.2.2.2.2.1, ()) x1.2).bind fun x2 =>
        if (x2.2 == 0) then
          (spec_StrengthOf (x1.1.1, x1.1.2.1, x1.1.2.2.1, x1.1.2.2.2.1, IntKind.i64.wrap (x1.1.2.2.2.2.1 + x2.1), ())).bind fun x3 =>
            (spec_StrengthOf (x1.1.1, x1.1.2.1, x1.1.2.2.1, x1.1.2.2.2.1, IntKind.i64.wrap ((IntKind.i64.wrap (x1.1.2.2.2.2.1 + x2.1)) + 1), ())).bind fun x4 =>
              (impl_StrengthOf (x1.1.1, x1.1.2.1, x1.1.2.2.1, x1.1.2.2.2.1, x1.1.2.2.2.2.1, ())).bind fun x5 =>
                if decide (x2.1 < 0) then
                  some false
                else
                  if decide (x2.1 > 1000) then
                    some false
                  else
                    if (x3.2 == 0) then
                      if decide (x3.1 < x1.2) then
                        some false
                      else
                        if decide (x2.1 < 1000) then
                          if (x4.2 == 0) then
                            if decide (x4.1 ≥ x1.2) then
                              some false
                            else
                              if (x5.2 != 0) then
                                some false
                              else
                                if decide (x5.1 < x1.2) then
                                  some false
                                else
                                  if decide (x5.1 > 1000) then
                                    some false
                                  else
                                    laws_FnGlue_p3 v0
                          else
                            if (x5.2 != 0) then
                              some false
                            else
                              if decide (x5.1 < x1.2) then
                                some false
                              else
                                if decide (x5.1 > 1000) then
                                  some false
                                else
                                  laws_FnGlue_p3 v0
                        else
                          if (x5.2 != 0) then
                            some false
                          else
                            if decide (x5.1 < x1.2) then
                              some false
                            else
                              if decide (x5.1 > 1000) then
                                some false
                              else
                                laws_FnGlue_p3 v0
                    else
                      if decide (x2.1 < 1000) then
                        if (x4.2 == 0) then
                          if decide (x4.1 ≥ x1.2) then
                            some false
                          else
                            if (x5.2 != 0) then
                              some false
                            else
                              if decide (x5.1 < x1.2) then
                                some false
                              else
                                if decide (x5.1 > 1000) then
                                  some false
                                else
                                  laws_FnGlue_p3 v0
                        else
                          if (x5.2 != 0) then
                            some false
                          else
                            if decide (x5.1 < x1.2) then
                              some false
                            else
                              if decide (x5.1 > 1000) then
                                some false
                              else
                                laws_FnGlue_p3 v0
                      else
                        if (x5.2 != 0) then
                          some false
                        else
                          if decide (x5.1 < x1.2) then
                            some false
                          else
                            if decide (x5.1 > 1000) then
                              some false
                            else
                              laws_FnGlue_p3 v0
        else
          if (x2.1 != 0) then
            some false
          else
            laws_FnGlue_p3 v0 :=
  (goL_dn _ _ _ 4000 _ _).trans (by kernel_rfl)
theorem laws_FnGlue_p3_eq  (v0 : List Int) : laws_FnGlue_p3 v0 =
    (spec_DrawHeatPot v0).bind fun x1 =>
      (impl_HeatPot (x1.1.1, x1.1.2.1, x1.1.2.2.1, x1.1.2.2.2.1, x1.1.2.2.2.2.1, ()) x1.2.1 x1.2.2).bind fun x2 =>
        if (x2.2 != 0) then
          some ((x2.1.1 == []) && ((x2.1.2.1 == 0) && ((x2.1.2.2.1 == 0) && ((x2.1.2.2.2.1 == 0) && (x2.1.2.2.2.2.1 == 0)))))
        else
          (impl_PotText (x2.1.1, x2.1.2.1, x2.1.2.2.1, x2.1.2.2.2.1, x2.1.2.2.2.2.1, ())).bind fun x3 =>
            (impl_ReadPot x3).bind fun x4 =>
              if (x2.1.2.2.2.1 == x1.2.1) then
                if (x2.1.2.2.2.2.1 == IntKind.i64.wrap (x1.1.2.2.2.2.1 + x1.2.2)) then
                  if (x2.1.2.1 == x1.1.2.1) then
                    if decide (x2.1.2.2.1 ≤ x1.1.2.2.1) then
                      if decide (x2.1.2.2.1 ≥ 1) then
                        if x4.2 then
                          some ((x4.1.1 == x2.1.1) && ((x4.1.2.1 == x2.1.2.1) && ((x4.1.2.2.1 == x2.1.2.2.1) && ((x4.1.2.2.2.1 == x2.1.2.2.2.1) && (x4.1.2.2.2.2.1 == x2.1.2.2.2.2.1)))))
                        else
                          some false
                      else
                        some false
                    else
                      some false
                  else
                    some false
                else
                  some false
              else
                some false :=
  (goL_dn _ _ _ 4000 _ _).trans (by kernel_rfl)

end Go.Ab.P
