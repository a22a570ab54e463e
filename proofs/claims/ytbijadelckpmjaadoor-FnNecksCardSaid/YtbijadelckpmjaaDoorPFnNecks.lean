/- Functions of the program: abstract forms, and what their runs give. Conditions: none. -/
import Derived.Test.YtbijadelckpmjaaDoorL4
set_option maxRecDepth 100000
set_option linter.unusedVariables false
namespace Go.Ab.P
open Go.Ab
@[reducible] def T_Problem : ET := .agg (.cons (.int .i64) (.cons .str (.cons .str .nil)))
@[reducible] def T_Pot : ET := .agg (.cons .str (.cons (.int .i64) (.cons (.int .i64) (.cons (.int .i64) (.cons (.int .i64) .nil)))))
@[reducible] def T_Neck : ET := .agg (.cons (.int .i64) (.cons (.int .i64) (.cons (.int .i64) (.cons (.int .i64) .nil))))
@[reducible] def T_Step : ET := .agg (.cons .str (.cons (.int .i64) (.cons (.int .i64) (.cons (.sl (.one (.int .i64))) .nil))))
@[reducible] def T_Peg : ET := .agg (.cons .str (.cons (.int .i64) (.cons (.int .i64) (.cons (.int .i64) .nil))))
@[reducible] def T_Mode : ET := .agg (.cons .str (.cons (.int .i64) (.cons (.int .i64) .nil)))
@[reducible] def T_Deed : ET := .agg (.cons .str (.cons .str (.cons (.int .i64) (.cons (.int .i64) .nil))))
@[reducible] def T_Block : ET := .agg (.cons .str (.cons .str (.cons .str .nil)))
@[reducible] def T_Paper : ET := .agg (.cons .str (.cons .str (.cons (.int .i64) (.cons (.int .i64) (.cons (.int .i64) .nil)))))
@[reducible] def T_Desk : ET := .agg (.cons (.sl T_Peg) (.cons (.sl T_Mode) (.cons (.sl (.one (.sl (.one (.int .i64))))) (.cons (.int .i64) (.cons (.int .i64) (.cons (.int .i64) (.cons (.int .i64) (.cons (.sl T_Peg) (.cons (.sl T_Pot) (.cons (.sl T_Mode) (.cons (.sl T_Peg) (.cons (.sl T_Paper) .nil))))))))))))
@[reducible] def T_Arc : ET := .agg (.cons (.int .i64) (.cons (.int .i64) (.cons (.int .i64) (.cons (.int .i64) (.cons (.int .i64) (.cons (.int .i64) .nil))))))
@[reducible] def T_Entry : ET := .agg (.cons (.int .i64) (.cons .str (.cons .str (.cons (.int .i64) .nil))))
@[reducible] def T_Shop : ET := .agg (.cons (.sl T_Arc) (.cons (.sl T_Neck) (.cons (.int .i64) (.cons (.sl T_Step) (.cons (.sl (.one (.int .i64))) (.cons (.int .i64) (.cons (.sl T_Paper) (.cons (.sl T_Entry) .nil))))))))
@[reducible] def T_Setting : ET := .agg (.cons .str (.cons (.int .i64) .nil))
@[reducible] def T_Version : ET := .agg (.cons (.int .i64) (.cons (.int .i64) (.cons .str (.cons (.sl T_Setting) .nil))))
@[reducible] def T_Point : ET := .agg (.cons (.int .i64) (.cons (.int .i64) .nil))
@[reducible] def T_Grant : ET := .agg (.cons .str (.cons .str (.cons (.int .i64) .nil)))
@[reducible] def T_Role : ET := .agg (.cons .str (.cons (.sl (.one .str)) .nil))
@[reducible] def T_matching : ET := .agg (.cons (.sl T_Mode) (.cons (.sl T_Mode) (.cons (.sl (.one .bool)) (.cons (.int .i64) (.cons (.sl (.one (.int .i64))) (.cons (.int .i64) (.cons (.sl (.one (.int .i64))) (.cons (.int .i64) (.cons .bool .nil)))))))))
@[reducible] def T_cutting : ET := .agg (.cons (.sl T_Mode) (.cons (.int .i64) (.cons (.int .i64) (.cons (.sl (.one (.int .i64))) (.cons (.sl (.one (.int .i64))) (.cons (.int .i64) (.cons (.int .i64) .nil)))))))
@[reducible] def T_link : ET := .agg (.cons .bool (.cons (.int .i64) (.cons (.int .i64) .nil)))
@[reducible] def T_gluing : ET := .agg (.cons (.sl T_Pot) (.cons (.sl (.one (.int .i64))) (.cons (.sl (.one (.int .i64))) (.cons (.int .i64) (.cons (.sl (.one (.int .i64))) (.cons (.int .i64) (.cons (.sl (.one (.int .i64))) (.cons (.int .i64) (.cons .bool .nil)))))))))
@[reducible] def T_Change : ET := .agg (.cons (.int .i64) (.cons .str (.cons (.int .i64) .nil)))
@[reducible] def T_placing : ET := .agg (.cons (.sl T_Peg) (.cons (.sl (.one (.sl (.one (.int .i64))))) (.cons (.int .i64) .nil)))
@[reducible] def T_trusting : ET := .agg (.cons (.sl T_Paper) (.cons (.int .i64) (.cons (.sl (.one (.int .i64))) (.cons (.int .i64) (.cons (.sl (.one (.int .i64))) (.cons (.int .i64) .nil))))))
@[reducible] def T_l00Src : ET := .agg (.cons (.sl (.one (.int .u8))) (.cons (.int .i64) (.cons (.int .u64) .nil)))
@[reducible] def T_arguments : ET := .agg (.cons (.sl (.one (.int .i64))) (.cons (.sl (.one (.int .i64))) (.cons (.int .i64) (.cons .str .nil))))
@[reducible] def T_l14Search : ET := .agg (.cons (.sl T_Pot) (.cons (.sl (.one (.int .i64))) (.cons (.sl (.one (.int .i64))) (.cons (.sl (.one (.int .i64))) (.cons (.sl (.one (.int .i64))) (.cons (.int .i64) (.cons (.int .i64) (.cons (.int .i64) (.cons .bool .nil)))))))))
@[reducible] def T_l06Search : ET := .agg (.cons (.sl T_Mode) (.cons (.int .i64) (.cons (.int .i64) (.cons (.int .i64) (.cons (.sl (.one (.int .i64))) (.cons (.sl (.one (.int .i64))) (.cons (.int .i64) (.cons (.int .i64) (.cons .bool .nil)))))))))
@[reducible] def T_l20Search : ET := .agg (.cons (.sl T_Paper) (.cons (.sl (.one (.int .i64))) (.cons (.sl (.one (.int .i64))) (.cons (.int .i64) (.cons (.int .i64) (.cons (.int .i64) (.cons .bool .nil)))))))
@[reducible] def T_l18Search : ET := .agg (.cons (.sl T_Peg) (.cons (.sl (.one (.sl (.one (.int .i64))))) (.cons (.int .i64) (.cons (.int .i64) (.cons .bool .nil)))))
/- laws.b10Long -/
def laws_b10Long_ir : Fn := { np := 1, io := [], res := [.t 2], own := [false], body :=
  (.seq (.reg false [⟨some 2, false, .asg (.c (.bool false)), none, false, []⟩] [0] []) (.seq (.reg false [⟨some 3, false, .mv (.t 0), none, false, []⟩, ⟨some 4, false, .len (.t 3), none, false, []⟩, ⟨some 5, false, .bin .gtr (.t 4) (.c (.int .i64 1048576)), none, false, []⟩, ⟨some 2, false, .asg (.t 5), none, false, []⟩] [2] []) .ret)) }
noncomputable def laws_b10Long_D : List (Nat × Callee) := []
def laws_b10Long_H : List (Nat × ET) := [(3, (.one (.int .u8)))]
noncomputable def laws_b10Long_c : Callee := mkCallee laws_b10Long_D laws_b10Long_H laws_b10Long_ir [.d (.one (.sl (.one (.int .u8))))] [.d (.one .bool)] []
noncomputable def laws_b10Long (a0 : List Int) : Option (Bool) := laws_b10Long_c.f (a0, ())
theorem laws_b10Long_eq (a0 : List Int) : laws_b10Long a0 =
    some (decide ((a0.length : Int) > 1048576)) :=
  (mk_f _ _ _ _ _ _ _ 4000).trans (by kernel_rfl)

/- spec.l00From -/
def spec_l00From_ir : Fn := { np := 1, io := [], res := [.t 2], own := [true], body :=
  (.seq (.reg false [⟨some 2, false, .asg (.c (.cst (.pointer none))), none, false, []⟩] [0] []) (.seq (.reg false [⟨some 3, false, .mv (.t 0), none, false, []⟩, ⟨some 4, false, .build [.nils 1, .int .i64 0, .int .u64 0] [(0, 1, .t 3)], none, false, []⟩, ⟨some 5, true, .box 3 (.t 4), none, false, []⟩, ⟨some 2, false, .asg (.t 5), none, false, []⟩] [2] [5, 6000]) .ret)) }
noncomputable def spec_l00From_D : List (Nat × Callee) := []
def spec_l00From_H : List (Nat × ET) := [(3, (.one (.int .u8)))]
noncomputable def spec_l00From_c : Callee := mkCallee spec_l00From_D spec_l00From_H spec_l00From_ir [.d (.one (.sl (.one (.int .u8))))] [.box T_l00Src] []
noncomputable def spec_l00From (a0 : List Int) : Option (T_l00Src.ty) := spec_l00From_c.f (a0, ())
theorem spec_l00From_eq (a0 : List Int) : spec_l00From a0 =
    some (a0, 0, 0, ()) :=
  (mk_f _ _ _ _ _ _ _ 4000).trans (by kernel_rfl)

/- (*spec.l00Src).next -/
def spec_l00Src_next_k0 : C :=
  .seq (.reg false [⟨some 25, false, .mv (.t 0), none, false, []⟩, ⟨some 26, false, .nilck (.t 25), none, false, []⟩, ⟨some 27, false, .fa 1 (.t 26), none, false, []⟩, ⟨some 28, false, .ld none (.t 27), none, false, []⟩, ⟨some 29, false, .bin .add (.t 28) (.c (.int .i64 1)), none, false, []⟩, ⟨some 30, false, .nilck (.t 25), none, false, []⟩, ⟨some 31, false, .fa 1 (.t 30), none, false, []⟩, ⟨none, true, .sto 1 (.t 31) (.t 29), none, false, []⟩] [0, 3] [0, 1000]) (.seq (.reg false [⟨some 32, false, .mv (.t 0), none, false, []⟩, ⟨some 33, false, .mv (.t 0), none, false, []⟩, ⟨some 34, false, .nilck (.t 33), none, false, []⟩, ⟨some 35, false, .fa 2 (.t 34), none, false, []⟩, ⟨some 36, false, .ld none (.t 35), none, false, []⟩, ⟨some 37, false, .bin .mul (.t 36) (.c (.int .u64 6364136223846793005)), none, false, []⟩, ⟨some 38, false, .mv (.t 3), none, false, []⟩, ⟨some 39, false, .conv (.int .u64) (.t 38), none, false, []⟩, ⟨some 40, false, .bin .add (.t 37) (.t 39), none, false, []⟩, ⟨some 41, false, .bin .add (.t 40) (.c (.int .u64 1442695040888963407)), none, false, []⟩, ⟨some 42, false, .nilck (.t 32), none, false, []⟩, ⟨some 43, false, .fa 2 (.t 42), none, false, []⟩, ⟨none, true, .sto 1 (.t 43) (.t 41), none, false, []⟩] [0, 3] [0, 1000]) (.seq (.seq (.reg true [⟨some 44, false, .mv (.t 0), none, false, []⟩, ⟨some 45, false, .nilck (.t 44), none, false, []⟩, ⟨some 46, false, .fa 1 (.t 45), none, false, []⟩, ⟨some 47, false, .ld none (.t 46), none, false, []⟩, ⟨some 48, false, .mv (.t 0), none, false, []⟩, ⟨some 49, false, .nilck (.t 48), none, false, []⟩, ⟨some 50, false, .fa 0 (.t 49), none, false, []⟩, ⟨some 51, false, .ld none (.t 50), none, false, []⟩, ⟨some 52, false, .len (.t 51), none, false, []⟩, ⟨some 53, false, .bin .leq (.t 47) (.t 52), none, false, []⟩] [0, 3, 53] [0, 1000]) (.cond (.t 53) (.seq (.reg false [⟨some 54, false, .mv (.t 3), none, false, []⟩, ⟨some 2, false, .asg (.t 54), none, false, []⟩] [0, 2] [0, 1000]) .ret) .skip)) (.seq (.reg false [⟨some 55, false, .mv (.t 0), none, false, []⟩, ⟨some 56, false, .nilck (.t 55), none, false, []⟩, ⟨some 57, false, .fa 2 (.t 56), none, false, []⟩, ⟨some 58, false, .ld none (.t 57), none, false, []⟩, ⟨some 59, false, .bin .shr (.t 58) (.c (.int .u64 40)), none, false, []⟩, ⟨some 60, false, .bin .and (.t 59) (.c (.int .u64 255)), none, false, []⟩, ⟨some 61, false, .conv (.int .i64) (.t 60), none, false, []⟩, ⟨some 2, false, .asg (.t 61), none, false, []⟩] [0, 2] [0, 1000]) .ret)))
def spec_l00Src_next_ir : Fn := { np := 1, io := [true], res := [.t 2], own := [false], body :=
  (.seq (.reg false [⟨some 2, false, .asg (.c (.int .i64 0)), none, false, []⟩] [0] [0, 1000]) (.seq (.reg false [⟨some 3, false, .asg (.c (.int .i64 0)), none, false, []⟩] [0, 3] [0, 1000]) (.seq (.seq (.reg true [⟨some 4, false, .mv (.t 0), none, false, []⟩, ⟨some 5, false, .nilck (.t 4), none, false, []⟩, ⟨some 6, false, .fa 1 (.t 5), none, false, []⟩, ⟨some 7, false, .ld none (.t 6), none, false, []⟩, ⟨some 8, false, .mv (.t 0), none, false, []⟩, ⟨some 9, false, .nilck (.t 8), none, false, []⟩, ⟨some 10, false, .fa 0 (.t 9), none, false, []⟩, ⟨some 11, false, .ld none (.t 10), none, false, []⟩, ⟨some 12, false, .len (.t 11), none, false, []⟩, ⟨some 13, false, .bin .lss (.t 7) (.t 12), none, false, []⟩] [0, 3, 13] [0, 1000]) (.cond (.t 13) (.reg true [⟨some 14, false, .mv (.t 0), none, false, []⟩, ⟨some 15, false, .nilck (.t 14), none, false, []⟩, ⟨some 16, false, .fa 0 (.t 15), none, false, []⟩, ⟨some 17, false, .ld none (.t 16), none, false, []⟩, ⟨some 18, false, .mv (.t 0), none, false, []⟩, ⟨some 19, false, .nilck (.t 18), none, false, []⟩, ⟨some 20, false, .fa 1 (.t 19), none, false, []⟩, ⟨some 21, false, .ld none (.t 20), none, false, []⟩, ⟨some 22, false, .ia 1 (.t 17) (.t 21), none, false, []⟩, ⟨some 23, false, .ld none (.t 22), none, false, []⟩, ⟨some 24, false, .conv (.int .i64) (.t 23), none, false, []⟩, ⟨some 3, false, .asg (.t 24), none, false, []⟩] [0, 3] [0, 1000]) .skip)) (.norm [0, 3] [0, 1000] spec_l00Src_next_k0)))) }
noncomputable def spec_l00Src_next_D : List (Nat × Callee) := []
def spec_l00Src_next_H : List (Nat × ET) := [(11, (.one (.int .u8))), (17, (.one (.int .u8))), (51, (.one (.int .u8)))]
noncomputable def spec_l00Src_next_c : Callee := mkCallee spec_l00Src_next_D spec_l00Src_next_H spec_l00Src_next_ir [.box T_l00Src] [.d (.one (.int .i64))] [.box T_l00Src]
noncomputable def spec_l00Src_next (a0 : T_l00Src.ty) : Option (Int × T_l00Src.ty) := spec_l00Src_next_c.f (a0, ())
noncomputable def spec_l00Src_next_p0  (v3 : Int) (r0_0 : List Int) (r0_1 : Int) (r0_2 : Int) : Option (Int × T_l00Src.ty) :=
  goL spec_l00Src_next_D spec_l00Src_next_H (vleave spec_l00Src_next_ir [.box T_l00Src] [.d (.one (.int .i64))] [.box T_l00Src] []) [.c spec_l00Src_next_k0]
    ⟨[(0, .loc 0 0 0), (3, .int .i64 v3)], [(0, some (.var 3 (.agg [.sl (.one (.int .u8)) r0_0, .int .i64 r0_1, .int .u64 r0_2]))), (1000, none)]⟩
theorem spec_l00Src_next_eq (a0 : T_l00Src.ty) : spec_l00Src_next a0 =
    if decide (a0.2.1 < (a0.1.length : Int)) then
      if decide (0 ≤ a0.2.1) then
        (a0.1[a0.2.1.toNat]?).bind fun x1 =>
          spec_l00Src_next_p0 (IntKind.i64.wrap x1) a0.1 a0.2.1 a0.2.2.1
      else
        none
    else
      spec_l00Src_next_p0 0 a0.1 a0.2.1 a0.2.2.1 :=
  (mk_f _ _ _ _ _ _ _ 4000).trans (by kernel_rfl)
theorem spec_l00Src_next_p0_eq  (v3 : Int) (r0_0 : List Int) (r0_1 : Int) (r0_2 : Int) : spec_l00Src_next_p0 v3 r0_0 r0_1 r0_2 =
    if decide (IntKind.i64.wrap (r0_1 + 1) ≤ (r0_0.length : Int)) then
      some (v3, (r0_0, IntKind.i64.wrap (r0_1 + 1), IntKind.u64.wrap ((IntKind.u64.wrap ((IntKind.u64.wrap (r0_2 * 6364136223846793005)) + (IntKind.u64.wrap v3))) + 1442695040888963407), ()))
    else
      some (IntKind.i64.wrap (IntKind.u64.wrap ((BitVec.ofInt IntKind.u64.bits (Int.fdiv (IntKind.u64.wrap ((IntKind.u64.wrap ((IntKind.u64.wrap (r0_2 * 6364136223846793005)) + (IntKind.u64.wrap v3))) + 1442695040888963407)) (2 ^ (min (40 : Int).toNat IntKind.u64.bits))) &&& BitVec.ofInt IntKind.u64.bits 255).toNat : Int)), (r0_0, IntKind.i64.wrap (r0_1 + 1), IntKind.u64.wrap ((IntKind.u64.wrap ((IntKind.u64.wrap (r0_2 * 6364136223846793005)) + (IntKind.u64.wrap v3))) + 1442695040888963407), ())) :=
  (goL_dn _ _ _ 4000 _ _).trans (by kernel_rfl)

/- (*spec.l00Src).pick -/
def spec_l00Src_pick_ir : Fn := { np := 2, io := [true, false], res := [.t 4], own := [false], body :=
  (.seq (.reg false [⟨some 4, false, .asg (.c (.int .i64 0)), none, false, []⟩] [0, 1] [0, 1000]) (.seq (.seq (.reg false [⟨some 6, false, .mv (.t 1), none, false, []⟩, ⟨some 7, false, .bin .leq (.t 6) (.c (.int .i64 1)), none, false, []⟩] [0, 1, 7] [0, 1000]) (.cond (.t 7) (.seq (.reg false [⟨some 4, false, .asg (.c (.int .i64 0)), none, false, []⟩] [0, 4] [0, 1000]) .ret) .skip)) (.seq (.reg false [⟨some 8, false, .mv (.t 0), none, false, []⟩, ⟨some 9, true, .call (.c (.fn 847 [])) [.t 8], none, false, []⟩, ⟨some 5, false, .asg (.t 9), none, false, []⟩] [0, 1, 5] [0, 1000]) (.seq (.seq (.reg false [⟨some 10, false, .mv (.t 1), none, false, []⟩, ⟨some 11, false, .bin .gtr (.t 10) (.c (.int .i64 200)), none, false, []⟩] [0, 1, 5, 11] [0, 1000]) (.cond (.t 11) (.reg false [⟨some 12, false, .mv (.t 5), none, false, []⟩, ⟨some 13, false, .bin .mul (.t 12) (.c (.int .i64 256)), none, false, []⟩, ⟨some 14, false, .mv (.t 0), none, false, []⟩, ⟨some 15, true, .call (.c (.fn 847 [])) [.t 14], none, false, []⟩, ⟨some 16, false, .bin .add (.t 13) (.t 15), none, false, []⟩, ⟨some 5, false, .asg (.t 16), none, false, []⟩] [0, 1, 5] [0, 1000]) .skip)) (.seq (.reg false [⟨some 17, false, .mv (.t 5), none, false, []⟩, ⟨some 18, false, .mv (.t 1), none, false, []⟩, ⟨some 19, false, .bin .rem (.t 17) (.t 18), none, false, []⟩, ⟨some 4, false, .asg (.t 19), none, false, []⟩] [0, 4] [0, 1000]) .ret))))) }
noncomputable def spec_l00Src_pick_D : List (Nat × Callee) := [(847, spec_l00Src_next_c)]
def spec_l00Src_pick_H : List (Nat × ET) := []
noncomputable def spec_l00Src_pick_c : Callee := mkCallee spec_l00Src_pick_D spec_l00Src_pick_H spec_l00Src_pick_ir [.box T_l00Src, .d (.one (.int .i64))] [.d (.one (.int .i64))] [.box T_l00Src]
noncomputable def spec_l00Src_pick (a0 : T_l00Src.ty) (a1 : Int) : Option (Int × T_l00Src.ty) := spec_l00Src_pick_c.f (a0, a1, ())
theorem spec_l00Src_pick_eq (a0 : T_l00Src.ty) (a1 : Int) : spec_l00Src_pick a0 a1 =
    if decide (a1 ≤ 1) then
      some (0, a0)
    else
      (spec_l00Src_next a0).bind fun x1 =>
        if decide (a1 > 200) then
          (spec_l00Src_next (x1.2.1, x1.2.2.1, x1.2.2.2.1, ())).bind fun x2 =>
            if decide (a1 = 0) then
              none
            else
              some ((IntKind.i64.wrap ((IntKind.i64.wrap (x1.1 * 256)) + x2.1)).tmod a1, (x2.2.1, x2.2.2.1, x2.2.2.2.1, ()))
        else
          if decide (a1 = 0) then
            none
          else
            some (x1.1.tmod a1, (x1.2.1, x1.2.2.1, x1.2.2.2.1, ())) :=
  (mk_f _ _ _ _ _ _ _ 4000).trans (by kernel_rfl)

/- spec.l10DrawOk -/
def spec_l10DrawOk_ir : Fn := { np := 1, io := [true], res := [.cell 2 (some 4)], own := [false], body :=
  (.seq (.reg false [⟨some 2, true, .alloc 4 (.agg [.int .i64 0, .int .i64 0, .int .i64 0, .int .i64 0]), none, false, []⟩] [0, 2] [0, 2, 1000]) (.seq (.reg false [⟨some 4, false, .mv (.t 0), none, false, []⟩, ⟨some 5, true, .call (.c (.fn 463 [])) [.t 4, .c (.int .i64 40)], none, false, []⟩, ⟨some 6, false, .bin .mul (.c (.int .i64 5)) (.t 5), none, false, []⟩, ⟨some 7, false, .bin .add (.c (.int .i64 1200)) (.t 6), none, false, []⟩, ⟨some 8, false, .mv (.t 0), none, false, []⟩, ⟨some 9, true, .call (.c (.fn 463 [])) [.t 8, .c (.int .i64 40)], none, false, []⟩, ⟨some 10, false, .bin .mul (.c (.int .i64 5)) (.t 9), none, false, []⟩, ⟨some 11, false, .bin .add (.c (.int .i64 1850)) (.t 10), none, false, []⟩, ⟨some 12, false, .build [.int .i64 0, .int .i64 0, .int .i64 0, .int .i64 0] [(0, 1, .t 7), (1, 1, .t 11)], none, false, []⟩, ⟨some 3, true, .alloc 4 (.agg [.int .i64 0, .int .i64 0, .int .i64 0, .int .i64 0]), none, false, []⟩, ⟨none, true, .sto 4 (.t 3) (.t 12), none, false, []⟩] [0, 2, 3] [0, 2, 3, 1000]) (.seq (.reg false [⟨some 13, false, .mv (.t 0), none, false, []⟩, ⟨some 14, true, .call (.c (.fn 463 [])) [.t 13, .c (.int .i64 50)], none, false, []⟩, ⟨some 15, false, .bin .add (.c (.int .i64 40)) (.t 14), none, false, []⟩, ⟨some 16, false, .fa 2 (.t 3), none, false, []⟩, ⟨none, true, .sto 1 (.t 16) (.t 15), none, false, []⟩] [0, 2, 3] [0, 2, 3, 1000]) (.seq (.reg false [⟨some 17, false, .mv (.t 0), none, false, []⟩, ⟨some 18, true, .call (.c (.fn 463 [])) [.t 17, .c (.int .i64 90)], none, false, []⟩, ⟨some 19, false, .bin .add (.c (.int .i64 60)) (.t 18), none, false, []⟩, ⟨some 20, false, .fa 3 (.t 3), none, false, []⟩, ⟨none, true, .sto 1 (.t 20) (.t 19), none, false, []⟩] [0, 2, 3] [0, 2, 3, 1000]) (.seq (.reg false [⟨some 21, false, .ld (some 4) (.t 3), none, false, []⟩, ⟨none, true, .sto 4 (.t 2) (.t 21), none, false, []⟩] [0, 2] [0, 2, 1000]) .ret))))) }
noncomputable def spec_l10DrawOk_D : List (Nat × Callee) := [(463, spec_l00Src_pick_c)]
def spec_l10DrawOk_H : List (Nat × ET) := []
noncomputable def spec_l10DrawOk_c : Callee := mkCallee spec_l10DrawOk_D spec_l10DrawOk_H spec_l10DrawOk_ir [.box T_l00Src] [.d T_Neck] [.box T_l00Src]
noncomputable def spec_l10DrawOk (a0 : T_l00Src.ty) : Option (T_Neck.ty × T_l00Src.ty) := spec_l10DrawOk_c.f (a0, ())
theorem spec_l10DrawOk_eq (a0 : T_l00Src.ty) : spec_l10DrawOk a0 =
    (spec_l00Src_pick a0 40).bind fun x1 =>
      (spec_l00Src_pick (x1.2.1, x1.2.2.1, x1.2.2.2.1, ()) 40).bind fun x2 =>
        (spec_l00Src_pick (x2.2.1, x2.2.2.1, x2.2.2.2.1, ()) 50).bind fun x3 =>
          (spec_l00Src_pick (x3.2.1, x3.2.2.1, x3.2.2.2.1, ()) 90).bind fun x4 =>
            some ((IntKind.i64.wrap (1200 + (IntKind.i64.wrap (5 * x1.1))), IntKind.i64.wrap (1850 + (IntKind.i64.wrap (5 * x2.1))), IntKind.i64.wrap (40 + x3.1), IntKind.i64.wrap (60 + x4.1), ()), (x4.2.1, x4.2.2.1, x4.2.2.2.1, ())) :=
  (mk_f _ _ _ _ _ _ _ 4000).trans (by kernel_rfl)

/- (*spec.l00Src).among -/
def spec_l00Src_among_ir : Fn := { np := 2, io := [true, false], res := [.t 4], own := [false], body :=
  (.seq (.reg false [⟨some 4, false, .asg (.c (.int .i64 0)), none, false, []⟩] [0, 1] [0, 1000]) (.seq (.reg false [⟨some 5, false, .mv (.t 1), none, false, []⟩, ⟨some 6, false, .mv (.t 0), none, false, []⟩, ⟨some 7, false, .mv (.t 1), none, false, []⟩, ⟨some 8, false, .len (.t 7), none, false, []⟩, ⟨some 9, true, .call (.c (.fn 463 [])) [.t 6, .t 8], none, false, []⟩, ⟨some 10, false, .ia 1 (.t 5) (.t 9), none, false, []⟩, ⟨some 11, false, .ld none (.t 10), none, false, []⟩, ⟨some 4, false, .asg (.t 11), none, false, []⟩] [0, 4] [0, 1000]) .ret)) }
noncomputable def spec_l00Src_among_D : List (Nat × Callee) := [(463, spec_l00Src_pick_c)]
def spec_l00Src_among_H : List (Nat × ET) := [(5, (.one (.int .i64))), (7, (.one (.int .i64)))]
noncomputable def spec_l00Src_among_c : Callee := mkCallee spec_l00Src_among_D spec_l00Src_among_H spec_l00Src_among_ir [.box T_l00Src, .d (.one (.sl (.one (.int .i64))))] [.d (.one (.int .i64))] [.box T_l00Src]
noncomputable def spec_l00Src_among (a0 : T_l00Src.ty) (a1 : List Int) : Option (Int × T_l00Src.ty) := spec_l00Src_among_c.f (a0, a1, ())
theorem spec_l00Src_among_eq (a0 : T_l00Src.ty) (a1 : List Int) : spec_l00Src_among a0 a1 =
    (spec_l00Src_pick a0 (a1.length : Int)).bind fun x1 =>
      if decide (0 ≤ x1.1) then
        (a1[x1.1.toNat]?).bind fun x2 =>
          some (x2, (x1.2.1, x1.2.2.1, x1.2.2.2.1, ()))
      else
        none :=
  (mk_f _ _ _ _ _ _ _ 4000).trans (by kernel_rfl)

/- spec.l10Draw -/
def spec_l10Draw_ir : Fn := { np := 1, io := [true], res := [.cell 2 (some 4)], own := [false], body :=
  (.seq (.reg false [⟨some 2, true, .alloc 4 (.agg [.int .i64 0, .int .i64 0, .int .i64 0, .int .i64 0]), none, false, []⟩] [0, 2] [0, 2, 1000]) (.seq (.reg false [⟨some 4, false, .mv (.t 0), none, false, []⟩, ⟨some 5, true, .call (.c (.fn 843 [])) [.t 4], none, false, []⟩, ⟨some 3, true, .alloc 4 (.agg [.int .i64 0, .int .i64 0, .int .i64 0, .int .i64 0]), none, false, []⟩, ⟨none, true, .sto 4 (.t 3) (.t 5), none, false, []⟩] [0, 2, 3] [0, 2, 3, 1000]) (.seq (.seq (.reg false [⟨some 6, false, .mv (.t 0), none, false, []⟩, ⟨some 7, true, .call (.c (.fn 463 [])) [.t 6, .c (.int .i64 20)], none, false, []⟩] [0, 2, 3, 7] [0, 2, 3, 1000]) (.block 0 (.seq (.reg false [⟨some 9, false, .bin .eql (.t 7) (.c (.int .i64 0)), none, false, []⟩, ⟨some 8, false, .asg (.t 9), none, false, []⟩] [0, 2, 3, 7, 8] [0, 2, 3, 1000]) (.cond (.t 8) (.reg false [⟨some 10, false, .mv (.t 0), none, false, []⟩, ⟨some 11, false, .bsl 1 (.int .i64 0) 4 [(0, .c (.int .i64 99)), (1, .c (.int .i64 100)), (2, .c (.int .i64 10000)), (3, .c (.int .i64 10001))], none, false, []⟩, ⟨some 12, true, .call (.c (.fn 445 [])) [.t 10, .t 11], none, false, []⟩, ⟨some 13, false, .fa 0 (.t 3), none, false, []⟩, ⟨none, true, .sto 1 (.t 13) (.t 12), none, false, []⟩] [0, 2, 3] [0, 2, 3, 1000]) (.seq (.reg false [⟨some 15, false, .bin .eql (.t 7) (.c (.int .i64 1)), none, false, []⟩, ⟨some 14, false, .asg (.t 15), none, false, []⟩] [0, 2, 3, 7, 14] [0, 2, 3, 1000]) (.cond (.t 14) (.reg false [⟨some 16, false, .mv (.t 0), none, false, []⟩, ⟨some 17, false, .bsl 1 (.int .i64 0) 4 [(0, .c (.int .i64 99)), (1, .c (.int .i64 100)), (2, .c (.int .i64 10000)), (3, .c (.int .i64 10001))], none, false, []⟩, ⟨some 18, true, .call (.c (.fn 445 [])) [.t 16, .t 17], none, false, []⟩, ⟨some 19, false, .fa 1 (.t 3), none, false, []⟩, ⟨none, true, .sto 1 (.t 19) (.t 18), none, false, []⟩] [0, 2, 3] [0, 2, 3, 1000]) (.seq (.reg false [⟨some 21, false, .bin .eql (.t 7) (.c (.int .i64 2)), none, false, []⟩, ⟨some 20, false, .asg (.t 21), none, false, []⟩] [0, 2, 3, 7, 20] [0, 2, 3, 1000]) (.cond (.t 20) (.reg false [⟨some 22, false, .mv (.t 0), none, false, []⟩, ⟨some 23, false, .bsl 1 (.int .i64 0) 4 [(0, .c (.int .i64 (-1))), (1, .c (.int .i64 0)), (2, .c (.int .i64 500)), (3, .c (.int .i64 501))], none, false, []⟩, ⟨some 24, true, .call (.c (.fn 445 [])) [.t 22, .t 23], none, false, []⟩, ⟨some 25, false, .fa 2 (.t 3), none, false, []⟩, ⟨none, true, .sto 1 (.t 25) (.t 24), none, false, []⟩] [0, 2, 3] [0, 2, 3, 1000]) (.seq (.reg false [⟨some 27, false, .bin .eql (.t 7) (.c (.int .i64 3)), none, false, []⟩, ⟨some 26, false, .asg (.t 27), none, false, []⟩] [0, 2, 3, 26] [0, 2, 3, 1000]) (.cond (.t 26) (.reg false [⟨some 28, false, .mv (.t 0), none, false, []⟩, ⟨some 29, false, .bsl 1 (.int .i64 0) 4 [(0, .c (.int .i64 (-1))), (1, .c (.int .i64 0)), (2, .c (.int .i64 300)), (3, .c (.int .i64 301))], none, false, []⟩, ⟨some 30, true, .call (.c (.fn 445 [])) [.t 28, .t 29], none, false, []⟩, ⟨some 31, false, .fa 3 (.t 3), none, false, []⟩, ⟨none, true, .sto 1 (.t 31) (.t 30), none, false, []⟩] [0, 2, 3] [0, 2, 3, 1000]) .skip)))))))))) (.seq (.reg false [⟨some 32, false, .ld (some 4) (.t 3), none, false, []⟩, ⟨none, true, .sto 4 (.t 2) (.t 32), none, false, []⟩] [0, 2] [0, 2, 1000]) .ret)))) }
noncomputable def spec_l10Draw_D : List (Nat × Callee) := [(445, spec_l00Src_among_c), (463, spec_l00Src_pick_c), (843, spec_l10DrawOk_c)]
def spec_l10Draw_H : List (Nat × ET) := [(11, (.one (.int .i64))), (17, (.one (.int .i64))), (23, (.one (.int .i64))), (29, (.one (.int .i64)))]
noncomputable def spec_l10Draw_c : Callee := mkCallee spec_l10Draw_D spec_l10Draw_H spec_l10Draw_ir [.box T_l00Src] [.d T_Neck] [.box T_l00Src]
noncomputable def spec_l10Draw (a0 : T_l00Src.ty) : Option (T_Neck.ty × T_l00Src.ty) := spec_l10Draw_c.f (a0, ())
theorem spec_l10Draw_eq (a0 : T_l00Src.ty) : spec_l10Draw a0 =
    (spec_l10DrawOk a0).bind fun x1 =>
      (spec_l00Src_pick (x1.2.1, x1.2.2.1, x1.2.2.2.1, ()) 20).bind fun x2 =>
        if (x2.1 == 0) then
          (spec_l00Src_among (x2.2.1, x2.2.2.1, x2.2.2.2.1, ()) [99, 100, 10000, 10001]).bind fun x3 =>
            some ((x3.1, x1.1.2.1, x1.1.2.2.1, x1.1.2.2.2.1, ()), (x3.2.1, x3.2.2.1, x3.2.2.2.1, ()))
        else
          if (x2.1 == 1) then
            (spec_l00Src_among (x2.2.1, x2.2.2.1, x2.2.2.2.1, ()) [99, 100, 10000, 10001]).bind fun x4 =>
              some ((x1.1.1, x4.1, x1.1.2.2.1, x1.1.2.2.2.1, ()), (x4.2.1, x4.2.2.1, x4.2.2.2.1, ()))
          else
            if (x2.1 == 2) then
              (spec_l00Src_among (x2.2.1, x2.2.2.1, x2.2.2.2.1, ()) [(-1), 0, 500, 501]).bind fun x5 =>
                some ((x1.1.1, x1.1.2.1, x5.1, x1.1.2.2.2.1, ()), (x5.2.1, x5.2.2.1, x5.2.2.2.1, ()))
            else
              if (x2.1 == 3) then
                (spec_l00Src_among (x2.2.1, x2.2.2.1, x2.2.2.2.1, ()) [(-1), 0, 300, 301]).bind fun x6 =>
                  some ((x1.1.1, x1.1.2.1, x1.1.2.2.1, x6.1, ()), (x6.2.1, x6.2.2.1, x6.2.2.2.1, ()))
              else
                some ((x1.1.1, x1.1.2.1, x1.1.2.2.1, x1.1.2.2.2.1, ()), (x2.2.1, x2.2.2.1, x2.2.2.2.1, ())) :=
  (mk_f _ _ _ _ _ _ _ 4000).trans (by kernel_rfl)

/- (*spec.l00Src).one -/
def spec_l00Src_one_ir : Fn := { np := 2, io := [true, false], res := [.t 4], own := [false], body :=
  (.seq (.reg false [⟨some 4, false, .asg (.c (.bool false)), none, false, []⟩] [0, 1] [0, 1000]) (.seq (.reg false [⟨some 5, false, .mv (.t 0), none, false, []⟩, ⟨some 6, false, .mv (.t 1), none, false, []⟩, ⟨some 7, true, .call (.c (.fn 463 [])) [.t 5, .t 6], none, false, []⟩, ⟨some 8, false, .bin .eql (.t 7) (.c (.int .i64 0)), none, false, []⟩, ⟨some 4, false, .asg (.t 8), none, false, []⟩] [0, 4] [0, 1000]) .ret)) }
noncomputable def spec_l00Src_one_D : List (Nat × Callee) := [(463, spec_l00Src_pick_c)]
def spec_l00Src_one_H : List (Nat × ET) := []
noncomputable def spec_l00Src_one_c : Callee := mkCallee spec_l00Src_one_D spec_l00Src_one_H spec_l00Src_one_ir [.box T_l00Src, .d (.one (.int .i64))] [.d (.one .bool)] [.box T_l00Src]
noncomputable def spec_l00Src_one (a0 : T_l00Src.ty) (a1 : Int) : Option (Bool × T_l00Src.ty) := spec_l00Src_one_c.f (a0, a1, ())
theorem spec_l00Src_one_eq (a0 : T_l00Src.ty) (a1 : Int) : spec_l00Src_one a0 a1 =
    (spec_l00Src_pick a0 a1).bind fun x1 =>
      some ((x1.1 == 0), (x1.2.1, x1.2.2.1, x1.2.2.2.1, ())) :=
  (mk_f _ _ _ _ _ _ _ 4000).trans (by kernel_rfl)

/- spec.l10DrawHeight -/
def spec_l10DrawHeight_ir : Fn := { np := 1, io := [true], res := [.t 2], own := [false], body :=
  (.seq (.reg false [⟨some 2, false, .asg (.c (.int .i64 0)), none, false, []⟩] [0] [0, 1000]) (.seq (.seq (.reg false [⟨some 3, false, .mv (.t 0), none, false, []⟩, ⟨some 4, true, .call (.c (.fn 642 [])) [.t 3, .c (.int .i64 8)], none, false, []⟩] [0, 4] [0, 1000]) (.cond (.t 4) (.seq (.reg false [⟨some 5, false, .mv (.t 0), none, false, []⟩, ⟨some 6, false, .bsl 1 (.int .i64 0) 4 [(0, .c (.int .i64 (-1))), (1, .c (.int .i64 0)), (2, .c (.int .i64 2000)), (3, .c (.int .i64 2001))], none, false, []⟩, ⟨some 7, true, .call (.c (.fn 445 [])) [.t 5, .t 6], none, false, []⟩, ⟨some 2, false, .asg (.t 7), none, false, []⟩] [0, 2] [0, 1000]) .ret) .skip)) (.seq (.reg false [⟨some 8, false, .mv (.t 0), none, false, []⟩, ⟨some 9, true, .call (.c (.fn 463 [])) [.t 8, .c (.int .i64 200)], none, false, []⟩, ⟨some 10, false, .bin .add (.c (.int .i64 200)) (.t 9), none, false, []⟩, ⟨some 2, false, .asg (.t 10), none, false, []⟩] [0, 2] [0, 1000]) .ret))) }
noncomputable def spec_l10DrawHeight_D : List (Nat × Callee) := [(445, spec_l00Src_among_c), (463, spec_l00Src_pick_c), (642, spec_l00Src_one_c)]
def spec_l10DrawHeight_H : List (Nat × ET) := [(6, (.one (.int .i64)))]
noncomputable def spec_l10DrawHeight_c : Callee := mkCallee spec_l10DrawHeight_D spec_l10DrawHeight_H spec_l10DrawHeight_ir [.box T_l00Src] [.d (.one (.int .i64))] [.box T_l00Src]
noncomputable def spec_l10DrawHeight (a0 : T_l00Src.ty) : Option (Int × T_l00Src.ty) := spec_l10DrawHeight_c.f (a0, ())
theorem spec_l10DrawHeight_eq (a0 : T_l00Src.ty) : spec_l10DrawHeight a0 =
    (spec_l00Src_one a0 8).bind fun x1 =>
      if x1.1 then
        (spec_l00Src_among (x1.2.1, x1.2.2.1, x1.2.2.2.1, ()) [(-1), 0, 2000, 2001]).bind fun x2 =>
          some (x2.1, (x2.2.1, x2.2.2.1, x2.2.2.2.1, ()))
      else
        (spec_l00Src_pick (x1.2.1, x1.2.2.1, x1.2.2.2.1, ()) 200).bind fun x3 =>
          some (IntKind.i64.wrap (200 + x3.1), (x3.2.1, x3.2.2.1, x3.2.2.2.1, ())) :=
  (mk_f _ _ _ _ _ _ _ 4000).trans (by kernel_rfl)

/- spec.DrawAngleFor -/
def spec_DrawAngleFor_ir : Fn := { np := 1, io := [], res := [.cell 2 (some 4), .t 3], own := [false, false], body :=
  (.seq (.reg false [⟨some 2, true, .alloc 4 (.agg [.int .i64 0, .int .i64 0, .int .i64 0, .int .i64 0]), none, false, []⟩, ⟨some 3, false, .asg (.c (.int .i64 0)), none, false, []⟩] [0, 2] [2]) (.seq (.reg false [⟨some 6, false, .mv (.t 0), none, false, []⟩, ⟨some 7, true, .call (.c (.fn 441 [])) [.t 6], none, false, []⟩, ⟨some 4, false, .asg (.t 7), none, false, []⟩] [2, 4] [2, 7, 8000]) (.seq (.reg false [⟨some 8, false, .mv (.t 4), none, false, []⟩, ⟨some 9, true, .call (.c (.fn 439 [])) [.t 8], none, false, []⟩, ⟨some 5, true, .alloc 4 (.agg [.int .i64 0, .int .i64 0, .int .i64 0, .int .i64 0]), none, false, []⟩, ⟨none, true, .sto 4 (.t 5) (.t 9), none, false, []⟩] [2, 4, 5] [2, 5, 7, 8000]) (.seq (.reg true [⟨some 10, false, .ld (some 4) (.t 5), none, true, []⟩, ⟨some 11, false, .mv (.t 4), none, false, []⟩, ⟨some 12, true, .call (.c (.fn 446 [])) [.t 11], none, false, [5]⟩, ⟨none, true, .sto 4 (.t 2) (.t 10), none, false, []⟩, ⟨some 3, false, .asg (.t 12), none, false, []⟩] [2, 3] [2]) .ret)))) }
noncomputable def spec_DrawAngleFor_D : List (Nat × Callee) := [(439, spec_l10Draw_c), (441, spec_l00From_c), (446, spec_l10DrawHeight_c)]
def spec_DrawAngleFor_H : List (Nat × ET) := [(6, (.one (.int .u8)))]
noncomputable def spec_DrawAngleFor_c : Callee := mkCallee spec_DrawAngleFor_D spec_DrawAngleFor_H spec_DrawAngleFor_ir [.d (.one (.sl (.one (.int .u8))))] [.d T_Neck, .d (.one (.int .i64))] []
noncomputable def spec_DrawAngleFor (a0 : List Int) : Option (T_Neck.ty × Int) := spec_DrawAngleFor_c.f (a0, ())
theorem spec_DrawAngleFor_eq (a0 : List Int) : spec_DrawAngleFor a0 =
    (spec_l00From a0).bind fun x1 =>
      (spec_l10Draw x1).bind fun x2 =>
        (spec_l10DrawHeight (x2.2.1, x2.2.2.1, x2.2.2.2.1, ())).bind fun x3 =>
          some ((x2.1.1, x2.1.2.1, x2.1.2.2.1, x2.1.2.2.2.1, ()), x3.1) :=
  (mk_f _ _ _ _ _ _ _ 4000).trans (by kernel_rfl)

/- impl.within -/
def impl_within_ir : Fn := { np := 3, io := [], res := [.t 6], own := [false], body :=
  (.seq (.reg false [⟨some 6, false, .asg (.c (.bool false)), none, false, []⟩] [0, 1, 2] []) (.seq (.reg false [⟨some 7, false, .mv (.t 1), none, false, []⟩, ⟨some 8, false, .mv (.t 0), none, false, []⟩, ⟨some 9, false, .bin .leq (.t 7) (.t 8), none, false, []⟩, ⟨some 10, false, .mv (.t 9), none, false, []⟩, ⟨some 11, false, .mv (.t 0), some (3, true), false, []⟩, ⟨some 12, false, .mv (.t 2), some (3, true), false, []⟩, ⟨some 13, false, .bin .leq (.t 11) (.t 12), some (3, true), false, []⟩, ⟨some 14, false, .pick (.t 10) (.t 13) (.c (.bool false)), none, false, []⟩, ⟨some 6, false, .asg (.t 14), none, false, []⟩] [6] []) .ret)) }
noncomputable def impl_within_D : List (Nat × Callee) := []
def impl_within_H : List (Nat × ET) := []
noncomputable def impl_within_c : Callee := mkCallee impl_within_D impl_within_H impl_within_ir [.d (.one (.int .i64)), .d (.one (.int .i64)), .d (.one (.int .i64))] [.d (.one .bool)] []
noncomputable def impl_within (a0 : Int) (a1 : Int) (a2 : Int) : Option (Bool) := impl_within_c.f (a0, a1, a2, ())
theorem impl_within_eq (a0 : Int) (a1 : Int) (a2 : Int) : impl_within a0 a1 a2 =
    if decide (a1 ≤ a0) then
      some (decide (a0 ≤ a2))
    else
      some false :=
  (mk_f _ _ _ _ _ _ _ 4000).trans (by kernel_rfl)

/- impl.ValidNeck -/
def impl_ValidNeck_ir : Fn := { np := 1, io := [], res := [.t 2], own := [false], body :=
  (.seq (.reg false [⟨some 1, true, .box 4 (.t 0), none, false, []⟩, ⟨some 2, false, .asg (.c (.bool false)), none, false, []⟩] [1] [1]) (.seq (.reg false [⟨some 3, false, .fa 0 (.t 1), none, false, []⟩, ⟨some 4, false, .ld none (.t 3), none, false, []⟩, ⟨some 5, false, .call (.c (.fn 23 [])) [.t 4, .c (.int .i64 100), .c (.int .i64 10000)], none, false, []⟩, ⟨some 6, false, .mv (.t 5), none, false, []⟩, ⟨some 7, false, .fa 1 (.t 1), some (3, true), false, []⟩, ⟨some 8, false, .ld none (.t 7), some (3, true), false, []⟩, ⟨some 9, false, .call (.c (.fn 23 [])) [.t 8, .c (.int .i64 100), .c (.int .i64 10000)], some (3, true), false, []⟩, ⟨some 10, false, .pick (.t 6) (.t 9) (.c (.bool false)), none, false, []⟩, ⟨some 11, false, .mv (.t 10), none, false, []⟩, ⟨some 12, false, .fa 2 (.t 1), some (8, true), false, []⟩, ⟨some 13, false, .ld none (.t 12), some (8, true), false, []⟩, ⟨some 14, false, .call (.c (.fn 23 [])) [.t 13, .c (.int .i64 0), .c (.int .i64 500)], some (8, true), false, []⟩, ⟨some 15, false, .pick (.t 11) (.t 14) (.c (.bool false)), none, false, []⟩, ⟨some 16, false, .mv (.t 15), none, false, []⟩, ⟨some 17, false, .fa 3 (.t 1), some (13, true), false, []⟩, ⟨some 18, false, .ld none (.t 17), some (13, true), false, []⟩, ⟨some 19, false, .call (.c (.fn 23 [])) [.t 18, .c (.int .i64 0), .c (.int .i64 300)], some (13, true), false, []⟩, ⟨some 20, false, .pick (.t 16) (.t 19) (.c (.bool false)), none, false, []⟩, ⟨some 2, false, .asg (.t 20), none, false, []⟩] [2] []) .ret)) }
noncomputable def impl_ValidNeck_D : List (Nat × Callee) := [(23, impl_within_c)]
def impl_ValidNeck_H : List (Nat × ET) := []
noncomputable def impl_ValidNeck_c : Callee := mkCallee impl_ValidNeck_D impl_ValidNeck_H impl_ValidNeck_ir [.d T_Neck] [.d (.one .bool)] []
noncomputable def impl_ValidNeck (a0 : T_Neck.ty) : Option (Bool) := impl_ValidNeck_c.f (a0, ())
theorem impl_ValidNeck_eq (a0 : T_Neck.ty) : impl_ValidNeck a0 =
    (impl_within a0.1 100 10000).bind fun x1 =>
      if x1 then
        (impl_within a0.2.1 100 10000).bind fun x2 =>
          if x2 then
            (impl_within a0.2.2.1 0 500).bind fun x3 =>
              if x3 then
                (impl_within a0.2.2.2.1 0 300).bind fun x4 =>
                  some x4
              else
                some false
          else
            some false
      else
        some false :=
  (mk_f _ _ _ _ _ _ _ 4000).trans (by kernel_rfl)

/- impl.isHeight -/
def impl_isHeight_ir : Fn := { np := 1, io := [], res := [.t 2], own := [false], body :=
  (.seq (.reg false [⟨some 2, false, .asg (.c (.bool false)), none, false, []⟩] [0] []) (.seq (.reg false [⟨some 3, false, .mv (.t 0), none, false, []⟩, ⟨some 4, false, .call (.c (.fn 23 [])) [.t 3, .c (.int .i64 0), .c (.int .i64 2000)], none, false, []⟩, ⟨some 2, false, .asg (.t 4), none, false, []⟩] [2] []) .ret)) }
noncomputable def impl_isHeight_D : List (Nat × Callee) := [(23, impl_within_c)]
def impl_isHeight_H : List (Nat × ET) := []
noncomputable def impl_isHeight_c : Callee := mkCallee impl_isHeight_D impl_isHeight_H impl_isHeight_ir [.d (.one (.int .i64))] [.d (.one .bool)] []
noncomputable def impl_isHeight (a0 : Int) : Option (Bool) := impl_isHeight_c.f (a0, ())
theorem impl_isHeight_eq (a0 : Int) : impl_isHeight a0 =
    (impl_within a0 0 2000).bind fun x1 =>
      some x1 :=
  (mk_f _ _ _ _ _ _ _ 4000).trans (by kernel_rfl)

/- impl.divRound -/
def impl_divRound_ir : Fn := { np := 2, io := [], res := [.t 4], own := [false], body :=
  (.seq (.reg false [⟨some 4, false, .asg (.c (.int .i64 0)), none, false, []⟩] [0, 1] []) (.seq (.reg false [⟨some 8, false, .mv (.t 0), none, false, []⟩, ⟨some 9, false, .bin .lss (.t 8) (.c (.int .i64 0)), none, false, []⟩, ⟨some 10, false, .mv (.t 1), none, false, []⟩, ⟨some 11, false, .bin .lss (.t 10) (.c (.int .i64 0)), none, false, []⟩, ⟨some 12, false, .eqb true (.t 9) (.t 11), none, false, []⟩, ⟨some 5, false, .asg (.t 12), none, false, []⟩] [0, 1, 5] []) (.seq (.reg false [⟨some 13, false, .mv (.t 0), none, false, []⟩, ⟨some 14, false, .mv (.t 0), none, false, []⟩, ⟨some 15, false, .un .neg (.t 14), none, false, []⟩, ⟨some 16, false, .max [.t 13, .t 15], none, false, []⟩, ⟨some 17, false, .mv (.t 1), none, false, []⟩, ⟨some 18, false, .mv (.t 1), none, false, []⟩, ⟨some 19, false, .un .neg (.t 18), none, false, []⟩, ⟨some 20, false, .max [.t 17, .t 19], none, false, []⟩, ⟨some 0, false, .asg (.t 16), none, false, []⟩, ⟨some 1, false, .asg (.t 20), none, false, []⟩] [0, 1, 5] []) (.seq (.reg false [⟨some 21, false, .mv (.t 0), none, false, []⟩, ⟨some 22, false, .mv (.t 1), none, false, []⟩, ⟨some 23, false, .bin .quo (.t 21) (.t 22), none, false, []⟩, ⟨some 6, false, .asg (.t 23), none, false, []⟩] [0, 1, 5, 6] []) (.seq (.seq (.reg false [⟨some 24, false, .mv (.t 0), none, false, []⟩, ⟨some 25, false, .mv (.t 1), none, false, []⟩, ⟨some 26, false, .bin .rem (.t 24) (.t 25), none, false, []⟩, ⟨some 7, false, .asg (.t 26), none, false, []⟩] [1, 5, 6, 7] []) (.seq (.reg false [⟨some 27, false, .mv (.t 7), none, false, []⟩, ⟨some 28, false, .mv (.t 1), none, false, []⟩, ⟨some 29, false, .mv (.t 7), none, false, []⟩, ⟨some 30, false, .bin .sub (.t 28) (.t 29), none, false, []⟩, ⟨some 31, false, .bin .geq (.t 27) (.t 30), none, false, []⟩] [5, 6, 31] []) (.cond (.t 31) (.reg false [⟨some 32, false, .mv (.t 6), none, false, []⟩, ⟨some 33, false, .bin .add (.t 32) (.c (.int .i64 1)), none, false, []⟩, ⟨some 6, false, .asg (.t 33), none, false, []⟩] [5, 6] []) .skip))) (.seq (.seq (.reg false [⟨some 34, false, .mv (.t 5), none, false, []⟩] [6, 34] []) (.cond (.t 34) (.seq (.reg false [⟨some 35, false, .mv (.t 6), none, false, []⟩, ⟨some 36, false, .un .neg (.t 35), none, false, []⟩, ⟨some 4, false, .asg (.t 36), none, false, []⟩] [4] []) .ret) .skip)) (.seq (.reg false [⟨some 37, false, .mv (.t 6), none, false, []⟩, ⟨some 4, false, .asg (.t 37), none, false, []⟩] [4] []) .ret))))))) }
noncomputable def impl_divRound_D : List (Nat × Callee) := []
def impl_divRound_H : List (Nat × ET) := []
noncomputable def impl_divRound_c : Callee := mkCallee impl_divRound_D impl_divRound_H impl_divRound_ir [.d (.one (.int .i64)), .d (.one (.int .i64))] [.d (.one (.int .i64))] []
noncomputable def impl_divRound (a0 : Int) (a1 : Int) : Option (Int) := impl_divRound_c.f (a0, a1, ())
theorem impl_divRound_eq (a0 : Int) (a1 : Int) : impl_divRound a0 a1 =
    if decide ((if IntKind.i64.wrap (0 - a1) > a1 then IntKind.i64.wrap (0 - a1) else a1) = 0) then
      none
    else
      if decide ((if IntKind.i64.wrap (0 - a1) > a1 then IntKind.i64.wrap (0 - a1) else a1) = 0) then
        none
      else
        if decide ((if IntKind.i64.wrap (0 - a0) > a0 then IntKind.i64.wrap (0 - a0) else a0).tmod (if IntKind.i64.wrap (0 - a1) > a1 then IntKind.i64.wrap (0 - a1) else a1) ≥ IntKind.i64.wrap ((if IntKind.i64.wrap (0 - a1) > a1 then IntKind.i64.wrap (0 - a1) else a1) - ((if IntKind.i64.wrap (0 - a0) > a0 then IntKind.i64.wrap (0 - a0) else a0).tmod (if IntKind.i64.wrap (0 - a1) > a1 then IntKind.i64.wrap (0 - a1) else a1)))) then
          if (!(decide (a0 < 0) == decide (a1 < 0))) then
            some (IntKind.i64.wrap (0 - (IntKind.i64.wrap ((IntKind.i64.wrap ((if IntKind.i64.wrap (0 - a0) > a0 then IntKind.i64.wrap (0 - a0) else a0).tdiv (if IntKind.i64.wrap (0 - a1) > a1 then IntKind.i64.wrap (0 - a1) else a1))) + 1))))
          else
            some (IntKind.i64.wrap ((IntKind.i64.wrap ((if IntKind.i64.wrap (0 - a0) > a0 then IntKind.i64.wrap (0 - a0) else a0).tdiv (if IntKind.i64.wrap (0 - a1) > a1 then IntKind.i64.wrap (0 - a1) else a1))) + 1))
        else
          if (!(decide (a0 < 0) == decide (a1 < 0))) then
            some (IntKind.i64.wrap (0 - (IntKind.i64.wrap ((if IntKind.i64.wrap (0 - a0) > a0 then IntKind.i64.wrap (0 - a0) else a0).tdiv (if IntKind.i64.wrap (0 - a1) > a1 then IntKind.i64.wrap (0 - a1) else a1)))))
          else
            some (IntKind.i64.wrap ((if IntKind.i64.wrap (0 - a0) > a0 then IntKind.i64.wrap (0 - a0) else a0).tdiv (if IntKind.i64.wrap (0 - a1) > a1 then IntKind.i64.wrap (0 - a1) else a1))) :=
  (mk_f _ _ _ _ _ _ _ 4000).trans (by kernel_rfl)

/- (impl.Neck).projection -/
def impl_Neck_projection_ir : Fn := { np := 1, io := [], res := [.t 2], own := [false], body :=
  (.seq (.reg false [⟨some 1, true, .box 4 (.t 0), none, false, []⟩, ⟨some 2, false, .asg (.c (.int .i64 0)), none, false, []⟩] [1] [1]) (.seq (.reg true [⟨some 3, false, .fa 2 (.t 1), none, false, []⟩, ⟨some 4, false, .ld none (.t 3), none, false, []⟩, ⟨some 5, false, .fa 1 (.t 1), none, false, []⟩, ⟨some 6, false, .ld none (.t 5), none, false, []⟩, ⟨some 7, false, .fa 3 (.t 1), none, false, []⟩, ⟨some 8, false, .ld none (.t 7), none, false, []⟩, ⟨some 9, false, .bin .mul (.t 6) (.t 8), none, false, []⟩, ⟨some 10, false, .call (.c (.fn 27 [])) [.t 9, .c (.int .i64 1000)], none, false, []⟩, ⟨some 11, false, .bin .add (.t 4) (.t 10), none, false, []⟩, ⟨some 2, false, .asg (.t 11), none, false, []⟩] [2] []) .ret)) }
noncomputable def impl_Neck_projection_D : List (Nat × Callee) := [(27, impl_divRound_c)]
def impl_Neck_projection_H : List (Nat × ET) := []
noncomputable def impl_Neck_projection_c : Callee := mkCallee impl_Neck_projection_D impl_Neck_projection_H impl_Neck_projection_ir [.d T_Neck] [.d (.one (.int .i64))] []
noncomputable def impl_Neck_projection (a0 : T_Neck.ty) : Option (Int) := impl_Neck_projection_c.f (a0, ())
theorem impl_Neck_projection_eq (a0 : T_Neck.ty) : impl_Neck_projection a0 =
    (impl_divRound (IntKind.i64.wrap (a0.2.1 * a0.2.2.2.1)) 1000).bind fun x1 =>
      some (IntKind.i64.wrap (a0.2.2.1 + x1)) :=
  (mk_f _ _ _ _ _ _ _ 4000).trans (by kernel_rfl)

/- impl.AngleFor -/
def impl_AngleFor_k0 : C :=
  .seq (.seq (.reg false [⟨some 13, false, .fa 3 (.t 2), none, false, []⟩, ⟨some 14, false, .ld none (.t 13), none, false, []⟩, ⟨some 15, false, .bin .leq (.t 14) (.c (.int .i64 300)), none, false, []⟩] [1, 2, 15] [2]) (.cond (.t 15) .skip (.exit 0))) (.seq (.block 1 (.seq (.reg false [⟨some 20, false, .ld (some 4) (.t 2), none, false, []⟩, ⟨some 21, false, .call (.c (.fn 447 [])) [.t 20], none, false, []⟩, ⟨some 22, false, .mv (.t 1), none, false, []⟩, ⟨some 23, false, .bin .geq (.t 21) (.t 22), none, false, []⟩] [1, 2, 23] [2]) (.cond (.t 23) (.seq (.reg false [⟨some 24, false, .fa 3 (.t 2), none, false, []⟩, ⟨some 25, false, .ld none (.t 24), none, false, []⟩, ⟨some 4, false, .asg (.t 25), none, false, []⟩, ⟨some 5, false, .asg (.c (.int .i64 0)), none, false, []⟩] [4, 5] []) .ret) .skip))) (.reg false [⟨some 16, false, .fa 3 (.t 2), none, false, []⟩, ⟨some 17, false, .ld none (.t 16), none, false, []⟩, ⟨some 18, false, .bin .add (.t 17) (.c (.int .i64 1)), none, false, []⟩, ⟨some 19, false, .fa 3 (.t 2), none, false, []⟩, ⟨none, true, .sto 1 (.t 19) (.t 18), none, false, []⟩] [1, 2] [2]))
def impl_AngleFor_k1 : C :=
  .norm [1, 2] [2] impl_AngleFor_k0
def impl_AngleFor_k2 : C :=
  .seq (.reg false [⟨some 4, false, .asg (.c (.int .i64 0)), none, false, []⟩, ⟨some 5, false, .asg (.c (.int .i64 3)), none, false, []⟩] [4, 5] []) .ret
def impl_AngleFor_ir : Fn := { np := 2, io := [], res := [.t 4, .t 5], own := [false, false], body :=
  (.seq (.reg false [⟨some 2, true, .box 4 (.t 0), none, false, []⟩, ⟨some 4, false, .asg (.c (.int .i64 0)), none, false, []⟩, ⟨some 5, false, .asg (.c (.int .i64 0)), none, false, []⟩] [1, 2] [2]) (.seq (.seq (.reg false [⟨some 6, false, .ld (some 4) (.t 2), none, false, []⟩, ⟨some 7, false, .call (.c (.fn 444 [])) [.t 6], none, false, []⟩, ⟨some 8, false, .un .not (.t 7), none, false, []⟩] [1, 2, 8] [2]) (.cond (.t 8) (.seq (.reg false [⟨some 4, false, .asg (.c (.int .i64 0)), none, false, []⟩, ⟨some 5, false, .asg (.c (.int .i64 1)), none, false, []⟩] [4, 5] []) .ret) .skip)) (.seq (.seq (.reg false [⟨some 9, false, .mv (.t 1), none, false, []⟩, ⟨some 10, false, .call (.c (.fn 449 [])) [.t 9], none, false, []⟩, ⟨some 11, false, .un .not (.t 10), none, false, []⟩] [1, 2, 11] [2]) (.cond (.t 11) (.seq (.reg false [⟨some 4, false, .asg (.c (.int .i64 0)), none, false, []⟩, ⟨some 5, false, .asg (.c (.int .i64 2)), none, false, []⟩] [4, 5] []) .ret) .skip)) (.seq (.seq (.reg false [⟨some 12, false, .fa 3 (.t 2), none, false, []⟩, ⟨none, true, .sto 1 (.t 12) (.c (.int .i64 0)), none, false, []⟩] [1, 2] [2]) (.block 0 (.loop impl_AngleFor_k1))) impl_AngleFor_k2)))) }
noncomputable def impl_AngleFor_D : List (Nat × Callee) := [(444, impl_ValidNeck_c), (447, impl_Neck_projection_c), (449, impl_isHeight_c)]
def impl_AngleFor_H : List (Nat × ET) := []
noncomputable def impl_AngleFor_c : Callee := mkCallee impl_AngleFor_D impl_AngleFor_H impl_AngleFor_ir [.d T_Neck, .d (.one (.int .i64))] [.d (.one (.int .i64)), .d (.one (.int .i64))] []
noncomputable def impl_AngleFor (a0 : T_Neck.ty) (a1 : Int) : Option (Int × Int) := impl_AngleFor_c.f (a0, a1, ())
noncomputable def impl_AngleFor_p0  (v1 : Int) (r2_0 : Int) (r2_1 : Int) (r2_2 : Int) (r2_3 : Int) : Option (Int × Int) :=
  goL impl_AngleFor_D impl_AngleFor_H (vleave impl_AngleFor_ir [.d T_Neck, .d (.one (.int .i64))] [.d (.one (.int .i64)), .d (.one (.int .i64))] [] []) [.c impl_AngleFor_k0, .l impl_AngleFor_k1, .e 0, .c impl_AngleFor_k2]
    ⟨[(1, .int .i64 v1), (2, .loc 2 0 0)], [(2, some (.var 4 (.agg [.int .i64 r2_0, .int .i64 r2_1, .int .i64 r2_2, .int .i64 r2_3])))]⟩
theorem impl_AngleFor_eq (a0 : T_Neck.ty) (a1 : Int) : impl_AngleFor a0 a1 =
    (impl_ValidNeck a0).bind fun x1 =>
      if (!x1) then
        some (0, 1)
      else
        (impl_isHeight a1).bind fun x2 =>
          if (!x2) then
            some (0, 2)
          else
            impl_AngleFor_p0 a1 a0.1 a0.2.1 a0.2.2.1 0 :=
  (mk_f _ _ _ _ _ _ _ 4000).trans (by kernel_rfl)
theorem impl_AngleFor_p0_eq  (v1 : Int) (r2_0 : Int) (r2_1 : Int) (r2_2 : Int) (r2_3 : Int) : impl_AngleFor_p0 v1 r2_0 r2_1 r2_2 r2_3 =
    if decide (r2_3 ≤ 300) then
      (impl_Neck_projection (r2_0, r2_1, r2_2, r2_3, ())).bind fun x1 =>
        if decide (x1 ≥ v1) then
          some (r2_3, 0)
        else
          impl_AngleFor_p0 v1 r2_0 r2_1 r2_2 (IntKind.i64.wrap (r2_3 + 1))
    else
      some (0, 3) :=
  (goL_dn _ _ _ 4000 _ _).trans (by kernel_rfl)

/- impl.ProjectionOf -/
def impl_ProjectionOf_ir : Fn := { np := 1, io := [], res := [.t 2, .t 3], own := [false, false], body :=
  (.seq (.reg false [⟨some 1, true, .box 4 (.t 0), none, false, []⟩, ⟨some 2, false, .asg (.c (.int .i64 0)), none, false, []⟩, ⟨some 3, false, .asg (.c (.int .i64 0)), none, false, []⟩] [1] [1]) (.seq (.seq (.reg false [⟨some 4, false, .ld (some 4) (.t 1), none, false, []⟩, ⟨some 5, false, .call (.c (.fn 444 [])) [.t 4], none, false, []⟩, ⟨some 6, false, .un .not (.t 5), none, false, []⟩] [1, 6] [1]) (.cond (.t 6) (.seq (.reg false [⟨some 2, false, .asg (.c (.int .i64 0)), none, false, []⟩, ⟨some 3, false, .asg (.c (.int .i64 1)), none, false, []⟩] [2, 3] []) .ret) .skip)) (.seq (.reg false [⟨some 7, false, .ld (some 4) (.t 1), none, false, []⟩, ⟨some 8, false, .call (.c (.fn 447 [])) [.t 7], none, false, []⟩, ⟨some 2, false, .asg (.t 8), none, false, []⟩, ⟨some 3, false, .asg (.c (.int .i64 0)), none, false, []⟩] [2, 3] []) .ret))) }
noncomputable def impl_ProjectionOf_D : List (Nat × Callee) := [(444, impl_ValidNeck_c), (447, impl_Neck_projection_c)]
def impl_ProjectionOf_H : List (Nat × ET) := []
noncomputable def impl_ProjectionOf_c : Callee := mkCallee impl_ProjectionOf_D impl_ProjectionOf_H impl_ProjectionOf_ir [.d T_Neck] [.d (.one (.int .i64)), .d (.one (.int .i64))] []
noncomputable def impl_ProjectionOf (a0 : T_Neck.ty) : Option (Int × Int) := impl_ProjectionOf_c.f (a0, ())
theorem impl_ProjectionOf_eq (a0 : T_Neck.ty) : impl_ProjectionOf a0 =
    (impl_ValidNeck a0).bind fun x1 =>
      if (!x1) then
        some (0, 1)
      else
        (impl_Neck_projection a0).bind fun x2 =>
          some (x2, 0) :=
  (mk_f _ _ _ _ _ _ _ 4000).trans (by kernel_rfl)

/- spec.DrawShimFor -/
def spec_DrawShimFor_ir : Fn := { np := 1, io := [], res := [.cell 2 (some 4), .t 3, .t 4], own := [false, false, false], body :=
  (.seq (.reg false [⟨some 2, true, .alloc 4 (.agg [.int .i64 0, .int .i64 0, .int .i64 0, .int .i64 0]), none, false, []⟩, ⟨some 3, false, .asg (.c (.int .i64 0)), none, false, []⟩, ⟨some 4, false, .asg (.c (.int .i64 0)), none, false, []⟩] [0, 2] [2]) (.seq (.reg false [⟨some 8, false, .mv (.t 0), none, false, []⟩, ⟨some 9, true, .call (.c (.fn 441 [])) [.t 8], none, false, []⟩, ⟨some 5, false, .asg (.t 9), none, false, []⟩] [2, 5] [2, 9, 10000]) (.seq (.reg false [⟨some 10, false, .mv (.t 5), none, false, []⟩, ⟨some 11, true, .call (.c (.fn 439 [])) [.t 10], none, false, []⟩, ⟨some 6, true, .alloc 4 (.agg [.int .i64 0, .int .i64 0, .int .i64 0, .int .i64 0]), none, false, []⟩, ⟨none, true, .sto 4 (.t 6) (.t 11), none, false, []⟩] [2, 5, 6] [2, 6, 9, 10000]) (.seq (.reg false [⟨some 12, false, .mv (.t 5), none, false, []⟩, ⟨some 13, true, .call (.c (.fn 446 [])) [.t 12], none, false, []⟩, ⟨some 7, false, .asg (.t 13), none, false, []⟩] [2, 5, 6, 7] [2, 6, 9, 10000]) (.seq (.reg true [⟨some 14, false, .ld (some 4) (.t 6), none, true, []⟩, ⟨some 15, false, .mv (.t 7), none, false, []⟩, ⟨some 16, false, .mv (.t 5), none, false, []⟩, ⟨some 17, false, .bsl 1 (.int .i64 0) 6 [(0, .c (.int .i64 0)), (1, .c (.int .i64 1)), (2, .c (.int .i64 60)), (3, .c (.int .i64 250)), (4, .c (.int .i64 1000)), (5, .c (.int .i64 1001))], none, false, []⟩, ⟨some 18, true, .call (.c (.fn 445 [])) [.t 16, .t 17], none, false, [6, 7]⟩, ⟨none, true, .sto 4 (.t 2) (.t 14), none, false, [7]⟩, ⟨some 3, false, .asg (.t 15), none, false, []⟩, ⟨some 4, false, .asg (.t 18), none, false, []⟩] [2, 3, 4] [2]) .ret))))) }
noncomputable def spec_DrawShimFor_D : List (Nat × Callee) := [(439, spec_l10Draw_c), (441, spec_l00From_c), (445, spec_l00Src_among_c), (446, spec_l10DrawHeight_c)]
def spec_DrawShimFor_H : List (Nat × ET) := [(8, (.one (.int .u8))), (17, (.one (.int .i64)))]
noncomputable def spec_DrawShimFor_c : Callee := mkCallee spec_DrawShimFor_D spec_DrawShimFor_H spec_DrawShimFor_ir [.d (.one (.sl (.one (.int .u8))))] [.d T_Neck, .d (.one (.int .i64)), .d (.one (.int .i64))] []
noncomputable def spec_DrawShimFor (a0 : List Int) : Option (T_Neck.ty × Int × Int) := spec_DrawShimFor_c.f (a0, ())
theorem spec_DrawShimFor_eq (a0 : List Int) : spec_DrawShimFor a0 =
    (spec_l00From a0).bind fun x1 =>
      (spec_l10Draw x1).bind fun x2 =>
        (spec_l10DrawHeight (x2.2.1, x2.2.2.1, x2.2.2.2.1, ())).bind fun x3 =>
          (spec_l00Src_among (x3.2.1, x3.2.2.1, x3.2.2.2.1, ()) [0, 1, 60, 250, 1000, 1001]).bind fun x4 =>
            some ((x2.1.1, x2.1.2.1, x2.1.2.2.1, x2.1.2.2.2.1, ()), x3.1, x4.1) :=
  (mk_f _ _ _ _ _ _ _ 4000).trans (by kernel_rfl)

/- impl.ShimFor -/
def impl_ShimFor_k0 : C :=
  .seq (.seq (.reg false [⟨some 23, false, .mv (.t 9), none, false, []⟩, ⟨some 24, false, .bin .leq (.t 23) (.c (.int .i64 200)), none, false, []⟩] [1, 2, 3, 8, 9, 24] [3]) (.cond (.t 24) .skip (.exit 0))) (.seq (.block 1 (.seq (.reg false [⟨some 27, false, .mv (.t 8), none, false, []⟩, ⟨some 28, false, .mv (.t 9), none, false, []⟩, ⟨some 29, false, .bin .mul (.c (.int .i64 1000)) (.t 28), none, false, []⟩, ⟨some 30, false, .mv (.t 2), none, false, []⟩, ⟨some 31, false, .call (.c (.fn 27 [])) [.t 29, .t 30], none, false, []⟩, ⟨some 32, false, .bin .add (.t 27) (.t 31), none, false, []⟩, ⟨some 33, false, .fa 3 (.t 3), none, false, []⟩, ⟨none, true, .sto 1 (.t 33) (.t 32), none, false, []⟩] [1, 2, 3, 8, 9] [3]) (.seq (.reg false [⟨some 34, false, .ld (some 4) (.t 3), none, false, []⟩, ⟨some 35, false, .call (.c (.fn 447 [])) [.t 34], none, false, []⟩, ⟨some 36, false, .mv (.t 1), none, false, []⟩, ⟨some 37, false, .bin .geq (.t 35) (.t 36), none, false, []⟩] [1, 2, 3, 8, 9, 37] [3]) (.cond (.t 37) (.seq (.reg false [⟨some 38, false, .mv (.t 9), none, false, []⟩, ⟨some 6, false, .asg (.t 38), none, false, []⟩, ⟨some 7, false, .asg (.c (.int .i64 0)), none, false, []⟩] [6, 7] []) .ret) .skip)))) (.reg false [⟨some 25, false, .mv (.t 9), none, false, []⟩, ⟨some 26, false, .bin .add (.t 25) (.c (.int .i64 1)), none, false, []⟩, ⟨some 9, false, .asg (.t 26), none, false, []⟩] [1, 2, 3, 8, 9] [3]))
def impl_ShimFor_k1 : C :=
  .norm [1, 2, 3, 8, 9] [3] impl_ShimFor_k0
def impl_ShimFor_k2 : C :=
  .seq (.reg false [⟨some 6, false, .asg (.c (.int .i64 0)), none, false, []⟩, ⟨some 7, false, .asg (.c (.int .i64 3)), none, false, []⟩] [6, 7] []) .ret
def impl_ShimFor_k3 : C :=
  .seq (.reg false [⟨some 21, false, .fa 3 (.t 3), none, false, []⟩, ⟨some 22, false, .ld none (.t 21), none, false, []⟩, ⟨some 8, false, .asg (.t 22), none, false, []⟩] [1, 2, 3, 8] [3]) (.seq (.seq (.reg false [⟨some 9, false, .asg (.c (.int .i64 0)), none, false, []⟩] [1, 2, 3, 8, 9] [3]) (.block 0 (.loop impl_ShimFor_k1))) impl_ShimFor_k2)
def impl_ShimFor_ir : Fn := { np := 3, io := [], res := [.t 6, .t 7], own := [false, false], body :=
  (.seq (.reg false [⟨some 3, true, .box 4 (.t 0), none, false, []⟩, ⟨some 6, false, .asg (.c (.int .i64 0)), none, false, []⟩, ⟨some 7, false, .asg (.c (.int .i64 0)), none, false, []⟩] [1, 2, 3] [3]) (.seq (.seq (.reg false [⟨some 10, false, .ld (some 4) (.t 3), none, false, []⟩, ⟨some 11, false, .call (.c (.fn 444 [])) [.t 10], none, false, []⟩, ⟨some 12, false, .un .not (.t 11), none, false, []⟩] [1, 2, 3, 12] [3]) (.cond (.t 12) (.seq (.reg false [⟨some 6, false, .asg (.c (.int .i64 0)), none, false, []⟩, ⟨some 7, false, .asg (.c (.int .i64 1)), none, false, []⟩] [6, 7] []) .ret) .skip)) (.seq (.seq (.reg false [⟨some 13, false, .mv (.t 1), none, false, []⟩, ⟨some 14, false, .call (.c (.fn 449 [])) [.t 13], none, false, []⟩, ⟨some 15, false, .un .not (.t 14), none, false, []⟩, ⟨some 16, false, .mv (.t 15), none, false, []⟩, ⟨some 17, false, .mv (.t 2), some (3, false), false, []⟩, ⟨some 18, false, .call (.c (.fn 23 [])) [.t 17, .c (.int .i64 1), .c (.int .i64 1000)], some (3, false), false, []⟩, ⟨some 19, false, .un .not (.t 18), some (3, false), false, []⟩, ⟨some 20, false, .pick (.t 16) (.c (.bool true)) (.t 19), none, false, []⟩] [1, 2, 3, 20] [3]) (.cond (.t 20) (.seq (.reg false [⟨some 6, false, .asg (.c (.int .i64 0)), none, false, []⟩, ⟨some 7, false, .asg (.c (.int .i64 2)), none, false, []⟩] [6, 7] []) .ret) .skip)) (.norm [1, 2, 3] [3] impl_ShimFor_k3)))) }
noncomputable def impl_ShimFor_D : List (Nat × Callee) := [(23, impl_within_c), (27, impl_divRound_c), (444, impl_ValidNeck_c), (447, impl_Neck_projection_c), (449, impl_isHeight_c)]
def impl_ShimFor_H : List (Nat × ET) := []
noncomputable def impl_ShimFor_c : Callee := mkCallee impl_ShimFor_D impl_ShimFor_H impl_ShimFor_ir [.d T_Neck, .d (.one (.int .i64)), .d (.one (.int .i64))] [.d (.one (.int .i64)), .d (.one (.int .i64))] []
noncomputable def impl_ShimFor (a0 : T_Neck.ty) (a1 : Int) (a2 : Int) : Option (Int × Int) := impl_ShimFor_c.f (a0, a1, a2, ())
noncomputable def impl_ShimFor_p0  (v1 : Int) (v2 : Int) (r3_0 : Int) (r3_1 : Int) (r3_2 : Int) (r3_3 : Int) : Option (Int × Int) :=
  goL impl_ShimFor_D impl_ShimFor_H (vleave impl_ShimFor_ir [.d T_Neck, .d (.one (.int .i64)), .d (.one (.int .i64))] [.d (.one (.int .i64)), .d (.one (.int .i64))] [] []) [.c impl_ShimFor_k3]
    ⟨[(1, .int .i64 v1), (2, .int .i64 v2), (3, .loc 3 0 0)], [(3, some (.var 4 (.agg [.int .i64 r3_0, .int .i64 r3_1, .int .i64 r3_2, .int .i64 r3_3])))]⟩
noncomputable def impl_ShimFor_p1  (v1 : Int) (v2 : Int) (v8 : Int) (v9 : Int) (r3_0 : Int) (r3_1 : Int) (r3_2 : Int) (r3_3 : Int) : Option (Int × Int) :=
  goL impl_ShimFor_D impl_ShimFor_H (vleave impl_ShimFor_ir [.d T_Neck, .d (.one (.int .i64)), .d (.one (.int .i64))] [.d (.one (.int .i64)), .d (.one (.int .i64))] [] []) [.c impl_ShimFor_k0, .l impl_ShimFor_k1, .e 0, .c impl_ShimFor_k2]
    ⟨[(1, .int .i64 v1), (2, .int .i64 v2), (3, .loc 3 0 0), (8, .int .i64 v8), (9, .int .i64 v9)], [(3, some (.var 4 (.agg [.int .i64 r3_0, .int .i64 r3_1, .int .i64 r3_2, .int .i64 r3_3])))]⟩
theorem impl_ShimFor_eq (a0 : T_Neck.ty) (a1 : Int) (a2 : Int) : impl_ShimFor a0 a1 a2 =
    (impl_ValidNeck a0).bind fun x1 =>
      if (!x1) then
        some (0, 1)
      else
        (impl_isHeight a1).bind fun x2 =>
          if (!x2) then
            some (0, 2)
          else
            (impl_within a2 1 1000).bind fun x3 =>
              if (!x3) then
                some (0, 2)
              else
                impl_ShimFor_p0 a1 a2 a0.1 a0.2.1 a0.2.2.1 a0.2.2.2.1 :=
  (mk_f _ _ _ _ _ _ _ 4000).trans (by kernel_rfl)
theorem impl_ShimFor_p0_eq  (v1 : Int) (v2 : Int) (r3_0 : Int) (r3_1 : Int) (r3_2 : Int) (r3_3 : Int) : impl_ShimFor_p0 v1 v2 r3_0 r3_1 r3_2 r3_3 =
    impl_ShimFor_p1 v1 v2 r3_3 0 r3_0 r3_1 r3_2 r3_3 :=
  (goL_dn _ _ _ 4000 _ _).trans (by kernel_rfl)
theorem impl_ShimFor_p1_eq  (v1 : Int) (v2 : Int) (v8 : Int) (v9 : Int) (r3_0 : Int) (r3_1 : Int) (r3_2 : Int) (r3_3 : Int) : impl_ShimFor_p1 v1 v2 v8 v9 r3_0 r3_1 r3_2 r3_3 =
    if decide (v9 ≤ 200) then
      (impl_divRound (IntKind.i64.wrap (1000 * v9)) v2).bind fun x1 =>
        (impl_Neck_projection (r3_0, r3_1, r3_2, IntKind.i64.wrap (v8 + x1), ())).bind fun x2 =>
          if decide (x2 ≥ v1) then
            some (v9, 0)
          else
            impl_ShimFor_p1 v1 v2 v8 (IntKind.i64.wrap (v9 + 1)) r3_0 r3_1 r3_2 (IntKind.i64.wrap (v8 + x1))
    else
      some (0, 3) :=
  (goL_dn _ _ _ 4000 _ _).trans (by kernel_rfl)

/- laws.b10Div -/
def laws_b10Div_ir : Fn := { np := 2, io := [], res := [.t 4], own := [false], body :=
  (.seq (.reg false [⟨some 4, false, .asg (.c (.int .i64 0)), none, false, []⟩] [0, 1] []) (.seq (.seq (.reg false [⟨some 5, false, .mv (.t 0), none, false, []⟩, ⟨some 6, false, .bin .lss (.t 5) (.c (.int .i64 0)), none, false, []⟩] [0, 1, 6] []) (.cond (.t 6) (.seq (.reg false [⟨some 7, false, .mv (.t 0), none, false, []⟩, ⟨some 8, false, .un .neg (.t 7), none, false, []⟩, ⟨some 9, false, .mv (.t 1), none, false, []⟩, ⟨some 10, false, .call (.c (.fn 90 [])) [.t 8, .t 9], none, false, []⟩, ⟨some 11, false, .un .neg (.t 10), none, false, []⟩, ⟨some 4, false, .asg (.t 11), none, false, []⟩] [4] []) .ret) .skip)) (.seq (.reg false [⟨some 12, false, .mv (.t 0), none, false, []⟩, ⟨some 13, false, .bin .mul (.c (.int .i64 2)) (.t 12), none, false, []⟩, ⟨some 14, false, .mv (.t 1), none, false, []⟩, ⟨some 15, false, .bin .add (.t 13) (.t 14), none, false, []⟩, ⟨some 16, false, .mv (.t 1), none, false, []⟩, ⟨some 17, false, .bin .mul (.c (.int .i64 2)) (.t 16), none, false, []⟩, ⟨some 18, false, .bin .quo (.t 15) (.t 17), none, false, []⟩, ⟨some 4, false, .asg (.t 18), none, false, []⟩] [4] []) .ret))) }
def laws_b10Div_H : List (Nat × ET) := []
noncomputable def laws_b10Div_F : Nat → tysU [.d (.one (.int .i64)), .d (.one (.int .i64))] → Option (tys1 ([.d (.one (.int .i64))] ++ []))
  | 0 => fun _ => none
  | n + 1 => (mkCallee [(90, ⟨[], [.d (.one (.int .i64)), .d (.one (.int .i64))], [.d (.one (.int .i64))], [], laws_b10Div_F n⟩)] laws_b10Div_H laws_b10Div_ir [.d (.one (.int .i64)), .d (.one (.int .i64))] [.d (.one (.int .i64))] []).f
noncomputable def laws_b10Div_D (n : Nat) : List (Nat × Callee) := [(90, ⟨[], [.d (.one (.int .i64)), .d (.one (.int .i64))], [.d (.one (.int .i64))], [], laws_b10Div_F n⟩)]
noncomputable def laws_b10Div_c : Callee := ⟨[], [.d (.one (.int .i64)), .d (.one (.int .i64))], [.d (.one (.int .i64))], [], laws_b10Div_F 1000⟩
noncomputable def laws_b10Div_N (n : Nat) : Callee := ⟨[], [.d (.one (.int .i64)), .d (.one (.int .i64))], [.d (.one (.int .i64))], [], laws_b10Div_F n⟩
theorem laws_b10Div_N_eq (n : Nat) : laws_b10Div_N (n + 1) = mkCallee (laws_b10Div_D n) laws_b10Div_H laws_b10Div_ir [.d (.one (.int .i64)), .d (.one (.int .i64))] [.d (.one (.int .i64))] [] := rfl
noncomputable def laws_b10Div (n : Nat) (a0 : Int) (a1 : Int) : Option (Int) := laws_b10Div_F n (a0, a1, ())
theorem laws_b10Div_eq (n : Nat) (a0 : Int) (a1 : Int) : laws_b10Div (n + 1) a0 a1 =
    if decide (a0 < 0) then
      (laws_b10Div n (IntKind.i64.wrap (0 - a0)) a1).bind fun x1 =>
        some (IntKind.i64.wrap (0 - x1))
    else
      if decide (IntKind.i64.wrap (2 * a1) = 0) then
        none
      else
        some (IntKind.i64.wrap ((IntKind.i64.wrap ((IntKind.i64.wrap (2 * a0)) + a1)).tdiv (IntKind.i64.wrap (2 * a1)))) :=
  (mk_f (laws_b10Div_D n) laws_b10Div_H laws_b10Div_ir [.d (.one (.int .i64)), .d (.one (.int .i64))] [.d (.one (.int .i64))] [] (a0, a1, ()) 4000).trans (by kernel_rfl)

/- spec.DrawBridgeFor -/
def spec_DrawBridgeFor_ir : Fn := { np := 1, io := [], res := [.cell 2 (some 4), .t 3], own := [false, false], body :=
  (.seq (.reg false [⟨some 2, true, .alloc 4 (.agg [.int .i64 0, .int .i64 0, .int .i64 0, .int .i64 0]), none, false, []⟩, ⟨some 3, false, .asg (.c (.int .i64 0)), none, false, []⟩] [0, 2] [2]) (.seq (.reg false [⟨some 6, false, .mv (.t 0), none, false, []⟩, ⟨some 7, true, .call (.c (.fn 441 [])) [.t 6], none, false, []⟩, ⟨some 4, false, .asg (.t 7), none, false, []⟩] [2, 4] [2, 7, 8000]) (.seq (.reg false [⟨some 8, false, .mv (.t 4), none, false, []⟩, ⟨some 9, true, .call (.c (.fn 439 [])) [.t 8], none, false, []⟩, ⟨some 5, true, .alloc 4 (.agg [.int .i64 0, .int .i64 0, .int .i64 0, .int .i64 0]), none, false, []⟩, ⟨none, true, .sto 4 (.t 5) (.t 9), none, false, []⟩] [2, 4, 5] [2, 5, 7, 8000]) (.seq (.reg true [⟨some 10, false, .ld (some 4) (.t 5), none, true, []⟩, ⟨some 11, false, .mv (.t 4), none, false, []⟩, ⟨some 12, false, .bsl 1 (.int .i64 0) 6 [(0, .c (.int .i64 0)), (1, .c (.int .i64 30)), (2, .c (.int .i64 60)), (3, .c (.int .i64 1000)), (4, .c (.int .i64 1001)), (5, .c (.int .i64 (-1)))], none, false, []⟩, ⟨some 13, true, .call (.c (.fn 445 [])) [.t 11, .t 12], none, false, [5]⟩, ⟨none, true, .sto 4 (.t 2) (.t 10), none, false, []⟩, ⟨some 3, false, .asg (.t 13), none, false, []⟩] [2, 3] [2]) .ret)))) }
noncomputable def spec_DrawBridgeFor_D : List (Nat × Callee) := [(439, spec_l10Draw_c), (441, spec_l00From_c), (445, spec_l00Src_among_c)]
def spec_DrawBridgeFor_H : List (Nat × ET) := [(6, (.one (.int .u8))), (12, (.one (.int .i64)))]
noncomputable def spec_DrawBridgeFor_c : Callee := mkCallee spec_DrawBridgeFor_D spec_DrawBridgeFor_H spec_DrawBridgeFor_ir [.d (.one (.sl (.one (.int .u8))))] [.d T_Neck, .d (.one (.int .i64))] []
noncomputable def spec_DrawBridgeFor (a0 : List Int) : Option (T_Neck.ty × Int) := spec_DrawBridgeFor_c.f (a0, ())
theorem spec_DrawBridgeFor_eq (a0 : List Int) : spec_DrawBridgeFor a0 =
    (spec_l00From a0).bind fun x1 =>
      (spec_l10Draw x1).bind fun x2 =>
        (spec_l00Src_among (x2.2.1, x2.2.2.1, x2.2.2.2.1, ()) [0, 30, 60, 1000, 1001, (-1)]).bind fun x3 =>
          some ((x2.1.1, x2.1.2.1, x2.1.2.2.1, x2.1.2.2.2.1, ()), x3.1) :=
  (mk_f _ _ _ _ _ _ _ 4000).trans (by kernel_rfl)

/- impl.BridgeFor -/
def impl_BridgeFor_ir : Fn := { np := 2, io := [], res := [.t 4, .t 5], own := [false, false], body :=
  (.seq (.reg false [⟨some 2, true, .box 4 (.t 0), none, false, []⟩, ⟨some 4, false, .asg (.c (.int .i64 0)), none, false, []⟩, ⟨some 5, false, .asg (.c (.int .i64 0)), none, false, []⟩] [1, 2] [2]) (.seq (.seq (.reg false [⟨some 7, false, .ld (some 4) (.t 2), none, false, []⟩, ⟨some 8, false, .call (.c (.fn 444 [])) [.t 7], none, false, []⟩, ⟨some 9, false, .un .not (.t 8), none, false, []⟩] [1, 2, 9] [2]) (.cond (.t 9) (.seq (.reg false [⟨some 4, false, .asg (.c (.int .i64 0)), none, false, []⟩, ⟨some 5, false, .asg (.c (.int .i64 1)), none, false, []⟩] [4, 5] []) .ret) .skip)) (.seq (.seq (.reg false [⟨some 10, false, .mv (.t 1), none, false, []⟩, ⟨some 11, false, .call (.c (.fn 23 [])) [.t 10, .c (.int .i64 0), .c (.int .i64 1000)], none, false, []⟩, ⟨some 12, false, .un .not (.t 11), none, false, []⟩] [1, 2, 12] [2]) (.cond (.t 12) (.seq (.reg false [⟨some 4, false, .asg (.c (.int .i64 0)), none, false, []⟩, ⟨some 5, false, .asg (.c (.int .i64 2)), none, false, []⟩] [4, 5] []) .ret) .skip)) (.seq (.reg false [⟨some 13, false, .ld (some 4) (.t 2), none, false, []⟩, ⟨some 14, false, .call (.c (.fn 447 [])) [.t 13], none, false, []⟩, ⟨some 15, false, .mv (.t 1), none, false, []⟩, ⟨some 16, false, .bin .add (.t 14) (.t 15), none, false, []⟩, ⟨some 6, false, .asg (.t 16), none, false, []⟩] [6] []) (.seq (.seq (.reg false [⟨some 17, false, .mv (.t 6), none, false, []⟩, ⟨some 18, false, .bin .gtr (.t 17) (.c (.int .i64 2000)), none, false, []⟩] [6, 18] []) (.cond (.t 18) (.seq (.reg false [⟨some 4, false, .asg (.c (.int .i64 0)), none, false, []⟩, ⟨some 5, false, .asg (.c (.int .i64 3)), none, false, []⟩] [4, 5] []) .ret) .skip)) (.seq (.reg false [⟨some 19, false, .mv (.t 6), none, false, []⟩, ⟨some 4, false, .asg (.t 19), none, false, []⟩, ⟨some 5, false, .asg (.c (.int .i64 0)), none, false, []⟩] [4, 5] []) .ret)))))) }
noncomputable def impl_BridgeFor_D : List (Nat × Callee) := [(23, impl_within_c), (444, impl_ValidNeck_c), (447, impl_Neck_projection_c)]
def impl_BridgeFor_H : List (Nat × ET) := []
noncomputable def impl_BridgeFor_c : Callee := mkCallee impl_BridgeFor_D impl_BridgeFor_H impl_BridgeFor_ir [.d T_Neck, .d (.one (.int .i64))] [.d (.one (.int .i64)), .d (.one (.int .i64))] []
noncomputable def impl_BridgeFor (a0 : T_Neck.ty) (a1 : Int) : Option (Int × Int) := impl_BridgeFor_c.f (a0, a1, ())
theorem impl_BridgeFor_eq (a0 : T_Neck.ty) (a1 : Int) : impl_BridgeFor a0 a1 =
    (impl_ValidNeck a0).bind fun x1 =>
      if (!x1) then
        some (0, 1)
      else
        (impl_within a1 0 1000).bind fun x2 =>
          if (!x2) then
            some (0, 2)
          else
            (impl_Neck_projection a0).bind fun x3 =>
              if decide (IntKind.i64.wrap (x3 + a1) > 2000) then
                some (0, 3)
              else
                some (IntKind.i64.wrap (x3 + a1), 0) :=
  (mk_f _ _ _ _ _ _ _ 4000).trans (by kernel_rfl)

/- impl.ScaleOf -/
def impl_ScaleOf_ir : Fn := { np := 1, io := [], res := [.t 2, .t 3], own := [false, false], body :=
  (.seq (.reg false [⟨some 1, true, .box 4 (.t 0), none, false, []⟩, ⟨some 2, false, .asg (.c (.int .i64 0)), none, false, []⟩, ⟨some 3, false, .asg (.c (.int .i64 0)), none, false, []⟩] [1] [1]) (.seq (.seq (.reg false [⟨some 4, false, .ld (some 4) (.t 1), none, false, []⟩, ⟨some 5, false, .call (.c (.fn 444 [])) [.t 4], none, false, []⟩, ⟨some 6, false, .un .not (.t 5), none, false, []⟩] [1, 6] [1]) (.cond (.t 6) (.seq (.reg false [⟨some 2, false, .asg (.c (.int .i64 0)), none, false, []⟩, ⟨some 3, false, .asg (.c (.int .i64 1)), none, false, []⟩] [2, 3] []) .ret) .skip)) (.seq (.reg false [⟨some 7, false, .fa 0 (.t 1), none, false, []⟩, ⟨some 8, false, .ld none (.t 7), none, false, []⟩, ⟨some 9, false, .fa 1 (.t 1), none, false, []⟩, ⟨some 10, false, .ld none (.t 9), none, false, []⟩, ⟨some 11, false, .bin .add (.t 8) (.t 10), none, false, []⟩, ⟨some 2, false, .asg (.t 11), none, false, []⟩, ⟨some 3, false, .asg (.c (.int .i64 0)), none, false, []⟩] [2, 3] []) .ret))) }
noncomputable def impl_ScaleOf_D : List (Nat × Callee) := [(444, impl_ValidNeck_c)]
def impl_ScaleOf_H : List (Nat × ET) := []
noncomputable def impl_ScaleOf_c : Callee := mkCallee impl_ScaleOf_D impl_ScaleOf_H impl_ScaleOf_ir [.d T_Neck] [.d (.one (.int .i64)), .d (.one (.int .i64))] []
noncomputable def impl_ScaleOf (a0 : T_Neck.ty) : Option (Int × Int) := impl_ScaleOf_c.f (a0, ())
theorem impl_ScaleOf_eq (a0 : T_Neck.ty) : impl_ScaleOf a0 =
    (impl_ValidNeck a0).bind fun x1 =>
      if (!x1) then
        some (0, 1)
      else
        some (IntKind.i64.wrap (a0.1 + a0.2.1), 0) :=
  (mk_f _ _ _ _ _ _ _ 4000).trans (by kernel_rfl)

/- impl.StringAngle -/
def impl_StringAngle_ir : Fn := { np := 2, io := [], res := [.t 4, .t 5], own := [false, false], body :=
  (.seq (.reg false [⟨some 2, true, .box 4 (.t 0), none, false, []⟩, ⟨some 4, false, .asg (.c (.int .i64 0)), none, false, []⟩, ⟨some 5, false, .asg (.c (.int .i64 0)), none, false, []⟩] [1, 2] [2]) (.seq (.seq (.reg false [⟨some 6, false, .ld (some 4) (.t 2), none, false, []⟩, ⟨some 7, false, .call (.c (.fn 444 [])) [.t 6], none, false, []⟩, ⟨some 8, false, .un .not (.t 7), none, false, []⟩] [1, 2, 8] [2]) (.cond (.t 8) (.seq (.reg false [⟨some 4, false, .asg (.c (.int .i64 0)), none, false, []⟩, ⟨some 5, false, .asg (.c (.int .i64 1)), none, false, []⟩] [4, 5] []) .ret) .skip)) (.seq (.seq (.reg false [⟨some 9, false, .mv (.t 1), none, false, []⟩, ⟨some 10, false, .call (.c (.fn 449 [])) [.t 9], none, false, []⟩, ⟨some 11, false, .un .not (.t 10), none, false, []⟩] [1, 2, 11] [2]) (.cond (.t 11) (.seq (.reg false [⟨some 4, false, .asg (.c (.int .i64 0)), none, false, []⟩, ⟨some 5, false, .asg (.c (.int .i64 2)), none, false, []⟩] [4, 5] []) .ret) .skip)) (.seq (.reg true [⟨some 12, false, .mv (.t 1), none, false, []⟩, ⟨some 13, false, .ld (some 4) (.t 2), none, false, []⟩, ⟨some 14, false, .call (.c (.fn 447 [])) [.t 13], none, false, []⟩, ⟨some 15, false, .bin .sub (.t 12) (.t 14), none, false, []⟩, ⟨some 16, false, .bin .mul (.c (.int .i64 1000)) (.t 15), none, false, []⟩, ⟨some 17, false, .fa 0 (.t 2), none, false, []⟩, ⟨some 18, false, .ld none (.t 17), none, false, []⟩, ⟨some 19, false, .fa 1 (.t 2), none, false, []⟩, ⟨some 20, false, .ld none (.t 19), none, false, []⟩, ⟨some 21, false, .bin .add (.t 18) (.t 20), none, false, []⟩, ⟨some 22, false, .call (.c (.fn 27 [])) [.t 16, .t 21], none, false, []⟩, ⟨some 4, false, .asg (.t 22), none, false, []⟩, ⟨some 5, false, .asg (.c (.int .i64 0)), none, false, []⟩] [4, 5] []) .ret)))) }
noncomputable def impl_StringAngle_D : List (Nat × Callee) := [(27, impl_divRound_c), (444, impl_ValidNeck_c), (447, impl_Neck_projection_c), (449, impl_isHeight_c)]
def impl_StringAngle_H : List (Nat × ET) := []
noncomputable def impl_StringAngle_c : Callee := mkCallee impl_StringAngle_D impl_StringAngle_H impl_StringAngle_ir [.d T_Neck, .d (.one (.int .i64))] [.d (.one (.int .i64)), .d (.one (.int .i64))] []
noncomputable def impl_StringAngle (a0 : T_Neck.ty) (a1 : Int) : Option (Int × Int) := impl_StringAngle_c.f (a0, a1, ())
theorem impl_StringAngle_eq (a0 : T_Neck.ty) (a1 : Int) : impl_StringAngle a0 a1 =
    (impl_ValidNeck a0).bind fun x1 =>
      if (!x1) then
        some (0, 1)
      else
        (impl_isHeight a1).bind fun x2 =>
          if (!x2) then
            some (0, 2)
          else
            (impl_Neck_projection a0).bind fun x3 =>
              (impl_divRound (IntKind.i64.wrap (1000 * (IntKind.i64.wrap (a1 - x3)))) (IntKind.i64.wrap (a0.1 + a0.2.1))).bind fun x4 =>
                some (x4, 0) :=
  (mk_f _ _ _ _ _ _ _ 4000).trans (by kernel_rfl)

/- impl.StopRatio -/
def impl_StopRatio_ir : Fn := { np := 1, io := [], res := [.t 2, .t 3], own := [false, false], body :=
  (.seq (.reg false [⟨some 1, true, .box 4 (.t 0), none, false, []⟩, ⟨some 2, false, .asg (.c (.int .i64 0)), none, false, []⟩, ⟨some 3, false, .asg (.c (.int .i64 0)), none, false, []⟩] [1] [1]) (.seq (.seq (.reg false [⟨some 4, false, .ld (some 4) (.t 1), none, false, []⟩, ⟨some 5, false, .call (.c (.fn 444 [])) [.t 4], none, false, []⟩, ⟨some 6, false, .un .not (.t 5), none, false, []⟩] [1, 6] [1]) (.cond (.t 6) (.seq (.reg false [⟨some 2, false, .asg (.c (.int .i64 0)), none, false, []⟩, ⟨some 3, false, .asg (.c (.int .i64 1)), none, false, []⟩] [2, 3] []) .ret) .skip)) (.seq (.reg false [⟨some 7, false, .fa 0 (.t 1), none, false, []⟩, ⟨some 8, false, .ld none (.t 7), none, false, []⟩, ⟨some 9, false, .bin .mul (.c (.int .i64 1000)) (.t 8), none, false, []⟩, ⟨some 10, false, .fa 1 (.t 1), none, false, []⟩, ⟨some 11, false, .ld none (.t 10), none, false, []⟩, ⟨some 12, false, .call (.c (.fn 27 [])) [.t 9, .t 11], none, false, []⟩, ⟨some 2, false, .asg (.t 12), none, false, []⟩, ⟨some 3, false, .asg (.c (.int .i64 0)), none, false, []⟩] [2, 3] []) .ret))) }
noncomputable def impl_StopRatio_D : List (Nat × Callee) := [(27, impl_divRound_c), (444, impl_ValidNeck_c)]
def impl_StopRatio_H : List (Nat × ET) := []
noncomputable def impl_StopRatio_c : Callee := mkCallee impl_StopRatio_D impl_StopRatio_H impl_StopRatio_ir [.d T_Neck] [.d (.one (.int .i64)), .d (.one (.int .i64))] []
noncomputable def impl_StopRatio (a0 : T_Neck.ty) : Option (Int × Int) := impl_StopRatio_c.f (a0, ())
theorem impl_StopRatio_eq (a0 : T_Neck.ty) : impl_StopRatio a0 =
    (impl_ValidNeck a0).bind fun x1 =>
      if (!x1) then
        some (0, 1)
      else
        (impl_divRound (IntKind.i64.wrap (1000 * a0.1)) a0.2.1).bind fun x2 =>
          some (x2, 0) :=
  (mk_f _ _ _ _ _ _ _ 4000).trans (by kernel_rfl)

/- impl.few -/
def impl_few_ir : Fn := { np := 2, io := [], res := [.t 4], own := [false], body :=
  (.seq (.reg false [⟨some 4, false, .asg (.c (.bool false)), none, false, []⟩] [0, 1] []) (.seq (.reg false [⟨some 5, false, .mv (.t 0), none, false, []⟩, ⟨some 6, false, .mv (.t 1), none, false, []⟩, ⟨some 7, false, .bin .leq (.t 5) (.t 6), none, false, []⟩, ⟨some 4, false, .asg (.t 7), none, false, []⟩] [4] []) .ret)) }
noncomputable def impl_few_D : List (Nat × Callee) := []
def impl_few_H : List (Nat × ET) := []
noncomputable def impl_few_c : Callee := mkCallee impl_few_D impl_few_H impl_few_ir [.d (.one (.int .i64)), .d (.one (.int .i64))] [.d (.one .bool)] []
noncomputable def impl_few (a0 : Int) (a1 : Int) : Option (Bool) := impl_few_c.f (a0, a1, ())
theorem impl_few_eq (a0 : Int) (a1 : Int) : impl_few a0 a1 =
    some (decide (a0 ≤ a1)) :=
  (mk_f _ _ _ _ _ _ _ 4000).trans (by kernel_rfl)

/- strconv.FormatInt -/
noncomputable def strconv_FormatInt_c : Callee := formatIntC
noncomputable def strconv_FormatInt (a0 : Int) (a1 : Int) : Option (List UInt8) := strconv_FormatInt_c.f (a0, a1, ())
theorem strconv_FormatInt_eq (a0 : Int) (a1 : Int) : strconv_FormatInt a0 a1 = if decide (a1 = 10) && (decide (-9223372036854775808 ≤ a0) && decide (a0 ≤ 9223372036854775807)) then some (Lib.itoa a0) else none := rfl

/- impl.Decimal -/
def impl_Decimal_ir : Fn := { np := 1, io := [], res := [.t 2], own := [false], body :=
  (.seq (.reg false [⟨some 2, false, .asg (.c (.str [])), none, false, []⟩] [0] []) (.seq (.reg false [⟨some 3, false, .mv (.t 0), none, false, []⟩, ⟨some 4, false, .call (.c (.fn 864 [])) [.t 3, .c (.int .i64 10)], none, false, []⟩, ⟨some 2, false, .asg (.t 4), none, false, []⟩] [2] []) .ret)) }
noncomputable def impl_Decimal_D : List (Nat × Callee) := [(864, strconv_FormatInt_c)]
def impl_Decimal_H : List (Nat × ET) := []
noncomputable def impl_Decimal_c : Callee := mkCallee impl_Decimal_D impl_Decimal_H impl_Decimal_ir [.d (.one (.int .i64))] [.d (.one .str)] []
noncomputable def impl_Decimal (a0 : Int) : Option (List UInt8) := impl_Decimal_c.f (a0, ())
theorem impl_Decimal_eq (a0 : Int) : impl_Decimal a0 =
    (strconv_FormatInt a0 10).bind fun x1 =>
      some x1 :=
  (mk_f _ _ _ _ _ _ _ 4000).trans (by kernel_rfl)

/- strings.Join -/
noncomputable def strings_Join_c : Callee := joinC
noncomputable def strings_Join (a0 : List (List UInt8)) (a1 : List UInt8) : Option (List UInt8) := strings_Join_c.f (a0, a1, ())
theorem strings_Join_eq (a0 : List (List UInt8)) (a1 : List UInt8) : strings_Join a0 a1 = if decide (a0.length ≤ 140737488355328) && decide ((Lib.join a0 a1).length ≤ 140737488355328) then some (Lib.join a0 a1) else none := rfl

/- impl.ListText -/
def impl_ListText_k0 : C :=
  .seq (.reg false [⟨some 17, false, .bin .lss (.t 16) (.t 15), none, false, []⟩] [3, 14, 15, 16, 17] [3]) (.seq (.cond (.t 17) .skip (.exit 0)) (.seq (.block 1 (.seq (.reg false [⟨some 18, false, .ia 1 (.t 14) (.t 16), none, false, []⟩, ⟨some 19, false, .ld none (.t 18), none, false, []⟩, ⟨some 5, false, .asg (.t 19), none, false, []⟩] [3, 5, 14, 15, 16] [3]) (.seq (.seq (.reg false [⟨some 20, false, .mv (.t 5), none, false, []⟩, ⟨some 21, false, .call (.c (.fn 23 [])) [.t 20, .c (.int .i64 (-1000000000000)), .c (.int .i64 1000000000000)], none, false, []⟩, ⟨some 22, false, .un .not (.t 21), none, false, []⟩] [3, 5, 14, 15, 16, 22] [3]) (.cond (.t 22) (.seq (.reg false [⟨some 2, false, .asg (.c (.str [])), none, false, []⟩] [2] []) .ret) .skip)) (.reg false [⟨some 23, false, .mv (.t 3), none, false, []⟩, ⟨some 24, false, .mv (.t 5), none, false, []⟩, ⟨some 25, false, .call (.c (.fn 524 [])) [.t 24], none, false, []⟩, ⟨some 26, false, .bsl 1 (.str []) 1 [(0, .t 25)], none, false, []⟩, ⟨some 27, true, .app 1 16 (.t 23) (.t 26), none, false, []⟩, ⟨some 3, true, .asg (.t 27), none, false, []⟩] [3, 14, 15, 16] [3])))) (.reg false [⟨some 28, false, .bin .add (.t 16) (.c (.int .i64 1)), none, false, []⟩, ⟨some 16, false, .mv (.t 28), none, false, []⟩] [3, 14, 15, 16] [3])))
def impl_ListText_k1 : C :=
  .norm [3, 14, 15, 16] [3] impl_ListText_k0
def impl_ListText_k2 : C :=
  .seq (.reg false [⟨some 29, false, .mv (.t 3), none, false, []⟩, ⟨some 30, false, .call (.c (.fn 630 [])) [.t 29, .c (.str [44])], none, false, []⟩, ⟨some 2, false, .asg (.t 30), none, false, []⟩] [2] []) .ret
def impl_ListText_ir : Fn := { np := 1, io := [], res := [.t 2], own := [false], body :=
  (.seq (.reg false [⟨some 2, false, .asg (.c (.str [])), none, false, []⟩] [0] []) (.seq (.seq (.reg false [⟨some 6, false, .mv (.t 0), none, false, []⟩, ⟨some 7, false, .len (.t 6), none, false, []⟩, ⟨some 8, false, .call (.c (.fn 21 [])) [.t 7, .c (.int .i64 64)], none, false, []⟩, ⟨some 9, false, .un .not (.t 8), none, false, []⟩] [0, 9] []) (.cond (.t 9) (.seq (.reg false [⟨some 2, false, .asg (.c (.str [])), none, false, []⟩] [2] []) .ret) .skip)) (.seq (.seq (.reg false [⟨some 10, false, .mv (.t 0), none, false, []⟩, ⟨some 11, false, .len (.t 10), none, false, []⟩, ⟨some 12, false, .bin .eql (.t 11) (.c (.int .i64 0)), none, false, []⟩] [0, 12] []) (.cond (.t 12) (.seq (.reg false [⟨some 2, false, .asg (.c (.str [45])), none, false, []⟩] [2] []) .ret) .skip)) (.seq (.reg false [⟨some 13, false, .bsl 1 (.str []) 0 [], none, false, []⟩, ⟨some 3, true, .asg (.t 13), none, false, []⟩] [0, 3] [3]) (.seq (.seq (.reg false [⟨some 14, false, .mv (.t 0), none, false, []⟩, ⟨some 15, false, .len (.t 14), none, false, []⟩, ⟨some 16, false, .mv (.c (.int .i64 0)), none, false, []⟩] [3, 14, 15, 16] [3]) (.block 0 (.loop impl_ListText_k1))) impl_ListText_k2))))) }
noncomputable def impl_ListText_D : List (Nat × Callee) := [(21, impl_few_c), (23, impl_within_c), (524, impl_Decimal_c), (630, strings_Join_c)]
def impl_ListText_H : List (Nat × ET) := [(3, (.one .str)), (6, (.one (.int .i64))), (10, (.one (.int .i64))), (13, (.one .str)), (14, (.one (.int .i64))), (23, (.one .str)), (26, (.one .str)), (27, (.one .str)), (29, (.one .str))]
noncomputable def impl_ListText_c : Callee := mkCallee impl_ListText_D impl_ListText_H impl_ListText_ir [.d (.one (.sl (.one (.int .i64))))] [.d (.one .str)] []
noncomputable def impl_ListText (a0 : List Int) : Option (List UInt8) := impl_ListText_c.f (a0, ())
noncomputable def impl_ListText_p0  (v14 : List Int) (v15 : Int) (v16 : Int) (r3 : List (List UInt8)) : Option (List UInt8) :=
  goL impl_ListText_D impl_ListText_H (vleave impl_ListText_ir [.d (.one (.sl (.one (.int .i64))))] [.d (.one .str)] [] []) [.c impl_ListText_k0, .l impl_ListText_k1, .e 0, .c impl_ListText_k2]
    ⟨[(3, .view 3 0 r3.length), (14, .sl (.one (.int .i64)) v14), (15, .int .i64 v15), (16, .int .i64 v16)], [(3, some (.sl (.one .str) r3))]⟩
theorem impl_ListText_eq (a0 : List Int) : impl_ListText a0 =
    (impl_few (a0.length : Int) 64).bind fun x1 =>
      if (!x1) then
        some []
      else
        if ((a0.length : Int) == 0) then
          some [45]
        else
          impl_ListText_p0 a0 (a0.length : Int) 0 [] :=
  (mk_f _ _ _ _ _ _ _ 4000).trans (by kernel_rfl)
theorem impl_ListText_p0_eq  (v14 : List Int) (v15 : Int) (v16 : Int) (r3 : List (List UInt8)) : impl_ListText_p0 v14 v15 v16 r3 =
    if decide (v16 < v15) then
      if decide (0 ≤ v16) then
        (v14[v16.toNat]?).bind fun x1 =>
          (impl_within x1 (-1000000000000) 1000000000000).bind fun x2 =>
            if (!x2) then
              some []
            else
              (impl_Decimal x1).bind fun x3 =>
                if decide (r3.length + 1 < lim) then
                  impl_ListText_p0 v14 v15 (IntKind.i64.wrap (v16 + 1)) ((r3.take r3.length) ++ [x3])
                else
                  none
      else
        none
    else
      (strings_Join (r3.take r3.length) [44]).bind fun x4 =>
        some x4 :=
  (goL_dn _ _ _ 4000 _ _).trans (by kernel_rfl)

/- impl.NeckText -/
def impl_NeckText_ir : Fn := { np := 1, io := [], res := [.t 2], own := [false], body :=
  (.seq (.reg false [⟨some 1, true, .box 4 (.t 0), none, false, []⟩, ⟨some 2, false, .asg (.c (.str [])), none, false, []⟩] [1] [1]) (.seq (.seq (.reg false [⟨some 3, false, .ld (some 4) (.t 1), none, false, []⟩, ⟨some 4, false, .call (.c (.fn 444 [])) [.t 3], none, false, []⟩, ⟨some 5, false, .un .not (.t 4), none, false, []⟩] [1, 5] [1]) (.cond (.t 5) (.seq (.reg false [⟨some 2, false, .asg (.c (.str [])), none, false, []⟩] [2] []) .ret) .skip)) (.seq (.reg false [⟨some 6, false, .fa 0 (.t 1), none, false, []⟩, ⟨some 7, false, .ld none (.t 6), none, false, []⟩, ⟨some 8, false, .fa 1 (.t 1), none, false, []⟩, ⟨some 9, false, .ld none (.t 8), none, false, []⟩, ⟨some 10, false, .fa 2 (.t 1), none, false, []⟩, ⟨some 11, false, .ld none (.t 10), none, false, []⟩, ⟨some 12, false, .fa 3 (.t 1), none, false, []⟩, ⟨some 13, false, .ld none (.t 12), none, false, []⟩, ⟨some 14, false, .bsl 1 (.int .i64 0) 4 [(0, .t 7), (1, .t 9), (2, .t 11), (3, .t 13)], none, false, []⟩, ⟨some 15, false, .call (.c (.fn 460 [])) [.t 14], none, false, []⟩, ⟨some 2, false, .asg (.t 15), none, false, []⟩] [2] []) .ret))) }
noncomputable def impl_NeckText_D : List (Nat × Callee) := [(444, impl_ValidNeck_c), (460, impl_ListText_c)]
def impl_NeckText_H : List (Nat × ET) := [(14, (.one (.int .i64)))]
noncomputable def impl_NeckText_c : Callee := mkCallee impl_NeckText_D impl_NeckText_H impl_NeckText_ir [.d T_Neck] [.d (.one .str)] []
noncomputable def impl_NeckText (a0 : T_Neck.ty) : Option (List UInt8) := impl_NeckText_c.f (a0, ())
theorem impl_NeckText_eq (a0 : T_Neck.ty) : impl_NeckText a0 =
    (impl_ValidNeck a0).bind fun x1 =>
      if (!x1) then
        some []
      else
        (impl_ListText [a0.1, a0.2.1, a0.2.2.1, a0.2.2.2.1]).bind fun x2 =>
          some x2 :=
  (mk_f _ _ _ _ _ _ _ 4000).trans (by kernel_rfl)

/- strings.Split -/
noncomputable def strings_Split_c : Callee := splitC
noncomputable def strings_Split (a0 : List UInt8) (a1 : List UInt8) : Option (List (List UInt8)) := strings_Split_c.f (a0, a1, ())
theorem strings_Split_eq (a0 : List UInt8) (a1 : List UInt8) : strings_Split a0 a1 = if decide (a0.length < 4294967281) && decide (1 ≤ a1.length) then some (Lib.splitK a1 0 (Lib.count a0 a1) a0) else none := rfl

/- loop.example/g01061/impl.ReadDecimal -/
noncomputable def impl_ReadDecimal_c : Callee := readDecC
noncomputable def impl_ReadDecimal (a0 : List UInt8) : Option (Int × Bool) := impl_ReadDecimal_c.f (a0, ())
theorem impl_ReadDecimal_eq (a0 : List UInt8) : impl_ReadDecimal a0 = some (readDecP a0) := rfl

/- impl.ReadList -/
def impl_ReadList_k0 : C :=
  .seq (.reg false [⟨some 16, false, .bin .lss (.t 15) (.t 14), none, false, []⟩] [4, 13, 14, 15, 16] [4]) (.seq (.cond (.t 16) .skip (.exit 0)) (.seq (.block 1 (.seq (.reg false [⟨some 17, false, .ia 1 (.t 13) (.t 15), none, false, []⟩, ⟨some 18, false, .ld none (.t 17), none, false, []⟩, ⟨some 6, false, .asg (.t 18), none, false, []⟩] [4, 6, 13, 14, 15] [4]) (.seq (.reg false [⟨some 20, false, .mv (.t 6), none, false, []⟩, ⟨some 21, false, .call (.c (.fn 522 [])) [.t 20], none, false, []⟩, ⟨some 19, false, .mv (.t 21), none, false, []⟩, ⟨some 22, false, .ext (.t 19) 0, none, false, []⟩, ⟨some 23, false, .ext (.t 19) 1, none, false, []⟩, ⟨some 7, false, .asg (.t 22), none, false, []⟩, ⟨some 8, false, .asg (.t 23), none, false, []⟩] [4, 7, 8, 13, 14, 15] [4]) (.seq (.seq (.reg false [⟨some 24, false, .mv (.t 8), none, false, []⟩, ⟨some 25, false, .un .not (.t 24), none, false, []⟩, ⟨some 26, false, .mv (.t 25), none, false, []⟩, ⟨some 27, false, .mv (.t 7), some (2, false), false, []⟩, ⟨some 28, false, .call (.c (.fn 23 [])) [.t 27, .c (.int .i64 (-1000000000000)), .c (.int .i64 1000000000000)], some (2, false), false, []⟩, ⟨some 29, false, .un .not (.t 28), some (2, false), false, []⟩, ⟨some 30, false, .pick (.t 26) (.c (.bool true)) (.t 29), none, false, []⟩, ⟨some 31, false, .mv (.t 30), none, false, []⟩, ⟨some 32, false, .mv (.t 4), some (7, false), false, []⟩, ⟨some 33, false, .len (.t 32), some (7, false), false, []⟩, ⟨some 34, false, .bin .eql (.t 33) (.c (.int .i64 64)), some (7, false), false, []⟩, ⟨some 35, false, .pick (.t 31) (.c (.bool true)) (.t 34), none, false, []⟩] [4, 7, 13, 14, 15, 35] [4]) (.cond (.t 35) (.seq (.reg false [⟨some 2, true, .asg (.c (.nils 1)), none, false, []⟩, ⟨some 3, false, .asg (.c (.bool false)), none, false, []⟩] [2, 3] [2, 4]) .ret) .skip)) (.reg false [⟨some 36, false, .mv (.t 4), none, false, []⟩, ⟨some 37, false, .mv (.t 7), none, false, []⟩, ⟨some 38, false, .bsl 1 (.int .i64 0) 1 [(0, .t 37)], none, false, []⟩, ⟨some 39, true, .app 1 8 (.t 36) (.t 38), none, false, []⟩, ⟨some 4, true, .asg (.t 39), none, false, []⟩] [4, 13, 14, 15] [4]))))) (.reg false [⟨some 40, false, .bin .add (.t 15) (.c (.int .i64 1)), none, false, []⟩, ⟨some 15, false, .mv (.t 40), none, false, []⟩] [4, 13, 14, 15] [4])))
def impl_ReadList_k1 : C :=
  .norm [4, 13, 14, 15] [4] impl_ReadList_k0
def impl_ReadList_k2 : C :=
  .seq (.reg false [⟨some 41, false, .mv (.t 4), none, false, []⟩, ⟨some 2, true, .asg (.t 41), none, false, []⟩, ⟨some 3, false, .asg (.c (.bool true)), none, false, []⟩] [2, 3] [2, 4]) .ret
def impl_ReadList_ir : Fn := { np := 1, io := [], res := [.t 2, .t 3], own := [true, false], body :=
  (.seq (.reg false [⟨some 2, true, .asg (.c (.nils 1)), none, false, []⟩, ⟨some 3, false, .asg (.c (.bool false)), none, false, []⟩] [0] []) (.seq (.seq (.reg false [⟨some 9, false, .mv (.t 0), none, false, []⟩, ⟨some 10, false, .bin .eql (.t 9) (.c (.str [45])), none, false, []⟩] [0, 10] []) (.cond (.t 10) (.seq (.reg false [⟨some 2, true, .asg (.c (.nils 1)), none, false, []⟩, ⟨some 3, false, .asg (.c (.bool true)), none, false, []⟩] [2, 3] [2, 4]) .ret) .skip)) (.seq (.reg false [⟨some 11, false, .bsl 1 (.int .i64 0) 0 [], none, false, []⟩, ⟨some 4, true, .asg (.t 11), none, false, []⟩] [0, 4] [4]) (.seq (.seq (.reg false [⟨some 12, false, .mv (.t 0), none, false, []⟩, ⟨some 13, false, .call (.c (.fn 683 [])) [.t 12, .c (.str [44])], none, false, []⟩, ⟨some 14, false, .len (.t 13), none, false, []⟩, ⟨some 15, false, .mv (.c (.int .i64 0)), none, false, []⟩] [4, 13, 14, 15] [4]) (.block 0 (.loop impl_ReadList_k1))) impl_ReadList_k2)))) }
noncomputable def impl_ReadList_D : List (Nat × Callee) := [(23, impl_within_c), (522, impl_ReadDecimal_c), (683, strings_Split_c)]
def impl_ReadList_H : List (Nat × ET) := [(2, (.one (.int .i64))), (4, (.one (.int .i64))), (11, (.one (.int .i64))), (13, (.one .str)), (32, (.one (.int .i64))), (36, (.one (.int .i64))), (38, (.one (.int .i64))), (39, (.one (.int .i64))), (41, (.one (.int .i64)))]
noncomputable def impl_ReadList_c : Callee := mkCallee impl_ReadList_D impl_ReadList_H impl_ReadList_ir [.d (.one .str)] [.tok (.one (.int .i64)), .d (.one .bool)] []
noncomputable def impl_ReadList (a0 : List UInt8) : Option (List Int × Bool) := impl_ReadList_c.f (a0, ())
noncomputable def impl_ReadList_p0  (v13 : List (List UInt8)) (v14 : Int) (v15 : Int) (r4 : List Int) : Option (List Int × Bool) :=
  goL impl_ReadList_D impl_ReadList_H (vleave impl_ReadList_ir [.d (.one .str)] [.tok (.one (.int .i64)), .d (.one .bool)] [] []) [.c impl_ReadList_k0, .l impl_ReadList_k1, .e 0, .c impl_ReadList_k2]
    ⟨[(4, .view 4 0 r4.length), (13, .sl (.one .str) v13), (14, .int .i64 v14), (15, .int .i64 v15)], [(4, some (.sl (.one (.int .i64)) r4))]⟩
theorem impl_ReadList_eq (a0 : List UInt8) : impl_ReadList a0 =
    if (a0 == [45]) then
      some ([], true)
    else
      (strings_Split a0 [44]).bind fun x1 =>
        impl_ReadList_p0 x1 (x1.length : Int) 0 [] :=
  (mk_f _ _ _ _ _ _ _ 4000).trans (by kernel_rfl)
theorem impl_ReadList_p0_eq  (v13 : List (List UInt8)) (v14 : Int) (v15 : Int) (r4 : List Int) : impl_ReadList_p0 v13 v14 v15 r4 =
    if decide (v15 < v14) then
      if decide (0 ≤ v15) then
        (v13[v15.toNat]?).bind fun x1 =>
          (impl_ReadDecimal x1).bind fun x2 =>
            if (!x2.2) then
              some ([], false)
            else
              (impl_within x2.1 (-1000000000000) 1000000000000).bind fun x3 =>
                if (!x3) then
                  some ([], false)
                else
                  if ((r4.length : Int) == 64) then
                    some ([], false)
                  else
                    if decide (r4.length + 1 < lim) then
                      impl_ReadList_p0 v13 v14 (IntKind.i64.wrap (v15 + 1)) ((r4.take r4.length) ++ [x2.1])
                    else
                      none
      else
        none
    else
      some ((r4.take r4.length), true) :=
  (goL_dn _ _ _ 4000 _ _).trans (by kernel_rfl)

/- impl.ReadNeck -/
def impl_ReadNeck_k0 : C :=
  .seq (.reg true [⟨some 20, false, .mv (.t 4), none, false, [6]⟩, ⟨some 21, false, .ia 1 (.t 20) (.c (.int .i64 0)), none, false, [6]⟩, ⟨some 22, false, .ld none (.t 21), none, false, [6]⟩, ⟨some 23, false, .mv (.t 4), none, false, [6]⟩, ⟨some 24, false, .ia 1 (.t 23) (.c (.int .i64 1)), none, false, [6]⟩, ⟨some 25, false, .ld none (.t 24), none, false, [6]⟩, ⟨some 26, false, .mv (.t 4), none, false, [6]⟩, ⟨some 27, false, .ia 1 (.t 26) (.c (.int .i64 2)), none, false, [6]⟩, ⟨some 28, false, .ld none (.t 27), none, false, [6]⟩, ⟨some 29, false, .mv (.t 4), none, false, [6]⟩, ⟨some 30, false, .ia 1 (.t 29) (.c (.int .i64 3)), none, false, [6]⟩, ⟨some 31, false, .ld none (.t 30), none, false, [6]⟩, ⟨some 32, false, .build [.int .i64 0, .int .i64 0, .int .i64 0, .int .i64 0] [(0, 1, .t 22), (1, 1, .t 25), (2, 1, .t 28), (3, 1, .t 31)], none, false, [6]⟩, ⟨some 6, true, .alloc 4 (.agg [.int .i64 0, .int .i64 0, .int .i64 0, .int .i64 0]), none, false, []⟩, ⟨none, true, .sto 4 (.t 6) (.t 32), none, false, []⟩] [2, 6] [2, 6]) (.seq (.seq (.reg false [⟨some 33, false, .ld (some 4) (.t 6), none, false, []⟩, ⟨some 34, false, .call (.c (.fn 444 [])) [.t 33], none, false, []⟩, ⟨some 35, false, .un .not (.t 34), none, false, []⟩] [2, 6, 35] [2, 6]) (.cond (.t 35) (.seq (.reg false [⟨some 36, false, .build [.int .i64 0, .int .i64 0, .int .i64 0, .int .i64 0] [], none, false, []⟩, ⟨none, true, .sto 4 (.t 2) (.t 36), none, false, []⟩, ⟨some 3, false, .asg (.c (.bool false)), none, false, []⟩] [2, 3] [2]) .ret) .skip)) (.seq (.reg false [⟨some 37, false, .ld (some 4) (.t 6), none, false, []⟩, ⟨none, true, .sto 4 (.t 2) (.t 37), none, false, []⟩, ⟨some 3, false, .asg (.c (.bool true)), none, false, []⟩] [2, 3] [2]) .ret))
def impl_ReadNeck_ir : Fn := { np := 1, io := [], res := [.cell 2 (some 4), .t 3], own := [false, false], body :=
  (.seq (.reg false [⟨some 2, true, .alloc 4 (.agg [.int .i64 0, .int .i64 0, .int .i64 0, .int .i64 0]), none, false, []⟩, ⟨some 3, false, .asg (.c (.bool false)), none, false, []⟩] [0, 2] [2]) (.seq (.reg false [⟨some 8, false, .mv (.t 0), none, false, []⟩, ⟨some 9, false, .call (.c (.fn 457 [])) [.t 8], none, false, []⟩, ⟨some 7, false, .mv (.t 9), none, false, []⟩, ⟨some 10, false, .ext (.t 7) 0, none, false, []⟩, ⟨some 11, false, .ext (.t 7) 1, none, false, []⟩, ⟨some 4, true, .asg (.t 10), none, false, []⟩, ⟨some 5, false, .asg (.t 11), none, false, []⟩] [2, 4, 5] [2, 4]) (.seq (.seq (.reg false [⟨some 12, false, .mv (.t 5), none, false, []⟩, ⟨some 13, false, .un .not (.t 12), none, false, []⟩, ⟨some 14, false, .mv (.t 13), none, false, []⟩, ⟨some 15, false, .mv (.t 4), some (2, false), false, []⟩, ⟨some 16, false, .len (.t 15), some (2, false), false, []⟩, ⟨some 17, false, .bin .neq (.t 16) (.c (.int .i64 4)), some (2, false), false, []⟩, ⟨some 18, false, .pick (.t 14) (.c (.bool true)) (.t 17), none, false, []⟩] [2, 4, 18] [2, 4]) (.cond (.t 18) (.seq (.reg false [⟨some 19, false, .build [.int .i64 0, .int .i64 0, .int .i64 0, .int .i64 0] [], none, false, []⟩, ⟨none, true, .sto 4 (.t 2) (.t 19), none, false, []⟩, ⟨some 3, false, .asg (.c (.bool false)), none, false, []⟩] [2, 3] [2]) .ret) .skip)) (.norm [2, 4] [2, 4] impl_ReadNeck_k0)))) }
noncomputable def impl_ReadNeck_D : List (Nat × Callee) := [(444, impl_ValidNeck_c), (457, impl_ReadList_c)]
def impl_ReadNeck_H : List (Nat × ET) := [(4, (.one (.int .i64))), (10, (.one (.int .i64))), (15, (.one (.int .i64))), (20, (.one (.int .i64))), (23, (.one (.int .i64))), (26, (.one (.int .i64))), (29, (.one (.int .i64)))]
noncomputable def impl_ReadNeck_c : Callee := mkCallee impl_ReadNeck_D impl_ReadNeck_H impl_ReadNeck_ir [.d (.one .str)] [.d T_Neck, .d (.one .bool)] []
noncomputable def impl_ReadNeck (a0 : List UInt8) : Option (T_Neck.ty × Bool) := impl_ReadNeck_c.f (a0, ())
noncomputable def impl_ReadNeck_p0  (r2_0 : Int) (r2_1 : Int) (r2_2 : Int) (r2_3 : Int) (r4 : List Int) : Option (T_Neck.ty × Bool) :=
  goL impl_ReadNeck_D impl_ReadNeck_H (vleave impl_ReadNeck_ir [.d (.one .str)] [.d T_Neck, .d (.one .bool)] [] []) [.c impl_ReadNeck_k0]
    ⟨[(2, .loc 2 0 0), (4, .view 4 0 r4.length)], [(2, some (.var 4 (.agg [.int .i64 r2_0, .int .i64 r2_1, .int .i64 r2_2, .int .i64 r2_3]))), (4, some (.sl (.one (.int .i64)) r4))]⟩
theorem impl_ReadNeck_eq (a0 : List UInt8) : impl_ReadNeck a0 =
    (impl_ReadList a0).bind fun x1 =>
      if (!x1.2) then
        some ((0, 0, 0, 0, ()), false)
      else
        if ((x1.1.length : Int) != 4) then
          some ((0, 0, 0, 0, ()), false)
        else
          impl_ReadNeck_p0 0 0 0 0 x1.1 :=
  (mk_f _ _ _ _ _ _ _ 4000).trans (by kernel_rfl)
theorem impl_ReadNeck_p0_eq  (r2_0 : Int) (r2_1 : Int) (r2_2 : Int) (r2_3 : Int) (r4 : List Int) : impl_ReadNeck_p0 r2_0 r2_1 r2_2 r2_3 r4 =
    if decide (0 < (r4.length : Int)) then
      (r4[0]?).bind fun x1 =>
        if decide (1 < (r4.length : Int)) then
          (r4[1]?).bind fun x2 =>
            if decide (2 < (r4.length : Int)) then
              (r4[2]?).bind fun x3 =>
                if decide (3 < (r4.length : Int)) then
                  (r4[3]?).bind fun x4 =>
                    (impl_ValidNeck (x1, x2, x3, x4, ())).bind fun x5 =>
                      if (!x5) then
                        some ((0, 0, 0, 0, ()), false)
                      else
                        some ((x1, x2, x3, x4, ()), true)
                else
                  none
            else
              none
        else
          none
    else
      none :=
  (goL_dn _ _ _ 4000 _ _).trans (by kernel_rfl)

/- laws.b10Abs -/
def laws_b10Abs_ir : Fn := { np := 1, io := [], res := [.t 2], own := [false], body :=
  (.seq (.reg false [⟨some 2, false, .asg (.c (.int .i64 0)), none, false, []⟩] [0] []) (.seq (.seq (.reg false [⟨some 3, false, .mv (.t 0), none, false, []⟩, ⟨some 4, false, .bin .lss (.t 3) (.c (.int .i64 0)), none, false, []⟩] [0, 4] []) (.cond (.t 4) (.seq (.reg false [⟨some 5, false, .mv (.t 0), none, false, []⟩, ⟨some 6, false, .un .neg (.t 5), none, false, []⟩, ⟨some 2, false, .asg (.t 6), none, false, []⟩] [2] []) .ret) .skip)) (.seq (.reg false [⟨some 7, false, .mv (.t 0), none, false, []⟩, ⟨some 2, false, .asg (.t 7), none, false, []⟩] [2] []) .ret))) }
noncomputable def laws_b10Abs_D : List (Nat × Callee) := []
def laws_b10Abs_H : List (Nat × ET) := []
noncomputable def laws_b10Abs_c : Callee := mkCallee laws_b10Abs_D laws_b10Abs_H laws_b10Abs_ir [.d (.one (.int .i64))] [.d (.one (.int .i64))] []
noncomputable def laws_b10Abs (a0 : Int) : Option (Int) := laws_b10Abs_c.f (a0, ())
theorem laws_b10Abs_eq (a0 : Int) : laws_b10Abs a0 =
    if decide (a0 < 0) then
      some (IntKind.i64.wrap (0 - a0))
    else
      some a0 :=
  (mk_f _ _ _ _ _ _ _ 4000).trans (by kernel_rfl)

/- laws.FnNecks -/
def laws_FnNecks_k0 : C :=
  .seq (.reg false [⟨some 149, false, .mv (.t 0), none, false, []⟩, ⟨some 150, false, .call (.c (.fn 316 [])) [.t 149], none, false, []⟩, ⟨some 148, false, .mv (.t 150), none, false, []⟩, ⟨some 151, false, .ext (.t 148) 0, none, false, []⟩, ⟨some 152, false, .ext (.t 148) 1, none, false, []⟩, ⟨some 21, true, .alloc 4 (.agg [.int .i64 0, .int .i64 0, .int .i64 0, .int .i64 0]), none, false, []⟩, ⟨none, true, .sto 4 (.t 21) (.t 151), none, false, []⟩, ⟨some 22, false, .asg (.t 152), none, false, []⟩] [21, 22] [21]) (.seq (.reg false [⟨some 154, false, .ld (some 4) (.t 21), none, false, []⟩, ⟨some 155, false, .mv (.t 22), none, false, []⟩, ⟨some 156, false, .call (.c (.fn 315 [])) [.t 154, .t 155], none, false, []⟩, ⟨some 153, false, .mv (.t 156), none, false, []⟩, ⟨some 157, false, .ext (.t 153) 0, none, false, []⟩, ⟨some 158, false, .ext (.t 153) 1, none, false, []⟩, ⟨some 23, false, .asg (.t 157), none, false, []⟩, ⟨some 24, false, .asg (.t 158), none, false, []⟩] [21, 22, 23, 24] [21]) (.seq (.reg false [⟨some 160, false, .ld (some 4) (.t 21), none, false, []⟩, ⟨some 161, false, .call (.c (.fn 314 [])) [.t 160], none, false, []⟩, ⟨some 159, false, .mv (.t 161), none, false, []⟩, ⟨some 162, false, .ext (.t 159) 0, none, false, []⟩, ⟨some 163, false, .ext (.t 159) 1, none, false, []⟩, ⟨some 25, false, .asg (.t 162), none, false, []⟩, ⟨some 26, false, .asg (.t 163), none, false, []⟩] [21, 22, 23, 24, 25, 26] [21]) (.seq (.seq (.reg false [⟨some 164, false, .mv (.t 24), none, false, []⟩, ⟨some 165, false, .bin .neq (.t 164) (.c (.int .i64 0)), none, false, []⟩] [21, 22, 23, 25, 26, 165] [21]) (.cond (.t 165) (.seq (.reg false [⟨some 166, false, .mv (.t 23), none, false, []⟩, ⟨some 167, false, .bin .eql (.t 166) (.c (.int .i64 0)), none, false, []⟩, ⟨some 4, false, .asg (.t 167), none, false, []⟩] [4] []) .ret) .skip)) (.seq (.reg false [⟨some 169, false, .ld (some 4) (.t 21), none, false, []⟩, ⟨some 170, false, .mv (.t 23), none, false, []⟩, ⟨some 171, false, .call (.c (.fn 313 [])) [.t 169, .t 170], none, false, []⟩, ⟨some 168, false, .mv (.t 171), none, false, []⟩, ⟨some 172, false, .ext (.t 168) 0, none, false, []⟩, ⟨some 173, false, .ext (.t 168) 1, none, false, []⟩, ⟨some 27, false, .asg (.t 172), none, false, []⟩, ⟨some 28, false, .asg (.t 173), none, false, []⟩] [21, 22, 25, 26, 27, 28] [21]) (.seq (.reg false [⟨some 175, false, .ld (some 4) (.t 21), none, false, []⟩, ⟨some 176, false, .call (.c (.fn 312 [])) [.t 175], none, false, []⟩, ⟨some 174, false, .mv (.t 176), none, false, []⟩, ⟨some 177, false, .ext (.t 174) 0, none, false, []⟩, ⟨some 178, false, .ext (.t 174) 1, none, false, []⟩, ⟨some 29, false, .asg (.t 177), none, false, []⟩, ⟨some 30, false, .asg (.t 178), none, false, []⟩] [21, 22, 25, 26, 27, 28, 29, 30] [21]) (.seq (.reg false [⟨some 180, false, .ld (some 4) (.t 21), none, false, []⟩, ⟨some 181, false, .call (.c (.fn 310 [])) [.t 180], none, false, []⟩, ⟨some 182, false, .call (.c (.fn 311 [])) [.t 181], none, false, []⟩, ⟨some 179, false, .mv (.t 182), none, false, []⟩, ⟨some 183, false, .ext (.t 179) 0, none, false, []⟩, ⟨some 184, false, .ext (.t 179) 1, none, false, []⟩, ⟨some 31, true, .alloc 4 (.agg [.int .i64 0, .int .i64 0, .int .i64 0, .int .i64 0]), none, false, []⟩, ⟨none, true, .sto 4 (.t 31) (.t 183), none, false, []⟩, ⟨some 32, false, .asg (.t 184), none, false, []⟩] [21, 22, 25, 26, 27, 28, 29, 30, 31, 32] [21, 31]) (.seq (.reg true [⟨some 185, false, .mv (.t 26), none, false, []⟩, ⟨some 186, false, .bin .eql (.t 185) (.c (.int .i64 0)), none, false, []⟩, ⟨some 187, false, .mv (.t 186), none, false, []⟩, ⟨some 188, false, .mv (.t 25), some (2, true), false, []⟩, ⟨some 189, false, .fa 0 (.t 21), some (2, true), false, []⟩, ⟨some 190, false, .ld none (.t 189), some (2, true), false, []⟩, ⟨some 191, false, .fa 1 (.t 21), some (2, true), false, []⟩, ⟨some 192, false, .ld none (.t 191), some (2, true), false, []⟩, ⟨some 193, false, .bin .add (.t 190) (.t 192), some (2, true), false, []⟩, ⟨some 194, false, .bin .eql (.t 188) (.t 193), some (2, true), false, []⟩, ⟨some 195, false, .pick (.t 187) (.t 194) (.c (.bool false)), none, false, []⟩, ⟨some 196, false, .mv (.t 195), none, false, []⟩, ⟨some 197, false, .mv (.t 28), some (11, true), false, []⟩, ⟨some 198, false, .bin .eql (.t 197) (.c (.int .i64 0)), some (11, true), false, []⟩, ⟨some 199, false, .pick (.t 196) (.t 198) (.c (.bool false)), none, false, []⟩, ⟨some 200, false, .mv (.t 199), none, false, []⟩, ⟨some 201, false, .mv (.t 27), some (15, true), false, []⟩, ⟨some 202, false, .mv (.t 25), some (15, true), false, []⟩, ⟨some 203, false, .bin .mul (.t 201) (.t 202), some (15, true), false, []⟩, ⟨some 204, false, .mv (.t 22), some (15, true), false, []⟩, ⟨some 205, false, .bin .mul (.c (.int .i64 1000)) (.t 204), some (15, true), false, []⟩, ⟨some 206, false, .bin .sub (.t 203) (.t 205), some (15, true), false, []⟩, ⟨some 207, false, .call (.c (.fn 66 [])) [.t 206], some (15, true), false, []⟩, ⟨some 208, false, .bin .mul (.c (.int .i64 2)) (.t 207), some (15, true), false, []⟩, ⟨some 209, false, .mv (.t 25), some (15, true), false, []⟩, ⟨some 210, false, .bin .leq (.t 208) (.t 209), some (15, true), false, []⟩, ⟨some 211, false, .pick (.t 200) (.t 210) (.c (.bool false)), none, false, []⟩, ⟨some 212, false, .mv (.t 211), none, false, []⟩, ⟨some 213, false, .mv (.t 30), some (27, true), false, []⟩, ⟨some 214, false, .bin .eql (.t 213) (.c (.int .i64 0)), some (27, true), false, []⟩, ⟨some 215, false, .pick (.t 212) (.t 214) (.c (.bool false)), none, false, []⟩, ⟨some 216, false, .mv (.t 215), none, false, []⟩, ⟨some 217, false, .mv (.t 29), some (31, true), false, []⟩, ⟨some 218, false, .fa 1 (.t 21), some (31, true), false, []⟩, ⟨some 219, false, .ld none (.t 218), some (31, true), false, []⟩, ⟨some 220, false, .bin .mul (.t 217) (.t 219), some (31, true), false, []⟩, ⟨some 221, false, .fa 0 (.t 21), some (31, true), false, []⟩, ⟨some 222, false, .ld none (.t 221), some (31, true), false, []⟩, ⟨some 223, false, .bin .mul (.c (.int .i64 1000)) (.t 222), some (31, true), false, []⟩, ⟨some 224, false, .bin .sub (.t 220) (.t 223), some (31, true), false, []⟩, ⟨some 225, false, .call (.c (.fn 66 [])) [.t 224], some (31, true), false, []⟩, ⟨some 226, false, .bin .mul (.c (.int .i64 2)) (.t 225), some (31, true), false, []⟩, ⟨some 227, false, .fa 1 (.t 21), some (31, true), false, []⟩, ⟨some 228, false, .ld none (.t 227), some (31, true), false, []⟩, ⟨some 229, false, .bin .leq (.t 226) (.t 228), some (31, true), false, []⟩, ⟨some 230, false, .pick (.t 216) (.t 229) (.c (.bool false)), none, false, []⟩, ⟨some 231, false, .mv (.t 230), none, false, []⟩, ⟨some 232, false, .mv (.t 32), some (46, true), false, []⟩, ⟨some 233, false, .pick (.t 231) (.t 232) (.c (.bool false)), none, false, []⟩, ⟨some 234, false, .mv (.t 233), none, false, []⟩, ⟨some 235, false, .ld (some 4) (.t 31), some (49, true), false, []⟩, ⟨some 236, false, .ld (some 4) (.t 21), some (49, true), false, []⟩, ⟨some 237, false, .eqs false [.i, .i, .i, .i] (.t 235) (.t 236), some (49, true), false, []⟩, ⟨some 238, false, .pick (.t 234) (.t 237) (.c (.bool false)), none, false, []⟩, ⟨some 4, false, .asg (.t 238), none, false, []⟩] [4] []) .ret)))))))
def laws_FnNecks_k1 : C :=
  .seq (.reg false [⟨some 87, false, .mv (.t 1), none, false, []⟩, ⟨some 88, false, .call (.c (.fn 318 [])) [.t 87], none, false, []⟩, ⟨some 86, false, .mv (.t 88), none, false, []⟩, ⟨some 89, false, .ext (.t 86) 0, none, false, []⟩, ⟨some 90, false, .ext (.t 86) 1, none, false, []⟩, ⟨some 91, false, .ext (.t 86) 2, none, false, []⟩, ⟨some 14, true, .alloc 4 (.agg [.int .i64 0, .int .i64 0, .int .i64 0, .int .i64 0]), none, false, []⟩, ⟨none, true, .sto 4 (.t 14) (.t 89), none, false, []⟩, ⟨some 15, false, .asg (.t 90), none, false, []⟩, ⟨some 16, false, .asg (.t 91), none, false, []⟩] [0, 14, 15, 16] [14]) (.seq (.reg false [⟨some 93, false, .ld (some 4) (.t 14), none, false, []⟩, ⟨some 94, false, .mv (.t 15), none, false, []⟩, ⟨some 95, false, .mv (.t 16), none, false, []⟩, ⟨some 96, false, .call (.c (.fn 317 [])) [.t 93, .t 94, .t 95], none, false, []⟩, ⟨some 92, false, .mv (.t 96), none, false, []⟩, ⟨some 97, false, .ext (.t 92) 0, none, false, []⟩, ⟨some 98, false, .ext (.t 92) 1, none, false, []⟩, ⟨some 17, false, .asg (.t 97), none, false, []⟩, ⟨some 18, false, .asg (.t 98), none, false, []⟩] [0, 14, 15, 16, 17, 18] [14]) (.seq (.seq (.reg false [⟨some 99, false, .mv (.t 18), none, false, []⟩, ⟨some 100, false, .bin .eql (.t 99) (.c (.int .i64 0)), none, false, []⟩] [0, 14, 15, 16, 17, 100] [14]) (.cond (.t 100) (.seq (.reg true [⟨some 101, false, .fa 2 (.t 14), none, false, []⟩, ⟨some 102, false, .ld none (.t 101), none, false, []⟩, ⟨some 103, false, .fa 1 (.t 14), none, false, []⟩, ⟨some 104, false, .ld none (.t 103), none, false, []⟩, ⟨some 105, false, .fa 3 (.t 14), none, false, []⟩, ⟨some 106, false, .ld none (.t 105), none, false, []⟩, ⟨some 107, false, .mv (.t 17), none, false, []⟩, ⟨some 108, false, .bin .mul (.c (.int .i64 1000)) (.t 107), none, false, []⟩, ⟨some 109, false, .mv (.t 16), none, false, []⟩, ⟨some 110, false, .call (.c (.fn 90 [])) [.t 108, .t 109], none, false, []⟩, ⟨some 111, false, .bin .add (.t 106) (.t 110), none, false, []⟩, ⟨some 112, false, .bin .mul (.t 104) (.t 111), none, false, []⟩, ⟨some 113, false, .call (.c (.fn 90 [])) [.t 112, .c (.int .i64 1000)], none, false, []⟩, ⟨some 114, false, .bin .add (.t 102) (.t 113), none, false, []⟩, ⟨some 19, false, .asg (.t 114), none, false, []⟩] [0, 14, 15, 16, 17, 19] [14]) (.seq (.reg true [⟨some 115, false, .fa 2 (.t 14), none, false, []⟩, ⟨some 116, false, .ld none (.t 115), none, false, []⟩, ⟨some 117, false, .fa 1 (.t 14), none, false, []⟩, ⟨some 118, false, .ld none (.t 117), none, false, []⟩, ⟨some 119, false, .fa 3 (.t 14), none, false, []⟩, ⟨some 120, false, .ld none (.t 119), none, false, []⟩, ⟨some 121, false, .mv (.t 17), none, false, []⟩, ⟨some 122, false, .bin .sub (.t 121) (.c (.int .i64 1)), none, false, []⟩, ⟨some 123, false, .bin .mul (.c (.int .i64 1000)) (.t 122), none, false, []⟩, ⟨some 124, false, .mv (.t 16), none, false, []⟩, ⟨some 125, false, .call (.c (.fn 90 [])) [.t 123, .t 124], none, false, []⟩, ⟨some 126, false, .bin .add (.t 120) (.t 125), none, false, []⟩, ⟨some 127, false, .bin .mul (.t 118) (.t 126), none, false, []⟩, ⟨some 128, false, .call (.c (.fn 90 [])) [.t 127, .c (.int .i64 1000)], none, false, []⟩, ⟨some 129, false, .bin .add (.t 116) (.t 128), none, false, []⟩, ⟨some 20, false, .asg (.t 129), none, false, []⟩] [0, 15, 17, 19, 20] []) (.seq (.reg false [⟨some 130, false, .mv (.t 17), none, false, []⟩, ⟨some 131, false, .bin .lss (.t 130) (.c (.int .i64 0)), none, false, []⟩, ⟨some 132, false, .mv (.t 131), none, false, []⟩, ⟨some 133, false, .mv (.t 19), some (2, false), false, []⟩, ⟨some 134, false, .mv (.t 15), some (2, false), false, []⟩, ⟨some 135, false, .bin .lss (.t 133) (.t 134), some (2, false), false, []⟩, ⟨some 136, false, .pick (.t 132) (.c (.bool true)) (.t 135), none, false, []⟩, ⟨some 137, false, .mv (.t 136), none, false, []⟩, ⟨some 138, false, .mv (.t 17), some (7, false), false, []⟩, ⟨some 139, false, .bin .gtr (.t 138) (.c (.int .i64 0)), some (7, false), false, []⟩, ⟨some 140, false, .mv (.t 139), some (7, false), false, []⟩, ⟨some 141, false, .mv (.t 20), some (10, true), false, []⟩, ⟨some 142, false, .mv (.t 15), some (10, true), false, []⟩, ⟨some 143, false, .bin .geq (.t 141) (.t 142), some (10, true), false, []⟩, ⟨some 144, false, .pick (.t 140) (.t 143) (.c (.bool false)), some (7, false), false, []⟩, ⟨some 145, false, .pick (.t 137) (.c (.bool true)) (.t 144), none, false, []⟩] [0, 145] []) (.cond (.t 145) (.seq (.reg false [⟨some 4, false, .asg (.c (.bool false)), none, false, []⟩] [4] []) .ret) .skip)))) (.seq (.reg false [⟨some 146, false, .mv (.t 17), none, false, []⟩, ⟨some 147, false, .bin .neq (.t 146) (.c (.int .i64 0)), none, false, []⟩] [0, 147] []) (.cond (.t 147) (.seq (.reg false [⟨some 4, false, .asg (.c (.bool false)), none, false, []⟩] [4] []) .ret) .skip)))) (.norm [0] [] laws_FnNecks_k0)))
def laws_FnNecks_k2 : C :=
  .seq (.reg false [⟨some 40, false, .mv (.t 0), none, false, []⟩, ⟨some 41, false, .call (.c (.fn 321 [])) [.t 40], none, false, []⟩, ⟨some 39, false, .mv (.t 41), none, false, []⟩, ⟨some 42, false, .ext (.t 39) 0, none, false, []⟩, ⟨some 43, false, .ext (.t 39) 1, none, false, []⟩, ⟨some 5, true, .alloc 4 (.agg [.int .i64 0, .int .i64 0, .int .i64 0, .int .i64 0]), none, false, []⟩, ⟨none, true, .sto 4 (.t 5) (.t 42), none, false, []⟩, ⟨some 6, false, .asg (.t 43), none, false, []⟩] [0, 1, 5, 6] [5]) (.seq (.reg false [⟨some 45, false, .ld (some 4) (.t 5), none, false, []⟩, ⟨some 46, false, .mv (.t 6), none, false, []⟩, ⟨some 47, false, .call (.c (.fn 320 [])) [.t 45, .t 46], none, false, []⟩, ⟨some 44, false, .mv (.t 47), none, false, []⟩, ⟨some 48, false, .ext (.t 44) 0, none, false, []⟩, ⟨some 49, false, .ext (.t 44) 1, none, false, []⟩, ⟨some 7, false, .asg (.t 48), none, false, []⟩, ⟨some 8, false, .asg (.t 49), none, false, []⟩] [0, 1, 5, 6, 7, 8] [5]) (.seq (.seq (.reg false [⟨some 50, false, .mv (.t 8), none, false, []⟩, ⟨some 51, false, .bin .eql (.t 50) (.c (.int .i64 0)), none, false, []⟩] [0, 1, 5, 6, 7, 51] [5]) (.cond (.t 51) (.seq (.reg false [⟨some 52, false, .ld (some 4) (.t 5), none, false, []⟩, ⟨some 9, true, .alloc 4 (.agg [.int .i64 0, .int .i64 0, .int .i64 0, .int .i64 0]), none, false, []⟩, ⟨none, true, .sto 4 (.t 9) (.t 52), none, false, []⟩] [0, 1, 6, 7, 9] [9]) (.seq (.reg false [⟨some 53, false, .mv (.t 7), none, false, []⟩, ⟨some 54, false, .fa 3 (.t 9), none, false, []⟩, ⟨none, true, .sto 1 (.t 54) (.t 53), none, false, []⟩] [0, 1, 6, 7, 9] [9]) (.seq (.reg false [⟨some 56, false, .ld (some 4) (.t 9), none, false, []⟩, ⟨some 57, false, .call (.c (.fn 319 [])) [.t 56], none, false, []⟩, ⟨some 55, false, .mv (.t 57), none, false, []⟩, ⟨some 58, false, .ext (.t 55) 0, none, false, []⟩, ⟨some 59, false, .ext (.t 55) 1, none, false, []⟩, ⟨some 10, false, .asg (.t 58), none, false, []⟩, ⟨some 11, false, .asg (.t 59), none, false, []⟩] [0, 1, 6, 7, 9, 10, 11] [9]) (.seq (.reg false [⟨some 60, false, .mv (.t 7), none, false, []⟩, ⟨some 61, false, .bin .sub (.t 60) (.c (.int .i64 1)), none, false, []⟩, ⟨some 62, false, .fa 3 (.t 9), none, false, []⟩, ⟨none, true, .sto 1 (.t 62) (.t 61), none, false, []⟩] [0, 1, 6, 9, 10, 11] [9]) (.seq (.reg false [⟨some 64, false, .ld (some 4) (.t 9), none, false, []⟩, ⟨some 65, false, .call (.c (.fn 319 [])) [.t 64], none, false, []⟩, ⟨some 63, false, .mv (.t 65), none, false, []⟩, ⟨some 66, false, .ext (.t 63) 0, none, false, []⟩, ⟨some 67, false, .ext (.t 63) 1, none, false, []⟩, ⟨some 12, false, .asg (.t 66), none, false, []⟩, ⟨some 13, false, .asg (.t 67), none, false, []⟩] [0, 1, 6, 10, 11, 12, 13] []) (.seq (.reg false [⟨some 68, false, .mv (.t 11), none, false, []⟩, ⟨some 69, false, .bin .neq (.t 68) (.c (.int .i64 0)), none, false, []⟩, ⟨some 70, false, .mv (.t 69), none, false, []⟩, ⟨some 71, false, .mv (.t 10), some (2, false), false, []⟩, ⟨some 72, false, .mv (.t 6), some (2, false), false, []⟩, ⟨some 73, false, .bin .lss (.t 71) (.t 72), some (2, false), false, []⟩, ⟨some 74, false, .pick (.t 70) (.c (.bool true)) (.t 73), none, false, []⟩, ⟨some 75, false, .mv (.t 74), none, false, []⟩, ⟨some 76, false, .mv (.t 13), some (7, false), false, []⟩, ⟨some 77, false, .bin .eql (.t 76) (.c (.int .i64 0)), some (7, false), false, []⟩, ⟨some 78, false, .mv (.t 77), some (7, false), false, []⟩, ⟨some 79, false, .mv (.t 12), some (10, true), false, []⟩, ⟨some 80, false, .mv (.t 6), some (10, true), false, []⟩, ⟨some 81, false, .bin .geq (.t 79) (.t 80), some (10, true), false, []⟩, ⟨some 82, false, .pick (.t 78) (.t 81) (.c (.bool false)), some (7, false), false, []⟩, ⟨some 83, false, .pick (.t 75) (.c (.bool true)) (.t 82), none, false, []⟩] [0, 1, 83] []) (.cond (.t 83) (.seq (.reg false [⟨some 4, false, .asg (.c (.bool false)), none, false, []⟩] [4] []) .ret) .skip))))))) (.seq (.reg false [⟨some 84, false, .mv (.t 7), none, false, []⟩, ⟨some 85, false, .bin .neq (.t 84) (.c (.int .i64 0)), none, false, []⟩] [0, 1, 85] []) (.cond (.t 85) (.seq (.reg false [⟨some 4, false, .asg (.c (.bool false)), none, false, []⟩] [4] []) .ret) .skip)))) (.norm [0, 1] [] laws_FnNecks_k1)))
def laws_FnNecks_ir : Fn := { np := 2, io := [], res := [.t 4], own := [false], body :=
  (.seq (.reg false [⟨some 4, false, .asg (.c (.bool false)), none, false, []⟩] [0, 1] []) (.seq (.seq (.reg false [⟨some 33, false, .mv (.t 0), none, false, []⟩, ⟨some 34, false, .call (.c (.fn 76 [])) [.t 33], none, false, []⟩, ⟨some 35, false, .mv (.t 34), none, false, []⟩, ⟨some 36, false, .mv (.t 1), some (2, false), false, []⟩, ⟨some 37, false, .call (.c (.fn 76 [])) [.t 36], some (2, false), false, []⟩, ⟨some 38, false, .pick (.t 35) (.c (.bool true)) (.t 37), none, false, []⟩] [0, 1, 38] []) (.cond (.t 38) (.seq (.reg false [⟨some 4, false, .asg (.c (.bool true)), none, false, []⟩] [4] []) .ret) .skip)) (.norm [0, 1] [] laws_FnNecks_k2))) }
noncomputable def laws_FnNecks_D : List (Nat × Callee) := [(66, laws_b10Abs_c), (76, laws_b10Long_c), (90, laws_b10Div_c), (310, impl_NeckText_c), (311, impl_ReadNeck_c), (312, impl_StopRatio_c), (313, impl_StringAngle_c), (314, impl_ScaleOf_c), (315, impl_BridgeFor_c), (316, spec_DrawBridgeFor_c), (317, impl_ShimFor_c), (318, spec_DrawShimFor_c), (319, impl_ProjectionOf_c), (320, impl_AngleFor_c), (321, spec_DrawAngleFor_c)]
def laws_FnNecks_H : List (Nat × ET) := [(33, (.one (.int .u8))), (36, (.one (.int .u8))), (40, (.one (.int .u8))), (87, (.one (.int .u8))), (149, (.one (.int .u8)))]
noncomputable def laws_FnNecks_c : Callee := mkCallee laws_FnNecks_D laws_FnNecks_H laws_FnNecks_ir [.d (.one (.sl (.one (.int .u8)))), .d (.one (.sl (.one (.int .u8))))] [.d (.one .bool)] []
noncomputable def laws_FnNecks (a0 : List Int) (a1 : List Int) : Option (Bool) := laws_FnNecks_c.f (a0, a1, ())
noncomputable def laws_FnNecks_p0  (v0 : List Int) (v1 : List Int) : Option (Bool) :=
  goL laws_FnNecks_D laws_FnNecks_H (vleave laws_FnNecks_ir [.d (.one (.sl (.one (.int .u8)))), .d (.one (.sl (.one (.int .u8))))] [.d (.one .bool)] [] []) [.c laws_FnNecks_k2]
    ⟨[(0, .sl (.one (.int .u8)) v0), (1, .sl (.one (.int .u8)) v1)], []⟩
noncomputable def laws_FnNecks_p1  (v0 : List Int) (v1 : List Int) : Option (Bool) :=
  goL laws_FnNecks_D laws_FnNecks_H (vleave laws_FnNecks_ir [.d (.one (.sl (.one (.int .u8)))), .d (.one (.sl (.one (.int .u8))))] [.d (.one .bool)] [] []) [.c laws_FnNecks_k1]
    ⟨[(0, .sl (.one (.int .u8)) v0), (1, .sl (.one (.int .u8)) v1)], []⟩
noncomputable def laws_FnNecks_p2  (v0 : List Int) : Option (Bool) :=
  goL laws_FnNecks_D laws_FnNecks_H (vleave laws_FnNecks_ir [.d (.one (.sl (.one (.int .u8)))), .d (.one (.sl (.one (.int .u8))))] [.d (.one .bool)] [] []) [.c laws_FnNecks_k0]
    ⟨[(0, .sl (.one (.int .u8)) v0)], []⟩
theorem laws_FnNecks_eq (a0 : List Int) (a1 : List Int) : laws_FnNecks a0 a1 =
    (laws_b10Long a0).bind fun x1 =>
      if x1 then
        some true
      else
        (laws_b10Long a1).bind fun x2 =>
          if x2 then
            some true
          else
            laws_FnNecks_p0 a0 a1 :=
  (mk_f _ _ _ _ _ _ _ 4000).trans (by kernel_rfl)
theorem laws_FnNecks_p0_eq  (v0 : List Int) (v1 : List Int) : laws_FnNecks_p0 v0 v1 =
    (spec_DrawAngleFor v0).bind fun x1 =>
      (impl_AngleFor (x1.1.1, x1.1.2.1, x1.1.2.2.1, x1.1.2.2.2.1, ()) x1.2).bind fun x2 =>
        if (x2.2 == 0) then
          (impl_ProjectionOf (x1.1.1, x1.1.2.1, x1.1.2.2.1, x2.1, ())).bind fun x3 =>
            (impl_ProjectionOf (x1.1.1, x1.1.2.1, x1.1.2.2.1, IntKind.i64.wrap (x2.1 - 1), ())).bind fun x4 =>
              if (x3.2 != 0) then
                some false
              else
                if decide (x3.1 < x1.2) then
                  some false
                else
                  if (x4.2 == 0) then
                    if decide (x4.1 ≥ x1.2) then
                      some false
                    else
                      laws_FnNecks_p1 v0 v1
                  else
                    laws_FnNecks_p1 v0 v1
        else
          if (x2.1 != 0) then
            some false
          else
            laws_FnNecks_p1 v0 v1 :=
  (goL_dn _ _ _ 4000 _ _).trans (by kernel_rfl)
theorem laws_FnNecks_p1_eq  (v0 : List Int) (v1 : List Int) : laws_FnNecks_p1 v0 v1 =
    (spec_DrawShimFor v1).bind fun x1 =>
      (impl_ShimFor (x1.1.1, x1.1.2.1, x1.1.2.2.1, x1.1.2.2.2.1, ()) x1.2.1 x1.2.2).bind fun x2 =>
        if (x2.2 == 0) then
          (laws_b10Div 1000 (IntKind.i64.wrap (1000 * x2.1)) x1.2.2).bind fun x3 =>
            (laws_b10Div 1000 (IntKind.i64.wrap (x1.1.2.1 * (IntKind.i64.wrap (x1.1.2.2.2.1 + x3)))) 1000).bind fun x4 =>
              (laws_b10Div 1000 (IntKind.i64.wrap (1000 * (IntKind.i64.wrap (x2.1 - 1)))) x1.2.2).bind fun x5 =>
                (laws_b10Div 1000 (IntKind.i64.wrap (x1.1.2.1 * (IntKind.i64.wrap (x1.1.2.2.2.1 + x5)))) 1000).bind fun x6 =>
                  if decide (x2.1 < 0) then
                    some false
                  else
                    if decide (IntKind.i64.wrap (x1.1.2.2.1 + x4) < x1.2.1) then
                      some false
                    else
                      if decide (x2.1 > 0) then
                        if decide (IntKind.i64.wrap (x1.1.2.2.1 + x6) ≥ x1.2.1) then
                          some false
                        else
                          laws_FnNecks_p2 v0
                      else
                        laws_FnNecks_p2 v0
        else
          if (x2.1 != 0) then
            some false
          else
            laws_FnNecks_p2 v0 :=
  (goL_dn _ _ _ 4000 _ _).trans (by kernel_rfl)
theorem laws_FnNecks_p2_eq  (v0 : List Int) : laws_FnNecks_p2 v0 =
    (spec_DrawBridgeFor v0).bind fun x1 =>
      (impl_BridgeFor (x1.1.1, x1.1.2.1, x1.1.2.2.1, x1.1.2.2.2.1, ()) x1.2).bind fun x2 =>
        (impl_ScaleOf (x1.1.1, x1.1.2.1, x1.1.2.2.1, x1.1.2.2.2.1, ())).bind fun x3 =>
          if (x2.2 != 0) then
            some (x2.1 == 0)
          else
            (impl_StringAngle (x1.1.1, x1.1.2.1, x1.1.2.2.1, x1.1.2.2.2.1, ()) x2.1).bind fun x4 =>
              (impl_StopRatio (x1.1.1, x1.1.2.1, x1.1.2.2.1, x1.1.2.2.2.1, ())).bind fun x5 =>
                (impl_NeckText (x1.1.1, x1.1.2.1, x1.1.2.2.1, x1.1.2.2.2.1, ())).bind fun x6 =>
                  (impl_ReadNeck x6).bind fun x7 =>
                    if (x3.2 == 0) then
                      if (x3.1 == IntKind.i64.wrap (x1.1.1 + x1.1.2.1)) then
                        if (x4.2 == 0) then
                          (laws_b10Abs (IntKind.i64.wrap ((IntKind.i64.wrap (x4.1 * x3.1)) - (IntKind.i64.wrap (1000 * x1.2))))).bind fun x8 =>
                            if decide (IntKind.i64.wrap (2 * x8) ≤ x3.1) then
                              if (x5.2 == 0) then
                                (laws_b10Abs (IntKind.i64.wrap ((IntKind.i64.wrap (x5.1 * x1.1.2.1)) - (IntKind.i64.wrap (1000 * x1.1.1))))).bind fun x9 =>
                                  if decide (IntKind.i64.wrap (2 * x9) ≤ x1.1.2.1) then
                                    if x7.2 then
                                      some ((x7.1.1 == x1.1.1) && ((x7.1.2.1 == x1.1.2.1) && ((x7.1.2.2.1 == x1.1.2.2.1) && (x7.1.2.2.2.1 == x1.1.2.2.2.1))))
                                    else
                                      some false
                                  else
                                    some false
                              else
                                some false
                            else
                              some false
                        else
                          some false
                      else
                        some false
                    else
                      some false :=
  (goL_dn _ _ _ 4000 _ _).trans (by kernel_rfl)

end Go.Ab.P
