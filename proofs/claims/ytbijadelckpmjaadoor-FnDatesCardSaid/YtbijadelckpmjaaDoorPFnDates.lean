/- Functions of the program: abstract forms, and what their runs give. Conditions: none. -/
import Derived.Test.YtbijadelckpmjaaDoorL4
set_option maxRecDepth 100000
set_option linter.unusedVariables false
namespace Go.Ab.P
open Go.Ab
@[reducible] def T_Problem : ET := .agg (.cons (.int .i64) (.cons .str (.cons .str .nil)))
@[reducible] def T_Pot : ET := .agg (.cons .str (.cons (.int .i64) (.cons (.int .i64) (.cons (.int .i64) (.cons (.int .i64) .nil)))))
@[reducible] def T_Neck : ET := .agg (.cons (.int .i64) (.cons (.int .i64) (.cons (.int .i64) (.cons (.int .i64) .nil))))
@[reducible] def T_Step : ET := .agg (.cons .str (.cons (.int .i64) (.cons (.int .i64) (.cons (.sl (.one (.int .i64))) .nil))))
@[reducible] def T_Peg : ET := .agg (.cons .str (.cons (.int .i64) (.cons (.int .i64) (.cons (.int .i64) .nil))))
@[reducible] def T_Mode : ET := .agg (.cons .str (.cons (.int .i64) (.cons (.int .i64) .nil)))
@[reducible] def T_Deed : ET := .agg (.cons .str (.cons .str (.cons (.int .i64) (.cons (.int .i64) .nil))))
@[reducible] def T_Block : ET := .agg (.cons .str (.cons .str (.cons .str .nil)))
@[reducible] def T_Paper : ET := .agg (.cons .str (.cons .str (.cons (.int .i64) (.cons (.int .i64) (.cons (.int .i64) .nil)))))
@[reducible] def T_Desk : ET := .agg (.cons (.sl T_Peg) (.cons (.sl T_Mode) (.cons (.sl (.one (.sl (.one (.int .i64))))) (.cons (.int .i64) (.cons (.int .i64) (.cons (.int .i64) (.cons (.int .i64) (.cons (.sl T_Peg) (.cons (.sl T_Pot) (.cons (.sl T_Mode) (.cons (.sl T_Peg) (.cons (.sl T_Paper) .nil))))))))))))
@[reducible] def T_Arc : ET := .agg (.cons (.int .i64) (.cons (.int .i64) (.cons (.int .i64) (.cons (.int .i64) (.cons (.int .i64) (.cons (.int .i64) .nil))))))
@[reducible] def T_Entry : ET := .agg (.cons (.int .i64) (.cons .str (.cons .str (.cons (.int .i64) .nil))))
@[reducible] def T_Shop : ET := .agg (.cons (.sl T_Arc) (.cons (.sl T_Neck) (.cons (.int .i64) (.cons (.sl T_Step) (.cons (.sl (.one (.int .i64))) (.cons (.int .i64) (.cons (.sl T_Paper) (.cons (.sl T_Entry) .nil))))))))
@[reducible] def T_Setting : ET := .agg (.cons .str (.cons (.int .i64) .nil))
@[reducible] def T_Version : ET := .agg (.cons (.int .i64) (.cons (.int .i64) (.cons .str (.cons (.sl T_Setting) .nil))))
@[reducible] def T_Point : ET := .agg (.cons (.int .i64) (.cons (.int .i64) .nil))
@[reducible] def T_Grant : ET := .agg (.cons .str (.cons .str (.cons (.int .i64) .nil)))
@[reducible] def T_Role : ET := .agg (.cons .str (.cons (.sl (.one .str)) .nil))
@[reducible] def T_matching : ET := .agg (.cons (.sl T_Mode) (.cons (.sl T_Mode) (.cons (.sl (.one .bool)) (.cons (.int .i64) (.cons (.sl (.one (.int .i64))) (.cons (.int .i64) (.cons (.sl (.one (.int .i64))) (.cons (.int .i64) (.cons .bool .nil)))))))))
@[reducible] def T_cutting : ET := .agg (.cons (.sl T_Mode) (.cons (.int .i64) (.cons (.int .i64) (.cons (.sl (.one (.int .i64))) (.cons (.sl (.one (.int .i64))) (.cons (.int .i64) (.cons (.int .i64) .nil)))))))
@[reducible] def T_link : ET := .agg (.cons .bool (.cons (.int .i64) (.cons (.int .i64) .nil)))
@[reducible] def T_gluing : ET := .agg (.cons (.sl T_Pot) (.cons (.sl (.one (.int .i64))) (.cons (.sl (.one (.int .i64))) (.cons (.int .i64) (.cons (.sl (.one (.int .i64))) (.cons (.int .i64) (.cons (.sl (.one (.int .i64))) (.cons (.int .i64) (.cons .bool .nil)))))))))
@[reducible] def T_Change : ET := .agg (.cons (.int .i64) (.cons .str (.cons (.int .i64) .nil)))
@[reducible] def T_placing : ET := .agg (.cons (.sl T_Peg) (.cons (.sl (.one (.sl (.one (.int .i64))))) (.cons (.int .i64) .nil)))
@[reducible] def T_trusting : ET := .agg (.cons (.sl T_Paper) (.cons (.int .i64) (.cons (.sl (.one (.int .i64))) (.cons (.int .i64) (.cons (.sl (.one (.int .i64))) (.cons (.int .i64) .nil))))))
@[reducible] def T_l00Src : ET := .agg (.cons (.sl (.one (.int .u8))) (.cons (.int .i64) (.cons (.int .u64) .nil)))
@[reducible] def T_arguments : ET := .agg (.cons (.sl (.one (.int .i64))) (.cons (.sl (.one (.int .i64))) (.cons (.int .i64) (.cons .str .nil))))
@[reducible] def T_l14Search : ET := .agg (.cons (.sl T_Pot) (.cons (.sl (.one (.int .i64))) (.cons (.sl (.one (.int .i64))) (.cons (.sl (.one (.int .i64))) (.cons (.sl (.one (.int .i64))) (.cons (.int .i64) (.cons (.int .i64) (.cons (.int .i64) (.cons .bool .nil)))))))))
@[reducible] def T_l06Search : ET := .agg (.cons (.sl T_Mode) (.cons (.int .i64) (.cons (.int .i64) (.cons (.int .i64) (.cons (.sl (.one (.int .i64))) (.cons (.sl (.one (.int .i64))) (.cons (.int .i64) (.cons (.int .i64) (.cons .bool .nil)))))))))
@[reducible] def T_l20Search : ET := .agg (.cons (.sl T_Paper) (.cons (.sl (.one (.int .i64))) (.cons (.sl (.one (.int .i64))) (.cons (.int .i64) (.cons (.int .i64) (.cons (.int .i64) (.cons .bool .nil)))))))
@[reducible] def T_l18Search : ET := .agg (.cons (.sl T_Peg) (.cons (.sl (.one (.sl (.one (.int .i64))))) (.cons (.int .i64) (.cons (.int .i64) (.cons .bool .nil)))))
/- laws.b10Long -/
def laws_b10Long_ir : Fn := { np := 1, io := [], res := [.t 2], own := [false], body :=
  (.seq (.reg false [⟨some 2, false, .asg (.c (.bool false)), none, false, []⟩] [0] []) (.seq (.reg false [⟨some 3, false, .mv (.t 0), none, false, []⟩, ⟨some 4, false, .len (.t 3), none, false, []⟩, ⟨some 5, false, .bin .gtr (.t 4) (.c (.int .i64 1048576)), none, false, []⟩, ⟨some 2, false, .asg (.t 5), none, false, []⟩] [2] []) .ret)) }
noncomputable def laws_b10Long_D : List (Nat × Callee) := []
def laws_b10Long_H : List (Nat × ET) := [(3, (.one (.int .u8)))]
noncomputable def laws_b10Long_c : Callee := mkCallee laws_b10Long_D laws_b10Long_H laws_b10Long_ir [.d (.one (.sl (.one (.int .u8))))] [.d (.one .bool)] []
noncomputable def laws_b10Long (a0 : List Int) : Option (Bool) := laws_b10Long_c.f (a0, ())
theorem laws_b10Long_eq (a0 : List Int) : laws_b10Long a0 =
    some (decide ((a0.length : Int) > 1048576)) :=
  (mk_f _ _ _ _ _ _ _ 4000).trans (by kernel_rfl)

/- spec.l00From -/
def spec_l00From_ir : Fn := { np := 1, io := [], res := [.t 2], own := [true], body :=
  (.seq (.reg false [⟨some 2, false, .asg (.c (.cst (.pointer none))), none, false, []⟩] [0] []) (.seq (.reg false [⟨some 3, false, .mv (.t 0), none, false, []⟩, ⟨some 4, false, .build [.nils 1, .int .i64 0, .int .u64 0] [(0, 1, .t 3)], none, false, []⟩, ⟨some 5, true, .box 3 (.t 4), none, false, []⟩, ⟨some 2, false, .asg (.t 5), none, false, []⟩] [2] [5, 6000]) .ret)) }
noncomputable def spec_l00From_D : List (Nat × Callee) := []
def spec_l00From_H : List (Nat × ET) := [(3, (.one (.int .u8)))]
noncomputable def spec_l00From_c : Callee := mkCallee spec_l00From_D spec_l00From_H spec_l00From_ir [.d (.one (.sl (.one (.int .u8))))] [.box T_l00Src] []
noncomputable def spec_l00From (a0 : List Int) : Option (T_l00Src.ty) := spec_l00From_c.f (a0, ())
theorem spec_l00From_eq (a0 : List Int) : spec_l00From a0 =
    some (a0, 0, 0, ()) :=
  (mk_f _ _ _ _ _ _ _ 4000).trans (by kernel_rfl)

/- (*spec.l00Src).next -/
def spec_l00Src_next_k0 : C :=
  .seq (.reg false [⟨some 25, false, .mv (.t 0), none, false, []⟩, ⟨some 26, false, .nilck (.t 25), none, false, []⟩, ⟨some 27, false, .fa 1 (.t 26), none, false, []⟩, ⟨some 28, false, .ld none (.t 27), none, false, []⟩, ⟨some 29, false, .bin .add (.t 28) (.c (.int .i64 1)), none, false, []⟩, ⟨some 30, false, .nilck (.t 25), none, false, []⟩, ⟨some 31, false, .fa 1 (.t 30), none, false, []⟩, ⟨none, true, .sto 1 (.t 31) (.t 29), none, false, []⟩] [0, 3] [0, 1000]) (.seq (.reg false [⟨some 32, false, .mv (.t 0), none, false, []⟩, ⟨some 33, false, .mv (.t 0), none, false, []⟩, ⟨some 34, false, .nilck (.t 33), none, false, []⟩, ⟨some 35, false, .fa 2 (.t 34), none, false, []⟩, ⟨some 36, false, .ld none (.t 35), none, false, []⟩, ⟨some 37, false, .bin .mul (.t 36) (.c (.int .u64 6364136223846793005)), none, false, []⟩, ⟨some 38, false, .mv (.t 3), none, false, []⟩, ⟨some 39, false, .conv (.int .u64) (.t 38), none, false, []⟩, ⟨some 40, false, .bin .add (.t 37) (.t 39), none, false, []⟩, ⟨some 41, false, .bin .add (.t 40) (.c (.int .u64 1442695040888963407)), none, false, []⟩, ⟨some 42, false, .nilck (.t 32), none, false, []⟩, ⟨some 43, false, .fa 2 (.t 42), none, false, []⟩, ⟨none, true, .sto 1 (.t 43) (.t 41), none, false, []⟩] [0, 3] [0, 1000]) (.seq (.seq (.reg true [⟨some 44, false, .mv (.t 0), none, false, []⟩, ⟨some 45, false, .nilck (.t 44), none, false, []⟩, ⟨some 46, false, .fa 1 (.t 45), none, false, []⟩, ⟨some 47, false, .ld none (.t 46), none, false, []⟩, ⟨some 48, false, .mv (.t 0), none, false, []⟩, ⟨some 49, false, .nilck (.t 48), none, false, []⟩, ⟨some 50, false, .fa 0 (.t 49), none, false, []⟩, ⟨some 51, false, .ld none (.t 50), none, false, []⟩, ⟨some 52, false, .len (.t 51), none, false, []⟩, ⟨some 53, false, .bin .leq (.t 47) (.t 52), none, false, []⟩] [0, 3, 53] [0, 1000]) (.cond (.t 53) (.seq (.reg false [⟨some 54, false, .mv (.t 3), none, false, []⟩, ⟨some 2, false, .asg (.t 54), none, false, []⟩] [0, 2] [0, 1000]) .ret) .skip)) (.seq (.reg false [⟨some 55, false, .mv (.t 0), none, false, []⟩, ⟨some 56, false, .nilck (.t 55), none, false, []⟩, ⟨some 57, false, .fa 2 (.t 56), none, false, []⟩, ⟨some 58, false, .ld none (.t 57), none, false, []⟩, ⟨some 59, false, .bin .shr (.t 58) (.c (.int .u64 40)), none, false, []⟩, ⟨some 60, false, .bin .and (.t 59) (.c (.int .u64 255)), none, false, []⟩, ⟨some 61, false, .conv (.int .i64) (.t 60), none, false, []⟩, ⟨some 2, false, .asg (.t 61), none, false, []⟩] [0, 2] [0, 1000]) .ret)))
def spec_l00Src_next_ir : Fn := { np := 1, io := [true], res := [.t 2], own := [false], body :=
  (.seq (.reg false [⟨some 2, false, .asg (.c (.int .i64 0)), none, false, []⟩] [0] [0, 1000]) (.seq (.reg false [⟨some 3, false, .asg (.c (.int .i64 0)), none, false, []⟩] [0, 3] [0, 1000]) (.seq (.seq (.reg true [⟨some 4, false, .mv (.t 0), none, false, []⟩, ⟨some 5, false, .nilck (.t 4), none, false, []⟩, ⟨some 6, false, .fa 1 (.t 5), none, false, []⟩, ⟨some 7, false, .ld none (.t 6), none, false, []⟩, ⟨some 8, false, .mv (.t 0), none, false, []⟩, ⟨some 9, false, .nilck (.t 8), none, false, []⟩, ⟨some 10, false, .fa 0 (.t 9), none, false, []⟩, ⟨some 11, false, .ld none (.t 10), none, false, []⟩, ⟨some 12, false, .len (.t 11), none, false, []⟩, ⟨some 13, false, .bin .lss (.t 7) (.t 12), none, false, []⟩] [0, 3, 13] [0, 1000]) (.cond (.t 13) (.reg true [⟨some 14, false, .mv (.t 0), none, false, []⟩, ⟨some 15, false, .nilck (.t 14), none, false, []⟩, ⟨some 16, false, .fa 0 (.t 15), none, false, []⟩, ⟨some 17, false, .ld none (.t 16), none, false, []⟩, ⟨some 18, false, .mv (.t 0), none, false, []⟩, ⟨some 19, false, .nilck (.t 18), none, false, []⟩, ⟨some 20, false, .fa 1 (.t 19), none, false, []⟩, ⟨some 21, false, .ld none (.t 20), none, false, []⟩, ⟨some 22, false, .ia 1 (.t 17) (.t 21), none, false, []⟩, ⟨some 23, false, .ld none (.t 22), none, false, []⟩, ⟨some 24, false, .conv (.int .i64) (.t 23), none, false, []⟩, ⟨some 3, false, .asg (.t 24), none, false, []⟩] [0, 3] [0, 1000]) .skip)) (.norm [0, 3] [0, 1000] spec_l00Src_next_k0)))) }
noncomputable def spec_l00Src_next_D : List (Nat × Callee) := []
def spec_l00Src_next_H : List (Nat × ET) := [(11, (.one (.int .u8))), (17, (.one (.int .u8))), (51, (.one (.int .u8)))]
noncomputable def spec_l00Src_next_c : Callee := mkCallee spec_l00Src_next_D spec_l00Src_next_H spec_l00Src_next_ir [.box T_l00Src] [.d (.one (.int .i64))] [.box T_l00Src]
noncomputable def spec_l00Src_next (a0 : T_l00Src.ty) : Option (Int × T_l00Src.ty) := spec_l00Src_next_c.f (a0, ())
noncomputable def spec_l00Src_next_p0  (v3 : Int) (r0_0 : List Int) (r0_1 : Int) (r0_2 : Int) : Option (Int × T_l00Src.ty) :=
  goL spec_l00Src_next_D spec_l00Src_next_H (vleave spec_l00Src_next_ir [.box T_l00Src] [.d (.one (.int .i64))] [.box T_l00Src] []) [.c spec_l00Src_next_k0]
    ⟨[(0, .loc 0 0 0), (3, .int .i64 v3)], [(0, some (.var 3 (.agg [.sl (.one (.int .u8)) r0_0, .int .i64 r0_1, .int .u64 r0_2]))), (1000, none)]⟩
theorem spec_l00Src_next_eq (a0 : T_l00Src.ty) : spec_l00Src_next a0 =
    if decide (a0.2.1 < (a0.1.length : Int)) then
      if decide (0 ≤ a0.2.1) then
        (a0.1[a0.2.1.toNat]?).bind fun x1 =>
          spec_l00Src_next_p0 (IntKind.i64.wrap x1) a0.1 a0.2.1 a0.2.2.1
      else
        none
    else
      spec_l00Src_next_p0 0 a0.1 a0.2.1 a0.2.2.1 :=
  (mk_f _ _ _ _ _ _ _ 4000).trans (by kernel_rfl)
theorem spec_l00Src_next_p0_eq  (v3 : Int) (r0_0 : List Int) (r0_1 : Int) (r0_2 : Int) : spec_l00Src_next_p0 v3 r0_0 r0_1 r0_2 =
    if decide (IntKind.i64.wrap (r0_1 + 1) ≤ (r0_0.length : Int)) then
      some (v3, (r0_0, IntKind.i64.wrap (r0_1 + 1), IntKind.u64.wrap ((IntKind.u64.wrap ((IntKind.u64.wrap (r0_2 * 6364136223846793005)) + (IntKind.u64.wrap v3))) + 1442695040888963407), ()))
    else
      some (IntKind.i64.wrap (IntKind.u64.wrap ((BitVec.ofInt IntKind.u64.bits (Int.fdiv (IntKind.u64.wrap ((IntKind.u64.wrap ((IntKind.u64.wrap (r0_2 * 6364136223846793005)) + (IntKind.u64.wrap v3))) + 1442695040888963407)) (2 ^ (min (40 : Int).toNat IntKind.u64.bits))) &&& BitVec.ofInt IntKind.u64.bits 255).toNat : Int)), (r0_0, IntKind.i64.wrap (r0_1 + 1), IntKind.u64.wrap ((IntKind.u64.wrap ((IntKind.u64.wrap (r0_2 * 6364136223846793005)) + (IntKind.u64.wrap v3))) + 1442695040888963407), ())) :=
  (goL_dn _ _ _ 4000 _ _).trans (by kernel_rfl)

/- (*spec.l00Src).pick -/
def spec_l00Src_pick_ir : Fn := { np := 2, io := [true, false], res := [.t 4], own := [false], body :=
  (.seq (.reg false [⟨some 4, false, .asg (.c (.int .i64 0)), none, false, []⟩] [0, 1] [0, 1000]) (.seq (.seq (.reg false [⟨some 6, false, .mv (.t 1), none, false, []⟩, ⟨some 7, false, .bin .leq (.t 6) (.c (.int .i64 1)), none, false, []⟩] [0, 1, 7] [0, 1000]) (.cond (.t 7) (.seq (.reg false [⟨some 4, false, .asg (.c (.int .i64 0)), none, false, []⟩] [0, 4] [0, 1000]) .ret) .skip)) (.seq (.reg false [⟨some 8, false, .mv (.t 0), none, false, []⟩, ⟨some 9, true, .call (.c (.fn 847 [])) [.t 8], none, false, []⟩, ⟨some 5, false, .asg (.t 9), none, false, []⟩] [0, 1, 5] [0, 1000]) (.seq (.seq (.reg false [⟨some 10, false, .mv (.t 1), none, false, []⟩, ⟨some 11, false, .bin .gtr (.t 10) (.c (.int .i64 200)), none, false, []⟩] [0, 1, 5, 11] [0, 1000]) (.cond (.t 11) (.reg false [⟨some 12, false, .mv (.t 5), none, false, []⟩, ⟨some 13, false, .bin .mul (.t 12) (.c (.int .i64 256)), none, false, []⟩, ⟨some 14, false, .mv (.t 0), none, false, []⟩, ⟨some 15, true, .call (.c (.fn 847 [])) [.t 14], none, false, []⟩, ⟨some 16, false, .bin .add (.t 13) (.t 15), none, false, []⟩, ⟨some 5, false, .asg (.t 16), none, false, []⟩] [0, 1, 5] [0, 1000]) .skip)) (.seq (.reg false [⟨some 17, false, .mv (.t 5), none, false, []⟩, ⟨some 18, false, .mv (.t 1), none, false, []⟩, ⟨some 19, false, .bin .rem (.t 17) (.t 18), none, false, []⟩, ⟨some 4, false, .asg (.t 19), none, false, []⟩] [0, 4] [0, 1000]) .ret))))) }
noncomputable def spec_l00Src_pick_D : List (Nat × Callee) := [(847, spec_l00Src_next_c)]
def spec_l00Src_pick_H : List (Nat × ET) := []
noncomputable def spec_l00Src_pick_c : Callee := mkCallee spec_l00Src_pick_D spec_l00Src_pick_H spec_l00Src_pick_ir [.box T_l00Src, .d (.one (.int .i64))] [.d (.one (.int .i64))] [.box T_l00Src]
noncomputable def spec_l00Src_pick (a0 : T_l00Src.ty) (a1 : Int) : Option (Int × T_l00Src.ty) := spec_l00Src_pick_c.f (a0, a1, ())
theorem spec_l00Src_pick_eq (a0 : T_l00Src.ty) (a1 : Int) : spec_l00Src_pick a0 a1 =
    if decide (a1 ≤ 1) then
      some (0, a0)
    else
      (spec_l00Src_next a0).bind fun x1 =>
        if decide (a1 > 200) then
          (spec_l00Src_next (x1.2.1, x1.2.2.1, x1.2.2.2.1, ())).bind fun x2 =>
            if decide (a1 = 0) then
              none
            else
              some ((IntKind.i64.wrap ((IntKind.i64.wrap (x1.1 * 256)) + x2.1)).tmod a1, (x2.2.1, x2.2.2.1, x2.2.2.2.1, ()))
        else
          if decide (a1 = 0) then
            none
          else
            some (x1.1.tmod a1, (x1.2.1, x1.2.2.1, x1.2.2.2.1, ())) :=
  (mk_f _ _ _ _ _ _ _ 4000).trans (by kernel_rfl)

/- (*spec.l00Src).one -/
def spec_l00Src_one_ir : Fn := { np := 2, io := [true, false], res := [.t 4], own := [false], body :=
  (.seq (.reg false [⟨some 4, false, .asg (.c (.bool false)), none, false, []⟩] [0, 1] [0, 1000]) (.seq (.reg false [⟨some 5, false, .mv (.t 0), none, false, []⟩, ⟨some 6, false, .mv (.t 1), none, false, []⟩, ⟨some 7, true, .call (.c (.fn 463 [])) [.t 5, .t 6], none, false, []⟩, ⟨some 8, false, .bin .eql (.t 7) (.c (.int .i64 0)), none, false, []⟩, ⟨some 4, false, .asg (.t 8), none, false, []⟩] [0, 4] [0, 1000]) .ret)) }
noncomputable def spec_l00Src_one_D : List (Nat × Callee) := [(463, spec_l00Src_pick_c)]
def spec_l00Src_one_H : List (Nat × ET) := []
noncomputable def spec_l00Src_one_c : Callee := mkCallee spec_l00Src_one_D spec_l00Src_one_H spec_l00Src_one_ir [.box T_l00Src, .d (.one (.int .i64))] [.d (.one .bool)] [.box T_l00Src]
noncomputable def spec_l00Src_one (a0 : T_l00Src.ty) (a1 : Int) : Option (Bool × T_l00Src.ty) := spec_l00Src_one_c.f (a0, a1, ())
theorem spec_l00Src_one_eq (a0 : T_l00Src.ty) (a1 : Int) : spec_l00Src_one a0 a1 =
    (spec_l00Src_pick a0 a1).bind fun x1 =>
      some ((x1.1 == 0), (x1.2.1, x1.2.2.1, x1.2.2.2.1, ())) :=
  (mk_f _ _ _ _ _ _ _ 4000).trans (by kernel_rfl)

/- (*spec.l00Src).among -/
def spec_l00Src_among_ir : Fn := { np := 2, io := [true, false], res := [.t 4], own := [false], body :=
  (.seq (.reg false [⟨some 4, false, .asg (.c (.int .i64 0)), none, false, []⟩] [0, 1] [0, 1000]) (.seq (.reg false [⟨some 5, false, .mv (.t 1), none, false, []⟩, ⟨some 6, false, .mv (.t 0), none, false, []⟩, ⟨some 7, false, .mv (.t 1), none, false, []⟩, ⟨some 8, false, .len (.t 7), none, false, []⟩, ⟨some 9, true, .call (.c (.fn 463 [])) [.t 6, .t 8], none, false, []⟩, ⟨some 10, false, .ia 1 (.t 5) (.t 9), none, false, []⟩, ⟨some 11, false, .ld none (.t 10), none, false, []⟩, ⟨some 4, false, .asg (.t 11), none, false, []⟩] [0, 4] [0, 1000]) .ret)) }
noncomputable def spec_l00Src_among_D : List (Nat × Callee) := [(463, spec_l00Src_pick_c)]
def spec_l00Src_among_H : List (Nat × ET) := [(5, (.one (.int .i64))), (7, (.one (.int .i64)))]
noncomputable def spec_l00Src_among_c : Callee := mkCallee spec_l00Src_among_D spec_l00Src_among_H spec_l00Src_among_ir [.box T_l00Src, .d (.one (.sl (.one (.int .i64))))] [.d (.one (.int .i64))] [.box T_l00Src]
noncomputable def spec_l00Src_among (a0 : T_l00Src.ty) (a1 : List Int) : Option (Int × T_l00Src.ty) := spec_l00Src_among_c.f (a0, a1, ())
theorem spec_l00Src_among_eq (a0 : T_l00Src.ty) (a1 : List Int) : spec_l00Src_among a0 a1 =
    (spec_l00Src_pick a0 (a1.length : Int)).bind fun x1 =>
      if decide (0 ≤ x1.1) then
        (a1[x1.1.toNat]?).bind fun x2 =>
          some (x2, (x1.2.1, x1.2.2.1, x1.2.2.2.1, ()))
      else
        none :=
  (mk_f _ _ _ _ _ _ _ 4000).trans (by kernel_rfl)

/- spec.l02DrawDay -/
def spec_l02DrawDay_ir : Fn := { np := 1, io := [true], res := [.t 2], own := [false], body :=
  (.seq (.reg false [⟨some 2, false, .asg (.c (.int .i64 0)), none, false, []⟩] [0] [0, 1000]) (.seq (.seq (.reg false [⟨some 3, false, .mv (.t 0), none, false, []⟩, ⟨some 4, true, .call (.c (.fn 642 [])) [.t 3, .c (.int .i64 8)], none, false, []⟩] [0, 4] [0, 1000]) (.cond (.t 4) (.seq (.reg false [⟨some 5, false, .mv (.t 0), none, false, []⟩, ⟨some 6, false, .bsl 1 (.int .i64 0) 8 [(0, .c (.int .i64 (-1))), (1, .c (.int .i64 0)), (2, .c (.int .i64 59)), (3, .c (.int .i64 60)), (4, .c (.int .i64 36524)), (5, .c (.int .i64 36525)), (6, .c (.int .i64 366)), (7, .c (.int .i64 365))], none, false, []⟩, ⟨some 7, true, .call (.c (.fn 445 [])) [.t 5, .t 6], none, false, []⟩, ⟨some 2, false, .asg (.t 7), none, false, []⟩] [0, 2] [0, 1000]) .ret) .skip)) (.seq (.reg false [⟨some 8, false, .mv (.t 0), none, false, []⟩, ⟨some 9, true, .call (.c (.fn 463 [])) [.t 8, .c (.int .i64 256)], none, false, []⟩, ⟨some 10, false, .bin .mul (.c (.int .i64 140)) (.t 9), none, false, []⟩, ⟨some 11, false, .mv (.t 0), none, false, []⟩, ⟨some 12, true, .call (.c (.fn 463 [])) [.t 11, .c (.int .i64 200)], none, false, []⟩, ⟨some 13, false, .bin .add (.t 10) (.t 12), none, false, []⟩, ⟨some 2, false, .asg (.t 13), none, false, []⟩] [0, 2] [0, 1000]) .ret))) }
noncomputable def spec_l02DrawDay_D : List (Nat × Callee) := [(445, spec_l00Src_among_c), (463, spec_l00Src_pick_c), (642, spec_l00Src_one_c)]
def spec_l02DrawDay_H : List (Nat × ET) := [(6, (.one (.int .i64)))]
noncomputable def spec_l02DrawDay_c : Callee := mkCallee spec_l02DrawDay_D spec_l02DrawDay_H spec_l02DrawDay_ir [.box T_l00Src] [.d (.one (.int .i64))] [.box T_l00Src]
noncomputable def spec_l02DrawDay (a0 : T_l00Src.ty) : Option (Int × T_l00Src.ty) := spec_l02DrawDay_c.f (a0, ())
theorem spec_l02DrawDay_eq (a0 : T_l00Src.ty) : spec_l02DrawDay a0 =
    (spec_l00Src_one a0 8).bind fun x1 =>
      if x1.1 then
        (spec_l00Src_among (x1.2.1, x1.2.2.1, x1.2.2.2.1, ()) [(-1), 0, 59, 60, 36524, 36525, 366, 365]).bind fun x2 =>
          some (x2.1, (x2.2.1, x2.2.2.1, x2.2.2.2.1, ()))
      else
        (spec_l00Src_pick (x1.2.1, x1.2.2.1, x1.2.2.2.1, ()) 256).bind fun x3 =>
          (spec_l00Src_pick (x3.2.1, x3.2.2.1, x3.2.2.2.1, ()) 200).bind fun x4 =>
            some (IntKind.i64.wrap ((IntKind.i64.wrap (140 * x3.1)) + x4.1), (x4.2.1, x4.2.2.1, x4.2.2.2.1, ())) :=
  (mk_f _ _ _ _ _ _ _ 4000).trans (by kernel_rfl)

/- spec.DrawDateOf -/
def spec_DrawDateOf_ir : Fn := { np := 1, io := [], res := [.t 2], own := [false], body :=
  (.seq (.reg false [⟨some 2, false, .asg (.c (.int .i64 0)), none, false, []⟩] [0] []) (.seq (.reg false [⟨some 4, false, .mv (.t 0), none, false, []⟩, ⟨some 5, true, .call (.c (.fn 441 [])) [.t 4], none, false, []⟩, ⟨some 3, false, .asg (.t 5), none, false, []⟩] [3] [5, 6000]) (.seq (.reg false [⟨some 6, false, .mv (.t 3), none, false, []⟩, ⟨some 7, true, .call (.c (.fn 679 [])) [.t 6], none, false, []⟩, ⟨some 2, false, .asg (.t 7), none, false, []⟩] [2] []) .ret))) }
noncomputable def spec_DrawDateOf_D : List (Nat × Callee) := [(441, spec_l00From_c), (679, spec_l02DrawDay_c)]
def spec_DrawDateOf_H : List (Nat × ET) := [(4, (.one (.int .u8)))]
noncomputable def spec_DrawDateOf_c : Callee := mkCallee spec_DrawDateOf_D spec_DrawDateOf_H spec_DrawDateOf_ir [.d (.one (.sl (.one (.int .u8))))] [.d (.one (.int .i64))] []
noncomputable def spec_DrawDateOf (a0 : List Int) : Option (Int) := spec_DrawDateOf_c.f (a0, ())
theorem spec_DrawDateOf_eq (a0 : List Int) : spec_DrawDateOf a0 =
    (spec_l00From a0).bind fun x1 =>
      (spec_l02DrawDay x1).bind fun x2 =>
        some x2.1 :=
  (mk_f _ _ _ _ _ _ _ 4000).trans (by kernel_rfl)

/- impl.within -/
def impl_within_ir : Fn := { np := 3, io := [], res := [.t 6], own := [false], body :=
  (.seq (.reg false [⟨some 6, false, .asg (.c (.bool false)), none, false, []⟩] [0, 1, 2] []) (.seq (.reg false [⟨some 7, false, .mv (.t 1), none, false, []⟩, ⟨some 8, false, .mv (.t 0), none, false, []⟩, ⟨some 9, false, .bin .leq (.t 7) (.t 8), none, false, []⟩, ⟨some 10, false, .mv (.t 9), none, false, []⟩, ⟨some 11, false, .mv (.t 0), some (3, true), false, []⟩, ⟨some 12, false, .mv (.t 2), some (3, true), false, []⟩, ⟨some 13, false, .bin .leq (.t 11) (.t 12), some (3, true), false, []⟩, ⟨some 14, false, .pick (.t 10) (.t 13) (.c (.bool false)), none, false, []⟩, ⟨some 6, false, .asg (.t 14), none, false, []⟩] [6] []) .ret)) }
noncomputable def impl_within_D : List (Nat × Callee) := []
def impl_within_H : List (Nat × ET) := []
noncomputable def impl_within_c : Callee := mkCallee impl_within_D impl_within_H impl_within_ir [.d (.one (.int .i64)), .d (.one (.int .i64)), .d (.one (.int .i64))] [.d (.one .bool)] []
noncomputable def impl_within (a0 : Int) (a1 : Int) (a2 : Int) : Option (Bool) := impl_within_c.f (a0, a1, a2, ())
theorem impl_within_eq (a0 : Int) (a1 : Int) (a2 : Int) : impl_within a0 a1 a2 =
    if decide (a1 ≤ a0) then
      some (decide (a0 ≤ a2))
    else
      some false :=
  (mk_f _ _ _ _ _ _ _ 4000).trans (by kernel_rfl)

/- impl.isDay -/
def impl_isDay_ir : Fn := { np := 1, io := [], res := [.t 2], own := [false], body :=
  (.seq (.reg false [⟨some 2, false, .asg (.c (.bool false)), none, false, []⟩] [0] []) (.seq (.reg false [⟨some 3, false, .mv (.t 0), none, false, []⟩, ⟨some 4, false, .call (.c (.fn 23 [])) [.t 3, .c (.int .i64 0), .c (.int .i64 36524)], none, false, []⟩, ⟨some 2, false, .asg (.t 4), none, false, []⟩] [2] []) .ret)) }
noncomputable def impl_isDay_D : List (Nat × Callee) := [(23, impl_within_c)]
def impl_isDay_H : List (Nat × ET) := []
noncomputable def impl_isDay_c : Callee := mkCallee impl_isDay_D impl_isDay_H impl_isDay_ir [.d (.one (.int .i64))] [.d (.one .bool)] []
noncomputable def impl_isDay (a0 : Int) : Option (Bool) := impl_isDay_c.f (a0, ())
theorem impl_isDay_eq (a0 : Int) : impl_isDay a0 =
    (impl_within a0 0 36524).bind fun x1 =>
      some x1 :=
  (mk_f _ _ _ _ _ _ _ 4000).trans (by kernel_rfl)

/- impl.monthDays -/
def impl_monthDays_ir : Fn := { np := 2, io := [], res := [.t 4], own := [false], body :=
  (.seq (.reg false [⟨some 4, false, .asg (.c (.int .i64 0)), none, false, []⟩] [0, 1] []) (.seq (.seq (.reg false [⟨some 5, false, .mv (.t 1), none, false, []⟩, ⟨some 6, false, .bin .eql (.t 5) (.c (.int .i64 2)), none, false, []⟩, ⟨some 7, false, .mv (.t 6), none, false, []⟩, ⟨some 8, false, .mv (.t 0), some (2, true), false, []⟩, ⟨some 9, false, .bin .rem (.t 8) (.c (.int .i64 4)), some (2, true), false, []⟩, ⟨some 10, false, .bin .eql (.t 9) (.c (.int .i64 0)), some (2, true), false, []⟩, ⟨some 11, false, .pick (.t 7) (.t 10) (.c (.bool false)), none, false, []⟩] [1, 11] []) (.cond (.t 11) (.seq (.reg false [⟨some 4, false, .asg (.c (.int .i64 29)), none, false, []⟩] [4] []) .ret) .skip)) (.seq (.reg false [⟨some 12, false, .build [.int .i64 0, .int .i64 0, .int .i64 0, .int .i64 0, .int .i64 0, .int .i64 0, .int .i64 0, .int .i64 0, .int .i64 0, .int .i64 0, .int .i64 0, .int .i64 0] [(0, 1, .c (.int .i64 31)), (1, 1, .c (.int .i64 28)), (2, 1, .c (.int .i64 31)), (3, 1, .c (.int .i64 30)), (4, 1, .c (.int .i64 31)), (5, 1, .c (.int .i64 30)), (6, 1, .c (.int .i64 31)), (7, 1, .c (.int .i64 31)), (8, 1, .c (.int .i64 30)), (9, 1, .c (.int .i64 31)), (10, 1, .c (.int .i64 30)), (11, 1, .c (.int .i64 31))], none, false, []⟩, ⟨some 13, false, .mv (.t 1), none, false, []⟩, ⟨some 14, false, .bin .sub (.t 13) (.c (.int .i64 1)), none, false, []⟩, ⟨some 15, false, .ixa 12 1 none (.t 12) (.t 14), none, false, []⟩, ⟨some 4, false, .asg (.t 15), none, false, []⟩] [4] []) .ret))) }
noncomputable def impl_monthDays_D : List (Nat × Callee) := []
def impl_monthDays_H : List (Nat × ET) := []
noncomputable def impl_monthDays_c : Callee := mkCallee impl_monthDays_D impl_monthDays_H impl_monthDays_ir [.d (.one (.int .i64)), .d (.one (.int .i64))] [.d (.one (.int .i64))] []
noncomputable def impl_monthDays (a0 : Int) (a1 : Int) : Option (Int) := impl_monthDays_c.f (a0, a1, ())
theorem impl_monthDays_eq (a0 : Int) (a1 : Int) : impl_monthDays a0 a1 =
    if (a1 == 2) then
      if (a0.tmod 4 == 0) then
        some 29
      else
        if decide (IntKind.i64.wrap (a1 - 1) = 0) then
          some 31
        else
          if decide (IntKind.i64.wrap (a1 - 1) = 1) then
            some 28
          else
            if decide (IntKind.i64.wrap (a1 - 1) = 2) then
              some 31
            else
              if decide (IntKind.i64.wrap (a1 - 1) = 3) then
                some 30
              else
                if decide (IntKind.i64.wrap (a1 - 1) = 4) then
                  some 31
                else
                  if decide (IntKind.i64.wrap (a1 - 1) = 5) then
                    some 30
                  else
                    if decide (IntKind.i64.wrap (a1 - 1) = 6) then
                      some 31
                    else
                      if decide (IntKind.i64.wrap (a1 - 1) = 7) then
                        some 31
                      else
                        if decide (IntKind.i64.wrap (a1 - 1) = 8) then
                          some 30
                        else
                          if decide (IntKind.i64.wrap (a1 - 1) = 9) then
                            some 31
                          else
                            if decide (IntKind.i64.wrap (a1 - 1) = 10) then
                              some 30
                            else
                              if decide (IntKind.i64.wrap (a1 - 1) = 11) then
                                some 31
                              else
                                none
    else
      if decide (IntKind.i64.wrap (a1 - 1) = 0) then
        some 31
      else
        if decide (IntKind.i64.wrap (a1 - 1) = 1) then
          some 28
        else
          if decide (IntKind.i64.wrap (a1 - 1) = 2) then
            some 31
          else
            if decide (IntKind.i64.wrap (a1 - 1) = 3) then
              some 30
            else
              if decide (IntKind.i64.wrap (a1 - 1) = 4) then
                some 31
              else
                if decide (IntKind.i64.wrap (a1 - 1) = 5) then
                  some 30
                else
                  if decide (IntKind.i64.wrap (a1 - 1) = 6) then
                    some 31
                  else
                    if decide (IntKind.i64.wrap (a1 - 1) = 7) then
                      some 31
                    else
                      if decide (IntKind.i64.wrap (a1 - 1) = 8) then
                        some 30
                      else
                        if decide (IntKind.i64.wrap (a1 - 1) = 9) then
                          some 31
                        else
                          if decide (IntKind.i64.wrap (a1 - 1) = 10) then
                            some 30
                          else
                            if decide (IntKind.i64.wrap (a1 - 1) = 11) then
                              some 31
                            else
                              none :=
  (mk_f _ _ _ _ _ _ _ 4000).trans (by kernel_rfl)

/- impl.yearDays -/
def impl_yearDays_ir : Fn := { np := 1, io := [], res := [.t 2], own := [false], body :=
  (.seq (.reg false [⟨some 2, false, .asg (.c (.int .i64 0)), none, false, []⟩] [0] []) (.seq (.reg false [⟨some 3, false, .mv (.t 0), none, false, []⟩, ⟨some 4, false, .call (.c (.fn 680 [])) [.t 3, .c (.int .i64 2)], none, false, []⟩, ⟨some 5, false, .bin .add (.c (.int .i64 337)) (.t 4), none, false, []⟩, ⟨some 2, false, .asg (.t 5), none, false, []⟩] [2] []) .ret)) }
noncomputable def impl_yearDays_D : List (Nat × Callee) := [(680, impl_monthDays_c)]
def impl_yearDays_H : List (Nat × ET) := []
noncomputable def impl_yearDays_c : Callee := mkCallee impl_yearDays_D impl_yearDays_H impl_yearDays_ir [.d (.one (.int .i64))] [.d (.one (.int .i64))] []
noncomputable def impl_yearDays (a0 : Int) : Option (Int) := impl_yearDays_c.f (a0, ())
theorem impl_yearDays_eq (a0 : Int) : impl_yearDays a0 =
    (impl_monthDays a0 2).bind fun x1 =>
      some (IntKind.i64.wrap (337 + x1)) :=
  (mk_f _ _ _ _ _ _ _ 4000).trans (by kernel_rfl)

/- impl.DateOf -/
def impl_DateOf_k0 : C :=
  .seq (.seq (.reg false [⟨some 11, false, .mv (.t 0), none, false, []⟩, ⟨some 12, false, .mv (.t 6), none, false, []⟩, ⟨some 13, false, .call (.c (.fn 681 [])) [.t 12], none, false, []⟩, ⟨some 14, false, .bin .geq (.t 11) (.t 13), none, false, []⟩] [0, 6, 14] []) (.cond (.t 14) .skip (.exit 0))) (.block 1 (.seq (.reg false [⟨some 15, false, .mv (.t 0), none, false, []⟩, ⟨some 16, false, .mv (.t 6), none, false, []⟩, ⟨some 17, false, .call (.c (.fn 681 [])) [.t 16], none, false, []⟩, ⟨some 18, false, .bin .sub (.t 15) (.t 17), none, false, []⟩, ⟨some 0, false, .asg (.t 18), none, false, []⟩] [0, 6] []) (.reg false [⟨some 19, false, .mv (.t 6), none, false, []⟩, ⟨some 20, false, .bin .add (.t 19) (.c (.int .i64 1)), none, false, []⟩, ⟨some 6, false, .asg (.t 20), none, false, []⟩] [0, 6] [])))
def impl_DateOf_k1 : C :=
  .norm [0, 6] [] impl_DateOf_k0
def impl_DateOf_k2 : C :=
  .seq (.seq (.reg false [⟨some 21, false, .mv (.t 0), none, false, []⟩, ⟨some 22, false, .mv (.t 6), none, false, []⟩, ⟨some 23, false, .mv (.t 7), none, false, []⟩, ⟨some 24, false, .call (.c (.fn 680 [])) [.t 22, .t 23], none, false, []⟩, ⟨some 25, false, .bin .geq (.t 21) (.t 24), none, false, []⟩] [0, 6, 7, 25] []) (.cond (.t 25) .skip (.exit 2))) (.block 3 (.seq (.reg false [⟨some 26, false, .mv (.t 0), none, false, []⟩, ⟨some 27, false, .mv (.t 6), none, false, []⟩, ⟨some 28, false, .mv (.t 7), none, false, []⟩, ⟨some 29, false, .call (.c (.fn 680 [])) [.t 27, .t 28], none, false, []⟩, ⟨some 30, false, .bin .sub (.t 26) (.t 29), none, false, []⟩, ⟨some 0, false, .asg (.t 30), none, false, []⟩] [0, 6, 7] []) (.reg false [⟨some 31, false, .mv (.t 7), none, false, []⟩, ⟨some 32, false, .bin .add (.t 31) (.c (.int .i64 1)), none, false, []⟩, ⟨some 7, false, .asg (.t 32), none, false, []⟩] [0, 6, 7] [])))
def impl_DateOf_k3 : C :=
  .norm [0, 6, 7] [] impl_DateOf_k2
def impl_DateOf_k4 : C :=
  .seq (.reg false [⟨some 33, false, .mv (.t 6), none, false, []⟩, ⟨some 34, false, .mv (.t 7), none, false, []⟩, ⟨some 35, false, .mv (.t 0), none, false, []⟩, ⟨some 36, false, .bin .add (.t 35) (.c (.int .i64 1)), none, false, []⟩, ⟨some 2, false, .asg (.t 33), none, false, []⟩, ⟨some 3, false, .asg (.t 34), none, false, []⟩, ⟨some 4, false, .asg (.t 36), none, false, []⟩, ⟨some 5, false, .asg (.c (.int .i64 0)), none, false, []⟩] [2, 3, 4, 5] []) .ret
def impl_DateOf_k5 : C :=
  .seq (.reg false [⟨some 7, false, .asg (.c (.int .i64 1)), none, false, []⟩] [0, 6, 7] []) (.seq (.block 2 (.loop impl_DateOf_k3)) impl_DateOf_k4)
def impl_DateOf_ir : Fn := { np := 1, io := [], res := [.t 2, .t 3, .t 4, .t 5], own := [false, false, false, false], body :=
  (.seq (.reg false [⟨some 2, false, .asg (.c (.int .i64 0)), none, false, []⟩, ⟨some 3, false, .asg (.c (.int .i64 0)), none, false, []⟩, ⟨some 4, false, .asg (.c (.int .i64 0)), none, false, []⟩, ⟨some 5, false, .asg (.c (.int .i64 0)), none, false, []⟩] [0] []) (.seq (.seq (.reg false [⟨some 8, false, .mv (.t 0), none, false, []⟩, ⟨some 9, false, .call (.c (.fn 682 [])) [.t 8], none, false, []⟩, ⟨some 10, false, .un .not (.t 9), none, false, []⟩] [0, 10] []) (.cond (.t 10) (.seq (.reg false [⟨some 2, false, .asg (.c (.int .i64 0)), none, false, []⟩, ⟨some 3, false, .asg (.c (.int .i64 0)), none, false, []⟩, ⟨some 4, false, .asg (.c (.int .i64 0)), none, false, []⟩, ⟨some 5, false, .asg (.c (.int .i64 2)), none, false, []⟩] [2, 3, 4, 5] []) .ret) .skip)) (.seq (.reg false [⟨some 6, false, .asg (.c (.int .i64 2000)), none, false, []⟩] [0, 6] []) (.seq (.block 0 (.loop impl_DateOf_k1)) impl_DateOf_k5)))) }
noncomputable def impl_DateOf_D : List (Nat × Callee) := [(680, impl_monthDays_c), (681, impl_yearDays_c), (682, impl_isDay_c)]
def impl_DateOf_H : List (Nat × ET) := []
noncomputable def impl_DateOf_c : Callee := mkCallee impl_DateOf_D impl_DateOf_H impl_DateOf_ir [.d (.one (.int .i64))] [.d (.one (.int .i64)), .d (.one (.int .i64)), .d (.one (.int .i64)), .d (.one (.int .i64))] []
noncomputable def impl_DateOf (a0 : Int) : Option (Int × Int × Int × Int) := impl_DateOf_c.f (a0, ())
noncomputable def impl_DateOf_p0  (v0 : Int) (v6 : Int) : Option (Int × Int × Int × Int) :=
  goL impl_DateOf_D impl_DateOf_H (vleave impl_DateOf_ir [.d (.one (.int .i64))] [.d (.one (.int .i64)), .d (.one (.int .i64)), .d (.one (.int .i64)), .d (.one (.int .i64))] [] []) [.c impl_DateOf_k0, .l impl_DateOf_k1, .e 0, .c impl_DateOf_k5]
    ⟨[(0, .int .i64 v0), (6, .int .i64 v6)], []⟩
noncomputable def impl_DateOf_p1  (v0 : Int) (v6 : Int) (v7 : Int) : Option (Int × Int × Int × Int) :=
  goL impl_DateOf_D impl_DateOf_H (vleave impl_DateOf_ir [.d (.one (.int .i64))] [.d (.one (.int .i64)), .d (.one (.int .i64)), .d (.one (.int .i64)), .d (.one (.int .i64))] [] []) [.c impl_DateOf_k2, .l impl_DateOf_k3, .e 2, .c impl_DateOf_k4]
    ⟨[(0, .int .i64 v0), (6, .int .i64 v6), (7, .int .i64 v7)], []⟩
theorem impl_DateOf_eq (a0 : Int) : impl_DateOf a0 =
    (impl_isDay a0).bind fun x1 =>
      if (!x1) then
        some (0, 0, 0, 2)
      else
        impl_DateOf_p0 a0 2000 :=
  (mk_f _ _ _ _ _ _ _ 4000).trans (by kernel_rfl)
theorem impl_DateOf_p0_eq  (v0 : Int) (v6 : Int) : impl_DateOf_p0 v0 v6 =
    (impl_yearDays v6).bind fun x1 =>
      if decide (v0 ≥ x1) then
        (impl_yearDays v6).bind fun x2 =>
          impl_DateOf_p0 (IntKind.i64.wrap (v0 - x2)) (IntKind.i64.wrap (v6 + 1))
      else
        impl_DateOf_p1 v0 v6 1 :=
  (goL_dn _ _ _ 4000 _ _).trans (by kernel_rfl)
theorem impl_DateOf_p1_eq  (v0 : Int) (v6 : Int) (v7 : Int) : impl_DateOf_p1 v0 v6 v7 =
    (impl_monthDays v6 v7).bind fun x1 =>
      if decide (v0 ≥ x1) then
        (impl_monthDays v6 v7).bind fun x2 =>
          impl_DateOf_p1 (IntKind.i64.wrap (v0 - x2)) v6 (IntKind.i64.wrap (v7 + 1))
      else
        some (v6, v7, IntKind.i64.wrap (v0 + 1), 0) :=
  (goL_dn _ _ _ 4000 _ _).trans (by kernel_rfl)

/- impl.DayNumber -/
def impl_DayNumber_k0 : C :=
  .seq (.seq (.reg false [⟨some 29, false, .mv (.t 9), none, false, []⟩, ⟨some 30, false, .mv (.t 0), none, false, []⟩, ⟨some 31, false, .bin .lss (.t 29) (.t 30), none, false, []⟩] [0, 1, 8, 9, 31] []) (.cond (.t 31) .skip (.exit 0))) (.seq (.block 1 (.reg false [⟨some 34, false, .mv (.t 8), none, false, []⟩, ⟨some 35, false, .mv (.t 9), none, false, []⟩, ⟨some 36, false, .call (.c (.fn 681 [])) [.t 35], none, false, []⟩, ⟨some 37, false, .bin .add (.t 34) (.t 36), none, false, []⟩, ⟨some 8, false, .asg (.t 37), none, false, []⟩] [0, 1, 8, 9] [])) (.reg false [⟨some 32, false, .mv (.t 9), none, false, []⟩, ⟨some 33, false, .bin .add (.t 32) (.c (.int .i64 1)), none, false, []⟩, ⟨some 9, false, .asg (.t 33), none, false, []⟩] [0, 1, 8, 9] []))
def impl_DayNumber_k1 : C :=
  .norm [0, 1, 8, 9] [] impl_DayNumber_k0
def impl_DayNumber_k2 : C :=
  .seq (.seq (.reg false [⟨some 38, false, .mv (.t 10), none, false, []⟩, ⟨some 39, false, .mv (.t 1), none, false, []⟩, ⟨some 40, false, .bin .lss (.t 38) (.t 39), none, false, []⟩] [0, 1, 8, 10, 40] []) (.cond (.t 40) .skip (.exit 2))) (.seq (.block 3 (.reg false [⟨some 43, false, .mv (.t 8), none, false, []⟩, ⟨some 44, false, .mv (.t 0), none, false, []⟩, ⟨some 45, false, .mv (.t 10), none, false, []⟩, ⟨some 46, false, .call (.c (.fn 680 [])) [.t 44, .t 45], none, false, []⟩, ⟨some 47, false, .bin .add (.t 43) (.t 46), none, false, []⟩, ⟨some 8, false, .asg (.t 47), none, false, []⟩] [0, 1, 8, 10] [])) (.reg false [⟨some 41, false, .mv (.t 10), none, false, []⟩, ⟨some 42, false, .bin .add (.t 41) (.c (.int .i64 1)), none, false, []⟩, ⟨some 10, false, .asg (.t 42), none, false, []⟩] [0, 1, 8, 10] []))
def impl_DayNumber_k3 : C :=
  .norm [0, 1, 8, 10] [] impl_DayNumber_k2
def impl_DayNumber_k4 : C :=
  .seq (.reg false [⟨some 48, false, .mv (.t 8), none, false, []⟩, ⟨some 6, false, .asg (.t 48), none, false, []⟩, ⟨some 7, false, .asg (.c (.int .i64 0)), none, false, []⟩] [6, 7] []) .ret
def impl_DayNumber_k5 : C :=
  .seq (.seq (.reg false [⟨some 10, false, .asg (.c (.int .i64 1)), none, false, []⟩] [0, 1, 8, 10] []) (.block 2 (.loop impl_DayNumber_k3))) impl_DayNumber_k4
def impl_DayNumber_k6 : C :=
  .seq (.reg false [⟨some 27, false, .mv (.t 2), none, false, []⟩, ⟨some 28, false, .bin .sub (.t 27) (.c (.int .i64 1)), none, false, []⟩, ⟨some 8, false, .asg (.t 28), none, false, []⟩] [0, 1, 8] []) (.seq (.seq (.reg false [⟨some 9, false, .asg (.c (.int .i64 2000)), none, false, []⟩] [0, 1, 8, 9] []) (.block 0 (.loop impl_DayNumber_k1))) impl_DayNumber_k5)
def impl_DayNumber_ir : Fn := { np := 3, io := [], res := [.t 6, .t 7], own := [false, false], body :=
  (.seq (.reg false [⟨some 6, false, .asg (.c (.int .i64 0)), none, false, []⟩, ⟨some 7, false, .asg (.c (.int .i64 0)), none, false, []⟩] [0, 1, 2] []) (.seq (.seq (.reg false [⟨some 11, false, .mv (.t 0), none, false, []⟩, ⟨some 12, false, .call (.c (.fn 23 [])) [.t 11, .c (.int .i64 2000), .c (.int .i64 2099)], none, false, []⟩, ⟨some 13, false, .un .not (.t 12), none, false, []⟩, ⟨some 14, false, .mv (.t 13), none, false, []⟩, ⟨some 15, false, .mv (.t 1), some (3, false), false, []⟩, ⟨some 16, false, .call (.c (.fn 23 [])) [.t 15, .c (.int .i64 1), .c (.int .i64 12)], some (3, false), false, []⟩, ⟨some 17, false, .un .not (.t 16), some (3, false), false, []⟩, ⟨some 18, false, .pick (.t 14) (.c (.bool true)) (.t 17), none, false, []⟩, ⟨some 19, false, .mv (.t 18), none, false, []⟩, ⟨some 20, false, .mv (.t 2), some (8, false), false, []⟩, ⟨some 21, false, .mv (.t 0), some (8, false), false, []⟩, ⟨some 22, false, .mv (.t 1), some (8, false), false, []⟩, ⟨some 23, false, .call (.c (.fn 680 [])) [.t 21, .t 22], some (8, false), false, []⟩, ⟨some 24, false, .call (.c (.fn 23 [])) [.t 20, .c (.int .i64 1), .t 23], some (8, false), false, []⟩, ⟨some 25, false, .un .not (.t 24), some (8, false), false, []⟩, ⟨some 26, false, .pick (.t 19) (.c (.bool true)) (.t 25), none, false, []⟩] [0, 1, 2, 26] []) (.cond (.t 26) (.seq (.reg false [⟨some 6, false, .asg (.c (.int .i64 0)), none, false, []⟩, ⟨some 7, false, .asg (.c (.int .i64 2)), none, false, []⟩] [6, 7] []) .ret) .skip)) (.norm [0, 1, 2] [] impl_DayNumber_k6))) }
noncomputable def impl_DayNumber_D : List (Nat × Callee) := [(23, impl_within_c), (680, impl_monthDays_c), (681, impl_yearDays_c)]
def impl_DayNumber_H : List (Nat × ET) := []
noncomputable def impl_DayNumber_c : Callee := mkCallee impl_DayNumber_D impl_DayNumber_H impl_DayNumber_ir [.d (.one (.int .i64)), .d (.one (.int .i64)), .d (.one (.int .i64))] [.d (.one (.int .i64)), .d (.one (.int .i64))] []
noncomputable def impl_DayNumber (a0 : Int) (a1 : Int) (a2 : Int) : Option (Int × Int) := impl_DayNumber_c.f (a0, a1, a2, ())
noncomputable def impl_DayNumber_p0  (v0 : Int) (v1 : Int) (v2 : Int) : Option (Int × Int) :=
  goL impl_DayNumber_D impl_DayNumber_H (vleave impl_DayNumber_ir [.d (.one (.int .i64)), .d (.one (.int .i64)), .d (.one (.int .i64))] [.d (.one (.int .i64)), .d (.one (.int .i64))] [] []) [.c impl_DayNumber_k6]
    ⟨[(0, .int .i64 v0), (1, .int .i64 v1), (2, .int .i64 v2)], []⟩
noncomputable def impl_DayNumber_p1  (v0 : Int) (v1 : Int) (v8 : Int) (v9 : Int) : Option (Int × Int) :=
  goL impl_DayNumber_D impl_DayNumber_H (vleave impl_DayNumber_ir [.d (.one (.int .i64)), .d (.one (.int .i64)), .d (.one (.int .i64))] [.d (.one (.int .i64)), .d (.one (.int .i64))] [] []) [.c impl_DayNumber_k0, .l impl_DayNumber_k1, .e 0, .c impl_DayNumber_k5]
    ⟨[(0, .int .i64 v0), (1, .int .i64 v1), (8, .int .i64 v8), (9, .int .i64 v9)], []⟩
noncomputable def impl_DayNumber_p2  (v0 : Int) (v1 : Int) (v8 : Int) (v10 : Int) : Option (Int × Int) :=
  goL impl_DayNumber_D impl_DayNumber_H (vleave impl_DayNumber_ir [.d (.one (.int .i64)), .d (.one (.int .i64)), .d (.one (.int .i64))] [.d (.one (.int .i64)), .d (.one (.int .i64))] [] []) [.c impl_DayNumber_k2, .l impl_DayNumber_k3, .e 2, .c impl_DayNumber_k4]
    ⟨[(0, .int .i64 v0), (1, .int .i64 v1), (8, .int .i64 v8), (10, .int .i64 v10)], []⟩
theorem impl_DayNumber_eq (a0 : Int) (a1 : Int) (a2 : Int) : impl_DayNumber a0 a1 a2 =
    (impl_within a0 2000 2099).bind fun x1 =>
      if (!x1) then
        some (0, 2)
      else
        (impl_within a1 1 12).bind fun x2 =>
          if (!x2) then
            some (0, 2)
          else
            (impl_monthDays a0 a1).bind fun x3 =>
              (impl_within a2 1 x3).bind fun x4 =>
                if (!x4) then
                  some (0, 2)
                else
                  impl_DayNumber_p0 a0 a1 a2 :=
  (mk_f _ _ _ _ _ _ _ 4000).trans (by kernel_rfl)
theorem impl_DayNumber_p0_eq  (v0 : Int) (v1 : Int) (v2 : Int) : impl_DayNumber_p0 v0 v1 v2 =
    impl_DayNumber_p1 v0 v1 (IntKind.i64.wrap (v2 - 1)) 2000 :=
  (goL_dn _ _ _ 4000 _ _).trans (by kernel_rfl)
theorem impl_DayNumber_p1_eq  (v0 : Int) (v1 : Int) (v8 : Int) (v9 : Int) : impl_DayNumber_p1 v0 v1 v8 v9 =
    if decide (v9 < v0) then
      (impl_yearDays v9).bind fun x1 =>
        impl_DayNumber_p1 v0 v1 (IntKind.i64.wrap (v8 + x1)) (IntKind.i64.wrap (v9 + 1))
    else
      impl_DayNumber_p2 v0 v1 v8 1 :=
  (goL_dn _ _ _ 4000 _ _).trans (by kernel_rfl)
theorem impl_DayNumber_p2_eq  (v0 : Int) (v1 : Int) (v8 : Int) (v10 : Int) : impl_DayNumber_p2 v0 v1 v8 v10 =
    if decide (v10 < v1) then
      (impl_monthDays v0 v10).bind fun x1 =>
        impl_DayNumber_p2 v0 v1 (IntKind.i64.wrap (v8 + x1)) (IntKind.i64.wrap (v10 + 1))
    else
      some (v8, 0) :=
  (goL_dn _ _ _ 4000 _ _).trans (by kernel_rfl)

/- strconv.FormatInt -/
noncomputable def strconv_FormatInt_c : Callee := formatIntC
noncomputable def strconv_FormatInt (a0 : Int) (a1 : Int) : Option (List UInt8) := strconv_FormatInt_c.f (a0, a1, ())
theorem strconv_FormatInt_eq (a0 : Int) (a1 : Int) : strconv_FormatInt a0 a1 = if decide (a1 = 10) && (decide (-9223372036854775808 ≤ a0) && decide (a0 ≤ 9223372036854775807)) then some (Lib.itoa a0) else none := rfl

/- impl.Decimal -/
def impl_Decimal_ir : Fn := { np := 1, io := [], res := [.t 2], own := [false], body :=
  (.seq (.reg false [⟨some 2, false, .asg (.c (.str [])), none, false, []⟩] [0] []) (.seq (.reg false [⟨some 3, false, .mv (.t 0), none, false, []⟩, ⟨some 4, false, .call (.c (.fn 864 [])) [.t 3, .c (.int .i64 10)], none, false, []⟩, ⟨some 2, false, .asg (.t 4), none, false, []⟩] [2] []) .ret)) }
noncomputable def impl_Decimal_D : List (Nat × Callee) := [(864, strconv_FormatInt_c)]
def impl_Decimal_H : List (Nat × ET) := []
noncomputable def impl_Decimal_c : Callee := mkCallee impl_Decimal_D impl_Decimal_H impl_Decimal_ir [.d (.one (.int .i64))] [.d (.one .str)] []
noncomputable def impl_Decimal (a0 : Int) : Option (List UInt8) := impl_Decimal_c.f (a0, ())
theorem impl_Decimal_eq (a0 : Int) : impl_Decimal a0 =
    (strconv_FormatInt a0 10).bind fun x1 =>
      some x1 :=
  (mk_f _ _ _ _ _ _ _ 4000).trans (by kernel_rfl)

/- strings.Repeat -/
noncomputable def strings_Repeat_c : Callee := repeatC
noncomputable def strings_Repeat (a0 : List UInt8) (a1 : Int) : Option (List UInt8) := strings_Repeat_c.f (a0, a1, ())
theorem strings_Repeat_eq (a0 : List UInt8) (a1 : Int) : strings_Repeat a0 a1 = if decide (0 ≤ a1) && (decide (a1 ≤ 9223372036854775807) && decide (a0.length * a1.toNat ≤ 140737488355328)) then some (Lib.repeatL a0 a1.toNat) else none := rfl

/- impl.padded -/
def impl_padded_ir : Fn := { np := 2, io := [], res := [.t 4], own := [false], body :=
  (.seq (.reg false [⟨some 4, false, .asg (.c (.str [])), none, false, []⟩] [0, 1] []) (.seq (.reg false [⟨some 6, false, .mv (.t 0), none, false, []⟩, ⟨some 7, false, .call (.c (.fn 524 [])) [.t 6], none, false, []⟩, ⟨some 5, false, .asg (.t 7), none, false, []⟩] [1, 5] []) (.seq (.reg false [⟨some 8, false, .mv (.t 1), none, false, []⟩, ⟨some 9, false, .mv (.t 5), none, false, []⟩, ⟨some 10, false, .lens (.t 9), none, false, []⟩, ⟨some 11, false, .bin .sub (.t 8) (.t 10), none, false, []⟩, ⟨some 12, false, .max [.c (.int .i64 0), .t 11], none, false, []⟩, ⟨some 13, false, .call (.c (.fn 518 [])) [.c (.str [48]), .t 12], none, false, []⟩, ⟨some 14, false, .mv (.t 5), none, false, []⟩, ⟨some 15, false, .bin .add (.t 13) (.t 14), none, false, []⟩, ⟨some 4, false, .asg (.t 15), none, false, []⟩] [4] []) .ret))) }
noncomputable def impl_padded_D : List (Nat × Callee) := [(518, strings_Repeat_c), (524, impl_Decimal_c)]
def impl_padded_H : List (Nat × ET) := []
noncomputable def impl_padded_c : Callee := mkCallee impl_padded_D impl_padded_H impl_padded_ir [.d (.one (.int .i64)), .d (.one (.int .i64))] [.d (.one .str)] []
noncomputable def impl_padded (a0 : Int) (a1 : Int) : Option (List UInt8) := impl_padded_c.f (a0, a1, ())
theorem impl_padded_eq (a0 : Int) (a1 : Int) : impl_padded a0 a1 =
    (impl_Decimal a0).bind fun x1 =>
      (strings_Repeat [48] (if IntKind.i64.wrap (a1 - (x1.length : Int)) > 0 then IntKind.i64.wrap (a1 - (x1.length : Int)) else 0)).bind fun x2 =>
        if decide (x2.length + x1.length ≤ strMax) then
          some (x2 ++ x1)
        else
          none :=
  (mk_f _ _ _ _ _ _ _ 4000).trans (by kernel_rfl)

/- impl.DateText -/
def impl_DateText_ir : Fn := { np := 1, io := [], res := [.t 2], own := [false], body :=
  (.seq (.reg false [⟨some 2, false, .asg (.c (.str [])), none, false, []⟩] [0] []) (.seq (.reg false [⟨some 8, false, .mv (.t 0), none, false, []⟩, ⟨some 9, false, .call (.c (.fn 263 [])) [.t 8], none, false, []⟩, ⟨some 7, false, .mv (.t 9), none, false, []⟩, ⟨some 10, false, .ext (.t 7) 0, none, false, []⟩, ⟨some 11, false, .ext (.t 7) 1, none, false, []⟩, ⟨some 12, false, .ext (.t 7) 2, none, false, []⟩, ⟨some 13, false, .ext (.t 7) 3, none, false, []⟩, ⟨some 3, false, .asg (.t 10), none, false, []⟩, ⟨some 4, false, .asg (.t 11), none, false, []⟩, ⟨some 5, false, .asg (.t 12), none, false, []⟩, ⟨some 6, false, .asg (.t 13), none, false, []⟩] [3, 4, 5, 6] []) (.seq (.seq (.reg false [⟨some 14, false, .mv (.t 6), none, false, []⟩, ⟨some 15, false, .bin .neq (.t 14) (.c (.int .i64 0)), none, false, []⟩] [3, 4, 5, 15] []) (.cond (.t 15) (.seq (.reg false [⟨some 2, false, .asg (.c (.str [])), none, false, []⟩] [2] []) .ret) .skip)) (.seq (.reg false [⟨some 16, false, .mv (.t 3), none, false, []⟩, ⟨some 17, false, .call (.c (.fn 524 [])) [.t 16], none, false, []⟩, ⟨some 18, false, .bin .add (.t 17) (.c (.str [45])), none, false, []⟩, ⟨some 19, false, .mv (.t 4), none, false, []⟩, ⟨some 20, false, .call (.c (.fn 668 [])) [.t 19, .c (.int .i64 2)], none, false, []⟩, ⟨some 21, false, .bin .add (.t 18) (.t 20), none, false, []⟩, ⟨some 22, false, .bin .add (.t 21) (.c (.str [45])), none, false, []⟩, ⟨some 23, false, .mv (.t 5), none, false, []⟩, ⟨some 24, false, .call (.c (.fn 668 [])) [.t 23, .c (.int .i64 2)], none, false, []⟩, ⟨some 25, false, .bin .add (.t 22) (.t 24), none, false, []⟩, ⟨some 2, false, .asg (.t 25), none, false, []⟩] [2] []) .ret)))) }
noncomputable def impl_DateText_D : List (Nat × Callee) := [(263, impl_DateOf_c), (524, impl_Decimal_c), (668, impl_padded_c)]
def impl_DateText_H : List (Nat × ET) := []
noncomputable def impl_DateText_c : Callee := mkCallee impl_DateText_D impl_DateText_H impl_DateText_ir [.d (.one (.int .i64))] [.d (.one .str)] []
noncomputable def impl_DateText (a0 : Int) : Option (List UInt8) := impl_DateText_c.f (a0, ())
theorem impl_DateText_eq (a0 : Int) : impl_DateText a0 =
    (impl_DateOf a0).bind fun x1 =>
      if (x1.2.2.2 != 0) then
        some []
      else
        (impl_Decimal x1.1).bind fun x2 =>
          if decide (x2.length + [45].length ≤ strMax) then
            (impl_padded x1.2.1 2).bind fun x3 =>
              if decide ((x2 ++ [45]).length + x3.length ≤ strMax) then
                if decide (((x2 ++ [45]) ++ x3).length + [45].length ≤ strMax) then
                  (impl_padded x1.2.2.1 2).bind fun x4 =>
                    if decide ((((x2 ++ [45]) ++ x3) ++ [45]).length + x4.length ≤ strMax) then
                      some ((((x2 ++ [45]) ++ x3) ++ [45]) ++ x4)
                    else
                      none
                else
                  none
              else
                none
          else
            none :=
  (mk_f _ _ _ _ _ _ _ 4000).trans (by kernel_rfl)

/- strings.Split -/
noncomputable def strings_Split_c : Callee := splitC
noncomputable def strings_Split (a0 : List UInt8) (a1 : List UInt8) : Option (List (List UInt8)) := strings_Split_c.f (a0, a1, ())
theorem strings_Split_eq (a0 : List UInt8) (a1 : List UInt8) : strings_Split a0 a1 = if decide (a0.length < 4294967281) && decide (1 ≤ a1.length) then some (Lib.splitK a1 0 (Lib.count a0 a1) a0) else none := rfl

/- impl.isDigit -/
def impl_isDigit_ir : Fn := { np := 1, io := [], res := [.t 2], own := [false], body :=
  (.seq (.reg false [⟨some 2, false, .asg (.c (.bool false)), none, false, []⟩] [0] []) (.seq (.reg false [⟨some 3, false, .mv (.t 0), none, false, []⟩, ⟨some 4, false, .bin .geq (.t 3) (.c (.int .u8 48)), none, false, []⟩, ⟨some 5, false, .mv (.t 4), none, false, []⟩, ⟨some 6, false, .mv (.t 0), some (2, true), false, []⟩, ⟨some 7, false, .bin .leq (.t 6) (.c (.int .u8 57)), some (2, true), false, []⟩, ⟨some 8, false, .pick (.t 5) (.t 7) (.c (.bool false)), none, false, []⟩, ⟨some 2, false, .asg (.t 8), none, false, []⟩] [2] []) .ret)) }
noncomputable def impl_isDigit_D : List (Nat × Callee) := []
def impl_isDigit_H : List (Nat × ET) := []
noncomputable def impl_isDigit_c : Callee := mkCallee impl_isDigit_D impl_isDigit_H impl_isDigit_ir [.d (.one (.int .u8))] [.d (.one .bool)] []
noncomputable def impl_isDigit (a0 : Int) : Option (Bool) := impl_isDigit_c.f (a0, ())
theorem impl_isDigit_eq (a0 : Int) : impl_isDigit a0 =
    if decide (a0 ≥ 48) then
      some (decide (a0 ≤ 57))
    else
      some false :=
  (mk_f _ _ _ _ _ _ _ 4000).trans (by kernel_rfl)

/- impl.digitsOf -/
def impl_digitsOf_k0 : C :=
  .seq (.seq (.reg false [⟨some 13, false, .mv (.t 5), none, false, []⟩, ⟨some 14, false, .mv (.t 0), none, false, []⟩, ⟨some 15, false, .lens (.t 14), none, false, []⟩, ⟨some 16, false, .bin .lss (.t 13) (.t 15), none, false, []⟩] [0, 4, 5, 16] []) (.cond (.t 16) .skip (.exit 0))) (.seq (.block 1 (.seq (.seq (.reg false [⟨some 19, false, .mv (.t 0), none, false, []⟩, ⟨some 20, false, .mv (.t 5), none, false, []⟩, ⟨some 21, false, .ix (.t 19) (.t 20), none, false, []⟩, ⟨some 22, false, .call (.c (.fn 22 [])) [.t 21], none, false, []⟩, ⟨some 23, false, .un .not (.t 22), none, false, []⟩] [0, 4, 5, 23] []) (.cond (.t 23) (.seq (.reg false [⟨some 2, false, .asg (.c (.int .i64 0)), none, false, []⟩, ⟨some 3, false, .asg (.c (.bool false)), none, false, []⟩] [2, 3] []) .ret) .skip)) (.reg false [⟨some 24, false, .mv (.t 4), none, false, []⟩, ⟨some 25, false, .bin .mul (.c (.int .i64 10)) (.t 24), none, false, []⟩, ⟨some 26, false, .mv (.t 0), none, false, []⟩, ⟨some 27, false, .mv (.t 5), none, false, []⟩, ⟨some 28, false, .ix (.t 26) (.t 27), none, false, []⟩, ⟨some 29, false, .bin .sub (.t 28) (.c (.int .u8 48)), none, false, []⟩, ⟨some 30, false, .conv (.int .i64) (.t 29), none, false, []⟩, ⟨some 31, false, .bin .add (.t 25) (.t 30), none, false, []⟩, ⟨some 4, false, .asg (.t 31), none, false, []⟩] [0, 4, 5] []))) (.reg false [⟨some 17, false, .mv (.t 5), none, false, []⟩, ⟨some 18, false, .bin .add (.t 17) (.c (.int .i64 1)), none, false, []⟩, ⟨some 5, false, .asg (.t 18), none, false, []⟩] [0, 4, 5] []))
def impl_digitsOf_k1 : C :=
  .norm [0, 4, 5] [] impl_digitsOf_k0
def impl_digitsOf_k2 : C :=
  .seq (.reg false [⟨some 32, false, .mv (.t 4), none, false, []⟩, ⟨some 2, false, .asg (.t 32), none, false, []⟩, ⟨some 3, false, .asg (.c (.bool true)), none, false, []⟩] [2, 3] []) .ret
def impl_digitsOf_k3 : C :=
  .seq (.reg false [⟨some 4, false, .asg (.c (.int .i64 0)), none, false, []⟩] [0, 4] []) (.seq (.seq (.reg false [⟨some 5, false, .asg (.c (.int .i64 0)), none, false, []⟩] [0, 4, 5] []) (.block 0 (.loop impl_digitsOf_k1))) impl_digitsOf_k2)
def impl_digitsOf_ir : Fn := { np := 1, io := [], res := [.t 2, .t 3], own := [false, false], body :=
  (.seq (.reg false [⟨some 2, false, .asg (.c (.int .i64 0)), none, false, []⟩, ⟨some 3, false, .asg (.c (.bool false)), none, false, []⟩] [0] []) (.seq (.seq (.reg false [⟨some 6, false, .mv (.t 0), none, false, []⟩, ⟨some 7, false, .bin .eql (.t 6) (.c (.str [])), none, false, []⟩, ⟨some 8, false, .mv (.t 7), none, false, []⟩, ⟨some 9, false, .mv (.t 0), some (2, false), false, []⟩, ⟨some 10, false, .lens (.t 9), some (2, false), false, []⟩, ⟨some 11, false, .bin .gtr (.t 10) (.c (.int .i64 18)), some (2, false), false, []⟩, ⟨some 12, false, .pick (.t 8) (.c (.bool true)) (.t 11), none, false, []⟩] [0, 12] []) (.cond (.t 12) (.seq (.reg false [⟨some 2, false, .asg (.c (.int .i64 0)), none, false, []⟩, ⟨some 3, false, .asg (.c (.bool false)), none, false, []⟩] [2, 3] []) .ret) .skip)) (.norm [0] [] impl_digitsOf_k3))) }
noncomputable def impl_digitsOf_D : List (Nat × Callee) := [(22, impl_isDigit_c)]
def impl_digitsOf_H : List (Nat × ET) := []
noncomputable def impl_digitsOf_c : Callee := mkCallee impl_digitsOf_D impl_digitsOf_H impl_digitsOf_ir [.d (.one .str)] [.d (.one (.int .i64)), .d (.one .bool)] []
noncomputable def impl_digitsOf (a0 : List UInt8) : Option (Int × Bool) := impl_digitsOf_c.f (a0, ())
noncomputable def impl_digitsOf_p0  (v0 : List UInt8) : Option (Int × Bool) :=
  goL impl_digitsOf_D impl_digitsOf_H (vleave impl_digitsOf_ir [.d (.one .str)] [.d (.one (.int .i64)), .d (.one .bool)] [] []) [.c impl_digitsOf_k3]
    ⟨[(0, .str v0)], []⟩
noncomputable def impl_digitsOf_p1  (v0 : List UInt8) (v4 : Int) (v5 : Int) : Option (Int × Bool) :=
  goL impl_digitsOf_D impl_digitsOf_H (vleave impl_digitsOf_ir [.d (.one .str)] [.d (.one (.int .i64)), .d (.one .bool)] [] []) [.c impl_digitsOf_k0, .l impl_digitsOf_k1, .e 0, .c impl_digitsOf_k2]
    ⟨[(0, .str v0), (4, .int .i64 v4), (5, .int .i64 v5)], []⟩
theorem impl_digitsOf_eq (a0 : List UInt8) : impl_digitsOf a0 =
    if (a0 == []) then
      some (0, false)
    else
      if decide ((a0.length : Int) > 18) then
        some (0, false)
      else
        impl_digitsOf_p0 a0 :=
  (mk_f _ _ _ _ _ _ _ 4000).trans (by kernel_rfl)
theorem impl_digitsOf_p0_eq  (v0 : List UInt8) : impl_digitsOf_p0 v0 =
    impl_digitsOf_p1 v0 0 0 :=
  (goL_dn _ _ _ 4000 _ _).trans (by kernel_rfl)
theorem impl_digitsOf_p1_eq  (v0 : List UInt8) (v4 : Int) (v5 : Int) : impl_digitsOf_p1 v0 v4 v5 =
    if decide (v5 < (v0.length : Int)) then
      if decide (0 ≤ v5) then
        (v0[v5.toNat]?).bind fun x1 =>
          (impl_isDigit (x1.toNat : Int)).bind fun x2 =>
            if (!x2) then
              some (0, false)
            else
              if decide (0 ≤ v5) then
                (v0[v5.toNat]?).bind fun x3 =>
                  impl_digitsOf_p1 v0 (IntKind.i64.wrap ((IntKind.i64.wrap (10 * v4)) + (IntKind.i64.wrap (IntKind.u8.wrap ((x3.toNat : Int) - 48))))) (IntKind.i64.wrap (v5 + 1))
              else
                none
      else
        none
    else
      some (v4, true) :=
  (goL_dn _ _ _ 4000 _ _).trans (by kernel_rfl)

/- impl.ReadDate -/
def impl_ReadDate_k0 : C :=
  .seq (.reg false [⟨some 18, false, .bin .lss (.t 17) (.t 16), none, false, []⟩] [0, 5, 15, 16, 17, 18] [4, 5]) (.seq (.cond (.t 18) .skip (.exit 0)) (.seq (.block 1 (.seq (.reg false [⟨some 19, false, .mv (.t 17), none, false, []⟩, ⟨some 20, false, .ia 1 (.t 15) (.t 17), none, false, []⟩, ⟨some 21, false, .ld none (.t 20), none, false, []⟩, ⟨some 6, false, .asg (.t 19), none, false, []⟩, ⟨some 7, false, .asg (.t 21), none, false, []⟩] [0, 5, 6, 7, 15, 16, 17] [4, 5]) (.reg false [⟨some 23, false, .mv (.t 6), none, false, []⟩, ⟨some 24, false, .mv (.t 7), none, false, []⟩, ⟨some 25, false, .call (.c (.fn 673 [])) [.t 24], none, false, []⟩, ⟨some 22, false, .mv (.t 25), none, false, []⟩, ⟨some 26, false, .ext (.t 22) 0, none, false, []⟩, ⟨some 27, false, .ext (.t 22) 1, none, false, []⟩, ⟨some 28, false, .iaa 3 1 (.t 5) (.t 23), none, false, []⟩, ⟨none, true, .sto 1 (.t 28) (.t 26), none, false, []⟩] [0, 5, 15, 16, 17] [4, 5]))) (.reg false [⟨some 29, false, .bin .add (.t 17) (.c (.int .i64 1)), none, false, []⟩, ⟨some 17, false, .mv (.t 29), none, false, []⟩] [0, 5, 15, 16, 17] [4, 5])))
def impl_ReadDate_k1 : C :=
  .norm [0, 5, 15, 16, 17] [4, 5] impl_ReadDate_k0
def impl_ReadDate_k2 : C :=
  .seq (.reg false [⟨some 31, false, .iaa 3 1 (.t 5) (.c (.int .i64 0)), none, false, []⟩, ⟨some 32, false, .ld none (.t 31), none, false, []⟩, ⟨some 33, false, .iaa 3 1 (.t 5) (.c (.int .i64 1)), none, false, []⟩, ⟨some 34, false, .ld none (.t 33), none, false, []⟩, ⟨some 35, false, .iaa 3 1 (.t 5) (.c (.int .i64 2)), none, false, []⟩, ⟨some 36, false, .ld none (.t 35), none, false, []⟩, ⟨some 37, false, .call (.c (.fn 262 [])) [.t 32, .t 34, .t 36], none, false, []⟩, ⟨some 30, false, .mv (.t 37), none, false, []⟩, ⟨some 38, false, .ext (.t 30) 0, none, false, []⟩, ⟨some 39, false, .ext (.t 30) 1, none, false, []⟩, ⟨some 8, false, .asg (.t 38), none, false, []⟩, ⟨some 9, false, .asg (.t 39), none, false, []⟩] [0, 8, 9] []) (.seq (.seq (.reg false [⟨some 40, false, .mv (.t 9), none, false, []⟩, ⟨some 41, false, .bin .neq (.t 40) (.c (.int .i64 0)), none, false, []⟩, ⟨some 42, false, .mv (.t 41), none, false, []⟩, ⟨some 43, false, .mv (.t 8), some (2, false), false, []⟩, ⟨some 44, false, .call (.c (.fn 260 [])) [.t 43], some (2, false), false, []⟩, ⟨some 45, false, .mv (.t 0), some (2, false), false, []⟩, ⟨some 46, false, .bin .neq (.t 44) (.t 45), some (2, false), false, []⟩, ⟨some 47, false, .pick (.t 42) (.c (.bool true)) (.t 46), none, false, []⟩] [8, 47] []) (.cond (.t 47) (.seq (.reg false [⟨some 2, false, .asg (.c (.int .i64 0)), none, false, []⟩, ⟨some 3, false, .asg (.c (.bool false)), none, false, []⟩] [2, 3] []) .ret) .skip)) (.seq (.reg false [⟨some 48, false, .mv (.t 8), none, false, []⟩, ⟨some 2, false, .asg (.t 48), none, false, []⟩, ⟨some 3, false, .asg (.c (.bool true)), none, false, []⟩] [2, 3] []) .ret))
def impl_ReadDate_ir : Fn := { np := 1, io := [], res := [.t 2, .t 3], own := [false, false], body :=
  (.seq (.reg false [⟨some 2, false, .asg (.c (.int .i64 0)), none, false, []⟩, ⟨some 3, false, .asg (.c (.bool false)), none, false, []⟩] [0] []) (.seq (.reg false [⟨some 10, false, .mv (.t 0), none, false, []⟩, ⟨some 11, false, .call (.c (.fn 683 [])) [.t 10, .c (.str [45])], none, false, []⟩, ⟨some 4, true, .asg (.t 11), none, false, []⟩] [0, 4] [4]) (.seq (.seq (.reg false [⟨some 12, false, .mv (.t 4), none, false, []⟩, ⟨some 13, false, .len (.t 12), none, false, []⟩, ⟨some 14, false, .bin .neq (.t 13) (.c (.int .i64 3)), none, false, []⟩] [0, 4, 14] [4]) (.cond (.t 14) (.seq (.reg false [⟨some 2, false, .asg (.c (.int .i64 0)), none, false, []⟩, ⟨some 3, false, .asg (.c (.bool false)), none, false, []⟩] [2, 3] []) .ret) .skip)) (.seq (.reg false [⟨some 5, true, .alloc 3 (.agg [.int .i64 0, .int .i64 0, .int .i64 0]), none, false, []⟩] [0, 4, 5] [4, 5]) (.seq (.seq (.reg false [⟨some 15, false, .mv (.t 4), none, false, []⟩, ⟨some 16, false, .len (.t 15), none, false, []⟩, ⟨some 17, false, .mv (.c (.int .i64 0)), none, false, []⟩] [0, 5, 15, 16, 17] [4, 5]) (.block 0 (.loop impl_ReadDate_k1))) impl_ReadDate_k2))))) }
noncomputable def impl_ReadDate_D : List (Nat × Callee) := [(260, impl_DateText_c), (262, impl_DayNumber_c), (673, impl_digitsOf_c), (683, strings_Split_c)]
def impl_ReadDate_H : List (Nat × ET) := [(4, (.one .str)), (11, (.one .str)), (12, (.one .str)), (15, (.one .str))]
noncomputable def impl_ReadDate_c : Callee := mkCallee impl_ReadDate_D impl_ReadDate_H impl_ReadDate_ir [.d (.one .str)] [.d (.one (.int .i64)), .d (.one .bool)] []
noncomputable def impl_ReadDate (a0 : List UInt8) : Option (Int × Bool) := impl_ReadDate_c.f (a0, ())
noncomputable def impl_ReadDate_p0  (v0 : List UInt8) (v16 : Int) (v17 : Int) (r4 : List (List UInt8)) (r5_0 : Int) (r5_1 : Int) (r5_2 : Int) : Option (Int × Bool) :=
  goL impl_ReadDate_D impl_ReadDate_H (vleave impl_ReadDate_ir [.d (.one .str)] [.d (.one (.int .i64)), .d (.one .bool)] [] []) [.c impl_ReadDate_k0, .l impl_ReadDate_k1, .e 0, .c impl_ReadDate_k2]
    ⟨[(0, .str v0), (5, .loc 5 0 0), (15, .view 4 0 r4.length), (16, .int .i64 v16), (17, .int .i64 v17)], [(4, some (.sl (.one .str) r4)), (5, some (.var 3 (.agg [.int .i64 r5_0, .int .i64 r5_1, .int .i64 r5_2])))]⟩
theorem impl_ReadDate_eq (a0 : List UInt8) : impl_ReadDate a0 =
    (strings_Split a0 [45]).bind fun x1 =>
      if ((x1.length : Int) != 3) then
        some (0, false)
      else
        impl_ReadDate_p0 a0 (x1.length : Int) 0 x1 0 0 0 :=
  (mk_f _ _ _ _ _ _ _ 4000).trans (by kernel_rfl)
theorem impl_ReadDate_p0_eq  (v0 : List UInt8) (v16 : Int) (v17 : Int) (r4 : List (List UInt8)) (r5_0 : Int) (r5_1 : Int) (r5_2 : Int) : impl_ReadDate_p0 v0 v16 v17 r4 r5_0 r5_1 r5_2 =
    if decide (v17 < v16) then
      if decide (0 ≤ v17) && decide (v17 < (r4.length : Int)) then
        (r4[v17.toNat]?).bind fun x1 =>
          (impl_digitsOf x1).bind fun x2 =>
            if decide (v17 = 0) then
              impl_ReadDate_p0 v0 v16 (IntKind.i64.wrap (v17 + 1)) r4 x2.1 r5_1 r5_2
            else
              if decide (v17 = 1) then
                impl_ReadDate_p0 v0 v16 (IntKind.i64.wrap (v17 + 1)) r4 r5_0 x2.1 r5_2
              else
                if decide (v17 = 2) then
                  impl_ReadDate_p0 v0 v16 (IntKind.i64.wrap (v17 + 1)) r4 r5_0 r5_1 x2.1
                else
                  none
      else
        none
    else
      (impl_DayNumber r5_0 r5_1 r5_2).bind fun x3 =>
        if (x3.2 != 0) then
          some (0, false)
        else
          (impl_DateText x3.1).bind fun x4 =>
            if (!(x4 == v0)) then
              some (0, false)
            else
              some (x3.1, true) :=
  (goL_dn _ _ _ 4000 _ _).trans (by kernel_rfl)

/- impl.weekday -/
def impl_weekday_ir : Fn := { np := 1, io := [], res := [.t 2], own := [false], body :=
  (.seq (.reg false [⟨some 2, false, .asg (.c (.int .i64 0)), none, false, []⟩] [0] []) (.seq (.reg false [⟨some 3, false, .mv (.t 0), none, false, []⟩, ⟨some 4, false, .bin .add (.t 3) (.c (.int .i64 5)), none, false, []⟩, ⟨some 5, false, .bin .rem (.t 4) (.c (.int .i64 7)), none, false, []⟩, ⟨some 2, false, .asg (.t 5), none, false, []⟩] [2] []) .ret)) }
noncomputable def impl_weekday_D : List (Nat × Callee) := []
def impl_weekday_H : List (Nat × ET) := []
noncomputable def impl_weekday_c : Callee := mkCallee impl_weekday_D impl_weekday_H impl_weekday_ir [.d (.one (.int .i64))] [.d (.one (.int .i64))] []
noncomputable def impl_weekday (a0 : Int) : Option (Int) := impl_weekday_c.f (a0, ())
theorem impl_weekday_eq (a0 : Int) : impl_weekday a0 =
    some ((IntKind.i64.wrap (a0 + 5)).tmod 7) :=
  (mk_f _ _ _ _ _ _ _ 4000).trans (by kernel_rfl)

/- impl.WeekdayOf -/
def impl_WeekdayOf_ir : Fn := { np := 1, io := [], res := [.t 2, .t 3], own := [false, false], body :=
  (.seq (.reg false [⟨some 2, false, .asg (.c (.int .i64 0)), none, false, []⟩, ⟨some 3, false, .asg (.c (.int .i64 0)), none, false, []⟩] [0] []) (.seq (.seq (.reg false [⟨some 4, false, .mv (.t 0), none, false, []⟩, ⟨some 5, false, .call (.c (.fn 682 [])) [.t 4], none, false, []⟩, ⟨some 6, false, .un .not (.t 5), none, false, []⟩] [0, 6] []) (.cond (.t 6) (.seq (.reg false [⟨some 2, false, .asg (.c (.int .i64 0)), none, false, []⟩, ⟨some 3, false, .asg (.c (.int .i64 2)), none, false, []⟩] [2, 3] []) .ret) .skip)) (.seq (.reg false [⟨some 7, false, .mv (.t 0), none, false, []⟩, ⟨some 8, false, .call (.c (.fn 684 [])) [.t 7], none, false, []⟩, ⟨some 2, false, .asg (.t 8), none, false, []⟩, ⟨some 3, false, .asg (.c (.int .i64 0)), none, false, []⟩] [2, 3] []) .ret))) }
noncomputable def impl_WeekdayOf_D : List (Nat × Callee) := [(682, impl_isDay_c), (684, impl_weekday_c)]
def impl_WeekdayOf_H : List (Nat × ET) := []
noncomputable def impl_WeekdayOf_c : Callee := mkCallee impl_WeekdayOf_D impl_WeekdayOf_H impl_WeekdayOf_ir [.d (.one (.int .i64))] [.d (.one (.int .i64)), .d (.one (.int .i64))] []
noncomputable def impl_WeekdayOf (a0 : Int) : Option (Int × Int) := impl_WeekdayOf_c.f (a0, ())
theorem impl_WeekdayOf_eq (a0 : Int) : impl_WeekdayOf a0 =
    (impl_isDay a0).bind fun x1 =>
      if (!x1) then
        some (0, 2)
      else
        (impl_weekday a0).bind fun x2 =>
          some (x2, 0) :=
  (mk_f _ _ _ _ _ _ _ 4000).trans (by kernel_rfl)

/- spec.DrawWorkDays -/
def spec_DrawWorkDays_ir : Fn := { np := 1, io := [], res := [.t 2, .t 3], own := [false, false], body :=
  (.seq (.reg false [⟨some 2, false, .asg (.c (.int .i64 0)), none, false, []⟩, ⟨some 3, false, .asg (.c (.int .i64 0)), none, false, []⟩] [0] []) (.seq (.reg false [⟨some 6, false, .mv (.t 0), none, false, []⟩, ⟨some 7, true, .call (.c (.fn 441 [])) [.t 6], none, false, []⟩, ⟨some 4, false, .asg (.t 7), none, false, []⟩] [4] [7, 8000]) (.seq (.reg false [⟨some 8, false, .mv (.t 4), none, false, []⟩, ⟨some 9, true, .call (.c (.fn 679 [])) [.t 8], none, false, []⟩, ⟨some 5, false, .asg (.t 9), none, false, []⟩] [4, 5] [7, 8000]) (.seq (.reg false [⟨some 10, false, .mv (.t 5), none, false, []⟩, ⟨some 11, false, .mv (.t 5), none, false, []⟩, ⟨some 12, false, .mv (.t 4), none, false, []⟩, ⟨some 13, false, .bsl 1 (.int .i64 0) 7 [(0, .c (.int .i64 0)), (1, .c (.int .i64 1)), (2, .c (.int .i64 7)), (3, .c (.int .i64 30)), (4, .c (.int .i64 365)), (5, .c (.int .i64 (-1))), (6, .c (.int .i64 5))], none, false, []⟩, ⟨some 14, true, .call (.c (.fn 445 [])) [.t 12, .t 13], none, false, []⟩, ⟨some 15, false, .bin .add (.t 11) (.t 14), none, false, []⟩, ⟨some 2, false, .asg (.t 10), none, false, []⟩, ⟨some 3, false, .asg (.t 15), none, false, []⟩] [2, 3] []) .ret)))) }
noncomputable def spec_DrawWorkDays_D : List (Nat × Callee) := [(441, spec_l00From_c), (445, spec_l00Src_among_c), (679, spec_l02DrawDay_c)]
def spec_DrawWorkDays_H : List (Nat × ET) := [(6, (.one (.int .u8))), (13, (.one (.int .i64)))]
noncomputable def spec_DrawWorkDays_c : Callee := mkCallee spec_DrawWorkDays_D spec_DrawWorkDays_H spec_DrawWorkDays_ir [.d (.one (.sl (.one (.int .u8))))] [.d (.one (.int .i64)), .d (.one (.int .i64))] []
noncomputable def spec_DrawWorkDays (a0 : List Int) : Option (Int × Int) := spec_DrawWorkDays_c.f (a0, ())
theorem spec_DrawWorkDays_eq (a0 : List Int) : spec_DrawWorkDays a0 =
    (spec_l00From a0).bind fun x1 =>
      (spec_l02DrawDay x1).bind fun x2 =>
        (spec_l00Src_among (x2.2.1, x2.2.2.1, x2.2.2.2.1, ()) [0, 1, 7, 30, 365, (-1), 5]).bind fun x3 =>
          some (x2.1, IntKind.i64.wrap (x2.1 + x3.1)) :=
  (mk_f _ _ _ _ _ _ _ 4000).trans (by kernel_rfl)

/- impl.WorkDays -/
def impl_WorkDays_k0 : C :=
  .seq (.seq (.reg false [⟨some 28, false, .mv (.t 7), none, false, []⟩, ⟨some 29, false, .mv (.t 1), none, false, []⟩, ⟨some 30, false, .bin .lss (.t 28) (.t 29), none, false, []⟩] [1, 6, 7, 30] []) (.cond (.t 30) .skip (.exit 0))) (.seq (.block 1 (.seq (.reg false [⟨some 33, false, .mv (.t 7), none, false, []⟩, ⟨some 34, false, .call (.c (.fn 684 [])) [.t 33], none, false, []⟩, ⟨some 35, false, .bin .lss (.t 34) (.c (.int .i64 5)), none, false, []⟩] [1, 6, 7, 35] []) (.cond (.t 35) (.reg false [⟨some 36, false, .mv (.t 6), none, false, []⟩, ⟨some 37, false, .bin .add (.t 36) (.c (.int .i64 1)), none, false, []⟩, ⟨some 6, false, .asg (.t 37), none, false, []⟩] [1, 6, 7] []) .skip))) (.reg false [⟨some 31, false, .mv (.t 7), none, false, []⟩, ⟨some 32, false, .bin .add (.t 31) (.c (.int .i64 1)), none, false, []⟩, ⟨some 7, false, .asg (.t 32), none, false, []⟩] [1, 6, 7] []))
def impl_WorkDays_k1 : C :=
  .norm [1, 6, 7] [] impl_WorkDays_k0
def impl_WorkDays_k2 : C :=
  .seq (.reg false [⟨some 38, false, .mv (.t 6), none, false, []⟩, ⟨some 4, false, .asg (.t 38), none, false, []⟩, ⟨some 5, false, .asg (.c (.int .i64 0)), none, false, []⟩] [4, 5] []) .ret
def impl_WorkDays_k3 : C :=
  .seq (.reg false [⟨some 17, false, .mv (.t 1), none, false, []⟩, ⟨some 18, false, .mv (.t 0), none, false, []⟩, ⟨some 19, false, .bin .sub (.t 17) (.t 18), none, false, []⟩, ⟨some 20, false, .bin .quo (.t 19) (.c (.int .i64 7)), none, false, []⟩, ⟨some 21, false, .bin .mul (.t 20) (.c (.int .i64 5)), none, false, []⟩, ⟨some 6, false, .asg (.t 21), none, false, []⟩] [0, 1, 6] []) (.seq (.seq (.reg false [⟨some 22, false, .mv (.t 1), none, false, []⟩, ⟨some 23, false, .mv (.t 1), none, false, []⟩, ⟨some 24, false, .mv (.t 0), none, false, []⟩, ⟨some 25, false, .bin .sub (.t 23) (.t 24), none, false, []⟩, ⟨some 26, false, .bin .rem (.t 25) (.c (.int .i64 7)), none, false, []⟩, ⟨some 27, false, .bin .sub (.t 22) (.t 26), none, false, []⟩, ⟨some 7, false, .asg (.t 27), none, false, []⟩] [1, 6, 7] []) (.block 0 (.loop impl_WorkDays_k1))) impl_WorkDays_k2)
def impl_WorkDays_ir : Fn := { np := 2, io := [], res := [.t 4, .t 5], own := [false, false], body :=
  (.seq (.reg false [⟨some 4, false, .asg (.c (.int .i64 0)), none, false, []⟩, ⟨some 5, false, .asg (.c (.int .i64 0)), none, false, []⟩] [0, 1] []) (.seq (.seq (.reg false [⟨some 8, false, .mv (.t 0), none, false, []⟩, ⟨some 9, false, .call (.c (.fn 682 [])) [.t 8], none, false, []⟩, ⟨some 10, false, .un .not (.t 9), none, false, []⟩, ⟨some 11, false, .mv (.t 10), none, false, []⟩, ⟨some 12, false, .mv (.t 1), some (3, false), false, []⟩, ⟨some 13, false, .mv (.t 0), some (3, false), false, []⟩, ⟨some 14, false, .call (.c (.fn 23 [])) [.t 12, .t 13, .c (.int .i64 36525)], some (3, false), false, []⟩, ⟨some 15, false, .un .not (.t 14), some (3, false), false, []⟩, ⟨some 16, false, .pick (.t 11) (.c (.bool true)) (.t 15), none, false, []⟩] [0, 1, 16] []) (.cond (.t 16) (.seq (.reg false [⟨some 4, false, .asg (.c (.int .i64 0)), none, false, []⟩, ⟨some 5, false, .asg (.c (.int .i64 2)), none, false, []⟩] [4, 5] []) .ret) .skip)) (.norm [0, 1] [] impl_WorkDays_k3))) }
noncomputable def impl_WorkDays_D : List (Nat × Callee) := [(23, impl_within_c), (682, impl_isDay_c), (684, impl_weekday_c)]
def impl_WorkDays_H : List (Nat × ET) := []
noncomputable def impl_WorkDays_c : Callee := mkCallee impl_WorkDays_D impl_WorkDays_H impl_WorkDays_ir [.d (.one (.int .i64)), .d (.one (.int .i64))] [.d (.one (.int .i64)), .d (.one (.int .i64))] []
noncomputable def impl_WorkDays (a0 : Int) (a1 : Int) : Option (Int × Int) := impl_WorkDays_c.f (a0, a1, ())
noncomputable def impl_WorkDays_p0  (v0 : Int) (v1 : Int) : Option (Int × Int) :=
  goL impl_WorkDays_D impl_WorkDays_H (vleave impl_WorkDays_ir [.d (.one (.int .i64)), .d (.one (.int .i64))] [.d (.one (.int .i64)), .d (.one (.int .i64))] [] []) [.c impl_WorkDays_k3]
    ⟨[(0, .int .i64 v0), (1, .int .i64 v1)], []⟩
noncomputable def impl_WorkDays_p1  (v1 : Int) (v6 : Int) (v7 : Int) : Option (Int × Int) :=
  goL impl_WorkDays_D impl_WorkDays_H (vleave impl_WorkDays_ir [.d (.one (.int .i64)), .d (.one (.int .i64))] [.d (.one (.int .i64)), .d (.one (.int .i64))] [] []) [.c impl_WorkDays_k0, .l impl_WorkDays_k1, .e 0, .c impl_WorkDays_k2]
    ⟨[(1, .int .i64 v1), (6, .int .i64 v6), (7, .int .i64 v7)], []⟩
theorem impl_WorkDays_eq (a0 : Int) (a1 : Int) : impl_WorkDays a0 a1 =
    (impl_isDay a0).bind fun x1 =>
      if (!x1) then
        some (0, 2)
      else
        (impl_within a1 a0 36525).bind fun x2 =>
          if (!x2) then
            some (0, 2)
          else
            impl_WorkDays_p0 a0 a1 :=
  (mk_f _ _ _ _ _ _ _ 4000).trans (by kernel_rfl)
theorem impl_WorkDays_p0_eq  (v0 : Int) (v1 : Int) : impl_WorkDays_p0 v0 v1 =
    impl_WorkDays_p1 v1 (IntKind.i64.wrap ((IntKind.i64.wrap ((IntKind.i64.wrap (v1 - v0)).tdiv 7)) * 5)) (IntKind.i64.wrap (v1 - ((IntKind.i64.wrap (v1 - v0)).tmod 7))) :=
  (goL_dn _ _ _ 4000 _ _).trans (by kernel_rfl)
theorem impl_WorkDays_p1_eq  (v1 : Int) (v6 : Int) (v7 : Int) : impl_WorkDays_p1 v1 v6 v7 =
    if decide (v7 < v1) then
      (impl_weekday v7).bind fun x1 =>
        if decide (x1 < 5) then
          impl_WorkDays_p1 v1 (IntKind.i64.wrap (v6 + 1)) (IntKind.i64.wrap (v7 + 1))
        else
          impl_WorkDays_p1 v1 v6 (IntKind.i64.wrap (v7 + 1))
    else
      some (v6, 0) :=
  (goL_dn _ _ _ 4000 _ _).trans (by kernel_rfl)

/- laws.b10At -/
def laws_b10At_ir : Fn := { np := 3, io := [], res := [.t 6], own := [false], body :=
  (.seq (.reg false [⟨some 6, false, .asg (.c (.int .i64 0)), none, false, []⟩] [0, 1, 2] []) (.seq (.seq (.reg false [⟨some 7, false, .mv (.t 2), none, false, []⟩, ⟨some 8, false, .bin .leq (.t 7) (.c (.int .i64 1)), none, false, []⟩] [0, 1, 2, 8] []) (.cond (.t 8) (.seq (.reg false [⟨some 6, false, .asg (.c (.int .i64 0)), none, false, []⟩] [6] []) .ret) .skip)) (.seq (.seq (.reg false [⟨some 9, false, .mv (.t 1), none, false, []⟩, ⟨some 10, false, .mv (.t 0), none, false, []⟩, ⟨some 11, false, .len (.t 10), none, false, []⟩, ⟨some 12, false, .bin .lss (.t 9) (.t 11), none, false, []⟩] [0, 1, 2, 12] []) (.cond (.t 12) (.seq (.reg false [⟨some 13, false, .mv (.t 0), none, false, []⟩, ⟨some 14, false, .mv (.t 1), none, false, []⟩, ⟨some 15, false, .ia 1 (.t 13) (.t 14), none, false, []⟩, ⟨some 16, false, .ld none (.t 15), none, false, []⟩, ⟨some 17, false, .conv (.int .i64) (.t 16), none, false, []⟩, ⟨some 18, false, .mv (.t 2), none, false, []⟩, ⟨some 19, false, .bin .rem (.t 17) (.t 18), none, false, []⟩, ⟨some 6, false, .asg (.t 19), none, false, []⟩] [6] []) .ret) .skip)) (.seq (.reg false [⟨some 20, false, .mv (.t 1), none, false, []⟩, ⟨some 21, false, .bin .mul (.t 20) (.c (.int .i64 37)), none, false, []⟩, ⟨some 22, false, .bin .add (.t 21) (.c (.int .i64 11)), none, false, []⟩, ⟨some 23, false, .mv (.t 2), none, false, []⟩, ⟨some 24, false, .bin .rem (.t 22) (.t 23), none, false, []⟩, ⟨some 6, false, .asg (.t 24), none, false, []⟩] [6] []) .ret)))) }
noncomputable def laws_b10At_D : List (Nat × Callee) := []
def laws_b10At_H : List (Nat × ET) := [(10, (.one (.int .u8))), (13, (.one (.int .u8)))]
noncomputable def laws_b10At_c : Callee := mkCallee laws_b10At_D laws_b10At_H laws_b10At_ir [.d (.one (.sl (.one (.int .u8)))), .d (.one (.int .i64)), .d (.one (.int .i64))] [.d (.one (.int .i64))] []
noncomputable def laws_b10At (a0 : List Int) (a1 : Int) (a2 : Int) : Option (Int) := laws_b10At_c.f (a0, a1, a2, ())
theorem laws_b10At_eq (a0 : List Int) (a1 : Int) (a2 : Int) : laws_b10At a0 a1 a2 =
    if decide (a2 ≤ 1) then
      some 0
    else
      if decide (a1 < (a0.length : Int)) then
        if decide (0 ≤ a1) then
          (a0[a1.toNat]?).bind fun x1 =>
            if decide (a2 = 0) then
              none
            else
              some ((IntKind.i64.wrap x1).tmod a2)
        else
          none
      else
        if decide (a2 = 0) then
          none
        else
          some ((IntKind.i64.wrap ((IntKind.i64.wrap (a1 * 37)) + 11)).tmod a2) :=
  (mk_f _ _ _ _ _ _ _ 4000).trans (by kernel_rfl)

/- laws.FnDates -/
def laws_FnDates_k0 : C :=
  .seq (.reg false [⟨some 144, false, .mv (.t 24), none, false, []⟩, ⟨some 145, false, .bin .eql (.t 144) (.c (.int .i64 0)), none, false, []⟩, ⟨some 146, false, .mv (.t 145), none, false, []⟩, ⟨some 147, false, .mv (.t 26), some (2, true), false, []⟩, ⟨some 148, false, .bin .eql (.t 147) (.c (.int .i64 0)), some (2, true), false, []⟩, ⟨some 149, false, .pick (.t 146) (.t 148) (.c (.bool false)), none, false, []⟩, ⟨some 150, false, .mv (.t 149), none, false, []⟩, ⟨some 151, false, .mv (.t 23), some (6, true), false, []⟩, ⟨some 152, false, .mv (.t 25), some (6, true), false, []⟩, ⟨some 153, false, .bin .add (.t 151) (.t 152), some (6, true), false, []⟩, ⟨some 154, false, .mv (.t 20), some (6, true), false, []⟩, ⟨some 155, false, .bin .eql (.t 153) (.t 154), some (6, true), false, []⟩, ⟨some 156, false, .pick (.t 150) (.t 155) (.c (.bool false)), none, false, []⟩, ⟨some 157, false, .mv (.t 156), none, false, []⟩, ⟨some 158, false, .mv (.t 20), some (13, true), false, []⟩, ⟨some 159, false, .bin .geq (.t 158) (.c (.int .i64 0)), some (13, true), false, []⟩, ⟨some 160, false, .pick (.t 157) (.t 159) (.c (.bool false)), none, false, []⟩, ⟨some 161, false, .mv (.t 160), none, false, []⟩, ⟨some 162, false, .mv (.t 20), some (17, true), false, []⟩, ⟨some 163, false, .mv (.t 19), some (17, true), false, []⟩, ⟨some 164, false, .mv (.t 18), some (17, true), false, []⟩, ⟨some 165, false, .bin .sub (.t 163) (.t 164), some (17, true), false, []⟩, ⟨some 166, false, .bin .leq (.t 162) (.t 165), some (17, true), false, []⟩, ⟨some 167, false, .pick (.t 161) (.t 166) (.c (.bool false)), none, false, []⟩, ⟨some 168, false, .mv (.t 167), none, false, []⟩, ⟨some 169, false, .mv (.t 20), some (24, true), false, []⟩, ⟨some 170, false, .bin .mul (.c (.int .i64 7)) (.t 169), some (24, true), false, []⟩, ⟨some 171, false, .mv (.t 19), some (24, true), false, []⟩, ⟨some 172, false, .mv (.t 18), some (24, true), false, []⟩, ⟨some 173, false, .bin .sub (.t 171) (.t 172), some (24, true), false, []⟩, ⟨some 174, false, .bin .mul (.c (.int .i64 5)) (.t 173), some (24, true), false, []⟩, ⟨some 175, false, .bin .sub (.t 174) (.c (.int .i64 12)), some (24, true), false, []⟩, ⟨some 176, false, .bin .geq (.t 170) (.t 175), some (24, true), false, []⟩, ⟨some 177, false, .pick (.t 168) (.t 176) (.c (.bool false)), none, false, []⟩, ⟨some 4, false, .asg (.t 177), none, false, []⟩] [4] []) .ret
def laws_FnDates_k1 : C :=
  .seq (.reg false [⟨some 108, false, .mv (.t 1), none, false, []⟩, ⟨some 109, false, .call (.c (.fn 258 [])) [.t 108], none, false, []⟩, ⟨some 107, false, .mv (.t 109), none, false, []⟩, ⟨some 110, false, .ext (.t 107) 0, none, false, []⟩, ⟨some 111, false, .ext (.t 107) 1, none, false, []⟩, ⟨some 18, false, .asg (.t 110), none, false, []⟩, ⟨some 19, false, .asg (.t 111), none, false, []⟩] [0, 18, 19] []) (.seq (.reg false [⟨some 113, false, .mv (.t 18), none, false, []⟩, ⟨some 114, false, .mv (.t 19), none, false, []⟩, ⟨some 115, false, .call (.c (.fn 256 [])) [.t 113, .t 114], none, false, []⟩, ⟨some 112, false, .mv (.t 115), none, false, []⟩, ⟨some 116, false, .ext (.t 112) 0, none, false, []⟩, ⟨some 117, false, .ext (.t 112) 1, none, false, []⟩, ⟨some 20, false, .asg (.t 116), none, false, []⟩, ⟨some 21, false, .asg (.t 117), none, false, []⟩] [0, 18, 19, 20, 21] []) (.seq (.seq (.reg false [⟨some 118, false, .mv (.t 21), none, false, []⟩, ⟨some 119, false, .bin .neq (.t 118) (.c (.int .i64 0)), none, false, []⟩] [0, 18, 19, 20, 119] []) (.cond (.t 119) (.seq (.reg false [⟨some 120, false, .mv (.t 20), none, false, []⟩, ⟨some 121, false, .bin .eql (.t 120) (.c (.int .i64 0)), none, false, []⟩, ⟨some 4, false, .asg (.t 121), none, false, []⟩] [4] []) .ret) .skip)) (.seq (.reg false [⟨some 122, false, .mv (.t 18), none, false, []⟩, ⟨some 123, false, .mv (.t 0), none, false, []⟩, ⟨some 124, false, .mv (.t 19), none, false, []⟩, ⟨some 125, false, .mv (.t 18), none, false, []⟩, ⟨some 126, false, .bin .sub (.t 124) (.t 125), none, false, []⟩, ⟨some 127, false, .bin .add (.t 126) (.c (.int .i64 1)), none, false, []⟩, ⟨some 128, false, .call (.c (.fn 257 [])) [.t 123, .c (.int .i64 0), .t 127], none, false, []⟩, ⟨some 129, false, .bin .add (.t 122) (.t 128), none, false, []⟩, ⟨some 22, false, .asg (.t 129), none, false, []⟩] [18, 19, 20, 22] []) (.seq (.reg false [⟨some 131, false, .mv (.t 18), none, false, []⟩, ⟨some 132, false, .mv (.t 22), none, false, []⟩, ⟨some 133, false, .call (.c (.fn 256 [])) [.t 131, .t 132], none, false, []⟩, ⟨some 130, false, .mv (.t 133), none, false, []⟩, ⟨some 134, false, .ext (.t 130) 0, none, false, []⟩, ⟨some 135, false, .ext (.t 130) 1, none, false, []⟩, ⟨some 23, false, .asg (.t 134), none, false, []⟩, ⟨some 24, false, .asg (.t 135), none, false, []⟩] [18, 19, 20, 22, 23, 24] []) (.seq (.reg false [⟨some 25, false, .asg (.c (.int .i64 0)), none, false, []⟩] [18, 19, 20, 22, 23, 24, 25] []) (.seq (.reg false [⟨some 26, false, .asg (.c (.int .i64 0)), none, false, []⟩] [18, 19, 20, 22, 23, 24, 25, 26] []) (.seq (.seq (.reg false [⟨some 136, false, .mv (.t 22), none, false, []⟩, ⟨some 137, false, .bin .leq (.t 136) (.c (.int .i64 36524)), none, false, []⟩] [18, 19, 20, 22, 23, 24, 25, 26, 137] []) (.cond (.t 137) (.reg false [⟨some 139, false, .mv (.t 22), none, false, []⟩, ⟨some 140, false, .mv (.t 19), none, false, []⟩, ⟨some 141, false, .call (.c (.fn 256 [])) [.t 139, .t 140], none, false, []⟩, ⟨some 138, false, .mv (.t 141), none, false, []⟩, ⟨some 142, false, .ext (.t 138) 0, none, false, []⟩, ⟨some 143, false, .ext (.t 138) 1, none, false, []⟩, ⟨some 25, false, .asg (.t 142), none, false, []⟩, ⟨some 26, false, .asg (.t 143), none, false, []⟩] [18, 19, 20, 23, 24, 25, 26] []) .skip)) (.norm [18, 19, 20, 23, 24, 25, 26] [] laws_FnDates_k0))))))))
def laws_FnDates_k2 : C :=
  .seq (.reg false [⟨some 33, false, .mv (.t 0), none, false, []⟩, ⟨some 34, false, .call (.c (.fn 264 [])) [.t 33], none, false, []⟩, ⟨some 5, false, .asg (.t 34), none, false, []⟩] [0, 1, 5] []) (.seq (.reg false [⟨some 36, false, .mv (.t 5), none, false, []⟩, ⟨some 37, false, .call (.c (.fn 263 [])) [.t 36], none, false, []⟩, ⟨some 35, false, .mv (.t 37), none, false, []⟩, ⟨some 38, false, .ext (.t 35) 0, none, false, []⟩, ⟨some 39, false, .ext (.t 35) 1, none, false, []⟩, ⟨some 40, false, .ext (.t 35) 2, none, false, []⟩, ⟨some 41, false, .ext (.t 35) 3, none, false, []⟩, ⟨some 6, false, .asg (.t 38), none, false, []⟩, ⟨some 7, false, .asg (.t 39), none, false, []⟩, ⟨some 8, false, .asg (.t 40), none, false, []⟩, ⟨some 9, false, .asg (.t 41), none, false, []⟩] [0, 1, 5, 6, 7, 8, 9] []) (.seq (.seq (.reg false [⟨some 42, false, .mv (.t 9), none, false, []⟩, ⟨some 43, false, .bin .eql (.t 42) (.c (.int .i64 0)), none, false, []⟩] [0, 1, 5, 6, 7, 8, 43] []) (.cond (.t 43) (.seq (.reg false [⟨some 45, false, .mv (.t 6), none, false, []⟩, ⟨some 46, false, .mv (.t 7), none, false, []⟩, ⟨some 47, false, .mv (.t 8), none, false, []⟩, ⟨some 48, false, .call (.c (.fn 262 [])) [.t 45, .t 46, .t 47], none, false, []⟩, ⟨some 44, false, .mv (.t 48), none, false, []⟩, ⟨some 49, false, .ext (.t 44) 0, none, false, []⟩, ⟨some 50, false, .ext (.t 44) 1, none, false, []⟩, ⟨some 10, false, .asg (.t 49), none, false, []⟩, ⟨some 11, false, .asg (.t 50), none, false, []⟩] [0, 1, 5, 10, 11] []) (.seq (.reg false [⟨some 52, false, .mv (.t 5), none, false, []⟩, ⟨some 53, false, .call (.c (.fn 260 [])) [.t 52], none, false, []⟩, ⟨some 54, false, .call (.c (.fn 261 [])) [.t 53], none, false, []⟩, ⟨some 51, false, .mv (.t 54), none, false, []⟩, ⟨some 55, false, .ext (.t 51) 0, none, false, []⟩, ⟨some 56, false, .ext (.t 51) 1, none, false, []⟩, ⟨some 12, false, .asg (.t 55), none, false, []⟩, ⟨some 13, false, .asg (.t 56), none, false, []⟩] [0, 1, 5, 10, 11, 12, 13] []) (.seq (.reg false [⟨some 58, false, .mv (.t 5), none, false, []⟩, ⟨some 59, false, .call (.c (.fn 259 [])) [.t 58], none, false, []⟩, ⟨some 57, false, .mv (.t 59), none, false, []⟩, ⟨some 60, false, .ext (.t 57) 0, none, false, []⟩, ⟨some 61, false, .ext (.t 57) 1, none, false, []⟩, ⟨some 14, false, .asg (.t 60), none, false, []⟩, ⟨some 15, false, .asg (.t 61), none, false, []⟩] [0, 1, 5, 10, 11, 12, 13, 14, 15] []) (.seq (.reg false [⟨some 63, false, .mv (.t 5), none, false, []⟩, ⟨some 64, false, .bin .add (.t 63) (.c (.int .i64 1)), none, false, []⟩, ⟨some 65, false, .call (.c (.fn 259 [])) [.t 64], none, false, []⟩, ⟨some 62, false, .mv (.t 65), none, false, []⟩, ⟨some 66, false, .ext (.t 62) 0, none, false, []⟩, ⟨some 67, false, .ext (.t 62) 1, none, false, []⟩, ⟨some 16, false, .asg (.t 66), none, false, []⟩, ⟨some 17, false, .asg (.t 67), none, false, []⟩] [0, 1, 5, 10, 11, 12, 13, 14, 15, 16, 17] []) (.seq (.reg false [⟨some 68, false, .mv (.t 11), none, false, []⟩, ⟨some 69, false, .bin .neq (.t 68) (.c (.int .i64 0)), none, false, []⟩, ⟨some 70, false, .mv (.t 69), none, false, []⟩, ⟨some 71, false, .mv (.t 10), some (2, false), false, []⟩, ⟨some 72, false, .mv (.t 5), some (2, false), false, []⟩, ⟨some 73, false, .bin .neq (.t 71) (.t 72), some (2, false), false, []⟩, ⟨some 74, false, .pick (.t 70) (.c (.bool true)) (.t 73), none, false, []⟩, ⟨some 75, false, .mv (.t 74), none, false, []⟩, ⟨some 76, false, .mv (.t 13), some (7, false), false, []⟩, ⟨some 77, false, .un .not (.t 76), some (7, false), false, []⟩, ⟨some 78, false, .pick (.t 75) (.c (.bool true)) (.t 77), none, false, []⟩, ⟨some 79, false, .mv (.t 78), none, false, []⟩, ⟨some 80, false, .mv (.t 12), some (11, false), false, []⟩, ⟨some 81, false, .mv (.t 5), some (11, false), false, []⟩, ⟨some 82, false, .bin .neq (.t 80) (.t 81), some (11, false), false, []⟩, ⟨some 83, false, .pick (.t 79) (.c (.bool true)) (.t 82), none, false, []⟩, ⟨some 84, false, .mv (.t 83), none, false, []⟩, ⟨some 85, false, .mv (.t 15), some (16, false), false, []⟩, ⟨some 86, false, .bin .neq (.t 85) (.c (.int .i64 0)), some (16, false), false, []⟩, ⟨some 87, false, .pick (.t 84) (.c (.bool true)) (.t 86), none, false, []⟩, ⟨some 88, false, .mv (.t 87), none, false, []⟩, ⟨some 89, false, .mv (.t 14), some (20, false), false, []⟩, ⟨some 90, false, .bin .lss (.t 89) (.c (.int .i64 0)), some (20, false), false, []⟩, ⟨some 91, false, .pick (.t 88) (.c (.bool true)) (.t 90), none, false, []⟩, ⟨some 92, false, .mv (.t 91), none, false, []⟩, ⟨some 93, false, .mv (.t 14), some (24, false), false, []⟩, ⟨some 94, false, .bin .gtr (.t 93) (.c (.int .i64 6)), some (24, false), false, []⟩, ⟨some 95, false, .pick (.t 92) (.c (.bool true)) (.t 94), none, false, []⟩, ⟨some 96, false, .mv (.t 95), none, false, []⟩, ⟨some 97, false, .mv (.t 17), some (28, false), false, []⟩, ⟨some 98, false, .bin .eql (.t 97) (.c (.int .i64 0)), some (28, false), false, []⟩, ⟨some 99, false, .mv (.t 98), some (28, false), false, []⟩, ⟨some 100, false, .mv (.t 16), some (31, true), false, []⟩, ⟨some 101, false, .mv (.t 14), some (31, true), false, []⟩, ⟨some 102, false, .bin .add (.t 101) (.c (.int .i64 1)), some (31, true), false, []⟩, ⟨some 103, false, .bin .rem (.t 102) (.c (.int .i64 7)), some (31, true), false, []⟩, ⟨some 104, false, .bin .neq (.t 100) (.t 103), some (31, true), false, []⟩, ⟨some 105, false, .pick (.t 99) (.t 104) (.c (.bool false)), some (28, false), false, []⟩, ⟨some 106, false, .pick (.t 96) (.c (.bool true)) (.t 105), none, false, []⟩] [0, 1, 106] []) (.cond (.t 106) (.seq (.reg false [⟨some 4, false, .asg (.c (.bool false)), none, false, []⟩] [4] []) .ret) .skip)))))) .skip)) (.norm [0, 1] [] laws_FnDates_k1)))
def laws_FnDates_ir : Fn := { np := 2, io := [], res := [.t 4], own := [false], body :=
  (.seq (.reg false [⟨some 4, false, .asg (.c (.bool false)), none, false, []⟩] [0, 1] []) (.seq (.seq (.reg false [⟨some 27, false, .mv (.t 0), none, false, []⟩, ⟨some 28, false, .call (.c (.fn 76 [])) [.t 27], none, false, []⟩, ⟨some 29, false, .mv (.t 28), none, false, []⟩, ⟨some 30, false, .mv (.t 1), some (2, false), false, []⟩, ⟨some 31, false, .call (.c (.fn 76 [])) [.t 30], some (2, false), false, []⟩, ⟨some 32, false, .pick (.t 29) (.c (.bool true)) (.t 31), none, false, []⟩] [0, 1, 32] []) (.cond (.t 32) (.seq (.reg false [⟨some 4, false, .asg (.c (.bool true)), none, false, []⟩] [4] []) .ret) .skip)) (.norm [0, 1] [] laws_FnDates_k2))) }
noncomputable def laws_FnDates_D : List (Nat × Callee) := [(76, laws_b10Long_c), (256, impl_WorkDays_c), (257, laws_b10At_c), (258, spec_DrawWorkDays_c), (259, impl_WeekdayOf_c), (260, impl_DateText_c), (261, impl_ReadDate_c), (262, impl_DayNumber_c), (263, impl_DateOf_c), (264, spec_DrawDateOf_c)]
def laws_FnDates_H : List (Nat × ET) := [(27, (.one (.int .u8))), (30, (.one (.int .u8))), (33, (.one (.int .u8))), (108, (.one (.int .u8))), (123, (.one (.int .u8)))]
noncomputable def laws_FnDates_c : Callee := mkCallee laws_FnDates_D laws_FnDates_H laws_FnDates_ir [.d (.one (.sl (.one (.int .u8)))), .d (.one (.sl (.one (.int .u8))))] [.d (.one .bool)] []
noncomputable def laws_FnDates (a0 : List Int) (a1 : List Int) : Option (Bool) := laws_FnDates_c.f (a0, a1, ())
noncomputable def laws_FnDates_p0  (v0 : List Int) (v1 : List Int) : Option (Bool) :=
  goL laws_FnDates_D laws_FnDates_H (vleave laws_FnDates_ir [.d (.one (.sl (.one (.int .u8)))), .d (.one (.sl (.one (.int .u8))))] [.d (.one .bool)] [] []) [.c laws_FnDates_k2]
    ⟨[(0, .sl (.one (.int .u8)) v0), (1, .sl (.one (.int .u8)) v1)], []⟩
noncomputable def laws_FnDates_p1  (v0 : List Int) (v1 : List Int) : Option (Bool) :=
  goL laws_FnDates_D laws_FnDates_H (vleave laws_FnDates_ir [.d (.one (.sl (.one (.int .u8)))), .d (.one (.sl (.one (.int .u8))))] [.d (.one .bool)] [] []) [.c laws_FnDates_k1]
    ⟨[(0, .sl (.one (.int .u8)) v0), (1, .sl (.one (.int .u8)) v1)], []⟩
noncomputable def laws_FnDates_p2  (v18 : Int) (v19 : Int) (v20 : Int) (v23 : Int) (v24 : Int) (v25 : Int) (v26 : Int) : Option (Bool) :=
  goL laws_FnDates_D laws_FnDates_H (vleave laws_FnDates_ir [.d (.one (.sl (.one (.int .u8)))), .d (.one (.sl (.one (.int .u8))))] [.d (.one .bool)] [] []) [.c laws_FnDates_k0]
    ⟨[(18, .int .i64 v18), (19, .int .i64 v19), (20, .int .i64 v20), (23, .int .i64 v23), (24, .int .i64 v24), (25, .int .i64 v25), (26, .int .i64 v26)], []⟩
theorem laws_FnDates_eq (a0 : List Int) (a1 : List Int) : laws_FnDates a0 a1 =
    (laws_b10Long a0).bind fun x1 =>
      if x1 then
        some true
      else
        (laws_b10Long a1).bind fun x2 =>
          if x2 then
            some true
          else
            laws_FnDates_p0 a0 a1 :=
  (mk_f _ _ _ _ _ _ _ 4000).trans (by kernel_rfl)
theorem laws_FnDates_p0_eq  (v0 : List Int) (v1 : List Int) : laws_FnDates_p0 v0 v1 =
    (spec_DrawDateOf v0).bind fun x1 =>
      (impl_DateOf x1).bind fun x2 =>
        if (x2.2.2.2 == 0) then
          (impl_DayNumber x2.1 x2.2.1 x2.2.2.1).bind fun x3 =>
            (impl_DateText x1).bind fun x4 =>
              (impl_ReadDate x4).bind fun x5 =>
                (impl_WeekdayOf x1).bind fun x6 =>
                  (impl_WeekdayOf (IntKind.i64.wrap (x1 + 1))).bind fun x7 =>
                    if (x3.2 != 0) then
                      some false
                    else
                      if (x3.1 != x1) then
                        some false
                      else
                        if (!x5.2) then
                          some false
                        else
                          if (x5.1 != x1) then
                            some false
                          else
                            if (x6.2 != 0) then
                              some false
                            else
                              if decide (x6.1 < 0) then
                                some false
                              else
                                if decide (x6.1 > 6) then
                                  some false
                                else
                                  if (x7.2 == 0) then
                                    if (x7.1 != (IntKind.i64.wrap (x6.1 + 1)).tmod 7) then
                                      some false
                                    else
                                      laws_FnDates_p1 v0 v1
                                  else
                                    laws_FnDates_p1 v0 v1
        else
          laws_FnDates_p1 v0 v1 :=
  (goL_dn _ _ _ 4000 _ _).trans (by kernel_rfl)
theorem laws_FnDates_p1_eq  (v0 : List Int) (v1 : List Int) : laws_FnDates_p1 v0 v1 =
    (spec_DrawWorkDays v1).bind fun x1 =>
      (impl_WorkDays x1.1 x1.2).bind fun x2 =>
        if (x2.2 != 0) then
          some (x2.1 == 0)
        else
          (laws_b10At v0 0 (IntKind.i64.wrap ((IntKind.i64.wrap (x1.2 - x1.1)) + 1))).bind fun x3 =>
            (impl_WorkDays x1.1 (IntKind.i64.wrap (x1.1 + x3))).bind fun x4 =>
              if decide (IntKind.i64.wrap (x1.1 + x3) ≤ 36524) then
                (impl_WorkDays (IntKind.i64.wrap (x1.1 + x3)) x1.2).bind fun x5 =>
                  laws_FnDates_p2 x1.1 x1.2 x2.1 x4.1 x4.2 x5.1 x5.2
              else
                laws_FnDates_p2 x1.1 x1.2 x2.1 x4.1 x4.2 0 0 :=
  (goL_dn _ _ _ 4000 _ _).trans (by kernel_rfl)
theorem laws_FnDates_p2_eq  (v18 : Int) (v19 : Int) (v20 : Int) (v23 : Int) (v24 : Int) (v25 : Int) (v26 : Int) : laws_FnDates_p2 v18 v19 v20 v23 v24 v25 v26 =
    if (v24 == 0) then
      if (v26 == 0) then
        if (IntKind.i64.wrap (v23 + v25) == v20) then
          if decide (v20 ≥ 0) then
            if decide (v20 ≤ IntKind.i64.wrap (v19 - v18)) then
              some (decide (IntKind.i64.wrap (7 * v20) ≥ IntKind.i64.wrap ((IntKind.i64.wrap (5 * (IntKind.i64.wrap (v19 - v18)))) - 12)))
            else
              some false
          else
            some false
        else
          some false
      else
        some false
    else
      some false :=
  (goL_dn _ _ _ 4000 _ _).trans (by kernel_rfl)

end Go.Ab.P
