/- Functions of the program: abstract forms, and what their runs give. Conditions: none. -/
import Derived.Test.YtbijadelckpmjaaDoorL4
set_option maxRecDepth 100000
set_option linter.unusedVariables false
namespace Go.Ab.P
open Go.Ab
@[reducible] def T_Problem : ET := .agg (.cons (.int .i64) (.cons .str (.cons .str .nil)))
@[reducible] def T_Pot : ET := .agg (.cons .str (.cons (.int .i64) (.cons (.int .i64) (.cons (.int .i64) (.cons (.int .i64) .nil)))))
@[reducible] def T_Neck : ET := .agg (.cons (.int .i64) (.cons (.int .i64) (.cons (.int .i64) (.cons (.int .i64) .nil))))
@[reducible] def T_Step : ET := .agg (.cons .str (.cons (.int .i64) (.cons (.int .i64) (.cons (.sl (.one (.int .i64))) .nil))))
@[reducible] def T_Peg : ET := .agg (.cons .str (.cons (.int .i64) (.cons (.int .i64) (.cons (.int .i64) .nil))))
@[reducible] def T_Mode : ET := .agg (.cons .str (.cons (.int .i64) (.cons (.int .i64) .nil)))
@[reducible] def T_Deed : ET := .agg (.cons .str (.cons .str (.cons (.int .i64) (.cons (.int .i64) .nil))))
@[reducible] def T_Block : ET := .agg (.cons .str (.cons .str (.cons .str .nil)))
@[reducible] def T_Paper : ET := .agg (.cons .str (.cons .str (.cons (.int .i64) (.cons (.int .i64) (.cons (.int .i64) .nil)))))
@[reducible] def T_Desk : ET := .agg (.cons (.sl T_Peg) (.cons (.sl T_Mode) (.cons (.sl (.one (.sl (.one (.int .i64))))) (.cons (.int .i64) (.cons (.int .i64) (.cons (.int .i64) (.cons (.int .i64) (.cons (.sl T_Peg) (.cons (.sl T_Pot) (.cons (.sl T_Mode) (.cons (.sl T_Peg) (.cons (.sl T_Paper) .nil))))))))))))
@[reducible] def T_Arc : ET := .agg (.cons (.int .i64) (.cons (.int .i64) (.cons (.int .i64) (.cons (.int .i64) (.cons (.int .i64) (.cons (.int .i64) .nil))))))
@[reducible] def T_Entry : ET := .agg (.cons (.int .i64) (.cons .str (.cons .str (.cons (.int .i64) .nil))))
@[reducible] def T_Shop : ET := .agg (.cons (.sl T_Arc) (.cons (.sl T_Neck) (.cons (.int .i64) (.cons (.sl T_Step) (.cons (.sl (.one (.int .i64))) (.cons (.int .i64) (.cons (.sl T_Paper) (.cons (.sl T_Entry) .nil))))))))
@[reducible] def T_Setting : ET := .agg (.cons .str (.cons (.int .i64) .nil))
@[reducible] def T_Version : ET := .agg (.cons (.int .i64) (.cons (.int .i64) (.cons .str (.cons (.sl T_Setting) .nil))))
@[reducible] def T_Point : ET := .agg (.cons (.int .i64) (.cons (.int .i64) .nil))
@[reducible] def T_Grant : ET := .agg (.cons .str (.cons .str (.cons (.int .i64) .nil)))
@[reducible] def T_Role : ET := .agg (.cons .str (.cons (.sl (.one .str)) .nil))
@[reducible] def T_matching : ET := .agg (.cons (.sl T_Mode) (.cons (.sl T_Mode) (.cons (.sl (.one .bool)) (.cons (.int .i64) (.cons (.sl (.one (.int .i64))) (.cons (.int .i64) (.cons (.sl (.one (.int .i64))) (.cons (.int .i64) (.cons .bool .nil)))))))))
@[reducible] def T_cutting : ET := .agg (.cons (.sl T_Mode) (.cons (.int .i64) (.cons (.int .i64) (.cons (.sl (.one (.int .i64))) (.cons (.sl (.one (.int .i64))) (.cons (.int .i64) (.cons (.int .i64) .nil)))))))
@[reducible] def T_link : ET := .agg (.cons .bool (.cons (.int .i64) (.cons (.int .i64) .nil)))
@[reducible] def T_gluing : ET := .agg (.cons (.sl T_Pot) (.cons (.sl (.one (.int .i64))) (.cons (.sl (.one (.int .i64))) (.cons (.int .i64) (.cons (.sl (.one (.int .i64))) (.cons (.int .i64) (.cons (.sl (.one (.int .i64))) (.cons (.int .i64) (.cons .bool .nil)))))))))
@[reducible] def T_Change : ET := .agg (.cons (.int .i64) (.cons .str (.cons (.int .i64) .nil)))
@[reducible] def T_placing : ET := .agg (.cons (.sl T_Peg) (.cons (.sl (.one (.sl (.one (.int .i64))))) (.cons (.int .i64) .nil)))
@[reducible] def T_trusting : ET := .agg (.cons (.sl T_Paper) (.cons (.int .i64) (.cons (.sl (.one (.int .i64))) (.cons (.int .i64) (.cons (.sl (.one (.int .i64))) (.cons (.int .i64) .nil))))))
@[reducible] def T_l00Src : ET := .agg (.cons (.sl (.one (.int .u8))) (.cons (.int .i64) (.cons (.int .u64) .nil)))
@[reducible] def T_arguments : ET := .agg (.cons (.sl (.one (.int .i64))) (.cons (.sl (.one (.int .i64))) (.cons (.int .i64) (.cons .str .nil))))
@[reducible] def T_l14Search : ET := .agg (.cons (.sl T_Pot) (.cons (.sl (.one (.int .i64))) (.cons (.sl (.one (.int .i64))) (.cons (.sl (.one (.int .i64))) (.cons (.sl (.one (.int .i64))) (.cons (.int .i64) (.cons (.int .i64) (.cons (.int .i64) (.cons .bool .nil)))))))))
@[reducible] def T_l06Search : ET := .agg (.cons (.sl T_Mode) (.cons (.int .i64) (.cons (.int .i64) (.cons (.int .i64) (.cons (.sl (.one (.int .i64))) (.cons (.sl (.one (.int .i64))) (.cons (.int .i64) (.cons (.int .i64) (.cons .bool .nil)))))))))
@[reducible] def T_l20Search : ET := .agg (.cons (.sl T_Paper) (.cons (.sl (.one (.int .i64))) (.cons (.sl (.one (.int .i64))) (.cons (.int .i64) (.cons (.int .i64) (.cons (.int .i64) (.cons .bool .nil)))))))
@[reducible] def T_l18Search : ET := .agg (.cons (.sl T_Peg) (.cons (.sl (.one (.sl (.one (.int .i64))))) (.cons (.int .i64) (.cons (.int .i64) (.cons .bool .nil)))))
/- laws.b10Long -/
def laws_b10Long_ir : Fn := { np := 1, io := [], res := [.t 2], own := [false], body :=
  (.seq (.reg false [⟨some 2, false, .asg (.c (.bool false)), none, false, []⟩] [0] []) (.seq (.reg false [⟨some 3, false, .mv (.t 0), none, false, []⟩, ⟨some 4, false, .len (.t 3), none, false, []⟩, ⟨some 5, false, .bin .gtr (.t 4) (.c (.int .i64 1048576)), none, false, []⟩, ⟨some 2, false, .asg (.t 5), none, false, []⟩] [2] []) .ret)) }
noncomputable def laws_b10Long_D : List (Nat × Callee) := []
def laws_b10Long_H : List (Nat × ET) := [(3, (.one (.int .u8)))]
noncomputable def laws_b10Long_c : Callee := mkCallee laws_b10Long_D laws_b10Long_H laws_b10Long_ir [.d (.one (.sl (.one (.int .u8))))] [.d (.one .bool)] []
noncomputable def laws_b10Long (a0 : List Int) : Option (Bool) := laws_b10Long_c.f (a0, ())
theorem laws_b10Long_eq (a0 : List Int) : laws_b10Long a0 =
    some (decide ((a0.length : Int) > 1048576)) :=
  (mk_f _ _ _ _ _ _ _ 4000).trans (by kernel_rfl)

/- spec.l00From -/
def spec_l00From_ir : Fn := { np := 1, io := [], res := [.t 2], own := [true], body :=
  (.seq (.reg false [⟨some 2, false, .asg (.c (.cst (.pointer none))), none, false, []⟩] [0] []) (.seq (.reg false [⟨some 3, false, .mv (.t 0), none, false, []⟩, ⟨some 4, false, .build [.nils 1, .int .i64 0, .int .u64 0] [(0, 1, .t 3)], none, false, []⟩, ⟨some 5, true, .box 3 (.t 4), none, false, []⟩, ⟨some 2, false, .asg (.t 5), none, false, []⟩] [2] [5, 6000]) .ret)) }
noncomputable def spec_l00From_D : List (Nat × Callee) := []
def spec_l00From_H : List (Nat × ET) := [(3, (.one (.int .u8)))]
noncomputable def spec_l00From_c : Callee := mkCallee spec_l00From_D spec_l00From_H spec_l00From_ir [.d (.one (.sl (.one (.int .u8))))] [.box T_l00Src] []
noncomputable def spec_l00From (a0 : List Int) : Option (T_l00Src.ty) := spec_l00From_c.f (a0, ())
theorem spec_l00From_eq (a0 : List Int) : spec_l00From a0 =
    some (a0, 0, 0, ()) :=
  (mk_f _ _ _ _ _ _ _ 4000).trans (by kernel_rfl)

/- (*spec.l00Src).next -/
def spec_l00Src_next_k0 : C :=
  .seq (.reg false [⟨some 25, false, .mv (.t 0), none, false, []⟩, ⟨some 26, false, .nilck (.t 25), none, false, []⟩, ⟨some 27, false, .fa 1 (.t 26), none, false, []⟩, ⟨some 28, false, .ld none (.t 27), none, false, []⟩, ⟨some 29, false, .bin .add (.t 28) (.c (.int .i64 1)), none, false, []⟩, ⟨some 30, false, .nilck (.t 25), none, false, []⟩, ⟨some 31, false, .fa 1 (.t 30), none, false, []⟩, ⟨none, true, .sto 1 (.t 31) (.t 29), none, false, []⟩] [0, 3] [0, 1000]) (.seq (.reg false [⟨some 32, false, .mv (.t 0), none, false, []⟩, ⟨some 33, false, .mv (.t 0), none, false, []⟩, ⟨some 34, false, .nilck (.t 33), none, false, []⟩, ⟨some 35, false, .fa 2 (.t 34), none, false, []⟩, ⟨some 36, false, .ld none (.t 35), none, false, []⟩, ⟨some 37, false, .bin .mul (.t 36) (.c (.int .u64 6364136223846793005)), none, false, []⟩, ⟨some 38, false, .mv (.t 3), none, false, []⟩, ⟨some 39, false, .conv (.int .u64) (.t 38), none, false, []⟩, ⟨some 40, false, .bin .add (.t 37) (.t 39), none, false, []⟩, ⟨some 41, false, .bin .add (.t 40) (.c (.int .u64 1442695040888963407)), none, false, []⟩, ⟨some 42, false, .nilck (.t 32), none, false, []⟩, ⟨some 43, false, .fa 2 (.t 42), none, false, []⟩, ⟨none, true, .sto 1 (.t 43) (.t 41), none, false, []⟩] [0, 3] [0, 1000]) (.seq (.seq (.reg true [⟨some 44, false, .mv (.t 0), none, false, []⟩, ⟨some 45, false, .nilck (.t 44), none, false, []⟩, ⟨some 46, false, .fa 1 (.t 45), none, false, []⟩, ⟨some 47, false, .ld none (.t 46), none, false, []⟩, ⟨some 48, false, .mv (.t 0), none, false, []⟩, ⟨some 49, false, .nilck (.t 48), none, false, []⟩, ⟨some 50, false, .fa 0 (.t 49), none, false, []⟩, ⟨some 51, false, .ld none (.t 50), none, false, []⟩, ⟨some 52, false, .len (.t 51), none, false, []⟩, ⟨some 53, false, .bin .leq (.t 47) (.t 52), none, false, []⟩] [0, 3, 53] [0, 1000]) (.cond (.t 53) (.seq (.reg false [⟨some 54, false, .mv (.t 3), none, false, []⟩, ⟨some 2, false, .asg (.t 54), none, false, []⟩] [0, 2] [0, 1000]) .ret) .skip)) (.seq (.reg false [⟨some 55, false, .mv (.t 0), none, false, []⟩, ⟨some 56, false, .nilck (.t 55), none, false, []⟩, ⟨some 57, false, .fa 2 (.t 56), none, false, []⟩, ⟨some 58, false, .ld none (.t 57), none, false, []⟩, ⟨some 59, false, .bin .shr (.t 58) (.c (.int .u64 40)), none, false, []⟩, ⟨some 60, false, .bin .and (.t 59) (.c (.int .u64 255)), none, false, []⟩, ⟨some 61, false, .conv (.int .i64) (.t 60), none, false, []⟩, ⟨some 2, false, .asg (.t 61), none, false, []⟩] [0, 2] [0, 1000]) .ret)))
def spec_l00Src_next_ir : Fn := { np := 1, io := [true], res := [.t 2], own := [false], body :=
  (.seq (.reg false [⟨some 2, false, .asg (.c (.int .i64 0)), none, false, []⟩] [0] [0, 1000]) (.seq (.reg false [⟨some 3, false, .asg (.c (.int .i64 0)), none, false, []⟩] [0, 3] [0, 1000]) (.seq (.seq (.reg true [⟨some 4, false, .mv (.t 0), none, false, []⟩, ⟨some 5, false, .nilck (.t 4), none, false, []⟩, ⟨some 6, false, .fa 1 (.t 5), none, false, []⟩, ⟨some 7, false, .ld none (.t 6), none, false, []⟩, ⟨some 8, false, .mv (.t 0), none, false, []⟩, ⟨some 9, false, .nilck (.t 8), none, false, []⟩, ⟨some 10, false, .fa 0 (.t 9), none, false, []⟩, ⟨some 11, false, .ld none (.t 10), none, false, []⟩, ⟨some 12, false, .len (.t 11), none, false, []⟩, ⟨some 13, false, .bin .lss (.t 7) (.t 12), none, false, []⟩] [0, 3, 13] [0, 1000]) (.cond (.t 13) (.reg true [⟨some 14, false, .mv (.t 0), none, false, []⟩, ⟨some 15, false, .nilck (.t 14), none, false, []⟩, ⟨some 16, false, .fa 0 (.t 15), none, false, []⟩, ⟨some 17, false, .ld none (.t 16), none, false, []⟩, ⟨some 18, false, .mv (.t 0), none, false, []⟩, ⟨some 19, false, .nilck (.t 18), none, false, []⟩, ⟨some 20, false, .fa 1 (.t 19), none, false, []⟩, ⟨some 21, false, .ld none (.t 20), none, false, []⟩, ⟨some 22, false, .ia 1 (.t 17) (.t 21), none, false, []⟩, ⟨some 23, false, .ld none (.t 22), none, false, []⟩, ⟨some 24, false, .conv (.int .i64) (.t 23), none, false, []⟩, ⟨some 3, false, .asg (.t 24), none, false, []⟩] [0, 3] [0, 1000]) .skip)) (.norm [0, 3] [0, 1000] spec_l00Src_next_k0)))) }
noncomputable def spec_l00Src_next_D : List (Nat × Callee) := []
def spec_l00Src_next_H : List (Nat × ET) := [(11, (.one (.int .u8))), (17, (.one (.int .u8))), (51, (.one (.int .u8)))]
noncomputable def spec_l00Src_next_c : Callee := mkCallee spec_l00Src_next_D spec_l00Src_next_H spec_l00Src_next_ir [.box T_l00Src] [.d (.one (.int .i64))] [.box T_l00Src]
noncomputable def spec_l00Src_next (a0 : T_l00Src.ty) : Option (Int × T_l00Src.ty) := spec_l00Src_next_c.f (a0, ())
noncomputable def spec_l00Src_next_p0  (v3 : Int) (r0_0 : List Int) (r0_1 : Int) (r0_2 : Int) : Option (Int × T_l00Src.ty) :=
  goL spec_l00Src_next_D spec_l00Src_next_H (vleave spec_l00Src_next_ir [.box T_l00Src] [.d (.one (.int .i64))] [.box T_l00Src] []) [.c spec_l00Src_next_k0]
    ⟨[(0, .loc 0 0 0), (3, .int .i64 v3)], [(0, some (.var 3 (.agg [.sl (.one (.int .u8)) r0_0, .int .i64 r0_1, .int .u64 r0_2]))), (1000, none)]⟩
theorem spec_l00Src_next_eq (a0 : T_l00Src.ty) : spec_l00Src_next a0 =
    if decide (a0.2.1 < (a0.1.length : Int)) then
      if decide (0 ≤ a0.2.1) then
        (a0.1[a0.2.1.toNat]?).bind fun x1 =>
          spec_l00Src_next_p0 (IntKind.i64.wrap x1) a0.1 a0.2.1 a0.2.2.1
      else
        none
    else
      spec_l00Src_next_p0 0 a0.1 a0.2.1 a0.2.2.1 :=
  (mk_f _ _ _ _ _ _ _ 4000).trans (by kernel_rfl)
theorem spec_l00Src_next_p0_eq  (v3 : Int) (r0_0 : List Int) (r0_1 : Int) (r0_2 : Int) : spec_l00Src_next_p0 v3 r0_0 r0_1 r0_2 =
    if decide (IntKind.i64.wrap (r0_1 + 1) ≤ (r0_0.length : Int)) then
      some (v3, (r0_0, IntKind.i64.wrap (r0_1 + 1), IntKind.u64.wrap ((IntKind.u64.wrap ((IntKind.u64.wrap (r0_2 * 6364136223846793005)) + (IntKind.u64.wrap v3))) + 1442695040888963407), ()))
    else
      some (IntKind.i64.wrap (IntKind.u64.wrap ((BitVec.ofInt IntKind.u64.bits (Int.fdiv (IntKind.u64.wrap ((IntKind.u64.wrap ((IntKind.u64.wrap (r0_2 * 6364136223846793005)) + (IntKind.u64.wrap v3))) + 1442695040888963407)) (2 ^ (min (40 : Int).toNat IntKind.u64.bits))) &&& BitVec.ofInt IntKind.u64.bits 255).toNat : Int)), (r0_0, IntKind.i64.wrap (r0_1 + 1), IntKind.u64.wrap ((IntKind.u64.wrap ((IntKind.u64.wrap (r0_2 * 6364136223846793005)) + (IntKind.u64.wrap v3))) + 1442695040888963407), ())) :=
  (goL_dn _ _ _ 4000 _ _).trans (by kernel_rfl)

/- (*spec.l00Src).pick -/
def spec_l00Src_pick_ir : Fn := { np := 2, io := [true, false], res := [.t 4], own := [false], body :=
  (.seq (.reg false [⟨some 4, false, .asg (.c (.int .i64 0)), none, false, []⟩] [0, 1] [0, 1000]) (.seq (.seq (.reg false [⟨some 6, false, .mv (.t 1), none, false, []⟩, ⟨some 7, false, .bin .leq (.t 6) (.c (.int .i64 1)), none, false, []⟩] [0, 1, 7] [0, 1000]) (.cond (.t 7) (.seq (.reg false [⟨some 4, false, .asg (.c (.int .i64 0)), none, false, []⟩] [0, 4] [0, 1000]) .ret) .skip)) (.seq (.reg false [⟨some 8, false, .mv (.t 0), none, false, []⟩, ⟨some 9, true, .call (.c (.fn 847 [])) [.t 8], none, false, []⟩, ⟨some 5, false, .asg (.t 9), none, false, []⟩] [0, 1, 5] [0, 1000]) (.seq (.seq (.reg false [⟨some 10, false, .mv (.t 1), none, false, []⟩, ⟨some 11, false, .bin .gtr (.t 10) (.c (.int .i64 200)), none, false, []⟩] [0, 1, 5, 11] [0, 1000]) (.cond (.t 11) (.reg false [⟨some 12, false, .mv (.t 5), none, false, []⟩, ⟨some 13, false, .bin .mul (.t 12) (.c (.int .i64 256)), none, false, []⟩, ⟨some 14, false, .mv (.t 0), none, false, []⟩, ⟨some 15, true, .call (.c (.fn 847 [])) [.t 14], none, false, []⟩, ⟨some 16, false, .bin .add (.t 13) (.t 15), none, false, []⟩, ⟨some 5, false, .asg (.t 16), none, false, []⟩] [0, 1, 5] [0, 1000]) .skip)) (.seq (.reg false [⟨some 17, false, .mv (.t 5), none, false, []⟩, ⟨some 18, false, .mv (.t 1), none, false, []⟩, ⟨some 19, false, .bin .rem (.t 17) (.t 18), none, false, []⟩, ⟨some 4, false, .asg (.t 19), none, false, []⟩] [0, 4] [0, 1000]) .ret))))) }
noncomputable def spec_l00Src_pick_D : List (Nat × Callee) := [(847, spec_l00Src_next_c)]
def spec_l00Src_pick_H : List (Nat × ET) := []
noncomputable def spec_l00Src_pick_c : Callee := mkCallee spec_l00Src_pick_D spec_l00Src_pick_H spec_l00Src_pick_ir [.box T_l00Src, .d (.one (.int .i64))] [.d (.one (.int .i64))] [.box T_l00Src]
noncomputable def spec_l00Src_pick (a0 : T_l00Src.ty) (a1 : Int) : Option (Int × T_l00Src.ty) := spec_l00Src_pick_c.f (a0, a1, ())
theorem spec_l00Src_pick_eq (a0 : T_l00Src.ty) (a1 : Int) : spec_l00Src_pick a0 a1 =
    if decide (a1 ≤ 1) then
      some (0, a0)
    else
      (spec_l00Src_next a0).bind fun x1 =>
        if decide (a1 > 200) then
          (spec_l00Src_next (x1.2.1, x1.2.2.1, x1.2.2.2.1, ())).bind fun x2 =>
            if decide (a1 = 0) then
              none
            else
              some ((IntKind.i64.wrap ((IntKind.i64.wrap (x1.1 * 256)) + x2.1)).tmod a1, (x2.2.1, x2.2.2.1, x2.2.2.2.1, ()))
        else
          if decide (a1 = 0) then
            none
          else
            some (x1.1.tmod a1, (x1.2.1, x1.2.2.1, x1.2.2.2.1, ())) :=
  (mk_f _ _ _ _ _ _ _ 4000).trans (by kernel_rfl)

/- (*spec.l00Src).one -/
def spec_l00Src_one_ir : Fn := { np := 2, io := [true, false], res := [.t 4], own := [false], body :=
  (.seq (.reg false [⟨some 4, false, .asg (.c (.bool false)), none, false, []⟩] [0, 1] [0, 1000]) (.seq (.reg false [⟨some 5, false, .mv (.t 0), none, false, []⟩, ⟨some 6, false, .mv (.t 1), none, false, []⟩, ⟨some 7, true, .call (.c (.fn 463 [])) [.t 5, .t 6], none, false, []⟩, ⟨some 8, false, .bin .eql (.t 7) (.c (.int .i64 0)), none, false, []⟩, ⟨some 4, false, .asg (.t 8), none, false, []⟩] [0, 4] [0, 1000]) .ret)) }
noncomputable def spec_l00Src_one_D : List (Nat × Callee) := [(463, spec_l00Src_pick_c)]
def spec_l00Src_one_H : List (Nat × ET) := []
noncomputable def spec_l00Src_one_c : Callee := mkCallee spec_l00Src_one_D spec_l00Src_one_H spec_l00Src_one_ir [.box T_l00Src, .d (.one (.int .i64))] [.d (.one .bool)] [.box T_l00Src]
noncomputable def spec_l00Src_one (a0 : T_l00Src.ty) (a1 : Int) : Option (Bool × T_l00Src.ty) := spec_l00Src_one_c.f (a0, a1, ())
theorem spec_l00Src_one_eq (a0 : T_l00Src.ty) (a1 : Int) : spec_l00Src_one a0 a1 =
    (spec_l00Src_pick a0 a1).bind fun x1 =>
      some ((x1.1 == 0), (x1.2.1, x1.2.2.1, x1.2.2.2.1, ())) :=
  (mk_f _ _ _ _ _ _ _ 4000).trans (by kernel_rfl)

/- (*spec.l00Src).among -/
def spec_l00Src_among_ir : Fn := { np := 2, io := [true, false], res := [.t 4], own := [false], body :=
  (.seq (.reg false [⟨some 4, false, .asg (.c (.int .i64 0)), none, false, []⟩] [0, 1] [0, 1000]) (.seq (.reg false [⟨some 5, false, .mv (.t 1), none, false, []⟩, ⟨some 6, false, .mv (.t 0), none, false, []⟩, ⟨some 7, false, .mv (.t 1), none, false, []⟩, ⟨some 8, false, .len (.t 7), none, false, []⟩, ⟨some 9, true, .call (.c (.fn 463 [])) [.t 6, .t 8], none, false, []⟩, ⟨some 10, false, .ia 1 (.t 5) (.t 9), none, false, []⟩, ⟨some 11, false, .ld none (.t 10), none, false, []⟩, ⟨some 4, false, .asg (.t 11), none, false, []⟩] [0, 4] [0, 1000]) .ret)) }
noncomputable def spec_l00Src_among_D : List (Nat × Callee) := [(463, spec_l00Src_pick_c)]
def spec_l00Src_among_H : List (Nat × ET) := [(5, (.one (.int .i64))), (7, (.one (.int .i64)))]
noncomputable def spec_l00Src_among_c : Callee := mkCallee spec_l00Src_among_D spec_l00Src_among_H spec_l00Src_among_ir [.box T_l00Src, .d (.one (.sl (.one (.int .i64))))] [.d (.one (.int .i64))] [.box T_l00Src]
noncomputable def spec_l00Src_among (a0 : T_l00Src.ty) (a1 : List Int) : Option (Int × T_l00Src.ty) := spec_l00Src_among_c.f (a0, a1, ())
theorem spec_l00Src_among_eq (a0 : T_l00Src.ty) (a1 : List Int) : spec_l00Src_among a0 a1 =
    (spec_l00Src_pick a0 (a1.length : Int)).bind fun x1 =>
      if decide (0 ≤ x1.1) then
        (a1[x1.1.toNat]?).bind fun x2 =>
          some (x2, (x1.2.1, x1.2.2.1, x1.2.2.2.1, ()))
      else
        none :=
  (mk_f _ _ _ _ _ _ _ 4000).trans (by kernel_rfl)

/- spec.DrawClockText -/
def spec_DrawClockText_ir : Fn := { np := 1, io := [], res := [.t 2], own := [false], body :=
  (.seq (.reg false [⟨some 2, false, .asg (.c (.int .i64 0)), none, false, []⟩] [0] []) (.seq (.reg false [⟨some 4, false, .mv (.t 0), none, false, []⟩, ⟨some 5, true, .call (.c (.fn 441 [])) [.t 4], none, false, []⟩, ⟨some 3, false, .asg (.t 5), none, false, []⟩] [3] [5, 6000]) (.seq (.seq (.reg false [⟨some 6, false, .mv (.t 3), none, false, []⟩, ⟨some 7, true, .call (.c (.fn 642 [])) [.t 6, .c (.int .i64 8)], none, false, []⟩] [3, 7] [5, 6000]) (.cond (.t 7) (.seq (.reg false [⟨some 8, false, .mv (.t 3), none, false, []⟩, ⟨some 9, false, .bsl 1 (.int .i64 0) 4 [(0, .c (.int .i64 (-1))), (1, .c (.int .i64 0)), (2, .c (.int .i64 1439)), (3, .c (.int .i64 1440))], none, false, []⟩, ⟨some 10, true, .call (.c (.fn 445 [])) [.t 8, .t 9], none, false, []⟩, ⟨some 2, false, .asg (.t 10), none, false, []⟩] [2] []) .ret) .skip)) (.seq (.reg false [⟨some 11, false, .mv (.t 3), none, false, []⟩, ⟨some 12, true, .call (.c (.fn 463 [])) [.t 11, .c (.int .i64 240)], none, false, []⟩, ⟨some 13, false, .bin .mul (.c (.int .i64 6)) (.t 12), none, false, []⟩, ⟨some 14, false, .mv (.t 3), none, false, []⟩, ⟨some 15, true, .call (.c (.fn 463 [])) [.t 14, .c (.int .i64 6)], none, false, []⟩, ⟨some 16, false, .bin .add (.t 13) (.t 15), none, false, []⟩, ⟨some 2, false, .asg (.t 16), none, false, []⟩] [2] []) .ret)))) }
noncomputable def spec_DrawClockText_D : List (Nat × Callee) := [(441, spec_l00From_c), (445, spec_l00Src_among_c), (463, spec_l00Src_pick_c), (642, spec_l00Src_one_c)]
def spec_DrawClockText_H : List (Nat × ET) := [(4, (.one (.int .u8))), (9, (.one (.int .i64)))]
noncomputable def spec_DrawClockText_c : Callee := mkCallee spec_DrawClockText_D spec_DrawClockText_H spec_DrawClockText_ir [.d (.one (.sl (.one (.int .u8))))] [.d (.one (.int .i64))] []
noncomputable def spec_DrawClockText (a0 : List Int) : Option (Int) := spec_DrawClockText_c.f (a0, ())
theorem spec_DrawClockText_eq (a0 : List Int) : spec_DrawClockText a0 =
    (spec_l00From a0).bind fun x1 =>
      (spec_l00Src_one x1 8).bind fun x2 =>
        if x2.1 then
          (spec_l00Src_among (x2.2.1, x2.2.2.1, x2.2.2.2.1, ()) [(-1), 0, 1439, 1440]).bind fun x3 =>
            some x3.1
        else
          (spec_l00Src_pick (x2.2.1, x2.2.2.1, x2.2.2.2.1, ()) 240).bind fun x4 =>
            (spec_l00Src_pick (x4.2.1, x4.2.2.1, x4.2.2.2.1, ()) 6).bind fun x5 =>
              some (IntKind.i64.wrap ((IntKind.i64.wrap (6 * x4.1)) + x5.1)) :=
  (mk_f _ _ _ _ _ _ _ 4000).trans (by kernel_rfl)

/- impl.within -/
def impl_within_ir : Fn := { np := 3, io := [], res := [.t 6], own := [false], body :=
  (.seq (.reg false [⟨some 6, false, .asg (.c (.bool false)), none, false, []⟩] [0, 1, 2] []) (.seq (.reg false [⟨some 7, false, .mv (.t 1), none, false, []⟩, ⟨some 8, false, .mv (.t 0), none, false, []⟩, ⟨some 9, false, .bin .leq (.t 7) (.t 8), none, false, []⟩, ⟨some 10, false, .mv (.t 9), none, false, []⟩, ⟨some 11, false, .mv (.t 0), some (3, true), false, []⟩, ⟨some 12, false, .mv (.t 2), some (3, true), false, []⟩, ⟨some 13, false, .bin .leq (.t 11) (.t 12), some (3, true), false, []⟩, ⟨some 14, false, .pick (.t 10) (.t 13) (.c (.bool false)), none, false, []⟩, ⟨some 6, false, .asg (.t 14), none, false, []⟩] [6] []) .ret)) }
noncomputable def impl_within_D : List (Nat × Callee) := []
def impl_within_H : List (Nat × ET) := []
noncomputable def impl_within_c : Callee := mkCallee impl_within_D impl_within_H impl_within_ir [.d (.one (.int .i64)), .d (.one (.int .i64)), .d (.one (.int .i64))] [.d (.one .bool)] []
noncomputable def impl_within (a0 : Int) (a1 : Int) (a2 : Int) : Option (Bool) := impl_within_c.f (a0, a1, a2, ())
theorem impl_within_eq (a0 : Int) (a1 : Int) (a2 : Int) : impl_within a0 a1 a2 =
    if decide (a1 ≤ a0) then
      some (decide (a0 ≤ a2))
    else
      some false :=
  (mk_f _ _ _ _ _ _ _ 4000).trans (by kernel_rfl)

/- strconv.FormatInt -/
noncomputable def strconv_FormatInt_c : Callee := formatIntC
noncomputable def strconv_FormatInt (a0 : Int) (a1 : Int) : Option (List UInt8) := strconv_FormatInt_c.f (a0, a1, ())
theorem strconv_FormatInt_eq (a0 : Int) (a1 : Int) : strconv_FormatInt a0 a1 = if decide (a1 = 10) && (decide (-9223372036854775808 ≤ a0) && decide (a0 ≤ 9223372036854775807)) then some (Lib.itoa a0) else none := rfl

/- impl.Decimal -/
def impl_Decimal_ir : Fn := { np := 1, io := [], res := [.t 2], own := [false], body :=
  (.seq (.reg false [⟨some 2, false, .asg (.c (.str [])), none, false, []⟩] [0] []) (.seq (.reg false [⟨some 3, false, .mv (.t 0), none, false, []⟩, ⟨some 4, false, .call (.c (.fn 864 [])) [.t 3, .c (.int .i64 10)], none, false, []⟩, ⟨some 2, false, .asg (.t 4), none, false, []⟩] [2] []) .ret)) }
noncomputable def impl_Decimal_D : List (Nat × Callee) := [(864, strconv_FormatInt_c)]
def impl_Decimal_H : List (Nat × ET) := []
noncomputable def impl_Decimal_c : Callee := mkCallee impl_Decimal_D impl_Decimal_H impl_Decimal_ir [.d (.one (.int .i64))] [.d (.one .str)] []
noncomputable def impl_Decimal (a0 : Int) : Option (List UInt8) := impl_Decimal_c.f (a0, ())
theorem impl_Decimal_eq (a0 : Int) : impl_Decimal a0 =
    (strconv_FormatInt a0 10).bind fun x1 =>
      some x1 :=
  (mk_f _ _ _ _ _ _ _ 4000).trans (by kernel_rfl)

/- strings.Repeat -/
noncomputable def strings_Repeat_c : Callee := repeatC
noncomputable def strings_Repeat (a0 : List UInt8) (a1 : Int) : Option (List UInt8) := strings_Repeat_c.f (a0, a1, ())
theorem strings_Repeat_eq (a0 : List UInt8) (a1 : Int) : strings_Repeat a0 a1 = if decide (0 ≤ a1) && (decide (a1 ≤ 9223372036854775807) && decide (a0.length * a1.toNat ≤ 140737488355328)) then some (Lib.repeatL a0 a1.toNat) else none := rfl

/- impl.padded -/
def impl_padded_ir : Fn := { np := 2, io := [], res := [.t 4], own := [false], body :=
  (.seq (.reg false [⟨some 4, false, .asg (.c (.str [])), none, false, []⟩] [0, 1] []) (.seq (.reg false [⟨some 6, false, .mv (.t 0), none, false, []⟩, ⟨some 7, false, .call (.c (.fn 524 [])) [.t 6], none, false, []⟩, ⟨some 5, false, .asg (.t 7), none, false, []⟩] [1, 5] []) (.seq (.reg false [⟨some 8, false, .mv (.t 1), none, false, []⟩, ⟨some 9, false, .mv (.t 5), none, false, []⟩, ⟨some 10, false, .lens (.t 9), none, false, []⟩, ⟨some 11, false, .bin .sub (.t 8) (.t 10), none, false, []⟩, ⟨some 12, false, .max [.c (.int .i64 0), .t 11], none, false, []⟩, ⟨some 13, false, .call (.c (.fn 518 [])) [.c (.str [48]), .t 12], none, false, []⟩, ⟨some 14, false, .mv (.t 5), none, false, []⟩, ⟨some 15, false, .bin .add (.t 13) (.t 14), none, false, []⟩, ⟨some 4, false, .asg (.t 15), none, false, []⟩] [4] []) .ret))) }
noncomputable def impl_padded_D : List (Nat × Callee) := [(518, strings_Repeat_c), (524, impl_Decimal_c)]
def impl_padded_H : List (Nat × ET) := []
noncomputable def impl_padded_c : Callee := mkCallee impl_padded_D impl_padded_H impl_padded_ir [.d (.one (.int .i64)), .d (.one (.int .i64))] [.d (.one .str)] []
noncomputable def impl_padded (a0 : Int) (a1 : Int) : Option (List UInt8) := impl_padded_c.f (a0, a1, ())
theorem impl_padded_eq (a0 : Int) (a1 : Int) : impl_padded a0 a1 =
    (impl_Decimal a0).bind fun x1 =>
      (strings_Repeat [48] (if IntKind.i64.wrap (a1 - (x1.length : Int)) > 0 then IntKind.i64.wrap (a1 - (x1.length : Int)) else 0)).bind fun x2 =>
        if decide (x2.length + x1.length ≤ strMax) then
          some (x2 ++ x1)
        else
          none :=
  (mk_f _ _ _ _ _ _ _ 4000).trans (by kernel_rfl)

/- impl.ClockText -/
def impl_ClockText_ir : Fn := { np := 1, io := [], res := [.t 2], own := [false], body :=
  (.seq (.reg false [⟨some 2, false, .asg (.c (.str [])), none, false, []⟩] [0] []) (.seq (.seq (.reg false [⟨some 3, false, .mv (.t 0), none, false, []⟩, ⟨some 4, false, .call (.c (.fn 23 [])) [.t 3, .c (.int .i64 0), .c (.int .i64 1439)], none, false, []⟩, ⟨some 5, false, .un .not (.t 4), none, false, []⟩] [0, 5] []) (.cond (.t 5) (.seq (.reg false [⟨some 2, false, .asg (.c (.str [])), none, false, []⟩] [2] []) .ret) .skip)) (.seq (.reg false [⟨some 6, false, .mv (.t 0), none, false, []⟩, ⟨some 7, false, .bin .quo (.t 6) (.c (.int .i64 60)), none, false, []⟩, ⟨some 8, false, .call (.c (.fn 668 [])) [.t 7, .c (.int .i64 2)], none, false, []⟩, ⟨some 9, false, .bin .add (.t 8) (.c (.str [58])), none, false, []⟩, ⟨some 10, false, .mv (.t 0), none, false, []⟩, ⟨some 11, false, .bin .rem (.t 10) (.c (.int .i64 60)), none, false, []⟩, ⟨some 12, false, .call (.c (.fn 668 [])) [.t 11, .c (.int .i64 2)], none, false, []⟩, ⟨some 13, false, .bin .add (.t 9) (.t 12), none, false, []⟩, ⟨some 2, false, .asg (.t 13), none, false, []⟩] [2] []) .ret))) }
noncomputable def impl_ClockText_D : List (Nat × Callee) := [(23, impl_within_c), (668, impl_padded_c)]
def impl_ClockText_H : List (Nat × ET) := []
noncomputable def impl_ClockText_c : Callee := mkCallee impl_ClockText_D impl_ClockText_H impl_ClockText_ir [.d (.one (.int .i64))] [.d (.one .str)] []
noncomputable def impl_ClockText (a0 : Int) : Option (List UInt8) := impl_ClockText_c.f (a0, ())
theorem impl_ClockText_eq (a0 : Int) : impl_ClockText a0 =
    (impl_within a0 0 1439).bind fun x1 =>
      if (!x1) then
        some []
      else
        (impl_padded (IntKind.i64.wrap (a0.tdiv 60)) 2).bind fun x2 =>
          if decide (x2.length + [58].length ≤ strMax) then
            (impl_padded (a0.tmod 60) 2).bind fun x3 =>
              if decide ((x2 ++ [58]).length + x3.length ≤ strMax) then
                some ((x2 ++ [58]) ++ x3)
              else
                none
          else
            none :=
  (mk_f _ _ _ _ _ _ _ 4000).trans (by kernel_rfl)

/- strings.Cut -/
noncomputable def strings_Cut_c : Callee := cutC
noncomputable def strings_Cut (a0 : List UInt8) (a1 : List UInt8) : Option (List UInt8 × List UInt8 × Bool) := strings_Cut_c.f (a0, a1, ())
theorem strings_Cut_eq (a0 : List UInt8) (a1 : List UInt8) : strings_Cut a0 a1 = if decide (a0.length < 4294967281) then some (Lib.cut a0 a1) else none := rfl

/- impl.isDigit -/
def impl_isDigit_ir : Fn := { np := 1, io := [], res := [.t 2], own := [false], body :=
  (.seq (.reg false [⟨some 2, false, .asg (.c (.bool false)), none, false, []⟩] [0] []) (.seq (.reg false [⟨some 3, false, .mv (.t 0), none, false, []⟩, ⟨some 4, false, .bin .geq (.t 3) (.c (.int .u8 48)), none, false, []⟩, ⟨some 5, false, .mv (.t 4), none, false, []⟩, ⟨some 6, false, .mv (.t 0), some (2, true), false, []⟩, ⟨some 7, false, .bin .leq (.t 6) (.c (.int .u8 57)), some (2, true), false, []⟩, ⟨some 8, false, .pick (.t 5) (.t 7) (.c (.bool false)), none, false, []⟩, ⟨some 2, false, .asg (.t 8), none, false, []⟩] [2] []) .ret)) }
noncomputable def impl_isDigit_D : List (Nat × Callee) := []
def impl_isDigit_H : List (Nat × ET) := []
noncomputable def impl_isDigit_c : Callee := mkCallee impl_isDigit_D impl_isDigit_H impl_isDigit_ir [.d (.one (.int .u8))] [.d (.one .bool)] []
noncomputable def impl_isDigit (a0 : Int) : Option (Bool) := impl_isDigit_c.f (a0, ())
theorem impl_isDigit_eq (a0 : Int) : impl_isDigit a0 =
    if decide (a0 ≥ 48) then
      some (decide (a0 ≤ 57))
    else
      some false :=
  (mk_f _ _ _ _ _ _ _ 4000).trans (by kernel_rfl)

/- impl.digitsOf -/
def impl_digitsOf_k0 : C :=
  .seq (.seq (.reg false [⟨some 13, false, .mv (.t 5), none, false, []⟩, ⟨some 14, false, .mv (.t 0), none, false, []⟩, ⟨some 15, false, .lens (.t 14), none, false, []⟩, ⟨some 16, false, .bin .lss (.t 13) (.t 15), none, false, []⟩] [0, 4, 5, 16] []) (.cond (.t 16) .skip (.exit 0))) (.seq (.block 1 (.seq (.seq (.reg false [⟨some 19, false, .mv (.t 0), none, false, []⟩, ⟨some 20, false, .mv (.t 5), none, false, []⟩, ⟨some 21, false, .ix (.t 19) (.t 20), none, false, []⟩, ⟨some 22, false, .call (.c (.fn 22 [])) [.t 21], none, false, []⟩, ⟨some 23, false, .un .not (.t 22), none, false, []⟩] [0, 4, 5, 23] []) (.cond (.t 23) (.seq (.reg false [⟨some 2, false, .asg (.c (.int .i64 0)), none, false, []⟩, ⟨some 3, false, .asg (.c (.bool false)), none, false, []⟩] [2, 3] []) .ret) .skip)) (.reg false [⟨some 24, false, .mv (.t 4), none, false, []⟩, ⟨some 25, false, .bin .mul (.c (.int .i64 10)) (.t 24), none, false, []⟩, ⟨some 26, false, .mv (.t 0), none, false, []⟩, ⟨some 27, false, .mv (.t 5), none, false, []⟩, ⟨some 28, false, .ix (.t 26) (.t 27), none, false, []⟩, ⟨some 29, false, .bin .sub (.t 28) (.c (.int .u8 48)), none, false, []⟩, ⟨some 30, false, .conv (.int .i64) (.t 29), none, false, []⟩, ⟨some 31, false, .bin .add (.t 25) (.t 30), none, false, []⟩, ⟨some 4, false, .asg (.t 31), none, false, []⟩] [0, 4, 5] []))) (.reg false [⟨some 17, false, .mv (.t 5), none, false, []⟩, ⟨some 18, false, .bin .add (.t 17) (.c (.int .i64 1)), none, false, []⟩, ⟨some 5, false, .asg (.t 18), none, false, []⟩] [0, 4, 5] []))
def impl_digitsOf_k1 : C :=
  .norm [0, 4, 5] [] impl_digitsOf_k0
def impl_digitsOf_k2 : C :=
  .seq (.reg false [⟨some 32, false, .mv (.t 4), none, false, []⟩, ⟨some 2, false, .asg (.t 32), none, false, []⟩, ⟨some 3, false, .asg (.c (.bool true)), none, false, []⟩] [2, 3] []) .ret
def impl_digitsOf_k3 : C :=
  .seq (.reg false [⟨some 4, false, .asg (.c (.int .i64 0)), none, false, []⟩] [0, 4] []) (.seq (.seq (.reg false [⟨some 5, false, .asg (.c (.int .i64 0)), none, false, []⟩] [0, 4, 5] []) (.block 0 (.loop impl_digitsOf_k1))) impl_digitsOf_k2)
def impl_digitsOf_ir : Fn := { np := 1, io := [], res := [.t 2, .t 3], own := [false, false], body :=
  (.seq (.reg false [⟨some 2, false, .asg (.c (.int .i64 0)), none, false, []⟩, ⟨some 3, false, .asg (.c (.bool false)), none, false, []⟩] [0] []) (.seq (.seq (.reg false [⟨some 6, false, .mv (.t 0), none, false, []⟩, ⟨some 7, false, .bin .eql (.t 6) (.c (.str [])), none, false, []⟩, ⟨some 8, false, .mv (.t 7), none, false, []⟩, ⟨some 9, false, .mv (.t 0), some (2, false), false, []⟩, ⟨some 10, false, .lens (.t 9), some (2, false), false, []⟩, ⟨some 11, false, .bin .gtr (.t 10) (.c (.int .i64 18)), some (2, false), false, []⟩, ⟨some 12, false, .pick (.t 8) (.c (.bool true)) (.t 11), none, false, []⟩] [0, 12] []) (.cond (.t 12) (.seq (.reg false [⟨some 2, false, .asg (.c (.int .i64 0)), none, false, []⟩, ⟨some 3, false, .asg (.c (.bool false)), none, false, []⟩] [2, 3] []) .ret) .skip)) (.norm [0] [] impl_digitsOf_k3))) }
noncomputable def impl_digitsOf_D : List (Nat × Callee) := [(22, impl_isDigit_c)]
def impl_digitsOf_H : List (Nat × ET) := []
noncomputable def impl_digitsOf_c : Callee := mkCallee impl_digitsOf_D impl_digitsOf_H impl_digitsOf_ir [.d (.one .str)] [.d (.one (.int .i64)), .d (.one .bool)] []
noncomputable def impl_digitsOf (a0 : List UInt8) : Option (Int × Bool) := impl_digitsOf_c.f (a0, ())
noncomputable def impl_digitsOf_p0  (v0 : List UInt8) : Option (Int × Bool) :=
  goL impl_digitsOf_D impl_digitsOf_H (vleave impl_digitsOf_ir [.d (.one .str)] [.d (.one (.int .i64)), .d (.one .bool)] [] []) [.c impl_digitsOf_k3]
    ⟨[(0, .str v0)], []⟩
noncomputable def impl_digitsOf_p1  (v0 : List UInt8) (v4 : Int) (v5 : Int) : Option (Int × Bool) :=
  goL impl_digitsOf_D impl_digitsOf_H (vleave impl_digitsOf_ir [.d (.one .str)] [.d (.one (.int .i64)), .d (.one .bool)] [] []) [.c impl_digitsOf_k0, .l impl_digitsOf_k1, .e 0, .c impl_digitsOf_k2]
    ⟨[(0, .str v0), (4, .int .i64 v4), (5, .int .i64 v5)], []⟩
theorem impl_digitsOf_eq (a0 : List UInt8) : impl_digitsOf a0 =
    if (a0 == []) then
      some (0, false)
    else
      if decide ((a0.length : Int) > 18) then
        some (0, false)
      else
        impl_digitsOf_p0 a0 :=
  (mk_f _ _ _ _ _ _ _ 4000).trans (by kernel_rfl)
theorem impl_digitsOf_p0_eq  (v0 : List UInt8) : impl_digitsOf_p0 v0 =
    impl_digitsOf_p1 v0 0 0 :=
  (goL_dn _ _ _ 4000 _ _).trans (by kernel_rfl)
theorem impl_digitsOf_p1_eq  (v0 : List UInt8) (v4 : Int) (v5 : Int) : impl_digitsOf_p1 v0 v4 v5 =
    if decide (v5 < (v0.length : Int)) then
      if decide (0 ≤ v5) then
        (v0[v5.toNat]?).bind fun x1 =>
          (impl_isDigit (x1.toNat : Int)).bind fun x2 =>
            if (!x2) then
              some (0, false)
            else
              if decide (0 ≤ v5) then
                (v0[v5.toNat]?).bind fun x3 =>
                  impl_digitsOf_p1 v0 (IntKind.i64.wrap ((IntKind.i64.wrap (10 * v4)) + (IntKind.i64.wrap (IntKind.u8.wrap ((x3.toNat : Int) - 48))))) (IntKind.i64.wrap (v5 + 1))
              else
                none
      else
        none
    else
      some (v4, true) :=
  (goL_dn _ _ _ 4000 _ _).trans (by kernel_rfl)

/- impl.pairOf -/
def impl_pairOf_ir : Fn := { np := 1, io := [], res := [.t 2, .t 3, .t 4], own := [false, false, false], body :=
  (.seq (.reg false [⟨some 2, false, .asg (.c (.int .i64 0)), none, false, []⟩, ⟨some 3, false, .asg (.c (.int .i64 0)), none, false, []⟩, ⟨some 4, false, .asg (.c (.bool false)), none, false, []⟩] [0] []) (.seq (.reg false [⟨some 13, false, .mv (.t 0), none, false, []⟩, ⟨some 14, false, .call (.c (.fn 523 [])) [.t 13, .c (.str [58])], none, false, []⟩, ⟨some 12, false, .mv (.t 14), none, false, []⟩, ⟨some 15, false, .ext (.t 12) 0, none, false, []⟩, ⟨some 16, false, .ext (.t 12) 1, none, false, []⟩, ⟨some 17, false, .ext (.t 12) 2, none, false, []⟩, ⟨some 5, false, .asg (.t 15), none, false, []⟩, ⟨some 6, false, .asg (.t 16), none, false, []⟩, ⟨some 7, false, .asg (.t 17), none, false, []⟩] [5, 6, 7] []) (.seq (.reg false [⟨some 19, false, .mv (.t 5), none, false, []⟩, ⟨some 20, false, .call (.c (.fn 673 [])) [.t 19], none, false, []⟩, ⟨some 18, false, .mv (.t 20), none, false, []⟩, ⟨some 21, false, .ext (.t 18) 0, none, false, []⟩, ⟨some 22, false, .ext (.t 18) 1, none, false, []⟩, ⟨some 8, false, .asg (.t 21), none, false, []⟩, ⟨some 9, false, .asg (.t 22), none, false, []⟩] [6, 7, 8, 9] []) (.seq (.reg false [⟨some 24, false, .mv (.t 6), none, false, []⟩, ⟨some 25, false, .call (.c (.fn 673 [])) [.t 24], none, false, []⟩, ⟨some 23, false, .mv (.t 25), none, false, []⟩, ⟨some 26, false, .ext (.t 23) 0, none, false, []⟩, ⟨some 27, false, .ext (.t 23) 1, none, false, []⟩, ⟨some 10, false, .asg (.t 26), none, false, []⟩, ⟨some 11, false, .asg (.t 27), none, false, []⟩] [7, 8, 9, 10, 11] []) (.seq (.reg false [⟨some 28, false, .mv (.t 8), none, false, []⟩, ⟨some 29, false, .mv (.t 10), none, false, []⟩, ⟨some 30, false, .mv (.t 7), none, false, []⟩, ⟨some 31, false, .mv (.t 30), none, false, []⟩, ⟨some 32, false, .mv (.t 9), some (3, true), false, []⟩, ⟨some 33, false, .pick (.t 31) (.t 32) (.c (.bool false)), none, false, []⟩, ⟨some 34, false, .mv (.t 33), none, false, []⟩, ⟨some 35, false, .mv (.t 11), some (6, true), false, []⟩, ⟨some 36, false, .pick (.t 34) (.t 35) (.c (.bool false)), none, false, []⟩, ⟨some 37, false, .mv (.t 36), none, false, []⟩, ⟨some 38, false, .mv (.t 8), some (9, true), false, []⟩, ⟨some 39, false, .bin .leq (.t 38) (.c (.int .i64 1000000000)), some (9, true), false, []⟩, ⟨some 40, false, .pick (.t 37) (.t 39) (.c (.bool false)), none, false, []⟩, ⟨some 41, false, .mv (.t 40), none, false, []⟩, ⟨some 42, false, .mv (.t 10), some (13, true), false, []⟩, ⟨some 43, false, .bin .leq (.t 42) (.c (.int .i64 1000000000)), some (13, true), false, []⟩, ⟨some 44, false, .pick (.t 41) (.t 43) (.c (.bool false)), none, false, []⟩, ⟨some 2, false, .asg (.t 28), none, false, []⟩, ⟨some 3, false, .asg (.t 29), none, false, []⟩, ⟨some 4, false, .asg (.t 44), none, false, []⟩] [2, 3, 4] []) .ret))))) }
noncomputable def impl_pairOf_D : List (Nat × Callee) := [(523, strings_Cut_c), (673, impl_digitsOf_c)]
def impl_pairOf_H : List (Nat × ET) := []
noncomputable def impl_pairOf_c : Callee := mkCallee impl_pairOf_D impl_pairOf_H impl_pairOf_ir [.d (.one .str)] [.d (.one (.int .i64)), .d (.one (.int .i64)), .d (.one .bool)] []
noncomputable def impl_pairOf (a0 : List UInt8) : Option (Int × Int × Bool) := impl_pairOf_c.f (a0, ())
theorem impl_pairOf_eq (a0 : List UInt8) : impl_pairOf a0 =
    (strings_Cut a0 [58]).bind fun x1 =>
      (impl_digitsOf x1.1).bind fun x2 =>
        (impl_digitsOf x1.2.1).bind fun x3 =>
          if x1.2.2 then
            if x2.2 then
              if x3.2 then
                if decide (x2.1 ≤ 1000000000) then
                  some (x2.1, x3.1, decide (x3.1 ≤ 1000000000))
                else
                  some (x2.1, x3.1, false)
              else
                some (x2.1, x3.1, false)
            else
              some (x2.1, x3.1, false)
          else
            some (x2.1, x3.1, false) :=
  (mk_f _ _ _ _ _ _ _ 4000).trans (by kernel_rfl)

/- impl.ReadClock -/
def impl_ReadClock_ir : Fn := { np := 1, io := [], res := [.t 2, .t 3], own := [false, false], body :=
  (.seq (.reg false [⟨some 2, false, .asg (.c (.int .i64 0)), none, false, []⟩, ⟨some 3, false, .asg (.c (.bool false)), none, false, []⟩] [0] []) (.seq (.reg false [⟨some 9, false, .mv (.t 0), none, false, []⟩, ⟨some 10, false, .call (.c (.fn 669 [])) [.t 9], none, false, []⟩, ⟨some 8, false, .mv (.t 10), none, false, []⟩, ⟨some 11, false, .ext (.t 8) 0, none, false, []⟩, ⟨some 12, false, .ext (.t 8) 1, none, false, []⟩, ⟨some 13, false, .ext (.t 8) 2, none, false, []⟩, ⟨some 4, false, .asg (.t 11), none, false, []⟩, ⟨some 5, false, .asg (.t 12), none, false, []⟩, ⟨some 6, false, .asg (.t 13), none, false, []⟩] [0, 4, 5, 6] []) (.seq (.seq (.reg false [⟨some 14, false, .mv (.t 4), none, false, []⟩, ⟨some 15, false, .bin .mul (.c (.int .i64 60)) (.t 14), none, false, []⟩, ⟨some 16, false, .mv (.t 5), none, false, []⟩, ⟨some 17, false, .bin .add (.t 15) (.t 16), none, false, []⟩, ⟨some 7, false, .asg (.t 17), none, false, []⟩] [0, 6, 7] []) (.seq (.reg false [⟨some 18, false, .mv (.t 6), none, false, []⟩, ⟨some 19, false, .mv (.t 18), none, false, []⟩, ⟨some 20, false, .mv (.t 7), some (1, true), false, []⟩, ⟨some 21, false, .call (.c (.fn 254 [])) [.t 20], some (1, true), false, []⟩, ⟨some 22, false, .mv (.t 0), some (1, true), false, []⟩, ⟨some 23, false, .bin .eql (.t 21) (.t 22), some (1, true), false, []⟩, ⟨some 24, false, .pick (.t 19) (.t 23) (.c (.bool false)), none, false, []⟩] [7, 24] []) (.cond (.t 24) (.seq (.reg false [⟨some 25, false, .mv (.t 7), none, false, []⟩, ⟨some 2, false, .asg (.t 25), none, false, []⟩, ⟨some 3, false, .asg (.c (.bool true)), none, false, []⟩] [2, 3] []) .ret) .skip))) (.seq (.reg false [⟨some 2, false, .asg (.c (.int .i64 0)), none, false, []⟩, ⟨some 3, false, .asg (.c (.bool false)), none, false, []⟩] [2, 3] []) .ret)))) }
noncomputable def impl_ReadClock_D : List (Nat × Callee) := [(254, impl_ClockText_c), (669, impl_pairOf_c)]
def impl_ReadClock_H : List (Nat × ET) := []
noncomputable def impl_ReadClock_c : Callee := mkCallee impl_ReadClock_D impl_ReadClock_H impl_ReadClock_ir [.d (.one .str)] [.d (.one (.int .i64)), .d (.one .bool)] []
noncomputable def impl_ReadClock (a0 : List UInt8) : Option (Int × Bool) := impl_ReadClock_c.f (a0, ())
theorem impl_ReadClock_eq (a0 : List UInt8) : impl_ReadClock a0 =
    (impl_pairOf a0).bind fun x1 =>
      if x1.2.2 then
        (impl_ClockText (IntKind.i64.wrap ((IntKind.i64.wrap (60 * x1.1)) + x1.2.1))).bind fun x2 =>
          if (x2 == a0) then
            some (IntKind.i64.wrap ((IntKind.i64.wrap (60 * x1.1)) + x1.2.1), true)
          else
            some (0, false)
      else
        some (0, false) :=
  (mk_f _ _ _ _ _ _ _ 4000).trans (by kernel_rfl)

/- spec.l02DrawNumber -/
def spec_l02DrawNumber_ir : Fn := { np := 1, io := [true], res := [.t 2], own := [false], body :=
  (.seq (.reg false [⟨some 2, false, .asg (.c (.int .i64 0)), none, false, []⟩] [0] [0, 1000]) (.seq (.seq (.reg false [⟨some 3, false, .mv (.t 0), none, false, []⟩, ⟨some 4, true, .call (.c (.fn 642 [])) [.t 3, .c (.int .i64 8)], none, false, []⟩] [0, 4] [0, 1000]) (.cond (.t 4) (.seq (.reg false [⟨some 5, false, .mv (.t 0), none, false, []⟩, ⟨some 6, false, .bsl 1 (.int .i64 0) 7 [(0, .c (.int .i64 0)), (1, .c (.int .i64 1000000000)), (2, .c (.int .i64 1000000001)), (3, .c (.int .i64 (-1000000000))), (4, .c (.int .i64 (-1000000001))), (5, .c (.int .i64 7)), (6, .c (.int .i64 (-7)))], none, false, []⟩, ⟨some 7, true, .call (.c (.fn 445 [])) [.t 5, .t 6], none, false, []⟩, ⟨some 2, false, .asg (.t 7), none, false, []⟩] [0, 2] [0, 1000]) .ret) .skip)) (.seq (.reg false [⟨some 8, false, .mv (.t 0), none, false, []⟩, ⟨some 9, true, .call (.c (.fn 463 [])) [.t 8, .c (.int .i64 4000)], none, false, []⟩, ⟨some 10, false, .bin .mul (.c (.int .i64 31)) (.t 9), none, false, []⟩, ⟨some 11, false, .bin .sub (.t 10) (.c (.int .i64 20000)), none, false, []⟩, ⟨some 2, false, .asg (.t 11), none, false, []⟩] [0, 2] [0, 1000]) .ret))) }
noncomputable def spec_l02DrawNumber_D : List (Nat × Callee) := [(445, spec_l00Src_among_c), (463, spec_l00Src_pick_c), (642, spec_l00Src_one_c)]
def spec_l02DrawNumber_H : List (Nat × ET) := [(6, (.one (.int .i64)))]
noncomputable def spec_l02DrawNumber_c : Callee := mkCallee spec_l02DrawNumber_D spec_l02DrawNumber_H spec_l02DrawNumber_ir [.box T_l00Src] [.d (.one (.int .i64))] [.box T_l00Src]
noncomputable def spec_l02DrawNumber (a0 : T_l00Src.ty) : Option (Int × T_l00Src.ty) := spec_l02DrawNumber_c.f (a0, ())
theorem spec_l02DrawNumber_eq (a0 : T_l00Src.ty) : spec_l02DrawNumber a0 =
    (spec_l00Src_one a0 8).bind fun x1 =>
      if x1.1 then
        (spec_l00Src_among (x1.2.1, x1.2.2.1, x1.2.2.2.1, ()) [0, 1000000000, 1000000001, (-1000000000), (-1000000001), 7, (-7)]).bind fun x2 =>
          some (x2.1, (x2.2.1, x2.2.2.1, x2.2.2.2.1, ()))
      else
        (spec_l00Src_pick (x1.2.1, x1.2.2.1, x1.2.2.2.1, ()) 4000).bind fun x3 =>
          some (IntKind.i64.wrap ((IntKind.i64.wrap (31 * x3.1)) - 20000), (x3.2.1, x3.2.2.1, x3.2.2.2.1, ())) :=
  (mk_f _ _ _ _ _ _ _ 4000).trans (by kernel_rfl)

/- spec.l02DrawPlaces -/
def spec_l02DrawPlaces_ir : Fn := { np := 1, io := [true], res := [.t 2], own := [false], body :=
  (.seq (.reg false [⟨some 2, false, .asg (.c (.int .i64 0)), none, false, []⟩] [0] [0, 1000]) (.seq (.reg false [⟨some 3, false, .mv (.t 0), none, false, []⟩, ⟨some 4, false, .bsl 1 (.int .i64 0) 8 [(0, .c (.int .i64 1)), (1, .c (.int .i64 2)), (2, .c (.int .i64 3)), (3, .c (.int .i64 6)), (4, .c (.int .i64 0)), (5, .c (.int .i64 7)), (6, .c (.int .i64 2)), (7, .c (.int .i64 3))], none, false, []⟩, ⟨some 5, true, .call (.c (.fn 445 [])) [.t 3, .t 4], none, false, []⟩, ⟨some 2, false, .asg (.t 5), none, false, []⟩] [0, 2] [0, 1000]) .ret)) }
noncomputable def spec_l02DrawPlaces_D : List (Nat × Callee) := [(445, spec_l00Src_among_c)]
def spec_l02DrawPlaces_H : List (Nat × ET) := [(4, (.one (.int .i64)))]
noncomputable def spec_l02DrawPlaces_c : Callee := mkCallee spec_l02DrawPlaces_D spec_l02DrawPlaces_H spec_l02DrawPlaces_ir [.box T_l00Src] [.d (.one (.int .i64))] [.box T_l00Src]
noncomputable def spec_l02DrawPlaces (a0 : T_l00Src.ty) : Option (Int × T_l00Src.ty) := spec_l02DrawPlaces_c.f (a0, ())
theorem spec_l02DrawPlaces_eq (a0 : T_l00Src.ty) : spec_l02DrawPlaces a0 =
    (spec_l00Src_among a0 [1, 2, 3, 6, 0, 7, 2, 3]).bind fun x1 =>
      some (x1.1, (x1.2.1, x1.2.2.1, x1.2.2.2.1, ())) :=
  (mk_f _ _ _ _ _ _ _ 4000).trans (by kernel_rfl)

/- spec.DrawFixedText -/
def spec_DrawFixedText_ir : Fn := { np := 1, io := [], res := [.t 2, .t 3], own := [false, false], body :=
  (.seq (.reg false [⟨some 2, false, .asg (.c (.int .i64 0)), none, false, []⟩, ⟨some 3, false, .asg (.c (.int .i64 0)), none, false, []⟩] [0] []) (.seq (.reg false [⟨some 6, false, .mv (.t 0), none, false, []⟩, ⟨some 7, true, .call (.c (.fn 441 [])) [.t 6], none, false, []⟩, ⟨some 4, false, .asg (.t 7), none, false, []⟩] [4] [7, 8000]) (.seq (.reg false [⟨some 8, false, .mv (.t 4), none, false, []⟩, ⟨some 9, true, .call (.c (.fn 671 [])) [.t 8], none, false, []⟩, ⟨some 5, false, .asg (.t 9), none, false, []⟩] [4, 5] [7, 8000]) (.seq (.reg false [⟨some 10, false, .mv (.t 5), none, false, []⟩, ⟨some 11, false, .mv (.t 4), none, false, []⟩, ⟨some 12, true, .call (.c (.fn 670 [])) [.t 11], none, false, []⟩, ⟨some 2, false, .asg (.t 10), none, false, []⟩, ⟨some 3, false, .asg (.t 12), none, false, []⟩] [2, 3] []) .ret)))) }
noncomputable def spec_DrawFixedText_D : List (Nat × Callee) := [(441, spec_l00From_c), (670, spec_l02DrawPlaces_c), (671, spec_l02DrawNumber_c)]
def spec_DrawFixedText_H : List (Nat × ET) := [(6, (.one (.int .u8)))]
noncomputable def spec_DrawFixedText_c : Callee := mkCallee spec_DrawFixedText_D spec_DrawFixedText_H spec_DrawFixedText_ir [.d (.one (.sl (.one (.int .u8))))] [.d (.one (.int .i64)), .d (.one (.int .i64))] []
noncomputable def spec_DrawFixedText (a0 : List Int) : Option (Int × Int) := spec_DrawFixedText_c.f (a0, ())
theorem spec_DrawFixedText_eq (a0 : List Int) : spec_DrawFixedText a0 =
    (spec_l00From a0).bind fun x1 =>
      (spec_l02DrawNumber x1).bind fun x2 =>
        (spec_l02DrawPlaces (x2.2.1, x2.2.2.1, x2.2.2.2.1, ())).bind fun x3 =>
          some (x2.1, x3.1) :=
  (mk_f _ _ _ _ _ _ _ 4000).trans (by kernel_rfl)

/- impl.FixedText -/
def impl_FixedText_k0 : C :=
  .seq (.reg false [⟨some 16, false, .mv (.t 0), none, false, []⟩, ⟨some 17, false, .mv (.t 0), none, false, []⟩, ⟨some 18, false, .un .neg (.t 17), none, false, []⟩, ⟨some 19, false, .max [.t 16, .t 18], none, false, []⟩, ⟨some 20, false, .mv (.t 1), none, false, []⟩, ⟨some 21, false, .bin .add (.t 20) (.c (.int .i64 1)), none, false, []⟩, ⟨some 22, false, .call (.c (.fn 668 [])) [.t 19, .t 21], none, false, []⟩, ⟨some 5, false, .asg (.t 22), none, false, []⟩] [0, 1, 5] []) (.seq (.reg false [⟨some 23, false, .mv (.t 5), none, false, []⟩, ⟨some 24, false, .lens (.t 23), none, false, []⟩, ⟨some 25, false, .mv (.t 1), none, false, []⟩, ⟨some 26, false, .bin .sub (.t 24) (.t 25), none, false, []⟩, ⟨some 6, false, .asg (.t 26), none, false, []⟩] [0, 5, 6] []) (.seq (.reg true [⟨some 27, false, .mv (.t 5), none, false, []⟩, ⟨some 28, false, .mv (.t 6), none, false, []⟩, ⟨some 29, false, .slcs (.t 27) none (some (.t 28)), none, false, []⟩, ⟨some 30, false, .bin .add (.t 29) (.c (.str [46])), none, false, []⟩, ⟨some 31, false, .mv (.t 5), none, false, []⟩, ⟨some 32, false, .mv (.t 6), none, false, []⟩, ⟨some 33, false, .slcs (.t 31) (some (.t 32)) none, none, false, []⟩, ⟨some 34, false, .bin .add (.t 30) (.t 33), none, false, []⟩, ⟨some 7, false, .asg (.t 34), none, false, []⟩] [0, 7] []) (.seq (.seq (.reg false [⟨some 35, false, .mv (.t 0), none, false, []⟩, ⟨some 36, false, .bin .lss (.t 35) (.c (.int .i64 0)), none, false, []⟩] [7, 36] []) (.cond (.t 36) (.reg false [⟨some 37, false, .mv (.t 7), none, false, []⟩, ⟨some 38, false, .bin .add (.c (.str [45])) (.t 37), none, false, []⟩, ⟨some 7, false, .asg (.t 38), none, false, []⟩] [7] []) .skip)) (.seq (.reg false [⟨some 39, false, .mv (.t 7), none, false, []⟩, ⟨some 4, false, .asg (.t 39), none, false, []⟩] [4] []) .ret))))
def impl_FixedText_ir : Fn := { np := 2, io := [], res := [.t 4], own := [false], body :=
  (.seq (.reg false [⟨some 4, false, .asg (.c (.str [])), none, false, []⟩] [0, 1] []) (.seq (.seq (.reg false [⟨some 8, false, .mv (.t 0), none, false, []⟩, ⟨some 9, false, .call (.c (.fn 23 [])) [.t 8, .c (.int .i64 (-1000000000)), .c (.int .i64 1000000000)], none, false, []⟩, ⟨some 10, false, .un .not (.t 9), none, false, []⟩, ⟨some 11, false, .mv (.t 10), none, false, []⟩, ⟨some 12, false, .mv (.t 1), some (3, false), false, []⟩, ⟨some 13, false, .call (.c (.fn 23 [])) [.t 12, .c (.int .i64 1), .c (.int .i64 6)], some (3, false), false, []⟩, ⟨some 14, false, .un .not (.t 13), some (3, false), false, []⟩, ⟨some 15, false, .pick (.t 11) (.c (.bool true)) (.t 14), none, false, []⟩] [0, 1, 15] []) (.cond (.t 15) (.seq (.reg false [⟨some 4, false, .asg (.c (.str [])), none, false, []⟩] [4] []) .ret) .skip)) (.norm [0, 1] [] impl_FixedText_k0))) }
noncomputable def impl_FixedText_D : List (Nat × Callee) := [(23, impl_within_c), (668, impl_padded_c)]
def impl_FixedText_H : List (Nat × ET) := []
noncomputable def impl_FixedText_c : Callee := mkCallee impl_FixedText_D impl_FixedText_H impl_FixedText_ir [.d (.one (.int .i64)), .d (.one (.int .i64))] [.d (.one .str)] []
noncomputable def impl_FixedText (a0 : Int) (a1 : Int) : Option (List UInt8) := impl_FixedText_c.f (a0, a1, ())
noncomputable def impl_FixedText_p0  (v0 : Int) (v1 : Int) : Option (List UInt8) :=
  goL impl_FixedText_D impl_FixedText_H (vleave impl_FixedText_ir [.d (.one (.int .i64)), .d (.one (.int .i64))] [.d (.one .str)] [] []) [.c impl_FixedText_k0]
    ⟨[(0, .int .i64 v0), (1, .int .i64 v1)], []⟩
theorem impl_FixedText_eq (a0 : Int) (a1 : Int) : impl_FixedText a0 a1 =
    (impl_within a0 (-1000000000) 1000000000).bind fun x1 =>
      if (!x1) then
        some []
      else
        (impl_within a1 1 6).bind fun x2 =>
          if (!x2) then
            some []
          else
            impl_FixedText_p0 a0 a1 :=
  (mk_f _ _ _ _ _ _ _ 4000).trans (by kernel_rfl)
theorem impl_FixedText_p0_eq  (v0 : Int) (v1 : Int) : impl_FixedText_p0 v0 v1 =
    (impl_padded (if IntKind.i64.wrap (0 - v0) > v0 then IntKind.i64.wrap (0 - v0) else v0) (IntKind.i64.wrap (v1 + 1))).bind fun x1 =>
      if decide (0 ≤ IntKind.i64.wrap ((x1.length : Int) - v1)) && decide (IntKind.i64.wrap ((x1.length : Int) - v1) ≤ (x1.length : Int)) then
        if decide ((x1.take ((IntKind.i64.wrap ((x1.length : Int) - v1)).toNat)).length + [46].length ≤ strMax) then
          if decide (0 ≤ IntKind.i64.wrap ((x1.length : Int) - v1)) && decide (IntKind.i64.wrap ((x1.length : Int) - v1) ≤ (x1.length : Int)) then
            if decide (((x1.take ((IntKind.i64.wrap ((x1.length : Int) - v1)).toNat)) ++ [46]).length + (x1.drop ((IntKind.i64.wrap ((x1.length : Int) - v1)).toNat)).length ≤ strMax) then
              if decide (v0 < 0) then
                if decide ([45].length + (((x1.take ((IntKind.i64.wrap ((x1.length : Int) - v1)).toNat)) ++ [46]) ++ (x1.drop ((IntKind.i64.wrap ((x1.length : Int) - v1)).toNat))).length ≤ strMax) then
                  some ([45] ++ (((x1.take ((IntKind.i64.wrap ((x1.length : Int) - v1)).toNat)) ++ [46]) ++ (x1.drop ((IntKind.i64.wrap ((x1.length : Int) - v1)).toNat))))
                else
                  none
              else
                some (((x1.take ((IntKind.i64.wrap ((x1.length : Int) - v1)).toNat)) ++ [46]) ++ (x1.drop ((IntKind.i64.wrap ((x1.length : Int) - v1)).toNat)))
            else
              none
          else
            none
        else
          none
      else
        none :=
  (goL_dn _ _ _ 4000 _ _).trans (by kernel_rfl)

/- strings.TrimPrefix -/
noncomputable def strings_TrimPrefix_c : Callee := trimPrefixC
noncomputable def strings_TrimPrefix (a0 : List UInt8) (a1 : List UInt8) : Option (List UInt8) := strings_TrimPrefix_c.f (a0, a1, ())
theorem strings_TrimPrefix_eq (a0 : List UInt8) (a1 : List UInt8) : strings_TrimPrefix a0 a1 = some (Lib.trimPrefix a0 a1) := rfl

/- strings.HasPrefix -/
noncomputable def strings_HasPrefix_c : Callee := hasPrefixC
noncomputable def strings_HasPrefix (a0 : List UInt8) (a1 : List UInt8) : Option (Bool) := strings_HasPrefix_c.f (a0, a1, ())
theorem strings_HasPrefix_eq (a0 : List UInt8) (a1 : List UInt8) : strings_HasPrefix a0 a1 = some (Lib.hasPrefix a0 a1) := rfl

/- impl.ReadFixed -/
def impl_ReadFixed_k0 : C :=
  .seq (.seq (.reg false [⟨some 29, false, .mv (.t 8), none, false, []⟩, ⟨some 30, false, .un .not (.t 29), none, false, []⟩, ⟨some 31, false, .mv (.t 30), none, false, []⟩, ⟨some 32, false, .mv (.t 10), some (2, false), false, []⟩, ⟨some 33, false, .un .not (.t 32), some (2, false), false, []⟩, ⟨some 34, false, .pick (.t 31) (.c (.bool true)) (.t 33), none, false, []⟩, ⟨some 35, false, .mv (.t 34), none, false, []⟩, ⟨some 36, false, .mv (.t 9), some (6, false), false, []⟩, ⟨some 37, false, .mv (.t 1), some (6, false), false, []⟩, ⟨some 38, false, .call (.c (.fn 251 [])) [.t 36, .t 37], some (6, false), false, []⟩, ⟨some 39, false, .mv (.t 0), some (6, false), false, []⟩, ⟨some 40, false, .bin .neq (.t 38) (.t 39), some (6, false), false, []⟩, ⟨some 41, false, .pick (.t 35) (.c (.bool true)) (.t 40), none, false, []⟩] [9, 41] []) (.cond (.t 41) (.seq (.reg false [⟨some 4, false, .asg (.c (.int .i64 0)), none, false, []⟩, ⟨some 5, false, .asg (.c (.bool false)), none, false, []⟩] [4, 5] []) .ret) .skip)) (.seq (.reg false [⟨some 42, false, .mv (.t 9), none, false, []⟩, ⟨some 4, false, .asg (.t 42), none, false, []⟩, ⟨some 5, false, .asg (.c (.bool true)), none, false, []⟩] [4, 5] []) .ret)
def impl_ReadFixed_ir : Fn := { np := 2, io := [], res := [.t 4, .t 5], own := [false, false], body :=
  (.seq (.reg false [⟨some 4, false, .asg (.c (.int .i64 0)), none, false, []⟩, ⟨some 5, false, .asg (.c (.bool false)), none, false, []⟩] [0, 1] []) (.seq (.reg false [⟨some 12, false, .mv (.t 0), none, false, []⟩, ⟨some 13, false, .call (.c (.fn 674 [])) [.t 12, .c (.str [45])], none, false, []⟩, ⟨some 14, false, .call (.c (.fn 523 [])) [.t 13, .c (.str [46])], none, false, []⟩, ⟨some 11, false, .mv (.t 14), none, false, []⟩, ⟨some 15, false, .ext (.t 11) 0, none, false, []⟩, ⟨some 16, false, .ext (.t 11) 1, none, false, []⟩, ⟨some 17, false, .ext (.t 11) 2, none, false, []⟩, ⟨some 6, false, .asg (.t 15), none, false, []⟩, ⟨some 7, false, .asg (.t 16), none, false, []⟩, ⟨some 8, false, .asg (.t 17), none, false, []⟩] [0, 1, 6, 7, 8] []) (.seq (.reg false [⟨some 19, false, .mv (.t 6), none, false, []⟩, ⟨some 20, false, .mv (.t 7), none, false, []⟩, ⟨some 21, false, .bin .add (.t 19) (.t 20), none, false, []⟩, ⟨some 22, false, .call (.c (.fn 673 [])) [.t 21], none, false, []⟩, ⟨some 18, false, .mv (.t 22), none, false, []⟩, ⟨some 23, false, .ext (.t 18) 0, none, false, []⟩, ⟨some 24, false, .ext (.t 18) 1, none, false, []⟩, ⟨some 9, false, .asg (.t 23), none, false, []⟩, ⟨some 10, false, .asg (.t 24), none, false, []⟩] [0, 1, 8, 9, 10] []) (.seq (.seq (.reg false [⟨some 25, false, .mv (.t 0), none, false, []⟩, ⟨some 26, false, .call (.c (.fn 672 [])) [.t 25, .c (.str [45])], none, false, []⟩] [0, 1, 8, 9, 10, 26] []) (.cond (.t 26) (.reg false [⟨some 27, false, .mv (.t 9), none, false, []⟩, ⟨some 28, false, .un .neg (.t 27), none, false, []⟩, ⟨some 9, false, .asg (.t 28), none, false, []⟩] [0, 1, 8, 9, 10] []) .skip)) (.norm [0, 1, 8, 9, 10] [] impl_ReadFixed_k0))))) }
noncomputable def impl_ReadFixed_D : List (Nat × Callee) := [(251, impl_FixedText_c), (523, strings_Cut_c), (672, strings_HasPrefix_c), (673, impl_digitsOf_c), (674, strings_TrimPrefix_c)]
def impl_ReadFixed_H : List (Nat × ET) := []
noncomputable def impl_ReadFixed_c : Callee := mkCallee impl_ReadFixed_D impl_ReadFixed_H impl_ReadFixed_ir [.d (.one .str), .d (.one (.int .i64))] [.d (.one (.int .i64)), .d (.one .bool)] []
noncomputable def impl_ReadFixed (a0 : List UInt8) (a1 : Int) : Option (Int × Bool) := impl_ReadFixed_c.f (a0, a1, ())
noncomputable def impl_ReadFixed_p0  (v0 : List UInt8) (v1 : Int) (v8 : Bool) (v9 : Int) (v10 : Bool) : Option (Int × Bool) :=
  goL impl_ReadFixed_D impl_ReadFixed_H (vleave impl_ReadFixed_ir [.d (.one .str), .d (.one (.int .i64))] [.d (.one (.int .i64)), .d (.one .bool)] [] []) [.c impl_ReadFixed_k0]
    ⟨[(0, .str v0), (1, .int .i64 v1), (8, .bool v8), (9, .int .i64 v9), (10, .bool v10)], []⟩
theorem impl_ReadFixed_eq (a0 : List UInt8) (a1 : Int) : impl_ReadFixed a0 a1 =
    (strings_TrimPrefix a0 [45]).bind fun x1 =>
      (strings_Cut x1 [46]).bind fun x2 =>
        if decide (x2.1.length + x2.2.1.length ≤ strMax) then
          (impl_digitsOf (x2.1 ++ x2.2.1)).bind fun x3 =>
            (strings_HasPrefix a0 [45]).bind fun x4 =>
              if x4 then
                impl_ReadFixed_p0 a0 a1 x2.2.2 (IntKind.i64.wrap (0 - x3.1)) x3.2
              else
                impl_ReadFixed_p0 a0 a1 x2.2.2 x3.1 x3.2
        else
          none :=
  (mk_f _ _ _ _ _ _ _ 4000).trans (by kernel_rfl)
theorem impl_ReadFixed_p0_eq  (v0 : List UInt8) (v1 : Int) (v8 : Bool) (v9 : Int) (v10 : Bool) : impl_ReadFixed_p0 v0 v1 v8 v9 v10 =
    if (!v8) then
      some (0, false)
    else
      if (!v10) then
        some (0, false)
      else
        (impl_FixedText v9 v1).bind fun x1 =>
          if (!(x1 == v0)) then
            some (0, false)
          else
            some (v9, true) :=
  (goL_dn _ _ _ 4000 _ _).trans (by kernel_rfl)

/- spec.l02DrawMass -/
def spec_l02DrawMass_ir : Fn := { np := 1, io := [true], res := [.t 2], own := [false], body :=
  (.seq (.reg false [⟨some 2, false, .asg (.c (.int .i64 0)), none, false, []⟩] [0] [0, 1000]) (.seq (.seq (.reg false [⟨some 3, false, .mv (.t 0), none, false, []⟩, ⟨some 4, true, .call (.c (.fn 642 [])) [.t 3, .c (.int .i64 9)], none, false, []⟩] [0, 4] [0, 1000]) (.cond (.t 4) (.seq (.reg false [⟨some 5, false, .mv (.t 0), none, false, []⟩, ⟨some 6, false, .bsl 1 (.int .i64 0) 5 [(0, .c (.int .i64 (-1))), (1, .c (.int .i64 0)), (2, .c (.int .i64 1)), (3, .c (.int .i64 1000000000)), (4, .c (.int .i64 1000000001))], none, false, []⟩, ⟨some 7, true, .call (.c (.fn 445 [])) [.t 5, .t 6], none, false, []⟩, ⟨some 2, false, .asg (.t 7), none, false, []⟩] [0, 2] [0, 1000]) .ret) .skip)) (.seq (.reg false [⟨some 8, false, .mv (.t 0), none, false, []⟩, ⟨some 9, true, .call (.c (.fn 463 [])) [.t 8, .c (.int .i64 9000)], none, false, []⟩, ⟨some 2, false, .asg (.t 9), none, false, []⟩] [0, 2] [0, 1000]) .ret))) }
noncomputable def spec_l02DrawMass_D : List (Nat × Callee) := [(445, spec_l00Src_among_c), (463, spec_l00Src_pick_c), (642, spec_l00Src_one_c)]
def spec_l02DrawMass_H : List (Nat × ET) := [(6, (.one (.int .i64)))]
noncomputable def spec_l02DrawMass_c : Callee := mkCallee spec_l02DrawMass_D spec_l02DrawMass_H spec_l02DrawMass_ir [.box T_l00Src] [.d (.one (.int .i64))] [.box T_l00Src]
noncomputable def spec_l02DrawMass (a0 : T_l00Src.ty) : Option (Int × T_l00Src.ty) := spec_l02DrawMass_c.f (a0, ())
theorem spec_l02DrawMass_eq (a0 : T_l00Src.ty) : spec_l02DrawMass a0 =
    (spec_l00Src_one a0 9).bind fun x1 =>
      if x1.1 then
        (spec_l00Src_among (x1.2.1, x1.2.2.1, x1.2.2.2.1, ()) [(-1), 0, 1, 1000000000, 1000000001]).bind fun x2 =>
          some (x2.1, (x2.2.1, x2.2.2.1, x2.2.2.2.1, ()))
      else
        (spec_l00Src_pick (x1.2.1, x1.2.2.1, x1.2.2.2.1, ()) 9000).bind fun x3 =>
          some (x3.1, (x3.2.1, x3.2.2.1, x3.2.2.2.1, ())) :=
  (mk_f _ _ _ _ _ _ _ 4000).trans (by kernel_rfl)

/- spec.DrawLapText -/
def spec_DrawLapText_ir : Fn := { np := 1, io := [], res := [.t 2], own := [false], body :=
  (.seq (.reg false [⟨some 2, false, .asg (.c (.int .i64 0)), none, false, []⟩] [0] []) (.seq (.reg false [⟨some 4, false, .mv (.t 0), none, false, []⟩, ⟨some 5, true, .call (.c (.fn 441 [])) [.t 4], none, false, []⟩, ⟨some 3, false, .asg (.t 5), none, false, []⟩] [3] [5, 6000]) (.seq (.reg false [⟨some 6, false, .mv (.t 3), none, false, []⟩, ⟨some 7, true, .call (.c (.fn 675 [])) [.t 6], none, false, []⟩, ⟨some 2, false, .asg (.t 7), none, false, []⟩] [2] []) .ret))) }
noncomputable def spec_DrawLapText_D : List (Nat × Callee) := [(441, spec_l00From_c), (675, spec_l02DrawMass_c)]
def spec_DrawLapText_H : List (Nat × ET) := [(4, (.one (.int .u8)))]
noncomputable def spec_DrawLapText_c : Callee := mkCallee spec_DrawLapText_D spec_DrawLapText_H spec_DrawLapText_ir [.d (.one (.sl (.one (.int .u8))))] [.d (.one (.int .i64))] []
noncomputable def spec_DrawLapText (a0 : List Int) : Option (Int) := spec_DrawLapText_c.f (a0, ())
theorem spec_DrawLapText_eq (a0 : List Int) : spec_DrawLapText a0 =
    (spec_l00From a0).bind fun x1 =>
      (spec_l02DrawMass x1).bind fun x2 =>
        some x2.1 :=
  (mk_f _ _ _ _ _ _ _ 4000).trans (by kernel_rfl)

/- impl.LapText -/
def impl_LapText_ir : Fn := { np := 1, io := [], res := [.t 2], own := [false], body :=
  (.seq (.reg false [⟨some 2, false, .asg (.c (.str [])), none, false, []⟩] [0] []) (.seq (.seq (.reg false [⟨some 3, false, .mv (.t 0), none, false, []⟩, ⟨some 4, false, .call (.c (.fn 23 [])) [.t 3, .c (.int .i64 0), .c (.int .i64 1000000000)], none, false, []⟩, ⟨some 5, false, .un .not (.t 4), none, false, []⟩] [0, 5] []) (.cond (.t 5) (.seq (.reg false [⟨some 2, false, .asg (.c (.str [])), none, false, []⟩] [2] []) .ret) .skip)) (.seq (.reg false [⟨some 6, false, .mv (.t 0), none, false, []⟩, ⟨some 7, false, .bin .quo (.t 6) (.c (.int .i64 60)), none, false, []⟩, ⟨some 8, false, .call (.c (.fn 524 [])) [.t 7], none, false, []⟩, ⟨some 9, false, .bin .add (.t 8) (.c (.str [58])), none, false, []⟩, ⟨some 10, false, .mv (.t 0), none, false, []⟩, ⟨some 11, false, .bin .rem (.t 10) (.c (.int .i64 60)), none, false, []⟩, ⟨some 12, false, .call (.c (.fn 668 [])) [.t 11, .c (.int .i64 2)], none, false, []⟩, ⟨some 13, false, .bin .add (.t 9) (.t 12), none, false, []⟩, ⟨some 2, false, .asg (.t 13), none, false, []⟩] [2] []) .ret))) }
noncomputable def impl_LapText_D : List (Nat × Callee) := [(23, impl_within_c), (524, impl_Decimal_c), (668, impl_padded_c)]
def impl_LapText_H : List (Nat × ET) := []
noncomputable def impl_LapText_c : Callee := mkCallee impl_LapText_D impl_LapText_H impl_LapText_ir [.d (.one (.int .i64))] [.d (.one .str)] []
noncomputable def impl_LapText (a0 : Int) : Option (List UInt8) := impl_LapText_c.f (a0, ())
theorem impl_LapText_eq (a0 : Int) : impl_LapText a0 =
    (impl_within a0 0 1000000000).bind fun x1 =>
      if (!x1) then
        some []
      else
        (impl_Decimal (IntKind.i64.wrap (a0.tdiv 60))).bind fun x2 =>
          if decide (x2.length + [58].length ≤ strMax) then
            (impl_padded (a0.tmod 60) 2).bind fun x3 =>
              if decide ((x2 ++ [58]).length + x3.length ≤ strMax) then
                some ((x2 ++ [58]) ++ x3)
              else
                none
          else
            none :=
  (mk_f _ _ _ _ _ _ _ 4000).trans (by kernel_rfl)

/- impl.ReadLap -/
def impl_ReadLap_ir : Fn := { np := 1, io := [], res := [.t 2, .t 3], own := [false, false], body :=
  (.seq (.reg false [⟨some 2, false, .asg (.c (.int .i64 0)), none, false, []⟩, ⟨some 3, false, .asg (.c (.bool false)), none, false, []⟩] [0] []) (.seq (.reg false [⟨some 9, false, .mv (.t 0), none, false, []⟩, ⟨some 10, false, .call (.c (.fn 669 [])) [.t 9], none, false, []⟩, ⟨some 8, false, .mv (.t 10), none, false, []⟩, ⟨some 11, false, .ext (.t 8) 0, none, false, []⟩, ⟨some 12, false, .ext (.t 8) 1, none, false, []⟩, ⟨some 13, false, .ext (.t 8) 2, none, false, []⟩, ⟨some 4, false, .asg (.t 11), none, false, []⟩, ⟨some 5, false, .asg (.t 12), none, false, []⟩, ⟨some 6, false, .asg (.t 13), none, false, []⟩] [0, 4, 5, 6] []) (.seq (.seq (.reg false [⟨some 14, false, .mv (.t 4), none, false, []⟩, ⟨some 15, false, .bin .mul (.c (.int .i64 60)) (.t 14), none, false, []⟩, ⟨some 16, false, .mv (.t 5), none, false, []⟩, ⟨some 17, false, .bin .add (.t 15) (.t 16), none, false, []⟩, ⟨some 7, false, .asg (.t 17), none, false, []⟩] [0, 6, 7] []) (.seq (.reg false [⟨some 18, false, .mv (.t 6), none, false, []⟩, ⟨some 19, false, .mv (.t 18), none, false, []⟩, ⟨some 20, false, .mv (.t 7), some (1, true), false, []⟩, ⟨some 21, false, .call (.c (.fn 248 [])) [.t 20], some (1, true), false, []⟩, ⟨some 22, false, .mv (.t 0), some (1, true), false, []⟩, ⟨some 23, false, .bin .eql (.t 21) (.t 22), some (1, true), false, []⟩, ⟨some 24, false, .pick (.t 19) (.t 23) (.c (.bool false)), none, false, []⟩] [7, 24] []) (.cond (.t 24) (.seq (.reg false [⟨some 25, false, .mv (.t 7), none, false, []⟩, ⟨some 2, false, .asg (.t 25), none, false, []⟩, ⟨some 3, false, .asg (.c (.bool true)), none, false, []⟩] [2, 3] []) .ret) .skip))) (.seq (.reg false [⟨some 2, false, .asg (.c (.int .i64 0)), none, false, []⟩, ⟨some 3, false, .asg (.c (.bool false)), none, false, []⟩] [2, 3] []) .ret)))) }
noncomputable def impl_ReadLap_D : List (Nat × Callee) := [(248, impl_LapText_c), (669, impl_pairOf_c)]
def impl_ReadLap_H : List (Nat × ET) := []
noncomputable def impl_ReadLap_c : Callee := mkCallee impl_ReadLap_D impl_ReadLap_H impl_ReadLap_ir [.d (.one .str)] [.d (.one (.int .i64)), .d (.one .bool)] []
noncomputable def impl_ReadLap (a0 : List UInt8) : Option (Int × Bool) := impl_ReadLap_c.f (a0, ())
theorem impl_ReadLap_eq (a0 : List UInt8) : impl_ReadLap a0 =
    (impl_pairOf a0).bind fun x1 =>
      if x1.2.2 then
        (impl_LapText (IntKind.i64.wrap ((IntKind.i64.wrap (60 * x1.1)) + x1.2.1))).bind fun x2 =>
          if (x2 == a0) then
            some (IntKind.i64.wrap ((IntKind.i64.wrap (60 * x1.1)) + x1.2.1), true)
          else
            some (0, false)
      else
        some (0, false) :=
  (mk_f _ _ _ _ _ _ _ 4000).trans (by kernel_rfl)

/- spec.l00In -/
def spec_l00In_ir : Fn := { np := 3, io := [], res := [.t 6], own := [false], body :=
  (.seq (.reg false [⟨some 6, false, .asg (.c (.bool false)), none, false, []⟩] [0, 1, 2] []) (.seq (.reg false [⟨some 7, false, .mv (.t 0), none, false, []⟩, ⟨some 8, false, .mv (.t 1), none, false, []⟩, ⟨some 9, false, .bin .geq (.t 7) (.t 8), none, false, []⟩, ⟨some 10, false, .mv (.t 9), none, false, []⟩, ⟨some 11, false, .mv (.t 0), some (3, true), false, []⟩, ⟨some 12, false, .mv (.t 2), some (3, true), false, []⟩, ⟨some 13, false, .bin .leq (.t 11) (.t 12), some (3, true), false, []⟩, ⟨some 14, false, .pick (.t 10) (.t 13) (.c (.bool false)), none, false, []⟩, ⟨some 6, false, .asg (.t 14), none, false, []⟩] [6] []) .ret)) }
noncomputable def spec_l00In_D : List (Nat × Callee) := []
def spec_l00In_H : List (Nat × ET) := []
noncomputable def spec_l00In_c : Callee := mkCallee spec_l00In_D spec_l00In_H spec_l00In_ir [.d (.one (.int .i64)), .d (.one (.int .i64)), .d (.one (.int .i64))] [.d (.one .bool)] []
noncomputable def spec_l00In (a0 : Int) (a1 : Int) (a2 : Int) : Option (Bool) := spec_l00In_c.f (a0, a1, a2, ())
theorem spec_l00In_eq (a0 : Int) (a1 : Int) (a2 : Int) : spec_l00In a0 a1 a2 =
    if decide (a0 ≥ a1) then
      some (decide (a0 ≤ a2))
    else
      some false :=
  (mk_f _ _ _ _ _ _ _ 4000).trans (by kernel_rfl)

/- spec.l02Mass -/
def spec_l02Mass_ir : Fn := { np := 1, io := [], res := [.t 2], own := [false], body :=
  (.seq (.reg false [⟨some 2, false, .asg (.c (.bool false)), none, false, []⟩] [0] []) (.seq (.reg false [⟨some 3, false, .mv (.t 0), none, false, []⟩, ⟨some 4, false, .call (.c (.fn 1 [])) [.t 3, .c (.int .i64 0), .c (.int .i64 1000000000)], none, false, []⟩, ⟨some 2, false, .asg (.t 4), none, false, []⟩] [2] []) .ret)) }
noncomputable def spec_l02Mass_D : List (Nat × Callee) := [(1, spec_l00In_c)]
def spec_l02Mass_H : List (Nat × ET) := []
noncomputable def spec_l02Mass_c : Callee := mkCallee spec_l02Mass_D spec_l02Mass_H spec_l02Mass_ir [.d (.one (.int .i64))] [.d (.one .bool)] []
noncomputable def spec_l02Mass (a0 : Int) : Option (Bool) := spec_l02Mass_c.f (a0, ())
theorem spec_l02Mass_eq (a0 : Int) : spec_l02Mass a0 =
    (spec_l00In a0 0 1000000000).bind fun x1 =>
      some x1 :=
  (mk_f _ _ _ _ _ _ _ 4000).trans (by kernel_rfl)

/- spec.l01Dec -/
def spec_l01Dec_k0 : C :=
  .reg false [⟨some 22, false, .mv (.t 3), none, false, []⟩, ⟨some 23, false, .mv (.t 5), none, false, []⟩, ⟨some 24, false, .bin .add (.c (.int .i64 48)) (.t 23), none, false, []⟩, ⟨some 25, false, .conv (.int .u8) (.t 24), none, false, []⟩, ⟨some 26, false, .bsl 1 (.int .u8 0) 1 [(0, .t 25)], none, false, []⟩, ⟨some 27, true, .app 1 1 (.t 22) (.t 26), none, false, []⟩, ⟨some 3, true, .asg (.t 27), none, false, []⟩] [0, 3, 4] [3]
def spec_l01Dec_k1 : C :=
  .reg false [⟨some 14, false, .mv (.t 4), none, false, []⟩, ⟨some 15, false, .bin .quo (.t 14) (.c (.int .i64 10)), none, false, []⟩, ⟨some 4, false, .asg (.t 15), none, false, []⟩] [0, 3, 4] [3]
def spec_l01Dec_k2 : C :=
  .seq (.seq (.reg false [⟨some 12, false, .mv (.t 4), none, false, []⟩, ⟨some 13, false, .bin .neq (.t 12) (.c (.int .i64 0)), none, false, []⟩] [0, 3, 4, 13] [3]) (.cond (.t 13) .skip (.exit 0))) (.seq (.block 1 (.seq (.reg false [⟨some 16, false, .mv (.t 4), none, false, []⟩, ⟨some 17, false, .bin .rem (.t 16) (.c (.int .i64 10)), none, false, []⟩, ⟨some 5, false, .asg (.t 17), none, false, []⟩] [0, 3, 4, 5] [3]) (.seq (.seq (.reg false [⟨some 18, false, .mv (.t 5), none, false, []⟩, ⟨some 19, false, .bin .lss (.t 18) (.c (.int .i64 0)), none, false, []⟩] [0, 3, 4, 5, 19] [3]) (.cond (.t 19) (.reg false [⟨some 20, false, .mv (.t 5), none, false, []⟩, ⟨some 21, false, .un .neg (.t 20), none, false, []⟩, ⟨some 5, false, .asg (.t 21), none, false, []⟩] [0, 3, 4, 5] [3]) .skip)) (.norm [0, 3, 4, 5] [3] spec_l01Dec_k0)))) spec_l01Dec_k1)
def spec_l01Dec_k3 : C :=
  .norm [0, 3, 4] [3] spec_l01Dec_k2
def spec_l01Dec_k4 : C :=
  .seq (.seq (.reg false [⟨some 37, false, .mv (.t 7), none, false, []⟩, ⟨some 38, false, .bin .geq (.t 37) (.c (.int .i64 0)), none, false, []⟩] [3, 6, 7, 38] [3, 6]) (.cond (.t 38) .skip (.exit 2))) (.seq (.block 3 (.reg false [⟨some 41, false, .mv (.t 6), none, false, []⟩, ⟨some 42, false, .mv (.t 3), none, false, []⟩, ⟨some 43, false, .mv (.t 7), none, false, []⟩, ⟨some 44, false, .ia 1 (.t 42) (.t 43), none, false, []⟩, ⟨some 45, false, .ld none (.t 44), none, false, []⟩, ⟨some 46, false, .bsl 1 (.int .u8 0) 1 [(0, .t 45)], none, false, []⟩, ⟨some 47, true, .app 1 1 (.t 41) (.t 46), none, false, []⟩, ⟨some 6, true, .asg (.t 47), none, false, []⟩] [3, 6, 7] [3, 6])) (.reg false [⟨some 39, false, .mv (.t 7), none, false, []⟩, ⟨some 40, false, .bin .sub (.t 39) (.c (.int .i64 1)), none, false, []⟩, ⟨some 7, false, .asg (.t 40), none, false, []⟩] [3, 6, 7] [3, 6]))
def spec_l01Dec_k5 : C :=
  .norm [3, 6, 7] [3, 6] spec_l01Dec_k4
def spec_l01Dec_k6 : C :=
  .seq (.reg false [⟨some 48, false, .mv (.t 6), none, false, []⟩, ⟨some 49, false, .conv .bytesStr (.t 48), none, false, []⟩, ⟨some 2, false, .asg (.t 49), none, false, []⟩] [2] []) .ret
def spec_l01Dec_k7 : C :=
  .seq (.reg false [⟨some 33, false, .bsl 1 (.int .u8 0) 0 [], none, false, []⟩, ⟨some 6, true, .asg (.t 33), none, false, []⟩] [3, 6] [3, 6]) (.seq (.seq (.reg false [⟨some 34, false, .mv (.t 3), none, false, []⟩, ⟨some 35, false, .len (.t 34), none, false, []⟩, ⟨some 36, false, .bin .sub (.t 35) (.c (.int .i64 1)), none, false, []⟩, ⟨some 7, false, .asg (.t 36), none, false, []⟩] [3, 6, 7] [3, 6]) (.block 2 (.loop spec_l01Dec_k5))) spec_l01Dec_k6)
def spec_l01Dec_k8 : C :=
  .seq (.seq (.reg false [⟨some 28, false, .mv (.t 0), none, false, []⟩, ⟨some 29, false, .bin .lss (.t 28) (.c (.int .i64 0)), none, false, []⟩] [3, 29] [3]) (.cond (.t 29) (.reg false [⟨some 30, false, .mv (.t 3), none, false, []⟩, ⟨some 31, false, .bsl 1 (.int .u8 0) 1 [(0, .c (.int .u8 45))], none, false, []⟩, ⟨some 32, true, .app 1 1 (.t 30) (.t 31), none, false, []⟩, ⟨some 3, true, .asg (.t 32), none, false, []⟩] [3] [3]) .skip)) (.norm [3] [3] spec_l01Dec_k7)
def spec_l01Dec_ir : Fn := { np := 1, io := [], res := [.t 2], own := [false], body :=
  (.seq (.reg false [⟨some 2, false, .asg (.c (.str [])), none, false, []⟩] [0] []) (.seq (.seq (.reg false [⟨some 8, false, .mv (.t 0), none, false, []⟩, ⟨some 9, false, .bin .eql (.t 8) (.c (.int .i64 0)), none, false, []⟩] [0, 9] []) (.cond (.t 9) (.seq (.reg false [⟨some 2, false, .asg (.c (.str [48])), none, false, []⟩] [2] []) .ret) .skip)) (.seq (.reg false [⟨some 10, false, .bsl 1 (.int .u8 0) 0 [], none, false, []⟩, ⟨some 3, true, .asg (.t 10), none, false, []⟩] [0, 3] [3]) (.seq (.seq (.reg false [⟨some 11, false, .mv (.t 0), none, false, []⟩, ⟨some 4, false, .asg (.t 11), none, false, []⟩] [0, 3, 4] [3]) (.block 0 (.loop spec_l01Dec_k3))) spec_l01Dec_k8)))) }
noncomputable def spec_l01Dec_D : List (Nat × Callee) := []
def spec_l01Dec_H : List (Nat × ET) := [(3, (.one (.int .u8))), (6, (.one (.int .u8))), (10, (.one (.int .u8))), (22, (.one (.int .u8))), (26, (.one (.int .u8))), (27, (.one (.int .u8))), (30, (.one (.int .u8))), (31, (.one (.int .u8))), (32, (.one (.int .u8))), (33, (.one (.int .u8))), (34, (.one (.int .u8))), (41, (.one (.int .u8))), (42, (.one (.int .u8))), (46, (.one (.int .u8))), (47, (.one (.int .u8))), (48, (.one (.int .u8)))]
noncomputable def spec_l01Dec_c : Callee := mkCallee spec_l01Dec_D spec_l01Dec_H spec_l01Dec_ir [.d (.one (.int .i64))] [.d (.one .str)] []
noncomputable def spec_l01Dec (a0 : Int) : Option (List UInt8) := spec_l01Dec_c.f (a0, ())
noncomputable def spec_l01Dec_p0  (v0 : Int) (v4 : Int) (r3 : List Int) : Option (List UInt8) :=
  goL spec_l01Dec_D spec_l01Dec_H (vleave spec_l01Dec_ir [.d (.one (.int .i64))] [.d (.one .str)] [] []) [.c spec_l01Dec_k2, .l spec_l01Dec_k3, .e 0, .c spec_l01Dec_k8]
    ⟨[(0, .int .i64 v0), (3, .view 3 0 r3.length), (4, .int .i64 v4)], [(3, some (.sl (.one (.int .u8)) r3))]⟩
noncomputable def spec_l01Dec_p1  (v0 : Int) (v4 : Int) (v5 : Int) (r3 : List Int) : Option (List UInt8) :=
  goL spec_l01Dec_D spec_l01Dec_H (vleave spec_l01Dec_ir [.d (.one (.int .i64))] [.d (.one .str)] [] []) [.c spec_l01Dec_k0, .e 1, .c spec_l01Dec_k1, .l spec_l01Dec_k3, .e 0, .c spec_l01Dec_k8]
    ⟨[(0, .int .i64 v0), (3, .view 3 0 r3.length), (4, .int .i64 v4), (5, .int .i64 v5)], [(3, some (.sl (.one (.int .u8)) r3))]⟩
noncomputable def spec_l01Dec_p2  (r3 : List Int) : Option (List UInt8) :=
  goL spec_l01Dec_D spec_l01Dec_H (vleave spec_l01Dec_ir [.d (.one (.int .i64))] [.d (.one .str)] [] []) [.c spec_l01Dec_k7]
    ⟨[(3, .view 3 0 r3.length)], [(3, some (.sl (.one (.int .u8)) r3))]⟩
noncomputable def spec_l01Dec_p3  (v7 : Int) (r3 : List Int) (r6 : List Int) : Option (List UInt8) :=
  goL spec_l01Dec_D spec_l01Dec_H (vleave spec_l01Dec_ir [.d (.one (.int .i64))] [.d (.one .str)] [] []) [.c spec_l01Dec_k4, .l spec_l01Dec_k5, .e 2, .c spec_l01Dec_k6]
    ⟨[(3, .view 3 0 r3.length), (6, .view 6 0 r6.length), (7, .int .i64 v7)], [(3, some (.sl (.one (.int .u8)) r3)), (6, some (.sl (.one (.int .u8)) r6))]⟩
theorem spec_l01Dec_eq (a0 : Int) : spec_l01Dec a0 =
    if (a0 == 0) then
      some [48]
    else
      spec_l01Dec_p0 a0 a0 [] :=
  (mk_f _ _ _ _ _ _ _ 4000).trans (by kernel_rfl)
theorem spec_l01Dec_p0_eq  (v0 : Int) (v4 : Int) (r3 : List Int) : spec_l01Dec_p0 v0 v4 r3 =
    if (v4 != 0) then
      if decide (v4.tmod 10 < 0) then
        spec_l01Dec_p1 v0 v4 (IntKind.i64.wrap (0 - (v4.tmod 10))) r3
      else
        spec_l01Dec_p1 v0 v4 (v4.tmod 10) r3
    else
      if decide (v0 < 0) then
        if decide (r3.length + 1 < lim) then
          spec_l01Dec_p2 ((r3.take r3.length) ++ [45])
        else
          none
      else
        spec_l01Dec_p2 r3 :=
  (goL_dn _ _ _ 4000 _ _).trans (by kernel_rfl)
theorem spec_l01Dec_p1_eq  (v0 : Int) (v4 : Int) (v5 : Int) (r3 : List Int) : spec_l01Dec_p1 v0 v4 v5 r3 =
    if decide (r3.length + 1 < lim) then
      spec_l01Dec_p0 v0 (IntKind.i64.wrap (v4.tdiv 10)) ((r3.take r3.length) ++ [IntKind.u8.wrap (IntKind.i64.wrap (48 + v5))])
    else
      none :=
  (goL_dn _ _ _ 4000 _ _).trans (by kernel_rfl)
theorem spec_l01Dec_p2_eq  (r3 : List Int) : spec_l01Dec_p2 r3 =
    spec_l01Dec_p3 (IntKind.i64.wrap ((r3.length : Int) - 1)) r3 [] :=
  (goL_dn _ _ _ 4000 _ _).trans (by kernel_rfl)
theorem spec_l01Dec_p3_eq  (v7 : Int) (r3 : List Int) (r6 : List Int) : spec_l01Dec_p3 v7 r3 r6 =
    if decide (v7 ≥ 0) then
      if decide (0 ≤ v7) && decide (v7 < (r3.length : Int)) then
        (r3[v7.toNat]?).bind fun x1 =>
          if decide (r6.length + 1 < lim) then
            spec_l01Dec_p3 (IntKind.i64.wrap (v7 - 1)) r3 ((r6.take r6.length) ++ [x1])
          else
            none
      else
        none
    else
      some ((r6.take r6.length).map vu8) :=
  (goL_dn _ _ _ 4000 _ _).trans (by kernel_rfl)

/- spec.l02Lap -/
def spec_l02Lap_k0 : C :=
  .seq (.reg false [⟨some 12, false, .mv (.t 0), none, false, []⟩, ⟨some 13, false, .bin .quo (.t 12) (.c (.int .i64 60)), none, false, []⟩, ⟨some 14, false, .call (.c (.fn 726 [])) [.t 13], none, false, []⟩, ⟨some 15, false, .bin .add (.t 14) (.c (.str [58])), none, false, []⟩, ⟨some 16, false, .mv (.t 3), none, false, []⟩, ⟨some 17, false, .bin .add (.t 15) (.t 16), none, false, []⟩, ⟨some 2, false, .asg (.t 17), none, false, []⟩] [2] []) .ret
def spec_l02Lap_ir : Fn := { np := 1, io := [], res := [.t 2], own := [false], body :=
  (.seq (.reg false [⟨some 2, false, .asg (.c (.str [])), none, false, []⟩] [0] []) (.seq (.reg false [⟨some 4, false, .mv (.t 0), none, false, []⟩, ⟨some 5, false, .bin .rem (.t 4) (.c (.int .i64 60)), none, false, []⟩, ⟨some 6, false, .call (.c (.fn 726 [])) [.t 5], none, false, []⟩, ⟨some 3, false, .asg (.t 6), none, false, []⟩] [0, 3] []) (.seq (.seq (.reg false [⟨some 7, false, .mv (.t 3), none, false, []⟩, ⟨some 8, false, .lens (.t 7), none, false, []⟩, ⟨some 9, false, .bin .lss (.t 8) (.c (.int .i64 2)), none, false, []⟩] [0, 3, 9] []) (.cond (.t 9) (.reg false [⟨some 10, false, .mv (.t 3), none, false, []⟩, ⟨some 11, false, .bin .add (.c (.str [48])) (.t 10), none, false, []⟩, ⟨some 3, false, .asg (.t 11), none, false, []⟩] [0, 3] []) .skip)) (.norm [0, 3] [] spec_l02Lap_k0)))) }
noncomputable def spec_l02Lap_D : List (Nat × Callee) := [(726, spec_l01Dec_c)]
def spec_l02Lap_H : List (Nat × ET) := []
noncomputable def spec_l02Lap_c : Callee := mkCallee spec_l02Lap_D spec_l02Lap_H spec_l02Lap_ir [.d (.one (.int .i64))] [.d (.one .str)] []
noncomputable def spec_l02Lap (a0 : Int) : Option (List UInt8) := spec_l02Lap_c.f (a0, ())
noncomputable def spec_l02Lap_p0  (v0 : Int) (v3 : List UInt8) : Option (List UInt8) :=
  goL spec_l02Lap_D spec_l02Lap_H (vleave spec_l02Lap_ir [.d (.one (.int .i64))] [.d (.one .str)] [] []) [.c spec_l02Lap_k0]
    ⟨[(0, .int .i64 v0), (3, .str v3)], []⟩
theorem spec_l02Lap_eq (a0 : Int) : spec_l02Lap a0 =
    (spec_l01Dec (a0.tmod 60)).bind fun x1 =>
      if decide ((x1.length : Int) < 2) then
        if decide ([48].length + x1.length ≤ strMax) then
          spec_l02Lap_p0 a0 ([48] ++ x1)
        else
          none
      else
        spec_l02Lap_p0 a0 x1 :=
  (mk_f _ _ _ _ _ _ _ 4000).trans (by kernel_rfl)
theorem spec_l02Lap_p0_eq  (v0 : Int) (v3 : List UInt8) : spec_l02Lap_p0 v0 v3 =
    (spec_l01Dec (IntKind.i64.wrap (v0.tdiv 60))).bind fun x1 =>
      if decide (x1.length + [58].length ≤ strMax) then
        if decide ((x1 ++ [58]).length + v3.length ≤ strMax) then
          some ((x1 ++ [58]) ++ v3)
        else
          none
      else
        none :=
  (goL_dn _ _ _ 4000 _ _).trans (by kernel_rfl)

/- spec.LapText -/
def spec_LapText_ir : Fn := { np := 1, io := [], res := [.t 2], own := [false], body :=
  (.seq (.reg false [⟨some 2, false, .asg (.c (.str [])), none, false, []⟩] [0] []) (.seq (.seq (.reg false [⟨some 3, false, .mv (.t 0), none, false, []⟩, ⟨some 4, false, .call (.c (.fn 677 [])) [.t 3], none, false, []⟩, ⟨some 5, false, .un .not (.t 4), none, false, []⟩] [0, 5] []) (.cond (.t 5) (.seq (.reg false [⟨some 2, false, .asg (.c (.str [])), none, false, []⟩] [2] []) .ret) .skip)) (.seq (.reg false [⟨some 6, false, .mv (.t 0), none, false, []⟩, ⟨some 7, false, .call (.c (.fn 676 [])) [.t 6], none, false, []⟩, ⟨some 2, false, .asg (.t 7), none, false, []⟩] [2] []) .ret))) }
noncomputable def spec_LapText_D : List (Nat × Callee) := [(676, spec_l02Lap_c), (677, spec_l02Mass_c)]
def spec_LapText_H : List (Nat × ET) := []
noncomputable def spec_LapText_c : Callee := mkCallee spec_LapText_D spec_LapText_H spec_LapText_ir [.d (.one (.int .i64))] [.d (.one .str)] []
noncomputable def spec_LapText (a0 : Int) : Option (List UInt8) := spec_LapText_c.f (a0, ())
theorem spec_LapText_eq (a0 : Int) : spec_LapText a0 =
    (spec_l02Mass a0).bind fun x1 =>
      if (!x1) then
        some []
      else
        (spec_l02Lap a0).bind fun x2 =>
          some x2 :=
  (mk_f _ _ _ _ _ _ _ 4000).trans (by kernel_rfl)

/- spec.DrawLengthText -/
def spec_DrawLengthText_ir : Fn := { np := 1, io := [], res := [.t 2], own := [false], body :=
  (.seq (.reg false [⟨some 2, false, .asg (.c (.int .i64 0)), none, false, []⟩] [0] []) (.seq (.reg false [⟨some 4, false, .mv (.t 0), none, false, []⟩, ⟨some 5, true, .call (.c (.fn 441 [])) [.t 4], none, false, []⟩, ⟨some 3, false, .asg (.t 5), none, false, []⟩] [3] [5, 6000]) (.seq (.reg false [⟨some 6, false, .mv (.t 3), none, false, []⟩, ⟨some 7, true, .call (.c (.fn 675 [])) [.t 6], none, false, []⟩, ⟨some 2, false, .asg (.t 7), none, false, []⟩] [2] []) .ret))) }
noncomputable def spec_DrawLengthText_D : List (Nat × Callee) := [(441, spec_l00From_c), (675, spec_l02DrawMass_c)]
def spec_DrawLengthText_H : List (Nat × ET) := [(4, (.one (.int .u8)))]
noncomputable def spec_DrawLengthText_c : Callee := mkCallee spec_DrawLengthText_D spec_DrawLengthText_H spec_DrawLengthText_ir [.d (.one (.sl (.one (.int .u8))))] [.d (.one (.int .i64))] []
noncomputable def spec_DrawLengthText (a0 : List Int) : Option (Int) := spec_DrawLengthText_c.f (a0, ())
theorem spec_DrawLengthText_eq (a0 : List Int) : spec_DrawLengthText a0 =
    (spec_l00From a0).bind fun x1 =>
      (spec_l02DrawMass x1).bind fun x2 =>
        some x2.1 :=
  (mk_f _ _ _ _ _ _ _ 4000).trans (by kernel_rfl)

/- impl.LengthText -/
def impl_LengthText_ir : Fn := { np := 1, io := [], res := [.t 2], own := [false], body :=
  (.seq (.reg false [⟨some 2, false, .asg (.c (.str [])), none, false, []⟩] [0] []) (.seq (.seq (.reg false [⟨some 3, false, .mv (.t 0), none, false, []⟩, ⟨some 4, false, .call (.c (.fn 23 [])) [.t 3, .c (.int .i64 0), .c (.int .i64 1000000000)], none, false, []⟩, ⟨some 5, false, .un .not (.t 4), none, false, []⟩] [0, 5] []) (.cond (.t 5) (.seq (.reg false [⟨some 2, false, .asg (.c (.str [])), none, false, []⟩] [2] []) .ret) .skip)) (.seq (.reg false [⟨some 6, false, .mv (.t 0), none, false, []⟩, ⟨some 7, false, .call (.c (.fn 251 [])) [.t 6, .c (.int .i64 1)], none, false, []⟩, ⟨some 8, false, .bin .add (.t 7) (.c (.str [32, 109, 109])), none, false, []⟩, ⟨some 2, false, .asg (.t 8), none, false, []⟩] [2] []) .ret))) }
noncomputable def impl_LengthText_D : List (Nat × Callee) := [(23, impl_within_c), (251, impl_FixedText_c)]
def impl_LengthText_H : List (Nat × ET) := []
noncomputable def impl_LengthText_c : Callee := mkCallee impl_LengthText_D impl_LengthText_H impl_LengthText_ir [.d (.one (.int .i64))] [.d (.one .str)] []
noncomputable def impl_LengthText (a0 : Int) : Option (List UInt8) := impl_LengthText_c.f (a0, ())
theorem impl_LengthText_eq (a0 : Int) : impl_LengthText a0 =
    (impl_within a0 0 1000000000).bind fun x1 =>
      if (!x1) then
        some []
      else
        (impl_FixedText a0 1).bind fun x2 =>
          if decide (x2.length + [32, 109, 109].length ≤ strMax) then
            some (x2 ++ [32, 109, 109])
          else
            none :=
  (mk_f _ _ _ _ _ _ _ 4000).trans (by kernel_rfl)

/- strings.CutSuffix -/
noncomputable def strings_CutSuffix_c : Callee := cutSuffixC
noncomputable def strings_CutSuffix (a0 : List UInt8) (a1 : List UInt8) : Option (List UInt8 × Bool) := strings_CutSuffix_c.f (a0, a1, ())
theorem strings_CutSuffix_eq (a0 : List UInt8) (a1 : List UInt8) : strings_CutSuffix a0 a1 = if decide (a0.length ≤ 9223372036854775807) then some (Lib.trimSuffix a0 a1, Lib.hasSuffix a0 a1) else none := rfl

/- impl.ReadLength -/
def impl_ReadLength_ir : Fn := { np := 1, io := [], res := [.t 2, .t 3], own := [false, false], body :=
  (.seq (.reg false [⟨some 2, false, .asg (.c (.int .i64 0)), none, false, []⟩, ⟨some 3, false, .asg (.c (.bool false)), none, false, []⟩] [0] []) (.seq (.reg false [⟨some 9, false, .mv (.t 0), none, false, []⟩, ⟨some 10, false, .call (.c (.fn 678 [])) [.t 9, .c (.str [32, 109, 109])], none, false, []⟩, ⟨some 8, false, .mv (.t 10), none, false, []⟩, ⟨some 11, false, .ext (.t 8) 0, none, false, []⟩, ⟨some 12, false, .ext (.t 8) 1, none, false, []⟩, ⟨some 4, false, .asg (.t 11), none, false, []⟩, ⟨some 5, false, .asg (.t 12), none, false, []⟩] [4, 5] []) (.seq (.reg false [⟨some 14, false, .mv (.t 4), none, false, []⟩, ⟨some 15, false, .call (.c (.fn 250 [])) [.t 14, .c (.int .i64 1)], none, false, []⟩, ⟨some 13, false, .mv (.t 15), none, false, []⟩, ⟨some 16, false, .ext (.t 13) 0, none, false, []⟩, ⟨some 17, false, .ext (.t 13) 1, none, false, []⟩, ⟨some 6, false, .asg (.t 16), none, false, []⟩, ⟨some 7, false, .asg (.t 17), none, false, []⟩] [5, 6, 7] []) (.seq (.seq (.reg false [⟨some 18, false, .mv (.t 5), none, false, []⟩, ⟨some 19, false, .un .not (.t 18), none, false, []⟩, ⟨some 20, false, .mv (.t 19), none, false, []⟩, ⟨some 21, false, .mv (.t 7), some (2, false), false, []⟩, ⟨some 22, false, .un .not (.t 21), some (2, false), false, []⟩, ⟨some 23, false, .pick (.t 20) (.c (.bool true)) (.t 22), none, false, []⟩, ⟨some 24, false, .mv (.t 23), none, false, []⟩, ⟨some 25, false, .mv (.t 6), some (6, false), false, []⟩, ⟨some 26, false, .bin .lss (.t 25) (.c (.int .i64 0)), some (6, false), false, []⟩, ⟨some 27, false, .pick (.t 24) (.c (.bool true)) (.t 26), none, false, []⟩] [6, 27] []) (.cond (.t 27) (.seq (.reg false [⟨some 2, false, .asg (.c (.int .i64 0)), none, false, []⟩, ⟨some 3, false, .asg (.c (.bool false)), none, false, []⟩] [2, 3] []) .ret) .skip)) (.seq (.reg false [⟨some 28, false, .mv (.t 6), none, false, []⟩, ⟨some 2, false, .asg (.t 28), none, false, []⟩, ⟨some 3, false, .asg (.c (.bool true)), none, false, []⟩] [2, 3] []) .ret))))) }
noncomputable def impl_ReadLength_D : List (Nat × Callee) := [(250, impl_ReadFixed_c), (678, strings_CutSuffix_c)]
def impl_ReadLength_H : List (Nat × ET) := []
noncomputable def impl_ReadLength_c : Callee := mkCallee impl_ReadLength_D impl_ReadLength_H impl_ReadLength_ir [.d (.one .str)] [.d (.one (.int .i64)), .d (.one .bool)] []
noncomputable def impl_ReadLength (a0 : List UInt8) : Option (Int × Bool) := impl_ReadLength_c.f (a0, ())
theorem impl_ReadLength_eq (a0 : List UInt8) : impl_ReadLength a0 =
    (strings_CutSuffix a0 [32, 109, 109]).bind fun x1 =>
      (impl_ReadFixed x1.1 1).bind fun x2 =>
        if (!x1.2) then
          some (0, false)
        else
          if (!x2.2) then
            some (0, false)
          else
            if decide (x2.1 < 0) then
              some (0, false)
            else
              some (x2.1, true) :=
  (mk_f _ _ _ _ _ _ _ 4000).trans (by kernel_rfl)

/- impl.divRound -/
def impl_divRound_ir : Fn := { np := 2, io := [], res := [.t 4], own := [false], body :=
  (.seq (.reg false [⟨some 4, false, .asg (.c (.int .i64 0)), none, false, []⟩] [0, 1] []) (.seq (.reg false [⟨some 8, false, .mv (.t 0), none, false, []⟩, ⟨some 9, false, .bin .lss (.t 8) (.c (.int .i64 0)), none, false, []⟩, ⟨some 10, false, .mv (.t 1), none, false, []⟩, ⟨some 11, false, .bin .lss (.t 10) (.c (.int .i64 0)), none, false, []⟩, ⟨some 12, false, .eqb true (.t 9) (.t 11), none, false, []⟩, ⟨some 5, false, .asg (.t 12), none, false, []⟩] [0, 1, 5] []) (.seq (.reg false [⟨some 13, false, .mv (.t 0), none, false, []⟩, ⟨some 14, false, .mv (.t 0), none, false, []⟩, ⟨some 15, false, .un .neg (.t 14), none, false, []⟩, ⟨some 16, false, .max [.t 13, .t 15], none, false, []⟩, ⟨some 17, false, .mv (.t 1), none, false, []⟩, ⟨some 18, false, .mv (.t 1), none, false, []⟩, ⟨some 19, false, .un .neg (.t 18), none, false, []⟩, ⟨some 20, false, .max [.t 17, .t 19], none, false, []⟩, ⟨some 0, false, .asg (.t 16), none, false, []⟩, ⟨some 1, false, .asg (.t 20), none, false, []⟩] [0, 1, 5] []) (.seq (.reg false [⟨some 21, false, .mv (.t 0), none, false, []⟩, ⟨some 22, false, .mv (.t 1), none, false, []⟩, ⟨some 23, false, .bin .quo (.t 21) (.t 22), none, false, []⟩, ⟨some 6, false, .asg (.t 23), none, false, []⟩] [0, 1, 5, 6] []) (.seq (.seq (.reg false [⟨some 24, false, .mv (.t 0), none, false, []⟩, ⟨some 25, false, .mv (.t 1), none, false, []⟩, ⟨some 26, false, .bin .rem (.t 24) (.t 25), none, false, []⟩, ⟨some 7, false, .asg (.t 26), none, false, []⟩] [1, 5, 6, 7] []) (.seq (.reg false [⟨some 27, false, .mv (.t 7), none, false, []⟩, ⟨some 28, false, .mv (.t 1), none, false, []⟩, ⟨some 29, false, .mv (.t 7), none, false, []⟩, ⟨some 30, false, .bin .sub (.t 28) (.t 29), none, false, []⟩, ⟨some 31, false, .bin .geq (.t 27) (.t 30), none, false, []⟩] [5, 6, 31] []) (.cond (.t 31) (.reg false [⟨some 32, false, .mv (.t 6), none, false, []⟩, ⟨some 33, false, .bin .add (.t 32) (.c (.int .i64 1)), none, false, []⟩, ⟨some 6, false, .asg (.t 33), none, false, []⟩] [5, 6] []) .skip))) (.seq (.seq (.reg false [⟨some 34, false, .mv (.t 5), none, false, []⟩] [6, 34] []) (.cond (.t 34) (.seq (.reg false [⟨some 35, false, .mv (.t 6), none, false, []⟩, ⟨some 36, false, .un .neg (.t 35), none, false, []⟩, ⟨some 4, false, .asg (.t 36), none, false, []⟩] [4] []) .ret) .skip)) (.seq (.reg false [⟨some 37, false, .mv (.t 6), none, false, []⟩, ⟨some 4, false, .asg (.t 37), none, false, []⟩] [4] []) .ret))))))) }
noncomputable def impl_divRound_D : List (Nat × Callee) := []
def impl_divRound_H : List (Nat × ET) := []
noncomputable def impl_divRound_c : Callee := mkCallee impl_divRound_D impl_divRound_H impl_divRound_ir [.d (.one (.int .i64)), .d (.one (.int .i64))] [.d (.one (.int .i64))] []
noncomputable def impl_divRound (a0 : Int) (a1 : Int) : Option (Int) := impl_divRound_c.f (a0, a1, ())
theorem impl_divRound_eq (a0 : Int) (a1 : Int) : impl_divRound a0 a1 =
    if decide ((if IntKind.i64.wrap (0 - a1) > a1 then IntKind.i64.wrap (0 - a1) else a1) = 0) then
      none
    else
      if decide ((if IntKind.i64.wrap (0 - a1) > a1 then IntKind.i64.wrap (0 - a1) else a1) = 0) then
        none
      else
        if decide ((if IntKind.i64.wrap (0 - a0) > a0 then IntKind.i64.wrap (0 - a0) else a0).tmod (if IntKind.i64.wrap (0 - a1) > a1 then IntKind.i64.wrap (0 - a1) else a1) ≥ IntKind.i64.wrap ((if IntKind.i64.wrap (0 - a1) > a1 then IntKind.i64.wrap (0 - a1) else a1) - ((if IntKind.i64.wrap (0 - a0) > a0 then IntKind.i64.wrap (0 - a0) else a0).tmod (if IntKind.i64.wrap (0 - a1) > a1 then IntKind.i64.wrap (0 - a1) else a1)))) then
          if (!(decide (a0 < 0) == decide (a1 < 0))) then
            some (IntKind.i64.wrap (0 - (IntKind.i64.wrap ((IntKind.i64.wrap ((if IntKind.i64.wrap (0 - a0) > a0 then IntKind.i64.wrap (0 - a0) else a0).tdiv (if IntKind.i64.wrap (0 - a1) > a1 then IntKind.i64.wrap (0 - a1) else a1))) + 1))))
          else
            some (IntKind.i64.wrap ((IntKind.i64.wrap ((if IntKind.i64.wrap (0 - a0) > a0 then IntKind.i64.wrap (0 - a0) else a0).tdiv (if IntKind.i64.wrap (0 - a1) > a1 then IntKind.i64.wrap (0 - a1) else a1))) + 1))
        else
          if (!(decide (a0 < 0) == decide (a1 < 0))) then
            some (IntKind.i64.wrap (0 - (IntKind.i64.wrap ((if IntKind.i64.wrap (0 - a0) > a0 then IntKind.i64.wrap (0 - a0) else a0).tdiv (if IntKind.i64.wrap (0 - a1) > a1 then IntKind.i64.wrap (0 - a1) else a1)))))
          else
            some (IntKind.i64.wrap ((if IntKind.i64.wrap (0 - a0) > a0 then IntKind.i64.wrap (0 - a0) else a0).tdiv (if IntKind.i64.wrap (0 - a1) > a1 then IntKind.i64.wrap (0 - a1) else a1))) :=
  (mk_f _ _ _ _ _ _ _ 4000).trans (by kernel_rfl)

/- impl.InchParts -/
def impl_InchParts_ir : Fn := { np := 1, io := [], res := [.t 2, .t 3], own := [false, false], body :=
  (.seq (.reg false [⟨some 2, false, .asg (.c (.int .i64 0)), none, false, []⟩, ⟨some 3, false, .asg (.c (.int .i64 0)), none, false, []⟩] [0] []) (.seq (.seq (.reg false [⟨some 4, false, .mv (.t 0), none, false, []⟩, ⟨some 5, false, .call (.c (.fn 23 [])) [.t 4, .c (.int .i64 0), .c (.int .i64 1000000000)], none, false, []⟩, ⟨some 6, false, .un .not (.t 5), none, false, []⟩] [0, 6] []) (.cond (.t 6) (.seq (.reg false [⟨some 2, false, .asg (.c (.int .i64 0)), none, false, []⟩, ⟨some 3, false, .asg (.c (.int .i64 2)), none, false, []⟩] [2, 3] []) .ret) .skip)) (.seq (.reg false [⟨some 7, false, .mv (.t 0), none, false, []⟩, ⟨some 8, false, .bin .mul (.c (.int .i64 64)) (.t 7), none, false, []⟩, ⟨some 9, false, .call (.c (.fn 27 [])) [.t 8, .c (.int .i64 254)], none, false, []⟩, ⟨some 2, false, .asg (.t 9), none, false, []⟩, ⟨some 3, false, .asg (.c (.int .i64 0)), none, false, []⟩] [2, 3] []) .ret))) }
noncomputable def impl_InchParts_D : List (Nat × Callee) := [(23, impl_within_c), (27, impl_divRound_c)]
def impl_InchParts_H : List (Nat × ET) := []
noncomputable def impl_InchParts_c : Callee := mkCallee impl_InchParts_D impl_InchParts_H impl_InchParts_ir [.d (.one (.int .i64))] [.d (.one (.int .i64)), .d (.one (.int .i64))] []
noncomputable def impl_InchParts (a0 : Int) : Option (Int × Int) := impl_InchParts_c.f (a0, ())
theorem impl_InchParts_eq (a0 : Int) : impl_InchParts a0 =
    (impl_within a0 0 1000000000).bind fun x1 =>
      if (!x1) then
        some (0, 2)
      else
        (impl_divRound (IntKind.i64.wrap (64 * a0)) 254).bind fun x2 =>
          some (x2, 0) :=
  (mk_f _ _ _ _ _ _ _ 4000).trans (by kernel_rfl)

/- laws.b10Abs -/
def laws_b10Abs_ir : Fn := { np := 1, io := [], res := [.t 2], own := [false], body :=
  (.seq (.reg false [⟨some 2, false, .asg (.c (.int .i64 0)), none, false, []⟩] [0] []) (.seq (.seq (.reg false [⟨some 3, false, .mv (.t 0), none, false, []⟩, ⟨some 4, false, .bin .lss (.t 3) (.c (.int .i64 0)), none, false, []⟩] [0, 4] []) (.cond (.t 4) (.seq (.reg false [⟨some 5, false, .mv (.t 0), none, false, []⟩, ⟨some 6, false, .un .neg (.t 5), none, false, []⟩, ⟨some 2, false, .asg (.t 6), none, false, []⟩] [2] []) .ret) .skip)) (.seq (.reg false [⟨some 7, false, .mv (.t 0), none, false, []⟩, ⟨some 2, false, .asg (.t 7), none, false, []⟩] [2] []) .ret))) }
noncomputable def laws_b10Abs_D : List (Nat × Callee) := []
def laws_b10Abs_H : List (Nat × ET) := []
noncomputable def laws_b10Abs_c : Callee := mkCallee laws_b10Abs_D laws_b10Abs_H laws_b10Abs_ir [.d (.one (.int .i64))] [.d (.one (.int .i64))] []
noncomputable def laws_b10Abs (a0 : Int) : Option (Int) := laws_b10Abs_c.f (a0, ())
theorem laws_b10Abs_eq (a0 : Int) : laws_b10Abs a0 =
    if decide (a0 < 0) then
      some (IntKind.i64.wrap (0 - a0))
    else
      some a0 :=
  (mk_f _ _ _ _ _ _ _ 4000).trans (by kernel_rfl)

/- spec.DrawPiecesFrom -/
def spec_DrawPiecesFrom_k0 : C :=
  .seq (.reg false [⟨some 20, false, .mv (.t 6), none, false, []⟩, ⟨some 21, false, .mv (.t 7), none, false, []⟩, ⟨some 22, false, .mv (.t 5), none, false, []⟩, ⟨some 23, false, .bsl 1 (.int .i64 0) 8 [(0, .c (.int .i64 0)), (1, .c (.int .i64 0)), (2, .c (.int .i64 1)), (3, .c (.int .i64 5)), (4, .c (.int .i64 30)), (5, .c (.int .i64 1000)), (6, .c (.int .i64 1001)), (7, .c (.int .i64 (-1)))], none, false, []⟩, ⟨some 24, true, .call (.c (.fn 445 [])) [.t 22, .t 23], none, false, []⟩, ⟨some 2, false, .asg (.t 20), none, false, []⟩, ⟨some 3, false, .asg (.t 21), none, false, []⟩, ⟨some 4, false, .asg (.t 24), none, false, []⟩] [2, 3, 4] []) .ret
def spec_DrawPiecesFrom_ir : Fn := { np := 1, io := [], res := [.t 2, .t 3, .t 4], own := [false, false, false], body :=
  (.seq (.reg false [⟨some 2, false, .asg (.c (.int .i64 0)), none, false, []⟩, ⟨some 3, false, .asg (.c (.int .i64 0)), none, false, []⟩, ⟨some 4, false, .asg (.c (.int .i64 0)), none, false, []⟩] [0] []) (.seq (.reg false [⟨some 8, false, .mv (.t 0), none, false, []⟩, ⟨some 9, true, .call (.c (.fn 441 [])) [.t 8], none, false, []⟩, ⟨some 5, false, .asg (.t 9), none, false, []⟩] [5] [9, 10000]) (.seq (.reg false [⟨some 10, false, .mv (.t 5), none, false, []⟩, ⟨some 11, true, .call (.c (.fn 675 [])) [.t 10], none, false, []⟩, ⟨some 6, false, .asg (.t 11), none, false, []⟩] [5, 6] [9, 10000]) (.seq (.reg false [⟨some 12, false, .mv (.t 5), none, false, []⟩, ⟨some 13, true, .call (.c (.fn 463 [])) [.t 12, .c (.int .i64 900)], none, false, []⟩, ⟨some 14, false, .bin .add (.c (.int .i64 1)) (.t 13), none, false, []⟩, ⟨some 7, false, .asg (.t 14), none, false, []⟩] [5, 6, 7] [9, 10000]) (.seq (.seq (.reg false [⟨some 15, false, .mv (.t 5), none, false, []⟩, ⟨some 16, true, .call (.c (.fn 642 [])) [.t 15, .c (.int .i64 9)], none, false, []⟩] [5, 6, 7, 16] [9, 10000]) (.cond (.t 16) (.reg false [⟨some 17, false, .mv (.t 5), none, false, []⟩, ⟨some 18, false, .bsl 1 (.int .i64 0) 4 [(0, .c (.int .i64 0)), (1, .c (.int .i64 1)), (2, .c (.int .i64 1000000000)), (3, .c (.int .i64 1000000001))], none, false, []⟩, ⟨some 19, true, .call (.c (.fn 445 [])) [.t 17, .t 18], none, false, []⟩, ⟨some 7, false, .asg (.t 19), none, false, []⟩] [5, 6, 7] [9, 10000]) .skip)) (.norm [5, 6, 7] [9, 10000] spec_DrawPiecesFrom_k0)))))) }
noncomputable def spec_DrawPiecesFrom_D : List (Nat × Callee) := [(441, spec_l00From_c), (445, spec_l00Src_among_c), (463, spec_l00Src_pick_c), (642, spec_l00Src_one_c), (675, spec_l02DrawMass_c)]
def spec_DrawPiecesFrom_H : List (Nat × ET) := [(8, (.one (.int .u8))), (18, (.one (.int .i64))), (23, (.one (.int .i64)))]
noncomputable def spec_DrawPiecesFrom_c : Callee := mkCallee spec_DrawPiecesFrom_D spec_DrawPiecesFrom_H spec_DrawPiecesFrom_ir [.d (.one (.sl (.one (.int .u8))))] [.d (.one (.int .i64)), .d (.one (.int .i64)), .d (.one (.int .i64))] []
noncomputable def spec_DrawPiecesFrom (a0 : List Int) : Option (Int × Int × Int) := spec_DrawPiecesFrom_c.f (a0, ())
noncomputable def spec_DrawPiecesFrom_p0  (v6 : Int) (v7 : Int) (r9_0 : List Int) (r9_1 : Int) (r9_2 : Int) : Option (Int × Int × Int) :=
  goL spec_DrawPiecesFrom_D spec_DrawPiecesFrom_H (vleave spec_DrawPiecesFrom_ir [.d (.one (.sl (.one (.int .u8))))] [.d (.one (.int .i64)), .d (.one (.int .i64)), .d (.one (.int .i64))] [] []) [.c spec_DrawPiecesFrom_k0]
    ⟨[(5, .loc 9 0 0), (6, .int .i64 v6), (7, .int .i64 v7)], [(9, some (.var 3 (.agg [.sl (.one (.int .u8)) r9_0, .int .i64 r9_1, .int .u64 r9_2]))), (10000, none)]⟩
theorem spec_DrawPiecesFrom_eq (a0 : List Int) : spec_DrawPiecesFrom a0 =
    (spec_l00From a0).bind fun x1 =>
      (spec_l02DrawMass x1).bind fun x2 =>
        (spec_l00Src_pick (x2.2.1, x2.2.2.1, x2.2.2.2.1, ()) 900).bind fun x3 =>
          (spec_l00Src_one (x3.2.1, x3.2.2.1, x3.2.2.2.1, ()) 9).bind fun x4 =>
            if x4.1 then
              (spec_l00Src_among (x4.2.1, x4.2.2.1, x4.2.2.2.1, ()) [0, 1, 1000000000, 1000000001]).bind fun x5 =>
                spec_DrawPiecesFrom_p0 x2.1 x5.1 x5.2.1 x5.2.2.1 x5.2.2.2.1
            else
              spec_DrawPiecesFrom_p0 x2.1 (IntKind.i64.wrap (1 + x3.1)) x4.2.1 x4.2.2.1 x4.2.2.2.1 :=
  (mk_f _ _ _ _ _ _ _ 4000).trans (by kernel_rfl)
theorem spec_DrawPiecesFrom_p0_eq  (v6 : Int) (v7 : Int) (r9_0 : List Int) (r9_1 : Int) (r9_2 : Int) : spec_DrawPiecesFrom_p0 v6 v7 r9_0 r9_1 r9_2 =
    (spec_l00Src_among (r9_0, r9_1, r9_2, ()) [0, 0, 1, 5, 30, 1000, 1001, (-1)]).bind fun x1 =>
      some (v6, v7, x1.1) :=
  (goL_dn _ _ _ 4000 _ _).trans (by kernel_rfl)

/- impl.PiecesFrom -/
def impl_PiecesFrom_k0 : C :=
  .seq (.reg false [⟨some 21, false, .mv (.t 0), none, false, []⟩, ⟨some 22, false, .mv (.t 2), none, false, []⟩, ⟨some 23, false, .bin .add (.t 21) (.t 22), none, false, []⟩, ⟨some 24, false, .mv (.t 1), none, false, []⟩, ⟨some 25, false, .mv (.t 2), none, false, []⟩, ⟨some 26, false, .bin .add (.t 24) (.t 25), none, false, []⟩, ⟨some 27, false, .bin .quo (.t 23) (.t 26), none, false, []⟩, ⟨some 6, false, .asg (.t 27), none, false, []⟩, ⟨some 7, false, .asg (.c (.int .i64 0)), none, false, []⟩] [6, 7] []) .ret
def impl_PiecesFrom_ir : Fn := { np := 3, io := [], res := [.t 6, .t 7], own := [false, false], body :=
  (.seq (.reg false [⟨some 6, false, .asg (.c (.int .i64 0)), none, false, []⟩, ⟨some 7, false, .asg (.c (.int .i64 0)), none, false, []⟩] [0, 1, 2] []) (.seq (.seq (.reg false [⟨some 8, false, .mv (.t 0), none, false, []⟩, ⟨some 9, false, .call (.c (.fn 23 [])) [.t 8, .c (.int .i64 0), .c (.int .i64 1000000000)], none, false, []⟩, ⟨some 10, false, .un .not (.t 9), none, false, []⟩, ⟨some 11, false, .mv (.t 10), none, false, []⟩, ⟨some 12, false, .mv (.t 1), some (3, false), false, []⟩, ⟨some 13, false, .call (.c (.fn 23 [])) [.t 12, .c (.int .i64 1), .c (.int .i64 1000000000)], some (3, false), false, []⟩, ⟨some 14, false, .un .not (.t 13), some (3, false), false, []⟩, ⟨some 15, false, .pick (.t 11) (.c (.bool true)) (.t 14), none, false, []⟩, ⟨some 16, false, .mv (.t 15), none, false, []⟩, ⟨some 17, false, .mv (.t 2), some (8, false), false, []⟩, ⟨some 18, false, .call (.c (.fn 23 [])) [.t 17, .c (.int .i64 0), .c (.int .i64 1000)], some (8, false), false, []⟩, ⟨some 19, false, .un .not (.t 18), some (8, false), false, []⟩, ⟨some 20, false, .pick (.t 16) (.c (.bool true)) (.t 19), none, false, []⟩] [0, 1, 2, 20] []) (.cond (.t 20) (.seq (.reg false [⟨some 6, false, .asg (.c (.int .i64 0)), none, false, []⟩, ⟨some 7, false, .asg (.c (.int .i64 2)), none, false, []⟩] [6, 7] []) .ret) .skip)) (.norm [0, 1, 2] [] impl_PiecesFrom_k0))) }
noncomputable def impl_PiecesFrom_D : List (Nat × Callee) := [(23, impl_within_c)]
def impl_PiecesFrom_H : List (Nat × ET) := []
noncomputable def impl_PiecesFrom_c : Callee := mkCallee impl_PiecesFrom_D impl_PiecesFrom_H impl_PiecesFrom_ir [.d (.one (.int .i64)), .d (.one (.int .i64)), .d (.one (.int .i64))] [.d (.one (.int .i64)), .d (.one (.int .i64))] []
noncomputable def impl_PiecesFrom (a0 : Int) (a1 : Int) (a2 : Int) : Option (Int × Int) := impl_PiecesFrom_c.f (a0, a1, a2, ())
noncomputable def impl_PiecesFrom_p0  (v0 : Int) (v1 : Int) (v2 : Int) : Option (Int × Int) :=
  goL impl_PiecesFrom_D impl_PiecesFrom_H (vleave impl_PiecesFrom_ir [.d (.one (.int .i64)), .d (.one (.int .i64)), .d (.one (.int .i64))] [.d (.one (.int .i64)), .d (.one (.int .i64))] [] []) [.c impl_PiecesFrom_k0]
    ⟨[(0, .int .i64 v0), (1, .int .i64 v1), (2, .int .i64 v2)], []⟩
theorem impl_PiecesFrom_eq (a0 : Int) (a1 : Int) (a2 : Int) : impl_PiecesFrom a0 a1 a2 =
    (impl_within a0 0 1000000000).bind fun x1 =>
      if (!x1) then
        some (0, 2)
      else
        (impl_within a1 1 1000000000).bind fun x2 =>
          if (!x2) then
            some (0, 2)
          else
            (impl_within a2 0 1000).bind fun x3 =>
              if (!x3) then
                some (0, 2)
              else
                impl_PiecesFrom_p0 a0 a1 a2 :=
  (mk_f _ _ _ _ _ _ _ 4000).trans (by kernel_rfl)
theorem impl_PiecesFrom_p0_eq  (v0 : Int) (v1 : Int) (v2 : Int) : impl_PiecesFrom_p0 v0 v1 v2 =
    if decide (IntKind.i64.wrap (v1 + v2) = 0) then
      none
    else
      some (IntKind.i64.wrap ((IntKind.i64.wrap (v0 + v2)).tdiv (IntKind.i64.wrap (v1 + v2))), 0) :=
  (goL_dn _ _ _ 4000 _ _).trans (by kernel_rfl)

/- laws.FnUnits -/
def laws_FnUnits_k0 : C :=
  .seq (.reg false [⟨some 155, false, .mv (.t 0), none, false, []⟩, ⟨some 156, false, .call (.c (.fn 241 [])) [.t 155], none, false, []⟩, ⟨some 154, false, .mv (.t 156), none, false, []⟩, ⟨some 157, false, .ext (.t 154) 0, none, false, []⟩, ⟨some 158, false, .ext (.t 154) 1, none, false, []⟩, ⟨some 159, false, .ext (.t 154) 2, none, false, []⟩, ⟨some 24, false, .asg (.t 157), none, false, []⟩, ⟨some 25, false, .asg (.t 158), none, false, []⟩, ⟨some 26, false, .asg (.t 159), none, false, []⟩] [24, 25, 26] []) (.seq (.reg false [⟨some 161, false, .mv (.t 24), none, false, []⟩, ⟨some 162, false, .mv (.t 25), none, false, []⟩, ⟨some 163, false, .mv (.t 26), none, false, []⟩, ⟨some 164, false, .call (.c (.fn 240 [])) [.t 161, .t 162, .t 163], none, false, []⟩, ⟨some 160, false, .mv (.t 164), none, false, []⟩, ⟨some 165, false, .ext (.t 160) 0, none, false, []⟩, ⟨some 166, false, .ext (.t 160) 1, none, false, []⟩, ⟨some 27, false, .asg (.t 165), none, false, []⟩, ⟨some 28, false, .asg (.t 166), none, false, []⟩] [24, 25, 26, 27, 28] []) (.seq (.seq (.reg false [⟨some 167, false, .mv (.t 28), none, false, []⟩, ⟨some 168, false, .bin .neq (.t 167) (.c (.int .i64 0)), none, false, []⟩] [24, 25, 26, 27, 168] []) (.cond (.t 168) (.seq (.reg false [⟨some 169, false, .mv (.t 27), none, false, []⟩, ⟨some 170, false, .bin .eql (.t 169) (.c (.int .i64 0)), none, false, []⟩, ⟨some 4, false, .asg (.t 170), none, false, []⟩] [4] []) .ret) .skip)) (.seq (.reg false [⟨some 171, false, .mv (.t 27), none, false, []⟩, ⟨some 172, false, .bin .geq (.t 171) (.c (.int .i64 0)), none, false, []⟩, ⟨some 173, false, .mv (.t 172), none, false, []⟩, ⟨some 174, false, .mv (.t 27), some (2, true), false, []⟩, ⟨some 175, false, .bin .eql (.t 174) (.c (.int .i64 0)), some (2, true), false, []⟩, ⟨some 176, false, .mv (.t 175), some (2, true), false, []⟩, ⟨some 177, false, .mv (.t 27), some (5, false), false, []⟩, ⟨some 178, false, .mv (.t 25), some (5, false), false, []⟩, ⟨some 179, false, .bin .mul (.t 177) (.t 178), some (5, false), false, []⟩, ⟨some 180, false, .mv (.t 27), some (5, false), false, []⟩, ⟨some 181, false, .bin .sub (.t 180) (.c (.int .i64 1)), some (5, false), false, []⟩, ⟨some 182, false, .mv (.t 26), some (5, false), false, []⟩, ⟨some 183, false, .bin .mul (.t 181) (.t 182), some (5, false), false, []⟩, ⟨some 184, false, .bin .add (.t 179) (.t 183), some (5, false), false, []⟩, ⟨some 185, false, .mv (.t 24), some (5, false), false, []⟩, ⟨some 186, false, .bin .leq (.t 184) (.t 185), some (5, false), false, []⟩, ⟨some 187, false, .pick (.t 176) (.c (.bool true)) (.t 186), some (2, true), false, []⟩, ⟨some 188, false, .pick (.t 173) (.t 187) (.c (.bool false)), none, false, []⟩, ⟨some 189, false, .mv (.t 188), none, false, []⟩, ⟨some 190, false, .mv (.t 27), some (18, true), false, []⟩, ⟨some 191, false, .bin .add (.t 190) (.c (.int .i64 1)), some (18, true), false, []⟩, ⟨some 192, false, .mv (.t 25), some (18, true), false, []⟩, ⟨some 193, false, .bin .mul (.t 191) (.t 192), some (18, true), false, []⟩, ⟨some 194, false, .mv (.t 27), some (18, true), false, []⟩, ⟨some 195, false, .mv (.t 26), some (18, true), false, []⟩, ⟨some 196, false, .bin .mul (.t 194) (.t 195), some (18, true), false, []⟩, ⟨some 197, false, .bin .add (.t 193) (.t 196), some (18, true), false, []⟩, ⟨some 198, false, .mv (.t 24), some (18, true), false, []⟩, ⟨some 199, false, .bin .gtr (.t 197) (.t 198), some (18, true), false, []⟩, ⟨some 200, false, .pick (.t 189) (.t 199) (.c (.bool false)), none, false, []⟩, ⟨some 4, false, .asg (.t 200), none, false, []⟩] [4] []) .ret)))
def laws_FnUnits_k1 : C :=
  .seq (.reg false [⟨some 138, false, .mv (.t 18), none, false, []⟩, ⟨some 139, false, .call (.c (.fn 242 [])) [.t 138], none, false, []⟩, ⟨some 137, false, .mv (.t 139), none, false, []⟩, ⟨some 140, false, .ext (.t 137) 0, none, false, []⟩, ⟨some 141, false, .ext (.t 137) 1, none, false, []⟩, ⟨some 22, false, .asg (.t 140), none, false, []⟩, ⟨some 23, false, .asg (.t 141), none, false, []⟩] [0, 18, 22, 23] []) (.seq (.seq (.reg false [⟨some 142, false, .mv (.t 23), none, false, []⟩, ⟨some 143, false, .bin .eql (.t 142) (.c (.int .i64 0)), none, false, []⟩, ⟨some 144, false, .mv (.t 143), none, false, []⟩, ⟨some 145, false, .mv (.t 22), some (2, true), false, []⟩, ⟨some 146, false, .bin .mul (.c (.int .i64 254)) (.t 145), some (2, true), false, []⟩, ⟨some 147, false, .mv (.t 18), some (2, true), false, []⟩, ⟨some 148, false, .bin .mul (.c (.int .i64 64)) (.t 147), some (2, true), false, []⟩, ⟨some 149, false, .bin .sub (.t 146) (.t 148), some (2, true), false, []⟩, ⟨some 150, false, .call (.c (.fn 66 [])) [.t 149], some (2, true), false, []⟩, ⟨some 151, false, .bin .mul (.c (.int .i64 2)) (.t 150), some (2, true), false, []⟩, ⟨some 152, false, .bin .gtr (.t 151) (.c (.int .i64 254)), some (2, true), false, []⟩, ⟨some 153, false, .pick (.t 144) (.t 152) (.c (.bool false)), none, false, []⟩] [0, 153] []) (.cond (.t 153) (.seq (.reg false [⟨some 4, false, .asg (.c (.bool false)), none, false, []⟩] [4] []) .ret) .skip)) (.norm [0] [] laws_FnUnits_k0))
def laws_FnUnits_k2 : C :=
  .seq (.reg false [⟨some 116, false, .mv (.t 1), none, false, []⟩, ⟨some 117, false, .call (.c (.fn 245 [])) [.t 116], none, false, []⟩, ⟨some 18, false, .asg (.t 117), none, false, []⟩] [0, 18] []) (.seq (.reg false [⟨some 118, false, .mv (.t 18), none, false, []⟩, ⟨some 119, false, .call (.c (.fn 244 [])) [.t 118], none, false, []⟩, ⟨some 19, false, .asg (.t 119), none, false, []⟩] [0, 18, 19] []) (.seq (.reg false [⟨some 121, false, .mv (.t 19), none, false, []⟩, ⟨some 122, false, .call (.c (.fn 243 [])) [.t 121], none, false, []⟩, ⟨some 120, false, .mv (.t 122), none, false, []⟩, ⟨some 123, false, .ext (.t 120) 0, none, false, []⟩, ⟨some 124, false, .ext (.t 120) 1, none, false, []⟩, ⟨some 20, false, .asg (.t 123), none, false, []⟩, ⟨some 21, false, .asg (.t 124), none, false, []⟩] [0, 18, 19, 20, 21] []) (.seq (.seq (.reg false [⟨some 125, false, .mv (.t 19), none, false, []⟩, ⟨some 126, false, .bin .eql (.t 125) (.c (.str [])), none, false, []⟩, ⟨some 127, false, .mv (.t 21), none, false, []⟩, ⟨some 128, false, .eqb false (.t 126) (.t 127), none, false, []⟩, ⟨some 129, false, .mv (.t 128), none, false, []⟩, ⟨some 130, false, .mv (.t 21), some (4, false), false, []⟩, ⟨some 131, false, .mv (.t 130), some (4, false), false, []⟩, ⟨some 132, false, .mv (.t 20), some (6, true), false, []⟩, ⟨some 133, false, .mv (.t 18), some (6, true), false, []⟩, ⟨some 134, false, .bin .neq (.t 132) (.t 133), some (6, true), false, []⟩, ⟨some 135, false, .pick (.t 131) (.t 134) (.c (.bool false)), some (4, false), false, []⟩, ⟨some 136, false, .pick (.t 129) (.c (.bool true)) (.t 135), none, false, []⟩] [0, 18, 136] []) (.cond (.t 136) (.seq (.reg false [⟨some 4, false, .asg (.c (.bool false)), none, false, []⟩] [4] []) .ret) .skip)) (.norm [0, 18] [] laws_FnUnits_k1))))
def laws_FnUnits_k3 : C :=
  .seq (.reg false [⟨some 87, false, .mv (.t 0), none, false, []⟩, ⟨some 88, false, .call (.c (.fn 249 [])) [.t 87], none, false, []⟩, ⟨some 14, false, .asg (.t 88), none, false, []⟩] [0, 1, 14] []) (.seq (.reg false [⟨some 89, false, .mv (.t 14), none, false, []⟩, ⟨some 90, false, .call (.c (.fn 248 [])) [.t 89], none, false, []⟩, ⟨some 15, false, .asg (.t 90), none, false, []⟩] [0, 1, 14, 15] []) (.seq (.reg false [⟨some 92, false, .mv (.t 15), none, false, []⟩, ⟨some 93, false, .call (.c (.fn 247 [])) [.t 92], none, false, []⟩, ⟨some 91, false, .mv (.t 93), none, false, []⟩, ⟨some 94, false, .ext (.t 91) 0, none, false, []⟩, ⟨some 95, false, .ext (.t 91) 1, none, false, []⟩, ⟨some 16, false, .asg (.t 94), none, false, []⟩, ⟨some 17, false, .asg (.t 95), none, false, []⟩] [0, 1, 14, 15, 16, 17] []) (.seq (.seq (.reg false [⟨some 96, false, .mv (.t 15), none, false, []⟩, ⟨some 97, false, .bin .eql (.t 96) (.c (.str [])), none, false, []⟩, ⟨some 98, false, .mv (.t 14), none, false, []⟩, ⟨some 99, false, .call (.c (.fn 246 [])) [.t 98], none, false, []⟩, ⟨some 100, false, .bin .eql (.t 99) (.c (.str [])), none, false, []⟩, ⟨some 101, false, .eqb true (.t 97) (.t 100), none, false, []⟩, ⟨some 102, false, .mv (.t 101), none, false, []⟩, ⟨some 103, false, .mv (.t 15), some (6, false), false, []⟩, ⟨some 104, false, .bin .eql (.t 103) (.c (.str [])), some (6, false), false, []⟩, ⟨some 105, false, .mv (.t 17), some (6, false), false, []⟩, ⟨some 106, false, .eqb false (.t 104) (.t 105), some (6, false), false, []⟩, ⟨some 107, false, .pick (.t 102) (.c (.bool true)) (.t 106), none, false, []⟩, ⟨some 108, false, .mv (.t 107), none, false, []⟩, ⟨some 109, false, .mv (.t 17), some (12, false), false, []⟩, ⟨some 110, false, .mv (.t 109), some (12, false), false, []⟩, ⟨some 111, false, .mv (.t 16), some (14, true), false, []⟩, ⟨some 112, false, .mv (.t 14), some (14, true), false, []⟩, ⟨some 113, false, .bin .neq (.t 111) (.t 112), some (14, true), false, []⟩, ⟨some 114, false, .pick (.t 110) (.t 113) (.c (.bool false)), some (12, false), false, []⟩, ⟨some 115, false, .pick (.t 108) (.c (.bool true)) (.t 114), none, false, []⟩] [0, 1, 115] []) (.cond (.t 115) (.seq (.reg false [⟨some 4, false, .asg (.c (.bool false)), none, false, []⟩] [4] []) .ret) .skip)) (.norm [0, 1] [] laws_FnUnits_k2))))
def laws_FnUnits_k4 : C :=
  .seq (.reg false [⟨some 62, false, .mv (.t 1), none, false, []⟩, ⟨some 63, false, .call (.c (.fn 252 [])) [.t 62], none, false, []⟩, ⟨some 61, false, .mv (.t 63), none, false, []⟩, ⟨some 64, false, .ext (.t 61) 0, none, false, []⟩, ⟨some 65, false, .ext (.t 61) 1, none, false, []⟩, ⟨some 9, false, .asg (.t 64), none, false, []⟩, ⟨some 10, false, .asg (.t 65), none, false, []⟩] [0, 1, 9, 10] []) (.seq (.reg false [⟨some 66, false, .mv (.t 9), none, false, []⟩, ⟨some 67, false, .mv (.t 10), none, false, []⟩, ⟨some 68, false, .call (.c (.fn 251 [])) [.t 66, .t 67], none, false, []⟩, ⟨some 11, false, .asg (.t 68), none, false, []⟩] [0, 1, 9, 10, 11] []) (.seq (.reg false [⟨some 70, false, .mv (.t 11), none, false, []⟩, ⟨some 71, false, .mv (.t 10), none, false, []⟩, ⟨some 72, false, .call (.c (.fn 250 [])) [.t 70, .t 71], none, false, []⟩, ⟨some 69, false, .mv (.t 72), none, false, []⟩, ⟨some 73, false, .ext (.t 69) 0, none, false, []⟩, ⟨some 74, false, .ext (.t 69) 1, none, false, []⟩, ⟨some 12, false, .asg (.t 73), none, false, []⟩, ⟨some 13, false, .asg (.t 74), none, false, []⟩] [0, 1, 9, 11, 12, 13] []) (.seq (.seq (.reg false [⟨some 75, false, .mv (.t 11), none, false, []⟩, ⟨some 76, false, .bin .eql (.t 75) (.c (.str [])), none, false, []⟩, ⟨some 77, false, .mv (.t 13), none, false, []⟩, ⟨some 78, false, .eqb false (.t 76) (.t 77), none, false, []⟩, ⟨some 79, false, .mv (.t 78), none, false, []⟩, ⟨some 80, false, .mv (.t 13), some (4, false), false, []⟩, ⟨some 81, false, .mv (.t 80), some (4, false), false, []⟩, ⟨some 82, false, .mv (.t 12), some (6, true), false, []⟩, ⟨some 83, false, .mv (.t 9), some (6, true), false, []⟩, ⟨some 84, false, .bin .neq (.t 82) (.t 83), some (6, true), false, []⟩, ⟨some 85, false, .pick (.t 81) (.t 84) (.c (.bool false)), some (4, false), false, []⟩, ⟨some 86, false, .pick (.t 79) (.c (.bool true)) (.t 85), none, false, []⟩] [0, 1, 86] []) (.cond (.t 86) (.seq (.reg false [⟨some 4, false, .asg (.c (.bool false)), none, false, []⟩] [4] []) .ret) .skip)) (.norm [0, 1] [] laws_FnUnits_k3))))
def laws_FnUnits_k5 : C :=
  .seq (.reg false [⟨some 35, false, .mv (.t 0), none, false, []⟩, ⟨some 36, false, .call (.c (.fn 255 [])) [.t 35], none, false, []⟩, ⟨some 5, false, .asg (.t 36), none, false, []⟩] [0, 1, 5] []) (.seq (.reg false [⟨some 37, false, .mv (.t 5), none, false, []⟩, ⟨some 38, false, .call (.c (.fn 254 [])) [.t 37], none, false, []⟩, ⟨some 6, false, .asg (.t 38), none, false, []⟩] [0, 1, 5, 6] []) (.seq (.reg false [⟨some 40, false, .mv (.t 6), none, false, []⟩, ⟨some 41, false, .call (.c (.fn 253 [])) [.t 40], none, false, []⟩, ⟨some 39, false, .mv (.t 41), none, false, []⟩, ⟨some 42, false, .ext (.t 39) 0, none, false, []⟩, ⟨some 43, false, .ext (.t 39) 1, none, false, []⟩, ⟨some 7, false, .asg (.t 42), none, false, []⟩, ⟨some 8, false, .asg (.t 43), none, false, []⟩] [0, 1, 5, 6, 7, 8] []) (.seq (.seq (.reg false [⟨some 44, false, .mv (.t 6), none, false, []⟩, ⟨some 45, false, .bin .eql (.t 44) (.c (.str [])), none, false, []⟩, ⟨some 46, false, .mv (.t 8), none, false, []⟩, ⟨some 47, false, .eqb false (.t 45) (.t 46), none, false, []⟩, ⟨some 48, false, .mv (.t 47), none, false, []⟩, ⟨some 49, false, .mv (.t 8), some (4, false), false, []⟩, ⟨some 50, false, .mv (.t 49), some (4, false), false, []⟩, ⟨some 51, false, .mv (.t 7), some (6, true), false, []⟩, ⟨some 52, false, .mv (.t 5), some (6, true), false, []⟩, ⟨some 53, false, .bin .neq (.t 51) (.t 52), some (6, true), false, []⟩, ⟨some 54, false, .mv (.t 53), some (6, true), false, []⟩, ⟨some 55, false, .mv (.t 6), some (10, false), false, []⟩, ⟨some 56, false, .lens (.t 55), some (10, false), false, []⟩, ⟨some 57, false, .bin .neq (.t 56) (.c (.int .i64 5)), some (10, false), false, []⟩, ⟨some 58, false, .pick (.t 54) (.c (.bool true)) (.t 57), some (6, true), false, []⟩, ⟨some 59, false, .pick (.t 50) (.t 58) (.c (.bool false)), some (4, false), false, []⟩, ⟨some 60, false, .pick (.t 48) (.c (.bool true)) (.t 59), none, false, []⟩] [0, 1, 60] []) (.cond (.t 60) (.seq (.reg false [⟨some 4, false, .asg (.c (.bool false)), none, false, []⟩] [4] []) .ret) .skip)) (.norm [0, 1] [] laws_FnUnits_k4))))
def laws_FnUnits_ir : Fn := { np := 2, io := [], res := [.t 4], own := [false], body :=
  (.seq (.reg false [⟨some 4, false, .asg (.c (.bool false)), none, false, []⟩] [0, 1] []) (.seq (.seq (.reg false [⟨some 29, false, .mv (.t 0), none, false, []⟩, ⟨some 30, false, .call (.c (.fn 76 [])) [.t 29], none, false, []⟩, ⟨some 31, false, .mv (.t 30), none, false, []⟩, ⟨some 32, false, .mv (.t 1), some (2, false), false, []⟩, ⟨some 33, false, .call (.c (.fn 76 [])) [.t 32], some (2, false), false, []⟩, ⟨some 34, false, .pick (.t 31) (.c (.bool true)) (.t 33), none, false, []⟩] [0, 1, 34] []) (.cond (.t 34) (.seq (.reg false [⟨some 4, false, .asg (.c (.bool true)), none, false, []⟩] [4] []) .ret) .skip)) (.norm [0, 1] [] laws_FnUnits_k5))) }
noncomputable def laws_FnUnits_D : List (Nat × Callee) := [(66, laws_b10Abs_c), (76, laws_b10Long_c), (240, impl_PiecesFrom_c), (241, spec_DrawPiecesFrom_c), (242, impl_InchParts_c), (243, impl_ReadLength_c), (244, impl_LengthText_c), (245, spec_DrawLengthText_c), (246, spec_LapText_c), (247, impl_ReadLap_c), (248, impl_LapText_c), (249, spec_DrawLapText_c), (250, impl_ReadFixed_c), (251, impl_FixedText_c), (252, spec_DrawFixedText_c), (253, impl_ReadClock_c), (254, impl_ClockText_c), (255, spec_DrawClockText_c)]
def laws_FnUnits_H : List (Nat × ET) := [(29, (.one (.int .u8))), (32, (.one (.int .u8))), (35, (.one (.int .u8))), (62, (.one (.int .u8))), (87, (.one (.int .u8))), (116, (.one (.int .u8))), (155, (.one (.int .u8)))]
noncomputable def laws_FnUnits_c : Callee := mkCallee laws_FnUnits_D laws_FnUnits_H laws_FnUnits_ir [.d (.one (.sl (.one (.int .u8)))), .d (.one (.sl (.one (.int .u8))))] [.d (.one .bool)] []
noncomputable def laws_FnUnits (a0 : List Int) (a1 : List Int) : Option (Bool) := laws_FnUnits_c.f (a0, a1, ())
noncomputable def laws_FnUnits_p0  (v0 : List Int) (v1 : List Int) : Option (Bool) :=
  goL laws_FnUnits_D laws_FnUnits_H (vleave laws_FnUnits_ir [.d (.one (.sl (.one (.int .u8)))), .d (.one (.sl (.one (.int .u8))))] [.d (.one .bool)] [] []) [.c laws_FnUnits_k5]
    ⟨[(0, .sl (.one (.int .u8)) v0), (1, .sl (.one (.int .u8)) v1)], []⟩
noncomputable def laws_FnUnits_p1  (v0 : List Int) (v1 : List Int) : Option (Bool) :=
  goL laws_FnUnits_D laws_FnUnits_H (vleave laws_FnUnits_ir [.d (.one (.sl (.one (.int .u8)))), .d (.one (.sl (.one (.int .u8))))] [.d (.one .bool)] [] []) [.c laws_FnUnits_k4]
    ⟨[(0, .sl (.one (.int .u8)) v0), (1, .sl (.one (.int .u8)) v1)], []⟩
noncomputable def laws_FnUnits_p2  (v0 : List Int) (v1 : List Int) : Option (Bool) :=
  goL laws_FnUnits_D laws_FnUnits_H (vleave laws_FnUnits_ir [.d (.one (.sl (.one (.int .u8)))), .d (.one (.sl (.one (.int .u8))))] [.d (.one .bool)] [] []) [.c laws_FnUnits_k3]
    ⟨[(0, .sl (.one (.int .u8)) v0), (1, .sl (.one (.int .u8)) v1)], []⟩
noncomputable def laws_FnUnits_p3  (v0 : List Int) (v1 : List Int) : Option (Bool) :=
  goL laws_FnUnits_D laws_FnUnits_H (vleave laws_FnUnits_ir [.d (.one (.sl (.one (.int .u8)))), .d (.one (.sl (.one (.int .u8))))] [.d (.one .bool)] [] []) [.c laws_FnUnits_k2]
    ⟨[(0, .sl (.one (.int .u8)) v0), (1, .sl (.one (.int .u8)) v1)], []⟩
noncomputable def laws_FnUnits_p4  (v0 : List Int) (v18 : Int) : Option (Bool) :=
  goL laws_FnUnits_D laws_FnUnits_H (vleave laws_FnUnits_ir [.d (.one (.sl (.one (.int .u8)))), .d (.one (.sl (.one (.int .u8))))] [.d (.one .bool)] [] []) [.c laws_FnUnits_k1]
    ⟨[(0, .sl (.one (.int .u8)) v0), (18, .int .i64 v18)], []⟩
noncomputable def laws_FnUnits_p5  (v0 : List Int) : Option (Bool) :=
  goL laws_FnUnits_D laws_FnUnits_H (vleave laws_FnUnits_ir [.d (.one (.sl (.one (.int .u8)))), .d (.one (.sl (.one (.int .u8))))] [.d (.one .bool)] [] []) [.c laws_FnUnits_k0]
    ⟨[(0, .sl (.one (.int .u8)) v0)], []⟩
theorem laws_FnUnits_eq (a0 : List Int) (a1 : List Int) : laws_FnUnits a0 a1 =
    (laws_b10Long a0).bind fun x1 =>
      if x1 then
        some true
      else
        (laws_b10Long a1).bind fun x2 =>
          if x2 then
            some true
          else
            laws_FnUnits_p0 a0 a1 :=
  (mk_f _ _ _ _ _ _ _ 4000).trans (by kernel_rfl)
theorem laws_FnUnits_p0_eq  (v0 : List Int) (v1 : List Int) : laws_FnUnits_p0 v0 v1 =
    (spec_DrawClockText v0).bind fun x1 =>
      (impl_ClockText x1).bind fun x2 =>
        (impl_ReadClock x2).bind fun x3 =>
          if ((x2 == []) == x3.2) then
            some false
          else
            if x3.2 then
              if (x3.1 != x1) then
                some false
              else
                if ((x2.length : Int) != 5) then
                  some false
                else
                  laws_FnUnits_p1 v0 v1
            else
              laws_FnUnits_p1 v0 v1 :=
  (goL_dn _ _ _ 4000 _ _).trans (by kernel_rfl)
theorem laws_FnUnits_p1_eq  (v0 : List Int) (v1 : List Int) : laws_FnUnits_p1 v0 v1 =
    (spec_DrawFixedText v1).bind fun x1 =>
      (impl_FixedText x1.1 x1.2).bind fun x2 =>
        (impl_ReadFixed x2 x1.2).bind fun x3 =>
          if ((x2 == []) == x3.2) then
            some false
          else
            if x3.2 then
              if (x3.1 != x1.1) then
                some false
              else
                laws_FnUnits_p2 v0 v1
            else
              laws_FnUnits_p2 v0 v1 :=
  (goL_dn _ _ _ 4000 _ _).trans (by kernel_rfl)
theorem laws_FnUnits_p2_eq  (v0 : List Int) (v1 : List Int) : laws_FnUnits_p2 v0 v1 =
    (spec_DrawLapText v0).bind fun x1 =>
      (impl_LapText x1).bind fun x2 =>
        (impl_ReadLap x2).bind fun x3 =>
          (spec_LapText x1).bind fun x4 =>
            if (!((x2 == []) == (x4 == []))) then
              some false
            else
              if ((x2 == []) == x3.2) then
                some false
              else
                if x3.2 then
                  if (x3.1 != x1) then
                    some false
                  else
                    laws_FnUnits_p3 v0 v1
                else
                  laws_FnUnits_p3 v0 v1 :=
  (goL_dn _ _ _ 4000 _ _).trans (by kernel_rfl)
theorem laws_FnUnits_p3_eq  (v0 : List Int) (v1 : List Int) : laws_FnUnits_p3 v0 v1 =
    (spec_DrawLengthText v1).bind fun x1 =>
      (impl_LengthText x1).bind fun x2 =>
        (impl_ReadLength x2).bind fun x3 =>
          if ((x2 == []) == x3.2) then
            some false
          else
            if x3.2 then
              if (x3.1 != x1) then
                some false
              else
                laws_FnUnits_p4 v0 x1
            else
              laws_FnUnits_p4 v0 x1 :=
  (goL_dn _ _ _ 4000 _ _).trans (by kernel_rfl)
theorem laws_FnUnits_p4_eq  (v0 : List Int) (v18 : Int) : laws_FnUnits_p4 v0 v18 =
    (impl_InchParts v18).bind fun x1 =>
      if (x1.2 == 0) then
        (laws_b10Abs (IntKind.i64.wrap ((IntKind.i64.wrap (254 * x1.1)) - (IntKind.i64.wrap (64 * v18))))).bind fun x2 =>
          if decide (IntKind.i64.wrap (2 * x2) > 254) then
            some false
          else
            laws_FnUnits_p5 v0
      else
        laws_FnUnits_p5 v0 :=
  (goL_dn _ _ _ 4000 _ _).trans (by kernel_rfl)
theorem laws_FnUnits_p5_eq  (v0 : List Int) : laws_FnUnits_p5 v0 =
    (spec_DrawPiecesFrom v0).bind fun x1 =>
      (impl_PiecesFrom x1.1 x1.2.1 x1.2.2).bind fun x2 =>
        if (x2.2 != 0) then
          some (x2.1 == 0)
        else
          if decide (x2.1 ≥ 0) then
            if (x2.1 == 0) then
              some (decide (IntKind.i64.wrap ((IntKind.i64.wrap ((IntKind.i64.wrap (x2.1 + 1)) * x1.2.1)) + (IntKind.i64.wrap (x2.1 * x1.2.2))) > x1.1))
            else
              if decide (IntKind.i64.wrap ((IntKind.i64.wrap (x2.1 * x1.2.1)) + (IntKind.i64.wrap ((IntKind.i64.wrap (x2.1 - 1)) * x1.2.2))) ≤ x1.1) then
                some (decide (IntKind.i64.wrap ((IntKind.i64.wrap ((IntKind.i64.wrap (x2.1 + 1)) * x1.2.1)) + (IntKind.i64.wrap (x2.1 * x1.2.2))) > x1.1))
              else
                some false
          else
            some false :=
  (goL_dn _ _ _ 4000 _ _).trans (by kernel_rfl)

end Go.Ab.P
