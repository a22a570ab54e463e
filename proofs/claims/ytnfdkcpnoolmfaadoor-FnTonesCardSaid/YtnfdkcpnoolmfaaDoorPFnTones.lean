/- Functions of the program: abstract forms, and what their runs give. Conditions: none. -/
import Derived.Test.YtnfdkcpnoolmfaaDoorL4
set_option maxRecDepth 100000
set_option linter.unusedVariables false
namespace Go.Ab.P
open Go.Ab
@[reducible] def T_Problem : ET := .agg (.cons (.int .i64) (.cons .str (.cons .str .nil)))
@[reducible] def T_Pot : ET := .agg (.cons .str (.cons (.int .i64) (.cons (.int .i64) (.cons (.int .i64) (.cons (.int .i64) .nil)))))
@[reducible] def T_Neck : ET := .agg (.cons (.int .i64) (.cons (.int .i64) (.cons (.int .i64) (.cons (.int .i64) .nil))))
@[reducible] def T_Step : ET := .agg (.cons .str (.cons (.int .i64) (.cons (.int .i64) (.cons (.sl (.one (.int .i64))) .nil))))
@[reducible] def T_Peg : ET := .agg (.cons .str (.cons (.int .i64) (.cons (.int .i64) (.cons (.int .i64) .nil))))
@[reducible] def T_Mode : ET := .agg (.cons .str (.cons (.int .i64) (.cons (.int .i64) .nil)))
@[reducible] def T_Deed : ET := .agg (.cons .str (.cons .str (.cons (.int .i64) (.cons (.int .i64) .nil))))
@[reducible] def T_Block : ET := .agg (.cons .str (.cons .str (.cons .str .nil)))
@[reducible] def T_Paper : ET := .agg (.cons .str (.cons .str (.cons (.int .i64) (.cons (.int .i64) (.cons (.int .i64) .nil)))))
@[reducible] def T_Desk : ET := .agg (.cons (.sl T_Peg) (.cons (.sl T_Mode) (.cons (.sl (.one (.sl (.one (.int .i64))))) (.cons (.int .i64) (.cons (.int .i64) (.cons (.int .i64) (.cons (.int .i64) (.cons (.sl T_Peg) (.cons (.sl T_Pot) (.cons (.sl T_Mode) (.cons (.sl T_Peg) (.cons (.sl T_Paper) .nil))))))))))))
@[reducible] def T_Arc : ET := .agg (.cons (.int .i64) (.cons (.int .i64) (.cons (.int .i64) (.cons (.int .i64) (.cons (.int .i64) (.cons (.int .i64) .nil))))))
@[reducible] def T_Entry : ET := .agg (.cons (.int .i64) (.cons .str (.cons .str (.cons (.int .i64) .nil))))
@[reducible] def T_Shop : ET := .agg (.cons (.sl T_Arc) (.cons (.sl T_Neck) (.cons (.int .i64) (.cons (.sl T_Step) (.cons (.sl (.one (.int .i64))) (.cons (.int .i64) (.cons (.sl T_Paper) (.cons (.sl T_Entry) .nil))))))))
@[reducible] def T_Setting : ET := .agg (.cons .str (.cons (.int .i64) .nil))
@[reducible] def T_Version : ET := .agg (.cons (.int .i64) (.cons (.int .i64) (.cons .str (.cons (.sl T_Setting) .nil))))
@[reducible] def T_Point : ET := .agg (.cons (.int .i64) (.cons (.int .i64) .nil))
@[reducible] def T_Grant : ET := .agg (.cons .str (.cons .str (.cons (.int .i64) .nil)))
@[reducible] def T_Role : ET := .agg (.cons .str (.cons (.sl (.one .str)) .nil))
@[reducible] def T_matching : ET := .agg (.cons (.sl T_Mode) (.cons (.sl T_Mode) (.cons (.sl (.one .bool)) (.cons (.int .i64) (.cons (.sl (.one (.int .i64))) (.cons (.int .i64) (.cons (.sl (.one (.int .i64))) (.cons (.int .i64) (.cons .bool .nil)))))))))
@[reducible] def T_cutting : ET := .agg (.cons (.sl T_Mode) (.cons (.int .i64) (.cons (.int .i64) (.cons (.sl (.one (.int .i64))) (.cons (.sl (.one (.int .i64))) (.cons (.int .i64) (.cons (.int .i64) .nil)))))))
@[reducible] def T_link : ET := .agg (.cons .bool (.cons (.int .i64) (.cons (.int .i64) .nil)))
@[reducible] def T_gluing : ET := .agg (.cons (.sl T_Pot) (.cons (.sl (.one (.int .i64))) (.cons (.sl (.one (.int .i64))) (.cons (.int .i64) (.cons (.sl (.one (.int .i64))) (.cons (.int .i64) (.cons (.sl (.one (.int .i64))) (.cons (.int .i64) (.cons .bool .nil)))))))))
@[reducible] def T_Change : ET := .agg (.cons (.int .i64) (.cons .str (.cons (.int .i64) .nil)))
@[reducible] def T_placing : ET := .agg (.cons (.sl T_Peg) (.cons (.sl (.one (.sl (.one (.int .i64))))) (.cons (.int .i64) .nil)))
@[reducible] def T_trusting : ET := .agg (.cons (.sl T_Paper) (.cons (.int .i64) (.cons (.sl (.one (.int .i64))) (.cons (.int .i64) (.cons (.sl (.one (.int .i64))) (.cons (.int .i64) .nil))))))
@[reducible] def T_l00Src : ET := .agg (.cons (.sl (.one (.int .u8))) (.cons (.int .i64) (.cons (.int .u64) .nil)))
@[reducible] def T_arguments : ET := .agg (.cons (.sl (.one (.int .i64))) (.cons (.sl (.one (.int .i64))) (.cons (.int .i64) (.cons .str .nil))))
@[reducible] def T_l14Search : ET := .agg (.cons (.sl T_Pot) (.cons (.sl (.one (.int .i64))) (.cons (.sl (.one (.int .i64))) (.cons (.sl (.one (.int .i64))) (.cons (.sl (.one (.int .i64))) (.cons (.int .i64) (.cons (.int .i64) (.cons (.int .i64) (.cons .bool .nil)))))))))
@[reducible] def T_l06Search : ET := .agg (.cons (.sl T_Mode) (.cons (.int .i64) (.cons (.int .i64) (.cons (.int .i64) (.cons (.sl (.one (.int .i64))) (.cons (.sl (.one (.int .i64))) (.cons (.int .i64) (.cons (.int .i64) (.cons .bool .nil)))))))))
@[reducible] def T_l20Search : ET := .agg (.cons (.sl T_Paper) (.cons (.sl (.one (.int .i64))) (.cons (.sl (.one (.int .i64))) (.cons (.int .i64) (.cons (.int .i64) (.cons (.int .i64) (.cons .bool .nil)))))))
@[reducible] def T_l18Search : ET := .agg (.cons (.sl T_Peg) (.cons (.sl (.one (.sl (.one (.int .i64))))) (.cons (.int .i64) (.cons (.int .i64) (.cons .bool .nil)))))
/- laws.b10Long -/
def laws_b10Long_ir : Fn := { np := 1, io := [], res := [.t 2], own := [false], body :=
  (.seq (.reg false [⟨some 2, false, .asg (.c (.bool false)), none, false, []⟩] [0] []) (.seq (.reg false [⟨some 3, false, .mv (.t 0), none, false, []⟩, ⟨some 4, false, .len (.t 3), none, false, []⟩, ⟨some 5, false, .bin .gtr (.t 4) (.c (.int .i64 1048576)), none, false, []⟩, ⟨some 2, false, .asg (.t 5), none, false, []⟩] [2] []) .ret)) }
noncomputable def laws_b10Long_D : List (Nat × Callee) := []
def laws_b10Long_H : List (Nat × ET) := [(3, (.one (.int .u8)))]
noncomputable def laws_b10Long_c : Callee := mkCallee laws_b10Long_D laws_b10Long_H laws_b10Long_ir [.d (.one (.sl (.one (.int .u8))))] [.d (.one .bool)] []
noncomputable def laws_b10Long (a0 : List Int) : Option (Bool) := laws_b10Long_c.f (a0, ())
theorem laws_b10Long_eq (a0 : List Int) : laws_b10Long a0 =
    some (decide ((a0.length : Int) > 1048576)) :=
  (mk_f _ _ _ _ _ _ _ 4000).trans (by kernel_rfl)

/- spec.l00From -/
def spec_l00From_ir : Fn := { np := 1, io := [], res := [.t 2], own := [true], body :=
  (.seq (.reg false [⟨some 2, false, .asg (.c (.cst (.pointer none))), none, false, []⟩] [0] []) (.seq (.reg false [⟨some 3, false, .mv (.t 0), none, false, []⟩, ⟨some 4, false, .build [.nils 1, .int .i64 0, .int .u64 0] [(0, 1, .t 3)], none, false, []⟩, ⟨some 5, true, .box 3 (.t 4), none, false, []⟩, ⟨some 2, false, .asg (.t 5), none, false, []⟩] [2] [5, 6000]) .ret)) }
noncomputable def spec_l00From_D : List (Nat × Callee) := []
def spec_l00From_H : List (Nat × ET) := [(3, (.one (.int .u8)))]
noncomputable def spec_l00From_c : Callee := mkCallee spec_l00From_D spec_l00From_H spec_l00From_ir [.d (.one (.sl (.one (.int .u8))))] [.box T_l00Src] []
noncomputable def spec_l00From (a0 : List Int) : Option (T_l00Src.ty) := spec_l00From_c.f (a0, ())
theorem spec_l00From_eq (a0 : List Int) : spec_l00From a0 =
    some (a0, 0, 0, ()) :=
  (mk_f _ _ _ _ _ _ _ 4000).trans (by kernel_rfl)

/- (*spec.l00Src).next -/
def spec_l00Src_next_k0 : C :=
  .seq (.reg false [⟨some 25, false, .mv (.t 0), none, false, []⟩, ⟨some 26, false, .nilck (.t 25), none, false, []⟩, ⟨some 27, false, .fa 1 (.t 26), none, false, []⟩, ⟨some 28, false, .ld none (.t 27), none, false, []⟩, ⟨some 29, false, .bin .add (.t 28) (.c (.int .i64 1)), none, false, []⟩, ⟨some 30, false, .nilck (.t 25), none, false, []⟩, ⟨some 31, false, .fa 1 (.t 30), none, false, []⟩, ⟨none, true, .sto 1 (.t 31) (.t 29), none, false, []⟩] [0, 3] [0, 1000]) (.seq (.reg false [⟨some 32, false, .mv (.t 0), none, false, []⟩, ⟨some 33, false, .mv (.t 0), none, false, []⟩, ⟨some 34, false, .nilck (.t 33), none, false, []⟩, ⟨some 35, false, .fa 2 (.t 34), none, false, []⟩, ⟨some 36, false, .ld none (.t 35), none, false, []⟩, ⟨some 37, false, .bin .mul (.t 36) (.c (.int .u64 6364136223846793005)), none, false, []⟩, ⟨some 38, false, .mv (.t 3), none, false, []⟩, ⟨some 39, false, .conv (.int .u64) (.t 38), none, false, []⟩, ⟨some 40, false, .bin .add (.t 37) (.t 39), none, false, []⟩, ⟨some 41, false, .bin .add (.t 40) (.c (.int .u64 1442695040888963407)), none, false, []⟩, ⟨some 42, false, .nilck (.t 32), none, false, []⟩, ⟨some 43, false, .fa 2 (.t 42), none, false, []⟩, ⟨none, true, .sto 1 (.t 43) (.t 41), none, false, []⟩] [0, 3] [0, 1000]) (.seq (.seq (.reg true [⟨some 44, false, .mv (.t 0), none, false, []⟩, ⟨some 45, false, .nilck (.t 44), none, false, []⟩, ⟨some 46, false, .fa 1 (.t 45), none, false, []⟩, ⟨some 47, false, .ld none (.t 46), none, false, []⟩, ⟨some 48, false, .mv (.t 0), none, false, []⟩, ⟨some 49, false, .nilck (.t 48), none, false, []⟩, ⟨some 50, false, .fa 0 (.t 49), none, false, []⟩, ⟨some 51, false, .ld none (.t 50), none, false, []⟩, ⟨some 52, false, .len (.t 51), none, false, []⟩, ⟨some 53, false, .bin .leq (.t 47) (.t 52), none, false, []⟩] [0, 3, 53] [0, 1000]) (.cond (.t 53) (.seq (.reg false [⟨some 54, false, .mv (.t 3), none, false, []⟩, ⟨some 2, false, .asg (.t 54), none, false, []⟩] [0, 2] [0, 1000]) .ret) .skip)) (.seq (.reg false [⟨some 55, false, .mv (.t 0), none, false, []⟩, ⟨some 56, false, .nilck (.t 55), none, false, []⟩, ⟨some 57, false, .fa 2 (.t 56), none, false, []⟩, ⟨some 58, false, .ld none (.t 57), none, false, []⟩, ⟨some 59, false, .bin .shr (.t 58) (.c (.int .u64 40)), none, false, []⟩, ⟨some 60, false, .bin .and (.t 59) (.c (.int .u64 255)), none, false, []⟩, ⟨some 61, false, .conv (.int .i64) (.t 60), none, false, []⟩, ⟨some 2, false, .asg (.t 61), none, false, []⟩] [0, 2] [0, 1000]) .ret)))
def spec_l00Src_next_ir : Fn := { np := 1, io := [true], res := [.t 2], own := [false], body :=
  (.seq (.reg false [⟨some 2, false, .asg (.c (.int .i64 0)), none, false, []⟩] [0] [0, 1000]) (.seq (.reg false [⟨some 3, false, .asg (.c (.int .i64 0)), none, false, []⟩] [0, 3] [0, 1000]) (.seq (.seq (.reg true [⟨some 4, false, .mv (.t 0), none, false, []⟩, ⟨some 5, false, .nilck (.t 4), none, false, []⟩, ⟨some 6, false, .fa 1 (.t 5), none, false, []⟩, ⟨some 7, false, .ld none (.t 6), none, false, []⟩, ⟨some 8, false, .mv (.t 0), none, false, []⟩, ⟨some 9, false, .nilck (.t 8), none, false, []⟩, ⟨some 10, false, .fa 0 (.t 9), none, false, []⟩, ⟨some 11, false, .ld none (.t 10), none, false, []⟩, ⟨some 12, false, .len (.t 11), none, false, []⟩, ⟨some 13, false, .bin .lss (.t 7) (.t 12), none, false, []⟩] [0, 3, 13] [0, 1000]) (.cond (.t 13) (.reg true [⟨some 14, false, .mv (.t 0), none, false, []⟩, ⟨some 15, false, .nilck (.t 14), none, false, []⟩, ⟨some 16, false, .fa 0 (.t 15), none, false, []⟩, ⟨some 17, false, .ld none (.t 16), none, false, []⟩, ⟨some 18, false, .mv (.t 0), none, false, []⟩, ⟨some 19, false, .nilck (.t 18), none, false, []⟩, ⟨some 20, false, .fa 1 (.t 19), none, false, []⟩, ⟨some 21, false, .ld none (.t 20), none, false, []⟩, ⟨some 22, false, .ia 1 (.t 17) (.t 21), none, false, []⟩, ⟨some 23, false, .ld none (.t 22), none, false, []⟩, ⟨some 24, false, .conv (.int .i64) (.t 23), none, false, []⟩, ⟨some 3, false, .asg (.t 24), none, false, []⟩] [0, 3] [0, 1000]) .skip)) (.norm [0, 3] [0, 1000] spec_l00Src_next_k0)))) }
noncomputable def spec_l00Src_next_D : List (Nat × Callee) := []
def spec_l00Src_next_H : List (Nat × ET) := [(11, (.one (.int .u8))), (17, (.one (.int .u8))), (51, (.one (.int .u8)))]
noncomputable def spec_l00Src_next_c : Callee := mkCallee spec_l00Src_next_D spec_l00Src_next_H spec_l00Src_next_ir [.box T_l00Src] [.d (.one (.int .i64))] [.box T_l00Src]
noncomputable def spec_l00Src_next (a0 : T_l00Src.ty) : Option (Int × T_l00Src.ty) := spec_l00Src_next_c.f (a0, ())
noncomputable def spec_l00Src_next_p0  (v3 : Int) (r0_0 : List Int) (r0_1 : Int) (r0_2 : Int) : Option (Int × T_l00Src.ty) :=
  goL spec_l00Src_next_D spec_l00Src_next_H (vleave spec_l00Src_next_ir [.box T_l00Src] [.d (.one (.int .i64))] [.box T_l00Src] []) [.c spec_l00Src_next_k0]
    ⟨[(0, .loc 0 0 0), (3, .int .i64 v3)], [(0, some (.var 3 (.agg [.sl (.one (.int .u8)) r0_0, .int .i64 r0_1, .int .u64 r0_2]))), (1000, none)]⟩
theorem spec_l00Src_next_eq (a0 : T_l00Src.ty) : spec_l00Src_next a0 =
    if decide (a0.2.1 < (a0.1.length : Int)) then
      if decide (0 ≤ a0.2.1) then
        (a0.1[a0.2.1.toNat]?).bind fun x1 =>
          spec_l00Src_next_p0 (IntKind.i64.wrap x1) a0.1 a0.2.1 a0.2.2.1
      else
        none
    else
      spec_l00Src_next_p0 0 a0.1 a0.2.1 a0.2.2.1 :=
  (mk_f _ _ _ _ _ _ _ 4000).trans (by kernel_rfl)
theorem spec_l00Src_next_p0_eq  (v3 : Int) (r0_0 : List Int) (r0_1 : Int) (r0_2 : Int) : spec_l00Src_next_p0 v3 r0_0 r0_1 r0_2 =
    if decide (IntKind.i64.wrap (r0_1 + 1) ≤ (r0_0.length : Int)) then
      some (v3, (r0_0, IntKind.i64.wrap (r0_1 + 1), IntKind.u64.wrap ((IntKind.u64.wrap ((IntKind.u64.wrap (r0_2 * 6364136223846793005)) + (IntKind.u64.wrap v3))) + 1442695040888963407), ()))
    else
      some (IntKind.i64.wrap (IntKind.u64.wrap ((BitVec.ofInt IntKind.u64.bits (Int.fdiv (IntKind.u64.wrap ((IntKind.u64.wrap ((IntKind.u64.wrap (r0_2 * 6364136223846793005)) + (IntKind.u64.wrap v3))) + 1442695040888963407)) (2 ^ (min (40 : Int).toNat IntKind.u64.bits))) &&& BitVec.ofInt IntKind.u64.bits 255).toNat : Int)), (r0_0, IntKind.i64.wrap (r0_1 + 1), IntKind.u64.wrap ((IntKind.u64.wrap ((IntKind.u64.wrap (r0_2 * 6364136223846793005)) + (IntKind.u64.wrap v3))) + 1442695040888963407), ())) :=
  (goL_dn _ _ _ 4000 _ _).trans (by kernel_rfl)

/- (*spec.l00Src).pick -/
def spec_l00Src_pick_ir : Fn := { np := 2, io := [true, false], res := [.t 4], own := [false], body :=
  (.seq (.reg false [⟨some 4, false, .asg (.c (.int .i64 0)), none, false, []⟩] [0, 1] [0, 1000]) (.seq (.seq (.reg false [⟨some 6, false, .mv (.t 1), none, false, []⟩, ⟨some 7, false, .bin .leq (.t 6) (.c (.int .i64 1)), none, false, []⟩] [0, 1, 7] [0, 1000]) (.cond (.t 7) (.seq (.reg false [⟨some 4, false, .asg (.c (.int .i64 0)), none, false, []⟩] [0, 4] [0, 1000]) .ret) .skip)) (.seq (.reg false [⟨some 8, false, .mv (.t 0), none, false, []⟩, ⟨some 9, true, .call (.c (.fn 847 [])) [.t 8], none, false, []⟩, ⟨some 5, false, .asg (.t 9), none, false, []⟩] [0, 1, 5] [0, 1000]) (.seq (.seq (.reg false [⟨some 10, false, .mv (.t 1), none, false, []⟩, ⟨some 11, false, .bin .gtr (.t 10) (.c (.int .i64 200)), none, false, []⟩] [0, 1, 5, 11] [0, 1000]) (.cond (.t 11) (.reg false [⟨some 12, false, .mv (.t 5), none, false, []⟩, ⟨some 13, false, .bin .mul (.t 12) (.c (.int .i64 256)), none, false, []⟩, ⟨some 14, false, .mv (.t 0), none, false, []⟩, ⟨some 15, true, .call (.c (.fn 847 [])) [.t 14], none, false, []⟩, ⟨some 16, false, .bin .add (.t 13) (.t 15), none, false, []⟩, ⟨some 5, false, .asg (.t 16), none, false, []⟩] [0, 1, 5] [0, 1000]) .skip)) (.seq (.reg false [⟨some 17, false, .mv (.t 5), none, false, []⟩, ⟨some 18, false, .mv (.t 1), none, false, []⟩, ⟨some 19, false, .bin .rem (.t 17) (.t 18), none, false, []⟩, ⟨some 4, false, .asg (.t 19), none, false, []⟩] [0, 4] [0, 1000]) .ret))))) }
noncomputable def spec_l00Src_pick_D : List (Nat × Callee) := [(847, spec_l00Src_next_c)]
def spec_l00Src_pick_H : List (Nat × ET) := []
noncomputable def spec_l00Src_pick_c : Callee := mkCallee spec_l00Src_pick_D spec_l00Src_pick_H spec_l00Src_pick_ir [.box T_l00Src, .d (.one (.int .i64))] [.d (.one (.int .i64))] [.box T_l00Src]
noncomputable def spec_l00Src_pick (a0 : T_l00Src.ty) (a1 : Int) : Option (Int × T_l00Src.ty) := spec_l00Src_pick_c.f (a0, a1, ())
theorem spec_l00Src_pick_eq (a0 : T_l00Src.ty) (a1 : Int) : spec_l00Src_pick a0 a1 =
    if decide (a1 ≤ 1) then
      some (0, a0)
    else
      (spec_l00Src_next a0).bind fun x1 =>
        if decide (a1 > 200) then
          (spec_l00Src_next (x1.2.1, x1.2.2.1, x1.2.2.2.1, ())).bind fun x2 =>
            if decide (a1 = 0) then
              none
            else
              some ((IntKind.i64.wrap ((IntKind.i64.wrap (x1.1 * 256)) + x2.1)).tmod a1, (x2.2.1, x2.2.2.1, x2.2.2.2.1, ()))
        else
          if decide (a1 = 0) then
            none
          else
            some (x1.1.tmod a1, (x1.2.1, x1.2.2.1, x1.2.2.2.1, ())) :=
  (mk_f _ _ _ _ _ _ _ 4000).trans (by kernel_rfl)

/- (*spec.l00Src).one -/
def spec_l00Src_one_ir : Fn := { np := 2, io := [true, false], res := [.t 4], own := [false], body :=
  (.seq (.reg false [⟨some 4, false, .asg (.c (.bool false)), none, false, []⟩] [0, 1] [0, 1000]) (.seq (.reg false [⟨some 5, false, .mv (.t 0), none, false, []⟩, ⟨some 6, false, .mv (.t 1), none, false, []⟩, ⟨some 7, true, .call (.c (.fn 463 [])) [.t 5, .t 6], none, false, []⟩, ⟨some 8, false, .bin .eql (.t 7) (.c (.int .i64 0)), none, false, []⟩, ⟨some 4, false, .asg (.t 8), none, false, []⟩] [0, 4] [0, 1000]) .ret)) }
noncomputable def spec_l00Src_one_D : List (Nat × Callee) := [(463, spec_l00Src_pick_c)]
def spec_l00Src_one_H : List (Nat × ET) := []
noncomputable def spec_l00Src_one_c : Callee := mkCallee spec_l00Src_one_D spec_l00Src_one_H spec_l00Src_one_ir [.box T_l00Src, .d (.one (.int .i64))] [.d (.one .bool)] [.box T_l00Src]
noncomputable def spec_l00Src_one (a0 : T_l00Src.ty) (a1 : Int) : Option (Bool × T_l00Src.ty) := spec_l00Src_one_c.f (a0, a1, ())
theorem spec_l00Src_one_eq (a0 : T_l00Src.ty) (a1 : Int) : spec_l00Src_one a0 a1 =
    (spec_l00Src_pick a0 a1).bind fun x1 =>
      some ((x1.1 == 0), (x1.2.1, x1.2.2.1, x1.2.2.2.1, ())) :=
  (mk_f _ _ _ _ _ _ _ 4000).trans (by kernel_rfl)

/- (*spec.l00Src).among -/
def spec_l00Src_among_ir : Fn := { np := 2, io := [true, false], res := [.t 4], own := [false], body :=
  (.seq (.reg false [⟨some 4, false, .asg (.c (.int .i64 0)), none, false, []⟩] [0, 1] [0, 1000]) (.seq (.reg false [⟨some 5, false, .mv (.t 1), none, false, []⟩, ⟨some 6, false, .mv (.t 0), none, false, []⟩, ⟨some 7, false, .mv (.t 1), none, false, []⟩, ⟨some 8, false, .len (.t 7), none, false, []⟩, ⟨some 9, true, .call (.c (.fn 463 [])) [.t 6, .t 8], none, false, []⟩, ⟨some 10, false, .ia 1 (.t 5) (.t 9), none, false, []⟩, ⟨some 11, false, .ld none (.t 10), none, false, []⟩, ⟨some 4, false, .asg (.t 11), none, false, []⟩] [0, 4] [0, 1000]) .ret)) }
noncomputable def spec_l00Src_among_D : List (Nat × Callee) := [(463, spec_l00Src_pick_c)]
def spec_l00Src_among_H : List (Nat × ET) := [(5, (.one (.int .i64))), (7, (.one (.int .i64)))]
noncomputable def spec_l00Src_among_c : Callee := mkCallee spec_l00Src_among_D spec_l00Src_among_H spec_l00Src_among_ir [.box T_l00Src, .d (.one (.sl (.one (.int .i64))))] [.d (.one (.int .i64))] [.box T_l00Src]
noncomputable def spec_l00Src_among (a0 : T_l00Src.ty) (a1 : List Int) : Option (Int × T_l00Src.ty) := spec_l00Src_among_c.f (a0, a1, ())
theorem spec_l00Src_among_eq (a0 : T_l00Src.ty) (a1 : List Int) : spec_l00Src_among a0 a1 =
    (spec_l00Src_pick a0 (a1.length : Int)).bind fun x1 =>
      if decide (0 ≤ x1.1) then
        (a1[x1.1.toNat]?).bind fun x2 =>
          some (x2, (x1.2.1, x1.2.2.1, x1.2.2.2.1, ()))
      else
        none :=
  (mk_f _ _ _ _ _ _ _ 4000).trans (by kernel_rfl)

/- spec.l16DrawTone -/
def spec_l16DrawTone_ir : Fn := { np := 1, io := [true], res := [.t 2], own := [false], body :=
  (.seq (.reg false [⟨some 2, false, .asg (.c (.int .i64 0)), none, false, []⟩] [0] [0, 1000]) (.seq (.seq (.reg false [⟨some 3, false, .mv (.t 0), none, false, []⟩, ⟨some 4, true, .call (.c (.fn 642 [])) [.t 3, .c (.int .i64 8)], none, false, []⟩] [0, 4] [0, 1000]) (.cond (.t 4) (.seq (.reg false [⟨some 5, false, .mv (.t 0), none, false, []⟩, ⟨some 6, false, .bsl 1 (.int .i64 0) 4 [(0, .c (.int .i64 999)), (1, .c (.int .i64 1000)), (2, .c (.int .i64 100000)), (3, .c (.int .i64 100001))], none, false, []⟩, ⟨some 7, true, .call (.c (.fn 445 [])) [.t 5, .t 6], none, false, []⟩, ⟨some 2, false, .asg (.t 7), none, false, []⟩] [0, 2] [0, 1000]) .ret) .skip)) (.seq (.reg false [⟨some 8, false, .mv (.t 0), none, false, []⟩, ⟨some 9, true, .call (.c (.fn 463 [])) [.t 8, .c (.int .i64 2000)], none, false, []⟩, ⟨some 10, false, .bin .mul (.c (.int .i64 7)) (.t 9), none, false, []⟩, ⟨some 11, false, .bin .add (.c (.int .i64 1000)) (.t 10), none, false, []⟩, ⟨some 2, false, .asg (.t 11), none, false, []⟩] [0, 2] [0, 1000]) .ret))) }
noncomputable def spec_l16DrawTone_D : List (Nat × Callee) := [(445, spec_l00Src_among_c), (463, spec_l00Src_pick_c), (642, spec_l00Src_one_c)]
def spec_l16DrawTone_H : List (Nat × ET) := [(6, (.one (.int .i64)))]
noncomputable def spec_l16DrawTone_c : Callee := mkCallee spec_l16DrawTone_D spec_l16DrawTone_H spec_l16DrawTone_ir [.box T_l00Src] [.d (.one (.int .i64))] [.box T_l00Src]
noncomputable def spec_l16DrawTone (a0 : T_l00Src.ty) : Option (Int × T_l00Src.ty) := spec_l16DrawTone_c.f (a0, ())
theorem spec_l16DrawTone_eq (a0 : T_l00Src.ty) : spec_l16DrawTone a0 =
    (spec_l00Src_one a0 8).bind fun x1 =>
      if x1.1 then
        (spec_l00Src_among (x1.2.1, x1.2.2.1, x1.2.2.2.1, ()) [999, 1000, 100000, 100001]).bind fun x2 =>
          some (x2.1, (x2.2.1, x2.2.2.1, x2.2.2.2.1, ()))
      else
        (spec_l00Src_pick (x1.2.1, x1.2.2.1, x1.2.2.2.1, ()) 2000).bind fun x3 =>
          some (IntKind.i64.wrap (1000 + (IntKind.i64.wrap (7 * x3.1))), (x3.2.1, x3.2.2.1, x3.2.2.2.1, ())) :=
  (mk_f _ _ _ _ _ _ _ 4000).trans (by kernel_rfl)

/- spec.DrawNoteOf -/
def spec_DrawNoteOf_ir : Fn := { np := 1, io := [], res := [.t 2], own := [false], body :=
  (.seq (.reg false [⟨some 2, false, .asg (.c (.int .i64 0)), none, false, []⟩] [0] []) (.seq (.reg false [⟨some 4, false, .mv (.t 0), none, false, []⟩, ⟨some 5, true, .call (.c (.fn 441 [])) [.t 4], none, false, []⟩, ⟨some 3, false, .asg (.t 5), none, false, []⟩] [3] [5, 6000]) (.seq (.reg false [⟨some 6, false, .mv (.t 3), none, false, []⟩, ⟨some 7, true, .call (.c (.fn 544 [])) [.t 6], none, false, []⟩, ⟨some 2, false, .asg (.t 7), none, false, []⟩] [2] []) .ret))) }
noncomputable def spec_DrawNoteOf_D : List (Nat × Callee) := [(441, spec_l00From_c), (544, spec_l16DrawTone_c)]
def spec_DrawNoteOf_H : List (Nat × ET) := [(4, (.one (.int .u8)))]
noncomputable def spec_DrawNoteOf_c : Callee := mkCallee spec_DrawNoteOf_D spec_DrawNoteOf_H spec_DrawNoteOf_ir [.d (.one (.sl (.one (.int .u8))))] [.d (.one (.int .i64))] []
noncomputable def spec_DrawNoteOf (a0 : List Int) : Option (Int) := spec_DrawNoteOf_c.f (a0, ())
theorem spec_DrawNoteOf_eq (a0 : List Int) : spec_DrawNoteOf a0 =
    (spec_l00From a0).bind fun x1 =>
      (spec_l16DrawTone x1).bind fun x2 =>
        some x2.1 :=
  (mk_f _ _ _ _ _ _ _ 4000).trans (by kernel_rfl)

/- impl.within -/
def impl_within_ir : Fn := { np := 3, io := [], res := [.t 6], own := [false], body :=
  (.seq (.reg false [⟨some 6, false, .asg (.c (.bool false)), none, false, []⟩] [0, 1, 2] []) (.seq (.reg false [⟨some 7, false, .mv (.t 1), none, false, []⟩, ⟨some 8, false, .mv (.t 0), none, false, []⟩, ⟨some 9, false, .bin .leq (.t 7) (.t 8), none, false, []⟩, ⟨some 10, false, .mv (.t 9), none, false, []⟩, ⟨some 11, false, .mv (.t 0), some (3, true), false, []⟩, ⟨some 12, false, .mv (.t 2), some (3, true), false, []⟩, ⟨some 13, false, .bin .leq (.t 11) (.t 12), some (3, true), false, []⟩, ⟨some 14, false, .pick (.t 10) (.t 13) (.c (.bool false)), none, false, []⟩, ⟨some 6, false, .asg (.t 14), none, false, []⟩] [6] []) .ret)) }
noncomputable def impl_within_D : List (Nat × Callee) := []
def impl_within_H : List (Nat × ET) := []
noncomputable def impl_within_c : Callee := mkCallee impl_within_D impl_within_H impl_within_ir [.d (.one (.int .i64)), .d (.one (.int .i64)), .d (.one (.int .i64))] [.d (.one .bool)] []
noncomputable def impl_within (a0 : Int) (a1 : Int) (a2 : Int) : Option (Bool) := impl_within_c.f (a0, a1, a2, ())
theorem impl_within_eq (a0 : Int) (a1 : Int) (a2 : Int) : impl_within a0 a1 a2 =
    if decide (a1 ≤ a0) then
      some (decide (a0 ≤ a2))
    else
      some false :=
  (mk_f _ _ _ _ _ _ _ 4000).trans (by kernel_rfl)

/- impl.isTone -/
def impl_isTone_ir : Fn := { np := 1, io := [], res := [.t 2], own := [false], body :=
  (.seq (.reg false [⟨some 2, false, .asg (.c (.bool false)), none, false, []⟩] [0] []) (.seq (.reg false [⟨some 3, false, .mv (.t 0), none, false, []⟩, ⟨some 4, false, .call (.c (.fn 23 [])) [.t 3, .c (.int .i64 1000), .c (.int .i64 100000)], none, false, []⟩, ⟨some 2, false, .asg (.t 4), none, false, []⟩] [2] []) .ret)) }
noncomputable def impl_isTone_D : List (Nat × Callee) := [(23, impl_within_c)]
def impl_isTone_H : List (Nat × ET) := []
noncomputable def impl_isTone_c : Callee := mkCallee impl_isTone_D impl_isTone_H impl_isTone_ir [.d (.one (.int .i64))] [.d (.one .bool)] []
noncomputable def impl_isTone (a0 : Int) : Option (Bool) := impl_isTone_c.f (a0, ())
theorem impl_isTone_eq (a0 : Int) : impl_isTone a0 =
    (impl_within a0 1000 100000).bind fun x1 =>
      some x1 :=
  (mk_f _ _ _ _ _ _ _ 4000).trans (by kernel_rfl)

/- impl.noteTone -/
def impl_noteTone_ir : Fn := { np := 1, io := [], res := [.t 2], own := [false], body :=
  (.seq (.reg false [⟨some 2, false, .asg (.c (.int .i64 0)), none, false, []⟩] [0] []) (.seq (.reg false [⟨some 3, false, .build [.int .i64 0, .int .i64 0, .int .i64 0, .int .i64 0, .int .i64 0, .int .i64 0, .int .i64 0, .int .i64 0, .int .i64 0, .int .i64 0, .int .i64 0, .int .i64 0] [(0, 1, .c (.int .i64 1308)), (1, 1, .c (.int .i64 1386)), (2, 1, .c (.int .i64 1468)), (3, 1, .c (.int .i64 1556)), (4, 1, .c (.int .i64 1648)), (5, 1, .c (.int .i64 1746)), (6, 1, .c (.int .i64 1850)), (7, 1, .c (.int .i64 1960)), (8, 1, .c (.int .i64 2077)), (9, 1, .c (.int .i64 2200)), (10, 1, .c (.int .i64 2331)), (11, 1, .c (.int .i64 2469))], none, false, []⟩, ⟨some 4, false, .mv (.t 0), none, false, []⟩, ⟨some 5, false, .bin .rem (.t 4) (.c (.int .i64 12)), none, false, []⟩, ⟨some 6, false, .ixa 12 1 none (.t 3) (.t 5), none, false, []⟩, ⟨some 7, false, .mv (.t 0), none, false, []⟩, ⟨some 8, false, .bin .quo (.t 7) (.c (.int .i64 12)), none, false, []⟩, ⟨some 9, false, .bin .shl (.t 6) (.t 8), none, false, []⟩, ⟨some 2, false, .asg (.t 9), none, false, []⟩] [2] []) .ret)) }
noncomputable def impl_noteTone_D : List (Nat × Callee) := []
def impl_noteTone_H : List (Nat × ET) := []
noncomputable def impl_noteTone_c : Callee := mkCallee impl_noteTone_D impl_noteTone_H impl_noteTone_ir [.d (.one (.int .i64))] [.d (.one (.int .i64))] []
noncomputable def impl_noteTone (a0 : Int) : Option (Int) := impl_noteTone_c.f (a0, ())
theorem impl_noteTone_eq (a0 : Int) : impl_noteTone a0 =
    if decide (a0.tmod 12 = 0) then
      if decide (IntKind.i64.wrap (a0.tdiv 12) < 0) then
        none
      else
        some (IntKind.i64.wrap (1308 * 2 ^ (min (IntKind.i64.wrap (a0.tdiv 12)).toNat IntKind.i64.bits)))
    else
      if decide (a0.tmod 12 = 1) then
        if decide (IntKind.i64.wrap (a0.tdiv 12) < 0) then
          none
        else
          some (IntKind.i64.wrap (1386 * 2 ^ (min (IntKind.i64.wrap (a0.tdiv 12)).toNat IntKind.i64.bits)))
      else
        if decide (a0.tmod 12 = 2) then
          if decide (IntKind.i64.wrap (a0.tdiv 12) < 0) then
            none
          else
            some (IntKind.i64.wrap (1468 * 2 ^ (min (IntKind.i64.wrap (a0.tdiv 12)).toNat IntKind.i64.bits)))
        else
          if decide (a0.tmod 12 = 3) then
            if decide (IntKind.i64.wrap (a0.tdiv 12) < 0) then
              none
            else
              some (IntKind.i64.wrap (1556 * 2 ^ (min (IntKind.i64.wrap (a0.tdiv 12)).toNat IntKind.i64.bits)))
          else
            if decide (a0.tmod 12 = 4) then
              if decide (IntKind.i64.wrap (a0.tdiv 12) < 0) then
                none
              else
                some (IntKind.i64.wrap (1648 * 2 ^ (min (IntKind.i64.wrap (a0.tdiv 12)).toNat IntKind.i64.bits)))
            else
              if decide (a0.tmod 12 = 5) then
                if decide (IntKind.i64.wrap (a0.tdiv 12) < 0) then
                  none
                else
                  some (IntKind.i64.wrap (1746 * 2 ^ (min (IntKind.i64.wrap (a0.tdiv 12)).toNat IntKind.i64.bits)))
              else
                if decide (a0.tmod 12 = 6) then
                  if decide (IntKind.i64.wrap (a0.tdiv 12) < 0) then
                    none
                  else
                    some (IntKind.i64.wrap (1850 * 2 ^ (min (IntKind.i64.wrap (a0.tdiv 12)).toNat IntKind.i64.bits)))
                else
                  if decide (a0.tmod 12 = 7) then
                    if decide (IntKind.i64.wrap (a0.tdiv 12) < 0) then
                      none
                    else
                      some (IntKind.i64.wrap (1960 * 2 ^ (min (IntKind.i64.wrap (a0.tdiv 12)).toNat IntKind.i64.bits)))
                  else
                    if decide (a0.tmod 12 = 8) then
                      if decide (IntKind.i64.wrap (a0.tdiv 12) < 0) then
                        none
                      else
                        some (IntKind.i64.wrap (2077 * 2 ^ (min (IntKind.i64.wrap (a0.tdiv 12)).toNat IntKind.i64.bits)))
                    else
                      if decide (a0.tmod 12 = 9) then
                        if decide (IntKind.i64.wrap (a0.tdiv 12) < 0) then
                          none
                        else
                          some (IntKind.i64.wrap (2200 * 2 ^ (min (IntKind.i64.wrap (a0.tdiv 12)).toNat IntKind.i64.bits)))
                      else
                        if decide (a0.tmod 12 = 10) then
                          if decide (IntKind.i64.wrap (a0.tdiv 12) < 0) then
                            none
                          else
                            some (IntKind.i64.wrap (2331 * 2 ^ (min (IntKind.i64.wrap (a0.tdiv 12)).toNat IntKind.i64.bits)))
                        else
                          if decide (a0.tmod 12 = 11) then
                            if decide (IntKind.i64.wrap (a0.tdiv 12) < 0) then
                              none
                            else
                              some (IntKind.i64.wrap (2469 * 2 ^ (min (IntKind.i64.wrap (a0.tdiv 12)).toNat IntKind.i64.bits)))
                          else
                            none :=
  (mk_f _ _ _ _ _ _ _ 4000).trans (by kernel_rfl)

/- impl.distance -/
def impl_distance_ir : Fn := { np := 2, io := [], res := [.t 4], own := [false], body :=
  (.seq (.reg false [⟨some 4, false, .asg (.c (.int .i64 0)), none, false, []⟩] [0, 1] []) (.seq (.reg false [⟨some 5, false, .mv (.t 0), none, false, []⟩, ⟨some 6, false, .mv (.t 1), none, false, []⟩, ⟨some 7, false, .bin .sub (.t 5) (.t 6), none, false, []⟩, ⟨some 8, false, .mv (.t 1), none, false, []⟩, ⟨some 9, false, .mv (.t 0), none, false, []⟩, ⟨some 10, false, .bin .sub (.t 8) (.t 9), none, false, []⟩, ⟨some 11, false, .max [.t 7, .t 10], none, false, []⟩, ⟨some 4, false, .asg (.t 11), none, false, []⟩] [4] []) .ret)) }
noncomputable def impl_distance_D : List (Nat × Callee) := []
def impl_distance_H : List (Nat × ET) := []
noncomputable def impl_distance_c : Callee := mkCallee impl_distance_D impl_distance_H impl_distance_ir [.d (.one (.int .i64)), .d (.one (.int .i64))] [.d (.one (.int .i64))] []
noncomputable def impl_distance (a0 : Int) (a1 : Int) : Option (Int) := impl_distance_c.f (a0, a1, ())
theorem impl_distance_eq (a0 : Int) (a1 : Int) : impl_distance a0 a1 =
    some (if IntKind.i64.wrap (a1 - a0) > IntKind.i64.wrap (a0 - a1) then IntKind.i64.wrap (a1 - a0) else IntKind.i64.wrap (a0 - a1)) :=
  (mk_f _ _ _ _ _ _ _ 4000).trans (by kernel_rfl)

/- impl.NoteOf -/
def impl_NoteOf_k0 : C :=
  .seq (.reg false [⟨some 11, false, .bin .lss (.t 10) (.c (.int .i64 61)), none, false, []⟩] [0, 5, 10, 11] []) (.seq (.cond (.t 11) .skip (.exit 0)) (.seq (.block 1 (.seq (.reg false [⟨some 12, false, .mv (.t 10), none, false, []⟩, ⟨some 6, false, .asg (.t 12), none, false, []⟩] [0, 5, 6, 10] []) (.seq (.reg false [⟨some 13, false, .mv (.t 6), none, false, []⟩, ⟨some 14, false, .call (.c (.fn 475 [])) [.t 13], none, false, []⟩, ⟨some 15, false, .mv (.t 0), none, false, []⟩, ⟨some 16, false, .call (.c (.fn 448 [])) [.t 14, .t 15], none, false, []⟩, ⟨some 17, false, .mv (.t 5), none, false, []⟩, ⟨some 18, false, .call (.c (.fn 475 [])) [.t 17], none, false, []⟩, ⟨some 19, false, .mv (.t 0), none, false, []⟩, ⟨some 20, false, .call (.c (.fn 448 [])) [.t 18, .t 19], none, false, []⟩, ⟨some 21, false, .bin .lss (.t 16) (.t 20), none, false, []⟩] [0, 5, 6, 10, 21] []) (.cond (.t 21) (.reg false [⟨some 22, false, .mv (.t 6), none, false, []⟩, ⟨some 5, false, .asg (.t 22), none, false, []⟩] [0, 5, 10] []) .skip)))) (.reg false [⟨some 23, false, .bin .add (.t 10) (.c (.int .i64 1)), none, false, []⟩, ⟨some 10, false, .mv (.t 23), none, false, []⟩] [0, 5, 10] [])))
def impl_NoteOf_k1 : C :=
  .norm [0, 5, 10] [] impl_NoteOf_k0
def impl_NoteOf_k2 : C :=
  .seq (.reg false [⟨some 24, false, .mv (.t 5), none, false, []⟩, ⟨some 25, false, .mv (.t 0), none, false, []⟩, ⟨some 26, false, .mv (.t 5), none, false, []⟩, ⟨some 27, false, .call (.c (.fn 475 [])) [.t 26], none, false, []⟩, ⟨some 28, false, .bin .sub (.t 25) (.t 27), none, false, []⟩, ⟨some 2, false, .asg (.t 24), none, false, []⟩, ⟨some 3, false, .asg (.t 28), none, false, []⟩, ⟨some 4, false, .asg (.c (.int .i64 0)), none, false, []⟩] [2, 3, 4] []) .ret
def impl_NoteOf_ir : Fn := { np := 1, io := [], res := [.t 2, .t 3, .t 4], own := [false, false, false], body :=
  (.seq (.reg false [⟨some 2, false, .asg (.c (.int .i64 0)), none, false, []⟩, ⟨some 3, false, .asg (.c (.int .i64 0)), none, false, []⟩, ⟨some 4, false, .asg (.c (.int .i64 0)), none, false, []⟩] [0] []) (.seq (.seq (.reg false [⟨some 7, false, .mv (.t 0), none, false, []⟩, ⟨some 8, false, .call (.c (.fn 545 [])) [.t 7], none, false, []⟩, ⟨some 9, false, .un .not (.t 8), none, false, []⟩] [0, 9] []) (.cond (.t 9) (.seq (.reg false [⟨some 2, false, .asg (.c (.int .i64 0)), none, false, []⟩, ⟨some 3, false, .asg (.c (.int .i64 0)), none, false, []⟩, ⟨some 4, false, .asg (.c (.int .i64 2)), none, false, []⟩] [2, 3, 4] []) .ret) .skip)) (.seq (.reg false [⟨some 5, false, .asg (.c (.int .i64 0)), none, false, []⟩] [0, 5] []) (.seq (.seq (.reg false [⟨some 10, false, .mv (.c (.int .i64 0)), none, false, []⟩] [0, 5, 10] []) (.block 0 (.loop impl_NoteOf_k1))) impl_NoteOf_k2)))) }
noncomputable def impl_NoteOf_D : List (Nat × Callee) := [(448, impl_distance_c), (475, impl_noteTone_c), (545, impl_isTone_c)]
def impl_NoteOf_H : List (Nat × ET) := []
noncomputable def impl_NoteOf_c : Callee := mkCallee impl_NoteOf_D impl_NoteOf_H impl_NoteOf_ir [.d (.one (.int .i64))] [.d (.one (.int .i64)), .d (.one (.int .i64)), .d (.one (.int .i64))] []
noncomputable def impl_NoteOf (a0 : Int) : Option (Int × Int × Int) := impl_NoteOf_c.f (a0, ())
noncomputable def impl_NoteOf_p0  (v0 : Int) (v5 : Int) (v10 : Int) : Option (Int × Int × Int) :=
  goL impl_NoteOf_D impl_NoteOf_H (vleave impl_NoteOf_ir [.d (.one (.int .i64))] [.d (.one (.int .i64)), .d (.one (.int .i64)), .d (.one (.int .i64))] [] []) [.c impl_NoteOf_k0, .l impl_NoteOf_k1, .e 0, .c impl_NoteOf_k2]
    ⟨[(0, .int .i64 v0), (5, .int .i64 v5), (10, .int .i64 v10)], []⟩
theorem impl_NoteOf_eq (a0 : Int) : impl_NoteOf a0 =
    (impl_isTone a0).bind fun x1 =>
      if (!x1) then
        some (0, 0, 2)
      else
        impl_NoteOf_p0 a0 0 0 :=
  (mk_f _ _ _ _ _ _ _ 4000).trans (by kernel_rfl)
theorem impl_NoteOf_p0_eq  (v0 : Int) (v5 : Int) (v10 : Int) : impl_NoteOf_p0 v0 v5 v10 =
    if decide (v10 < 61) then
      (impl_noteTone v10).bind fun x1 =>
        (impl_distance x1 v0).bind fun x2 =>
          (impl_noteTone v5).bind fun x3 =>
            (impl_distance x3 v0).bind fun x4 =>
              if decide (x2 < x4) then
                impl_NoteOf_p0 v0 v10 (IntKind.i64.wrap (v10 + 1))
              else
                impl_NoteOf_p0 v0 v5 (IntKind.i64.wrap (v10 + 1))
    else
      (impl_noteTone v5).bind fun x5 =>
        some (v5, IntKind.i64.wrap (v0 - x5), 0) :=
  (goL_dn _ _ _ 4000 _ _).trans (by kernel_rfl)

/- impl.NoteTone -/
def impl_NoteTone_ir : Fn := { np := 1, io := [], res := [.t 2, .t 3], own := [false, false], body :=
  (.seq (.reg false [⟨some 2, false, .asg (.c (.int .i64 0)), none, false, []⟩, ⟨some 3, false, .asg (.c (.int .i64 0)), none, false, []⟩] [0] []) (.seq (.seq (.reg false [⟨some 4, false, .mv (.t 0), none, false, []⟩, ⟨some 5, false, .call (.c (.fn 23 [])) [.t 4, .c (.int .i64 0), .c (.int .i64 60)], none, false, []⟩, ⟨some 6, false, .un .not (.t 5), none, false, []⟩] [0, 6] []) (.cond (.t 6) (.seq (.reg false [⟨some 2, false, .asg (.c (.int .i64 0)), none, false, []⟩, ⟨some 3, false, .asg (.c (.int .i64 2)), none, false, []⟩] [2, 3] []) .ret) .skip)) (.seq (.reg false [⟨some 7, false, .mv (.t 0), none, false, []⟩, ⟨some 8, false, .call (.c (.fn 475 [])) [.t 7], none, false, []⟩, ⟨some 2, false, .asg (.t 8), none, false, []⟩, ⟨some 3, false, .asg (.c (.int .i64 0)), none, false, []⟩] [2, 3] []) .ret))) }
noncomputable def impl_NoteTone_D : List (Nat × Callee) := [(23, impl_within_c), (475, impl_noteTone_c)]
def impl_NoteTone_H : List (Nat × ET) := []
noncomputable def impl_NoteTone_c : Callee := mkCallee impl_NoteTone_D impl_NoteTone_H impl_NoteTone_ir [.d (.one (.int .i64))] [.d (.one (.int .i64)), .d (.one (.int .i64))] []
noncomputable def impl_NoteTone (a0 : Int) : Option (Int × Int) := impl_NoteTone_c.f (a0, ())
theorem impl_NoteTone_eq (a0 : Int) : impl_NoteTone a0 =
    (impl_within a0 0 60).bind fun x1 =>
      if (!x1) then
        some (0, 2)
      else
        (impl_noteTone a0).bind fun x2 =>
          some (x2, 0) :=
  (mk_f _ _ _ _ _ _ _ 4000).trans (by kernel_rfl)

/- impl.at -/
def impl_at_ir : Fn := { np := 2, io := [], res := [.t 4], own := [false], body :=
  (.seq (.reg false [⟨some 4, false, .asg (.c (.bool false)), none, false, []⟩] [0, 1] []) (.seq (.reg false [⟨some 5, false, .mv (.t 0), none, false, []⟩, ⟨some 6, false, .bin .geq (.t 5) (.c (.int .i64 0)), none, false, []⟩, ⟨some 7, false, .mv (.t 6), none, false, []⟩, ⟨some 8, false, .mv (.t 0), some (2, true), false, []⟩, ⟨some 9, false, .mv (.t 1), some (2, true), false, []⟩, ⟨some 10, false, .bin .lss (.t 8) (.t 9), some (2, true), false, []⟩, ⟨some 11, false, .pick (.t 7) (.t 10) (.c (.bool false)), none, false, []⟩, ⟨some 4, false, .asg (.t 11), none, false, []⟩] [4] []) .ret)) }
noncomputable def impl_at_D : List (Nat × Callee) := []
def impl_at_H : List (Nat × ET) := []
noncomputable def impl_at_c : Callee := mkCallee impl_at_D impl_at_H impl_at_ir [.d (.one (.int .i64)), .d (.one (.int .i64))] [.d (.one .bool)] []
noncomputable def impl_at (a0 : Int) (a1 : Int) : Option (Bool) := impl_at_c.f (a0, a1, ())
theorem impl_at_eq (a0 : Int) (a1 : Int) : impl_at a0 a1 =
    if decide (a0 ≥ 0) then
      some (decide (a0 < a1))
    else
      some false :=
  (mk_f _ _ _ _ _ _ _ 4000).trans (by kernel_rfl)

/- impl.pick -/
def impl_pick_ir : Fn := { np := 2, io := [], res := [.t 4], own := [false], body :=
  (.seq (.reg false [⟨some 4, false, .asg (.c (.str [])), none, false, []⟩] [0, 1] []) (.seq (.seq (.reg false [⟨some 5, false, .mv (.t 0), none, false, []⟩, ⟨some 6, false, .mv (.t 1), none, false, []⟩, ⟨some 7, false, .len (.t 6), none, false, []⟩, ⟨some 8, false, .call (.c (.fn 4 [])) [.t 5, .t 7], none, false, []⟩, ⟨some 9, false, .un .not (.t 8), none, false, []⟩] [0, 1, 9] []) (.cond (.t 9) (.seq (.reg false [⟨some 4, false, .asg (.c (.str [])), none, false, []⟩] [4] []) .ret) .skip)) (.seq (.reg false [⟨some 10, false, .mv (.t 1), none, false, []⟩, ⟨some 11, false, .mv (.t 0), none, false, []⟩, ⟨some 12, false, .ia 1 (.t 10) (.t 11), none, false, []⟩, ⟨some 13, false, .ld none (.t 12), none, false, []⟩, ⟨some 4, false, .asg (.t 13), none, false, []⟩] [4] []) .ret))) }
noncomputable def impl_pick_D : List (Nat × Callee) := [(4, impl_at_c)]
def impl_pick_H : List (Nat × ET) := [(6, (.one .str)), (10, (.one .str))]
noncomputable def impl_pick_c : Callee := mkCallee impl_pick_D impl_pick_H impl_pick_ir [.d (.one (.int .i64)), .d (.one (.sl (.one .str)))] [.d (.one .str)] []
noncomputable def impl_pick (a0 : Int) (a1 : List (List UInt8)) : Option (List UInt8) := impl_pick_c.f (a0, a1, ())
theorem impl_pick_eq (a0 : Int) (a1 : List (List UInt8)) : impl_pick a0 a1 =
    (impl_at a0 (a1.length : Int)).bind fun x1 =>
      if (!x1) then
        some []
      else
        if decide (0 ≤ a0) then
          (a1[a0.toNat]?).bind fun x2 =>
            some x2
        else
          none :=
  (mk_f _ _ _ _ _ _ _ 4000).trans (by kernel_rfl)

/- strconv.FormatInt -/
noncomputable def strconv_FormatInt_c : Callee := formatIntC
noncomputable def strconv_FormatInt (a0 : Int) (a1 : Int) : Option (List UInt8) := strconv_FormatInt_c.f (a0, a1, ())
theorem strconv_FormatInt_eq (a0 : Int) (a1 : Int) : strconv_FormatInt a0 a1 = if decide (a1 = 10) && (decide (-9223372036854775808 ≤ a0) && decide (a0 ≤ 9223372036854775807)) then some (Lib.itoa a0) else none := rfl

/- impl.Decimal -/
def impl_Decimal_ir : Fn := { np := 1, io := [], res := [.t 2], own := [false], body :=
  (.seq (.reg false [⟨some 2, false, .asg (.c (.str [])), none, false, []⟩] [0] []) (.seq (.reg false [⟨some 3, false, .mv (.t 0), none, false, []⟩, ⟨some 4, false, .call (.c (.fn 864 [])) [.t 3, .c (.int .i64 10)], none, false, []⟩, ⟨some 2, false, .asg (.t 4), none, false, []⟩] [2] []) .ret)) }
noncomputable def impl_Decimal_D : List (Nat × Callee) := [(864, strconv_FormatInt_c)]
def impl_Decimal_H : List (Nat × ET) := []
noncomputable def impl_Decimal_c : Callee := mkCallee impl_Decimal_D impl_Decimal_H impl_Decimal_ir [.d (.one (.int .i64))] [.d (.one .str)] []
noncomputable def impl_Decimal (a0 : Int) : Option (List UInt8) := impl_Decimal_c.f (a0, ())
theorem impl_Decimal_eq (a0 : Int) : impl_Decimal a0 =
    (strconv_FormatInt a0 10).bind fun x1 =>
      some x1 :=
  (mk_f _ _ _ _ _ _ _ 4000).trans (by kernel_rfl)

/- impl.NoteName -/
def impl_NoteName_ir : Fn := { np := 1, io := [], res := [.t 2], own := [false], body :=
  (.seq (.reg false [⟨some 2, false, .asg (.c (.str [])), none, false, []⟩] [0] []) (.seq (.seq (.reg false [⟨some 3, false, .mv (.t 0), none, false, []⟩, ⟨some 4, false, .call (.c (.fn 23 [])) [.t 3, .c (.int .i64 0), .c (.int .i64 60)], none, false, []⟩, ⟨some 5, false, .un .not (.t 4), none, false, []⟩] [0, 5] []) (.cond (.t 5) (.seq (.reg false [⟨some 2, false, .asg (.c (.str [])), none, false, []⟩] [2] []) .ret) .skip)) (.seq (.reg false [⟨some 6, false, .mv (.t 0), none, false, []⟩, ⟨some 7, false, .bin .rem (.t 6) (.c (.int .i64 12)), none, false, []⟩, ⟨some 8, false, .bsl 1 (.str []) 12 [(0, .c (.str [99])), (1, .c (.str [99, 35])), (2, .c (.str [100])), (3, .c (.str [100, 35])), (4, .c (.str [101])), (5, .c (.str [102])), (6, .c (.str [102, 35])), (7, .c (.str [103])), (8, .c (.str [103, 35])), (9, .c (.str [97])), (10, .c (.str [97, 35])), (11, .c (.str [98]))], none, false, []⟩, ⟨some 9, false, .call (.c (.fn 5 [])) [.t 7, .t 8], none, false, []⟩, ⟨some 10, false, .mv (.t 0), none, false, []⟩, ⟨some 11, false, .bin .quo (.t 10) (.c (.int .i64 12)), none, false, []⟩, ⟨some 12, false, .call (.c (.fn 524 [])) [.t 11], none, false, []⟩, ⟨some 13, false, .bin .add (.t 9) (.t 12), none, false, []⟩, ⟨some 2, false, .asg (.t 13), none, false, []⟩] [2] []) .ret))) }
noncomputable def impl_NoteName_D : List (Nat × Callee) := [(5, impl_pick_c), (23, impl_within_c), (524, impl_Decimal_c)]
def impl_NoteName_H : List (Nat × ET) := [(8, (.one .str))]
noncomputable def impl_NoteName_c : Callee := mkCallee impl_NoteName_D impl_NoteName_H impl_NoteName_ir [.d (.one (.int .i64))] [.d (.one .str)] []
noncomputable def impl_NoteName (a0 : Int) : Option (List UInt8) := impl_NoteName_c.f (a0, ())
theorem impl_NoteName_eq (a0 : Int) : impl_NoteName a0 =
    (impl_within a0 0 60).bind fun x1 =>
      if (!x1) then
        some []
      else
        (impl_pick (a0.tmod 12) [[99], [99, 35], [100], [100, 35], [101], [102], [102, 35], [103], [103, 35], [97], [97, 35], [98]]).bind fun x2 =>
          (impl_Decimal (IntKind.i64.wrap (a0.tdiv 12))).bind fun x3 =>
            if decide (x2.length + x3.length ≤ strMax) then
              some (x2 ++ x3)
            else
              none :=
  (mk_f _ _ _ _ _ _ _ 4000).trans (by kernel_rfl)

/- spec.l00In -/
def spec_l00In_ir : Fn := { np := 3, io := [], res := [.t 6], own := [false], body :=
  (.seq (.reg false [⟨some 6, false, .asg (.c (.bool false)), none, false, []⟩] [0, 1, 2] []) (.seq (.reg false [⟨some 7, false, .mv (.t 0), none, false, []⟩, ⟨some 8, false, .mv (.t 1), none, false, []⟩, ⟨some 9, false, .bin .geq (.t 7) (.t 8), none, false, []⟩, ⟨some 10, false, .mv (.t 9), none, false, []⟩, ⟨some 11, false, .mv (.t 0), some (3, true), false, []⟩, ⟨some 12, false, .mv (.t 2), some (3, true), false, []⟩, ⟨some 13, false, .bin .leq (.t 11) (.t 12), some (3, true), false, []⟩, ⟨some 14, false, .pick (.t 10) (.t 13) (.c (.bool false)), none, false, []⟩, ⟨some 6, false, .asg (.t 14), none, false, []⟩] [6] []) .ret)) }
noncomputable def spec_l00In_D : List (Nat × Callee) := []
def spec_l00In_H : List (Nat × ET) := []
noncomputable def spec_l00In_c : Callee := mkCallee spec_l00In_D spec_l00In_H spec_l00In_ir [.d (.one (.int .i64)), .d (.one (.int .i64)), .d (.one (.int .i64))] [.d (.one .bool)] []
noncomputable def spec_l00In (a0 : Int) (a1 : Int) (a2 : Int) : Option (Bool) := spec_l00In_c.f (a0, a1, a2, ())
theorem spec_l00In_eq (a0 : Int) (a1 : Int) (a2 : Int) : spec_l00In a0 a1 a2 =
    if decide (a0 ≥ a1) then
      some (decide (a0 ≤ a2))
    else
      some false :=
  (mk_f _ _ _ _ _ _ _ 4000).trans (by kernel_rfl)

/- spec.l16Note -/
def spec_l16Note_ir : Fn := { np := 1, io := [], res := [.t 2], own := [false], body :=
  (.seq (.reg false [⟨some 2, false, .asg (.c (.bool false)), none, false, []⟩] [0] []) (.seq (.reg false [⟨some 3, false, .mv (.t 0), none, false, []⟩, ⟨some 4, false, .call (.c (.fn 1 [])) [.t 3, .c (.int .i64 0), .c (.int .i64 60)], none, false, []⟩, ⟨some 2, false, .asg (.t 4), none, false, []⟩] [2] []) .ret)) }
noncomputable def spec_l16Note_D : List (Nat × Callee) := [(1, spec_l00In_c)]
def spec_l16Note_H : List (Nat × ET) := []
noncomputable def spec_l16Note_c : Callee := mkCallee spec_l16Note_D spec_l16Note_H spec_l16Note_ir [.d (.one (.int .i64))] [.d (.one .bool)] []
noncomputable def spec_l16Note (a0 : Int) : Option (Bool) := spec_l16Note_c.f (a0, ())
theorem spec_l16Note_eq (a0 : Int) : spec_l16Note a0 =
    (spec_l00In a0 0 60).bind fun x1 =>
      some x1 :=
  (mk_f _ _ _ _ _ _ _ 4000).trans (by kernel_rfl)

/- spec.l16NoteTone -/
def spec_l16NoteTone_ir : Fn := { np := 1, io := [], res := [.t 2], own := [false], body :=
  (.seq (.reg false [⟨some 2, false, .asg (.c (.int .i64 0)), none, false, []⟩] [0] []) (.seq (.reg false [⟨some 4, false, .bsl 1 (.int .i64 0) 12 [(0, .c (.int .i64 1308)), (1, .c (.int .i64 1386)), (2, .c (.int .i64 1468)), (3, .c (.int .i64 1556)), (4, .c (.int .i64 1648)), (5, .c (.int .i64 1746)), (6, .c (.int .i64 1850)), (7, .c (.int .i64 1960)), (8, .c (.int .i64 2077)), (9, .c (.int .i64 2200)), (10, .c (.int .i64 2331)), (11, .c (.int .i64 2469))], none, false, []⟩, ⟨some 3, true, .asg (.t 4), none, false, []⟩] [0, 3] [3]) (.seq (.reg false [⟨some 5, false, .mv (.t 3), none, false, []⟩, ⟨some 6, false, .mv (.t 0), none, false, []⟩, ⟨some 7, false, .bin .rem (.t 6) (.c (.int .i64 12)), none, false, []⟩, ⟨some 8, false, .ia 1 (.t 5) (.t 7), none, false, []⟩, ⟨some 9, false, .ld none (.t 8), none, false, []⟩, ⟨some 10, false, .mv (.t 0), none, false, []⟩, ⟨some 11, false, .bin .quo (.t 10) (.c (.int .i64 12)), none, false, []⟩, ⟨some 12, false, .conv (.int .u64) (.t 11), none, false, []⟩, ⟨some 13, false, .bin .shl (.t 9) (.t 12), none, false, []⟩, ⟨some 2, false, .asg (.t 13), none, false, []⟩] [2] []) .ret))) }
noncomputable def spec_l16NoteTone_D : List (Nat × Callee) := []
def spec_l16NoteTone_H : List (Nat × ET) := [(3, (.one (.int .i64))), (4, (.one (.int .i64))), (5, (.one (.int .i64)))]
noncomputable def spec_l16NoteTone_c : Callee := mkCallee spec_l16NoteTone_D spec_l16NoteTone_H spec_l16NoteTone_ir [.d (.one (.int .i64))] [.d (.one (.int .i64))] []
noncomputable def spec_l16NoteTone (a0 : Int) : Option (Int) := spec_l16NoteTone_c.f (a0, ())
theorem spec_l16NoteTone_eq (a0 : Int) : spec_l16NoteTone a0 =
    if decide (0 ≤ a0.tmod 12) && decide (a0.tmod 12 < 12) then
      ([1308, 1386, 1468, 1556, 1648, 1746, 1850, 1960, 2077, 2200, 2331, 2469][(a0.tmod 12).toNat]?).bind fun x1 =>
        if decide (IntKind.u64.wrap (IntKind.i64.wrap (a0.tdiv 12)) < 0) then
          none
        else
          some (IntKind.i64.wrap (x1 * 2 ^ (min (IntKind.u64.wrap (IntKind.i64.wrap (a0.tdiv 12))).toNat IntKind.i64.bits)))
    else
      none :=
  (mk_f _ _ _ _ _ _ _ 4000).trans (by kernel_rfl)

/- spec.NoteTone -/
def spec_NoteTone_ir : Fn := { np := 1, io := [], res := [.t 2, .t 3], own := [false, false], body :=
  (.seq (.reg false [⟨some 2, false, .asg (.c (.int .i64 0)), none, false, []⟩, ⟨some 3, false, .asg (.c (.int .i64 0)), none, false, []⟩] [0] []) (.seq (.seq (.reg false [⟨some 4, false, .mv (.t 0), none, false, []⟩, ⟨some 5, false, .call (.c (.fn 477 [])) [.t 4], none, false, []⟩, ⟨some 6, false, .un .not (.t 5), none, false, []⟩] [0, 6] []) (.cond (.t 6) (.seq (.reg false [⟨some 2, false, .asg (.c (.int .i64 0)), none, false, []⟩, ⟨some 3, false, .asg (.c (.int .i64 2)), none, false, []⟩] [2, 3] []) .ret) .skip)) (.seq (.reg false [⟨some 7, false, .mv (.t 0), none, false, []⟩, ⟨some 8, false, .call (.c (.fn 476 [])) [.t 7], none, false, []⟩, ⟨some 2, false, .asg (.t 8), none, false, []⟩, ⟨some 3, false, .asg (.c (.int .i64 0)), none, false, []⟩] [2, 3] []) .ret))) }
noncomputable def spec_NoteTone_D : List (Nat × Callee) := [(476, spec_l16NoteTone_c), (477, spec_l16Note_c)]
def spec_NoteTone_H : List (Nat × ET) := []
noncomputable def spec_NoteTone_c : Callee := mkCallee spec_NoteTone_D spec_NoteTone_H spec_NoteTone_ir [.d (.one (.int .i64))] [.d (.one (.int .i64)), .d (.one (.int .i64))] []
noncomputable def spec_NoteTone (a0 : Int) : Option (Int × Int) := spec_NoteTone_c.f (a0, ())
theorem spec_NoteTone_eq (a0 : Int) : spec_NoteTone a0 =
    (spec_l16Note a0).bind fun x1 =>
      if (!x1) then
        some (0, 2)
      else
        (spec_l16NoteTone a0).bind fun x2 =>
          some (x2, 0) :=
  (mk_f _ _ _ _ _ _ _ 4000).trans (by kernel_rfl)

/- laws.b10Abs -/
def laws_b10Abs_ir : Fn := { np := 1, io := [], res := [.t 2], own := [false], body :=
  (.seq (.reg false [⟨some 2, false, .asg (.c (.int .i64 0)), none, false, []⟩] [0] []) (.seq (.seq (.reg false [⟨some 3, false, .mv (.t 0), none, false, []⟩, ⟨some 4, false, .bin .lss (.t 3) (.c (.int .i64 0)), none, false, []⟩] [0, 4] []) (.cond (.t 4) (.seq (.reg false [⟨some 5, false, .mv (.t 0), none, false, []⟩, ⟨some 6, false, .un .neg (.t 5), none, false, []⟩, ⟨some 2, false, .asg (.t 6), none, false, []⟩] [2] []) .ret) .skip)) (.seq (.reg false [⟨some 7, false, .mv (.t 0), none, false, []⟩, ⟨some 2, false, .asg (.t 7), none, false, []⟩] [2] []) .ret))) }
noncomputable def laws_b10Abs_D : List (Nat × Callee) := []
def laws_b10Abs_H : List (Nat × ET) := []
noncomputable def laws_b10Abs_c : Callee := mkCallee laws_b10Abs_D laws_b10Abs_H laws_b10Abs_ir [.d (.one (.int .i64))] [.d (.one (.int .i64))] []
noncomputable def laws_b10Abs (a0 : Int) : Option (Int) := laws_b10Abs_c.f (a0, ())
theorem laws_b10Abs_eq (a0 : Int) : laws_b10Abs a0 =
    if decide (a0 < 0) then
      some (IntKind.i64.wrap (0 - a0))
    else
      some a0 :=
  (mk_f _ _ _ _ _ _ _ 4000).trans (by kernel_rfl)

/- spec.l16DrawOne -/
def spec_l16DrawOne_ir : Fn := { np := 2, io := [true, false], res := [.cell 4 (some 3)], own := [false], body :=
  (.seq (.reg false [⟨some 4, true, .alloc 3 (.agg [.str [], .int .i64 0, .int .i64 0]), none, false, []⟩] [0, 1, 4] [0, 4, 1000]) (.seq (.reg false [⟨some 6, false, .mv (.t 1), none, false, []⟩, ⟨some 7, false, .mv (.t 0), none, false, []⟩, ⟨some 8, true, .call (.c (.fn 463 [])) [.t 7, .c (.int .i64 400)], none, false, []⟩, ⟨some 9, false, .bin .mul (.c (.int .i64 10)) (.t 8), none, false, []⟩, ⟨some 10, false, .bin .add (.c (.int .i64 1000)) (.t 9), none, false, []⟩, ⟨some 11, false, .build [.str [], .int .i64 0, .int .i64 0] [(0, 1, .t 6), (1, 1, .t 10)], none, false, []⟩, ⟨some 5, true, .alloc 3 (.agg [.str [], .int .i64 0, .int .i64 0]), none, false, []⟩, ⟨none, true, .sto 3 (.t 5) (.t 11), none, false, []⟩] [0, 4, 5] [0, 4, 5, 1000]) (.seq (.reg false [⟨some 12, false, .mv (.t 0), none, false, []⟩, ⟨some 13, true, .call (.c (.fn 463 [])) [.t 12, .c (.int .i64 30)], none, false, []⟩, ⟨some 14, false, .bin .add (.c (.int .i64 1)) (.t 13), none, false, []⟩, ⟨some 15, false, .bin .mul (.c (.int .i64 5)) (.t 14), none, false, []⟩, ⟨some 16, false, .fa 2 (.t 5), none, false, []⟩, ⟨none, true, .sto 1 (.t 16) (.t 15), none, false, []⟩] [0, 4, 5] [0, 4, 5, 1000]) (.seq (.reg false [⟨some 17, false, .ld (some 3) (.t 5), none, false, []⟩, ⟨none, true, .sto 3 (.t 4) (.t 17), none, false, []⟩] [0, 4] [0, 4, 1000]) .ret)))) }
noncomputable def spec_l16DrawOne_D : List (Nat × Callee) := [(463, spec_l00Src_pick_c)]
def spec_l16DrawOne_H : List (Nat × ET) := []
noncomputable def spec_l16DrawOne_c : Callee := mkCallee spec_l16DrawOne_D spec_l16DrawOne_H spec_l16DrawOne_ir [.box T_l00Src, .d (.one .str)] [.d T_Mode] [.box T_l00Src]
noncomputable def spec_l16DrawOne (a0 : T_l00Src.ty) (a1 : List UInt8) : Option (T_Mode.ty × T_l00Src.ty) := spec_l16DrawOne_c.f (a0, a1, ())
theorem spec_l16DrawOne_eq (a0 : T_l00Src.ty) (a1 : List UInt8) : spec_l16DrawOne a0 a1 =
    (spec_l00Src_pick a0 400).bind fun x1 =>
      (spec_l00Src_pick (x1.2.1, x1.2.2.1, x1.2.2.2.1, ()) 30).bind fun x2 =>
        some ((a1, IntKind.i64.wrap (1000 + (IntKind.i64.wrap (10 * x1.1))), IntKind.i64.wrap (5 * (IntKind.i64.wrap (1 + x2.1))), ()), (x2.2.1, x2.2.2.1, x2.2.2.2.1, ())) :=
  (mk_f _ _ _ _ _ _ _ 4000).trans (by kernel_rfl)

/- spec.l16Bent -/
def spec_l16Bent_ir : Fn := { np := 2, io := [true, false], res := [.cell 4 (some 3)], own := [false], body :=
  (.seq (.reg false [⟨some 3, true, .box 3 (.t 1), none, false, []⟩, ⟨some 4, true, .alloc 3 (.agg [.str [], .int .i64 0, .int .i64 0]), none, false, []⟩] [0, 3, 4] [0, 3, 4, 1000]) (.seq (.seq (.reg false [⟨some 5, false, .mv (.t 0), none, false, []⟩, ⟨some 6, true, .call (.c (.fn 463 [])) [.t 5, .c (.int .i64 16)], none, false, []⟩] [0, 3, 4, 6] [0, 3, 4, 1000]) (.block 0 (.seq (.reg false [⟨some 8, false, .bin .eql (.t 6) (.c (.int .i64 0)), none, false, []⟩, ⟨some 7, false, .asg (.t 8), none, false, []⟩] [0, 3, 4, 6, 7] [0, 3, 4, 1000]) (.cond (.t 7) (.reg false [⟨some 9, false, .mv (.t 0), none, false, []⟩, ⟨some 10, false, .bsl 1 (.int .i64 0) 4 [(0, .c (.int .i64 999)), (1, .c (.int .i64 1000)), (2, .c (.int .i64 100000)), (3, .c (.int .i64 100001))], none, false, []⟩, ⟨some 11, true, .call (.c (.fn 445 [])) [.t 9, .t 10], none, false, []⟩, ⟨some 12, false, .fa 1 (.t 3), none, false, []⟩, ⟨none, true, .sto 1 (.t 12) (.t 11), none, false, []⟩] [0, 3, 4] [0, 3, 4, 1000]) (.seq (.reg false [⟨some 14, false, .bin .eql (.t 6) (.c (.int .i64 1)), none, false, []⟩, ⟨some 13, false, .asg (.t 14), none, false, []⟩] [0, 3, 4, 13] [0, 3, 4, 1000]) (.cond (.t 13) (.reg false [⟨some 15, false, .mv (.t 0), none, false, []⟩, ⟨some 16, false, .bsl 1 (.int .i64 0) 4 [(0, .c (.int .i64 0)), (1, .c (.int .i64 1)), (2, .c (.int .i64 500)), (3, .c (.int .i64 501))], none, false, []⟩, ⟨some 17, true, .call (.c (.fn 445 [])) [.t 15, .t 16], none, false, []⟩, ⟨some 18, false, .fa 2 (.t 3), none, false, []⟩, ⟨none, true, .sto 1 (.t 18) (.t 17), none, false, []⟩] [0, 3, 4] [0, 3, 4, 1000]) .skip)))))) (.seq (.reg false [⟨some 19, false, .ld (some 3) (.t 3), none, false, []⟩, ⟨none, true, .sto 3 (.t 4) (.t 19), none, false, []⟩] [0, 4] [0, 4, 1000]) .ret))) }
noncomputable def spec_l16Bent_D : List (Nat × Callee) := [(445, spec_l00Src_among_c), (463, spec_l00Src_pick_c)]
def spec_l16Bent_H : List (Nat × ET) := [(10, (.one (.int .i64))), (16, (.one (.int .i64)))]
noncomputable def spec_l16Bent_c : Callee := mkCallee spec_l16Bent_D spec_l16Bent_H spec_l16Bent_ir [.box T_l00Src, .d T_Mode] [.d T_Mode] [.box T_l00Src]
noncomputable def spec_l16Bent (a0 : T_l00Src.ty) (a1 : T_Mode.ty) : Option (T_Mode.ty × T_l00Src.ty) := spec_l16Bent_c.f (a0, a1, ())
theorem spec_l16Bent_eq (a0 : T_l00Src.ty) (a1 : T_Mode.ty) : spec_l16Bent a0 a1 =
    (spec_l00Src_pick a0 16).bind fun x1 =>
      if (x1.1 == 0) then
        (spec_l00Src_among (x1.2.1, x1.2.2.1, x1.2.2.2.1, ()) [999, 1000, 100000, 100001]).bind fun x2 =>
          some ((a1.1, x2.1, a1.2.2.1, ()), (x2.2.1, x2.2.2.1, x2.2.2.2.1, ()))
      else
        if (x1.1 == 1) then
          (spec_l00Src_among (x1.2.1, x1.2.2.1, x1.2.2.2.1, ()) [0, 1, 500, 501]).bind fun x3 =>
            some ((a1.1, a1.2.1, x3.1, ()), (x3.2.1, x3.2.2.1, x3.2.2.2.1, ()))
        else
          some (a1, (x1.2.1, x1.2.2.1, x1.2.2.2.1, ())) :=
  (mk_f _ _ _ _ _ _ _ 4000).trans (by kernel_rfl)

/- spec.l16DrawStrength -/
def spec_l16DrawStrength_ir : Fn := { np := 1, io := [true], res := [.t 2], own := [false], body :=
  (.seq (.reg false [⟨some 2, false, .asg (.c (.int .i64 0)), none, false, []⟩] [0] [0, 1000]) (.seq (.seq (.reg false [⟨some 3, false, .mv (.t 0), none, false, []⟩, ⟨some 4, true, .call (.c (.fn 642 [])) [.t 3, .c (.int .i64 8)], none, false, []⟩] [0, 4] [0, 1000]) (.cond (.t 4) (.seq (.reg false [⟨some 5, false, .mv (.t 0), none, false, []⟩, ⟨some 6, false, .bsl 1 (.int .i64 0) 4 [(0, .c (.int .i64 (-1))), (1, .c (.int .i64 0)), (2, .c (.int .i64 1000000)), (3, .c (.int .i64 1000001))], none, false, []⟩, ⟨some 7, true, .call (.c (.fn 445 [])) [.t 5, .t 6], none, false, []⟩, ⟨some 2, false, .asg (.t 7), none, false, []⟩] [0, 2] [0, 1000]) .ret) .skip)) (.seq (.reg false [⟨some 8, false, .mv (.t 0), none, false, []⟩, ⟨some 9, true, .call (.c (.fn 463 [])) [.t 8, .c (.int .i64 500)], none, false, []⟩, ⟨some 10, false, .bin .mul (.c (.int .i64 100)) (.t 9), none, false, []⟩, ⟨some 2, false, .asg (.t 10), none, false, []⟩] [0, 2] [0, 1000]) .ret))) }
noncomputable def spec_l16DrawStrength_D : List (Nat × Callee) := [(445, spec_l00Src_among_c), (463, spec_l00Src_pick_c), (642, spec_l00Src_one_c)]
def spec_l16DrawStrength_H : List (Nat × ET) := [(6, (.one (.int .i64)))]
noncomputable def spec_l16DrawStrength_c : Callee := mkCallee spec_l16DrawStrength_D spec_l16DrawStrength_H spec_l16DrawStrength_ir [.box T_l00Src] [.d (.one (.int .i64))] [.box T_l00Src]
noncomputable def spec_l16DrawStrength (a0 : T_l00Src.ty) : Option (Int × T_l00Src.ty) := spec_l16DrawStrength_c.f (a0, ())
theorem spec_l16DrawStrength_eq (a0 : T_l00Src.ty) : spec_l16DrawStrength a0 =
    (spec_l00Src_one a0 8).bind fun x1 =>
      if x1.1 then
        (spec_l00Src_among (x1.2.1, x1.2.2.1, x1.2.2.2.1, ()) [(-1), 0, 1000000, 1000001]).bind fun x2 =>
          some (x2.1, (x2.2.1, x2.2.2.1, x2.2.2.2.1, ()))
      else
        (spec_l00Src_pick (x1.2.1, x1.2.2.1, x1.2.2.2.1, ()) 500).bind fun x3 =>
          some (IntKind.i64.wrap (100 * x3.1), (x3.2.1, x3.2.2.1, x3.2.2.2.1, ())) :=
  (mk_f _ _ _ _ _ _ _ 4000).trans (by kernel_rfl)

/- spec.DrawCyclesTo -/
def spec_DrawCyclesTo_ir : Fn := { np := 1, io := [], res := [.cell 2 (some 3), .t 3, .t 4], own := [false, false, false], body :=
  (.seq (.reg false [⟨some 2, true, .alloc 3 (.agg [.str [], .int .i64 0, .int .i64 0]), none, false, []⟩, ⟨some 3, false, .asg (.c (.int .i64 0)), none, false, []⟩, ⟨some 4, false, .asg (.c (.int .i64 0)), none, false, []⟩] [0, 2] [2]) (.seq (.reg false [⟨some 8, false, .mv (.t 0), none, false, []⟩, ⟨some 9, true, .call (.c (.fn 441 [])) [.t 8], none, false, []⟩, ⟨some 5, false, .asg (.t 9), none, false, []⟩] [2, 5] [2, 9, 10000]) (.seq (.reg false [⟨some 10, false, .mv (.t 5), none, false, []⟩, ⟨some 11, false, .mv (.t 5), none, false, []⟩, ⟨some 12, true, .call (.c (.fn 547 [])) [.t 11, .c (.str [109, 97])], none, false, []⟩, ⟨some 13, true, .call (.c (.fn 548 [])) [.t 10, .t 12], none, false, []⟩, ⟨some 6, true, .alloc 3 (.agg [.str [], .int .i64 0, .int .i64 0]), none, false, []⟩, ⟨none, true, .sto 3 (.t 6) (.t 13), none, false, []⟩] [2, 5, 6] [2, 6, 9, 10000]) (.seq (.reg false [⟨some 14, false, .mv (.t 5), none, false, []⟩, ⟨some 15, true, .call (.c (.fn 546 [])) [.t 14], none, false, []⟩, ⟨some 7, false, .asg (.t 15), none, false, []⟩] [2, 5, 6, 7] [2, 6, 9, 10000]) (.seq (.reg true [⟨some 16, false, .ld (some 3) (.t 6), none, true, []⟩, ⟨some 17, false, .mv (.t 7), none, true, []⟩, ⟨some 18, false, .mv (.t 5), none, false, []⟩, ⟨some 19, false, .bsl 1 (.int .i64 0) 7 [(0, .c (.int .i64 0)), (1, .c (.int .i64 1)), (2, .c (.int .i64 50)), (3, .c (.int .i64 5000)), (4, .c (.int .i64 1000000)), (5, .c (.int .i64 1000001)), (6, .c (.int .i64 (-1)))], none, false, []⟩, ⟨some 20, true, .call (.c (.fn 445 [])) [.t 18, .t 19], none, false, [6, 7]⟩, ⟨none, true, .sto 3 (.t 2) (.t 16), none, false, [7]⟩, ⟨some 3, false, .asg (.t 17), none, false, []⟩, ⟨some 4, false, .asg (.t 20), none, false, []⟩] [2, 3, 4] [2]) .ret))))) }
noncomputable def spec_DrawCyclesTo_D : List (Nat × Callee) := [(441, spec_l00From_c), (445, spec_l00Src_among_c), (546, spec_l16DrawStrength_c), (547, spec_l16DrawOne_c), (548, spec_l16Bent_c)]
def spec_DrawCyclesTo_H : List (Nat × ET) := [(8, (.one (.int .u8))), (19, (.one (.int .i64)))]
noncomputable def spec_DrawCyclesTo_c : Callee := mkCallee spec_DrawCyclesTo_D spec_DrawCyclesTo_H spec_DrawCyclesTo_ir [.d (.one (.sl (.one (.int .u8))))] [.d T_Mode, .d (.one (.int .i64)), .d (.one (.int .i64))] []
noncomputable def spec_DrawCyclesTo (a0 : List Int) : Option (T_Mode.ty × Int × Int) := spec_DrawCyclesTo_c.f (a0, ())
theorem spec_DrawCyclesTo_eq (a0 : List Int) : spec_DrawCyclesTo a0 =
    (spec_l00From a0).bind fun x1 =>
      (spec_l16DrawOne x1 [109, 97]).bind fun x2 =>
        (spec_l16Bent (x2.2.1, x2.2.2.1, x2.2.2.2.1, ()) (x2.1.1, x2.1.2.1, x2.1.2.2.1, ())).bind fun x3 =>
          (spec_l16DrawStrength (x3.2.1, x3.2.2.1, x3.2.2.2.1, ())).bind fun x4 =>
            (spec_l00Src_among (x4.2.1, x4.2.2.1, x4.2.2.2.1, ()) [0, 1, 50, 5000, 1000000, 1000001, (-1)]).bind fun x5 =>
              some ((x3.1.1, x3.1.2.1, x3.1.2.2.1, ()), x4.1, x5.1) :=
  (mk_f _ _ _ _ _ _ _ 4000).trans (by kernel_rfl)

/- impl.isDigit -/
def impl_isDigit_ir : Fn := { np := 1, io := [], res := [.t 2], own := [false], body :=
  (.seq (.reg false [⟨some 2, false, .asg (.c (.bool false)), none, false, []⟩] [0] []) (.seq (.reg false [⟨some 3, false, .mv (.t 0), none, false, []⟩, ⟨some 4, false, .bin .geq (.t 3) (.c (.int .u8 48)), none, false, []⟩, ⟨some 5, false, .mv (.t 4), none, false, []⟩, ⟨some 6, false, .mv (.t 0), some (2, true), false, []⟩, ⟨some 7, false, .bin .leq (.t 6) (.c (.int .u8 57)), some (2, true), false, []⟩, ⟨some 8, false, .pick (.t 5) (.t 7) (.c (.bool false)), none, false, []⟩, ⟨some 2, false, .asg (.t 8), none, false, []⟩] [2] []) .ret)) }
noncomputable def impl_isDigit_D : List (Nat × Callee) := []
def impl_isDigit_H : List (Nat × ET) := []
noncomputable def impl_isDigit_c : Callee := mkCallee impl_isDigit_D impl_isDigit_H impl_isDigit_ir [.d (.one (.int .u8))] [.d (.one .bool)] []
noncomputable def impl_isDigit (a0 : Int) : Option (Bool) := impl_isDigit_c.f (a0, ())
theorem impl_isDigit_eq (a0 : Int) : impl_isDigit a0 =
    if decide (a0 ≥ 48) then
      some (decide (a0 ≤ 57))
    else
      some false :=
  (mk_f _ _ _ _ _ _ _ 4000).trans (by kernel_rfl)

/- impl.few -/
def impl_few_ir : Fn := { np := 2, io := [], res := [.t 4], own := [false], body :=
  (.seq (.reg false [⟨some 4, false, .asg (.c (.bool false)), none, false, []⟩] [0, 1] []) (.seq (.reg false [⟨some 5, false, .mv (.t 0), none, false, []⟩, ⟨some 6, false, .mv (.t 1), none, false, []⟩, ⟨some 7, false, .bin .leq (.t 5) (.t 6), none, false, []⟩, ⟨some 4, false, .asg (.t 7), none, false, []⟩] [4] []) .ret)) }
noncomputable def impl_few_D : List (Nat × Callee) := []
def impl_few_H : List (Nat × ET) := []
noncomputable def impl_few_c : Callee := mkCallee impl_few_D impl_few_H impl_few_ir [.d (.one (.int .i64)), .d (.one (.int .i64))] [.d (.one .bool)] []
noncomputable def impl_few (a0 : Int) (a1 : Int) : Option (Bool) := impl_few_c.f (a0, a1, ())
theorem impl_few_eq (a0 : Int) (a1 : Int) : impl_few a0 a1 =
    some (decide (a0 ≤ a1)) :=
  (mk_f _ _ _ _ _ _ _ 4000).trans (by kernel_rfl)

/- impl.IsName -/
def impl_IsName_k0 : C :=
  .seq (.reg false [⟨some 21, false, .mv (.t 4), none, false, []⟩, ⟨some 22, false, .un .not (.t 21), none, false, []⟩, ⟨some 23, false, .mv (.t 22), none, false, []⟩, ⟨some 24, false, .mv (.t 3), some (2, true), false, []⟩, ⟨some 25, false, .bin .eql (.t 24) (.c (.int .i64 0)), some (2, true), false, []⟩, ⟨some 26, false, .mv (.t 25), some (2, true), false, []⟩, ⟨some 27, false, .mv (.t 0), some (5, false), false, []⟩, ⟨some 28, false, .mv (.t 3), some (5, false), false, []⟩, ⟨some 29, false, .ix (.t 27) (.t 28), some (5, false), false, []⟩, ⟨some 30, false, .call (.c (.fn 22 [])) [.t 29], some (5, false), false, []⟩, ⟨some 31, false, .un .not (.t 30), some (5, false), false, []⟩, ⟨some 32, false, .pick (.t 26) (.c (.bool true)) (.t 31), some (2, true), false, []⟩, ⟨some 33, false, .pick (.t 23) (.t 32) (.c (.bool false)), none, false, []⟩] [0, 3, 33] []) (.cond (.t 33) (.seq (.reg false [⟨some 2, false, .asg (.c (.bool false)), none, false, []⟩] [2] []) .ret) .skip)
def impl_IsName_k1 : C :=
  .reg false [⟨some 9, false, .mv (.t 3), none, false, []⟩, ⟨some 10, false, .bin .add (.t 9) (.c (.int .i64 1)), none, false, []⟩, ⟨some 3, false, .asg (.t 10), none, false, []⟩] [0, 3] []
def impl_IsName_k2 : C :=
  .seq (.seq (.reg false [⟨some 5, false, .mv (.t 3), none, false, []⟩, ⟨some 6, false, .mv (.t 0), none, false, []⟩, ⟨some 7, false, .lens (.t 6), none, false, []⟩, ⟨some 8, false, .bin .lss (.t 5) (.t 7), none, false, []⟩] [0, 3, 8] []) (.cond (.t 8) .skip (.exit 0))) (.seq (.block 1 (.seq (.reg false [⟨some 11, false, .mv (.t 0), none, false, []⟩, ⟨some 12, false, .mv (.t 3), none, false, []⟩, ⟨some 13, false, .ix (.t 11) (.t 12), none, false, []⟩, ⟨some 14, false, .bin .geq (.t 13) (.c (.int .u8 97)), none, false, []⟩, ⟨some 15, false, .mv (.t 14), none, false, []⟩, ⟨some 16, false, .mv (.t 0), some (4, true), false, []⟩, ⟨some 17, false, .mv (.t 3), some (4, true), false, []⟩, ⟨some 18, false, .ix (.t 16) (.t 17), some (4, true), false, []⟩, ⟨some 19, false, .bin .leq (.t 18) (.c (.int .u8 122)), some (4, true), false, []⟩, ⟨some 20, false, .pick (.t 15) (.t 19) (.c (.bool false)), none, false, []⟩, ⟨some 4, false, .asg (.t 20), none, false, []⟩] [0, 3, 4] []) (.norm [0, 3, 4] [] impl_IsName_k0))) impl_IsName_k1)
def impl_IsName_k3 : C :=
  .norm [0, 3] [] impl_IsName_k2
def impl_IsName_k4 : C :=
  .seq (.reg false [⟨some 34, false, .mv (.t 0), none, false, []⟩, ⟨some 35, false, .bin .neq (.t 34) (.c (.str [])), none, false, []⟩, ⟨some 36, false, .mv (.t 35), none, false, []⟩, ⟨some 37, false, .mv (.t 0), some (2, true), false, []⟩, ⟨some 38, false, .lens (.t 37), some (2, true), false, []⟩, ⟨some 39, false, .call (.c (.fn 21 [])) [.t 38, .c (.int .i64 10)], some (2, true), false, []⟩, ⟨some 40, false, .pick (.t 36) (.t 39) (.c (.bool false)), none, false, []⟩, ⟨some 2, false, .asg (.t 40), none, false, []⟩] [2] []) .ret
def impl_IsName_ir : Fn := { np := 1, io := [], res := [.t 2], own := [false], body :=
  (.seq (.reg false [⟨some 2, false, .asg (.c (.bool false)), none, false, []⟩] [0] []) (.seq (.seq (.reg false [⟨some 3, false, .asg (.c (.int .i64 0)), none, false, []⟩] [0, 3] []) (.block 0 (.loop impl_IsName_k3))) impl_IsName_k4)) }
noncomputable def impl_IsName_D : List (Nat × Callee) := [(21, impl_few_c), (22, impl_isDigit_c)]
def impl_IsName_H : List (Nat × ET) := []
noncomputable def impl_IsName_c : Callee := mkCallee impl_IsName_D impl_IsName_H impl_IsName_ir [.d (.one .str)] [.d (.one .bool)] []
noncomputable def impl_IsName (a0 : List UInt8) : Option (Bool) := impl_IsName_c.f (a0, ())
noncomputable def impl_IsName_p0  (v0 : List UInt8) (v3 : Int) : Option (Bool) :=
  goL impl_IsName_D impl_IsName_H (vleave impl_IsName_ir [.d (.one .str)] [.d (.one .bool)] [] []) [.c impl_IsName_k2, .l impl_IsName_k3, .e 0, .c impl_IsName_k4]
    ⟨[(0, .str v0), (3, .int .i64 v3)], []⟩
noncomputable def impl_IsName_p1  (v0 : List UInt8) (v3 : Int) (v4 : Bool) : Option (Bool) :=
  goL impl_IsName_D impl_IsName_H (vleave impl_IsName_ir [.d (.one .str)] [.d (.one .bool)] [] []) [.c impl_IsName_k0, .e 1, .c impl_IsName_k1, .l impl_IsName_k3, .e 0, .c impl_IsName_k4]
    ⟨[(0, .str v0), (3, .int .i64 v3), (4, .bool v4)], []⟩
theorem impl_IsName_eq (a0 : List UInt8) : impl_IsName a0 =
    impl_IsName_p0 a0 0 :=
  (mk_f _ _ _ _ _ _ _ 4000).trans (by kernel_rfl)
theorem impl_IsName_p0_eq  (v0 : List UInt8) (v3 : Int) : impl_IsName_p0 v0 v3 =
    if decide (v3 < (v0.length : Int)) then
      if decide (0 ≤ v3) then
        (v0[v3.toNat]?).bind fun x1 =>
          if decide ((x1.toNat : Int) ≥ 97) then
            if decide (0 ≤ v3) then
              (v0[v3.toNat]?).bind fun x2 =>
                impl_IsName_p1 v0 v3 (decide ((x2.toNat : Int) ≤ 122))
            else
              none
          else
            impl_IsName_p1 v0 v3 false
      else
        none
    else
      if (!(v0 == [])) then
        (impl_few (v0.length : Int) 10).bind fun x3 =>
          some x3
      else
        some false :=
  (goL_dn _ _ _ 4000 _ _).trans (by kernel_rfl)
theorem impl_IsName_p1_eq  (v0 : List UInt8) (v3 : Int) (v4 : Bool) : impl_IsName_p1 v0 v3 v4 =
    if (!v4) then
      if (v3 == 0) then
        some false
      else
        if decide (0 ≤ v3) then
          (v0[v3.toNat]?).bind fun x1 =>
            (impl_isDigit (x1.toNat : Int)).bind fun x2 =>
              if (!x2) then
                some false
              else
                impl_IsName_p0 v0 (IntKind.i64.wrap (v3 + 1))
        else
          none
    else
      impl_IsName_p0 v0 (IntKind.i64.wrap (v3 + 1)) :=
  (goL_dn _ _ _ 4000 _ _).trans (by kernel_rfl)

/- (impl.Mode).valid -/
def impl_Mode_valid_ir : Fn := { np := 1, io := [], res := [.t 2], own := [false], body :=
  (.seq (.reg false [⟨some 1, true, .box 3 (.t 0), none, false, []⟩, ⟨some 2, false, .asg (.c (.bool false)), none, false, []⟩] [1] [1]) (.seq (.reg false [⟨some 3, false, .fa 0 (.t 1), none, false, []⟩, ⟨some 4, false, .ld none (.t 3), none, false, []⟩, ⟨some 5, false, .call (.c (.fn 24 [])) [.t 4], none, false, []⟩, ⟨some 6, false, .mv (.t 5), none, false, []⟩, ⟨some 7, false, .fa 1 (.t 1), some (3, true), false, []⟩, ⟨some 8, false, .ld none (.t 7), some (3, true), false, []⟩, ⟨some 9, false, .call (.c (.fn 545 [])) [.t 8], some (3, true), false, []⟩, ⟨some 10, false, .pick (.t 6) (.t 9) (.c (.bool false)), none, false, []⟩, ⟨some 11, false, .mv (.t 10), none, false, []⟩, ⟨some 12, false, .fa 2 (.t 1), some (8, true), false, []⟩, ⟨some 13, false, .ld none (.t 12), some (8, true), false, []⟩, ⟨some 14, false, .call (.c (.fn 23 [])) [.t 13, .c (.int .i64 1), .c (.int .i64 500)], some (8, true), false, []⟩, ⟨some 15, false, .pick (.t 11) (.t 14) (.c (.bool false)), none, false, []⟩, ⟨some 2, false, .asg (.t 15), none, false, []⟩] [2] []) .ret)) }
noncomputable def impl_Mode_valid_D : List (Nat × Callee) := [(23, impl_within_c), (24, impl_IsName_c), (545, impl_isTone_c)]
def impl_Mode_valid_H : List (Nat × ET) := []
noncomputable def impl_Mode_valid_c : Callee := mkCallee impl_Mode_valid_D impl_Mode_valid_H impl_Mode_valid_ir [.d T_Mode] [.d (.one .bool)] []
noncomputable def impl_Mode_valid (a0 : T_Mode.ty) : Option (Bool) := impl_Mode_valid_c.f (a0, ())
theorem impl_Mode_valid_eq (a0 : T_Mode.ty) : impl_Mode_valid a0 =
    (impl_IsName a0.1).bind fun x1 =>
      if x1 then
        (impl_isTone a0.2.1).bind fun x2 =>
          if x2 then
            (impl_within a0.2.2.1 1 500).bind fun x3 =>
              some x3
          else
            some false
      else
        some false :=
  (mk_f _ _ _ _ _ _ _ 4000).trans (by kernel_rfl)

/- impl.isStrength -/
def impl_isStrength_ir : Fn := { np := 1, io := [], res := [.t 2], own := [false], body :=
  (.seq (.reg false [⟨some 2, false, .asg (.c (.bool false)), none, false, []⟩] [0] []) (.seq (.reg false [⟨some 3, false, .mv (.t 0), none, false, []⟩, ⟨some 4, false, .call (.c (.fn 23 [])) [.t 3, .c (.int .i64 0), .c (.int .i64 1000000)], none, false, []⟩, ⟨some 2, false, .asg (.t 4), none, false, []⟩] [2] []) .ret)) }
noncomputable def impl_isStrength_D : List (Nat × Callee) := [(23, impl_within_c)]
def impl_isStrength_H : List (Nat × ET) := []
noncomputable def impl_isStrength_c : Callee := mkCallee impl_isStrength_D impl_isStrength_H impl_isStrength_ir [.d (.one (.int .i64))] [.d (.one .bool)] []
noncomputable def impl_isStrength (a0 : Int) : Option (Bool) := impl_isStrength_c.f (a0, ())
theorem impl_isStrength_eq (a0 : Int) : impl_isStrength a0 =
    (impl_within a0 0 1000000).bind fun x1 =>
      some x1 :=
  (mk_f _ _ _ _ _ _ _ 4000).trans (by kernel_rfl)

/- impl.divRound -/
def impl_divRound_ir : Fn := { np := 2, io := [], res := [.t 4], own := [false], body :=
  (.seq (.reg false [⟨some 4, false, .asg (.c (.int .i64 0)), none, false, []⟩] [0, 1] []) (.seq (.reg false [⟨some 8, false, .mv (.t 0), none, false, []⟩, ⟨some 9, false, .bin .lss (.t 8) (.c (.int .i64 0)), none, false, []⟩, ⟨some 10, false, .mv (.t 1), none, false, []⟩, ⟨some 11, false, .bin .lss (.t 10) (.c (.int .i64 0)), none, false, []⟩, ⟨some 12, false, .eqb true (.t 9) (.t 11), none, false, []⟩, ⟨some 5, false, .asg (.t 12), none, false, []⟩] [0, 1, 5] []) (.seq (.reg false [⟨some 13, false, .mv (.t 0), none, false, []⟩, ⟨some 14, false, .mv (.t 0), none, false, []⟩, ⟨some 15, false, .un .neg (.t 14), none, false, []⟩, ⟨some 16, false, .max [.t 13, .t 15], none, false, []⟩, ⟨some 17, false, .mv (.t 1), none, false, []⟩, ⟨some 18, false, .mv (.t 1), none, false, []⟩, ⟨some 19, false, .un .neg (.t 18), none, false, []⟩, ⟨some 20, false, .max [.t 17, .t 19], none, false, []⟩, ⟨some 0, false, .asg (.t 16), none, false, []⟩, ⟨some 1, false, .asg (.t 20), none, false, []⟩] [0, 1, 5] []) (.seq (.reg false [⟨some 21, false, .mv (.t 0), none, false, []⟩, ⟨some 22, false, .mv (.t 1), none, false, []⟩, ⟨some 23, false, .bin .quo (.t 21) (.t 22), none, false, []⟩, ⟨some 6, false, .asg (.t 23), none, false, []⟩] [0, 1, 5, 6] []) (.seq (.seq (.reg false [⟨some 24, false, .mv (.t 0), none, false, []⟩, ⟨some 25, false, .mv (.t 1), none, false, []⟩, ⟨some 26, false, .bin .rem (.t 24) (.t 25), none, false, []⟩, ⟨some 7, false, .asg (.t 26), none, false, []⟩] [1, 5, 6, 7] []) (.seq (.reg false [⟨some 27, false, .mv (.t 7), none, false, []⟩, ⟨some 28, false, .mv (.t 1), none, false, []⟩, ⟨some 29, false, .mv (.t 7), none, false, []⟩, ⟨some 30, false, .bin .sub (.t 28) (.t 29), none, false, []⟩, ⟨some 31, false, .bin .geq (.t 27) (.t 30), none, false, []⟩] [5, 6, 31] []) (.cond (.t 31) (.reg false [⟨some 32, false, .mv (.t 6), none, false, []⟩, ⟨some 33, false, .bin .add (.t 32) (.c (.int .i64 1)), none, false, []⟩, ⟨some 6, false, .asg (.t 33), none, false, []⟩] [5, 6] []) .skip))) (.seq (.seq (.reg false [⟨some 34, false, .mv (.t 5), none, false, []⟩] [6, 34] []) (.cond (.t 34) (.seq (.reg false [⟨some 35, false, .mv (.t 6), none, false, []⟩, ⟨some 36, false, .un .neg (.t 35), none, false, []⟩, ⟨some 4, false, .asg (.t 36), none, false, []⟩] [4] []) .ret) .skip)) (.seq (.reg false [⟨some 37, false, .mv (.t 6), none, false, []⟩, ⟨some 4, false, .asg (.t 37), none, false, []⟩] [4] []) .ret))))))) }
noncomputable def impl_divRound_D : List (Nat × Callee) := []
def impl_divRound_H : List (Nat × ET) := []
noncomputable def impl_divRound_c : Callee := mkCallee impl_divRound_D impl_divRound_H impl_divRound_ir [.d (.one (.int .i64)), .d (.one (.int .i64))] [.d (.one (.int .i64))] []
noncomputable def impl_divRound (a0 : Int) (a1 : Int) : Option (Int) := impl_divRound_c.f (a0, a1, ())
theorem impl_divRound_eq (a0 : Int) (a1 : Int) : impl_divRound a0 a1 =
    if decide ((if IntKind.i64.wrap (0 - a1) > a1 then IntKind.i64.wrap (0 - a1) else a1) = 0) then
      none
    else
      if decide ((if IntKind.i64.wrap (0 - a1) > a1 then IntKind.i64.wrap (0 - a1) else a1) = 0) then
        none
      else
        if decide ((if IntKind.i64.wrap (0 - a0) > a0 then IntKind.i64.wrap (0 - a0) else a0).tmod (if IntKind.i64.wrap (0 - a1) > a1 then IntKind.i64.wrap (0 - a1) else a1) ≥ IntKind.i64.wrap ((if IntKind.i64.wrap (0 - a1) > a1 then IntKind.i64.wrap (0 - a1) else a1) - ((if IntKind.i64.wrap (0 - a0) > a0 then IntKind.i64.wrap (0 - a0) else a0).tmod (if IntKind.i64.wrap (0 - a1) > a1 then IntKind.i64.wrap (0 - a1) else a1)))) then
          if (!(decide (a0 < 0) == decide (a1 < 0))) then
            some (IntKind.i64.wrap (0 - (IntKind.i64.wrap ((IntKind.i64.wrap ((if IntKind.i64.wrap (0 - a0) > a0 then IntKind.i64.wrap (0 - a0) else a0).tdiv (if IntKind.i64.wrap (0 - a1) > a1 then IntKind.i64.wrap (0 - a1) else a1))) + 1))))
          else
            some (IntKind.i64.wrap ((IntKind.i64.wrap ((if IntKind.i64.wrap (0 - a0) > a0 then IntKind.i64.wrap (0 - a0) else a0).tdiv (if IntKind.i64.wrap (0 - a1) > a1 then IntKind.i64.wrap (0 - a1) else a1))) + 1))
        else
          if (!(decide (a0 < 0) == decide (a1 < 0))) then
            some (IntKind.i64.wrap (0 - (IntKind.i64.wrap ((if IntKind.i64.wrap (0 - a0) > a0 then IntKind.i64.wrap (0 - a0) else a0).tdiv (if IntKind.i64.wrap (0 - a1) > a1 then IntKind.i64.wrap (0 - a1) else a1)))))
          else
            some (IntKind.i64.wrap ((if IntKind.i64.wrap (0 - a0) > a0 then IntKind.i64.wrap (0 - a0) else a0).tdiv (if IntKind.i64.wrap (0 - a1) > a1 then IntKind.i64.wrap (0 - a1) else a1))) :=
  (mk_f _ _ _ _ _ _ _ 4000).trans (by kernel_rfl)

/- (impl.Mode).fall -/
def impl_Mode_fall_ir : Fn := { np := 2, io := [], res := [.t 4], own := [false], body :=
  (.seq (.reg false [⟨some 2, true, .box 3 (.t 0), none, false, []⟩, ⟨some 4, false, .asg (.c (.int .i64 0)), none, false, []⟩] [1, 2] [2]) (.seq (.reg false [⟨some 5, false, .mv (.t 1), none, false, []⟩, ⟨some 6, false, .mv (.t 1), none, false, []⟩, ⟨some 7, false, .fa 2 (.t 2), none, false, []⟩, ⟨some 8, false, .ld none (.t 7), none, false, []⟩, ⟨some 9, false, .bin .mul (.t 6) (.t 8), none, false, []⟩, ⟨some 10, false, .call (.c (.fn 27 [])) [.t 9, .c (.int .i64 1000)], none, false, []⟩, ⟨some 11, false, .bin .sub (.t 5) (.t 10), none, false, []⟩, ⟨some 4, false, .asg (.t 11), none, false, []⟩] [4] []) .ret)) }
noncomputable def impl_Mode_fall_D : List (Nat × Callee) := [(27, impl_divRound_c)]
def impl_Mode_fall_H : List (Nat × ET) := []
noncomputable def impl_Mode_fall_c : Callee := mkCallee impl_Mode_fall_D impl_Mode_fall_H impl_Mode_fall_ir [.d T_Mode, .d (.one (.int .i64))] [.d (.one (.int .i64))] []
noncomputable def impl_Mode_fall (a0 : T_Mode.ty) (a1 : Int) : Option (Int) := impl_Mode_fall_c.f (a0, a1, ())
theorem impl_Mode_fall_eq (a0 : T_Mode.ty) (a1 : Int) : impl_Mode_fall a0 a1 =
    (impl_divRound (IntKind.i64.wrap (a1 * a0.2.2.1)) 1000).bind fun x1 =>
      some (IntKind.i64.wrap (a1 - x1)) :=
  (mk_f _ _ _ _ _ _ _ 4000).trans (by kernel_rfl)

/- impl.CyclesTo -/
def impl_CyclesTo_k0 : C :=
  .seq (.seq (.reg false [⟨some 20, false, .mv (.t 8), none, false, []⟩, ⟨some 21, false, .bin .leq (.t 20) (.c (.int .i64 1000)), none, false, []⟩] [1, 2, 3, 8, 21] [3]) (.cond (.t 21) .skip (.exit 0))) (.seq (.block 1 (.seq (.seq (.reg false [⟨some 24, false, .mv (.t 1), none, false, []⟩, ⟨some 25, false, .mv (.t 2), none, false, []⟩, ⟨some 26, false, .bin .leq (.t 24) (.t 25), none, false, []⟩] [1, 2, 3, 8, 26] [3]) (.cond (.t 26) (.seq (.reg false [⟨some 27, false, .mv (.t 8), none, false, []⟩, ⟨some 6, false, .asg (.t 27), none, false, []⟩, ⟨some 7, false, .asg (.c (.int .i64 0)), none, false, []⟩] [6, 7] []) .ret) .skip)) (.reg false [⟨some 28, false, .ld (some 3) (.t 3), none, false, []⟩, ⟨some 29, false, .mv (.t 1), none, false, []⟩, ⟨some 30, false, .call (.c (.fn 549 [])) [.t 28, .t 29], none, false, []⟩, ⟨some 1, false, .asg (.t 30), none, false, []⟩] [1, 2, 3, 8] [3]))) (.reg false [⟨some 22, false, .mv (.t 8), none, false, []⟩, ⟨some 23, false, .bin .add (.t 22) (.c (.int .i64 1)), none, false, []⟩, ⟨some 8, false, .asg (.t 23), none, false, []⟩] [1, 2, 3, 8] [3]))
def impl_CyclesTo_k1 : C :=
  .norm [1, 2, 3, 8] [3] impl_CyclesTo_k0
def impl_CyclesTo_k2 : C :=
  .seq (.reg false [⟨some 6, false, .asg (.c (.int .i64 0)), none, false, []⟩, ⟨some 7, false, .asg (.c (.int .i64 3)), none, false, []⟩] [6, 7] []) .ret
def impl_CyclesTo_k3 : C :=
  .seq (.seq (.reg false [⟨some 8, false, .asg (.c (.int .i64 0)), none, false, []⟩] [1, 2, 3, 8] [3]) (.block 0 (.loop impl_CyclesTo_k1))) impl_CyclesTo_k2
def impl_CyclesTo_ir : Fn := { np := 3, io := [], res := [.t 6, .t 7], own := [false, false], body :=
  (.seq (.reg false [⟨some 3, true, .box 3 (.t 0), none, false, []⟩, ⟨some 6, false, .asg (.c (.int .i64 0)), none, false, []⟩, ⟨some 7, false, .asg (.c (.int .i64 0)), none, false, []⟩] [1, 2, 3] [3]) (.seq (.seq (.reg false [⟨some 9, false, .ld (some 3) (.t 3), none, false, []⟩, ⟨some 10, false, .call (.c (.fn 551 [])) [.t 9], none, false, []⟩, ⟨some 11, false, .un .not (.t 10), none, false, []⟩] [1, 2, 3, 11] [3]) (.cond (.t 11) (.seq (.reg false [⟨some 6, false, .asg (.c (.int .i64 0)), none, false, []⟩, ⟨some 7, false, .asg (.c (.int .i64 1)), none, false, []⟩] [6, 7] []) .ret) .skip)) (.seq (.seq (.reg false [⟨some 12, false, .mv (.t 1), none, false, []⟩, ⟨some 13, false, .call (.c (.fn 550 [])) [.t 12], none, false, []⟩, ⟨some 14, false, .un .not (.t 13), none, false, []⟩, ⟨some 15, false, .mv (.t 14), none, false, []⟩, ⟨some 16, false, .mv (.t 2), some (3, false), false, []⟩, ⟨some 17, false, .call (.c (.fn 550 [])) [.t 16], some (3, false), false, []⟩, ⟨some 18, false, .un .not (.t 17), some (3, false), false, []⟩, ⟨some 19, false, .pick (.t 15) (.c (.bool true)) (.t 18), none, false, []⟩] [1, 2, 3, 19] [3]) (.cond (.t 19) (.seq (.reg false [⟨some 6, false, .asg (.c (.int .i64 0)), none, false, []⟩, ⟨some 7, false, .asg (.c (.int .i64 2)), none, false, []⟩] [6, 7] []) .ret) .skip)) (.norm [1, 2, 3] [3] impl_CyclesTo_k3)))) }
noncomputable def impl_CyclesTo_D : List (Nat × Callee) := [(549, impl_Mode_fall_c), (550, impl_isStrength_c), (551, impl_Mode_valid_c)]
def impl_CyclesTo_H : List (Nat × ET) := []
noncomputable def impl_CyclesTo_c : Callee := mkCallee impl_CyclesTo_D impl_CyclesTo_H impl_CyclesTo_ir [.d T_Mode, .d (.one (.int .i64)), .d (.one (.int .i64))] [.d (.one (.int .i64)), .d (.one (.int .i64))] []
noncomputable def impl_CyclesTo (a0 : T_Mode.ty) (a1 : Int) (a2 : Int) : Option (Int × Int) := impl_CyclesTo_c.f (a0, a1, a2, ())
noncomputable def impl_CyclesTo_p0  (v1 : Int) (v2 : Int) (r3_0 : List UInt8) (r3_1 : Int) (r3_2 : Int) : Option (Int × Int) :=
  goL impl_CyclesTo_D impl_CyclesTo_H (vleave impl_CyclesTo_ir [.d T_Mode, .d (.one (.int .i64)), .d (.one (.int .i64))] [.d (.one (.int .i64)), .d (.one (.int .i64))] [] []) [.c impl_CyclesTo_k3]
    ⟨[(1, .int .i64 v1), (2, .int .i64 v2), (3, .loc 3 0 0)], [(3, some (.var 3 (.agg [.str r3_0, .int .i64 r3_1, .int .i64 r3_2])))]⟩
noncomputable def impl_CyclesTo_p1  (v1 : Int) (v2 : Int) (v8 : Int) (r3_0 : List UInt8) (r3_1 : Int) (r3_2 : Int) : Option (Int × Int) :=
  goL impl_CyclesTo_D impl_CyclesTo_H (vleave impl_CyclesTo_ir [.d T_Mode, .d (.one (.int .i64)), .d (.one (.int .i64))] [.d (.one (.int .i64)), .d (.one (.int .i64))] [] []) [.c impl_CyclesTo_k0, .l impl_CyclesTo_k1, .e 0, .c impl_CyclesTo_k2]
    ⟨[(1, .int .i64 v1), (2, .int .i64 v2), (3, .loc 3 0 0), (8, .int .i64 v8)], [(3, some (.var 3 (.agg [.str r3_0, .int .i64 r3_1, .int .i64 r3_2])))]⟩
theorem impl_CyclesTo_eq (a0 : T_Mode.ty) (a1 : Int) (a2 : Int) : impl_CyclesTo a0 a1 a2 =
    (impl_Mode_valid a0).bind fun x1 =>
      if (!x1) then
        some (0, 1)
      else
        (impl_isStrength a1).bind fun x2 =>
          if (!x2) then
            some (0, 2)
          else
            (impl_isStrength a2).bind fun x3 =>
              if (!x3) then
                some (0, 2)
              else
                impl_CyclesTo_p0 a1 a2 a0.1 a0.2.1 a0.2.2.1 :=
  (mk_f _ _ _ _ _ _ _ 4000).trans (by kernel_rfl)
theorem impl_CyclesTo_p0_eq  (v1 : Int) (v2 : Int) (r3_0 : List UInt8) (r3_1 : Int) (r3_2 : Int) : impl_CyclesTo_p0 v1 v2 r3_0 r3_1 r3_2 =
    impl_CyclesTo_p1 v1 v2 0 r3_0 r3_1 r3_2 :=
  (goL_dn _ _ _ 4000 _ _).trans (by kernel_rfl)
theorem impl_CyclesTo_p1_eq  (v1 : Int) (v2 : Int) (v8 : Int) (r3_0 : List UInt8) (r3_1 : Int) (r3_2 : Int) : impl_CyclesTo_p1 v1 v2 v8 r3_0 r3_1 r3_2 =
    if decide (v8 ≤ 1000) then
      if decide (v1 ≤ v2) then
        some (v8, 0)
      else
        (impl_Mode_fall (r3_0, r3_1, r3_2, ()) v1).bind fun x1 =>
          impl_CyclesTo_p1 x1 v2 (IntKind.i64.wrap (v8 + 1)) r3_0 r3_1 r3_2
    else
      some (0, 3) :=
  (goL_dn _ _ _ 4000 _ _).trans (by kernel_rfl)

/- impl.RingAfter -/
def impl_RingAfter_k0 : C :=
  .seq (.reg false [⟨some 21, false, .bin .lss (.t 20) (.t 19), none, false, []⟩] [1, 3, 19, 20, 21] [3]) (.seq (.cond (.t 21) .skip (.exit 0)) (.seq (.block 1 (.reg false [⟨some 22, false, .ld (some 3) (.t 3), none, false, []⟩, ⟨some 23, false, .mv (.t 1), none, false, []⟩, ⟨some 24, false, .call (.c (.fn 549 [])) [.t 22, .t 23], none, false, []⟩, ⟨some 1, false, .asg (.t 24), none, false, []⟩] [1, 3, 19, 20] [3])) (.reg false [⟨some 25, false, .bin .add (.t 20) (.c (.int .i64 1)), none, false, []⟩, ⟨some 20, false, .mv (.t 25), none, false, []⟩] [1, 3, 19, 20] [3])))
def impl_RingAfter_k1 : C :=
  .norm [1, 3, 19, 20] [3] impl_RingAfter_k0
def impl_RingAfter_k2 : C :=
  .seq (.reg false [⟨some 26, false, .mv (.t 1), none, false, []⟩, ⟨some 6, false, .asg (.t 26), none, false, []⟩, ⟨some 7, false, .asg (.c (.int .i64 0)), none, false, []⟩] [6, 7] []) .ret
def impl_RingAfter_k3 : C :=
  .seq (.seq (.reg false [⟨some 19, false, .mv (.t 2), none, false, []⟩, ⟨some 20, false, .mv (.c (.int .i64 0)), none, false, []⟩] [1, 3, 19, 20] [3]) (.block 0 (.loop impl_RingAfter_k1))) impl_RingAfter_k2
def impl_RingAfter_ir : Fn := { np := 3, io := [], res := [.t 6, .t 7], own := [false, false], body :=
  (.seq (.reg false [⟨some 3, true, .box 3 (.t 0), none, false, []⟩, ⟨some 6, false, .asg (.c (.int .i64 0)), none, false, []⟩, ⟨some 7, false, .asg (.c (.int .i64 0)), none, false, []⟩] [1, 2, 3] [3]) (.seq (.seq (.reg false [⟨some 8, false, .ld (some 3) (.t 3), none, false, []⟩, ⟨some 9, false, .call (.c (.fn 551 [])) [.t 8], none, false, []⟩, ⟨some 10, false, .un .not (.t 9), none, false, []⟩] [1, 2, 3, 10] [3]) (.cond (.t 10) (.seq (.reg false [⟨some 6, false, .asg (.c (.int .i64 0)), none, false, []⟩, ⟨some 7, false, .asg (.c (.int .i64 1)), none, false, []⟩] [6, 7] []) .ret) .skip)) (.seq (.seq (.reg false [⟨some 11, false, .mv (.t 1), none, false, []⟩, ⟨some 12, false, .call (.c (.fn 550 [])) [.t 11], none, false, []⟩, ⟨some 13, false, .un .not (.t 12), none, false, []⟩, ⟨some 14, false, .mv (.t 13), none, false, []⟩, ⟨some 15, false, .mv (.t 2), some (3, false), false, []⟩, ⟨some 16, false, .call (.c (.fn 23 [])) [.t 15, .c (.int .i64 0), .c (.int .i64 1000)], some (3, false), false, []⟩, ⟨some 17, false, .un .not (.t 16), some (3, false), false, []⟩, ⟨some 18, false, .pick (.t 14) (.c (.bool true)) (.t 17), none, false, []⟩] [1, 2, 3, 18] [3]) (.cond (.t 18) (.seq (.reg false [⟨some 6, false, .asg (.c (.int .i64 0)), none, false, []⟩, ⟨some 7, false, .asg (.c (.int .i64 2)), none, false, []⟩] [6, 7] []) .ret) .skip)) (.norm [1, 2, 3] [3] impl_RingAfter_k3)))) }
noncomputable def impl_RingAfter_D : List (Nat × Callee) := [(23, impl_within_c), (549, impl_Mode_fall_c), (550, impl_isStrength_c), (551, impl_Mode_valid_c)]
def impl_RingAfter_H : List (Nat × ET) := []
noncomputable def impl_RingAfter_c : Callee := mkCallee impl_RingAfter_D impl_RingAfter_H impl_RingAfter_ir [.d T_Mode, .d (.one (.int .i64)), .d (.one (.int .i64))] [.d (.one (.int .i64)), .d (.one (.int .i64))] []
noncomputable def impl_RingAfter (a0 : T_Mode.ty) (a1 : Int) (a2 : Int) : Option (Int × Int) := impl_RingAfter_c.f (a0, a1, a2, ())
noncomputable def impl_RingAfter_p0  (v1 : Int) (v2 : Int) (r3_0 : List UInt8) (r3_1 : Int) (r3_2 : Int) : Option (Int × Int) :=
  goL impl_RingAfter_D impl_RingAfter_H (vleave impl_RingAfter_ir [.d T_Mode, .d (.one (.int .i64)), .d (.one (.int .i64))] [.d (.one (.int .i64)), .d (.one (.int .i64))] [] []) [.c impl_RingAfter_k3]
    ⟨[(1, .int .i64 v1), (2, .int .i64 v2), (3, .loc 3 0 0)], [(3, some (.var 3 (.agg [.str r3_0, .int .i64 r3_1, .int .i64 r3_2])))]⟩
noncomputable def impl_RingAfter_p1  (v1 : Int) (v19 : Int) (v20 : Int) (r3_0 : List UInt8) (r3_1 : Int) (r3_2 : Int) : Option (Int × Int) :=
  goL impl_RingAfter_D impl_RingAfter_H (vleave impl_RingAfter_ir [.d T_Mode, .d (.one (.int .i64)), .d (.one (.int .i64))] [.d (.one (.int .i64)), .d (.one (.int .i64))] [] []) [.c impl_RingAfter_k0, .l impl_RingAfter_k1, .e 0, .c impl_RingAfter_k2]
    ⟨[(1, .int .i64 v1), (3, .loc 3 0 0), (19, .int .i64 v19), (20, .int .i64 v20)], [(3, some (.var 3 (.agg [.str r3_0, .int .i64 r3_1, .int .i64 r3_2])))]⟩
theorem impl_RingAfter_eq (a0 : T_Mode.ty) (a1 : Int) (a2 : Int) : impl_RingAfter a0 a1 a2 =
    (impl_Mode_valid a0).bind fun x1 =>
      if (!x1) then
        some (0, 1)
      else
        (impl_isStrength a1).bind fun x2 =>
          if (!x2) then
            some (0, 2)
          else
            (impl_within a2 0 1000).bind fun x3 =>
              if (!x3) then
                some (0, 2)
              else
                impl_RingAfter_p0 a1 a2 a0.1 a0.2.1 a0.2.2.1 :=
  (mk_f _ _ _ _ _ _ _ 4000).trans (by kernel_rfl)
theorem impl_RingAfter_p0_eq  (v1 : Int) (v2 : Int) (r3_0 : List UInt8) (r3_1 : Int) (r3_2 : Int) : impl_RingAfter_p0 v1 v2 r3_0 r3_1 r3_2 =
    impl_RingAfter_p1 v1 v2 0 r3_0 r3_1 r3_2 :=
  (goL_dn _ _ _ 4000 _ _).trans (by kernel_rfl)
theorem impl_RingAfter_p1_eq  (v1 : Int) (v19 : Int) (v20 : Int) (r3_0 : List UInt8) (r3_1 : Int) (r3_2 : Int) : impl_RingAfter_p1 v1 v19 v20 r3_0 r3_1 r3_2 =
    if decide (v20 < v19) then
      (impl_Mode_fall (r3_0, r3_1, r3_2, ()) v1).bind fun x1 =>
        impl_RingAfter_p1 x1 v19 (IntKind.i64.wrap (v20 + 1)) r3_0 r3_1 r3_2
    else
      some (v1, 0) :=
  (goL_dn _ _ _ 4000 _ _).trans (by kernel_rfl)

/- laws.FnTones -/
def laws_FnTones_k0 : C :=
  .seq (.seq (.reg false [⟨some 88, false, .mv (.t 15), none, false, []⟩, ⟨some 89, false, .bin .leq (.t 88) (.c (.int .i64 60)), none, false, []⟩] [1, 5, 6, 7, 9, 15, 89] []) (.cond (.t 89) .skip (.exit 0))) (.seq (.block 1 (.seq (.reg false [⟨some 93, false, .mv (.t 15), none, false, []⟩, ⟨some 94, false, .call (.c (.fn 101 [])) [.t 93], none, false, []⟩, ⟨some 92, false, .mv (.t 94), none, false, []⟩, ⟨some 95, false, .ext (.t 92) 0, none, false, []⟩, ⟨some 96, false, .ext (.t 92) 1, none, false, []⟩, ⟨some 16, false, .asg (.t 95), none, false, []⟩, ⟨some 17, false, .asg (.t 96), none, false, []⟩] [1, 5, 6, 7, 9, 15, 16, 17] []) (.seq (.reg false [⟨some 97, false, .mv (.t 17), none, false, []⟩, ⟨some 98, false, .bin .neq (.t 97) (.c (.int .i64 0)), none, false, []⟩, ⟨some 99, false, .mv (.t 98), none, false, []⟩, ⟨some 100, false, .mv (.t 16), some (2, false), false, []⟩, ⟨some 101, false, .mv (.t 5), some (2, false), false, []⟩, ⟨some 102, false, .bin .sub (.t 100) (.t 101), some (2, false), false, []⟩, ⟨some 103, false, .call (.c (.fn 66 [])) [.t 102], some (2, false), false, []⟩, ⟨some 104, false, .mv (.t 7), some (2, false), false, []⟩, ⟨some 105, false, .call (.c (.fn 66 [])) [.t 104], some (2, false), false, []⟩, ⟨some 106, false, .bin .lss (.t 103) (.t 105), some (2, false), false, []⟩, ⟨some 107, false, .pick (.t 99) (.c (.bool true)) (.t 106), none, false, []⟩] [1, 5, 6, 7, 9, 15, 107] []) (.cond (.t 107) (.seq (.reg false [⟨some 4, false, .asg (.c (.bool false)), none, false, []⟩] [4] []) .ret) .skip)))) (.reg false [⟨some 90, false, .mv (.t 15), none, false, []⟩, ⟨some 91, false, .bin .add (.t 90) (.c (.int .i64 1)), none, false, []⟩, ⟨some 15, false, .asg (.t 91), none, false, []⟩] [1, 5, 6, 7, 9, 15] []))
def laws_FnTones_k1 : C :=
  .norm [1, 5, 6, 7, 9, 15] [] laws_FnTones_k0
def laws_FnTones_k2 : C :=
  .seq (.reg false [⟨some 109, false, .mv (.t 6), none, false, []⟩, ⟨some 110, false, .bin .add (.t 109) (.c (.int .i64 12)), none, false, []⟩, ⟨some 111, false, .call (.c (.fn 168 [])) [.t 110], none, false, []⟩, ⟨some 108, false, .mv (.t 111), none, false, []⟩, ⟨some 112, false, .ext (.t 108) 0, none, false, []⟩, ⟨some 113, false, .ext (.t 108) 1, none, false, []⟩, ⟨some 18, false, .asg (.t 112), none, false, []⟩, ⟨some 19, false, .asg (.t 113), none, false, []⟩] [1, 9, 18, 19] []) (.seq (.reg false [⟨some 114, false, .mv (.t 19), none, false, []⟩, ⟨some 115, false, .bin .eql (.t 114) (.c (.int .i64 0)), none, false, []⟩, ⟨some 116, false, .mv (.t 115), none, false, []⟩, ⟨some 117, false, .mv (.t 18), some (2, true), false, []⟩, ⟨some 118, false, .mv (.t 9), some (2, true), false, []⟩, ⟨some 119, false, .bin .mul (.c (.int .i64 2)) (.t 118), some (2, true), false, []⟩, ⟨some 120, false, .bin .neq (.t 117) (.t 119), some (2, true), false, []⟩, ⟨some 121, false, .pick (.t 116) (.t 120) (.c (.bool false)), none, false, []⟩] [1, 121] []) (.cond (.t 121) (.seq (.reg false [⟨some 4, false, .asg (.c (.bool false)), none, false, []⟩] [4] []) .ret) .skip))
def laws_FnTones_k3 : C :=
  .seq (.seq (.reg false [⟨some 15, false, .asg (.c (.int .i64 0)), none, false, []⟩] [1, 5, 6, 7, 9, 15] []) (.block 0 (.loop laws_FnTones_k1))) laws_FnTones_k2
def laws_FnTones_k4 : C :=
  .seq (.reg false [⟨some 129, false, .mv (.t 1), none, false, []⟩, ⟨some 130, false, .call (.c (.fn 167 [])) [.t 129], none, false, []⟩, ⟨some 128, false, .mv (.t 130), none, false, []⟩, ⟨some 131, false, .ext (.t 128) 0, none, false, []⟩, ⟨some 132, false, .ext (.t 128) 1, none, false, []⟩, ⟨some 133, false, .ext (.t 128) 2, none, false, []⟩, ⟨some 20, true, .alloc 3 (.agg [.str [], .int .i64 0, .int .i64 0]), none, false, []⟩, ⟨none, true, .sto 3 (.t 20) (.t 131), none, false, []⟩, ⟨some 21, false, .asg (.t 132), none, false, []⟩, ⟨some 22, false, .asg (.t 133), none, false, []⟩] [20, 21, 22] [20]) (.seq (.reg false [⟨some 135, false, .ld (some 3) (.t 20), none, false, []⟩, ⟨some 136, false, .mv (.t 21), none, false, []⟩, ⟨some 137, false, .mv (.t 22), none, false, []⟩, ⟨some 138, false, .call (.c (.fn 166 [])) [.t 135, .t 136, .t 137], none, false, []⟩, ⟨some 134, false, .mv (.t 138), none, false, []⟩, ⟨some 139, false, .ext (.t 134) 0, none, false, []⟩, ⟨some 140, false, .ext (.t 134) 1, none, false, []⟩, ⟨some 23, false, .asg (.t 139), none, false, []⟩, ⟨some 24, false, .asg (.t 140), none, false, []⟩] [20, 21, 22, 23, 24] [20]) (.seq (.seq (.reg false [⟨some 141, false, .mv (.t 24), none, false, []⟩, ⟨some 142, false, .bin .neq (.t 141) (.c (.int .i64 0)), none, false, []⟩] [20, 21, 22, 23, 142] [20]) (.cond (.t 142) (.seq (.reg false [⟨some 143, false, .mv (.t 23), none, false, []⟩, ⟨some 144, false, .bin .eql (.t 143) (.c (.int .i64 0)), none, false, []⟩, ⟨some 4, false, .asg (.t 144), none, false, []⟩] [4] []) .ret) .skip)) (.seq (.reg false [⟨some 146, false, .ld (some 3) (.t 20), none, false, []⟩, ⟨some 147, false, .mv (.t 21), none, false, []⟩, ⟨some 148, false, .mv (.t 23), none, false, []⟩, ⟨some 149, false, .call (.c (.fn 165 [])) [.t 146, .t 147, .t 148], none, false, []⟩, ⟨some 145, false, .mv (.t 149), none, false, []⟩, ⟨some 150, false, .ext (.t 145) 0, none, false, []⟩, ⟨some 151, false, .ext (.t 145) 1, none, false, []⟩, ⟨some 25, false, .asg (.t 150), none, false, []⟩, ⟨some 26, false, .asg (.t 151), none, false, []⟩] [20, 21, 22, 23, 25, 26] [20]) (.seq (.reg false [⟨some 153, false, .ld (some 3) (.t 20), none, false, []⟩, ⟨some 154, false, .mv (.t 21), none, false, []⟩, ⟨some 155, false, .mv (.t 23), none, false, []⟩, ⟨some 156, false, .bin .sub (.t 155) (.c (.int .i64 1)), none, false, []⟩, ⟨some 157, false, .call (.c (.fn 165 [])) [.t 153, .t 154, .t 156], none, false, []⟩, ⟨some 152, false, .mv (.t 157), none, false, []⟩, ⟨some 158, false, .ext (.t 152) 0, none, false, []⟩, ⟨some 159, false, .ext (.t 152) 1, none, false, []⟩, ⟨some 27, false, .asg (.t 158), none, false, []⟩, ⟨some 28, false, .asg (.t 159), none, false, []⟩] [22, 23, 25, 26, 27, 28] []) (.seq (.reg false [⟨some 160, false, .mv (.t 23), none, false, []⟩, ⟨some 161, false, .bin .geq (.t 160) (.c (.int .i64 0)), none, false, []⟩, ⟨some 162, false, .mv (.t 161), none, false, []⟩, ⟨some 163, false, .mv (.t 26), some (2, true), false, []⟩, ⟨some 164, false, .bin .eql (.t 163) (.c (.int .i64 0)), some (2, true), false, []⟩, ⟨some 165, false, .pick (.t 162) (.t 164) (.c (.bool false)), none, false, []⟩, ⟨some 166, false, .mv (.t 165), none, false, []⟩, ⟨some 167, false, .mv (.t 25), some (6, true), false, []⟩, ⟨some 168, false, .mv (.t 22), some (6, true), false, []⟩, ⟨some 169, false, .bin .leq (.t 167) (.t 168), some (6, true), false, []⟩, ⟨some 170, false, .pick (.t 166) (.t 169) (.c (.bool false)), none, false, []⟩, ⟨some 171, false, .mv (.t 170), none, false, []⟩, ⟨some 172, false, .mv (.t 25), some (11, true), false, []⟩, ⟨some 173, false, .bin .geq (.t 172) (.c (.int .i64 0)), some (11, true), false, []⟩, ⟨some 174, false, .pick (.t 171) (.t 173) (.c (.bool false)), none, false, []⟩, ⟨some 175, false, .mv (.t 174), none, false, []⟩, ⟨some 176, false, .mv (.t 23), some (15, true), false, []⟩, ⟨some 177, false, .bin .eql (.t 176) (.c (.int .i64 0)), some (15, true), false, []⟩, ⟨some 178, false, .mv (.t 177), some (15, true), false, []⟩, ⟨some 179, false, .mv (.t 28), some (18, false), false, []⟩, ⟨some 180, false, .bin .eql (.t 179) (.c (.int .i64 0)), some (18, false), false, []⟩, ⟨some 181, false, .mv (.t 180), some (18, false), false, []⟩, ⟨some 182, false, .mv (.t 27), some (21, true), false, []⟩, ⟨some 183, false, .mv (.t 22), some (21, true), false, []⟩, ⟨some 184, false, .bin .gtr (.t 182) (.t 183), some (21, true), false, []⟩, ⟨some 185, false, .pick (.t 181) (.t 184) (.c (.bool false)), some (18, false), false, []⟩, ⟨some 186, false, .mv (.t 185), some (18, false), false, []⟩, ⟨some 187, false, .mv (.t 27), some (26, true), false, []⟩, ⟨some 188, false, .mv (.t 25), some (26, true), false, []⟩, ⟨some 189, false, .bin .geq (.t 187) (.t 188), some (26, true), false, []⟩, ⟨some 190, false, .pick (.t 186) (.t 189) (.c (.bool false)), some (18, false), false, []⟩, ⟨some 191, false, .pick (.t 178) (.c (.bool true)) (.t 190), some (15, true), false, []⟩, ⟨some 192, false, .pick (.t 175) (.t 191) (.c (.bool false)), none, false, []⟩, ⟨some 4, false, .asg (.t 192), none, false, []⟩] [4] []) .ret)))))
def laws_FnTones_k5 : C :=
  .norm [1] [] laws_FnTones_k4
def laws_FnTones_k6 : C :=
  .seq (.reg false [⟨some 35, false, .mv (.t 0), none, false, []⟩, ⟨some 36, false, .call (.c (.fn 171 [])) [.t 35], none, false, []⟩, ⟨some 5, false, .asg (.t 36), none, false, []⟩] [1, 5] []) (.seq (.reg false [⟨some 38, false, .mv (.t 5), none, false, []⟩, ⟨some 39, false, .call (.c (.fn 169 [])) [.t 38], none, false, []⟩, ⟨some 37, false, .mv (.t 39), none, false, []⟩, ⟨some 40, false, .ext (.t 37) 0, none, false, []⟩, ⟨some 41, false, .ext (.t 37) 1, none, false, []⟩, ⟨some 42, false, .ext (.t 37) 2, none, false, []⟩, ⟨some 6, false, .asg (.t 40), none, false, []⟩, ⟨some 7, false, .asg (.t 41), none, false, []⟩, ⟨some 8, false, .asg (.t 42), none, false, []⟩] [1, 5, 6, 7, 8] []) (.seq (.seq (.reg false [⟨some 43, false, .mv (.t 8), none, false, []⟩, ⟨some 44, false, .bin .eql (.t 43) (.c (.int .i64 0)), none, false, []⟩] [1, 5, 6, 7, 44] []) (.cond (.t 44) (.seq (.reg false [⟨some 46, false, .mv (.t 6), none, false, []⟩, ⟨some 47, false, .call (.c (.fn 168 [])) [.t 46], none, false, []⟩, ⟨some 45, false, .mv (.t 47), none, false, []⟩, ⟨some 48, false, .ext (.t 45) 0, none, false, []⟩, ⟨some 49, false, .ext (.t 45) 1, none, false, []⟩, ⟨some 9, false, .asg (.t 48), none, false, []⟩, ⟨some 10, false, .asg (.t 49), none, false, []⟩] [1, 5, 6, 7, 9, 10] []) (.seq (.reg false [⟨some 50, false, .mv (.t 6), none, false, []⟩, ⟨some 51, false, .call (.c (.fn 170 [])) [.t 50], none, false, []⟩, ⟨some 11, false, .asg (.t 51), none, false, []⟩] [1, 5, 6, 7, 9, 10, 11] []) (.seq (.reg false [⟨some 53, false, .mv (.t 9), none, false, []⟩, ⟨some 54, false, .call (.c (.fn 169 [])) [.t 53], none, false, []⟩, ⟨some 52, false, .mv (.t 54), none, false, []⟩, ⟨some 55, false, .ext (.t 52) 0, none, false, []⟩, ⟨some 56, false, .ext (.t 52) 1, none, false, []⟩, ⟨some 57, false, .ext (.t 52) 2, none, false, []⟩, ⟨some 12, false, .asg (.t 55), none, false, []⟩, ⟨some 13, false, .asg (.t 56), none, false, []⟩, ⟨some 14, false, .asg (.t 57), none, false, []⟩] [1, 5, 6, 7, 9, 10, 11, 12, 13, 14] []) (.seq (.seq (.reg false [⟨some 58, false, .mv (.t 10), none, false, []⟩, ⟨some 59, false, .bin .neq (.t 58) (.c (.int .i64 0)), none, false, []⟩, ⟨some 60, false, .mv (.t 59), none, false, []⟩, ⟨some 61, false, .mv (.t 9), some (2, false), false, []⟩, ⟨some 62, false, .mv (.t 7), some (2, false), false, []⟩, ⟨some 63, false, .bin .add (.t 61) (.t 62), some (2, false), false, []⟩, ⟨some 64, false, .mv (.t 5), some (2, false), false, []⟩, ⟨some 65, false, .bin .neq (.t 63) (.t 64), some (2, false), false, []⟩, ⟨some 66, false, .pick (.t 60) (.c (.bool true)) (.t 65), none, false, []⟩, ⟨some 67, false, .mv (.t 66), none, false, []⟩, ⟨some 68, false, .mv (.t 11), some (9, false), false, []⟩, ⟨some 69, false, .bin .eql (.t 68) (.c (.str [])), some (9, false), false, []⟩, ⟨some 70, false, .pick (.t 67) (.c (.bool true)) (.t 69), none, false, []⟩, ⟨some 71, false, .mv (.t 70), none, false, []⟩, ⟨some 72, false, .mv (.t 9), some (13, false), false, []⟩, ⟨some 73, false, .bin .leq (.t 72) (.c (.int .i64 100000)), some (13, false), false, []⟩, ⟨some 74, false, .mv (.t 73), some (13, false), false, []⟩, ⟨some 75, false, .mv (.t 14), some (16, true), false, []⟩, ⟨some 76, false, .bin .neq (.t 75) (.c (.int .i64 0)), some (16, true), false, []⟩, ⟨some 77, false, .mv (.t 76), some (16, true), false, []⟩, ⟨some 78, false, .mv (.t 12), some (19, false), false, []⟩, ⟨some 79, false, .mv (.t 6), some (19, false), false, []⟩, ⟨some 80, false, .bin .neq (.t 78) (.t 79), some (19, false), false, []⟩, ⟨some 81, false, .pick (.t 77) (.c (.bool true)) (.t 80), some (16, true), false, []⟩, ⟨some 82, false, .mv (.t 81), some (16, true), false, []⟩, ⟨some 83, false, .mv (.t 13), some (24, false), false, []⟩, ⟨some 84, false, .bin .neq (.t 83) (.c (.int .i64 0)), some (24, false), false, []⟩, ⟨some 85, false, .pick (.t 82) (.c (.bool true)) (.t 84), some (16, true), false, []⟩, ⟨some 86, false, .pick (.t 74) (.t 85) (.c (.bool false)), some (13, false), false, []⟩, ⟨some 87, false, .pick (.t 71) (.c (.bool true)) (.t 86), none, false, []⟩] [1, 5, 6, 7, 9, 87] []) (.cond (.t 87) (.seq (.reg false [⟨some 4, false, .asg (.c (.bool false)), none, false, []⟩] [4] []) .ret) .skip)) (.norm [1, 5, 6, 7, 9] [] laws_FnTones_k3))))) (.seq (.reg false [⟨some 122, false, .mv (.t 6), none, false, []⟩, ⟨some 123, false, .bin .neq (.t 122) (.c (.int .i64 0)), none, false, []⟩, ⟨some 124, false, .mv (.t 123), none, false, []⟩, ⟨some 125, false, .mv (.t 7), some (2, false), false, []⟩, ⟨some 126, false, .bin .neq (.t 125) (.c (.int .i64 0)), some (2, false), false, []⟩, ⟨some 127, false, .pick (.t 124) (.c (.bool true)) (.t 126), none, false, []⟩] [1, 127] []) (.cond (.t 127) (.seq (.reg false [⟨some 4, false, .asg (.c (.bool false)), none, false, []⟩] [4] []) .ret) .skip)))) laws_FnTones_k5))
def laws_FnTones_ir : Fn := { np := 2, io := [], res := [.t 4], own := [false], body :=
  (.seq (.reg false [⟨some 4, false, .asg (.c (.bool false)), none, false, []⟩] [0, 1] []) (.seq (.seq (.reg false [⟨some 29, false, .mv (.t 0), none, false, []⟩, ⟨some 30, false, .call (.c (.fn 76 [])) [.t 29], none, false, []⟩, ⟨some 31, false, .mv (.t 30), none, false, []⟩, ⟨some 32, false, .mv (.t 1), some (2, false), false, []⟩, ⟨some 33, false, .call (.c (.fn 76 [])) [.t 32], some (2, false), false, []⟩, ⟨some 34, false, .pick (.t 31) (.c (.bool true)) (.t 33), none, false, []⟩] [0, 1, 34] []) (.cond (.t 34) (.seq (.reg false [⟨some 4, false, .asg (.c (.bool true)), none, false, []⟩] [4] []) .ret) .skip)) (.norm [0, 1] [] laws_FnTones_k6))) }
noncomputable def laws_FnTones_D : List (Nat × Callee) := [(66, laws_b10Abs_c), (76, laws_b10Long_c), (101, spec_NoteTone_c), (165, impl_RingAfter_c), (166, impl_CyclesTo_c), (167, spec_DrawCyclesTo_c), (168, impl_NoteTone_c), (169, impl_NoteOf_c), (170, impl_NoteName_c), (171, spec_DrawNoteOf_c)]
def laws_FnTones_H : List (Nat × ET) := [(29, (.one (.int .u8))), (32, (.one (.int .u8))), (35, (.one (.int .u8))), (129, (.one (.int .u8)))]
noncomputable def laws_FnTones_c : Callee := mkCallee laws_FnTones_D laws_FnTones_H laws_FnTones_ir [.d (.one (.sl (.one (.int .u8)))), .d (.one (.sl (.one (.int .u8))))] [.d (.one .bool)] []
noncomputable def laws_FnTones (a0 : List Int) (a1 : List Int) : Option (Bool) := laws_FnTones_c.f (a0, a1, ())
noncomputable def laws_FnTones_p0  (v0 : List Int) (v1 : List Int) : Option (Bool) :=
  goL laws_FnTones_D laws_FnTones_H (vleave laws_FnTones_ir [.d (.one (.sl (.one (.int .u8)))), .d (.one (.sl (.one (.int .u8))))] [.d (.one .bool)] [] []) [.c laws_FnTones_k6]
    ⟨[(0, .sl (.one (.int .u8)) v0), (1, .sl (.one (.int .u8)) v1)], []⟩
noncomputable def laws_FnTones_p1  (v1 : List Int) (v5 : Int) (v6 : Int) (v7 : Int) (v9 : Int) : Option (Bool) :=
  goL laws_FnTones_D laws_FnTones_H (vleave laws_FnTones_ir [.d (.one (.sl (.one (.int .u8)))), .d (.one (.sl (.one (.int .u8))))] [.d (.one .bool)] [] []) [.c laws_FnTones_k3, .c laws_FnTones_k5]
    ⟨[(1, .sl (.one (.int .u8)) v1), (5, .int .i64 v5), (6, .int .i64 v6), (7, .int .i64 v7), (9, .int .i64 v9)], []⟩
noncomputable def laws_FnTones_p2  (v1 : List Int) : Option (Bool) :=
  goL laws_FnTones_D laws_FnTones_H (vleave laws_FnTones_ir [.d (.one (.sl (.one (.int .u8)))), .d (.one (.sl (.one (.int .u8))))] [.d (.one .bool)] [] []) [.c laws_FnTones_k4]
    ⟨[(1, .sl (.one (.int .u8)) v1)], []⟩
noncomputable def laws_FnTones_p3  (v1 : List Int) (v5 : Int) (v6 : Int) (v7 : Int) (v9 : Int) (v15 : Int) : Option (Bool) :=
  goL laws_FnTones_D laws_FnTones_H (vleave laws_FnTones_ir [.d (.one (.sl (.one (.int .u8)))), .d (.one (.sl (.one (.int .u8))))] [.d (.one .bool)] [] []) [.c laws_FnTones_k0, .l laws_FnTones_k1, .e 0, .c laws_FnTones_k2, .c laws_FnTones_k5]
    ⟨[(1, .sl (.one (.int .u8)) v1), (5, .int .i64 v5), (6, .int .i64 v6), (7, .int .i64 v7), (9, .int .i64 v9), (15, .int .i64 v15)], []⟩
theorem laws_FnTones_eq (a0 : List Int) (a1 : List Int) : laws_FnTones a0 a1 =
    (laws_b10Long a0).bind fun x1 =>
      if x1 then
        some true
      else
        (laws_b10Long a1).bind fun x2 =>
          if x2 then
            some true
          else
            laws_FnTones_p0 a0 a1 :=
  (mk_f _ _ _ _ _ _ _ 4000).trans (by kernel_rfl)
theorem laws_FnTones_p0_eq  (v0 : List Int) (v1 : List Int) : laws_FnTones_p0 v0 v1 =
    (spec_DrawNoteOf v0).bind fun x1 =>
      (impl_NoteOf x1).bind fun x2 =>
        if (x2.2.2 == 0) then
          (impl_NoteTone x2.1).bind fun x3 =>
            (impl_NoteName x2.1).bind fun x4 =>
              (impl_NoteOf x3.1).bind fun x5 =>
                if (x3.2 != 0) then
                  some false
                else
                  if (IntKind.i64.wrap (x3.1 + x2.2.1) != x1) then
                    some false
                  else
                    if (x4 == []) then
                      some false
                    else
                      if decide (x3.1 ≤ 100000) then
                        if (x5.2.2 != 0) then
                          some false
                        else
                          if (x5.1 != x2.1) then
                            some false
                          else
                            if (x5.2.1 != 0) then
                              some false
                            else
                              laws_FnTones_p1 v1 x1 x2.1 x2.2.1 x3.1
                      else
                        laws_FnTones_p1 v1 x1 x2.1 x2.2.1 x3.1
        else
          if (x2.1 != 0) then
            some false
          else
            if (x2.2.1 != 0) then
              some false
            else
              laws_FnTones_p2 v1 :=
  (goL_dn _ _ _ 4000 _ _).trans (by kernel_rfl)
theorem laws_FnTones_p1_eq  (v1 : List Int) (v5 : Int) (v6 : Int) (v7 : Int) (v9 : Int) : laws_FnTones_p1 v1 v5 v6 v7 v9 =
    laws_FnTones_p3 v1 v5 v6 v7 v9 0 :=
  (goL_dn _ _ _ 4000 _ _).trans (by kernel_rfl)
theorem laws_FnTones_p2_eq  (v1 : List Int) : laws_FnTones_p2 v1 =
    (spec_DrawCyclesTo v1).bind fun x1 =>
      (impl_CyclesTo (x1.1.1, x1.1.2.1, x1.1.2.2.1, ()) x1.2.1 x1.2.2).bind fun x2 =>
        if (x2.2 != 0) then
          some (x2.1 == 0)
        else
          (impl_RingAfter (x1.1.1, x1.1.2.1, x1.1.2.2.1, ()) x1.2.1 x2.1).bind fun x3 =>
            (impl_RingAfter (x1.1.1, x1.1.2.1, x1.1.2.2.1, ()) x1.2.1 (IntKind.i64.wrap (x2.1 - 1))).bind fun x4 =>
              if decide (x2.1 ≥ 0) then
                if (x3.2 == 0) then
                  if decide (x3.1 ≤ x1.2.2) then
                    if decide (x3.1 ≥ 0) then
                      if (x2.1 == 0) then
                        some true
                      else
                        if (x4.2 == 0) then
                          if decide (x4.1 > x1.2.2) then
                            some (decide (x4.1 ≥ x3.1))
                          else
                            some false
                        else
                          some false
                    else
                      some false
                  else
                    some false
                else
                  some false
              else
                some false :=
  (goL_dn _ _ _ 4000 _ _).trans (by kernel_rfl)
theorem laws_FnTones_p3_eq  (v1 : List Int) (v5 : Int) (v6 : Int) (v7 : Int) (v9 : Int) (v15 : Int) : laws_FnTones_p3 v1 v5 v6 v7 v9 v15 =
    if decide (v15 ≤ 60) then
      (spec_NoteTone v15).bind fun x1 =>
        if (x1.2 != 0) then
          some false
        else
          (laws_b10Abs (IntKind.i64.wrap (x1.1 - v5))).bind fun x2 =>
            (laws_b10Abs v7).bind fun x3 =>
              if decide (x2 < x3) then
                some false
              else
                laws_FnTones_p3 v1 v5 v6 v7 v9 (IntKind.i64.wrap (v15 + 1))
    else
      (impl_NoteTone (IntKind.i64.wrap (v6 + 12))).bind fun x4 =>
        if (x4.2 == 0) then
          if (x4.1 != IntKind.i64.wrap (2 * v9)) then
            some false
          else
            laws_FnTones_p2 v1
        else
          laws_FnTones_p2 v1 :=
  (goL_dn _ _ _ 4000 _ _).trans (by kernel_rfl)

end Go.Ab.P
