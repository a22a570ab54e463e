/- Functions of the program: abstract forms, and what their runs give. Conditions: none. -/
import Derived.Test.YtmleedejgoeggaaL3
set_option maxRecDepth 100000
set_option linter.unusedVariables false
namespace Go.Ab.P
open Go.Ab
@[reducible] def T_Problem : ET := .agg (.cons (.int .i64) (.cons .str (.cons .str .nil)))
@[reducible] def T_Pot : ET := .agg (.cons .str (.cons (.int .i64) (.cons (.int .i64) (.cons (.int .i64) (.cons (.int .i64) .nil)))))
@[reducible] def T_Neck : ET := .agg (.cons (.int .i64) (.cons (.int .i64) (.cons (.int .i64) (.cons (.int .i64) .nil))))
@[reducible] def T_Step : ET := .agg (.cons .str (.cons (.int .i64) (.cons (.int .i64) (.cons (.sl (.one (.int .i64))) .nil))))
@[reducible] def T_Peg : ET := .agg (.cons .str (.cons (.int .i64) (.cons (.int .i64) (.cons (.int .i64) .nil))))
@[reducible] def T_Mode : ET := .agg (.cons .str (.cons (.int .i64) (.cons (.int .i64) .nil)))
@[reducible] def T_Deed : ET := .agg (.cons .str (.cons .str (.cons (.int .i64) (.cons (.int .i64) .nil))))
@[reducible] def T_Block : ET := .agg (.cons .str (.cons .str (.cons .str .nil)))
@[reducible] def T_Paper : ET := .agg (.cons .str (.cons .str (.cons (.int .i64) (.cons (.int .i64) (.cons (.int .i64) .nil)))))
@[reducible] def T_Desk : ET := .agg (.cons (.sl T_Peg) (.cons (.sl T_Mode) (.cons (.sl (.one (.sl (.one (.int .i64))))) (.cons (.int .i64) (.cons (.int .i64) (.cons (.int .i64) (.cons (.int .i64) (.cons (.sl T_Peg) (.cons (.sl T_Pot) (.cons (.sl T_Mode) (.cons (.sl T_Peg) (.cons (.sl T_Paper) .nil))))))))))))
@[reducible] def T_Arc : ET := .agg (.cons (.int .i64) (.cons (.int .i64) (.cons (.int .i64) (.cons (.int .i64) (.cons (.int .i64) (.cons (.int .i64) .nil))))))
@[reducible] def T_Entry : ET := .agg (.cons (.int .i64) (.cons .str (.cons .str (.cons (.int .i64) .nil))))
@[reducible] def T_Shop : ET := .agg (.cons (.sl T_Arc) (.cons (.sl T_Neck) (.cons (.int .i64) (.cons (.sl T_Step) (.cons (.sl (.one (.int .i64))) (.cons (.int .i64) (.cons (.sl T_Paper) (.cons (.sl T_Entry) .nil))))))))
@[reducible] def T_Setting : ET := .agg (.cons .str (.cons (.int .i64) .nil))
@[reducible] def T_Version : ET := .agg (.cons (.int .i64) (.cons (.int .i64) (.cons .str (.cons (.sl T_Setting) .nil))))
@[reducible] def T_Point : ET := .agg (.cons (.int .i64) (.cons (.int .i64) .nil))
@[reducible] def T_Grant : ET := .agg (.cons .str (.cons .str (.cons (.int .i64) .nil)))
@[reducible] def T_Role : ET := .agg (.cons .str (.cons (.sl (.one .str)) .nil))
@[reducible] def T_matching : ET := .agg (.cons (.sl T_Mode) (.cons (.sl T_Mode) (.cons (.sl (.one .bool)) (.cons (.int .i64) (.cons (.sl (.one (.int .i64))) (.cons (.int .i64) (.cons (.sl (.one (.int .i64))) (.cons (.int .i64) (.cons .bool .nil)))))))))
@[reducible] def T_cutting : ET := .agg (.cons (.sl T_Mode) (.cons (.int .i64) (.cons (.int .i64) (.cons (.sl (.one (.int .i64))) (.cons (.sl (.one (.int .i64))) (.cons (.int .i64) (.cons (.int .i64) .nil)))))))
@[reducible] def T_link : ET := .agg (.cons .bool (.cons (.int .i64) (.cons (.int .i64) .nil)))
@[reducible] def T_gluing : ET := .agg (.cons (.sl T_Pot) (.cons (.sl (.one (.int .i64))) (.cons (.sl (.one (.int .i64))) (.cons (.int .i64) (.cons (.sl (.one (.int .i64))) (.cons (.int .i64) (.cons (.sl (.one (.int .i64))) (.cons (.int .i64) (.cons .bool .nil)))))))))
@[reducible] def T_Change : ET := .agg (.cons (.int .i64) (.cons .str (.cons (.int .i64) .nil)))
@[reducible] def T_placing : ET := .agg (.cons (.sl T_Peg) (.cons (.sl (.one (.sl (.one (.int .i64))))) (.cons (.int .i64) .nil)))
@[reducible] def T_trusting : ET := .agg (.cons (.sl T_Paper) (.cons (.int .i64) (.cons (.sl (.one (.int .i64))) (.cons (.int .i64) (.cons (.sl (.one (.int .i64))) (.cons (.int .i64) .nil))))))
@[reducible] def T_l00Src : ET := .agg (.cons (.sl (.one (.int .u8))) (.cons (.int .i64) (.cons (.int .u64) .nil)))
@[reducible] def T_arguments : ET := .agg (.cons (.sl (.one (.int .i64))) (.cons (.sl (.one (.int .i64))) (.cons (.int .i64) (.cons .str .nil))))
@[reducible] def T_l14Search : ET := .agg (.cons (.sl T_Pot) (.cons (.sl (.one (.int .i64))) (.cons (.sl (.one (.int .i64))) (.cons (.sl (.one (.int .i64))) (.cons (.sl (.one (.int .i64))) (.cons (.int .i64) (.cons (.int .i64) (.cons (.int .i64) (.cons .bool .nil)))))))))
@[reducible] def T_l06Search : ET := .agg (.cons (.sl T_Mode) (.cons (.int .i64) (.cons (.int .i64) (.cons (.int .i64) (.cons (.sl (.one (.int .i64))) (.cons (.sl (.one (.int .i64))) (.cons (.int .i64) (.cons (.int .i64) (.cons .bool .nil)))))))))
@[reducible] def T_l20Search : ET := .agg (.cons (.sl T_Paper) (.cons (.sl (.one (.int .i64))) (.cons (.sl (.one (.int .i64))) (.cons (.int .i64) (.cons (.int .i64) (.cons (.int .i64) (.cons .bool .nil)))))))
@[reducible] def T_l18Search : ET := .agg (.cons (.sl T_Peg) (.cons (.sl (.one (.sl (.one (.int .i64))))) (.cons (.int .i64) (.cons (.int .i64) (.cons .bool .nil)))))
/- laws.b10Long -/
def laws_b10Long_ir : Fn := { np := 1, io := [], res := [.t 2], own := [false], body :=
  (.seq (.reg false [⟨some 2, false, .asg (.c (.bool false)), none⟩] [0] []) (.seq (.reg false [⟨some 3, false, .mv (.t 0), none⟩, ⟨some 4, false, .len (.t 3), none⟩, ⟨some 5, false, .bin .gtr (.t 4) (.c (.int .i64 1048576)), none⟩, ⟨some 2, false, .asg (.t 5), none⟩] [2] []) .ret)) }
noncomputable def laws_b10Long_D : List (Nat × Callee) := []
def laws_b10Long_H : List (Nat × ET) := [(3, (.one (.int .u8)))]
noncomputable def laws_b10Long_c : Callee := mkCallee laws_b10Long_D laws_b10Long_H laws_b10Long_ir [.d (.one (.sl (.one (.int .u8))))] [.d (.one .bool)] []
noncomputable def laws_b10Long (a0 : List Int) : Option (Bool) := laws_b10Long_c.f (a0, ())
theorem laws_b10Long_eq (a0 : List Int) : laws_b10Long a0 =
    some (decide ((a0.length : Int) > 1048576)) :=
  (mk_f _ _ _ _ _ _ _ 4000).trans (by kernel_rfl)

/- spec.l00From -/
def spec_l00From_ir : Fn := { np := 1, io := [], res := [.t 2], own := [true], body :=
  (.seq (.reg false [⟨some 2, false, .asg (.c (.cst (.pointer none))), none⟩] [0] []) (.seq (.reg false [⟨some 3, false, .mv (.t 0), none⟩, ⟨some 4, false, .build [.nils 1, .int .i64 0, .int .u64 0] [(0, 1, .t 3)], none⟩, ⟨some 5, true, .box 3 (.t 4), none⟩, ⟨some 2, false, .asg (.t 5), none⟩] [2] [5, 6000]) .ret)) }
noncomputable def spec_l00From_D : List (Nat × Callee) := []
def spec_l00From_H : List (Nat × ET) := [(3, (.one (.int .u8)))]
noncomputable def spec_l00From_c : Callee := mkCallee spec_l00From_D spec_l00From_H spec_l00From_ir [.d (.one (.sl (.one (.int .u8))))] [.box T_l00Src] []
noncomputable def spec_l00From (a0 : List Int) : Option (T_l00Src.ty) := spec_l00From_c.f (a0, ())
theorem spec_l00From_eq (a0 : List Int) : spec_l00From a0 =
    some (a0, 0, 0, ()) :=
  (mk_f _ _ _ _ _ _ _ 4000).trans (by kernel_rfl)

/- (*spec.l00Src).next -/
def spec_l00Src_next_k0 : C :=
  .seq (.reg false [⟨some 25, false, .mv (.t 0), none⟩, ⟨some 26, false, .nilck (.t 25), none⟩, ⟨some 27, false, .fa 1 (.t 26), none⟩, ⟨some 28, false, .ld none (.t 27), none⟩, ⟨some 29, false, .bin .add (.t 28) (.c (.int .i64 1)), none⟩, ⟨some 30, false, .nilck (.t 25), none⟩, ⟨some 31, false, .fa 1 (.t 30), none⟩, ⟨none, true, .sto 1 (.t 31) (.t 29), none⟩] [0, 3] [0, 1000]) (.seq (.reg false [⟨some 32, false, .mv (.t 0), none⟩, ⟨some 33, false, .mv (.t 0), none⟩, ⟨some 34, false, .nilck (.t 33), none⟩, ⟨some 35, false, .fa 2 (.t 34), none⟩, ⟨some 36, false, .ld none (.t 35), none⟩, ⟨some 37, false, .bin .mul (.t 36) (.c (.int .u64 6364136223846793005)), none⟩, ⟨some 38, false, .mv (.t 3), none⟩, ⟨some 39, false, .conv (.int .u64) (.t 38), none⟩, ⟨some 40, false, .bin .add (.t 37) (.t 39), none⟩, ⟨some 41, false, .bin .add (.t 40) (.c (.int .u64 1442695040888963407)), none⟩, ⟨some 42, false, .nilck (.t 32), none⟩, ⟨some 43, false, .fa 2 (.t 42), none⟩, ⟨none, true, .sto 1 (.t 43) (.t 41), none⟩] [0, 3] [0, 1000]) (.seq (.seq (.reg true [⟨some 44, false, .mv (.t 0), none⟩, ⟨some 45, false, .nilck (.t 44), none⟩, ⟨some 46, false, .fa 1 (.t 45), none⟩, ⟨some 47, false, .ld none (.t 46), none⟩, ⟨some 48, false, .mv (.t 0), none⟩, ⟨some 49, false, .nilck (.t 48), none⟩, ⟨some 50, false, .fa 0 (.t 49), none⟩, ⟨some 51, false, .ld none (.t 50), none⟩, ⟨some 52, false, .len (.t 51), none⟩, ⟨some 53, false, .bin .leq (.t 47) (.t 52), none⟩] [0, 3, 53] [0, 1000]) (.cond (.t 53) (.seq (.reg false [⟨some 54, false, .mv (.t 3), none⟩, ⟨some 2, false, .asg (.t 54), none⟩] [0, 2] [0, 1000]) .ret) .skip)) (.seq (.reg false [⟨some 55, false, .mv (.t 0), none⟩, ⟨some 56, false, .nilck (.t 55), none⟩, ⟨some 57, false, .fa 2 (.t 56), none⟩, ⟨some 58, false, .ld none (.t 57), none⟩, ⟨some 59, false, .bin .shr (.t 58) (.c (.int .u64 40)), none⟩, ⟨some 60, false, .bin .and (.t 59) (.c (.int .u64 255)), none⟩, ⟨some 61, false, .conv (.int .i64) (.t 60), none⟩, ⟨some 2, false, .asg (.t 61), none⟩] [0, 2] [0, 1000]) .ret)))
def spec_l00Src_next_ir : Fn := { np := 1, io := [true], res := [.t 2], own := [false], body :=
  (.seq (.reg false [⟨some 2, false, .asg (.c (.int .i64 0)), none⟩] [0] [0, 1000]) (.seq (.reg false [⟨some 3, false, .asg (.c (.int .i64 0)), none⟩] [0, 3] [0, 1000]) (.seq (.seq (.reg true [⟨some 4, false, .mv (.t 0), none⟩, ⟨some 5, false, .nilck (.t 4), none⟩, ⟨some 6, false, .fa 1 (.t 5), none⟩, ⟨some 7, false, .ld none (.t 6), none⟩, ⟨some 8, false, .mv (.t 0), none⟩, ⟨some 9, false, .nilck (.t 8), none⟩, ⟨some 10, false, .fa 0 (.t 9), none⟩, ⟨some 11, false, .ld none (.t 10), none⟩, ⟨some 12, false, .len (.t 11), none⟩, ⟨some 13, false, .bin .lss (.t 7) (.t 12), none⟩] [0, 3, 13] [0, 1000]) (.cond (.t 13) (.reg true [⟨some 14, false, .mv (.t 0), none⟩, ⟨some 15, false, .nilck (.t 14), none⟩, ⟨some 16, false, .fa 0 (.t 15), none⟩, ⟨some 17, false, .ld none (.t 16), none⟩, ⟨some 18, false, .mv (.t 0), none⟩, ⟨some 19, false, .nilck (.t 18), none⟩, ⟨some 20, false, .fa 1 (.t 19), none⟩, ⟨some 21, false, .ld none (.t 20), none⟩, ⟨some 22, false, .ia 1 (.t 17) (.t 21), none⟩, ⟨some 23, false, .ld none (.t 22), none⟩, ⟨some 24, false, .conv (.int .i64) (.t 23), none⟩, ⟨some 3, false, .asg (.t 24), none⟩] [0, 3] [0, 1000]) .skip)) (.norm [0, 3] [0, 1000] spec_l00Src_next_k0)))) }
noncomputable def spec_l00Src_next_D : List (Nat × Callee) := []
def spec_l00Src_next_H : List (Nat × ET) := [(11, (.one (.int .u8))), (17, (.one (.int .u8))), (51, (.one (.int .u8)))]
noncomputable def spec_l00Src_next_c : Callee := mkCallee spec_l00Src_next_D spec_l00Src_next_H spec_l00Src_next_ir [.box T_l00Src] [.d (.one (.int .i64))] [.box T_l00Src]
noncomputable def spec_l00Src_next (a0 : T_l00Src.ty) : Option (Int × T_l00Src.ty) := spec_l00Src_next_c.f (a0, ())
noncomputable def spec_l00Src_next_p0  (v3 : Int) (r0_0 : List Int) (r0_1 : Int) (r0_2 : Int) : Option (Int × T_l00Src.ty) :=
  goL spec_l00Src_next_D spec_l00Src_next_H (vleave spec_l00Src_next_ir [.box T_l00Src] [.d (.one (.int .i64))] [.box T_l00Src] []) [.c spec_l00Src_next_k0]
    ⟨[(0, .loc 0 0 0), (3, .int .i64 v3)], [(0, some (.var 3 (.agg [.sl (.one (.int .u8)) r0_0, .int .i64 r0_1, .int .u64 r0_2]))), (1000, none)]⟩
theorem spec_l00Src_next_eq (a0 : T_l00Src.ty) : spec_l00Src_next a0 =
    if decide (a0.2.1 < (a0.1.length : Int)) then
      if decide (0 ≤ a0.2.1) then
        (a0.1[a0.2.1.toNat]?).bind fun x1 =>
          spec_l00Src_next_p0 (IntKind.i64.wrap x1) a0.1 a0.2.1 a0.2.2.1
      else
        none
    else
      spec_l00Src_next_p0 0 a0.1 a0.2.1 a0.2.2.1 :=
  (mk_f _ _ _ _ _ _ _ 4000).trans (by kernel_rfl)
theorem spec_l00Src_next_p0_eq  (v3 : Int) (r0_0 : List Int) (r0_1 : Int) (r0_2 : Int) : spec_l00Src_next_p0 v3 r0_0 r0_1 r0_2 =
    if decide (IntKind.i64.wrap (r0_1 + 1) ≤ (r0_0.length : Int)) then
      some (v3, (r0_0, IntKind.i64.wrap (r0_1 + 1), IntKind.u64.wrap ((IntKind.u64.wrap ((IntKind.u64.wrap (r0_2 * 6364136223846793005)) + (IntKind.u64.wrap v3))) + 1442695040888963407), ()))
    else
      some (IntKind.i64.wrap (IntKind.u64.wrap ((BitVec.ofInt IntKind.u64.bits (Int.fdiv (IntKind.u64.wrap ((IntKind.u64.wrap ((IntKind.u64.wrap (r0_2 * 6364136223846793005)) + (IntKind.u64.wrap v3))) + 1442695040888963407)) (2 ^ (min (40 : Int).toNat IntKind.u64.bits))) &&& BitVec.ofInt IntKind.u64.bits 255).toNat : Int)), (r0_0, IntKind.i64.wrap (r0_1 + 1), IntKind.u64.wrap ((IntKind.u64.wrap ((IntKind.u64.wrap (r0_2 * 6364136223846793005)) + (IntKind.u64.wrap v3))) + 1442695040888963407), ())) :=
  (goL_dn _ _ _ 4000 _ _).trans (by kernel_rfl)

/- (*spec.l00Src).pick -/
def spec_l00Src_pick_ir : Fn := { np := 2, io := [true, false], res := [.t 4], own := [false], body :=
  (.seq (.reg false [⟨some 4, false, .asg (.c (.int .i64 0)), none⟩] [0, 1] [0, 1000]) (.seq (.seq (.reg false [⟨some 6, false, .mv (.t 1), none⟩, ⟨some 7, false, .bin .leq (.t 6) (.c (.int .i64 1)), none⟩] [0, 1, 7] [0, 1000]) (.cond (.t 7) (.seq (.reg false [⟨some 4, false, .asg (.c (.int .i64 0)), none⟩] [0, 4] [0, 1000]) .ret) .skip)) (.seq (.reg false [⟨some 8, false, .mv (.t 0), none⟩, ⟨some 9, true, .call (.c (.fn 847 [])) [.t 8], none⟩, ⟨some 5, false, .asg (.t 9), none⟩] [0, 1, 5] [0, 1000]) (.seq (.seq (.reg false [⟨some 10, false, .mv (.t 1), none⟩, ⟨some 11, false, .bin .gtr (.t 10) (.c (.int .i64 200)), none⟩] [0, 1, 5, 11] [0, 1000]) (.cond (.t 11) (.reg false [⟨some 12, false, .mv (.t 5), none⟩, ⟨some 13, false, .bin .mul (.t 12) (.c (.int .i64 256)), none⟩, ⟨some 14, false, .mv (.t 0), none⟩, ⟨some 15, true, .call (.c (.fn 847 [])) [.t 14], none⟩, ⟨some 16, false, .bin .add (.t 13) (.t 15), none⟩, ⟨some 5, false, .asg (.t 16), none⟩] [0, 1, 5] [0, 1000]) .skip)) (.seq (.reg false [⟨some 17, false, .mv (.t 5), none⟩, ⟨some 18, false, .mv (.t 1), none⟩, ⟨some 19, false, .bin .rem (.t 17) (.t 18), none⟩, ⟨some 4, false, .asg (.t 19), none⟩] [0, 4] [0, 1000]) .ret))))) }
noncomputable def spec_l00Src_pick_D : List (Nat × Callee) := [(847, spec_l00Src_next_c)]
def spec_l00Src_pick_H : List (Nat × ET) := []
noncomputable def spec_l00Src_pick_c : Callee := mkCallee spec_l00Src_pick_D spec_l00Src_pick_H spec_l00Src_pick_ir [.box T_l00Src, .d (.one (.int .i64))] [.d (.one (.int .i64))] [.box T_l00Src]
noncomputable def spec_l00Src_pick (a0 : T_l00Src.ty) (a1 : Int) : Option (Int × T_l00Src.ty) := spec_l00Src_pick_c.f (a0, a1, ())
theorem spec_l00Src_pick_eq (a0 : T_l00Src.ty) (a1 : Int) : spec_l00Src_pick a0 a1 =
    if decide (a1 ≤ 1) then
      some (0, a0)
    else
      (spec_l00Src_next a0).bind fun x1 =>
        if decide (a1 > 200) then
          (spec_l00Src_next (x1.2.1, x1.2.2.1, x1.2.2.2.1, ())).bind fun x2 =>
            if decide (a1 = 0) then
              none
            else
              some ((IntKind.i64.wrap ((IntKind.i64.wrap (x1.1 * 256)) + x2.1)).tmod a1, (x2.2.1, x2.2.2.1, x2.2.2.2.1, ()))
        else
          if decide (a1 = 0) then
            none
          else
            some (x1.1.tmod a1, (x1.2.1, x1.2.2.1, x1.2.2.2.1, ())) :=
  (mk_f _ _ _ _ _ _ _ 4000).trans (by kernel_rfl)

/- spec.l10DrawOk -/
def spec_l10DrawOk_ir : Fn := { np := 1, io := [true], res := [.cell 2 (some 4)], own := [false], body :=
  (.seq (.reg false [⟨some 2, true, .alloc 4 (.agg [.int .i64 0, .int .i64 0, .int .i64 0, .int .i64 0]), none⟩] [0, 2] [0, 2, 1000]) (.seq (.reg false [⟨some 4, false, .mv (.t 0), none⟩, ⟨some 5, true, .call (.c (.fn 463 [])) [.t 4, .c (.int .i64 40)], none⟩, ⟨some 6, false, .bin .mul (.c (.int .i64 5)) (.t 5), none⟩, ⟨some 7, false, .bin .add (.c (.int .i64 1200)) (.t 6), none⟩, ⟨some 8, false, .mv (.t 0), none⟩, ⟨some 9, true, .call (.c (.fn 463 [])) [.t 8, .c (.int .i64 40)], none⟩, ⟨some 10, false, .bin .mul (.c (.int .i64 5)) (.t 9), none⟩, ⟨some 11, false, .bin .add (.c (.int .i64 1850)) (.t 10), none⟩, ⟨some 12, false, .build [.int .i64 0, .int .i64 0, .int .i64 0, .int .i64 0] [(0, 1, .t 7), (1, 1, .t 11)], none⟩, ⟨some 3, true, .alloc 4 (.agg [.int .i64 0, .int .i64 0, .int .i64 0, .int .i64 0]), none⟩, ⟨none, true, .sto 4 (.t 3) (.t 12), none⟩] [0, 2, 3] [0, 2, 3, 1000]) (.seq (.reg false [⟨some 13, false, .mv (.t 0), none⟩, ⟨some 14, true, .call (.c (.fn 463 [])) [.t 13, .c (.int .i64 50)], none⟩, ⟨some 15, false, .bin .add (.c (.int .i64 40)) (.t 14), none⟩, ⟨some 16, false, .fa 2 (.t 3), none⟩, ⟨none, true, .sto 1 (.t 16) (.t 15), none⟩] [0, 2, 3] [0, 2, 3, 1000]) (.seq (.reg false [⟨some 17, false, .mv (.t 0), none⟩, ⟨some 18, true, .call (.c (.fn 463 [])) [.t 17, .c (.int .i64 90)], none⟩, ⟨some 19, false, .bin .add (.c (.int .i64 60)) (.t 18), none⟩, ⟨some 20, false, .fa 3 (.t 3), none⟩, ⟨none, true, .sto 1 (.t 20) (.t 19), none⟩] [0, 2, 3] [0, 2, 3, 1000]) (.seq (.reg false [⟨some 21, false, .ld (some 4) (.t 3), none⟩, ⟨none, true, .sto 4 (.t 2) (.t 21), none⟩] [0, 2] [0, 2, 1000]) .ret))))) }
noncomputable def spec_l10DrawOk_D : List (Nat × Callee) := [(463, spec_l00Src_pick_c)]
def spec_l10DrawOk_H : List (Nat × ET) := []
noncomputable def spec_l10DrawOk_c : Callee := mkCallee spec_l10DrawOk_D spec_l10DrawOk_H spec_l10DrawOk_ir [.box T_l00Src] [.d T_Neck] [.box T_l00Src]
noncomputable def spec_l10DrawOk (a0 : T_l00Src.ty) : Option (T_Neck.ty × T_l00Src.ty) := spec_l10DrawOk_c.f (a0, ())
theorem spec_l10DrawOk_eq (a0 : T_l00Src.ty) : spec_l10DrawOk a0 =
    (spec_l00Src_pick a0 40).bind fun x1 =>
      (spec_l00Src_pick (x1.2.1, x1.2.2.1, x1.2.2.2.1, ()) 40).bind fun x2 =>
        (spec_l00Src_pick (x2.2.1, x2.2.2.1, x2.2.2.2.1, ()) 50).bind fun x3 =>
          (spec_l00Src_pick (x3.2.1, x3.2.2.1, x3.2.2.2.1, ()) 90).bind fun x4 =>
            some ((IntKind.i64.wrap (1200 + (IntKind.i64.wrap (5 * x1.1))), IntKind.i64.wrap (1850 + (IntKind.i64.wrap (5 * x2.1))), IntKind.i64.wrap (40 + x3.1), IntKind.i64.wrap (60 + x4.1), ()), (x4.2.1, x4.2.2.1, x4.2.2.2.1, ())) :=
  (mk_f _ _ _ _ _ _ _ 4000).trans (by kernel_rfl)

/- (*spec.l00Src).among -/
def spec_l00Src_among_ir : Fn := { np := 2, io := [true, false], res := [.t 4], own := [false], body :=
  (.seq (.reg false [⟨some 4, false, .asg (.c (.int .i64 0)), none⟩] [0, 1] [0, 1000]) (.seq (.reg false [⟨some 5, false, .mv (.t 1), none⟩, ⟨some 6, false, .mv (.t 0), none⟩, ⟨some 7, false, .mv (.t 1), none⟩, ⟨some 8, false, .len (.t 7), none⟩, ⟨some 9, true, .call (.c (.fn 463 [])) [.t 6, .t 8], none⟩, ⟨some 10, false, .ia 1 (.t 5) (.t 9), none⟩, ⟨some 11, false, .ld none (.t 10), none⟩, ⟨some 4, false, .asg (.t 11), none⟩] [0, 4] [0, 1000]) .ret)) }
noncomputable def spec_l00Src_among_D : List (Nat × Callee) := [(463, spec_l00Src_pick_c)]
def spec_l00Src_among_H : List (Nat × ET) := [(5, (.one (.int .i64))), (7, (.one (.int .i64)))]
noncomputable def spec_l00Src_among_c : Callee := mkCallee spec_l00Src_among_D spec_l00Src_among_H spec_l00Src_among_ir [.box T_l00Src, .d (.one (.sl (.one (.int .i64))))] [.d (.one (.int .i64))] [.box T_l00Src]
noncomputable def spec_l00Src_among (a0 : T_l00Src.ty) (a1 : List Int) : Option (Int × T_l00Src.ty) := spec_l00Src_among_c.f (a0, a1, ())
theorem spec_l00Src_among_eq (a0 : T_l00Src.ty) (a1 : List Int) : spec_l00Src_among a0 a1 =
    (spec_l00Src_pick a0 (a1.length : Int)).bind fun x1 =>
      if decide (0 ≤ x1.1) then
        (a1[x1.1.toNat]?).bind fun x2 =>
          some (x2, (x1.2.1, x1.2.2.1, x1.2.2.2.1, ()))
      else
        none :=
  (mk_f _ _ _ _ _ _ _ 4000).trans (by kernel_rfl)

/- spec.l10Draw -/
def spec_l10Draw_ir : Fn := { np := 1, io := [true], res := [.cell 2 (some 4)], own := [false], body :=
  (.seq (.reg false [⟨some 2, true, .alloc 4 (.agg [.int .i64 0, .int .i64 0, .int .i64 0, .int .i64 0]), none⟩] [0, 2] [0, 2, 1000]) (.seq (.reg false [⟨some 4, false, .mv (.t 0), none⟩, ⟨some 5, true, .call (.c (.fn 843 [])) [.t 4], none⟩, ⟨some 3, true, .alloc 4 (.agg [.int .i64 0, .int .i64 0, .int .i64 0, .int .i64 0]), none⟩, ⟨none, true, .sto 4 (.t 3) (.t 5), none⟩] [0, 2, 3] [0, 2, 3, 1000]) (.seq (.seq (.reg false [⟨some 6, false, .mv (.t 0), none⟩, ⟨some 7, true, .call (.c (.fn 463 [])) [.t 6, .c (.int .i64 20)], none⟩] [0, 2, 3, 7] [0, 2, 3, 1000]) (.block 0 (.seq (.reg false [⟨some 9, false, .bin .eql (.t 7) (.c (.int .i64 0)), none⟩, ⟨some 8, false, .asg (.t 9), none⟩] [0, 2, 3, 7, 8] [0, 2, 3, 1000]) (.cond (.t 8) (.reg false [⟨some 10, false, .mv (.t 0), none⟩, ⟨some 11, false, .bsl 1 (.int .i64 0) 4 [(0, .c (.int .i64 99)), (1, .c (.int .i64 100)), (2, .c (.int .i64 10000)), (3, .c (.int .i64 10001))], none⟩, ⟨some 12, true, .call (.c (.fn 445 [])) [.t 10, .t 11], none⟩, ⟨some 13, false, .fa 0 (.t 3), none⟩, ⟨none, true, .sto 1 (.t 13) (.t 12), none⟩] [0, 2, 3] [0, 2, 3, 1000]) (.seq (.reg false [⟨some 15, false, .bin .eql (.t 7) (.c (.int .i64 1)), none⟩, ⟨some 14, false, .asg (.t 15), none⟩] [0, 2, 3, 7, 14] [0, 2, 3, 1000]) (.cond (.t 14) (.reg false [⟨some 16, false, .mv (.t 0), none⟩, ⟨some 17, false, .bsl 1 (.int .i64 0) 4 [(0, .c (.int .i64 99)), (1, .c (.int .i64 100)), (2, .c (.int .i64 10000)), (3, .c (.int .i64 10001))], none⟩, ⟨some 18, true, .call (.c (.fn 445 [])) [.t 16, .t 17], none⟩, ⟨some 19, false, .fa 1 (.t 3), none⟩, ⟨none, true, .sto 1 (.t 19) (.t 18), none⟩] [0, 2, 3] [0, 2, 3, 1000]) (.seq (.reg false [⟨some 21, false, .bin .eql (.t 7) (.c (.int .i64 2)), none⟩, ⟨some 20, false, .asg (.t 21), none⟩] [0, 2, 3, 7, 20] [0, 2, 3, 1000]) (.cond (.t 20) (.reg false [⟨some 22, false, .mv (.t 0), none⟩, ⟨some 23, false, .bsl 1 (.int .i64 0) 4 [(0, .c (.int .i64 (-1))), (1, .c (.int .i64 0)), (2, .c (.int .i64 500)), (3, .c (.int .i64 501))], none⟩, ⟨some 24, true, .call (.c (.fn 445 [])) [.t 22, .t 23], none⟩, ⟨some 25, false, .fa 2 (.t 3), none⟩, ⟨none, true, .sto 1 (.t 25) (.t 24), none⟩] [0, 2, 3] [0, 2, 3, 1000]) (.seq (.reg false [⟨some 27, false, .bin .eql (.t 7) (.c (.int .i64 3)), none⟩, ⟨some 26, false, .asg (.t 27), none⟩] [0, 2, 3, 26] [0, 2, 3, 1000]) (.cond (.t 26) (.reg false [⟨some 28, false, .mv (.t 0), none⟩, ⟨some 29, false, .bsl 1 (.int .i64 0) 4 [(0, .c (.int .i64 (-1))), (1, .c (.int .i64 0)), (2, .c (.int .i64 300)), (3, .c (.int .i64 301))], none⟩, ⟨some 30, true, .call (.c (.fn 445 [])) [.t 28, .t 29], none⟩, ⟨some 31, false, .fa 3 (.t 3), none⟩, ⟨none, true, .sto 1 (.t 31) (.t 30), none⟩] [0, 2, 3] [0, 2, 3, 1000]) .skip)))))))))) (.seq (.reg false [⟨some 32, false, .ld (some 4) (.t 3), none⟩, ⟨none, true, .sto 4 (.t 2) (.t 32), none⟩] [0, 2] [0, 2, 1000]) .ret)))) }
noncomputable def spec_l10Draw_D : List (Nat × Callee) := [(445, spec_l00Src_among_c), (463, spec_l00Src_pick_c), (843, spec_l10DrawOk_c)]
def spec_l10Draw_H : List (Nat × ET) := [(11, (.one (.int .i64))), (17, (.one (.int .i64))), (23, (.one (.int .i64))), (29, (.one (.int .i64)))]
noncomputable def spec_l10Draw_c : Callee := mkCallee spec_l10Draw_D spec_l10Draw_H spec_l10Draw_ir [.box T_l00Src] [.d T_Neck] [.box T_l00Src]
noncomputable def spec_l10Draw (a0 : T_l00Src.ty) : Option (T_Neck.ty × T_l00Src.ty) := spec_l10Draw_c.f (a0, ())
theorem spec_l10Draw_eq (a0 : T_l00Src.ty) : spec_l10Draw a0 =
    (spec_l10DrawOk a0).bind fun x1 =>
      (spec_l00Src_pick (x1.2.1, x1.2.2.1, x1.2.2.2.1, ()) 20).bind fun x2 =>
        if (x2.1 == 0) then
          (spec_l00Src_among (x2.2.1, x2.2.2.1, x2.2.2.2.1, ()) [99, 100, 10000, 10001]).bind fun x3 =>
            some ((x3.1, x1.1.2.1, x1.1.2.2.1, x1.1.2.2.2.1, ()), (x3.2.1, x3.2.2.1, x3.2.2.2.1, ()))
        else
          if (x2.1 == 1) then
            (spec_l00Src_among (x2.2.1, x2.2.2.1, x2.2.2.2.1, ()) [99, 100, 10000, 10001]).bind fun x4 =>
              some ((x1.1.1, x4.1, x1.1.2.2.1, x1.1.2.2.2.1, ()), (x4.2.1, x4.2.2.1, x4.2.2.2.1, ()))
          else
            if (x2.1 == 2) then
              (spec_l00Src_among (x2.2.1, x2.2.2.1, x2.2.2.2.1, ()) [(-1), 0, 500, 501]).bind fun x5 =>
                some ((x1.1.1, x1.1.2.1, x5.1, x1.1.2.2.2.1, ()), (x5.2.1, x5.2.2.1, x5.2.2.2.1, ()))
            else
              if (x2.1 == 3) then
                (spec_l00Src_among (x2.2.1, x2.2.2.1, x2.2.2.2.1, ()) [(-1), 0, 300, 301]).bind fun x6 =>
                  some ((x1.1.1, x1.1.2.1, x1.1.2.2.1, x6.1, ()), (x6.2.1, x6.2.2.1, x6.2.2.2.1, ()))
              else
                some ((x1.1.1, x1.1.2.1, x1.1.2.2.1, x1.1.2.2.2.1, ()), (x2.2.1, x2.2.2.1, x2.2.2.2.1, ())) :=
  (mk_f _ _ _ _ _ _ _ 4000).trans (by kernel_rfl)

/- (*spec.l00Src).one -/
def spec_l00Src_one_ir : Fn := { np := 2, io := [true, false], res := [.t 4], own := [false], body :=
  (.seq (.reg false [⟨some 4, false, .asg (.c (.bool false)), none⟩] [0, 1] [0, 1000]) (.seq (.reg false [⟨some 5, false, .mv (.t 0), none⟩, ⟨some 6, false, .mv (.t 1), none⟩, ⟨some 7, true, .call (.c (.fn 463 [])) [.t 5, .t 6], none⟩, ⟨some 8, false, .bin .eql (.t 7) (.c (.int .i64 0)), none⟩, ⟨some 4, false, .asg (.t 8), none⟩] [0, 4] [0, 1000]) .ret)) }
noncomputable def spec_l00Src_one_D : List (Nat × Callee) := [(463, spec_l00Src_pick_c)]
def spec_l00Src_one_H : List (Nat × ET) := []
noncomputable def spec_l00Src_one_c : Callee := mkCallee spec_l00Src_one_D spec_l00Src_one_H spec_l00Src_one_ir [.box T_l00Src, .d (.one (.int .i64))] [.d (.one .bool)] [.box T_l00Src]
noncomputable def spec_l00Src_one (a0 : T_l00Src.ty) (a1 : Int) : Option (Bool × T_l00Src.ty) := spec_l00Src_one_c.f (a0, a1, ())
theorem spec_l00Src_one_eq (a0 : T_l00Src.ty) (a1 : Int) : spec_l00Src_one a0 a1 =
    (spec_l00Src_pick a0 a1).bind fun x1 =>
      some ((x1.1 == 0), (x1.2.1, x1.2.2.1, x1.2.2.2.1, ())) :=
  (mk_f _ _ _ _ _ _ _ 4000).trans (by kernel_rfl)

/- spec.l10DrawList -/
def spec_l10DrawList_k0 : C :=
  .seq (.seq (.reg false [⟨some 10, false, .mv (.t 4), none⟩, ⟨some 11, false, .bin .gtr (.t 10) (.c (.int .i64 0)), none⟩] [0, 3, 4, 11] [0, 3, 1000]) (.cond (.t 11) .skip (.exit 0))) (.seq (.block 1 (.reg false [⟨some 14, false, .mv (.t 3), none⟩, ⟨some 15, false, .mv (.t 0), none⟩, ⟨some 16, true, .call (.c (.fn 439 [])) [.t 15], none⟩, ⟨some 17, false, .bsl 4 (.agg [.int .i64 0, .int .i64 0, .int .i64 0, .int .i64 0]) 1 [(0, .t 16)], none⟩, ⟨some 18, true, .app 4 32 (.t 14) (.t 17), none⟩, ⟨some 3, true, .asg (.t 18), none⟩] [0, 3, 4] [0, 3, 1000])) (.reg false [⟨some 12, false, .mv (.t 4), none⟩, ⟨some 13, false, .bin .sub (.t 12) (.c (.int .i64 1)), none⟩, ⟨some 4, false, .asg (.t 13), none⟩] [0, 3, 4] [0, 3, 1000]))
def spec_l10DrawList_k1 : C :=
  .norm [0, 3, 4] [0, 3, 1000] spec_l10DrawList_k0
def spec_l10DrawList_k2 : C :=
  .seq (.seq (.reg false [⟨some 27, false, .mv (.t 3), none⟩, ⟨some 28, false, .len (.t 27), none⟩, ⟨some 29, false, .mv (.t 5), none⟩, ⟨some 30, false, .bin .lss (.t 28) (.t 29), none⟩] [0, 3, 5, 6, 30] [0, 3, 6, 1000]) (.cond (.t 30) .skip (.exit 2))) (.block 3 (.reg false [⟨some 31, false, .mv (.t 3), none⟩, ⟨some 32, false, .ld (some 4) (.t 6), none⟩, ⟨some 33, false, .bsl 4 (.agg [.int .i64 0, .int .i64 0, .int .i64 0, .int .i64 0]) 1 [(0, .t 32)], none⟩, ⟨some 34, true, .app 4 32 (.t 31) (.t 33), none⟩, ⟨some 3, true, .asg (.t 34), none⟩] [0, 3, 5, 6] [0, 3, 6, 1000]))
def spec_l10DrawList_k3 : C :=
  .norm [0, 3, 5, 6] [0, 3, 6, 1000] spec_l10DrawList_k2
def spec_l10DrawList_k4 : C :=
  .seq (.reg false [⟨some 35, false, .mv (.t 3), none⟩, ⟨some 2, true, .asg (.t 35), none⟩] [0, 2] [0, 2, 3, 1000]) .ret
def spec_l10DrawList_k5 : C :=
  .seq (.seq (.reg false [⟨some 19, false, .mv (.t 0), none⟩, ⟨some 20, true, .call (.c (.fn 642 [])) [.t 19, .c (.int .i64 16)], none⟩] [0, 3, 20] [0, 3, 1000]) (.cond (.t 20) (.seq (.reg false [⟨some 21, false, .mv (.t 0), none⟩, ⟨some 22, false, .bsl 1 (.int .i64 0) 2 [(0, .c (.int .i64 64)), (1, .c (.int .i64 65))], none⟩, ⟨some 23, true, .call (.c (.fn 445 [])) [.t 21, .t 22], none⟩, ⟨some 5, false, .asg (.t 23), none⟩] [0, 5] [0, 1000]) (.seq (.reg false [⟨some 24, false, .mv (.t 0), none⟩, ⟨some 25, true, .call (.c (.fn 843 [])) [.t 24], none⟩, ⟨some 6, true, .alloc 4 (.agg [.int .i64 0, .int .i64 0, .int .i64 0, .int .i64 0]), none⟩, ⟨none, true, .sto 4 (.t 6) (.t 25), none⟩] [0, 5, 6] [0, 6, 1000]) (.seq (.reg false [⟨some 26, false, .bsl 4 (.agg [.int .i64 0, .int .i64 0, .int .i64 0, .int .i64 0]) 0 [], none⟩, ⟨some 3, true, .asg (.t 26), none⟩] [0, 3, 5, 6] [0, 3, 6, 1000]) (.block 2 (.loop spec_l10DrawList_k3))))) .skip)) spec_l10DrawList_k4
def spec_l10DrawList_ir : Fn := { np := 1, io := [true], res := [.t 2], own := [true], body :=
  (.seq (.reg false [⟨some 2, true, .asg (.c (.nils 4)), none⟩] [0] [0, 1000]) (.seq (.reg false [⟨some 7, false, .bsl 4 (.agg [.int .i64 0, .int .i64 0, .int .i64 0, .int .i64 0]) 0 [], none⟩, ⟨some 3, true, .asg (.t 7), none⟩] [0, 3] [0, 3, 1000]) (.seq (.seq (.reg false [⟨some 8, false, .mv (.t 0), none⟩, ⟨some 9, true, .call (.c (.fn 463 [])) [.t 8, .c (.int .i64 6)], none⟩, ⟨some 4, false, .asg (.t 9), none⟩] [0, 3, 4] [0, 3, 1000]) (.block 0 (.loop spec_l10DrawList_k1))) spec_l10DrawList_k5))) }
noncomputable def spec_l10DrawList_D : List (Nat × Callee) := [(439, spec_l10Draw_c), (445, spec_l00Src_among_c), (463, spec_l00Src_pick_c), (642, spec_l00Src_one_c), (843, spec_l10DrawOk_c)]
def spec_l10DrawList_H : List (Nat × ET) := [(2, T_Neck), (3, T_Neck), (7, T_Neck), (14, T_Neck), (17, T_Neck), (18, T_Neck), (22, (.one (.int .i64))), (26, T_Neck), (27, T_Neck), (31, T_Neck), (33, T_Neck), (34, T_Neck), (35, T_Neck)]
noncomputable def spec_l10DrawList_c : Callee := mkCallee spec_l10DrawList_D spec_l10DrawList_H spec_l10DrawList_ir [.box T_l00Src] [.tok T_Neck] [.box T_l00Src]
noncomputable def spec_l10DrawList (a0 : T_l00Src.ty) : Option (List T_Neck.ty × T_l00Src.ty) := spec_l10DrawList_c.f (a0, ())
noncomputable def spec_l10DrawList_p0  (v4 : Int) (r0_0 : List Int) (r0_1 : Int) (r0_2 : Int) (r3 : List T_Neck.ty) : Option (List T_Neck.ty × T_l00Src.ty) :=
  goL spec_l10DrawList_D spec_l10DrawList_H (vleave spec_l10DrawList_ir [.box T_l00Src] [.tok T_Neck] [.box T_l00Src] []) [.c spec_l10DrawList_k0, .l spec_l10DrawList_k1, .e 0, .c spec_l10DrawList_k5]
    ⟨[(0, .loc 0 0 0), (3, .view 3 0 r3.length), (4, .int .i64 v4)], [(0, some (.var 3 (.agg [.sl (.one (.int .u8)) r0_0, .int .i64 r0_1, .int .u64 r0_2]))), (3, some (.sl T_Neck r3)), (1000, none)]⟩
noncomputable def spec_l10DrawList_p1  (v5 : Int) (r0_0 : List Int) (r0_1 : Int) (r0_2 : Int) (r3 : List T_Neck.ty) (r6_0 : Int) (r6_1 : Int) (r6_2 : Int) (r6_3 : Int) : Option (List T_Neck.ty × T_l00Src.ty) :=
  goL spec_l10DrawList_D spec_l10DrawList_H (vleave spec_l10DrawList_ir [.box T_l00Src] [.tok T_Neck] [.box T_l00Src] []) [.c spec_l10DrawList_k2, .l spec_l10DrawList_k3, .e 2, .c spec_l10DrawList_k4]
    ⟨[(0, .loc 0 0 0), (3, .view 3 0 r3.length), (5, .int .i64 v5), (6, .loc 6 0 0)], [(0, some (.var 3 (.agg [.sl (.one (.int .u8)) r0_0, .int .i64 r0_1, .int .u64 r0_2]))), (3, some (.sl T_Neck r3)), (6, some (.var 4 (.agg [.int .i64 r6_0, .int .i64 r6_1, .int .i64 r6_2, .int .i64 r6_3]))), (1000, none)]⟩
theorem spec_l10DrawList_eq (a0 : T_l00Src.ty) : spec_l10DrawList a0 =
    (spec_l00Src_pick a0 6).bind fun x1 =>
      spec_l10DrawList_p0 x1.1 x1.2.1 x1.2.2.1 x1.2.2.2.1 [] :=
  (mk_f _ _ _ _ _ _ _ 4000).trans (by kernel_rfl)
theorem spec_l10DrawList_p0_eq  (v4 : Int) (r0_0 : List Int) (r0_1 : Int) (r0_2 : Int) (r3 : List T_Neck.ty) : spec_l10DrawList_p0 v4 r0_0 r0_1 r0_2 r3 =
    if decide (v4 > 0) then
      (spec_l10Draw (r0_0, r0_1, r0_2, ())).bind fun x1 =>
        if decide (r3.length + 1 < lim) then
          spec_l10DrawList_p0 (IntKind.i64.wrap (v4 - 1)) x1.2.1 x1.2.2.1 x1.2.2.2.1 ((r3.take r3.length) ++ [(x1.1.1, x1.1.2.1, x1.1.2.2.1, x1.1.2.2.2.1, ())])
        else
          none
    else
      (spec_l00Src_one (r0_0, r0_1, r0_2, ()) 16).bind fun x2 =>
        if x2.1 then
          (spec_l00Src_among (x2.2.1, x2.2.2.1, x2.2.2.2.1, ()) [64, 65]).bind fun x3 =>
            (spec_l10DrawOk (x3.2.1, x3.2.2.1, x3.2.2.2.1, ())).bind fun x4 =>
              spec_l10DrawList_p1 x3.1 x4.2.1 x4.2.2.1 x4.2.2.2.1 [] x4.1.1 x4.1.2.1 x4.1.2.2.1 x4.1.2.2.2.1
        else
          some ((r3.take r3.length), (x2.2.1, x2.2.2.1, x2.2.2.2.1, ())) :=
  (goL_dn _ _ _ 4000 _ _).trans (by kernel_rfl)
theorem spec_l10DrawList_p1_eq  (v5 : Int) (r0_0 : List Int) (r0_1 : Int) (r0_2 : Int) (r3 : List T_Neck.ty) (r6_0 : Int) (r6_1 : Int) (r6_2 : Int) (r6_3 : Int) : spec_l10DrawList_p1 v5 r0_0 r0_1 r0_2 r3 r6_0 r6_1 r6_2 r6_3 =
    if decide ((r3.length : Int) < v5) then
      if decide (r3.length + 1 < lim) then
        spec_l10DrawList_p1 v5 r0_0 r0_1 r0_2 ((r3.take r3.length) ++ [(r6_0, r6_1, r6_2, r6_3, ())]) r6_0 r6_1 r6_2 r6_3
      else
        none
    else
      some ((r3.take r3.length), (r0_0, r0_1, r0_2, ())) :=
  (goL_dn _ _ _ 4000 _ _).trans (by kernel_rfl)

/- spec.DrawNearestNeck -/
def spec_DrawNearestNeck_ir : Fn := { np := 1, io := [], res := [.t 2, .cell 3 (some 4)], own := [true, false], body :=
  (.seq (.reg false [⟨some 2, true, .asg (.c (.nils 4)), none⟩, ⟨some 3, true, .alloc 4 (.agg [.int .i64 0, .int .i64 0, .int .i64 0, .int .i64 0]), none⟩] [0, 3] [3]) (.seq (.reg false [⟨some 6, false, .mv (.t 0), none⟩, ⟨some 7, true, .call (.c (.fn 441 [])) [.t 6], none⟩, ⟨some 4, false, .asg (.t 7), none⟩] [3, 4] [3, 7, 8000]) (.seq (.reg false [⟨some 8, false, .mv (.t 4), none⟩, ⟨some 9, true, .call (.c (.fn 440 [])) [.t 8], none⟩, ⟨some 5, true, .asg (.t 9), none⟩] [3, 4, 5] [3, 5, 7, 8000]) (.seq (.reg false [⟨some 10, false, .mv (.t 5), none⟩, ⟨some 11, false, .mv (.t 4), none⟩, ⟨some 12, true, .call (.c (.fn 439 [])) [.t 11], none⟩, ⟨some 2, true, .asg (.t 10), none⟩, ⟨none, true, .sto 4 (.t 3) (.t 12), none⟩] [2, 3] [2, 3, 5]) .ret)))) }
noncomputable def spec_DrawNearestNeck_D : List (Nat × Callee) := [(439, spec_l10Draw_c), (440, spec_l10DrawList_c), (441, spec_l00From_c)]
def spec_DrawNearestNeck_H : List (Nat × ET) := [(2, T_Neck), (5, T_Neck), (6, (.one (.int .u8))), (9, T_Neck), (10, T_Neck)]
noncomputable def spec_DrawNearestNeck_c : Callee := mkCallee spec_DrawNearestNeck_D spec_DrawNearestNeck_H spec_DrawNearestNeck_ir [.d (.one (.sl (.one (.int .u8))))] [.tok T_Neck, .d T_Neck] []
noncomputable def spec_DrawNearestNeck (a0 : List Int) : Option (List T_Neck.ty × T_Neck.ty) := spec_DrawNearestNeck_c.f (a0, ())
theorem spec_DrawNearestNeck_eq (a0 : List Int) : spec_DrawNearestNeck a0 =
    (spec_l00From a0).bind fun x1 =>
      (spec_l10DrawList x1).bind fun x2 =>
        (spec_l10Draw (x2.2.1, x2.2.2.1, x2.2.2.2.1, ())).bind fun x3 =>
          some ((x2.1.take x2.1.length), (x3.1.1, x3.1.2.1, x3.1.2.2.1, x3.1.2.2.2.1, ())) :=
  (mk_f _ _ _ _ _ _ _ 4000).trans (by kernel_rfl)

/- impl.within -/
def impl_within_ir : Fn := { np := 3, io := [], res := [.t 6], own := [false], body :=
  (.seq (.reg false [⟨some 6, false, .asg (.c (.bool false)), none⟩] [0, 1, 2] []) (.seq (.reg false [⟨some 7, false, .mv (.t 1), none⟩, ⟨some 8, false, .mv (.t 0), none⟩, ⟨some 9, false, .bin .leq (.t 7) (.t 8), none⟩, ⟨some 10, false, .mv (.t 9), none⟩, ⟨some 11, false, .mv (.t 0), some (3, true)⟩, ⟨some 12, false, .mv (.t 2), some (3, true)⟩, ⟨some 13, false, .bin .leq (.t 11) (.t 12), some (3, true)⟩, ⟨some 14, false, .pick (.t 10) (.t 13) (.c (.bool false)), none⟩, ⟨some 6, false, .asg (.t 14), none⟩] [6] []) .ret)) }
noncomputable def impl_within_D : List (Nat × Callee) := []
def impl_within_H : List (Nat × ET) := []
noncomputable def impl_within_c : Callee := mkCallee impl_within_D impl_within_H impl_within_ir [.d (.one (.int .i64)), .d (.one (.int .i64)), .d (.one (.int .i64))] [.d (.one .bool)] []
noncomputable def impl_within (a0 : Int) (a1 : Int) (a2 : Int) : Option (Bool) := impl_within_c.f (a0, a1, a2, ())
theorem impl_within_eq (a0 : Int) (a1 : Int) (a2 : Int) : impl_within a0 a1 a2 =
    if decide (a1 ≤ a0) then
      some (decide (a0 ≤ a2))
    else
      some false :=
  (mk_f _ _ _ _ _ _ _ 4000).trans (by kernel_rfl)

/- impl.ValidNeck -/
def impl_ValidNeck_ir : Fn := { np := 1, io := [], res := [.t 2], own := [false], body :=
  (.seq (.reg false [⟨some 1, true, .box 4 (.t 0), none⟩, ⟨some 2, false, .asg (.c (.bool false)), none⟩] [1] [1]) (.seq (.reg false [⟨some 3, false, .fa 0 (.t 1), none⟩, ⟨some 4, false, .ld none (.t 3), none⟩, ⟨some 5, false, .call (.c (.fn 23 [])) [.t 4, .c (.int .i64 100), .c (.int .i64 10000)], none⟩, ⟨some 6, false, .mv (.t 5), none⟩, ⟨some 7, false, .fa 1 (.t 1), some (3, true)⟩, ⟨some 8, false, .ld none (.t 7), some (3, true)⟩, ⟨some 9, false, .call (.c (.fn 23 [])) [.t 8, .c (.int .i64 100), .c (.int .i64 10000)], some (3, true)⟩, ⟨some 10, false, .pick (.t 6) (.t 9) (.c (.bool false)), none⟩, ⟨some 11, false, .mv (.t 10), none⟩, ⟨some 12, false, .fa 2 (.t 1), some (8, true)⟩, ⟨some 13, false, .ld none (.t 12), some (8, true)⟩, ⟨some 14, false, .call (.c (.fn 23 [])) [.t 13, .c (.int .i64 0), .c (.int .i64 500)], some (8, true)⟩, ⟨some 15, false, .pick (.t 11) (.t 14) (.c (.bool false)), none⟩, ⟨some 16, false, .mv (.t 15), none⟩, ⟨some 17, false, .fa 3 (.t 1), some (13, true)⟩, ⟨some 18, false, .ld none (.t 17), some (13, true)⟩, ⟨some 19, false, .call (.c (.fn 23 [])) [.t 18, .c (.int .i64 0), .c (.int .i64 300)], some (13, true)⟩, ⟨some 20, false, .pick (.t 16) (.t 19) (.c (.bool false)), none⟩, ⟨some 2, false, .asg (.t 20), none⟩] [2] []) .ret)) }
noncomputable def impl_ValidNeck_D : List (Nat × Callee) := [(23, impl_within_c)]
def impl_ValidNeck_H : List (Nat × ET) := []
noncomputable def impl_ValidNeck_c : Callee := mkCallee impl_ValidNeck_D impl_ValidNeck_H impl_ValidNeck_ir [.d T_Neck] [.d (.one .bool)] []
noncomputable def impl_ValidNeck (a0 : T_Neck.ty) : Option (Bool) := impl_ValidNeck_c.f (a0, ())
theorem impl_ValidNeck_eq (a0 : T_Neck.ty) : impl_ValidNeck a0 =
    (impl_within a0.1 100 10000).bind fun x1 =>
      if x1 then
        (impl_within a0.2.1 100 10000).bind fun x2 =>
          if x2 then
            (impl_within a0.2.2.1 0 500).bind fun x3 =>
              if x3 then
                (impl_within a0.2.2.2.1 0 300).bind fun x4 =>
                  some x4
              else
                some false
          else
            some false
      else
        some false :=
  (mk_f _ _ _ _ _ _ _ 4000).trans (by kernel_rfl)

/- impl.few -/
def impl_few_ir : Fn := { np := 2, io := [], res := [.t 4], own := [false], body :=
  (.seq (.reg false [⟨some 4, false, .asg (.c (.bool false)), none⟩] [0, 1] []) (.seq (.reg false [⟨some 5, false, .mv (.t 0), none⟩, ⟨some 6, false, .mv (.t 1), none⟩, ⟨some 7, false, .bin .leq (.t 5) (.t 6), none⟩, ⟨some 4, false, .asg (.t 7), none⟩] [4] []) .ret)) }
noncomputable def impl_few_D : List (Nat × Callee) := []
def impl_few_H : List (Nat × ET) := []
noncomputable def impl_few_c : Callee := mkCallee impl_few_D impl_few_H impl_few_ir [.d (.one (.int .i64)), .d (.one (.int .i64))] [.d (.one .bool)] []
noncomputable def impl_few (a0 : Int) (a1 : Int) : Option (Bool) := impl_few_c.f (a0, a1, ())
theorem impl_few_eq (a0 : Int) (a1 : Int) : impl_few a0 a1 =
    some (decide (a0 ≤ a1)) :=
  (mk_f _ _ _ _ _ _ _ 4000).trans (by kernel_rfl)

/- impl.necksCode -/
def impl_necksCode_k0 : C :=
  .seq (.reg false [⟨some 8, false, .bin .lss (.t 7) (.t 6), none⟩] [0, 5, 6, 7, 8] []) (.seq (.cond (.t 8) .skip (.exit 0)) (.seq (.block 1 (.seq (.reg false [⟨some 9, false, .ia 4 (.t 5) (.t 7), none⟩, ⟨some 10, false, .ld (some 4) (.t 9), none⟩, ⟨some 4, true, .alloc 4 (.agg [.int .i64 0, .int .i64 0, .int .i64 0, .int .i64 0]), none⟩, ⟨none, true, .sto 4 (.t 4) (.t 10), none⟩] [0, 4, 5, 6, 7] [4]) (.seq (.reg false [⟨some 11, false, .ld (some 4) (.t 4), none⟩, ⟨some 12, false, .call (.c (.fn 444 [])) [.t 11], none⟩, ⟨some 13, false, .un .not (.t 12), none⟩] [0, 5, 6, 7, 13] []) (.cond (.t 13) (.seq (.reg false [⟨some 2, false, .asg (.c (.int .i64 1)), none⟩] [2] []) .ret) .skip)))) (.reg false [⟨some 14, false, .bin .add (.t 7) (.c (.int .i64 1)), none⟩, ⟨some 7, false, .mv (.t 14), none⟩] [0, 5, 6, 7] [])))
def impl_necksCode_k1 : C :=
  .norm [0, 5, 6, 7] [] impl_necksCode_k0
def impl_necksCode_k2 : C :=
  .seq (.seq (.reg false [⟨some 15, false, .mv (.t 0), none⟩, ⟨some 16, false, .len (.t 15), none⟩, ⟨some 17, false, .call (.c (.fn 21 [])) [.t 16, .c (.int .i64 64)], none⟩, ⟨some 18, false, .un .not (.t 17), none⟩] [18] []) (.cond (.t 18) (.seq (.reg false [⟨some 2, false, .asg (.c (.int .i64 2)), none⟩] [2] []) .ret) .skip)) (.seq (.reg false [⟨some 2, false, .asg (.c (.int .i64 0)), none⟩] [2] []) .ret)
def impl_necksCode_ir : Fn := { np := 1, io := [], res := [.t 2], own := [false], body :=
  (.seq (.reg false [⟨some 2, false, .asg (.c (.int .i64 0)), none⟩] [0] []) (.seq (.seq (.reg false [⟨some 5, false, .mv (.t 0), none⟩, ⟨some 6, false, .len (.t 5), none⟩, ⟨some 7, false, .mv (.c (.int .i64 0)), none⟩] [0, 5, 6, 7] []) (.block 0 (.loop impl_necksCode_k1))) impl_necksCode_k2)) }
noncomputable def impl_necksCode_D : List (Nat × Callee) := [(21, impl_few_c), (444, impl_ValidNeck_c)]
def impl_necksCode_H : List (Nat × ET) := [(5, T_Neck), (15, T_Neck)]
noncomputable def impl_necksCode_c : Callee := mkCallee impl_necksCode_D impl_necksCode_H impl_necksCode_ir [.d (.one (.sl T_Neck))] [.d (.one (.int .i64))] []
noncomputable def impl_necksCode (a0 : List T_Neck.ty) : Option (Int) := impl_necksCode_c.f (a0, ())
noncomputable def impl_necksCode_p0  (v0 : List T_Neck.ty) (v5 : List T_Neck.ty) (v6 : Int) (v7 : Int) : Option (Int) :=
  goL impl_necksCode_D impl_necksCode_H (vleave impl_necksCode_ir [.d (.one (.sl T_Neck))] [.d (.one (.int .i64))] [] []) [.c impl_necksCode_k0, .l impl_necksCode_k1, .e 0, .c impl_necksCode_k2]
    ⟨[(0, .sl T_Neck v0), (5, .sl T_Neck v5), (6, .int .i64 v6), (7, .int .i64 v7)], []⟩
theorem impl_necksCode_eq (a0 : List T_Neck.ty) : impl_necksCode a0 =
    impl_necksCode_p0 a0 a0 (a0.length : Int) 0 :=
  (mk_f _ _ _ _ _ _ _ 4000).trans (by kernel_rfl)
theorem impl_necksCode_p0_eq  (v0 : List T_Neck.ty) (v5 : List T_Neck.ty) (v6 : Int) (v7 : Int) : impl_necksCode_p0 v0 v5 v6 v7 =
    if decide (v7 < v6) then
      if decide (0 ≤ v7) then
        (v5[v7.toNat]?).bind fun x1 =>
          (impl_ValidNeck x1).bind fun x2 =>
            if (!x2) then
              some 1
            else
              impl_necksCode_p0 v0 v5 v6 (IntKind.i64.wrap (v7 + 1))
      else
        none
    else
      (impl_few (v0.length : Int) 64).bind fun x3 =>
        if (!x3) then
          some 2
        else
          some 0 :=
  (goL_dn _ _ _ 4000 _ _).trans (by kernel_rfl)

/- impl.distance -/
def impl_distance_ir : Fn := { np := 2, io := [], res := [.t 4], own := [false], body :=
  (.seq (.reg false [⟨some 4, false, .asg (.c (.int .i64 0)), none⟩] [0, 1] []) (.seq (.reg false [⟨some 5, false, .mv (.t 0), none⟩, ⟨some 6, false, .mv (.t 1), none⟩, ⟨some 7, false, .bin .sub (.t 5) (.t 6), none⟩, ⟨some 8, false, .mv (.t 1), none⟩, ⟨some 9, false, .mv (.t 0), none⟩, ⟨some 10, false, .bin .sub (.t 8) (.t 9), none⟩, ⟨some 11, false, .max [.t 7, .t 10], none⟩, ⟨some 4, false, .asg (.t 11), none⟩] [4] []) .ret)) }
noncomputable def impl_distance_D : List (Nat × Callee) := []
def impl_distance_H : List (Nat × ET) := []
noncomputable def impl_distance_c : Callee := mkCallee impl_distance_D impl_distance_H impl_distance_ir [.d (.one (.int .i64)), .d (.one (.int .i64))] [.d (.one (.int .i64))] []
noncomputable def impl_distance (a0 : Int) (a1 : Int) : Option (Int) := impl_distance_c.f (a0, a1, ())
theorem impl_distance_eq (a0 : Int) (a1 : Int) : impl_distance a0 a1 =
    some (if IntKind.i64.wrap (a1 - a0) > IntKind.i64.wrap (a0 - a1) then IntKind.i64.wrap (a1 - a0) else IntKind.i64.wrap (a0 - a1)) :=
  (mk_f _ _ _ _ _ _ _ 4000).trans (by kernel_rfl)

/- (impl.Neck).away -/
def impl_Neck_away_ir : Fn := { np := 2, io := [], res := [.t 4], own := [false], body :=
  (.seq (.reg false [⟨some 2, true, .box 4 (.t 0), none⟩, ⟨some 3, true, .box 4 (.t 1), none⟩, ⟨some 4, false, .asg (.c (.int .i64 0)), none⟩] [2, 3] [2, 3]) (.seq (.reg true [⟨some 5, false, .fa 0 (.t 2), none⟩, ⟨some 6, false, .ld none (.t 5), none⟩, ⟨some 7, false, .fa 0 (.t 3), none⟩, ⟨some 8, false, .ld none (.t 7), none⟩, ⟨some 9, false, .call (.c (.fn 448 [])) [.t 6, .t 8], none⟩, ⟨some 10, false, .fa 1 (.t 2), none⟩, ⟨some 11, false, .ld none (.t 10), none⟩, ⟨some 12, false, .fa 1 (.t 3), none⟩, ⟨some 13, false, .ld none (.t 12), none⟩, ⟨some 14, false, .call (.c (.fn 448 [])) [.t 11, .t 13], none⟩, ⟨some 15, false, .bin .add (.t 9) (.t 14), none⟩, ⟨some 16, false, .fa 2 (.t 2), none⟩, ⟨some 17, false, .ld none (.t 16), none⟩, ⟨some 18, false, .fa 2 (.t 3), none⟩, ⟨some 19, false, .ld none (.t 18), none⟩, ⟨some 20, false, .call (.c (.fn 448 [])) [.t 17, .t 19], none⟩, ⟨some 21, false, .bin .add (.t 15) (.t 20), none⟩, ⟨some 22, false, .fa 3 (.t 2), none⟩, ⟨some 23, false, .ld none (.t 22), none⟩, ⟨some 24, false, .fa 3 (.t 3), none⟩, ⟨some 25, false, .ld none (.t 24), none⟩, ⟨some 26, false, .call (.c (.fn 448 [])) [.t 23, .t 25], none⟩, ⟨some 27, false, .bin .add (.t 21) (.t 26), none⟩, ⟨some 4, false, .asg (.t 27), none⟩] [4] []) .ret)) }
noncomputable def impl_Neck_away_D : List (Nat × Callee) := [(448, impl_distance_c)]
def impl_Neck_away_H : List (Nat × ET) := []
noncomputable def impl_Neck_away_c : Callee := mkCallee impl_Neck_away_D impl_Neck_away_H impl_Neck_away_ir [.d T_Neck, .d T_Neck] [.d (.one (.int .i64))] []
noncomputable def impl_Neck_away (a0 : T_Neck.ty) (a1 : T_Neck.ty) : Option (Int) := impl_Neck_away_c.f (a0, a1, ())
theorem impl_Neck_away_eq (a0 : T_Neck.ty) (a1 : T_Neck.ty) : impl_Neck_away a0 a1 =
    (impl_distance a0.1 a1.1).bind fun x1 =>
      (impl_distance a0.2.1 a1.2.1).bind fun x2 =>
        (impl_distance a0.2.2.1 a1.2.2.1).bind fun x3 =>
          (impl_distance a0.2.2.2.1 a1.2.2.2.1).bind fun x4 =>
            some (IntKind.i64.wrap ((IntKind.i64.wrap ((IntKind.i64.wrap (x1 + x2)) + x3)) + x4)) :=
  (mk_f _ _ _ _ _ _ _ 4000).trans (by kernel_rfl)

/- impl.NearestNeck -/
def impl_NearestNeck_k0 : C :=
  .seq (.reg false [⟨some 25, false, .bin .lss (.t 24) (.t 23), none⟩] [0, 3, 8, 22, 23, 24, 25] [3]) (.seq (.cond (.t 25) .skip (.exit 0)) (.seq (.block 1 (.seq (.reg false [⟨some 26, false, .mv (.t 24), none⟩, ⟨some 27, false, .ia 4 (.t 22) (.t 24), none⟩, ⟨some 28, false, .ld (some 4) (.t 27), none⟩, ⟨some 10, true, .alloc 4 (.agg [.int .i64 0, .int .i64 0, .int .i64 0, .int .i64 0]), none⟩, ⟨some 9, false, .asg (.t 26), none⟩, ⟨none, true, .sto 4 (.t 10) (.t 28), none⟩] [0, 3, 8, 9, 10, 22, 23, 24] [3, 10]) (.seq (.reg true [⟨some 29, false, .ld (some 4) (.t 10), none⟩, ⟨some 30, false, .ld (some 4) (.t 3), none⟩, ⟨some 31, false, .call (.c (.fn 442 [])) [.t 29, .t 30], none⟩, ⟨some 32, false, .mv (.t 0), none⟩, ⟨some 33, false, .mv (.t 8), none⟩, ⟨some 34, false, .ia 4 (.t 32) (.t 33), none⟩, ⟨some 35, false, .ld (some 4) (.t 34), none⟩, ⟨some 36, false, .ld (some 4) (.t 3), none⟩, ⟨some 37, false, .call (.c (.fn 442 [])) [.t 35, .t 36], none⟩, ⟨some 38, false, .bin .lss (.t 31) (.t 37), none⟩] [0, 3, 8, 9, 22, 23, 24, 38] [3]) (.cond (.t 38) (.reg false [⟨some 39, false, .mv (.t 9), none⟩, ⟨some 8, false, .asg (.t 39), none⟩] [0, 3, 8, 22, 23, 24] [3]) .skip)))) (.reg false [⟨some 40, false, .bin .add (.t 24) (.c (.int .i64 1)), none⟩, ⟨some 24, false, .mv (.t 40), none⟩] [0, 3, 8, 22, 23, 24] [3])))
def impl_NearestNeck_k1 : C :=
  .norm [0, 3, 8, 22, 23, 24] [3] impl_NearestNeck_k0
def impl_NearestNeck_k2 : C :=
  .seq (.reg true [⟨some 41, false, .mv (.t 8), none⟩, ⟨some 42, false, .mv (.t 0), none⟩, ⟨some 43, false, .mv (.t 8), none⟩, ⟨some 44, false, .ia 4 (.t 42) (.t 43), none⟩, ⟨some 45, false, .ld (some 4) (.t 44), none⟩, ⟨some 46, false, .ld (some 4) (.t 3), none⟩, ⟨some 47, false, .call (.c (.fn 442 [])) [.t 45, .t 46], none⟩, ⟨some 4, false, .asg (.t 41), none⟩, ⟨some 5, false, .asg (.t 47), none⟩, ⟨some 6, false, .asg (.c (.int .i64 0)), none⟩] [4, 5, 6] []) .ret
def impl_NearestNeck_ir : Fn := { np := 2, io := [], res := [.t 4, .t 5, .t 6], own := [false, false, false], body :=
  (.seq (.reg false [⟨some 3, true, .box 4 (.t 1), none⟩, ⟨some 4, false, .asg (.c (.int .i64 0)), none⟩, ⟨some 5, false, .asg (.c (.int .i64 0)), none⟩, ⟨some 6, false, .asg (.c (.int .i64 0)), none⟩] [0, 3] [3]) (.seq (.seq (.reg false [⟨some 11, false, .ld (some 4) (.t 3), none⟩, ⟨some 12, false, .call (.c (.fn 444 [])) [.t 11], none⟩, ⟨some 13, false, .un .not (.t 12), none⟩] [0, 3, 13] [3]) (.cond (.t 13) (.seq (.reg false [⟨some 4, false, .asg (.c (.int .i64 0)), none⟩, ⟨some 5, false, .asg (.c (.int .i64 0)), none⟩, ⟨some 6, false, .asg (.c (.int .i64 1)), none⟩] [4, 5, 6] []) .ret) .skip)) (.seq (.seq (.reg false [⟨some 14, false, .mv (.t 0), none⟩, ⟨some 15, false, .call (.c (.fn 443 [])) [.t 14], none⟩, ⟨some 7, false, .asg (.t 15), none⟩] [0, 3, 7] [3]) (.seq (.reg false [⟨some 16, false, .mv (.t 7), none⟩, ⟨some 17, false, .bin .neq (.t 16) (.c (.int .i64 0)), none⟩] [0, 3, 7, 17] [3]) (.cond (.t 17) (.seq (.reg false [⟨some 18, false, .mv (.t 7), none⟩, ⟨some 4, false, .asg (.c (.int .i64 0)), none⟩, ⟨some 5, false, .asg (.c (.int .i64 0)), none⟩, ⟨some 6, false, .asg (.t 18), none⟩] [4, 5, 6] []) .ret) .skip))) (.seq (.seq (.reg false [⟨some 19, false, .mv (.t 0), none⟩, ⟨some 20, false, .len (.t 19), none⟩, ⟨some 21, false, .bin .eql (.t 20) (.c (.int .i64 0)), none⟩] [0, 3, 21] [3]) (.cond (.t 21) (.seq (.reg false [⟨some 4, false, .asg (.c (.int .i64 0)), none⟩, ⟨some 5, false, .asg (.c (.int .i64 0)), none⟩, ⟨some 6, false, .asg (.c (.int .i64 3)), none⟩] [4, 5, 6] []) .ret) .skip)) (.seq (.reg false [⟨some 8, false, .asg (.c (.int .i64 0)), none⟩] [0, 3, 8] [3]) (.seq (.seq (.reg false [⟨some 22, false, .mv (.t 0), none⟩, ⟨some 23, false, .len (.t 22), none⟩, ⟨some 24, false, .mv (.c (.int .i64 0)), none⟩] [0, 3, 8, 22, 23, 24] [3]) (.block 0 (.loop impl_NearestNeck_k1))) impl_NearestNeck_k2)))))) }
noncomputable def impl_NearestNeck_D : List (Nat × Callee) := [(442, impl_Neck_away_c), (443, impl_necksCode_c), (444, impl_ValidNeck_c)]
def impl_NearestNeck_H : List (Nat × ET) := [(14, T_Neck), (19, T_Neck), (22, T_Neck), (32, T_Neck), (42, T_Neck)]
noncomputable def impl_NearestNeck_c : Callee := mkCallee impl_NearestNeck_D impl_NearestNeck_H impl_NearestNeck_ir [.d (.one (.sl T_Neck)), .d T_Neck] [.d (.one (.int .i64)), .d (.one (.int .i64)), .d (.one (.int .i64))] []
noncomputable def impl_NearestNeck (a0 : List T_Neck.ty) (a1 : T_Neck.ty) : Option (Int × Int × Int) := impl_NearestNeck_c.f (a0, a1, ())
noncomputable def impl_NearestNeck_p0  (v0 : List T_Neck.ty) (v8 : Int) (v22 : List T_Neck.ty) (v23 : Int) (v24 : Int) (r3_0 : Int) (r3_1 : Int) (r3_2 : Int) (r3_3 : Int) : Option (Int × Int × Int) :=
  goL impl_NearestNeck_D impl_NearestNeck_H (vleave impl_NearestNeck_ir [.d (.one (.sl T_Neck)), .d T_Neck] [.d (.one (.int .i64)), .d (.one (.int .i64)), .d (.one (.int .i64))] [] []) [.c impl_NearestNeck_k0, .l impl_NearestNeck_k1, .e 0, .c impl_NearestNeck_k2]
    ⟨[(0, .sl T_Neck v0), (3, .loc 3 0 0), (8, .int .i64 v8), (22, .sl T_Neck v22), (23, .int .i64 v23), (24, .int .i64 v24)], [(3, some (.var 4 (.agg [.int .i64 r3_0, .int .i64 r3_1, .int .i64 r3_2, .int .i64 r3_3])))]⟩
theorem impl_NearestNeck_eq (a0 : List T_Neck.ty) (a1 : T_Neck.ty) : impl_NearestNeck a0 a1 =
    (impl_ValidNeck a1).bind fun x1 =>
      if (!x1) then
        some (0, 0, 1)
      else
        (impl_necksCode a0).bind fun x2 =>
          if (x2 != 0) then
            some (0, 0, x2)
          else
            if ((a0.length : Int) == 0) then
              some (0, 0, 3)
            else
              impl_NearestNeck_p0 a0 0 a0 (a0.length : Int) 0 a1.1 a1.2.1 a1.2.2.1 a1.2.2.2.1 :=
  (mk_f _ _ _ _ _ _ _ 4000).trans (by kernel_rfl)
theorem impl_NearestNeck_p0_eq  (v0 : List T_Neck.ty) (v8 : Int) (v22 : List T_Neck.ty) (v23 : Int) (v24 : Int) (r3_0 : Int) (r3_1 : Int) (r3_2 : Int) (r3_3 : Int) : impl_NearestNeck_p0 v0 v8 v22 v23 v24 r3_0 r3_1 r3_2 r3_3 =
    if decide (v24 < v23) then
      if decide (0 ≤ v24) then
        (v22[v24.toNat]?).bind fun x1 =>
          (impl_Neck_away x1 (r3_0, r3_1, r3_2, r3_3, ())).bind fun x2 =>
            if decide (0 ≤ v8) then
              (v0[v8.toNat]?).bind fun x3 =>
                (impl_Neck_away x3 (r3_0, r3_1, r3_2, r3_3, ())).bind fun x4 =>
                  if decide (x2 < x4) then
                    impl_NearestNeck_p0 v0 v24 v22 v23 (IntKind.i64.wrap (v24 + 1)) r3_0 r3_1 r3_2 r3_3
                  else
                    impl_NearestNeck_p0 v0 v8 v22 v23 (IntKind.i64.wrap (v24 + 1)) r3_0 r3_1 r3_2 r3_3
            else
              none
      else
        none
    else
      if decide (0 ≤ v8) then
        (v0[v8.toNat]?).bind fun x5 =>
          (impl_Neck_away x5 (r3_0, r3_1, r3_2, r3_3, ())).bind fun x6 =>
            some (v8, x6, 0)
      else
        none :=
  (goL_dn _ _ _ 4000 _ _).trans (by kernel_rfl)

/- laws.b10Abs -/
def laws_b10Abs_ir : Fn := { np := 1, io := [], res := [.t 2], own := [false], body :=
  (.seq (.reg false [⟨some 2, false, .asg (.c (.int .i64 0)), none⟩] [0] []) (.seq (.seq (.reg false [⟨some 3, false, .mv (.t 0), none⟩, ⟨some 4, false, .bin .lss (.t 3) (.c (.int .i64 0)), none⟩] [0, 4] []) (.cond (.t 4) (.seq (.reg false [⟨some 5, false, .mv (.t 0), none⟩, ⟨some 6, false, .un .neg (.t 5), none⟩, ⟨some 2, false, .asg (.t 6), none⟩] [2] []) .ret) .skip)) (.seq (.reg false [⟨some 7, false, .mv (.t 0), none⟩, ⟨some 2, false, .asg (.t 7), none⟩] [2] []) .ret))) }
noncomputable def laws_b10Abs_D : List (Nat × Callee) := []
def laws_b10Abs_H : List (Nat × ET) := []
noncomputable def laws_b10Abs_c : Callee := mkCallee laws_b10Abs_D laws_b10Abs_H laws_b10Abs_ir [.d (.one (.int .i64))] [.d (.one (.int .i64))] []
noncomputable def laws_b10Abs (a0 : Int) : Option (Int) := laws_b10Abs_c.f (a0, ())
theorem laws_b10Abs_eq (a0 : Int) : laws_b10Abs a0 =
    if decide (a0 < 0) then
      some (IntKind.i64.wrap (0 - a0))
    else
      some a0 :=
  (mk_f _ _ _ _ _ _ _ 4000).trans (by kernel_rfl)

/- spec.l10DrawHeight -/
def spec_l10DrawHeight_ir : Fn := { np := 1, io := [true], res := [.t 2], own := [false], body :=
  (.seq (.reg false [⟨some 2, false, .asg (.c (.int .i64 0)), none⟩] [0] [0, 1000]) (.seq (.seq (.reg false [⟨some 3, false, .mv (.t 0), none⟩, ⟨some 4, true, .call (.c (.fn 642 [])) [.t 3, .c (.int .i64 8)], none⟩] [0, 4] [0, 1000]) (.cond (.t 4) (.seq (.reg false [⟨some 5, false, .mv (.t 0), none⟩, ⟨some 6, false, .bsl 1 (.int .i64 0) 4 [(0, .c (.int .i64 (-1))), (1, .c (.int .i64 0)), (2, .c (.int .i64 2000)), (3, .c (.int .i64 2001))], none⟩, ⟨some 7, true, .call (.c (.fn 445 [])) [.t 5, .t 6], none⟩, ⟨some 2, false, .asg (.t 7), none⟩] [0, 2] [0, 1000]) .ret) .skip)) (.seq (.reg false [⟨some 8, false, .mv (.t 0), none⟩, ⟨some 9, true, .call (.c (.fn 463 [])) [.t 8, .c (.int .i64 200)], none⟩, ⟨some 10, false, .bin .add (.c (.int .i64 200)) (.t 9), none⟩, ⟨some 2, false, .asg (.t 10), none⟩] [0, 2] [0, 1000]) .ret))) }
noncomputable def spec_l10DrawHeight_D : List (Nat × Callee) := [(445, spec_l00Src_among_c), (463, spec_l00Src_pick_c), (642, spec_l00Src_one_c)]
def spec_l10DrawHeight_H : List (Nat × ET) := [(6, (.one (.int .i64)))]
noncomputable def spec_l10DrawHeight_c : Callee := mkCallee spec_l10DrawHeight_D spec_l10DrawHeight_H spec_l10DrawHeight_ir [.box T_l00Src] [.d (.one (.int .i64))] [.box T_l00Src]
noncomputable def spec_l10DrawHeight (a0 : T_l00Src.ty) : Option (Int × T_l00Src.ty) := spec_l10DrawHeight_c.f (a0, ())
theorem spec_l10DrawHeight_eq (a0 : T_l00Src.ty) : spec_l10DrawHeight a0 =
    (spec_l00Src_one a0 8).bind fun x1 =>
      if x1.1 then
        (spec_l00Src_among (x1.2.1, x1.2.2.1, x1.2.2.2.1, ()) [(-1), 0, 2000, 2001]).bind fun x2 =>
          some (x2.1, (x2.2.1, x2.2.2.1, x2.2.2.2.1, ()))
      else
        (spec_l00Src_pick (x1.2.1, x1.2.2.1, x1.2.2.2.1, ()) 200).bind fun x3 =>
          some (IntKind.i64.wrap (200 + x3.1), (x3.2.1, x3.2.2.1, x3.2.2.2.1, ())) :=
  (mk_f _ _ _ _ _ _ _ 4000).trans (by kernel_rfl)

/- spec.DrawSetNecks -/
def spec_DrawSetNecks_ir : Fn := { np := 1, io := [], res := [.t 2, .t 3, .t 4], own := [true, false, false], body :=
  (.seq (.reg false [⟨some 2, true, .asg (.c (.nils 4)), none⟩, ⟨some 3, false, .asg (.c (.int .i64 0)), none⟩, ⟨some 4, false, .asg (.c (.int .i64 0)), none⟩] [0] []) (.seq (.reg false [⟨some 8, false, .mv (.t 0), none⟩, ⟨some 9, true, .call (.c (.fn 441 [])) [.t 8], none⟩, ⟨some 5, false, .asg (.t 9), none⟩] [5] [9, 10000]) (.seq (.reg false [⟨some 10, false, .mv (.t 5), none⟩, ⟨some 11, true, .call (.c (.fn 440 [])) [.t 10], none⟩, ⟨some 6, true, .asg (.t 11), none⟩] [5, 6] [6, 9, 10000]) (.seq (.reg false [⟨some 12, false, .mv (.t 5), none⟩, ⟨some 13, true, .call (.c (.fn 446 [])) [.t 12], none⟩, ⟨some 7, false, .asg (.t 13), none⟩] [5, 6, 7] [6, 9, 10000]) (.seq (.reg false [⟨some 14, false, .mv (.t 6), none⟩, ⟨some 15, false, .mv (.t 7), none⟩, ⟨some 16, false, .mv (.t 5), none⟩, ⟨some 17, false, .bsl 1 (.int .i64 0) 7 [(0, .c (.int .i64 0)), (1, .c (.int .i64 5)), (2, .c (.int .i64 20)), (3, .c (.int .i64 60)), (4, .c (.int .i64 1000)), (5, .c (.int .i64 1001)), (6, .c (.int .i64 (-1)))], none⟩, ⟨some 18, true, .call (.c (.fn 445 [])) [.t 16, .t 17], none⟩, ⟨some 2, true, .asg (.t 14), none⟩, ⟨some 3, false, .asg (.t 15), none⟩, ⟨some 4, false, .asg (.t 18), none⟩] [2, 3, 4] [2, 6]) .ret))))) }
noncomputable def spec_DrawSetNecks_D : List (Nat × Callee) := [(440, spec_l10DrawList_c), (441, spec_l00From_c), (445, spec_l00Src_among_c), (446, spec_l10DrawHeight_c)]
def spec_DrawSetNecks_H : List (Nat × ET) := [(2, T_Neck), (6, T_Neck), (8, (.one (.int .u8))), (11, T_Neck), (14, T_Neck), (17, (.one (.int .i64)))]
noncomputable def spec_DrawSetNecks_c : Callee := mkCallee spec_DrawSetNecks_D spec_DrawSetNecks_H spec_DrawSetNecks_ir [.d (.one (.sl (.one (.int .u8))))] [.tok T_Neck, .d (.one (.int .i64)), .d (.one (.int .i64))] []
noncomputable def spec_DrawSetNecks (a0 : List Int) : Option (List T_Neck.ty × Int × Int) := spec_DrawSetNecks_c.f (a0, ())
theorem spec_DrawSetNecks_eq (a0 : List Int) : spec_DrawSetNecks a0 =
    (spec_l00From a0).bind fun x1 =>
      (spec_l10DrawList x1).bind fun x2 =>
        (spec_l10DrawHeight (x2.2.1, x2.2.2.1, x2.2.2.2.1, ())).bind fun x3 =>
          (spec_l00Src_among (x3.2.1, x3.2.2.1, x3.2.2.2.1, ()) [0, 5, 20, 60, 1000, 1001, (-1)]).bind fun x4 =>
            some ((x2.1.take x2.1.length), x3.1, x4.1) :=
  (mk_f _ _ _ _ _ _ _ 4000).trans (by kernel_rfl)

/- impl.isHeight -/
def impl_isHeight_ir : Fn := { np := 1, io := [], res := [.t 2], own := [false], body :=
  (.seq (.reg false [⟨some 2, false, .asg (.c (.bool false)), none⟩] [0] []) (.seq (.reg false [⟨some 3, false, .mv (.t 0), none⟩, ⟨some 4, false, .call (.c (.fn 23 [])) [.t 3, .c (.int .i64 0), .c (.int .i64 2000)], none⟩, ⟨some 2, false, .asg (.t 4), none⟩] [2] []) .ret)) }
noncomputable def impl_isHeight_D : List (Nat × Callee) := [(23, impl_within_c)]
def impl_isHeight_H : List (Nat × ET) := []
noncomputable def impl_isHeight_c : Callee := mkCallee impl_isHeight_D impl_isHeight_H impl_isHeight_ir [.d (.one (.int .i64))] [.d (.one .bool)] []
noncomputable def impl_isHeight (a0 : Int) : Option (Bool) := impl_isHeight_c.f (a0, ())
theorem impl_isHeight_eq (a0 : Int) : impl_isHeight a0 =
    (impl_within a0 0 2000).bind fun x1 =>
      some x1 :=
  (mk_f _ _ _ _ _ _ _ 4000).trans (by kernel_rfl)

/- impl.divRound -/
def impl_divRound_ir : Fn := { np := 2, io := [], res := [.t 4], own := [false], body :=
  (.seq (.reg false [⟨some 4, false, .asg (.c (.int .i64 0)), none⟩] [0, 1] []) (.seq (.reg false [⟨some 8, false, .mv (.t 0), none⟩, ⟨some 9, false, .bin .lss (.t 8) (.c (.int .i64 0)), none⟩, ⟨some 10, false, .mv (.t 1), none⟩, ⟨some 11, false, .bin .lss (.t 10) (.c (.int .i64 0)), none⟩, ⟨some 12, false, .eqb true (.t 9) (.t 11), none⟩, ⟨some 5, false, .asg (.t 12), none⟩] [0, 1, 5] []) (.seq (.reg false [⟨some 13, false, .mv (.t 0), none⟩, ⟨some 14, false, .mv (.t 0), none⟩, ⟨some 15, false, .un .neg (.t 14), none⟩, ⟨some 16, false, .max [.t 13, .t 15], none⟩, ⟨some 17, false, .mv (.t 1), none⟩, ⟨some 18, false, .mv (.t 1), none⟩, ⟨some 19, false, .un .neg (.t 18), none⟩, ⟨some 20, false, .max [.t 17, .t 19], none⟩, ⟨some 0, false, .asg (.t 16), none⟩, ⟨some 1, false, .asg (.t 20), none⟩] [0, 1, 5] []) (.seq (.reg false [⟨some 21, false, .mv (.t 0), none⟩, ⟨some 22, false, .mv (.t 1), none⟩, ⟨some 23, false, .bin .quo (.t 21) (.t 22), none⟩, ⟨some 6, false, .asg (.t 23), none⟩] [0, 1, 5, 6] []) (.seq (.seq (.reg false [⟨some 24, false, .mv (.t 0), none⟩, ⟨some 25, false, .mv (.t 1), none⟩, ⟨some 26, false, .bin .rem (.t 24) (.t 25), none⟩, ⟨some 7, false, .asg (.t 26), none⟩] [1, 5, 6, 7] []) (.seq (.reg false [⟨some 27, false, .mv (.t 7), none⟩, ⟨some 28, false, .mv (.t 1), none⟩, ⟨some 29, false, .mv (.t 7), none⟩, ⟨some 30, false, .bin .sub (.t 28) (.t 29), none⟩, ⟨some 31, false, .bin .geq (.t 27) (.t 30), none⟩] [5, 6, 31] []) (.cond (.t 31) (.reg false [⟨some 32, false, .mv (.t 6), none⟩, ⟨some 33, false, .bin .add (.t 32) (.c (.int .i64 1)), none⟩, ⟨some 6, false, .asg (.t 33), none⟩] [5, 6] []) .skip))) (.seq (.seq (.reg false [⟨some 34, false, .mv (.t 5), none⟩] [6, 34] []) (.cond (.t 34) (.seq (.reg false [⟨some 35, false, .mv (.t 6), none⟩, ⟨some 36, false, .un .neg (.t 35), none⟩, ⟨some 4, false, .asg (.t 36), none⟩] [4] []) .ret) .skip)) (.seq (.reg false [⟨some 37, false, .mv (.t 6), none⟩, ⟨some 4, false, .asg (.t 37), none⟩] [4] []) .ret))))))) }
noncomputable def impl_divRound_D : List (Nat × Callee) := []
def impl_divRound_H : List (Nat × ET) := []
noncomputable def impl_divRound_c : Callee := mkCallee impl_divRound_D impl_divRound_H impl_divRound_ir [.d (.one (.int .i64)), .d (.one (.int .i64))] [.d (.one (.int .i64))] []
noncomputable def impl_divRound (a0 : Int) (a1 : Int) : Option (Int) := impl_divRound_c.f (a0, a1, ())
theorem impl_divRound_eq (a0 : Int) (a1 : Int) : impl_divRound a0 a1 =
    if decide ((if IntKind.i64.wrap (0 - a1) > a1 then IntKind.i64.wrap (0 - a1) else a1) = 0) then
      none
    else
      if decide ((if IntKind.i64.wrap (0 - a1) > a1 then IntKind.i64.wrap (0 - a1) else a1) = 0) then
        none
      else
        if decide ((if IntKind.i64.wrap (0 - a0) > a0 then IntKind.i64.wrap (0 - a0) else a0).tmod (if IntKind.i64.wrap (0 - a1) > a1 then IntKind.i64.wrap (0 - a1) else a1) ≥ IntKind.i64.wrap ((if IntKind.i64.wrap (0 - a1) > a1 then IntKind.i64.wrap (0 - a1) else a1) - ((if IntKind.i64.wrap (0 - a0) > a0 then IntKind.i64.wrap (0 - a0) else a0).tmod (if IntKind.i64.wrap (0 - a1) > a1 then IntKind.i64.wrap (0 - a1) else a1)))) then
          if (!(decide (a0 < 0) == decide (a1 < 0))) then
            some (IntKind.i64.wrap (0 - (IntKind.i64.wrap ((IntKind.i64.wrap ((if IntKind.i64.wrap (0 - a0) > a0 then IntKind.i64.wrap (0 - a0) else a0).tdiv (if IntKind.i64.wrap (0 - a1) > a1 then IntKind.i64.wrap (0 - a1) else a1))) + 1))))
          else
            some (IntKind.i64.wrap ((IntKind.i64.wrap ((if IntKind.i64.wrap (0 - a0) > a0 then IntKind.i64.wrap (0 - a0) else a0).tdiv (if IntKind.i64.wrap (0 - a1) > a1 then IntKind.i64.wrap (0 - a1) else a1))) + 1))
        else
          if (!(decide (a0 < 0) == decide (a1 < 0))) then
            some (IntKind.i64.wrap (0 - (IntKind.i64.wrap ((if IntKind.i64.wrap (0 - a0) > a0 then IntKind.i64.wrap (0 - a0) else a0).tdiv (if IntKind.i64.wrap (0 - a1) > a1 then IntKind.i64.wrap (0 - a1) else a1)))))
          else
            some (IntKind.i64.wrap ((if IntKind.i64.wrap (0 - a0) > a0 then IntKind.i64.wrap (0 - a0) else a0).tdiv (if IntKind.i64.wrap (0 - a1) > a1 then IntKind.i64.wrap (0 - a1) else a1))) :=
  (mk_f _ _ _ _ _ _ _ 4000).trans (by kernel_rfl)

/- (impl.Neck).projection -/
def impl_Neck_projection_ir : Fn := { np := 1, io := [], res := [.t 2], own := [false], body :=
  (.seq (.reg false [⟨some 1, true, .box 4 (.t 0), none⟩, ⟨some 2, false, .asg (.c (.int .i64 0)), none⟩] [1] [1]) (.seq (.reg true [⟨some 3, false, .fa 2 (.t 1), none⟩, ⟨some 4, false, .ld none (.t 3), none⟩, ⟨some 5, false, .fa 1 (.t 1), none⟩, ⟨some 6, false, .ld none (.t 5), none⟩, ⟨some 7, false, .fa 3 (.t 1), none⟩, ⟨some 8, false, .ld none (.t 7), none⟩, ⟨some 9, false, .bin .mul (.t 6) (.t 8), none⟩, ⟨some 10, false, .call (.c (.fn 27 [])) [.t 9, .c (.int .i64 1000)], none⟩, ⟨some 11, false, .bin .add (.t 4) (.t 10), none⟩, ⟨some 2, false, .asg (.t 11), none⟩] [2] []) .ret)) }
noncomputable def impl_Neck_projection_D : List (Nat × Callee) := [(27, impl_divRound_c)]
def impl_Neck_projection_H : List (Nat × ET) := []
noncomputable def impl_Neck_projection_c : Callee := mkCallee impl_Neck_projection_D impl_Neck_projection_H impl_Neck_projection_ir [.d T_Neck] [.d (.one (.int .i64))] []
noncomputable def impl_Neck_projection (a0 : T_Neck.ty) : Option (Int) := impl_Neck_projection_c.f (a0, ())
theorem impl_Neck_projection_eq (a0 : T_Neck.ty) : impl_Neck_projection a0 =
    (impl_divRound (IntKind.i64.wrap (a0.2.1 * a0.2.2.2.1)) 1000).bind fun x1 =>
      some (IntKind.i64.wrap (a0.2.2.1 + x1)) :=
  (mk_f _ _ _ _ _ _ _ 4000).trans (by kernel_rfl)

/- impl.SetNecks -/
def impl_SetNecks_k0 : C :=
  .seq (.reg false [⟨some 29, false, .bin .lss (.t 28) (.t 27), none⟩] [1, 2, 9, 26, 27, 28, 29] [9]) (.seq (.cond (.t 29) .skip (.exit 0)) (.seq (.block 1 (.seq (.reg false [⟨some 30, false, .mv (.t 28), none⟩, ⟨some 31, false, .ia 4 (.t 26) (.t 28), none⟩, ⟨some 32, false, .ld (some 4) (.t 31), none⟩, ⟨some 11, true, .alloc 4 (.agg [.int .i64 0, .int .i64 0, .int .i64 0, .int .i64 0]), none⟩, ⟨some 10, false, .asg (.t 30), none⟩, ⟨none, true, .sto 4 (.t 11) (.t 32), none⟩] [1, 2, 9, 10, 11, 26, 27, 28] [9, 11]) (.seq (.reg false [⟨some 33, false, .ld (some 4) (.t 11), none⟩, ⟨some 34, false, .call (.c (.fn 447 [])) [.t 33], none⟩, ⟨some 35, false, .mv (.t 1), none⟩, ⟨some 36, false, .call (.c (.fn 448 [])) [.t 34, .t 35], none⟩, ⟨some 37, false, .mv (.t 2), none⟩, ⟨some 38, false, .bin .leq (.t 36) (.t 37), none⟩] [1, 2, 9, 10, 26, 27, 28, 38] [9]) (.cond (.t 38) (.reg false [⟨some 39, false, .mv (.t 9), none⟩, ⟨some 40, false, .mv (.t 10), none⟩, ⟨some 41, false, .bsl 1 (.int .i64 0) 1 [(0, .t 40)], none⟩, ⟨some 42, true, .app 1 8 (.t 39) (.t 41), none⟩, ⟨some 9, true, .asg (.t 42), none⟩] [1, 2, 9, 26, 27, 28] [9]) .skip)))) (.reg false [⟨some 43, false, .bin .add (.t 28) (.c (.int .i64 1)), none⟩, ⟨some 28, false, .mv (.t 43), none⟩] [1, 2, 9, 26, 27, 28] [9])))
def impl_SetNecks_k1 : C :=
  .norm [1, 2, 9, 26, 27, 28] [9] impl_SetNecks_k0
def impl_SetNecks_k2 : C :=
  .seq (.reg false [⟨some 44, false, .mv (.t 9), none⟩, ⟨some 6, true, .asg (.t 44), none⟩, ⟨some 7, false, .asg (.c (.int .i64 0)), none⟩] [6, 7] [6, 9]) .ret
def impl_SetNecks_k3 : C :=
  .seq (.reg false [⟨some 25, false, .bsl 1 (.int .i64 0) 0 [], none⟩, ⟨some 9, true, .asg (.t 25), none⟩] [0, 1, 2, 9] [9]) (.seq (.seq (.reg false [⟨some 26, false, .mv (.t 0), none⟩, ⟨some 27, false, .len (.t 26), none⟩, ⟨some 28, false, .mv (.c (.int .i64 0)), none⟩] [1, 2, 9, 26, 27, 28] [9]) (.block 0 (.loop impl_SetNecks_k1))) impl_SetNecks_k2)
def impl_SetNecks_ir : Fn := { np := 3, io := [], res := [.t 6, .t 7], own := [true, false], body :=
  (.seq (.reg false [⟨some 6, true, .asg (.c (.nils 1)), none⟩, ⟨some 7, false, .asg (.c (.int .i64 0)), none⟩] [0, 1, 2] []) (.seq (.seq (.reg false [⟨some 12, false, .mv (.t 0), none⟩, ⟨some 13, false, .call (.c (.fn 443 [])) [.t 12], none⟩, ⟨some 8, false, .asg (.t 13), none⟩] [0, 1, 2, 8] []) (.seq (.reg false [⟨some 14, false, .mv (.t 8), none⟩, ⟨some 15, false, .bin .neq (.t 14) (.c (.int .i64 0)), none⟩] [0, 1, 2, 8, 15] []) (.cond (.t 15) (.seq (.reg false [⟨some 16, false, .mv (.t 8), none⟩, ⟨some 6, true, .asg (.c (.nils 1)), none⟩, ⟨some 7, false, .asg (.t 16), none⟩] [6, 7] [6, 9]) .ret) .skip))) (.seq (.seq (.reg false [⟨some 17, false, .mv (.t 1), none⟩, ⟨some 18, false, .call (.c (.fn 449 [])) [.t 17], none⟩, ⟨some 19, false, .un .not (.t 18), none⟩, ⟨some 20, false, .mv (.t 19), none⟩, ⟨some 21, false, .mv (.t 2), some (3, false)⟩, ⟨some 22, false, .call (.c (.fn 23 [])) [.t 21, .c (.int .i64 0), .c (.int .i64 1000)], some (3, false)⟩, ⟨some 23, false, .un .not (.t 22), some (3, false)⟩, ⟨some 24, false, .pick (.t 20) (.c (.bool true)) (.t 23), none⟩] [0, 1, 2, 24] []) (.cond (.t 24) (.seq (.reg false [⟨some 6, true, .asg (.c (.nils 1)), none⟩, ⟨some 7, false, .asg (.c (.int .i64 2)), none⟩] [6, 7] [6, 9]) .ret) .skip)) (.norm [0, 1, 2] [] impl_SetNecks_k3)))) }
noncomputable def impl_SetNecks_D : List (Nat × Callee) := [(23, impl_within_c), (443, impl_necksCode_c), (447, impl_Neck_projection_c), (448, impl_distance_c), (449, impl_isHeight_c)]
def impl_SetNecks_H : List (Nat × ET) := [(6, (.one (.int .i64))), (9, (.one (.int .i64))), (12, T_Neck), (25, (.one (.int .i64))), (26, T_Neck), (39, (.one (.int .i64))), (41, (.one (.int .i64))), (42, (.one (.int .i64))), (44, (.one (.int .i64)))]
noncomputable def impl_SetNecks_c : Callee := mkCallee impl_SetNecks_D impl_SetNecks_H impl_SetNecks_ir [.d (.one (.sl T_Neck)), .d (.one (.int .i64)), .d (.one (.int .i64))] [.tok (.one (.int .i64)), .d (.one (.int .i64))] []
noncomputable def impl_SetNecks (a0 : List T_Neck.ty) (a1 : Int) (a2 : Int) : Option (List Int × Int) := impl_SetNecks_c.f (a0, a1, a2, ())
noncomputable def impl_SetNecks_p0  (v0 : List T_Neck.ty) (v1 : Int) (v2 : Int) : Option (List Int × Int) :=
  goL impl_SetNecks_D impl_SetNecks_H (vleave impl_SetNecks_ir [.d (.one (.sl T_Neck)), .d (.one (.int .i64)), .d (.one (.int .i64))] [.tok (.one (.int .i64)), .d (.one (.int .i64))] [] []) [.c impl_SetNecks_k3]
    ⟨[(0, .sl T_Neck v0), (1, .int .i64 v1), (2, .int .i64 v2)], []⟩
noncomputable def impl_SetNecks_p1  (v1 : Int) (v2 : Int) (v26 : List T_Neck.ty) (v27 : Int) (v28 : Int) (r9 : List Int) : Option (List Int × Int) :=
  goL impl_SetNecks_D impl_SetNecks_H (vleave impl_SetNecks_ir [.d (.one (.sl T_Neck)), .d (.one (.int .i64)), .d (.one (.int .i64))] [.tok (.one (.int .i64)), .d (.one (.int .i64))] [] []) [.c impl_SetNecks_k0, .l impl_SetNecks_k1, .e 0, .c impl_SetNecks_k2]
    ⟨[(1, .int .i64 v1), (2, .int .i64 v2), (9, .view 9 0 r9.length), (26, .sl T_Neck v26), (27, .int .i64 v27), (28, .int .i64 v28)], [(9, some (.sl (.one (.int .i64)) r9))]⟩
theorem impl_SetNecks_eq (a0 : List T_Neck.ty) (a1 : Int) (a2 : Int) : impl_SetNecks a0 a1 a2 =
    (impl_necksCode a0).bind fun x1 =>
      if (x1 != 0) then
        some ([], x1)
      else
        (impl_isHeight a1).bind fun x2 =>
          if (!x2) then
            some ([], 2)
          else
            (impl_within a2 0 1000).bind fun x3 =>
              if (!x3) then
                some ([], 2)
              else
                impl_SetNecks_p0 a0 a1 a2 :=
  (mk_f _ _ _ _ _ _ _ 4000).trans (by kernel_rfl)
theorem impl_SetNecks_p0_eq  (v0 : List T_Neck.ty) (v1 : Int) (v2 : Int) : impl_SetNecks_p0 v0 v1 v2 =
    impl_SetNecks_p1 v1 v2 v0 (v0.length : Int) 0 [] :=
  (goL_dn _ _ _ 4000 _ _).trans (by kernel_rfl)
theorem impl_SetNecks_p1_eq  (v1 : Int) (v2 : Int) (v26 : List T_Neck.ty) (v27 : Int) (v28 : Int) (r9 : List Int) : impl_SetNecks_p1 v1 v2 v26 v27 v28 r9 =
    if decide (v28 < v27) then
      if decide (0 ≤ v28) then
        (v26[v28.toNat]?).bind fun x1 =>
          (impl_Neck_projection x1).bind fun x2 =>
            (impl_distance x2 v1).bind fun x3 =>
              if decide (x3 ≤ v2) then
                if decide (r9.length + 1 < lim) then
                  impl_SetNecks_p1 v1 v2 v26 v27 (IntKind.i64.wrap (v28 + 1)) ((r9.take r9.length) ++ [v28])
                else
                  none
              else
                impl_SetNecks_p1 v1 v2 v26 v27 (IntKind.i64.wrap (v28 + 1)) r9
      else
        none
    else
      some ((r9.take r9.length), 0) :=
  (goL_dn _ _ _ 4000 _ _).trans (by kernel_rfl)

/- laws.b10Rises -/
def laws_b10Rises_k0 : C :=
  .seq (.seq (.reg false [⟨some 6, false, .mv (.t 5), none⟩, ⟨some 7, false, .mv (.t 0), none⟩, ⟨some 8, false, .len (.t 7), none⟩, ⟨some 9, false, .bin .lss (.t 6) (.t 8), none⟩] [0, 1, 5, 9] []) (.cond (.t 9) .skip (.exit 0))) (.seq (.block 1 (.seq (.reg true [⟨some 12, false, .mv (.t 0), none⟩, ⟨some 13, false, .mv (.t 5), none⟩, ⟨some 14, false, .ia 1 (.t 12) (.t 13), none⟩, ⟨some 15, false, .ld none (.t 14), none⟩, ⟨some 16, false, .bin .lss (.t 15) (.c (.int .i64 0)), none⟩, ⟨some 17, false, .mv (.t 16), none⟩, ⟨some 18, false, .mv (.t 0), some (5, false)⟩, ⟨some 19, false, .mv (.t 5), some (5, false)⟩, ⟨some 20, false, .ia 1 (.t 18) (.t 19), some (5, false)⟩, ⟨some 21, false, .ld none (.t 20), some (5, false)⟩, ⟨some 22, false, .mv (.t 1), some (5, false)⟩, ⟨some 23, false, .bin .geq (.t 21) (.t 22), some (5, false)⟩, ⟨some 24, false, .pick (.t 17) (.c (.bool true)) (.t 23), none⟩, ⟨some 25, false, .mv (.t 24), none⟩, ⟨some 26, false, .mv (.t 5), some (13, false)⟩, ⟨some 27, false, .bin .gtr (.t 26) (.c (.int .i64 0)), some (13, false)⟩, ⟨some 28, false, .mv (.t 27), some (13, false)⟩, ⟨some 29, false, .mv (.t 0), some (16, true)⟩, ⟨some 30, false, .mv (.t 5), some (16, true)⟩, ⟨some 31, false, .bin .sub (.t 30) (.c (.int .i64 1)), some (16, true)⟩, ⟨some 32, false, .ia 1 (.t 29) (.t 31), some (16, true)⟩, ⟨some 33, false, .ld none (.t 32), some (16, true)⟩, ⟨some 34, false, .mv (.t 0), some (16, true)⟩, ⟨some 35, false, .mv (.t 5), some (16, true)⟩, ⟨some 36, false, .ia 1 (.t 34) (.t 35), some (16, true)⟩, ⟨some 37, false, .ld none (.t 36), some (16, true)⟩, ⟨some 38, false, .bin .geq (.t 33) (.t 37), some (16, true)⟩, ⟨some 39, false, .pick (.t 28) (.t 38) (.c (.bool false)), some (13, false)⟩, ⟨some 40, false, .pick (.t 25) (.c (.bool true)) (.t 39), none⟩] [0, 1, 5, 40] []) (.cond (.t 40) (.seq (.reg false [⟨some 4, false, .asg (.c (.bool false)), none⟩] [4] []) .ret) .skip))) (.reg false [⟨some 10, false, .mv (.t 5), none⟩, ⟨some 11, false, .bin .add (.t 10) (.c (.int .i64 1)), none⟩, ⟨some 5, false, .asg (.t 11), none⟩] [0, 1, 5] []))
def laws_b10Rises_k1 : C :=
  .norm [0, 1, 5] [] laws_b10Rises_k0
def laws_b10Rises_k2 : C :=
  .seq (.reg false [⟨some 4, false, .asg (.c (.bool true)), none⟩] [4] []) .ret
def laws_b10Rises_ir : Fn := { np := 2, io := [], res := [.t 4], own := [false], body :=
  (.seq (.reg false [⟨some 4, false, .asg (.c (.bool false)), none⟩] [0, 1] []) (.seq (.seq (.reg false [⟨some 5, false, .asg (.c (.int .i64 0)), none⟩] [0, 1, 5] []) (.block 0 (.loop laws_b10Rises_k1))) laws_b10Rises_k2)) }
noncomputable def laws_b10Rises_D : List (Nat × Callee) := []
def laws_b10Rises_H : List (Nat × ET) := [(7, (.one (.int .i64))), (12, (.one (.int .i64))), (18, (.one (.int .i64))), (29, (.one (.int .i64))), (34, (.one (.int .i64)))]
noncomputable def laws_b10Rises_c : Callee := mkCallee laws_b10Rises_D laws_b10Rises_H laws_b10Rises_ir [.d (.one (.sl (.one (.int .i64)))), .d (.one (.int .i64))] [.d (.one .bool)] []
noncomputable def laws_b10Rises (a0 : List Int) (a1 : Int) : Option (Bool) := laws_b10Rises_c.f (a0, a1, ())
noncomputable def laws_b10Rises_p0  (v0 : List Int) (v1 : Int) (v5 : Int) : Option (Bool) :=
  goL laws_b10Rises_D laws_b10Rises_H (vleave laws_b10Rises_ir [.d (.one (.sl (.one (.int .i64)))), .d (.one (.int .i64))] [.d (.one .bool)] [] []) [.c laws_b10Rises_k0, .l laws_b10Rises_k1, .e 0, .c laws_b10Rises_k2]
    ⟨[(0, .sl (.one (.int .i64)) v0), (1, .int .i64 v1), (5, .int .i64 v5)], []⟩
theorem laws_b10Rises_eq (a0 : List Int) (a1 : Int) : laws_b10Rises a0 a1 =
    laws_b10Rises_p0 a0 a1 0 :=
  (mk_f _ _ _ _ _ _ _ 4000).trans (by kernel_rfl)
theorem laws_b10Rises_p0_eq  (v0 : List Int) (v1 : Int) (v5 : Int) : laws_b10Rises_p0 v0 v1 v5 =
    if decide (v5 < (v0.length : Int)) then
      if decide (0 ≤ v5) then
        (v0[v5.toNat]?).bind fun x1 =>
          if decide (x1 < 0) then
            some false
          else
            if decide (0 ≤ v5) then
              (v0[v5.toNat]?).bind fun x2 =>
                if decide (x2 ≥ v1) then
                  some false
                else
                  if decide (v5 > 0) then
                    if decide (0 ≤ IntKind.i64.wrap (v5 - 1)) then
                      (v0[(IntKind.i64.wrap (v5 - 1)).toNat]?).bind fun x3 =>
                        if decide (0 ≤ v5) then
                          (v0[v5.toNat]?).bind fun x4 =>
                            if decide (x3 ≥ x4) then
                              some false
                            else
                              laws_b10Rises_p0 v0 v1 (IntKind.i64.wrap (v5 + 1))
                        else
                          none
                    else
                      none
                  else
                    laws_b10Rises_p0 v0 v1 (IntKind.i64.wrap (v5 + 1))
            else
              none
      else
        none
    else
      some true :=
  (goL_dn _ _ _ 4000 _ _).trans (by kernel_rfl)

/- spec.l00In -/
def spec_l00In_ir : Fn := { np := 3, io := [], res := [.t 6], own := [false], body :=
  (.seq (.reg false [⟨some 6, false, .asg (.c (.bool false)), none⟩] [0, 1, 2] []) (.seq (.reg false [⟨some 7, false, .mv (.t 0), none⟩, ⟨some 8, false, .mv (.t 1), none⟩, ⟨some 9, false, .bin .geq (.t 7) (.t 8), none⟩, ⟨some 10, false, .mv (.t 9), none⟩, ⟨some 11, false, .mv (.t 0), some (3, true)⟩, ⟨some 12, false, .mv (.t 2), some (3, true)⟩, ⟨some 13, false, .bin .leq (.t 11) (.t 12), some (3, true)⟩, ⟨some 14, false, .pick (.t 10) (.t 13) (.c (.bool false)), none⟩, ⟨some 6, false, .asg (.t 14), none⟩] [6] []) .ret)) }
noncomputable def spec_l00In_D : List (Nat × Callee) := []
def spec_l00In_H : List (Nat × ET) := []
noncomputable def spec_l00In_c : Callee := mkCallee spec_l00In_D spec_l00In_H spec_l00In_ir [.d (.one (.int .i64)), .d (.one (.int .i64)), .d (.one (.int .i64))] [.d (.one .bool)] []
noncomputable def spec_l00In (a0 : Int) (a1 : Int) (a2 : Int) : Option (Bool) := spec_l00In_c.f (a0, a1, a2, ())
theorem spec_l00In_eq (a0 : Int) (a1 : Int) (a2 : Int) : spec_l00In a0 a1 a2 =
    if decide (a0 ≥ a1) then
      some (decide (a0 ≤ a2))
    else
      some false :=
  (mk_f _ _ _ _ _ _ _ 4000).trans (by kernel_rfl)

/- spec.l10Size -/
def spec_l10Size_ir : Fn := { np := 1, io := [], res := [.t 2], own := [false], body :=
  (.seq (.reg false [⟨some 2, false, .asg (.c (.bool false)), none⟩] [0] []) (.seq (.reg false [⟨some 3, false, .mv (.t 0), none⟩, ⟨some 4, false, .call (.c (.fn 1 [])) [.t 3, .c (.int .i64 100), .c (.int .i64 10000)], none⟩, ⟨some 2, false, .asg (.t 4), none⟩] [2] []) .ret)) }
noncomputable def spec_l10Size_D : List (Nat × Callee) := [(1, spec_l00In_c)]
def spec_l10Size_H : List (Nat × ET) := []
noncomputable def spec_l10Size_c : Callee := mkCallee spec_l10Size_D spec_l10Size_H spec_l10Size_ir [.d (.one (.int .i64))] [.d (.one .bool)] []
noncomputable def spec_l10Size (a0 : Int) : Option (Bool) := spec_l10Size_c.f (a0, ())
theorem spec_l10Size_eq (a0 : Int) : spec_l10Size a0 =
    (spec_l00In a0 100 10000).bind fun x1 =>
      some x1 :=
  (mk_f _ _ _ _ _ _ _ 4000).trans (by kernel_rfl)

/- spec.l10Ok -/
def spec_l10Ok_ir : Fn := { np := 1, io := [], res := [.t 2], own := [false], body :=
  (.seq (.reg false [⟨some 2, false, .asg (.c (.bool false)), none⟩] [0] []) (.seq (.reg false [⟨some 3, false, .mv (.t 0), none⟩, ⟨some 4, false, .nilck (.t 3), none⟩, ⟨some 5, false, .fa 0 (.t 4), none⟩, ⟨some 6, false, .ld none (.t 5), none⟩, ⟨some 7, false, .call (.c (.fn 844 [])) [.t 6], none⟩, ⟨some 8, false, .mv (.t 7), none⟩, ⟨some 9, false, .mv (.t 0), some (5, true)⟩, ⟨some 10, false, .nilck (.t 9), some (5, true)⟩, ⟨some 11, false, .fa 1 (.t 10), some (5, true)⟩, ⟨some 12, false, .ld none (.t 11), some (5, true)⟩, ⟨some 13, false, .call (.c (.fn 844 [])) [.t 12], some (5, true)⟩, ⟨some 14, false, .pick (.t 8) (.t 13) (.c (.bool false)), none⟩, ⟨some 15, false, .mv (.t 14), none⟩, ⟨some 16, false, .mv (.t 0), some (12, true)⟩, ⟨some 17, false, .nilck (.t 16), some (12, true)⟩, ⟨some 18, false, .fa 2 (.t 17), some (12, true)⟩, ⟨some 19, false, .ld none (.t 18), some (12, true)⟩, ⟨some 20, false, .call (.c (.fn 1 [])) [.t 19, .c (.int .i64 0), .c (.int .i64 500)], some (12, true)⟩, ⟨some 21, false, .pick (.t 15) (.t 20) (.c (.bool false)), none⟩, ⟨some 22, false, .mv (.t 21), none⟩, ⟨some 23, false, .mv (.t 0), some (19, true)⟩, ⟨some 24, false, .nilck (.t 23), some (19, true)⟩, ⟨some 25, false, .fa 3 (.t 24), some (19, true)⟩, ⟨some 26, false, .ld none (.t 25), some (19, true)⟩, ⟨some 27, false, .call (.c (.fn 1 [])) [.t 26, .c (.int .i64 0), .c (.int .i64 300)], some (19, true)⟩, ⟨some 28, false, .pick (.t 22) (.t 27) (.c (.bool false)), none⟩, ⟨some 2, false, .asg (.t 28), none⟩] [2] []) .ret)) }
noncomputable def spec_l10Ok_D : List (Nat × Callee) := [(1, spec_l00In_c), (844, spec_l10Size_c)]
def spec_l10Ok_H : List (Nat × ET) := []
noncomputable def spec_l10Ok_c : Callee := mkCallee spec_l10Ok_D spec_l10Ok_H spec_l10Ok_ir [.p T_Neck] [.d (.one .bool)] []
noncomputable def spec_l10Ok (a0 : T_Neck.ty) : Option (Bool) := spec_l10Ok_c.f (a0, ())
theorem spec_l10Ok_eq (a0 : T_Neck.ty) : spec_l10Ok a0 =
    (spec_l10Size a0.1).bind fun x1 =>
      if x1 then
        (spec_l10Size a0.2.1).bind fun x2 =>
          if x2 then
            (spec_l00In a0.2.2.1 0 500).bind fun x3 =>
              if x3 then
                (spec_l00In a0.2.2.2.1 0 300).bind fun x4 =>
                  some x4
              else
                some false
          else
            some false
      else
        some false :=
  (mk_f _ _ _ _ _ _ _ 4000).trans (by kernel_rfl)

/- spec.l01Div -/
def spec_l01Div_k0 : C :=
  .seq (.seq (.reg false [⟨some 11, false, .mv (.t 0), none⟩, ⟨some 12, false, .bin .lss (.t 11) (.c (.int .i64 0)), none⟩] [0, 1, 12] []) (.cond (.t 12) (.seq (.reg false [⟨some 13, false, .mv (.t 1), none⟩, ⟨some 14, false, .mv (.t 0), none⟩, ⟨some 15, false, .bin .mul (.c (.int .i64 2)) (.t 14), none⟩, ⟨some 16, false, .bin .sub (.t 13) (.t 15), none⟩, ⟨some 17, false, .mv (.t 1), none⟩, ⟨some 18, false, .bin .mul (.c (.int .i64 2)) (.t 17), none⟩, ⟨some 19, false, .bin .quo (.t 16) (.t 18), none⟩, ⟨some 20, false, .un .neg (.t 19), none⟩, ⟨some 4, false, .asg (.t 20), none⟩] [4] []) .ret) .skip)) (.seq (.reg false [⟨some 21, false, .mv (.t 0), none⟩, ⟨some 22, false, .bin .mul (.c (.int .i64 2)) (.t 21), none⟩, ⟨some 23, false, .mv (.t 1), none⟩, ⟨some 24, false, .bin .add (.t 22) (.t 23), none⟩, ⟨some 25, false, .mv (.t 1), none⟩, ⟨some 26, false, .bin .mul (.c (.int .i64 2)) (.t 25), none⟩, ⟨some 27, false, .bin .quo (.t 24) (.t 26), none⟩, ⟨some 4, false, .asg (.t 27), none⟩] [4] []) .ret)
def spec_l01Div_ir : Fn := { np := 2, io := [], res := [.t 4], own := [false], body :=
  (.seq (.reg false [⟨some 4, false, .asg (.c (.int .i64 0)), none⟩] [0, 1] []) (.seq (.seq (.reg false [⟨some 5, false, .mv (.t 1), none⟩, ⟨some 6, false, .bin .lss (.t 5) (.c (.int .i64 0)), none⟩] [0, 1, 6] []) (.cond (.t 6) (.seq (.reg false [⟨some 7, false, .mv (.t 0), none⟩, ⟨some 8, false, .un .neg (.t 7), none⟩, ⟨some 0, false, .asg (.t 8), none⟩] [0, 1] []) (.reg false [⟨some 9, false, .mv (.t 1), none⟩, ⟨some 10, false, .un .neg (.t 9), none⟩, ⟨some 1, false, .asg (.t 10), none⟩] [0, 1] [])) .skip)) (.norm [0, 1] [] spec_l01Div_k0))) }
noncomputable def spec_l01Div_D : List (Nat × Callee) := []
def spec_l01Div_H : List (Nat × ET) := []
noncomputable def spec_l01Div_c : Callee := mkCallee spec_l01Div_D spec_l01Div_H spec_l01Div_ir [.d (.one (.int .i64)), .d (.one (.int .i64))] [.d (.one (.int .i64))] []
noncomputable def spec_l01Div (a0 : Int) (a1 : Int) : Option (Int) := spec_l01Div_c.f (a0, a1, ())
noncomputable def spec_l01Div_p0  (v0 : Int) (v1 : Int) : Option (Int) :=
  goL spec_l01Div_D spec_l01Div_H (vleave spec_l01Div_ir [.d (.one (.int .i64)), .d (.one (.int .i64))] [.d (.one (.int .i64))] [] []) [.c spec_l01Div_k0]
    ⟨[(0, .int .i64 v0), (1, .int .i64 v1)], []⟩
theorem spec_l01Div_eq (a0 : Int) (a1 : Int) : spec_l01Div a0 a1 =
    if decide (a1 < 0) then
      spec_l01Div_p0 (IntKind.i64.wrap (0 - a0)) (IntKind.i64.wrap (0 - a1))
    else
      spec_l01Div_p0 a0 a1 :=
  (mk_f _ _ _ _ _ _ _ 4000).trans (by kernel_rfl)
theorem spec_l01Div_p0_eq  (v0 : Int) (v1 : Int) : spec_l01Div_p0 v0 v1 =
    if decide (v0 < 0) then
      if decide (IntKind.i64.wrap (2 * v1) = 0) then
        none
      else
        some (IntKind.i64.wrap (0 - (IntKind.i64.wrap ((IntKind.i64.wrap (v1 - (IntKind.i64.wrap (2 * v0)))).tdiv (IntKind.i64.wrap (2 * v1))))))
    else
      if decide (IntKind.i64.wrap (2 * v1) = 0) then
        none
      else
        some (IntKind.i64.wrap ((IntKind.i64.wrap ((IntKind.i64.wrap (2 * v0)) + v1)).tdiv (IntKind.i64.wrap (2 * v1)))) :=
  (goL_dn _ _ _ 4000 _ _).trans (by kernel_rfl)

/- spec.l10High -/
def spec_l10High_ir : Fn := { np := 2, io := [], res := [.t 4], own := [false], body :=
  (.seq (.reg false [⟨some 4, false, .asg (.c (.int .i64 0)), none⟩] [0, 1] []) (.seq (.reg true [⟨some 5, false, .mv (.t 0), none⟩, ⟨some 6, false, .nilck (.t 5), none⟩, ⟨some 7, false, .fa 2 (.t 6), none⟩, ⟨some 8, false, .ld none (.t 7), none⟩, ⟨some 9, false, .mv (.t 0), none⟩, ⟨some 10, false, .nilck (.t 9), none⟩, ⟨some 11, false, .fa 1 (.t 10), none⟩, ⟨some 12, false, .ld none (.t 11), none⟩, ⟨some 13, false, .mv (.t 1), none⟩, ⟨some 14, false, .bin .mul (.t 12) (.t 13), none⟩, ⟨some 15, false, .call (.c (.fn 16 [])) [.t 14, .c (.int .i64 1000)], none⟩, ⟨some 16, false, .bin .add (.t 8) (.t 15), none⟩, ⟨some 4, false, .asg (.t 16), none⟩] [4] []) .ret)) }
noncomputable def spec_l10High_D : List (Nat × Callee) := [(16, spec_l01Div_c)]
def spec_l10High_H : List (Nat × ET) := []
noncomputable def spec_l10High_c : Callee := mkCallee spec_l10High_D spec_l10High_H spec_l10High_ir [.p T_Neck, .d (.one (.int .i64))] [.d (.one (.int .i64))] []
noncomputable def spec_l10High (a0 : T_Neck.ty) (a1 : Int) : Option (Int) := spec_l10High_c.f (a0, a1, ())
theorem spec_l10High_eq (a0 : T_Neck.ty) (a1 : Int) : spec_l10High a0 a1 =
    (spec_l01Div (IntKind.i64.wrap (a0.2.1 * a1)) 1000).bind fun x1 =>
      some (IntKind.i64.wrap (a0.2.2.1 + x1)) :=
  (mk_f _ _ _ _ _ _ _ 4000).trans (by kernel_rfl)

/- spec.ProjectionOf -/
def spec_ProjectionOf_ir : Fn := { np := 1, io := [], res := [.t 2, .t 3], own := [false, false], body :=
  (.seq (.reg false [⟨some 1, true, .box 4 (.t 0), none⟩, ⟨some 2, false, .asg (.c (.int .i64 0)), none⟩, ⟨some 3, false, .asg (.c (.int .i64 0)), none⟩] [1] [1]) (.seq (.seq (.reg false [⟨some 4, false, .call (.c (.fn 451 [])) [.t 1], none⟩, ⟨some 5, false, .un .not (.t 4), none⟩] [1, 5] [1]) (.cond (.t 5) (.seq (.reg false [⟨some 2, false, .asg (.c (.int .i64 0)), none⟩, ⟨some 3, false, .asg (.c (.int .i64 1)), none⟩] [2, 3] []) .ret) .skip)) (.seq (.reg false [⟨some 6, false, .fa 3 (.t 1), none⟩, ⟨some 7, false, .ld none (.t 6), none⟩, ⟨some 8, false, .call (.c (.fn 450 [])) [.t 1, .t 7], none⟩, ⟨some 2, false, .asg (.t 8), none⟩, ⟨some 3, false, .asg (.c (.int .i64 0)), none⟩] [2, 3] []) .ret))) }
noncomputable def spec_ProjectionOf_D : List (Nat × Callee) := [(450, spec_l10High_c), (451, spec_l10Ok_c)]
def spec_ProjectionOf_H : List (Nat × ET) := []
noncomputable def spec_ProjectionOf_c : Callee := mkCallee spec_ProjectionOf_D spec_ProjectionOf_H spec_ProjectionOf_ir [.d T_Neck] [.d (.one (.int .i64)), .d (.one (.int .i64))] []
noncomputable def spec_ProjectionOf (a0 : T_Neck.ty) : Option (Int × Int) := spec_ProjectionOf_c.f (a0, ())
theorem spec_ProjectionOf_eq (a0 : T_Neck.ty) : spec_ProjectionOf a0 =
    (spec_l10Ok a0).bind fun x1 =>
      if (!x1) then
        some (0, 1)
      else
        (spec_l10High a0 a0.2.2.2.1).bind fun x2 =>
          some (x2, 0) :=
  (mk_f _ _ _ _ _ _ _ 4000).trans (by kernel_rfl)

/- laws.b10Has -/
def laws_b10Has_k0 : C :=
  .seq (.seq (.reg false [⟨some 6, false, .mv (.t 5), none⟩, ⟨some 7, false, .mv (.t 0), none⟩, ⟨some 8, false, .len (.t 7), none⟩, ⟨some 9, false, .bin .lss (.t 6) (.t 8), none⟩] [0, 1, 5, 9] []) (.cond (.t 9) .skip (.exit 0))) (.seq (.block 1 (.seq (.reg false [⟨some 12, false, .mv (.t 0), none⟩, ⟨some 13, false, .mv (.t 5), none⟩, ⟨some 14, false, .ia 1 (.t 12) (.t 13), none⟩, ⟨some 15, false, .ld none (.t 14), none⟩, ⟨some 16, false, .mv (.t 1), none⟩, ⟨some 17, false, .bin .eql (.t 15) (.t 16), none⟩] [0, 1, 5, 17] []) (.cond (.t 17) (.seq (.reg false [⟨some 4, false, .asg (.c (.bool true)), none⟩] [4] []) .ret) .skip))) (.reg false [⟨some 10, false, .mv (.t 5), none⟩, ⟨some 11, false, .bin .add (.t 10) (.c (.int .i64 1)), none⟩, ⟨some 5, false, .asg (.t 11), none⟩] [0, 1, 5] []))
def laws_b10Has_k1 : C :=
  .norm [0, 1, 5] [] laws_b10Has_k0
def laws_b10Has_k2 : C :=
  .seq (.reg false [⟨some 4, false, .asg (.c (.bool false)), none⟩] [4] []) .ret
def laws_b10Has_ir : Fn := { np := 2, io := [], res := [.t 4], own := [false], body :=
  (.seq (.reg false [⟨some 4, false, .asg (.c (.bool false)), none⟩] [0, 1] []) (.seq (.seq (.reg false [⟨some 5, false, .asg (.c (.int .i64 0)), none⟩] [0, 1, 5] []) (.block 0 (.loop laws_b10Has_k1))) laws_b10Has_k2)) }
noncomputable def laws_b10Has_D : List (Nat × Callee) := []
def laws_b10Has_H : List (Nat × ET) := [(7, (.one (.int .i64))), (12, (.one (.int .i64)))]
noncomputable def laws_b10Has_c : Callee := mkCallee laws_b10Has_D laws_b10Has_H laws_b10Has_ir [.d (.one (.sl (.one (.int .i64)))), .d (.one (.int .i64))] [.d (.one .bool)] []
noncomputable def laws_b10Has (a0 : List Int) (a1 : Int) : Option (Bool) := laws_b10Has_c.f (a0, a1, ())
noncomputable def laws_b10Has_p0  (v0 : List Int) (v1 : Int) (v5 : Int) : Option (Bool) :=
  goL laws_b10Has_D laws_b10Has_H (vleave laws_b10Has_ir [.d (.one (.sl (.one (.int .i64)))), .d (.one (.int .i64))] [.d (.one .bool)] [] []) [.c laws_b10Has_k0, .l laws_b10Has_k1, .e 0, .c laws_b10Has_k2]
    ⟨[(0, .sl (.one (.int .i64)) v0), (1, .int .i64 v1), (5, .int .i64 v5)], []⟩
theorem laws_b10Has_eq (a0 : List Int) (a1 : Int) : laws_b10Has a0 a1 =
    laws_b10Has_p0 a0 a1 0 :=
  (mk_f _ _ _ _ _ _ _ 4000).trans (by kernel_rfl)
theorem laws_b10Has_p0_eq  (v0 : List Int) (v1 : Int) (v5 : Int) : laws_b10Has_p0 v0 v1 v5 =
    if decide (v5 < (v0.length : Int)) then
      if decide (0 ≤ v5) then
        (v0[v5.toNat]?).bind fun x1 =>
          if (x1 == v1) then
            some true
          else
            laws_b10Has_p0 v0 v1 (IntKind.i64.wrap (v5 + 1))
      else
        none
    else
      some false :=
  (goL_dn _ _ _ 4000 _ _).trans (by kernel_rfl)

/- spec.DrawHeightsAlong -/
def spec_DrawHeightsAlong_ir : Fn := { np := 1, io := [], res := [.t 2, .t 3, .t 4], own := [false, false, false], body :=
  (.seq (.reg false [⟨some 2, false, .asg (.c (.int .i64 0)), none⟩, ⟨some 3, false, .asg (.c (.int .i64 0)), none⟩, ⟨some 4, false, .asg (.c (.int .i64 0)), none⟩] [0] []) (.seq (.reg false [⟨some 8, false, .mv (.t 0), none⟩, ⟨some 9, true, .call (.c (.fn 441 [])) [.t 8], none⟩, ⟨some 5, false, .asg (.t 9), none⟩] [5] [9, 10000]) (.seq (.reg false [⟨some 10, false, .mv (.t 5), none⟩, ⟨some 11, true, .call (.c (.fn 446 [])) [.t 10], none⟩, ⟨some 6, false, .asg (.t 11), none⟩] [5, 6] [9, 10000]) (.seq (.reg false [⟨some 12, false, .mv (.t 5), none⟩, ⟨some 13, true, .call (.c (.fn 446 [])) [.t 12], none⟩, ⟨some 7, false, .asg (.t 13), none⟩] [5, 6, 7] [9, 10000]) (.seq (.reg false [⟨some 14, false, .mv (.t 6), none⟩, ⟨some 15, false, .mv (.t 7), none⟩, ⟨some 16, false, .mv (.t 5), none⟩, ⟨some 17, false, .bsl 1 (.int .i64 0) 7 [(0, .c (.int .i64 0)), (1, .c (.int .i64 1)), (2, .c (.int .i64 2)), (3, .c (.int .i64 5)), (4, .c (.int .i64 12)), (5, .c (.int .i64 24)), (6, .c (.int .i64 25))], none⟩, ⟨some 18, true, .call (.c (.fn 445 [])) [.t 16, .t 17], none⟩, ⟨some 2, false, .asg (.t 14), none⟩, ⟨some 3, false, .asg (.t 15), none⟩, ⟨some 4, false, .asg (.t 18), none⟩] [2, 3, 4] []) .ret))))) }
noncomputable def spec_DrawHeightsAlong_D : List (Nat × Callee) := [(441, spec_l00From_c), (445, spec_l00Src_among_c), (446, spec_l10DrawHeight_c)]
def spec_DrawHeightsAlong_H : List (Nat × ET) := [(8, (.one (.int .u8))), (17, (.one (.int .i64)))]
noncomputable def spec_DrawHeightsAlong_c : Callee := mkCallee spec_DrawHeightsAlong_D spec_DrawHeightsAlong_H spec_DrawHeightsAlong_ir [.d (.one (.sl (.one (.int .u8))))] [.d (.one (.int .i64)), .d (.one (.int .i64)), .d (.one (.int .i64))] []
noncomputable def spec_DrawHeightsAlong (a0 : List Int) : Option (Int × Int × Int) := spec_DrawHeightsAlong_c.f (a0, ())
theorem spec_DrawHeightsAlong_eq (a0 : List Int) : spec_DrawHeightsAlong a0 =
    (spec_l00From a0).bind fun x1 =>
      (spec_l10DrawHeight x1).bind fun x2 =>
        (spec_l10DrawHeight (x2.2.1, x2.2.2.1, x2.2.2.2.1, ())).bind fun x3 =>
          (spec_l00Src_among (x3.2.1, x3.2.2.1, x3.2.2.2.1, ()) [0, 1, 2, 5, 12, 24, 25]).bind fun x4 =>
            some (x2.1, x3.1, x4.1) :=
  (mk_f _ _ _ _ _ _ _ 4000).trans (by kernel_rfl)

/- impl.blend -/
def impl_blend_k0 : C :=
  .seq (.reg false [⟨some 26, false, .mv (.t 1), none⟩, ⟨some 27, false, .mv (.t 3), none⟩, ⟨some 28, false, .mv (.t 1), none⟩, ⟨some 29, false, .bin .sub (.t 27) (.t 28), none⟩, ⟨some 30, false, .mv (.t 4), none⟩, ⟨some 31, false, .mv (.t 0), none⟩, ⟨some 32, false, .bin .sub (.t 30) (.t 31), none⟩, ⟨some 33, false, .bin .mul (.t 29) (.t 32), none⟩, ⟨some 34, false, .mv (.t 2), none⟩, ⟨some 35, false, .mv (.t 0), none⟩, ⟨some 36, false, .bin .sub (.t 34) (.t 35), none⟩, ⟨some 37, false, .call (.c (.fn 27 [])) [.t 33, .t 36], none⟩, ⟨some 38, false, .bin .add (.t 26) (.t 37), none⟩, ⟨some 10, false, .asg (.t 38), none⟩] [10] []) .ret
def impl_blend_ir : Fn := { np := 5, io := [], res := [.t 10], own := [false], body :=
  (.seq (.reg false [⟨some 10, false, .asg (.c (.int .i64 0)), none⟩] [0, 1, 2, 3, 4] []) (.seq (.block 0 (.seq (.reg false [⟨some 12, false, .mv (.t 4), none⟩, ⟨some 13, false, .mv (.t 0), none⟩, ⟨some 14, false, .bin .leq (.t 12) (.t 13), none⟩, ⟨some 15, false, .mv (.t 14), none⟩, ⟨some 16, false, .mv (.t 2), some (3, false)⟩, ⟨some 17, false, .mv (.t 0), some (3, false)⟩, ⟨some 18, false, .bin .leq (.t 16) (.t 17), some (3, false)⟩, ⟨some 19, false, .pick (.t 15) (.c (.bool true)) (.t 18), none⟩, ⟨some 11, false, .asg (.t 19), none⟩] [0, 1, 2, 3, 4, 11] []) (.cond (.t 11) (.seq (.reg false [⟨some 20, false, .mv (.t 1), none⟩, ⟨some 10, false, .asg (.t 20), none⟩] [10] []) .ret) (.seq (.reg false [⟨some 22, false, .mv (.t 4), none⟩, ⟨some 23, false, .mv (.t 2), none⟩, ⟨some 24, false, .bin .geq (.t 22) (.t 23), none⟩, ⟨some 21, false, .asg (.t 24), none⟩] [0, 1, 2, 3, 4, 21] []) (.cond (.t 21) (.seq (.reg false [⟨some 25, false, .mv (.t 3), none⟩, ⟨some 10, false, .asg (.t 25), none⟩] [10] []) .ret) .skip))))) (.norm [0, 1, 2, 3, 4] [] impl_blend_k0))) }
noncomputable def impl_blend_D : List (Nat × Callee) := [(27, impl_divRound_c)]
def impl_blend_H : List (Nat × ET) := []
noncomputable def impl_blend_c : Callee := mkCallee impl_blend_D impl_blend_H impl_blend_ir [.d (.one (.int .i64)), .d (.one (.int .i64)), .d (.one (.int .i64)), .d (.one (.int .i64)), .d (.one (.int .i64))] [.d (.one (.int .i64))] []
noncomputable def impl_blend (a0 : Int) (a1 : Int) (a2 : Int) (a3 : Int) (a4 : Int) : Option (Int) := impl_blend_c.f (a0, a1, a2, a3, a4, ())
noncomputable def impl_blend_p0  (v0 : Int) (v1 : Int) (v2 : Int) (v3 : Int) (v4 : Int) : Option (Int) :=
  goL impl_blend_D impl_blend_H (vleave impl_blend_ir [.d (.one (.int .i64)), .d (.one (.int .i64)), .d (.one (.int .i64)), .d (.one (.int .i64)), .d (.one (.int .i64))] [.d (.one (.int .i64))] [] []) [.c impl_blend_k0]
    ⟨[(0, .int .i64 v0), (1, .int .i64 v1), (2, .int .i64 v2), (3, .int .i64 v3), (4, .int .i64 v4)], []⟩
theorem impl_blend_eq (a0 : Int) (a1 : Int) (a2 : Int) (a3 : Int) (a4 : Int) : impl_blend a0 a1 a2 a3 a4 =
    if decide (a4 ≤ a0) then
      some a1
    else
      if decide (a2 ≤ a0) then
        some a1
      else
        if decide (a4 ≥ a2) then
          some a3
        else
          impl_blend_p0 a0 a1 a2 a3 a4 :=
  (mk_f _ _ _ _ _ _ _ 4000).trans (by kernel_rfl)
theorem impl_blend_p0_eq  (v0 : Int) (v1 : Int) (v2 : Int) (v3 : Int) (v4 : Int) : impl_blend_p0 v0 v1 v2 v3 v4 =
    (impl_divRound (IntKind.i64.wrap ((IntKind.i64.wrap (v3 - v1)) * (IntKind.i64.wrap (v4 - v0)))) (IntKind.i64.wrap (v2 - v0))).bind fun x1 =>
      some (IntKind.i64.wrap (v1 + x1)) :=
  (goL_dn _ _ _ 4000 _ _).trans (by kernel_rfl)

/- impl.HeightsAlong -/
def impl_HeightsAlong_k0 : C :=
  .seq (.reg false [⟨some 27, false, .bin .lss (.t 26) (.t 25), none⟩] [0, 1, 2, 8, 25, 26, 27] [8]) (.seq (.cond (.t 27) .skip (.exit 0)) (.seq (.block 1 (.seq (.reg false [⟨some 28, false, .mv (.t 26), none⟩, ⟨some 9, false, .asg (.t 28), none⟩] [0, 1, 2, 8, 9, 25, 26] [8]) (.reg false [⟨some 29, false, .mv (.t 8), none⟩, ⟨some 30, false, .mv (.t 0), none⟩, ⟨some 31, false, .mv (.t 2), none⟩, ⟨some 32, false, .mv (.t 1), none⟩, ⟨some 33, false, .mv (.t 9), none⟩, ⟨some 34, false, .call (.c (.fn 452 [])) [.c (.int .i64 0), .t 30, .t 31, .t 32, .t 33], none⟩, ⟨some 35, false, .bsl 1 (.int .i64 0) 1 [(0, .t 34)], none⟩, ⟨some 36, true, .app 1 8 (.t 29) (.t 35), none⟩, ⟨some 8, true, .asg (.t 36), none⟩] [0, 1, 2, 8, 25, 26] [8]))) (.reg false [⟨some 37, false, .bin .add (.t 26) (.c (.int .i64 1)), none⟩, ⟨some 26, false, .mv (.t 37), none⟩] [0, 1, 2, 8, 25, 26] [8])))
def impl_HeightsAlong_k1 : C :=
  .norm [0, 1, 2, 8, 25, 26] [8] impl_HeightsAlong_k0
def impl_HeightsAlong_k2 : C :=
  .seq (.reg false [⟨some 38, false, .mv (.t 8), none⟩, ⟨some 6, true, .asg (.t 38), none⟩, ⟨some 7, false, .asg (.c (.int .i64 0)), none⟩] [6, 7] [6, 8]) .ret
def impl_HeightsAlong_k3 : C :=
  .seq (.reg false [⟨some 23, false, .bsl 1 (.int .i64 0) 0 [], none⟩, ⟨some 8, true, .asg (.t 23), none⟩] [0, 1, 2, 8] [8]) (.seq (.seq (.reg false [⟨some 24, false, .mv (.t 2), none⟩, ⟨some 25, false, .bin .add (.t 24) (.c (.int .i64 1)), none⟩, ⟨some 26, false, .mv (.c (.int .i64 0)), none⟩] [0, 1, 2, 8, 25, 26] [8]) (.block 0 (.loop impl_HeightsAlong_k1))) impl_HeightsAlong_k2)
def impl_HeightsAlong_ir : Fn := { np := 3, io := [], res := [.t 6, .t 7], own := [true, false], body :=
  (.seq (.reg false [⟨some 6, true, .asg (.c (.nils 1)), none⟩, ⟨some 7, false, .asg (.c (.int .i64 0)), none⟩] [0, 1, 2] []) (.seq (.seq (.reg false [⟨some 10, false, .mv (.t 0), none⟩, ⟨some 11, false, .call (.c (.fn 449 [])) [.t 10], none⟩, ⟨some 12, false, .un .not (.t 11), none⟩, ⟨some 13, false, .mv (.t 12), none⟩, ⟨some 14, false, .mv (.t 1), some (3, false)⟩, ⟨some 15, false, .call (.c (.fn 449 [])) [.t 14], some (3, false)⟩, ⟨some 16, false, .un .not (.t 15), some (3, false)⟩, ⟨some 17, false, .pick (.t 13) (.c (.bool true)) (.t 16), none⟩, ⟨some 18, false, .mv (.t 17), none⟩, ⟨some 19, false, .mv (.t 2), some (8, false)⟩, ⟨some 20, false, .call (.c (.fn 23 [])) [.t 19, .c (.int .i64 1), .c (.int .i64 24)], some (8, false)⟩, ⟨some 21, false, .un .not (.t 20), some (8, false)⟩, ⟨some 22, false, .pick (.t 18) (.c (.bool true)) (.t 21), none⟩] [0, 1, 2, 22] []) (.cond (.t 22) (.seq (.reg false [⟨some 6, true, .asg (.c (.nils 1)), none⟩, ⟨some 7, false, .asg (.c (.int .i64 2)), none⟩] [6, 7] [6, 8]) .ret) .skip)) (.norm [0, 1, 2] [] impl_HeightsAlong_k3))) }
noncomputable def impl_HeightsAlong_D : List (Nat × Callee) := [(23, impl_within_c), (449, impl_isHeight_c), (452, impl_blend_c)]
def impl_HeightsAlong_H : List (Nat × ET) := [(6, (.one (.int .i64))), (8, (.one (.int .i64))), (23, (.one (.int .i64))), (29, (.one (.int .i64))), (35, (.one (.int .i64))), (36, (.one (.int .i64))), (38, (.one (.int .i64)))]
noncomputable def impl_HeightsAlong_c : Callee := mkCallee impl_HeightsAlong_D impl_HeightsAlong_H impl_HeightsAlong_ir [.d (.one (.int .i64)), .d (.one (.int .i64)), .d (.one (.int .i64))] [.tok (.one (.int .i64)), .d (.one (.int .i64))] []
noncomputable def impl_HeightsAlong (a0 : Int) (a1 : Int) (a2 : Int) : Option (List Int × Int) := impl_HeightsAlong_c.f (a0, a1, a2, ())
noncomputable def impl_HeightsAlong_p0  (v0 : Int) (v1 : Int) (v2 : Int) : Option (List Int × Int) :=
  goL impl_HeightsAlong_D impl_HeightsAlong_H (vleave impl_HeightsAlong_ir [.d (.one (.int .i64)), .d (.one (.int .i64)), .d (.one (.int .i64))] [.tok (.one (.int .i64)), .d (.one (.int .i64))] [] []) [.c impl_HeightsAlong_k3]
    ⟨[(0, .int .i64 v0), (1, .int .i64 v1), (2, .int .i64 v2)], []⟩
noncomputable def impl_HeightsAlong_p1  (v0 : Int) (v1 : Int) (v2 : Int) (v25 : Int) (v26 : Int) (r8 : List Int) : Option (List Int × Int) :=
  goL impl_HeightsAlong_D impl_HeightsAlong_H (vleave impl_HeightsAlong_ir [.d (.one (.int .i64)), .d (.one (.int .i64)), .d (.one (.int .i64))] [.tok (.one (.int .i64)), .d (.one (.int .i64))] [] []) [.c impl_HeightsAlong_k0, .l impl_HeightsAlong_k1, .e 0, .c impl_HeightsAlong_k2]
    ⟨[(0, .int .i64 v0), (1, .int .i64 v1), (2, .int .i64 v2), (8, .view 8 0 r8.length), (25, .int .i64 v25), (26, .int .i64 v26)], [(8, some (.sl (.one (.int .i64)) r8))]⟩
theorem impl_HeightsAlong_eq (a0 : Int) (a1 : Int) (a2 : Int) : impl_HeightsAlong a0 a1 a2 =
    (impl_isHeight a0).bind fun x1 =>
      if (!x1) then
        some ([], 2)
      else
        (impl_isHeight a1).bind fun x2 =>
          if (!x2) then
            some ([], 2)
          else
            (impl_within a2 1 24).bind fun x3 =>
              if (!x3) then
                some ([], 2)
              else
                impl_HeightsAlong_p0 a0 a1 a2 :=
  (mk_f _ _ _ _ _ _ _ 4000).trans (by kernel_rfl)
theorem impl_HeightsAlong_p0_eq  (v0 : Int) (v1 : Int) (v2 : Int) : impl_HeightsAlong_p0 v0 v1 v2 =
    impl_HeightsAlong_p1 v0 v1 v2 (IntKind.i64.wrap (v2 + 1)) 0 [] :=
  (goL_dn _ _ _ 4000 _ _).trans (by kernel_rfl)
theorem impl_HeightsAlong_p1_eq  (v0 : Int) (v1 : Int) (v2 : Int) (v25 : Int) (v26 : Int) (r8 : List Int) : impl_HeightsAlong_p1 v0 v1 v2 v25 v26 r8 =
    if decide (v26 < v25) then
      (impl_blend 0 v0 v2 v1 v26).bind fun x1 =>
        if decide (r8.length + 1 < lim) then
          impl_HeightsAlong_p1 v0 v1 v2 v25 (IntKind.i64.wrap (v26 + 1)) ((r8.take r8.length) ++ [x1])
        else
          none
    else
      some ((r8.take r8.length), 0) :=
  (goL_dn _ _ _ 4000 _ _).trans (by kernel_rfl)

/- laws.FnSetNecks -/
def laws_FnSetNecks_k0 : C :=
  .seq (.seq (.reg false [⟨some 54, false, .mv (.t 10), none⟩, ⟨some 55, false, .mv (.t 5), none⟩, ⟨some 56, false, .len (.t 55), none⟩, ⟨some 57, false, .bin .lss (.t 54) (.t 56), none⟩] [0, 1, 5, 6, 7, 8, 10, 57] [5, 6]) (.cond (.t 57) .skip (.exit 0))) (.seq (.block 1 (.seq (.reg true [⟨some 60, false, .mv (.t 5), none⟩, ⟨some 61, false, .mv (.t 10), none⟩, ⟨some 62, false, .ia 4 (.t 60) (.t 61), none⟩, ⟨some 63, false, .fa 0 (.t 62), none⟩, ⟨some 64, false, .ld none (.t 63), none⟩, ⟨some 65, false, .fa 0 (.t 6), none⟩, ⟨some 66, false, .ld none (.t 65), none⟩, ⟨some 67, false, .bin .sub (.t 64) (.t 66), none⟩, ⟨some 68, false, .call (.c (.fn 66 [])) [.t 67], none⟩, ⟨some 69, false, .mv (.t 5), none⟩, ⟨some 70, false, .mv (.t 10), none⟩, ⟨some 71, false, .ia 4 (.t 69) (.t 70), none⟩, ⟨some 72, false, .fa 1 (.t 71), none⟩, ⟨some 73, false, .ld none (.t 72), none⟩, ⟨some 74, false, .fa 1 (.t 6), none⟩, ⟨some 75, false, .ld none (.t 74), none⟩, ⟨some 76, false, .bin .sub (.t 73) (.t 75), none⟩, ⟨some 77, false, .call (.c (.fn 66 [])) [.t 76], none⟩, ⟨some 78, false, .bin .add (.t 68) (.t 77), none⟩, ⟨some 79, false, .mv (.t 5), none⟩, ⟨some 80, false, .mv (.t 10), none⟩, ⟨some 81, false, .ia 4 (.t 79) (.t 80), none⟩, ⟨some 82, false, .fa 2 (.t 81), none⟩, ⟨some 83, false, .ld none (.t 82), none⟩, ⟨some 84, false, .fa 2 (.t 6), none⟩, ⟨some 85, false, .ld none (.t 84), none⟩, ⟨some 86, false, .bin .sub (.t 83) (.t 85), none⟩, ⟨some 87, false, .call (.c (.fn 66 [])) [.t 86], none⟩, ⟨some 88, false, .bin .add (.t 78) (.t 87), none⟩, ⟨some 89, false, .mv (.t 5), none⟩, ⟨some 90, false, .mv (.t 10), none⟩, ⟨some 91, false, .ia 4 (.t 89) (.t 90), none⟩, ⟨some 92, false, .fa 3 (.t 91), none⟩, ⟨some 93, false, .ld none (.t 92), none⟩, ⟨some 94, false, .fa 3 (.t 6), none⟩, ⟨some 95, false, .ld none (.t 94), none⟩, ⟨some 96, false, .bin .sub (.t 93) (.t 95), none⟩, ⟨some 97, false, .call (.c (.fn 66 [])) [.t 96], none⟩, ⟨some 98, false, .bin .add (.t 88) (.t 97), none⟩, ⟨some 11, false, .asg (.t 98), none⟩] [0, 1, 5, 6, 7, 8, 10, 11] [5, 6]) (.seq (.reg false [⟨some 99, false, .mv (.t 11), none⟩, ⟨some 100, false, .mv (.t 8), none⟩, ⟨some 101, false, .bin .lss (.t 99) (.t 100), none⟩, ⟨some 102, false, .mv (.t 101), none⟩, ⟨some 103, false, .mv (.t 10), some (3, false)⟩, ⟨some 104, false, .mv (.t 7), some (3, false)⟩, ⟨some 105, false, .bin .eql (.t 103) (.t 104), some (3, false)⟩, ⟨some 106, false, .mv (.t 105), some (3, false)⟩, ⟨some 107, false, .mv (.t 11), some (7, true)⟩, ⟨some 108, false, .mv (.t 8), some (7, true)⟩, ⟨some 109, false, .bin .neq (.t 107) (.t 108), some (7, true)⟩, ⟨some 110, false, .pick (.t 106) (.t 109) (.c (.bool false)), some (3, false)⟩, ⟨some 111, false, .pick (.t 102) (.c (.bool true)) (.t 110), none⟩, ⟨some 112, false, .mv (.t 111), none⟩, ⟨some 113, false, .mv (.t 10), some (13, false)⟩, ⟨some 114, false, .mv (.t 7), some (13, false)⟩, ⟨some 115, false, .bin .lss (.t 113) (.t 114), some (13, false)⟩, ⟨some 116, false, .mv (.t 115), some (13, false)⟩, ⟨some 117, false, .mv (.t 11), some (17, true)⟩, ⟨some 118, false, .mv (.t 8), some (17, true)⟩, ⟨some 119, false, .bin .eql (.t 117) (.t 118), some (17, true)⟩, ⟨some 120, false, .pick (.t 116) (.t 119) (.c (.bool false)), some (13, false)⟩, ⟨some 121, false, .pick (.t 112) (.c (.bool true)) (.t 120), none⟩] [0, 1, 5, 6, 7, 8, 10, 121] [5, 6]) (.cond (.t 121) (.seq (.reg false [⟨some 4, false, .asg (.c (.bool false)), none⟩] [4] []) .ret) .skip)))) (.reg false [⟨some 58, false, .mv (.t 10), none⟩, ⟨some 59, false, .bin .add (.t 58) (.c (.int .i64 1)), none⟩, ⟨some 10, false, .asg (.t 59), none⟩] [0, 1, 5, 6, 7, 8, 10] [5, 6]))
def laws_FnSetNecks_k1 : C :=
  .norm [0, 1, 5, 6, 7, 8, 10] [5, 6] laws_FnSetNecks_k0
def laws_FnSetNecks_k2 : C :=
  .seq (.reg false [⟨some 10, false, .asg (.c (.int .i64 0)), none⟩] [0, 1, 5, 6, 7, 8, 10] [5, 6]) (.block 0 (.loop laws_FnSetNecks_k1))
def laws_FnSetNecks_k3 : C :=
  .seq (.seq (.reg false [⟨some 148, false, .mv (.t 17), none⟩, ⟨some 149, false, .mv (.t 12), none⟩, ⟨some 150, false, .len (.t 149), none⟩, ⟨some 151, false, .bin .lss (.t 148) (.t 150), none⟩] [0, 12, 13, 14, 15, 17, 151] [12, 15]) (.cond (.t 151) .skip (.exit 2))) (.seq (.block 3 (.seq (.reg false [⟨some 155, false, .mv (.t 12), none⟩, ⟨some 156, false, .mv (.t 17), none⟩, ⟨some 157, false, .ia 4 (.t 155) (.t 156), none⟩, ⟨some 158, false, .ld (some 4) (.t 157), none⟩, ⟨some 159, false, .call (.c (.fn 70 [])) [.t 158], none⟩, ⟨some 154, false, .mv (.t 159), none⟩, ⟨some 160, false, .ext (.t 154) 0, none⟩, ⟨some 161, false, .ext (.t 154) 1, none⟩, ⟨some 18, false, .asg (.t 160), none⟩, ⟨some 19, false, .asg (.t 161), none⟩] [0, 12, 13, 14, 15, 17, 18, 19] [12, 15]) (.seq (.reg false [⟨some 162, false, .mv (.t 19), none⟩, ⟨some 163, false, .bin .neq (.t 162) (.c (.int .i64 0)), none⟩, ⟨some 164, false, .mv (.t 163), none⟩, ⟨some 165, false, .mv (.t 15), some (2, false)⟩, ⟨some 166, false, .mv (.t 17), some (2, false)⟩, ⟨some 167, false, .call (.c (.fn 69 [])) [.t 165, .t 166], some (2, false)⟩, ⟨some 168, false, .mv (.t 18), some (2, false)⟩, ⟨some 169, false, .mv (.t 13), some (2, false)⟩, ⟨some 170, false, .bin .sub (.t 168) (.t 169), some (2, false)⟩, ⟨some 171, false, .call (.c (.fn 66 [])) [.t 170], some (2, false)⟩, ⟨some 172, false, .mv (.t 14), some (2, false)⟩, ⟨some 173, false, .bin .leq (.t 171) (.t 172), some (2, false)⟩, ⟨some 174, false, .eqb true (.t 167) (.t 173), some (2, false)⟩, ⟨some 175, false, .pick (.t 164) (.c (.bool true)) (.t 174), none⟩] [0, 12, 13, 14, 15, 17, 175] [12, 15]) (.cond (.t 175) (.seq (.reg false [⟨some 4, false, .asg (.c (.bool false)), none⟩] [4] []) .ret) .skip)))) (.reg false [⟨some 152, false, .mv (.t 17), none⟩, ⟨some 153, false, .bin .add (.t 152) (.c (.int .i64 1)), none⟩, ⟨some 17, false, .asg (.t 153), none⟩] [0, 12, 13, 14, 15, 17] [12, 15]))
def laws_FnSetNecks_k4 : C :=
  .norm [0, 12, 13, 14, 15, 17] [12, 15] laws_FnSetNecks_k3
def laws_FnSetNecks_k5 : C :=
  .seq (.seq (.reg false [⟨some 221, false, .mv (.t 25), none⟩, ⟨some 222, false, .mv (.t 22), none⟩, ⟨some 223, false, .bin .leq (.t 221) (.t 222), none⟩] [20, 21, 22, 23, 25, 223] [23]) (.cond (.t 223) .skip (.exit 4))) (.seq (.block 5 (.seq (.reg false [⟨some 226, false, .mv (.t 23), none⟩, ⟨some 227, false, .mv (.t 25), none⟩, ⟨some 228, false, .ia 1 (.t 226) (.t 227), none⟩, ⟨some 229, false, .ld none (.t 228), none⟩, ⟨some 230, false, .mv (.t 22), none⟩, ⟨some 231, false, .bin .mul (.t 229) (.t 230), none⟩, ⟨some 232, false, .mv (.t 20), none⟩, ⟨some 233, false, .mv (.t 22), none⟩, ⟨some 234, false, .bin .mul (.t 232) (.t 233), none⟩, ⟨some 235, false, .bin .sub (.t 231) (.t 234), none⟩, ⟨some 236, false, .mv (.t 21), none⟩, ⟨some 237, false, .mv (.t 20), none⟩, ⟨some 238, false, .bin .sub (.t 236) (.t 237), none⟩, ⟨some 239, false, .mv (.t 25), none⟩, ⟨some 240, false, .bin .mul (.t 238) (.t 239), none⟩, ⟨some 241, false, .bin .sub (.t 235) (.t 240), none⟩, ⟨some 242, false, .call (.c (.fn 66 [])) [.t 241], none⟩, ⟨some 243, false, .mv (.t 22), none⟩, ⟨some 244, false, .bin .gtr (.t 242) (.t 243), none⟩] [20, 21, 22, 23, 25, 244] [23]) (.cond (.t 244) (.seq (.reg false [⟨some 4, false, .asg (.c (.bool false)), none⟩] [4] []) .ret) .skip))) (.reg false [⟨some 224, false, .mv (.t 25), none⟩, ⟨some 225, false, .bin .add (.t 224) (.c (.int .i64 1)), none⟩, ⟨some 25, false, .asg (.t 225), none⟩] [20, 21, 22, 23, 25] [23]))
def laws_FnSetNecks_k6 : C :=
  .norm [20, 21, 22, 23, 25] [23] laws_FnSetNecks_k5
def laws_FnSetNecks_k7 : C :=
  .seq (.reg false [⟨some 4, false, .asg (.c (.bool true)), none⟩] [4] []) .ret
def laws_FnSetNecks_k8 : C :=
  .seq (.seq (.reg false [⟨some 25, false, .asg (.c (.int .i64 0)), none⟩] [20, 21, 22, 23, 25] [23]) (.block 4 (.loop laws_FnSetNecks_k6))) laws_FnSetNecks_k7
def laws_FnSetNecks_k9 : C :=
  .seq (.reg false [⟨some 180, false, .mv (.t 0), none⟩, ⟨some 181, false, .call (.c (.fn 68 [])) [.t 180], none⟩, ⟨some 179, false, .mv (.t 181), none⟩, ⟨some 182, false, .ext (.t 179) 0, none⟩, ⟨some 183, false, .ext (.t 179) 1, none⟩, ⟨some 184, false, .ext (.t 179) 2, none⟩, ⟨some 20, false, .asg (.t 182), none⟩, ⟨some 21, false, .asg (.t 183), none⟩, ⟨some 22, false, .asg (.t 184), none⟩] [20, 21, 22] []) (.seq (.reg false [⟨some 186, false, .mv (.t 20), none⟩, ⟨some 187, false, .mv (.t 21), none⟩, ⟨some 188, false, .mv (.t 22), none⟩, ⟨some 189, false, .call (.c (.fn 67 [])) [.t 186, .t 187, .t 188], none⟩, ⟨some 185, false, .mv (.t 189), none⟩, ⟨some 190, false, .ext (.t 185) 0, none⟩, ⟨some 191, false, .ext (.t 185) 1, none⟩, ⟨some 23, true, .asg (.t 190), none⟩, ⟨some 24, false, .asg (.t 191), none⟩] [20, 21, 22, 23, 24] [23]) (.seq (.seq (.reg false [⟨some 192, false, .mv (.t 24), none⟩, ⟨some 193, false, .bin .neq (.t 192) (.c (.int .i64 0)), none⟩] [20, 21, 22, 23, 193] [23]) (.cond (.t 193) (.seq (.reg false [⟨some 194, false, .mv (.t 23), none⟩, ⟨some 195, false, .len (.t 194), none⟩, ⟨some 196, false, .bin .eql (.t 195) (.c (.int .i64 0)), none⟩, ⟨some 4, false, .asg (.t 196), none⟩] [4] []) .ret) .skip)) (.seq (.seq (.reg false [⟨some 197, false, .mv (.t 22), none⟩, ⟨some 198, false, .bin .lss (.t 197) (.c (.int .i64 1)), none⟩, ⟨some 199, false, .mv (.t 198), none⟩, ⟨some 200, false, .mv (.t 23), some (2, false)⟩, ⟨some 201, false, .len (.t 200), some (2, false)⟩, ⟨some 202, false, .mv (.t 22), some (2, false)⟩, ⟨some 203, false, .bin .add (.t 202) (.c (.int .i64 1)), some (2, false)⟩, ⟨some 204, false, .bin .neq (.t 201) (.t 203), some (2, false)⟩, ⟨some 205, false, .pick (.t 199) (.c (.bool true)) (.t 204), none⟩, ⟨some 206, false, .mv (.t 205), none⟩, ⟨some 207, false, .mv (.t 23), some (9, false)⟩, ⟨some 208, false, .ia 1 (.t 207) (.c (.int .i64 0)), some (9, false)⟩, ⟨some 209, false, .ld none (.t 208), some (9, false)⟩, ⟨some 210, false, .mv (.t 20), some (9, false)⟩, ⟨some 211, false, .bin .neq (.t 209) (.t 210), some (9, false)⟩, ⟨some 212, false, .pick (.t 206) (.c (.bool true)) (.t 211), none⟩, ⟨some 213, false, .mv (.t 212), none⟩, ⟨some 214, false, .mv (.t 23), some (16, false)⟩, ⟨some 215, false, .mv (.t 22), some (16, false)⟩, ⟨some 216, false, .ia 1 (.t 214) (.t 215), some (16, false)⟩, ⟨some 217, false, .ld none (.t 216), some (16, false)⟩, ⟨some 218, false, .mv (.t 21), some (16, false)⟩, ⟨some 219, false, .bin .neq (.t 217) (.t 218), some (16, false)⟩, ⟨some 220, false, .pick (.t 213) (.c (.bool true)) (.t 219), none⟩] [20, 21, 22, 23, 220] [23]) (.cond (.t 220) (.seq (.reg false [⟨some 4, false, .asg (.c (.bool false)), none⟩] [4] []) .ret) .skip)) (.norm [20, 21, 22, 23] [23] laws_FnSetNecks_k8))))
def laws_FnSetNecks_k10 : C :=
  .norm [0] [] laws_FnSetNecks_k9
def laws_FnSetNecks_k11 : C :=
  .seq (.reg false [⟨some 129, false, .mv (.t 1), none⟩, ⟨some 130, false, .call (.c (.fn 73 [])) [.t 129], none⟩, ⟨some 128, false, .mv (.t 130), none⟩, ⟨some 131, false, .ext (.t 128) 0, none⟩, ⟨some 132, false, .ext (.t 128) 1, none⟩, ⟨some 133, false, .ext (.t 128) 2, none⟩, ⟨some 12, true, .asg (.t 131), none⟩, ⟨some 13, false, .asg (.t 132), none⟩, ⟨some 14, false, .asg (.t 133), none⟩] [0, 12, 13, 14] [12]) (.seq (.reg false [⟨some 135, false, .mv (.t 12), none⟩, ⟨some 136, false, .mv (.t 13), none⟩, ⟨some 137, false, .mv (.t 14), none⟩, ⟨some 138, false, .call (.c (.fn 72 [])) [.t 135, .t 136, .t 137], none⟩, ⟨some 134, false, .mv (.t 138), none⟩, ⟨some 139, false, .ext (.t 134) 0, none⟩, ⟨some 140, false, .ext (.t 134) 1, none⟩, ⟨some 15, true, .asg (.t 139), none⟩, ⟨some 16, false, .asg (.t 140), none⟩] [0, 12, 13, 14, 15, 16] [12, 15]) (.seq (.seq (.reg false [⟨some 141, false, .mv (.t 16), none⟩, ⟨some 142, false, .bin .eql (.t 141) (.c (.int .i64 0)), none⟩] [0, 12, 13, 14, 15, 142] [12, 15]) (.cond (.t 142) (.seq (.seq (.reg false [⟨some 143, false, .mv (.t 15), none⟩, ⟨some 144, false, .mv (.t 12), none⟩, ⟨some 145, false, .len (.t 144), none⟩, ⟨some 146, false, .call (.c (.fn 71 [])) [.t 143, .t 145], none⟩, ⟨some 147, false, .un .not (.t 146), none⟩] [0, 12, 13, 14, 15, 147] [12, 15]) (.cond (.t 147) (.seq (.reg false [⟨some 4, false, .asg (.c (.bool false)), none⟩] [4] []) .ret) .skip)) (.seq (.reg false [⟨some 17, false, .asg (.c (.int .i64 0)), none⟩] [0, 12, 13, 14, 15, 17] [12, 15]) (.block 2 (.loop laws_FnSetNecks_k4)))) (.seq (.reg false [⟨some 176, false, .mv (.t 15), none⟩, ⟨some 177, false, .len (.t 176), none⟩, ⟨some 178, false, .bin .neq (.t 177) (.c (.int .i64 0)), none⟩] [0, 178] []) (.cond (.t 178) (.seq (.reg false [⟨some 4, false, .asg (.c (.bool false)), none⟩] [4] []) .ret) .skip)))) laws_FnSetNecks_k10))
def laws_FnSetNecks_k12 : C :=
  .norm [0, 1] [] laws_FnSetNecks_k11
def laws_FnSetNecks_k13 : C :=
  .seq (.reg false [⟨some 33, false, .mv (.t 0), none⟩, ⟨some 34, false, .call (.c (.fn 75 [])) [.t 33], none⟩, ⟨some 32, false, .mv (.t 34), none⟩, ⟨some 35, false, .ext (.t 32) 0, none⟩, ⟨some 36, false, .ext (.t 32) 1, none⟩, ⟨some 6, true, .alloc 4 (.agg [.int .i64 0, .int .i64 0, .int .i64 0, .int .i64 0]), none⟩, ⟨some 5, true, .asg (.t 35), none⟩, ⟨none, true, .sto 4 (.t 6) (.t 36), none⟩] [0, 1, 5, 6] [5, 6]) (.seq (.reg false [⟨some 38, false, .mv (.t 5), none⟩, ⟨some 39, false, .ld (some 4) (.t 6), none⟩, ⟨some 40, false, .call (.c (.fn 74 [])) [.t 38, .t 39], none⟩, ⟨some 37, false, .mv (.t 40), none⟩, ⟨some 41, false, .ext (.t 37) 0, none⟩, ⟨some 42, false, .ext (.t 37) 1, none⟩, ⟨some 43, false, .ext (.t 37) 2, none⟩, ⟨some 7, false, .asg (.t 41), none⟩, ⟨some 8, false, .asg (.t 42), none⟩, ⟨some 9, false, .asg (.t 43), none⟩] [0, 1, 5, 6, 7, 8, 9] [5, 6]) (.seq (.seq (.reg false [⟨some 44, false, .mv (.t 9), none⟩, ⟨some 45, false, .bin .eql (.t 44) (.c (.int .i64 0)), none⟩] [0, 1, 5, 6, 7, 8, 45] [5, 6]) (.cond (.t 45) (.seq (.seq (.reg false [⟨some 46, false, .mv (.t 7), none⟩, ⟨some 47, false, .bin .lss (.t 46) (.c (.int .i64 0)), none⟩, ⟨some 48, false, .mv (.t 47), none⟩, ⟨some 49, false, .mv (.t 7), some (2, false)⟩, ⟨some 50, false, .mv (.t 5), some (2, false)⟩, ⟨some 51, false, .len (.t 50), some (2, false)⟩, ⟨some 52, false, .bin .geq (.t 49) (.t 51), some (2, false)⟩, ⟨some 53, false, .pick (.t 48) (.c (.bool true)) (.t 52), none⟩] [0, 1, 5, 6, 7, 8, 53] [5, 6]) (.cond (.t 53) (.seq (.reg false [⟨some 4, false, .asg (.c (.bool false)), none⟩] [4] []) .ret) .skip)) (.norm [0, 1, 5, 6, 7, 8] [5, 6] laws_FnSetNecks_k2)) (.seq (.reg false [⟨some 122, false, .mv (.t 7), none⟩, ⟨some 123, false, .bin .neq (.t 122) (.c (.int .i64 0)), none⟩, ⟨some 124, false, .mv (.t 123), none⟩, ⟨some 125, false, .mv (.t 8), some (2, false)⟩, ⟨some 126, false, .bin .neq (.t 125) (.c (.int .i64 0)), some (2, false)⟩, ⟨some 127, false, .pick (.t 124) (.c (.bool true)) (.t 126), none⟩] [0, 1, 127] []) (.cond (.t 127) (.seq (.reg false [⟨some 4, false, .asg (.c (.bool false)), none⟩] [4] []) .ret) .skip)))) laws_FnSetNecks_k12))
def laws_FnSetNecks_ir : Fn := { np := 2, io := [], res := [.t 4], own := [false], body :=
  (.seq (.reg false [⟨some 4, false, .asg (.c (.bool false)), none⟩] [0, 1] []) (.seq (.seq (.reg false [⟨some 26, false, .mv (.t 0), none⟩, ⟨some 27, false, .call (.c (.fn 76 [])) [.t 26], none⟩, ⟨some 28, false, .mv (.t 27), none⟩, ⟨some 29, false, .mv (.t 1), some (2, false)⟩, ⟨some 30, false, .call (.c (.fn 76 [])) [.t 29], some (2, false)⟩, ⟨some 31, false, .pick (.t 28) (.c (.bool true)) (.t 30), none⟩] [0, 1, 31] []) (.cond (.t 31) (.seq (.reg false [⟨some 4, false, .asg (.c (.bool true)), none⟩] [4] []) .ret) .skip)) (.norm [0, 1] [] laws_FnSetNecks_k13))) }
noncomputable def laws_FnSetNecks_D : List (Nat × Callee) := [(66, laws_b10Abs_c), (67, impl_HeightsAlong_c), (68, spec_DrawHeightsAlong_c), (69, laws_b10Has_c), (70, spec_ProjectionOf_c), (71, laws_b10Rises_c), (72, impl_SetNecks_c), (73, spec_DrawSetNecks_c), (74, impl_NearestNeck_c), (75, spec_DrawNearestNeck_c), (76, laws_b10Long_c)]
def laws_FnSetNecks_H : List (Nat × ET) := [(5, T_Neck), (12, T_Neck), (15, (.one (.int .i64))), (23, (.one (.int .i64))), (26, (.one (.int .u8))), (29, (.one (.int .u8))), (33, (.one (.int .u8))), (35, T_Neck), (38, T_Neck), (50, T_Neck), (55, T_Neck), (60, T_Neck), (69, T_Neck), (79, T_Neck), (89, T_Neck), (129, (.one (.int .u8))), (131, T_Neck), (135, T_Neck), (139, (.one (.int .i64))), (143, (.one (.int .i64))), (144, T_Neck), (149, T_Neck), (155, T_Neck), (165, (.one (.int .i64))), (176, (.one (.int .i64))), (180, (.one (.int .u8))), (190, (.one (.int .i64))), (194, (.one (.int .i64))), (200, (.one (.int .i64))), (207, (.one (.int .i64))), (214, (.one (.int .i64))), (226, (.one (.int .i64)))]
noncomputable def laws_FnSetNecks_c : Callee := mkCallee laws_FnSetNecks_D laws_FnSetNecks_H laws_FnSetNecks_ir [.d (.one (.sl (.one (.int .u8)))), .d (.one (.sl (.one (.int .u8))))] [.d (.one .bool)] []
noncomputable def laws_FnSetNecks (a0 : List Int) (a1 : List Int) : Option (Bool) := laws_FnSetNecks_c.f (a0, a1, ())
noncomputable def laws_FnSetNecks_p0  (v0 : List Int) (v1 : List Int) : Option (Bool) :=
  goL laws_FnSetNecks_D laws_FnSetNecks_H (vleave laws_FnSetNecks_ir [.d (.one (.sl (.one (.int .u8)))), .d (.one (.sl (.one (.int .u8))))] [.d (.one .bool)] [] []) [.c laws_FnSetNecks_k13]
    ⟨[(0, .sl (.one (.int .u8)) v0), (1, .sl (.one (.int .u8)) v1)], []⟩
noncomputable def laws_FnSetNecks_p1  (v0 : List Int) (v1 : List Int) (v7 : Int) (v8 : Int) (r5 : List T_Neck.ty) (r6_0 : Int) (r6_1 : Int) (r6_2 : Int) (r6_3 : Int) : Option (Bool) :=
  goL laws_FnSetNecks_D laws_FnSetNecks_H (vleave laws_FnSetNecks_ir [.d (.one (.sl (.one (.int .u8)))), .d (.one (.sl (.one (.int .u8))))] [.d (.one .bool)] [] []) [.c laws_FnSetNecks_k2, .c laws_FnSetNecks_k12]
    ⟨[(0, .sl (.one (.int .u8)) v0), (1, .sl (.one (.int .u8)) v1), (5, .view 5 0 r5.length), (6, .loc 6 0 0), (7, .int .i64 v7), (8, .int .i64 v8)], [(5, some (.sl T_Neck r5)), (6, some (.var 4 (.agg [.int .i64 r6_0, .int .i64 r6_1, .int .i64 r6_2, .int .i64 r6_3])))]⟩
noncomputable def laws_FnSetNecks_p2  (v0 : List Int) (v1 : List Int) : Option (Bool) :=
  goL laws_FnSetNecks_D laws_FnSetNecks_H (vleave laws_FnSetNecks_ir [.d (.one (.sl (.one (.int .u8)))), .d (.one (.sl (.one (.int .u8))))] [.d (.one .bool)] [] []) [.c laws_FnSetNecks_k11]
    ⟨[(0, .sl (.one (.int .u8)) v0), (1, .sl (.one (.int .u8)) v1)], []⟩
noncomputable def laws_FnSetNecks_p3  (v0 : List Int) (v1 : List Int) (v7 : Int) (v8 : Int) (v10 : Int) (r5 : List T_Neck.ty) (r6_0 : Int) (r6_1 : Int) (r6_2 : Int) (r6_3 : Int) : Option (Bool) :=
  goL laws_FnSetNecks_D laws_FnSetNecks_H (vleave laws_FnSetNecks_ir [.d (.one (.sl (.one (.int .u8)))), .d (.one (.sl (.one (.int .u8))))] [.d (.one .bool)] [] []) [.c laws_FnSetNecks_k0, .l laws_FnSetNecks_k1, .e 0, .c laws_FnSetNecks_k12]
    ⟨[(0, .sl (.one (.int .u8)) v0), (1, .sl (.one (.int .u8)) v1), (5, .view 5 0 r5.length), (6, .loc 6 0 0), (7, .int .i64 v7), (8, .int .i64 v8), (10, .int .i64 v10)], [(5, some (.sl T_Neck r5)), (6, some (.var 4 (.agg [.int .i64 r6_0, .int .i64 r6_1, .int .i64 r6_2, .int .i64 r6_3])))]⟩
noncomputable def laws_FnSetNecks_p4  (v0 : List Int) (v13 : Int) (v14 : Int) (v17 : Int) (r12 : List T_Neck.ty) (r15 : List Int) : Option (Bool) :=
  goL laws_FnSetNecks_D laws_FnSetNecks_H (vleave laws_FnSetNecks_ir [.d (.one (.sl (.one (.int .u8)))), .d (.one (.sl (.one (.int .u8))))] [.d (.one .bool)] [] []) [.c laws_FnSetNecks_k3, .l laws_FnSetNecks_k4, .e 2, .c laws_FnSetNecks_k10]
    ⟨[(0, .sl (.one (.int .u8)) v0), (12, .view 12 0 r12.length), (13, .int .i64 v13), (14, .int .i64 v14), (15, .view 15 0 r15.length), (17, .int .i64 v17)], [(12, some (.sl T_Neck r12)), (15, some (.sl (.one (.int .i64)) r15))]⟩
noncomputable def laws_FnSetNecks_p5  (v0 : List Int) : Option (Bool) :=
  goL laws_FnSetNecks_D laws_FnSetNecks_H (vleave laws_FnSetNecks_ir [.d (.one (.sl (.one (.int .u8)))), .d (.one (.sl (.one (.int .u8))))] [.d (.one .bool)] [] []) [.c laws_FnSetNecks_k9]
    ⟨[(0, .sl (.one (.int .u8)) v0)], []⟩
noncomputable def laws_FnSetNecks_p6  (v20 : Int) (v21 : Int) (v22 : Int) (r23 : List Int) : Option (Bool) :=
  goL laws_FnSetNecks_D laws_FnSetNecks_H (vleave laws_FnSetNecks_ir [.d (.one (.sl (.one (.int .u8)))), .d (.one (.sl (.one (.int .u8))))] [.d (.one .bool)] [] []) [.c laws_FnSetNecks_k8]
    ⟨[(20, .int .i64 v20), (21, .int .i64 v21), (22, .int .i64 v22), (23, .view 23 0 r23.length)], [(23, some (.sl (.one (.int .i64)) r23))]⟩
noncomputable def laws_FnSetNecks_p7  (v20 : Int) (v21 : Int) (v22 : Int) (v25 : Int) (r23 : List Int) : Option (Bool) :=
  goL laws_FnSetNecks_D laws_FnSetNecks_H (vleave laws_FnSetNecks_ir [.d (.one (.sl (.one (.int .u8)))), .d (.one (.sl (.one (.int .u8))))] [.d (.one .bool)] [] []) [.c laws_FnSetNecks_k5, .l laws_FnSetNecks_k6, .e 4, .c laws_FnSetNecks_k7]
    ⟨[(20, .int .i64 v20), (21, .int .i64 v21), (22, .int .i64 v22), (23, .view 23 0 r23.length), (25, .int .i64 v25)], [(23, some (.sl (.one (.int .i64)) r23))]⟩
theorem laws_FnSetNecks_eq (a0 : List Int) (a1 : List Int) : laws_FnSetNecks a0 a1 =
    (laws_b10Long a0).bind fun x1 =>
      if x1 then
        some true
      else
        (laws_b10Long a1).bind fun x2 =>
          if x2 then
            some true
          else
            laws_FnSetNecks_p0 a0 a1 :=
  (mk_f _ _ _ _ _ _ _ 4000).trans (by kernel_rfl)
theorem laws_FnSetNecks_p0_eq  (v0 : List Int) (v1 : List Int) : laws_FnSetNecks_p0 v0 v1 =
    (spec_DrawNearestNeck v0).bind fun x1 =>
      (impl_NearestNeck (x1.1.take x1.1.length) (x1.2.1, x1.2.2.1, x1.2.2.2.1, x1.2.2.2.2.1, ())).bind fun x2 =>
        if (x2.2.2 == 0) then
          if decide (x2.1 < 0) then
            some false
          else
            if decide (x2.1 ≥ (x1.1.length : Int)) then
              some false
            else
              laws_FnSetNecks_p1 v0 v1 x2.1 x2.2.1 x1.1 x1.2.1 x1.2.2.1 x1.2.2.2.1 x1.2.2.2.2.1
        else
          if (x2.1 != 0) then
            some false
          else
            if (x2.2.1 != 0) then
              some false
            else
              laws_FnSetNecks_p2 v0 v1 :=
  (goL_dn _ _ _ 4000 _ _).trans (by kernel_rfl)
theorem laws_FnSetNecks_p1_eq  (v0 : List Int) (v1 : List Int) (v7 : Int) (v8 : Int) (r5 : List T_Neck.ty) (r6_0 : Int) (r6_1 : Int) (r6_2 : Int) (r6_3 : Int) : laws_FnSetNecks_p1 v0 v1 v7 v8 r5 r6_0 r6_1 r6_2 r6_3 =
    laws_FnSetNecks_p3 v0 v1 v7 v8 0 r5 r6_0 r6_1 r6_2 r6_3 :=
  (goL_dn _ _ _ 4000 _ _).trans (by kernel_rfl)
theorem laws_FnSetNecks_p2_eq  (v0 : List Int) (v1 : List Int) : laws_FnSetNecks_p2 v0 v1 =
    (spec_DrawSetNecks v1).bind fun x1 =>
      (impl_SetNecks (x1.1.take x1.1.length) x1.2.1 x1.2.2).bind fun x2 =>
        if (x2.2 == 0) then
          (laws_b10Rises (x2.1.take x2.1.length) (x1.1.length : Int)).bind fun x3 =>
            if (!x3) then
              some false
            else
              laws_FnSetNecks_p4 v0 x1.2.1 x1.2.2 0 x1.1 x2.1
        else
          if ((x2.1.length : Int) != 0) then
            some false
          else
            laws_FnSetNecks_p5 v0 :=
  (goL_dn _ _ _ 4000 _ _).trans (by kernel_rfl)
theorem laws_FnSetNecks_p3_eq  (v0 : List Int) (v1 : List Int) (v7 : Int) (v8 : Int) (v10 : Int) (r5 : List T_Neck.ty) (r6_0 : Int) (r6_1 : Int) (r6_2 : Int) (r6_3 : Int) : laws_FnSetNecks_p3 v0 v1 v7 v8 v10 r5 r6_0 r6_1 r6_2 r6_3 =
    if decide (v10 < (r5.length : Int)) then
      if decide (0 ≤ v10) && decide (v10 < (r5.length : Int)) then
        (r5[v10.toNat]?).bind fun x1 =>
          (laws_b10Abs (IntKind.i64.wrap (x1.1 - r6_0))).bind fun x2 =>
            if decide (0 ≤ v10) && decide (v10 < (r5.length : Int)) then
              (r5[v10.toNat]?).bind fun x3 =>
                (laws_b10Abs (IntKind.i64.wrap (x3.2.1 - r6_1))).bind fun x4 =>
                  if decide (0 ≤ v10) && decide (v10 < (r5.length : Int)) then
                    (r5[v10.toNat]?).bind fun x5 =>
                      (laws_b10Abs (IntKind.i64.wrap (x5.2.2.1 - r6_2))).bind fun x6 =>
                        if decide (0 ≤ v10) && decide (v10 < (r5.length : Int)) then
                          (r5[v10.toNat]?).bind fun x7 =>
                            (laws_b10Abs (IntKind.i64.wrap (x7.2.2.2.1 - r6_3))).bind fun x8 =>
                              if decide (IntKind.i64.wrap ((IntKind.i64.wrap ((IntKind.i64.wrap (x2 + x4)) + x6)) + x8) < v8) then
                                some false
                              else
                                if (v10 == v7) then
                                  if (IntKind.i64.wrap ((IntKind.i64.wrap ((IntKind.i64.wrap (x2 + x4)) + x6)) + x8) != v8) then
                                    some false
                                  else
                                    if decide (v10 < v7) then
                                      if (IntKind.i64.wrap ((IntKind.i64.wrap ((IntKind.i64.wrap (x2 + x4)) + x6)) + x8) == v8) then
                                        some false
                                      else
                                        laws_FnSetNecks_p3 v0 v1 v7 v8 (IntKind.i64.wrap (v10 + 1)) r5 r6_0 r6_1 r6_2 r6_3
                                    else
                                      laws_FnSetNecks_p3 v0 v1 v7 v8 (IntKind.i64.wrap (v10 + 1)) r5 r6_0 r6_1 r6_2 r6_3
                                else
                                  if decide (v10 < v7) then
                                    if (IntKind.i64.wrap ((IntKind.i64.wrap ((IntKind.i64.wrap (x2 + x4)) + x6)) + x8) == v8) then
                                      some false
                                    else
                                      laws_FnSetNecks_p3 v0 v1 v7 v8 (IntKind.i64.wrap (v10 + 1)) r5 r6_0 r6_1 r6_2 r6_3
                                  else
                                    laws_FnSetNecks_p3 v0 v1 v7 v8 (IntKind.i64.wrap (v10 + 1)) r5 r6_0 r6_1 r6_2 r6_3
                        else
                          none
                  else
                    none
            else
              none
      else
        none
    else
      laws_FnSetNecks_p2 v0 v1 :=
  (goL_dn _ _ _ 4000 _ _).trans (by kernel_rfl)
theorem laws_FnSetNecks_p4_eq  (v0 : List Int) (v13 : Int) (v14 : Int) (v17 : Int) (r12 : List T_Neck.ty) (r15 : List Int) : laws_FnSetNecks_p4 v0 v13 v14 v17 r12 r15 =
    if decide (v17 < (r12.length : Int)) then
      if decide (0 ≤ v17) && decide (v17 < (r12.length : Int)) then
        (r12[v17.toNat]?).bind fun x1 =>
          (spec_ProjectionOf x1).bind fun x2 =>
            if (x2.2 != 0) then
              some false
            else
              (laws_b10Has (r15.take r15.length) v17).bind fun x3 =>
                (laws_b10Abs (IntKind.i64.wrap (x2.1 - v13))).bind fun x4 =>
                  if (!(x3 == decide (x4 ≤ v14))) then
                    some false
                  else
                    laws_FnSetNecks_p4 v0 v13 v14 (IntKind.i64.wrap (v17 + 1)) r12 r15
      else
        none
    else
      laws_FnSetNecks_p5 v0 :=
  (goL_dn _ _ _ 4000 _ _).trans (by kernel_rfl)
theorem laws_FnSetNecks_p5_eq  (v0 : List Int) : laws_FnSetNecks_p5 v0 =
    (spec_DrawHeightsAlong v0).bind fun x1 =>
      (impl_HeightsAlong x1.1 x1.2.1 x1.2.2).bind fun x2 =>
        if (x2.2 != 0) then
          some ((x2.1.length : Int) == 0)
        else
          if decide (x1.2.2 < 1) then
            some false
          else
            if ((x2.1.length : Int) != IntKind.i64.wrap (x1.2.2 + 1)) then
              some false
            else
              if decide (0 < (x2.1.length : Int)) then
                (x2.1[0]?).bind fun x3 =>
                  if (x3 != x1.1) then
                    some false
                  else
                    if decide (0 ≤ x1.2.2) && decide (x1.2.2 < (x2.1.length : Int)) then
                      (x2.1[x1.2.2.toNat]?).bind fun x4 =>
                        if (x4 != x1.2.1) then
                          some false
                        else
                          laws_FnSetNecks_p6 x1.1 x1.2.1 x1.2.2 x2.1
                    else
                      none
              else
                none :=
  (goL_dn _ _ _ 4000 _ _).trans (by kernel_rfl)
theorem laws_FnSetNecks_p6_eq  (v20 : Int) (v21 : Int) (v22 : Int) (r23 : List Int) : laws_FnSetNecks_p6 v20 v21 v22 r23 =
    laws_FnSetNecks_p7 v20 v21 v22 0 r23 :=
  (goL_dn _ _ _ 4000 _ _).trans (by kernel_rfl)
theorem laws_FnSetNecks_p7_eq  (v20 : Int) (v21 : Int) (v22 : Int) (v25 : Int) (r23 : List Int) : laws_FnSetNecks_p7 v20 v21 v22 v25 r23 =
    if decide (v25 ≤ v22) then
      if decide (0 ≤ v25) && decide (v25 < (r23.length : Int)) then
        (r23[v25.toNat]?).bind fun x1 =>
          (laws_b10Abs (IntKind.i64.wrap ((IntKind.i64.wrap ((IntKind.i64.wrap (x1 * v22)) - (IntKind.i64.wrap (v20 * v22)))) - (IntKind.i64.wrap ((IntKind.i64.wrap (v21 - v20)) * v25))))).bind fun x2 =>
            if decide (x2 > v22) then
              some false
            else
              laws_FnSetNecks_p7 v20 v21 v22 (IntKind.i64.wrap (v25 + 1)) r23
      else
        none
    else
      some true :=
  (goL_dn _ _ _ 4000 _ _).trans (by kernel_rfl)

end Go.Ab.P
