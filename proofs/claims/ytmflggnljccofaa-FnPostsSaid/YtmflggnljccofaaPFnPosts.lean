/- Functions of the program: abstract forms, and what their runs give. Conditions: none. -/
import Derived.Test.YtmflggnljccofaaLC
set_option maxRecDepth 100000
set_option linter.unusedVariables false
namespace Go.Ab.P
open Go.Ab
@[reducible] def T_Peg : ET := .agg (.cons .str (.cons (.int .i64) (.cons (.int .i64) (.cons (.int .i64) .nil))))
@[reducible] def T_Point : ET := .agg (.cons (.int .i64) (.cons (.int .i64) .nil))
@[reducible] def T_l00Src : ET := .agg (.cons (.sl (.one (.int .u8))) (.cons (.int .i64) (.cons (.int .u64) .nil)))
def laws_b10Long_ir : Fn := { np := 1,io := [],res := [.t 2],own := [false],body :=
 (.seq (.reg false [.V 2 (.asg (.c (.bool false)))] [0] []) (.seq (.reg false [.V 3 (.mv (.t 0)),.V 4 (.len (.t 3)),.V 5 (.bin .gtr (.t 4) (.c (.int .i64 1048576))),.V 2 (.asg (.t 5))] [2] []) .ret)) }
noncomputable def laws_b10Long_D : List (Nat × Callee) := []
def laws_b10Long_H : List (Nat × ET) := [(3,(.one (.int .u8)))]
noncomputable def laws_b10Long_c : Callee := mkCallee laws_b10Long_D laws_b10Long_H laws_b10Long_ir [.d (.one (.sl (.one (.int .u8))))] [.d (.one .bool)] []
noncomputable def laws_b10Long (a0 : List Int) : Option (Bool) := laws_b10Long_c.f (a0,())
theorem laws_b10Long_eq (a0 : List Int) : laws_b10Long a0 =
 some (decide ((a0.length : Int) > 1048576)) :=
 (mk_f _ _ _ _ _ _ _ 4000).trans (by kernel_rfl)
def spec_l00From_ir : Fn := { np := 1,io := [],res := [.t 2],own := [true],body :=
 (.seq (.reg false [.V 2 (.asg (.c (.cst (.pointer none))))] [0] []) (.seq (.reg false [.V 3 (.mv (.t 0)),.V 4 (.build [.nils 1,.int .i64 0,.int .u64 0] [(0,1,.t 3)]),.W 5 (.box 3 (.t 4)),.V 2 (.asg (.t 5))] [2] [5,6000]) .ret)) }
noncomputable def spec_l00From_D : List (Nat × Callee) := []
def spec_l00From_H : List (Nat × ET) := [(3,(.one (.int .u8)))]
noncomputable def spec_l00From_c : Callee := mkCallee spec_l00From_D spec_l00From_H spec_l00From_ir [.d (.one (.sl (.one (.int .u8))))] [.box T_l00Src] []
noncomputable def spec_l00From (a0 : List Int) : Option (T_l00Src.ty) := spec_l00From_c.f (a0,())
theorem spec_l00From_eq (a0 : List Int) : spec_l00From a0 =
 some (a0,0,0,()) :=
 (mk_f _ _ _ _ _ _ _ 4000).trans (by kernel_rfl)
def spec_l00Src_next_k0 : C :=
 .seq (.reg false [.V 25 (.mv (.t 0)),.V 26 (.nilck (.t 25)),.V 27 (.fa 1 (.t 26)),.V 28 (.ld none (.t 27)),.V 29 (.bin .add (.t 28) (.c (.int .i64 1))),.V 30 (.nilck (.t 25)),.V 31 (.fa 1 (.t 30)),⟨none,true,.sto 1 (.t 31) (.t 29),none,false,[]⟩] [0,3] [0,1000]) (.seq (.reg false [.V 32 (.mv (.t 0)),.V 33 (.mv (.t 0)),.V 34 (.nilck (.t 33)),.V 35 (.fa 2 (.t 34)),.V 36 (.ld none (.t 35)),.V 37 (.bin .mul (.t 36) (.c (.int .u64 6364136223846793005))),.V 38 (.mv (.t 3)),.V 39 (.conv (.int .u64) (.t 38)),.V 40 (.bin .add (.t 37) (.t 39)),.V 41 (.bin .add (.t 40) (.c (.int .u64 1442695040888963407))),.V 42 (.nilck (.t 32)),.V 43 (.fa 2 (.t 42)),⟨none,true,.sto 1 (.t 43) (.t 41),none,false,[]⟩] [0,3] [0,1000]) (.seq (.seq (.reg true [.V 44 (.mv (.t 0)),.V 45 (.nilck (.t 44)),.V 46 (.fa 1 (.t 45)),.V 47 (.ld none (.t 46)),.V 48 (.mv (.t 0)),.V 49 (.nilck (.t 48)),.V 50 (.fa 0 (.t 49)),.V 51 (.ld none (.t 50)),.V 52 (.len (.t 51)),.V 53 (.bin .leq (.t 47) (.t 52))] [0,3,53] [0,1000]) (.cond (.t 53) (.seq (.reg false [.V 54 (.mv (.t 3)),.V 2 (.asg (.t 54))] [0,2] [0,1000]) .ret) .skip)) (.seq (.reg false [.V 55 (.mv (.t 0)),.V 56 (.nilck (.t 55)),.V 57 (.fa 2 (.t 56)),.V 58 (.ld none (.t 57)),.V 59 (.bin .shr (.t 58) (.c (.int .u64 40))),.V 60 (.bin .and (.t 59) (.c (.int .u64 255))),.V 61 (.conv (.int .i64) (.t 60)),.V 2 (.asg (.t 61))] [0,2] [0,1000]) .ret)))
def spec_l00Src_next_ir : Fn := { np := 1,io := [true],res := [.t 2],own := [false],body :=
 (.seq (.reg false [.V 2 (.asg (.c (.int .i64 0)))] [0] [0,1000]) (.seq (.reg false [.V 3 (.asg (.c (.int .i64 0)))] [0,3] [0,1000]) (.seq (.seq (.reg true [.V 4 (.mv (.t 0)),.V 5 (.nilck (.t 4)),.V 6 (.fa 1 (.t 5)),.V 7 (.ld none (.t 6)),.V 8 (.mv (.t 0)),.V 9 (.nilck (.t 8)),.V 10 (.fa 0 (.t 9)),.V 11 (.ld none (.t 10)),.V 12 (.len (.t 11)),.V 13 (.bin .lss (.t 7) (.t 12))] [0,3,13] [0,1000]) (.cond (.t 13) (.reg true [.V 14 (.mv (.t 0)),.V 15 (.nilck (.t 14)),.V 16 (.fa 0 (.t 15)),.V 17 (.ld none (.t 16)),.V 18 (.mv (.t 0)),.V 19 (.nilck (.t 18)),.V 20 (.fa 1 (.t 19)),.V 21 (.ld none (.t 20)),.V 22 (.ia 1 (.t 17) (.t 21)),.V 23 (.ld none (.t 22)),.V 24 (.conv (.int .i64) (.t 23)),.V 3 (.asg (.t 24))] [0,3] [0,1000]) .skip)) (.norm [0,3] [0,1000] spec_l00Src_next_k0)))) }
noncomputable def spec_l00Src_next_D : List (Nat × Callee) := []
def spec_l00Src_next_H : List (Nat × ET) := [(11,(.one (.int .u8))),(17,(.one (.int .u8))),(51,(.one (.int .u8)))]
noncomputable def spec_l00Src_next_c : Callee := mkCallee spec_l00Src_next_D spec_l00Src_next_H spec_l00Src_next_ir [.box T_l00Src] [.d (.one (.int .i64))] [.box T_l00Src]
noncomputable def spec_l00Src_next (a0 : T_l00Src.ty) : Option (Int × T_l00Src.ty) := spec_l00Src_next_c.f (a0,())
noncomputable def spec_l00Src_next_p0  (v3 : Int) (r0_0 : List Int) (r0_1 : Int) (r0_2 : Int) : Option (Int × T_l00Src.ty) :=
 goL spec_l00Src_next_D spec_l00Src_next_H (vleave spec_l00Src_next_ir [.box T_l00Src] [.d (.one (.int .i64))] [.box T_l00Src] []) [.c spec_l00Src_next_k0]
  ⟨[(0,.loc 0 0 0),(3,.int .i64 v3)],[(0,some (.var 3 (.agg [.sl (.one (.int .u8)) r0_0,.int .i64 r0_1,.int .u64 r0_2]))),(1000,none)]⟩
theorem spec_l00Src_next_eq (a0 : T_l00Src.ty) : spec_l00Src_next a0 =
 if decide (a0.2.1 < (a0.1.length : Int)) then
  if decide (0 ≤ a0.2.1) then
   (a0.1[a0.2.1.toNat]?).bind fun x1 =>
    spec_l00Src_next_p0 (IntKind.i64.wrap x1) a0.1 a0.2.1 a0.2.2.1
  else
   none
 else
  spec_l00Src_next_p0 0 a0.1 a0.2.1 a0.2.2.1 :=
 (mk_f _ _ _ _ _ _ _ 4000).trans (by kernel_rfl)
theorem spec_l00Src_next_p0_eq  (v3 : Int) (r0_0 : List Int) (r0_1 : Int) (r0_2 : Int) : spec_l00Src_next_p0 v3 r0_0 r0_1 r0_2 =
 if decide (IntKind.i64.wrap (r0_1 + 1) ≤ (r0_0.length : Int)) then
  some (v3,(r0_0,IntKind.i64.wrap (r0_1 + 1),IntKind.u64.wrap ((IntKind.u64.wrap ((IntKind.u64.wrap (r0_2 * 6364136223846793005)) + (IntKind.u64.wrap v3))) + 1442695040888963407),()))
 else
  some (IntKind.i64.wrap (IntKind.u64.wrap ((BitVec.ofInt IntKind.u64.bits (Int.fdiv (IntKind.u64.wrap ((IntKind.u64.wrap ((IntKind.u64.wrap (r0_2 * 6364136223846793005)) + (IntKind.u64.wrap v3))) + 1442695040888963407)) (2 ^ (min (40 : Int).toNat IntKind.u64.bits))) &&& BitVec.ofInt IntKind.u64.bits 255).toNat : Int)),(r0_0,IntKind.i64.wrap (r0_1 + 1),IntKind.u64.wrap ((IntKind.u64.wrap ((IntKind.u64.wrap (r0_2 * 6364136223846793005)) + (IntKind.u64.wrap v3))) + 1442695040888963407),())) :=
 (goL_dn _ _ _ 4000 _ _).trans (by kernel_rfl)
def spec_l00Src_pick_ir : Fn := { np := 2,io := [true,false],res := [.t 4],own := [false],body :=
 (.seq (.reg false [.V 4 (.asg (.c (.int .i64 0)))] [0,1] [0,1000]) (.seq (.seq (.reg false [.V 6 (.mv (.t 1)),.V 7 (.bin .leq (.t 6) (.c (.int .i64 1)))] [0,1,7] [0,1000]) (.cond (.t 7) (.seq (.reg false [.V 4 (.asg (.c (.int .i64 0)))] [0,4] [0,1000]) .ret) .skip)) (.seq (.reg false [.V 8 (.mv (.t 0)),.W 9 (.call (.c (.fn 847 [])) [.t 8]),.V 5 (.asg (.t 9))] [0,1,5] [0,1000]) (.seq (.seq (.reg false [.V 10 (.mv (.t 1)),.V 11 (.bin .gtr (.t 10) (.c (.int .i64 200)))] [0,1,5,11] [0,1000]) (.cond (.t 11) (.reg false [.V 12 (.mv (.t 5)),.V 13 (.bin .mul (.t 12) (.c (.int .i64 256))),.V 14 (.mv (.t 0)),.W 15 (.call (.c (.fn 847 [])) [.t 14]),.V 16 (.bin .add (.t 13) (.t 15)),.V 5 (.asg (.t 16))] [0,1,5] [0,1000]) .skip)) (.seq (.reg false [.V 17 (.mv (.t 5)),.V 18 (.mv (.t 1)),.V 19 (.bin .rem (.t 17) (.t 18)),.V 4 (.asg (.t 19))] [0,4] [0,1000]) .ret))))) }
noncomputable def spec_l00Src_pick_D : List (Nat × Callee) := [(847,spec_l00Src_next_c)]
def spec_l00Src_pick_H : List (Nat × ET) := []
noncomputable def spec_l00Src_pick_c : Callee := mkCallee spec_l00Src_pick_D spec_l00Src_pick_H spec_l00Src_pick_ir [.box T_l00Src,.d (.one (.int .i64))] [.d (.one (.int .i64))] [.box T_l00Src]
noncomputable def spec_l00Src_pick (a0 : T_l00Src.ty) (a1 : Int) : Option (Int × T_l00Src.ty) := spec_l00Src_pick_c.f (a0,a1,())
theorem spec_l00Src_pick_eq (a0 : T_l00Src.ty) (a1 : Int) : spec_l00Src_pick a0 a1 =
 if decide (a1 ≤ 1) then
  some (0,a0)
 else
  (spec_l00Src_next a0).bind fun x1 =>
   if decide (a1 > 200) then
    (spec_l00Src_next (x1.2.1,x1.2.2.1,x1.2.2.2.1,())).bind fun x2 =>
     if decide (a1 = 0) then
      none
     else
      some ((IntKind.i64.wrap ((IntKind.i64.wrap (x1.1 * 256)) + x2.1)).tmod a1,(x2.2.1,x2.2.2.1,x2.2.2.2.1,()))
   else
    if decide (a1 = 0) then
     none
    else
     some (x1.1.tmod a1,(x1.2.1,x1.2.2.1,x1.2.2.2.1,())) :=
 (mk_f _ _ _ _ _ _ _ 4000).trans (by kernel_rfl)
def spec_l00Src_among_ir : Fn := { np := 2,io := [true,false],res := [.t 4],own := [false],body :=
 (.seq (.reg false [.V 4 (.asg (.c (.int .i64 0)))] [0,1] [0,1000]) (.seq (.reg false [.V 5 (.mv (.t 1)),.V 6 (.mv (.t 0)),.V 7 (.mv (.t 1)),.V 8 (.len (.t 7)),.W 9 (.call (.c (.fn 463 [])) [.t 6,.t 8]),.V 10 (.ia 1 (.t 5) (.t 9)),.V 11 (.ld none (.t 10)),.V 4 (.asg (.t 11))] [0,4] [0,1000]) .ret)) }
noncomputable def spec_l00Src_among_D : List (Nat × Callee) := [(463,spec_l00Src_pick_c)]
def spec_l00Src_among_H : List (Nat × ET) := [(5,(.one (.int .i64))),(7,(.one (.int .i64)))]
noncomputable def spec_l00Src_among_c : Callee := mkCallee spec_l00Src_among_D spec_l00Src_among_H spec_l00Src_among_ir [.box T_l00Src,.d (.one (.sl (.one (.int .i64))))] [.d (.one (.int .i64))] [.box T_l00Src]
noncomputable def spec_l00Src_among (a0 : T_l00Src.ty) (a1 : List Int) : Option (Int × T_l00Src.ty) := spec_l00Src_among_c.f (a0,a1,())
theorem spec_l00Src_among_eq (a0 : T_l00Src.ty) (a1 : List Int) : spec_l00Src_among a0 a1 =
 (spec_l00Src_pick a0 (a1.length : Int)).bind fun x1 =>
  if decide (0 ≤ x1.1) then
   (a1[x1.1.toNat]?).bind fun x2 =>
    some (x2,(x1.2.1,x1.2.2.1,x1.2.2.2.1,()))
  else
   none :=
 (mk_f _ _ _ _ _ _ _ 4000).trans (by kernel_rfl)
def spec_DrawPostRing_ir : Fn := { np := 1,io := [],res := [.t 2,.t 3],own := [false,false],body :=
 (.seq (.reg false [.V 2 (.asg (.c (.int .i64 0))),.V 3 (.asg (.c (.int .i64 0)))] [0] []) (.seq (.reg false [.V 6 (.mv (.t 0)),.W 7 (.call (.c (.fn 441 [])) [.t 6]),.V 4 (.asg (.t 7))] [4] [7,8000]) (.seq (.reg false [.V 8 (.mv (.t 4)),.V 9 (.bsl 1 (.int .i64 0) 7 [(0,.c (.int .i64 (-1))),(1,.c (.int .i64 0)),(2,.c (.int .i64 30)),(3,.c (.int .i64 60)),(4,.c (.int .i64 240)),(5,.c (.int .i64 500)),(6,.c (.int .i64 501))]),.W 10 (.call (.c (.fn 445 [])) [.t 8,.t 9]),.V 5 (.asg (.t 10))] [4,5] [7,8000]) (.seq (.reg false [.V 11 (.mv (.t 5)),.V 12 (.mv (.t 4)),.V 13 (.bsl 1 (.int .i64 0) 7 [(0,.c (.int .i64 0)),(1,.c (.int .i64 1)),(2,.c (.int .i64 10)),(3,.c (.int .i64 24)),(4,.c (.int .i64 35)),(5,.c (.int .i64 100)),(6,.c (.int .i64 101))]),.W 14 (.call (.c (.fn 445 [])) [.t 12,.t 13]),.V 2 (.asg (.t 11)),.V 3 (.asg (.t 14))] [2,3] []) .ret)))) }
noncomputable def spec_DrawPostRing_D : List (Nat × Callee) := [(441,spec_l00From_c),(445,spec_l00Src_among_c)]
def spec_DrawPostRing_H : List (Nat × ET) := [(6,(.one (.int .u8))),(9,(.one (.int .i64))),(13,(.one (.int .i64)))]
noncomputable def spec_DrawPostRing_c : Callee := mkCallee spec_DrawPostRing_D spec_DrawPostRing_H spec_DrawPostRing_ir [.d (.one (.sl (.one (.int .u8))))] [.d (.one (.int .i64)),.d (.one (.int .i64))] []
noncomputable def spec_DrawPostRing (a0 : List Int) : Option (Int × Int) := spec_DrawPostRing_c.f (a0,())
theorem spec_DrawPostRing_eq (a0 : List Int) : spec_DrawPostRing a0 =
 (spec_l00From a0).bind fun x1 =>
  (spec_l00Src_among x1 [(-1),0,30,60,240,500,501]).bind fun x2 =>
   (spec_l00Src_among (x2.2.1,x2.2.2.1,x2.2.2.2.1,()) [0,1,10,24,35,100,101]).bind fun x3 =>
    some (x2.1,x3.1) :=
 (mk_f _ _ _ _ _ _ _ 4000).trans (by kernel_rfl)
def impl_within_ir : Fn := { np := 3,io := [],res := [.t 6],own := [false],body :=
 (.seq (.reg false [.V 6 (.asg (.c (.bool false)))] [0,1,2] []) (.seq (.reg false [.V 7 (.mv (.t 1)),.V 8 (.mv (.t 0)),.V 9 (.bin .leq (.t 7) (.t 8)),.V 10 (.mv (.t 9)),.G 11 (.mv (.t 0)) 3 true,.G 12 (.mv (.t 2)) 3 true,.G 13 (.bin .leq (.t 11) (.t 12)) 3 true,.V 14 (.pick (.t 10) (.t 13) (.c (.bool false))),.V 6 (.asg (.t 14))] [6] []) .ret)) }
noncomputable def impl_within_D : List (Nat × Callee) := []
def impl_within_H : List (Nat × ET) := []
noncomputable def impl_within_c : Callee := mkCallee impl_within_D impl_within_H impl_within_ir [.d (.one (.int .i64)),.d (.one (.int .i64)),.d (.one (.int .i64))] [.d (.one .bool)] []
noncomputable def impl_within (a0 : Int) (a1 : Int) (a2 : Int) : Option (Bool) := impl_within_c.f (a0,a1,a2,())
theorem impl_within_eq (a0 : Int) (a1 : Int) (a2 : Int) : impl_within a0 a1 a2 =
 if decide (a1 ≤ a0) then
  some (decide (a0 ≤ a2))
 else
  some false :=
 (mk_f _ _ _ _ _ _ _ 4000).trans (by kernel_rfl)
def impl_PostRing_k0 : C :=
 .seq (.reg false [.V 14 (.mv (.t 0)),.V 15 (.bin .mul (.c (.int .i64 4)) (.t 14)),.V 16 (.bin .sub (.c (.int .i64 1000)) (.t 15)),.V 17 (.mv (.t 1)),.V 18 (.mv (.t 1)),.V 19 (.bin .mul (.t 17) (.t 18)),.V 20 (.bin .sub (.t 16) (.t 19)),.V 21 (.max [.c (.int .i64 0),.t 20]),.V 4 (.asg (.t 21)),.V 5 (.asg (.c (.int .i64 0)))] [4,5] []) .ret
def impl_PostRing_ir : Fn := { np := 2,io := [],res := [.t 4,.t 5],own := [false,false],body :=
 (.seq (.reg false [.V 4 (.asg (.c (.int .i64 0))),.V 5 (.asg (.c (.int .i64 0)))] [0,1] []) (.seq (.seq (.reg false [.V 6 (.mv (.t 0)),.V 7 (.call (.c (.fn 23 [])) [.t 6,.c (.int .i64 0),.c (.int .i64 500)]),.V 8 (.un .not (.t 7)),.V 9 (.mv (.t 8)),.G 10 (.mv (.t 1)) 3 false,.G 11 (.call (.c (.fn 23 [])) [.t 10,.c (.int .i64 1),.c (.int .i64 100)]) 3 false,.G 12 (.un .not (.t 11)) 3 false,.V 13 (.pick (.t 9) (.c (.bool true)) (.t 12))] [0,1,13] []) (.cond (.t 13) (.seq (.reg false [.V 4 (.asg (.c (.int .i64 0))),.V 5 (.asg (.c (.int .i64 2)))] [4,5] []) .ret) .skip)) (.norm [0,1] [] impl_PostRing_k0))) }
noncomputable def impl_PostRing_D : List (Nat × Callee) := [(23,impl_within_c)]
def impl_PostRing_H : List (Nat × ET) := []
noncomputable def impl_PostRing_c : Callee := mkCallee impl_PostRing_D impl_PostRing_H impl_PostRing_ir [.d (.one (.int .i64)),.d (.one (.int .i64))] [.d (.one (.int .i64)),.d (.one (.int .i64))] []
noncomputable def impl_PostRing (a0 : Int) (a1 : Int) : Option (Int × Int) := impl_PostRing_c.f (a0,a1,())
noncomputable def impl_PostRing_p0  (v0 : Int) (v1 : Int) : Option (Int × Int) :=
 goL impl_PostRing_D impl_PostRing_H (vleave impl_PostRing_ir [.d (.one (.int .i64)),.d (.one (.int .i64))] [.d (.one (.int .i64)),.d (.one (.int .i64))] [] []) [.c impl_PostRing_k0]
  ⟨[(0,.int .i64 v0),(1,.int .i64 v1)],[]⟩
theorem impl_PostRing_eq (a0 : Int) (a1 : Int) : impl_PostRing a0 a1 =
 (impl_within a0 0 500).bind fun x1 =>
  if (!x1) then
   some (0,2)
  else
   (impl_within a1 1 100).bind fun x2 =>
    if (!x2) then
     some (0,2)
    else
     impl_PostRing_p0 a0 a1 :=
 (mk_f _ _ _ _ _ _ _ 4000).trans (by kernel_rfl)
theorem impl_PostRing_p0_eq  (v0 : Int) (v1 : Int) : impl_PostRing_p0 v0 v1 =
 some ((if IntKind.i64.wrap ((IntKind.i64.wrap (1000 - (IntKind.i64.wrap (4 * v0)))) - (IntKind.i64.wrap (v1 * v1))) > 0 then IntKind.i64.wrap ((IntKind.i64.wrap (1000 - (IntKind.i64.wrap (4 * v0)))) - (IntKind.i64.wrap (v1 * v1))) else 0),0) :=
 (goL_dn _ _ _ 4000 _ _).trans (by kernel_rfl)
noncomputable def spec_DrawBestPost_c : Callee := bestPostC spec_l00From spec_l00Src_pick spec_l00Src_among
noncomputable def spec_DrawBestPost (a0 : List Int) : Option (List (List Int)) := spec_DrawBestPost_c.f (a0,())
theorem spec_DrawBestPost_eq (a0 : List Int) : spec_DrawBestPost a0 = (spec_l00From a0).bind (bpF spec_l00Src_pick spec_l00Src_among) := rfl
def impl_isPart_ir : Fn := { np := 1,io := [],res := [.t 2],own := [false],body :=
 (.seq (.reg false [.V 2 (.asg (.c (.bool false)))] [0] []) (.seq (.reg false [.V 3 (.mv (.t 0)),.V 4 (.call (.c (.fn 23 [])) [.t 3,.c (.int .i64 0),.c (.int .i64 1000)]),.V 2 (.asg (.t 4))] [2] []) .ret)) }
noncomputable def impl_isPart_D : List (Nat × Callee) := [(23,impl_within_c)]
def impl_isPart_H : List (Nat × ET) := []
noncomputable def impl_isPart_c : Callee := mkCallee impl_isPart_D impl_isPart_H impl_isPart_ir [.d (.one (.int .i64))] [.d (.one .bool)] []
noncomputable def impl_isPart (a0 : Int) : Option (Bool) := impl_isPart_c.f (a0,())
theorem impl_isPart_eq (a0 : Int) : impl_isPart a0 =
 (impl_within a0 0 1000).bind fun x1 =>
  some x1 :=
 (mk_f _ _ _ _ _ _ _ 4000).trans (by kernel_rfl)
def impl_areRings_k0 : C :=
 .seq (.reg false [.V 20 (.bin .lss (.t 19) (.t 18))] [0,7,8,9,17,18,19,20] [4]) (.seq (.cond (.t 20) .skip (.exit 2)) (.seq (.block 3 (.seq (.reg false [.V 21 (.ia 1 (.t 17) (.t 19)),.V 22 (.ld none (.t 21)),.V 6 (.asg (.t 22))] [0,6,7,8,9,17,18,19] [4]) (.seq (.reg false [.V 23 (.mv (.t 6)),.V 24 (.call (.c (.fn 483 [])) [.t 23]),.V 25 (.un .not (.t 24))] [0,7,8,9,17,18,19,25] [4]) (.cond (.t 25) (.seq (.reg false [.V 2 (.asg (.c (.bool false)))] [2] []) .ret) .skip)))) (.reg false [.V 26 (.bin .add (.t 19) (.c (.int .i64 1))),.V 19 (.mv (.t 26))] [0,7,8,9,17,18,19] [4])))
def impl_areRings_k1 : C :=
 .norm [0,7,8,9,17,18,19] [4] impl_areRings_k0
def impl_areRings_k2 : C :=
 .reg false [.V 27 (.bin .add (.t 9) (.c (.int .i64 1))),.V 9 (.mv (.t 27))] [0,7,8,9] []
def impl_areRings_k3 : C :=
 .seq (.reg false [.V 10 (.bin .lss (.t 9) (.t 8))] [0,7,8,9,10] []) (.seq (.cond (.t 10) .skip (.exit 0)) (.seq (.block 1 (.seq (.reg false [.V 11 (.ia 1 (.t 7) (.t 9)),.V 12 (.ld none (.t 11)),.W 4 (.asg (.t 12))] [0,4,7,8,9] [4]) (.seq (.seq (.reg false [.V 13 (.mv (.t 4)),.V 14 (.len (.t 13)),.V 15 (.call (.c (.fn 23 [])) [.t 14,.c (.int .i64 1),.c (.int .i64 8)]),.V 16 (.un .not (.t 15))] [0,4,7,8,9,16] [4]) (.cond (.t 16) (.seq (.reg false [.V 2 (.asg (.c (.bool false)))] [2] []) .ret) .skip)) (.seq (.reg false [.V 17 (.mv (.t 4)),.V 18 (.len (.t 17)),.V 19 (.mv (.c (.int .i64 0)))] [0,7,8,9,17,18,19] [4]) (.block 2 (.loop impl_areRings_k1)))))) impl_areRings_k2))
def impl_areRings_k4 : C :=
 .norm [0,7,8,9] [] impl_areRings_k3
def impl_areRings_k5 : C :=
 .seq (.reg false [.V 28 (.mv (.t 0)),.V 29 (.len (.t 28)),.V 30 (.call (.c (.fn 23 [])) [.t 29,.c (.int .i64 1),.c (.int .i64 8)]),.V 2 (.asg (.t 30))] [2] []) .ret
def impl_areRings_ir : Fn := { np := 1,io := [],res := [.t 2],own := [false],body :=
 (.seq (.reg false [.V 2 (.asg (.c (.bool false)))] [0] []) (.seq (.seq (.reg false [.V 7 (.mv (.t 0)),.V 8 (.len (.t 7)),.V 9 (.mv (.c (.int .i64 0)))] [0,7,8,9] []) (.block 0 (.loop impl_areRings_k4))) impl_areRings_k5)) }
noncomputable def impl_areRings_D : List (Nat × Callee) := [(23,impl_within_c),(483,impl_isPart_c)]
def impl_areRings_H : List (Nat × ET) := [(4,(.one (.int .i64))),(7,(.one (.sl (.one (.int .i64))))),(12,(.one (.int .i64))),(13,(.one (.int .i64))),(17,(.one (.int .i64))),(28,(.one (.sl (.one (.int .i64)))))]
noncomputable def impl_areRings_c : Callee := mkCallee impl_areRings_D impl_areRings_H impl_areRings_ir [.d (.one (.sl (.one (.sl (.one (.int .i64))))))] [.d (.one .bool)] []
noncomputable def impl_areRings (a0 : List (List Int)) : Option (Bool) := impl_areRings_c.f (a0,())
noncomputable def impl_areRings_p0  (v0 : List (List Int)) (v7 : List (List Int)) (v8 : Int) (v9 : Int) : Option (Bool) :=
 goL impl_areRings_D impl_areRings_H (vleave impl_areRings_ir [.d (.one (.sl (.one (.sl (.one (.int .i64))))))] [.d (.one .bool)] [] []) [.c impl_areRings_k3,.l impl_areRings_k4,.e 0,.c impl_areRings_k5]
  ⟨[(0,.sl (.one (.sl (.one (.int .i64)))) v0),(7,.sl (.one (.sl (.one (.int .i64)))) v7),(8,.int .i64 v8),(9,.int .i64 v9)],[]⟩
noncomputable def impl_areRings_p1  (v0 : List (List Int)) (v7 : List (List Int)) (v8 : Int) (v9 : Int) (v17 : List Int) (v18 : Int) (v19 : Int) : Option (Bool) :=
 goL impl_areRings_D impl_areRings_H (vleave impl_areRings_ir [.d (.one (.sl (.one (.sl (.one (.int .i64))))))] [.d (.one .bool)] [] []) [.c impl_areRings_k0,.l impl_areRings_k1,.e 2,.e 1,.c impl_areRings_k2,.l impl_areRings_k4,.e 0,.c impl_areRings_k5]
  ⟨[(0,.sl (.one (.sl (.one (.int .i64)))) v0),(7,.sl (.one (.sl (.one (.int .i64)))) v7),(8,.int .i64 v8),(9,.int .i64 v9),(17,.sl (.one (.int .i64)) v17),(18,.int .i64 v18),(19,.int .i64 v19)],[(4,none)]⟩
theorem impl_areRings_eq (a0 : List (List Int)) : impl_areRings a0 =
 impl_areRings_p0 a0 a0 (a0.length : Int) 0 :=
 (mk_f _ _ _ _ _ _ _ 4000).trans (by kernel_rfl)
theorem impl_areRings_p0_eq  (v0 : List (List Int)) (v7 : List (List Int)) (v8 : Int) (v9 : Int) : impl_areRings_p0 v0 v7 v8 v9 =
 if decide (v9 < v8) then
  if decide (0 ≤ v9) then
   (v7[v9.toNat]?).bind fun x1 =>
    (impl_within (x1.length : Int) 1 8).bind fun x2 =>
     if (!x2) then
      some false
     else
      impl_areRings_p1 v0 v7 v8 v9 x1 (x1.length : Int) 0
  else
   none
 else
  (impl_within (v0.length : Int) 1 8).bind fun x3 =>
   some x3 :=
 (goL_dn _ _ _ 4000 _ _).trans (by kernel_rfl)
theorem impl_areRings_p1_eq  (v0 : List (List Int)) (v7 : List (List Int)) (v8 : Int) (v9 : Int) (v17 : List Int) (v18 : Int) (v19 : Int) : impl_areRings_p1 v0 v7 v8 v9 v17 v18 v19 =
 if decide (v19 < v18) then
  if decide (0 ≤ v19) then
   (v17[v19.toNat]?).bind fun x1 =>
    (impl_isPart x1).bind fun x2 =>
     if (!x2) then
      some false
     else
      impl_areRings_p1 v0 v7 v8 v9 v17 v18 (IntKind.i64.wrap (v19 + 1))
  else
   none
 else
  impl_areRings_p0 v0 v7 v8 (IntKind.i64.wrap (v9 + 1)) :=
 (goL_dn _ _ _ 4000 _ _).trans (by kernel_rfl)
def impl_places_k0 : C :=
 .seq (.reg false [.V 18 (.bin .lss (.t 17) (.t 16))] [3,4,8,9,10,16,17,18] [3]) (.seq (.cond (.t 18) .skip (.exit 2)) (.seq (.block 3 (.seq (.reg false [.V 19 (.mv (.t 17)),.V 6 (.asg (.t 19))] [3,4,6,8,9,10,16,17] [3]) (.reg false [.V 20 (.mv (.t 3)),.V 21 (.mv (.t 4)),.V 22 (.mv (.t 6)),.V 23 (.build [.int .i64 0,.int .i64 0] [(0,1,.t 21),(1,1,.t 22)]),.V 24 (.bsl 2 (.agg [.int .i64 0,.int .i64 0]) 1 [(0,.t 23)]),.W 25 (.app 2 16 (.t 20) (.t 24)),.W 3 (.asg (.t 25))] [3,4,8,9,10,16,17] [3]))) (.reg false [.V 26 (.bin .add (.t 17) (.c (.int .i64 1))),.V 17 (.mv (.t 26))] [3,4,8,9,10,16,17] [3])))
def impl_places_k1 : C :=
 .norm [3,4,8,9,10,16,17] [3] impl_places_k0
def impl_places_k2 : C :=
 .reg false [.V 27 (.bin .add (.t 10) (.c (.int .i64 1))),.V 10 (.mv (.t 27))] [3,8,9,10] [3]
def impl_places_k3 : C :=
 .seq (.reg false [.V 11 (.bin .lss (.t 10) (.t 9))] [3,8,9,10,11] [3]) (.seq (.cond (.t 11) .skip (.exit 0)) (.seq (.block 1 (.seq (.reg false [.V 12 (.mv (.t 10)),.V 13 (.ia 1 (.t 8) (.t 10)),.V 14 (.ld none (.t 13)),.V 4 (.asg (.t 12)),.W 5 (.asg (.t 14))] [3,4,5,8,9,10] [3,5]) (.seq (.reg false [.V 15 (.mv (.t 5)),.V 16 (.len (.t 15)),.V 17 (.mv (.c (.int .i64 0)))] [3,4,8,9,10,16,17] [3]) (.block 2 (.loop impl_places_k1))))) impl_places_k2))
def impl_places_k4 : C :=
 .norm [3,8,9,10] [3] impl_places_k3
def impl_places_k5 : C :=
 .seq (.reg false [.V 28 (.mv (.t 3)),.W 2 (.asg (.t 28))] [2] [2,3]) .ret
def impl_places_ir : Fn := { np := 1,io := [],res := [.t 2],own := [true],body :=
 (.seq (.reg false [.W 2 (.asg (.c (.nils 2)))] [0] []) (.seq (.reg false [.V 7 (.bsl 2 (.agg [.int .i64 0,.int .i64 0]) 0 []),.W 3 (.asg (.t 7))] [0,3] [3]) (.seq (.seq (.reg false [.V 8 (.mv (.t 0)),.V 9 (.len (.t 8)),.V 10 (.mv (.c (.int .i64 0)))] [3,8,9,10] [3]) (.block 0 (.loop impl_places_k4))) impl_places_k5))) }
noncomputable def impl_places_D : List (Nat × Callee) := []
def impl_places_H : List (Nat × ET) := [(2,T_Point),(3,T_Point),(5,(.one (.int .i64))),(7,T_Point),(8,(.one (.sl (.one (.int .i64))))),(14,(.one (.int .i64))),(15,(.one (.int .i64))),(20,T_Point),(24,T_Point),(25,T_Point),(28,T_Point)]
noncomputable def impl_places_c : Callee := mkCallee impl_places_D impl_places_H impl_places_ir [.d (.one (.sl (.one (.sl (.one (.int .i64))))))] [.tok T_Point] []
noncomputable def impl_places (a0 : List (List Int)) : Option (List T_Point.ty) := impl_places_c.f (a0,())
noncomputable def impl_places_p0  (v8 : List (List Int)) (v9 : Int) (v10 : Int) (r3 : List T_Point.ty) : Option (List T_Point.ty) :=
 goL impl_places_D impl_places_H (vleave impl_places_ir [.d (.one (.sl (.one (.sl (.one (.int .i64))))))] [.tok T_Point] [] []) [.c impl_places_k3,.l impl_places_k4,.e 0,.c impl_places_k5]
  ⟨[(3,.view 3 0 r3.length),(8,.sl (.one (.sl (.one (.int .i64)))) v8),(9,.int .i64 v9),(10,.int .i64 v10)],[(3,some (.sl T_Point r3))]⟩
noncomputable def impl_places_p1  (v4 : Int) (v8 : List (List Int)) (v9 : Int) (v10 : Int) (v16 : Int) (v17 : Int) (r3 : List T_Point.ty) : Option (List T_Point.ty) :=
 goL impl_places_D impl_places_H (vleave impl_places_ir [.d (.one (.sl (.one (.sl (.one (.int .i64))))))] [.tok T_Point] [] []) [.c impl_places_k0,.l impl_places_k1,.e 2,.e 1,.c impl_places_k2,.l impl_places_k4,.e 0,.c impl_places_k5]
  ⟨[(3,.view 3 0 r3.length),(4,.int .i64 v4),(8,.sl (.one (.sl (.one (.int .i64)))) v8),(9,.int .i64 v9),(10,.int .i64 v10),(16,.int .i64 v16),(17,.int .i64 v17)],[(3,some (.sl T_Point r3))]⟩
theorem impl_places_eq (a0 : List (List Int)) : impl_places a0 =
 impl_places_p0 a0 (a0.length : Int) 0 [] :=
 (mk_f _ _ _ _ _ _ _ 4000).trans (by kernel_rfl)
theorem impl_places_p0_eq  (v8 : List (List Int)) (v9 : Int) (v10 : Int) (r3 : List T_Point.ty) : impl_places_p0 v8 v9 v10 r3 =
 if decide (v10 < v9) then
  if decide (0 ≤ v10) then
   (v8[v10.toNat]?).bind fun x1 =>
    impl_places_p1 v10 v8 v9 v10 (x1.length : Int) 0 r3
  else
   none
 else
  some (r3.take r3.length) :=
 (goL_dn _ _ _ 4000 _ _).trans (by kernel_rfl)
theorem impl_places_p1_eq  (v4 : Int) (v8 : List (List Int)) (v9 : Int) (v10 : Int) (v16 : Int) (v17 : Int) (r3 : List T_Point.ty) : impl_places_p1 v4 v8 v9 v10 v16 v17 r3 =
 if decide (v17 < v16) then
  if decide (r3.length + 1 < lim) then
   impl_places_p1 v4 v8 v9 v10 v16 (IntKind.i64.wrap (v17 + 1)) ((r3.take r3.length) ++ [(v4,v17,())])
  else
   none
 else
  impl_places_p0 v8 v9 (IntKind.i64.wrap (v10 + 1)) r3 :=
 (goL_dn _ _ _ 4000 _ _).trans (by kernel_rfl)
def impl_place_of_ir : Fn := { np := 2,io := [],res := [.t 4],own := [false],body :=
 (.seq (.reg false [.W 2 (.box 2 (.t 0)),.V 4 (.asg (.c (.int .i64 0)))] [1,2] [2]) (.seq (.reg true [.V 5 (.mv (.t 1)),.V 6 (.fa 0 (.t 2)),.V 7 (.ld none (.t 6)),.V 8 (.ia 1 (.t 5) (.t 7)),.V 9 (.ld none (.t 8)),.V 10 (.fa 1 (.t 2)),.V 11 (.ld none (.t 10)),.V 12 (.ia 1 (.t 9) (.t 11)),.V 13 (.ld none (.t 12)),.V 4 (.asg (.t 13))] [4] []) .ret)) }
noncomputable def impl_place_of_D : List (Nat × Callee) := []
def impl_place_of_H : List (Nat × ET) := [(5,(.one (.sl (.one (.int .i64))))),(9,(.one (.int .i64)))]
noncomputable def impl_place_of_c : Callee := mkCallee impl_place_of_D impl_place_of_H impl_place_of_ir [.d T_Point,.d (.one (.sl (.one (.sl (.one (.int .i64))))))] [.d (.one (.int .i64))] []
noncomputable def impl_place_of (a0 : T_Point.ty) (a1 : List (List Int)) : Option (Int) := impl_place_of_c.f (a0,a1,())
theorem impl_place_of_eq (a0 : T_Point.ty) (a1 : List (List Int)) : impl_place_of a0 a1 =
 if decide (0 ≤ a0.1) then
  (a1[a0.1.toNat]?).bind fun x1 =>
   if decide (0 ≤ a0.2.1) then
    (x1[a0.2.1.toNat]?).bind fun x2 =>
     some x2
   else
    none
 else
  none :=
 (mk_f _ _ _ _ _ _ _ 4000).trans (by kernel_rfl)
def impl_BestPost_k0 : C :=
 .seq (.reg false [.V 16 (.bin .lss (.t 15) (.t 14))] [0,5,13,14,15,16] [5]) (.seq (.cond (.t 16) .skip (.exit 0)) (.seq (.block 1 (.seq (.reg false [.V 17 (.ia 2 (.t 13) (.t 15)),.V 18 (.ld (some 2) (.t 17)),.W 7 (.alloc 2 (.agg [.int .i64 0,.int .i64 0])),⟨none,true,.sto 2 (.t 7) (.t 18),none,false,[]⟩] [0,5,7,13,14,15] [5,7]) (.seq (.reg true [.V 19 (.ld (some 2) (.t 7)),.V 20 (.mv (.t 0)),.V 21 (.call (.c (.fn 464 [])) [.t 19,.t 20]),.V 22 (.ld (some 2) (.t 5)),.V 23 (.mv (.t 0)),.V 24 (.call (.c (.fn 464 [])) [.t 22,.t 23]),.V 25 (.bin .gtr (.t 21) (.t 24))] [0,5,7,13,14,15,25] [5,7]) (.cond (.t 25) (.reg false [.V 26 (.ld (some 2) (.t 7)),⟨none,true,.sto 2 (.t 5) (.t 26),none,false,[]⟩] [0,5,13,14,15] [5]) .skip)))) (.reg false [.V 27 (.bin .add (.t 15) (.c (.int .i64 1))),.V 15 (.mv (.t 27))] [0,5,13,14,15] [5])))
def impl_BestPost_k1 : C :=
 .norm [0,5,13,14,15] [5] impl_BestPost_k0
def impl_BestPost_k2 : C :=
 .seq (.reg true [.V 28 (.fa 0 (.t 5)),.V 29 (.ld none (.t 28)),.V 30 (.fa 1 (.t 5)),.V 31 (.ld none (.t 30)),.V 2 (.asg (.t 29)),.V 3 (.asg (.t 31)),.V 4 (.asg (.c (.int .i64 0)))] [2,3,4] []) .ret
def impl_BestPost_ir : Fn := { np := 1,io := [],res := [.t 2,.t 3,.t 4],own := [false,false,false],body :=
 (.seq (.reg false [.V 2 (.asg (.c (.int .i64 0))),.V 3 (.asg (.c (.int .i64 0))),.V 4 (.asg (.c (.int .i64 0)))] [0] []) (.seq (.seq (.reg false [.V 8 (.mv (.t 0)),.V 9 (.call (.c (.fn 466 [])) [.t 8]),.V 10 (.un .not (.t 9))] [0,10] []) (.cond (.t 10) (.seq (.reg false [.V 2 (.asg (.c (.int .i64 0))),.V 3 (.asg (.c (.int .i64 0))),.V 4 (.asg (.c (.int .i64 2)))] [2,3,4] []) .ret) .skip)) (.seq (.reg false [.V 11 (.build [.int .i64 0,.int .i64 0] []),.W 5 (.alloc 2 (.agg [.int .i64 0,.int .i64 0])),⟨none,true,.sto 2 (.t 5) (.t 11),none,false,[]⟩] [0,5] [5]) (.seq (.seq (.reg false [.V 12 (.mv (.t 0)),.V 13 (.call (.c (.fn 465 [])) [.t 12]),.V 14 (.len (.t 13)),.V 15 (.mv (.c (.int .i64 0)))] [0,5,13,14,15] [5]) (.block 0 (.loop impl_BestPost_k1))) impl_BestPost_k2)))) }
noncomputable def impl_BestPost_D : List (Nat × Callee) := [(464,impl_place_of_c),(465,impl_places_c),(466,impl_areRings_c)]
def impl_BestPost_H : List (Nat × ET) := [(8,(.one (.sl (.one (.int .i64))))),(12,(.one (.sl (.one (.int .i64))))),(13,T_Point),(20,(.one (.sl (.one (.int .i64))))),(23,(.one (.sl (.one (.int .i64)))))]
noncomputable def impl_BestPost_c : Callee := mkCallee impl_BestPost_D impl_BestPost_H impl_BestPost_ir [.d (.one (.sl (.one (.sl (.one (.int .i64))))))] [.d (.one (.int .i64)),.d (.one (.int .i64)),.d (.one (.int .i64))] []
noncomputable def impl_BestPost (a0 : List (List Int)) : Option (Int × Int × Int) := impl_BestPost_c.f (a0,())
noncomputable def impl_BestPost_p0  (v0 : List (List Int)) (v13 : List T_Point.ty) (v14 : Int) (v15 : Int) (r5_0 : Int) (r5_1 : Int) : Option (Int × Int × Int) :=
 goL impl_BestPost_D impl_BestPost_H (vleave impl_BestPost_ir [.d (.one (.sl (.one (.sl (.one (.int .i64))))))] [.d (.one (.int .i64)),.d (.one (.int .i64)),.d (.one (.int .i64))] [] []) [.c impl_BestPost_k0,.l impl_BestPost_k1,.e 0,.c impl_BestPost_k2]
  ⟨[(0,.sl (.one (.sl (.one (.int .i64)))) v0),(5,.loc 5 0 0),(13,.sl T_Point v13),(14,.int .i64 v14),(15,.int .i64 v15)],[(5,some (.var 2 (.agg [.int .i64 r5_0,.int .i64 r5_1])))]⟩
theorem impl_BestPost_eq (a0 : List (List Int)) : impl_BestPost a0 =
 (impl_areRings a0).bind fun x1 =>
  if (!x1) then
   some (0,0,2)
  else
   (impl_places a0).bind fun x2 =>
    impl_BestPost_p0 a0 x2 (x2.length : Int) 0 0 0 :=
 (mk_f _ _ _ _ _ _ _ 4000).trans (by kernel_rfl)
theorem impl_BestPost_p0_eq  (v0 : List (List Int)) (v13 : List T_Point.ty) (v14 : Int) (v15 : Int) (r5_0 : Int) (r5_1 : Int) : impl_BestPost_p0 v0 v13 v14 v15 r5_0 r5_1 =
 if decide (v15 < v14) then
  if decide (0 ≤ v15) then
   (v13[v15.toNat]?).bind fun x1 =>
    (impl_place_of x1 v0).bind fun x2 =>
     (impl_place_of (r5_0,r5_1,()) v0).bind fun x3 =>
      if decide (x2 > x3) then
       impl_BestPost_p0 v0 v13 v14 (IntKind.i64.wrap (v15 + 1)) x1.1 x1.2.1
      else
       impl_BestPost_p0 v0 v13 v14 (IntKind.i64.wrap (v15 + 1)) r5_0 r5_1
  else
   none
 else
  some (r5_0,r5_1,0) :=
 (goL_dn _ _ _ 4000 _ _).trans (by kernel_rfl)
def spec_DrawPostLength_ir : Fn := { np := 1,io := [],res := [.t 2,.t 3,.t 4,.t 5],own := [false,false,false,false],body :=
 (.seq (.reg false [.V 2 (.asg (.c (.int .i64 0))),.V 3 (.asg (.c (.int .i64 0))),.V 4 (.asg (.c (.int .i64 0))),.V 5 (.asg (.c (.int .i64 0)))] [0] []) (.seq (.reg false [.V 10 (.mv (.t 0)),.W 11 (.call (.c (.fn 441 [])) [.t 10]),.V 6 (.asg (.t 11))] [6] [11,12000]) (.seq (.reg false [.V 12 (.mv (.t 6)),.V 13 (.bsl 1 (.int .i64 0) 5 [(0,.c (.int .i64 99)),(1,.c (.int .i64 100)),(2,.c (.int .i64 520)),(3,.c (.int .i64 1000)),(4,.c (.int .i64 1001))]),.W 14 (.call (.c (.fn 445 [])) [.t 12,.t 13]),.V 7 (.asg (.t 14))] [6,7] [11,12000]) (.seq (.reg false [.V 15 (.mv (.t 6)),.V 16 (.bsl 1 (.int .i64 0) 5 [(0,.c (.int .i64 (-1))),(1,.c (.int .i64 0)),(2,.c (.int .i64 120)),(3,.c (.int .i64 500)),(4,.c (.int .i64 501))]),.W 17 (.call (.c (.fn 445 [])) [.t 15,.t 16]),.V 8 (.asg (.t 17))] [6,7,8] [11,12000]) (.seq (.reg false [.V 18 (.mv (.t 6)),.V 19 (.bsl 1 (.int .i64 0) 5 [(0,.c (.int .i64 (-1))),(1,.c (.int .i64 0)),(2,.c (.int .i64 60)),(3,.c (.int .i64 500)),(4,.c (.int .i64 501))]),.W 20 (.call (.c (.fn 445 [])) [.t 18,.t 19]),.V 9 (.asg (.t 20))] [6,7,8,9] [11,12000]) (.seq (.reg false [.V 21 (.mv (.t 7)),.V 22 (.mv (.t 8)),.V 23 (.mv (.t 9)),.V 24 (.mv (.t 6)),.V 25 (.bsl 1 (.int .i64 0) 5 [(0,.c (.int .i64 (-1))),(1,.c (.int .i64 0)),(2,.c (.int .i64 20)),(3,.c (.int .i64 100)),(4,.c (.int .i64 101))]),.W 26 (.call (.c (.fn 445 [])) [.t 24,.t 25]),.V 2 (.asg (.t 21)),.V 3 (.asg (.t 22)),.V 4 (.asg (.t 23)),.V 5 (.asg (.t 26))] [2,3,4,5] []) .ret)))))) }
noncomputable def spec_DrawPostLength_D : List (Nat × Callee) := [(441,spec_l00From_c),(445,spec_l00Src_among_c)]
def spec_DrawPostLength_H : List (Nat × ET) := [(10,(.one (.int .u8))),(13,(.one (.int .i64))),(16,(.one (.int .i64))),(19,(.one (.int .i64))),(25,(.one (.int .i64)))]
noncomputable def spec_DrawPostLength_c : Callee := mkCallee spec_DrawPostLength_D spec_DrawPostLength_H spec_DrawPostLength_ir [.d (.one (.sl (.one (.int .u8))))] [.d (.one (.int .i64)),.d (.one (.int .i64)),.d (.one (.int .i64)),.d (.one (.int .i64))] []
noncomputable def spec_DrawPostLength (a0 : List Int) : Option (Int × Int × Int × Int) := spec_DrawPostLength_c.f (a0,())
theorem spec_DrawPostLength_eq (a0 : List Int) : spec_DrawPostLength a0 =
 (spec_l00From a0).bind fun x1 =>
  (spec_l00Src_among x1 [99,100,520,1000,1001]).bind fun x2 =>
   (spec_l00Src_among (x2.2.1,x2.2.2.1,x2.2.2.2.1,()) [(-1),0,120,500,501]).bind fun x3 =>
    (spec_l00Src_among (x3.2.1,x3.2.2.1,x3.2.2.2.1,()) [(-1),0,60,500,501]).bind fun x4 =>
     (spec_l00Src_among (x4.2.1,x4.2.2.1,x4.2.2.2.1,()) [(-1),0,20,100,101]).bind fun x5 =>
      some (x2.1,x3.1,x4.1,x5.1) :=
 (mk_f _ _ _ _ _ _ _ 4000).trans (by kernel_rfl)
def impl_divRound_ir : Fn := { np := 2,io := [],res := [.t 4],own := [false],body :=
 (.seq (.reg false [.V 4 (.asg (.c (.int .i64 0)))] [0,1] []) (.seq (.reg false [.V 8 (.mv (.t 0)),.V 9 (.bin .lss (.t 8) (.c (.int .i64 0))),.V 10 (.mv (.t 1)),.V 11 (.bin .lss (.t 10) (.c (.int .i64 0))),.V 12 (.eqb true (.t 9) (.t 11)),.V 5 (.asg (.t 12))] [0,1,5] []) (.seq (.reg false [.V 13 (.mv (.t 0)),.V 14 (.mv (.t 0)),.V 15 (.un .neg (.t 14)),.V 16 (.max [.t 13,.t 15]),.V 17 (.mv (.t 1)),.V 18 (.mv (.t 1)),.V 19 (.un .neg (.t 18)),.V 20 (.max [.t 17,.t 19]),.V 0 (.asg (.t 16)),.V 1 (.asg (.t 20))] [0,1,5] []) (.seq (.reg false [.V 21 (.mv (.t 0)),.V 22 (.mv (.t 1)),.V 23 (.bin .quo (.t 21) (.t 22)),.V 6 (.asg (.t 23))] [0,1,5,6] []) (.seq (.seq (.reg false [.V 24 (.mv (.t 0)),.V 25 (.mv (.t 1)),.V 26 (.bin .rem (.t 24) (.t 25)),.V 7 (.asg (.t 26))] [1,5,6,7] []) (.seq (.reg false [.V 27 (.mv (.t 7)),.V 28 (.mv (.t 1)),.V 29 (.mv (.t 7)),.V 30 (.bin .sub (.t 28) (.t 29)),.V 31 (.bin .geq (.t 27) (.t 30))] [5,6,31] []) (.cond (.t 31) (.reg false [.V 32 (.mv (.t 6)),.V 33 (.bin .add (.t 32) (.c (.int .i64 1))),.V 6 (.asg (.t 33))] [5,6] []) .skip))) (.seq (.seq (.reg false [.V 34 (.mv (.t 5))] [6,34] []) (.cond (.t 34) (.seq (.reg false [.V 35 (.mv (.t 6)),.V 36 (.un .neg (.t 35)),.V 4 (.asg (.t 36))] [4] []) .ret) .skip)) (.seq (.reg false [.V 37 (.mv (.t 6)),.V 4 (.asg (.t 37))] [4] []) .ret))))))) }
noncomputable def impl_divRound_D : List (Nat × Callee) := []
def impl_divRound_H : List (Nat × ET) := []
noncomputable def impl_divRound_c : Callee := mkCallee impl_divRound_D impl_divRound_H impl_divRound_ir [.d (.one (.int .i64)),.d (.one (.int .i64))] [.d (.one (.int .i64))] []
noncomputable def impl_divRound (a0 : Int) (a1 : Int) : Option (Int) := impl_divRound_c.f (a0,a1,())
theorem impl_divRound_eq (a0 : Int) (a1 : Int) : impl_divRound a0 a1 =
 if decide ((if IntKind.i64.wrap (0 - a1) > a1 then IntKind.i64.wrap (0 - a1) else a1) = 0) then
  none
 else
  if decide ((if IntKind.i64.wrap (0 - a1) > a1 then IntKind.i64.wrap (0 - a1) else a1) = 0) then
   none
  else
   if decide ((if IntKind.i64.wrap (0 - a0) > a0 then IntKind.i64.wrap (0 - a0) else a0).tmod (if IntKind.i64.wrap (0 - a1) > a1 then IntKind.i64.wrap (0 - a1) else a1) ≥ IntKind.i64.wrap ((if IntKind.i64.wrap (0 - a1) > a1 then IntKind.i64.wrap (0 - a1) else a1) - ((if IntKind.i64.wrap (0 - a0) > a0 then IntKind.i64.wrap (0 - a0) else a0).tmod (if IntKind.i64.wrap (0 - a1) > a1 then IntKind.i64.wrap (0 - a1) else a1)))) then
    if (!(decide (a0 < 0) == decide (a1 < 0))) then
     some (IntKind.i64.wrap (0 - (IntKind.i64.wrap ((IntKind.i64.wrap ((if IntKind.i64.wrap (0 - a0) > a0 then IntKind.i64.wrap (0 - a0) else a0).tdiv (if IntKind.i64.wrap (0 - a1) > a1 then IntKind.i64.wrap (0 - a1) else a1))) + 1))))
    else
     some (IntKind.i64.wrap ((IntKind.i64.wrap ((if IntKind.i64.wrap (0 - a0) > a0 then IntKind.i64.wrap (0 - a0) else a0).tdiv (if IntKind.i64.wrap (0 - a1) > a1 then IntKind.i64.wrap (0 - a1) else a1))) + 1))
   else
    if (!(decide (a0 < 0) == decide (a1 < 0))) then
     some (IntKind.i64.wrap (0 - (IntKind.i64.wrap ((if IntKind.i64.wrap (0 - a0) > a0 then IntKind.i64.wrap (0 - a0) else a0).tdiv (if IntKind.i64.wrap (0 - a1) > a1 then IntKind.i64.wrap (0 - a1) else a1)))))
    else
     some (IntKind.i64.wrap ((if IntKind.i64.wrap (0 - a0) > a0 then IntKind.i64.wrap (0 - a0) else a0).tdiv (if IntKind.i64.wrap (0 - a1) > a1 then IntKind.i64.wrap (0 - a1) else a1))) :=
 (mk_f _ _ _ _ _ _ _ 4000).trans (by kernel_rfl)
def impl_PostLength_k0 : C :=
 .seq (.reg false [.V 29 (.mv (.t 0)),.V 30 (.mv (.t 3)),.V 31 (.bin .sub (.t 29) (.t 30)),.V 32 (.mv (.t 1)),.V 33 (.mv (.t 2)),.V 34 (.bin .mul (.t 32) (.t 33)),.V 35 (.call (.c (.fn 27 [])) [.t 34,.c (.int .i64 1000)]),.V 36 (.bin .add (.t 31) (.t 35)),.V 10 (.asg (.t 36))] [10] []) (.seq (.seq (.reg false [.V 37 (.mv (.t 10)),.V 38 (.bin .lss (.t 37) (.c (.int .i64 1)))] [10,38] []) (.cond (.t 38) (.seq (.reg false [.V 8 (.asg (.c (.int .i64 0))),.V 9 (.asg (.c (.int .i64 6)))] [8,9] []) .ret) .skip)) (.seq (.reg false [.V 39 (.mv (.t 10)),.V 8 (.asg (.t 39)),.V 9 (.asg (.c (.int .i64 0)))] [8,9] []) .ret))
def impl_PostLength_ir : Fn := { np := 4,io := [],res := [.t 8,.t 9],own := [false,false],body :=
 (.seq (.reg false [.V 8 (.asg (.c (.int .i64 0))),.V 9 (.asg (.c (.int .i64 0)))] [0,1,2,3] []) (.seq (.seq (.reg false [.V 11 (.mv (.t 0)),.V 12 (.call (.c (.fn 23 [])) [.t 11,.c (.int .i64 100),.c (.int .i64 1000)]),.V 13 (.un .not (.t 12)),.V 14 (.mv (.t 13)),.G 15 (.mv (.t 1)) 3 false,.G 16 (.call (.c (.fn 23 [])) [.t 15,.c (.int .i64 0),.c (.int .i64 500)]) 3 false,.G 17 (.un .not (.t 16)) 3 false,.V 18 (.pick (.t 14) (.c (.bool true)) (.t 17)),.V 19 (.mv (.t 18)),.G 20 (.mv (.t 2)) 8 false,.G 21 (.call (.c (.fn 23 [])) [.t 20,.c (.int .i64 0),.c (.int .i64 500)]) 8 false,.G 22 (.un .not (.t 21)) 8 false,.V 23 (.pick (.t 19) (.c (.bool true)) (.t 22)),.V 24 (.mv (.t 23)),.G 25 (.mv (.t 3)) 13 false,.G 26 (.call (.c (.fn 23 [])) [.t 25,.c (.int .i64 0),.c (.int .i64 100)]) 13 false,.G 27 (.un .not (.t 26)) 13 false,.V 28 (.pick (.t 24) (.c (.bool true)) (.t 27))] [0,1,2,3,28] []) (.cond (.t 28) (.seq (.reg false [.V 8 (.asg (.c (.int .i64 0))),.V 9 (.asg (.c (.int .i64 2)))] [8,9] []) .ret) .skip)) (.norm [0,1,2,3] [] impl_PostLength_k0))) }
noncomputable def impl_PostLength_D : List (Nat × Callee) := [(23,impl_within_c),(27,impl_divRound_c)]
def impl_PostLength_H : List (Nat × ET) := []
noncomputable def impl_PostLength_c : Callee := mkCallee impl_PostLength_D impl_PostLength_H impl_PostLength_ir [.d (.one (.int .i64)),.d (.one (.int .i64)),.d (.one (.int .i64)),.d (.one (.int .i64))] [.d (.one (.int .i64)),.d (.one (.int .i64))] []
noncomputable def impl_PostLength (a0 : Int) (a1 : Int) (a2 : Int) (a3 : Int) : Option (Int × Int) := impl_PostLength_c.f (a0,a1,a2,a3,())
noncomputable def impl_PostLength_p0  (v0 : Int) (v1 : Int) (v2 : Int) (v3 : Int) : Option (Int × Int) :=
 goL impl_PostLength_D impl_PostLength_H (vleave impl_PostLength_ir [.d (.one (.int .i64)),.d (.one (.int .i64)),.d (.one (.int .i64)),.d (.one (.int .i64))] [.d (.one (.int .i64)),.d (.one (.int .i64))] [] []) [.c impl_PostLength_k0]
  ⟨[(0,.int .i64 v0),(1,.int .i64 v1),(2,.int .i64 v2),(3,.int .i64 v3)],[]⟩
theorem impl_PostLength_eq (a0 : Int) (a1 : Int) (a2 : Int) (a3 : Int) : impl_PostLength a0 a1 a2 a3 =
 (impl_within a0 100 1000).bind fun x1 =>
  if (!x1) then
   some (0,2)
  else
   (impl_within a1 0 500).bind fun x2 =>
    if (!x2) then
     some (0,2)
    else
     (impl_within a2 0 500).bind fun x3 =>
      if (!x3) then
       some (0,2)
      else
       (impl_within a3 0 100).bind fun x4 =>
        if (!x4) then
         some (0,2)
        else
         impl_PostLength_p0 a0 a1 a2 a3 :=
 (mk_f _ _ _ _ _ _ _ 4000).trans (by kernel_rfl)
theorem impl_PostLength_p0_eq  (v0 : Int) (v1 : Int) (v2 : Int) (v3 : Int) : impl_PostLength_p0 v0 v1 v2 v3 =
 (impl_divRound (IntKind.i64.wrap (v1 * v2)) 1000).bind fun x1 =>
  if decide (IntKind.i64.wrap ((IntKind.i64.wrap (v0 - v3)) + x1) < 1) then
   some (0,6)
  else
   some (IntKind.i64.wrap ((IntKind.i64.wrap (v0 - v3)) + x1),0) :=
 (goL_dn _ _ _ 4000 _ _).trans (by kernel_rfl)
def laws_b10Div_ir : Fn := { np := 2,io := [],res := [.t 4],own := [false],body :=
 (.seq (.reg false [.V 4 (.asg (.c (.int .i64 0)))] [0,1] []) (.seq (.seq (.reg false [.V 5 (.mv (.t 0)),.V 6 (.bin .lss (.t 5) (.c (.int .i64 0)))] [0,1,6] []) (.cond (.t 6) (.seq (.reg false [.V 7 (.mv (.t 0)),.V 8 (.un .neg (.t 7)),.V 9 (.mv (.t 1)),.V 10 (.call (.c (.fn 90 [])) [.t 8,.t 9]),.V 11 (.un .neg (.t 10)),.V 4 (.asg (.t 11))] [4] []) .ret) .skip)) (.seq (.reg false [.V 12 (.mv (.t 0)),.V 13 (.bin .mul (.c (.int .i64 2)) (.t 12)),.V 14 (.mv (.t 1)),.V 15 (.bin .add (.t 13) (.t 14)),.V 16 (.mv (.t 1)),.V 17 (.bin .mul (.c (.int .i64 2)) (.t 16)),.V 18 (.bin .quo (.t 15) (.t 17)),.V 4 (.asg (.t 18))] [4] []) .ret))) }
def laws_b10Div_H : List (Nat × ET) := []
noncomputable def laws_b10Div_F : Nat → tysU [.d (.one (.int .i64)),.d (.one (.int .i64))] → Option (tys1 ([.d (.one (.int .i64))] ++ []))
 | 0 => fun _ => none
 | n + 1 => (mkCallee [(90,⟨[],[.d (.one (.int .i64)),.d (.one (.int .i64))],[.d (.one (.int .i64))],[],laws_b10Div_F n⟩)] laws_b10Div_H laws_b10Div_ir [.d (.one (.int .i64)),.d (.one (.int .i64))] [.d (.one (.int .i64))] []).f
noncomputable def laws_b10Div_D (n : Nat) : List (Nat × Callee) := [(90,⟨[],[.d (.one (.int .i64)),.d (.one (.int .i64))],[.d (.one (.int .i64))],[],laws_b10Div_F n⟩)]
noncomputable def laws_b10Div_c : Callee := ⟨[],[.d (.one (.int .i64)),.d (.one (.int .i64))],[.d (.one (.int .i64))],[],laws_b10Div_F 1000⟩
noncomputable def laws_b10Div_N (n : Nat) : Callee := ⟨[],[.d (.one (.int .i64)),.d (.one (.int .i64))],[.d (.one (.int .i64))],[],laws_b10Div_F n⟩
theorem laws_b10Div_N_eq (n : Nat) : laws_b10Div_N (n + 1) = mkCallee (laws_b10Div_D n) laws_b10Div_H laws_b10Div_ir [.d (.one (.int .i64)),.d (.one (.int .i64))] [.d (.one (.int .i64))] [] := rfl
noncomputable def laws_b10Div (n : Nat) (a0 : Int) (a1 : Int) : Option (Int) := laws_b10Div_F n (a0,a1,())
theorem laws_b10Div_eq (n : Nat) (a0 : Int) (a1 : Int) : laws_b10Div (n + 1) a0 a1 =
 if decide (a0 < 0) then
  (laws_b10Div n (IntKind.i64.wrap (0 - a0)) a1).bind fun x1 =>
   some (IntKind.i64.wrap (0 - x1))
 else
  if decide (IntKind.i64.wrap (2 * a1) = 0) then
   none
  else
   some (IntKind.i64.wrap ((IntKind.i64.wrap ((IntKind.i64.wrap (2 * a0)) + a1)).tdiv (IntKind.i64.wrap (2 * a1)))) :=
 (mk_f (laws_b10Div_D n) laws_b10Div_H laws_b10Div_ir [.d (.one (.int .i64)),.d (.one (.int .i64))] [.d (.one (.int .i64))] [] (a0,a1,()) 4000).trans (by kernel_rfl)
def spec_DrawAfterLength_ir : Fn := { np := 1,io := [],res := [.t 2,.t 3],own := [false,false],body :=
 (.seq (.reg false [.V 2 (.asg (.c (.int .i64 0))),.V 3 (.asg (.c (.int .i64 0)))] [0] []) (.seq (.reg false [.V 6 (.mv (.t 0)),.W 7 (.call (.c (.fn 441 [])) [.t 6]),.V 4 (.asg (.t 7))] [4] [7,8000]) (.seq (.reg false [.V 8 (.mv (.t 4)),.V 9 (.bsl 1 (.int .i64 0) 5 [(0,.c (.int .i64 99)),(1,.c (.int .i64 100)),(2,.c (.int .i64 3280)),(3,.c (.int .i64 10000)),(4,.c (.int .i64 10001))]),.W 10 (.call (.c (.fn 445 [])) [.t 8,.t 9]),.V 5 (.asg (.t 10))] [4,5] [7,8000]) (.seq (.reg false [.V 11 (.mv (.t 5)),.V 12 (.mv (.t 4)),.V 13 (.bsl 1 (.int .i64 0) 5 [(0,.c (.int .i64 0)),(1,.c (.int .i64 1)),(2,.c (.int .i64 167)),(3,.c (.int .i64 1000)),(4,.c (.int .i64 1001))]),.W 14 (.call (.c (.fn 445 [])) [.t 12,.t 13]),.V 2 (.asg (.t 11)),.V 3 (.asg (.t 14))] [2,3] []) .ret)))) }
noncomputable def spec_DrawAfterLength_D : List (Nat × Callee) := [(441,spec_l00From_c),(445,spec_l00Src_among_c)]
def spec_DrawAfterLength_H : List (Nat × ET) := [(6,(.one (.int .u8))),(9,(.one (.int .i64))),(13,(.one (.int .i64)))]
noncomputable def spec_DrawAfterLength_c : Callee := mkCallee spec_DrawAfterLength_D spec_DrawAfterLength_H spec_DrawAfterLength_ir [.d (.one (.sl (.one (.int .u8))))] [.d (.one (.int .i64)),.d (.one (.int .i64))] []
noncomputable def spec_DrawAfterLength (a0 : List Int) : Option (Int × Int) := spec_DrawAfterLength_c.f (a0,())
theorem spec_DrawAfterLength_eq (a0 : List Int) : spec_DrawAfterLength a0 =
 (spec_l00From a0).bind fun x1 =>
  (spec_l00Src_among x1 [99,100,3280,10000,10001]).bind fun x2 =>
   (spec_l00Src_among (x2.2.1,x2.2.2.1,x2.2.2.2.1,()) [0,1,167,1000,1001]).bind fun x3 =>
    some (x2.1,x3.1) :=
 (mk_f _ _ _ _ _ _ _ 4000).trans (by kernel_rfl)
def impl_AfterLength_k0 : C :=
 .seq (.reg false [.V 14 (.mv (.t 0)),.V 15 (.mv (.t 1)),.V 16 (.bin .mul (.t 14) (.t 15)),.V 17 (.call (.c (.fn 27 [])) [.t 16,.c (.int .i64 1000)]),.V 4 (.asg (.t 17)),.V 5 (.asg (.c (.int .i64 0)))] [4,5] []) .ret
def impl_AfterLength_ir : Fn := { np := 2,io := [],res := [.t 4,.t 5],own := [false,false],body :=
 (.seq (.reg false [.V 4 (.asg (.c (.int .i64 0))),.V 5 (.asg (.c (.int .i64 0)))] [0,1] []) (.seq (.seq (.reg false [.V 6 (.mv (.t 0)),.V 7 (.call (.c (.fn 23 [])) [.t 6,.c (.int .i64 100),.c (.int .i64 10000)]),.V 8 (.un .not (.t 7)),.V 9 (.mv (.t 8)),.G 10 (.mv (.t 1)) 3 false,.G 11 (.call (.c (.fn 23 [])) [.t 10,.c (.int .i64 1),.c (.int .i64 1000)]) 3 false,.G 12 (.un .not (.t 11)) 3 false,.V 13 (.pick (.t 9) (.c (.bool true)) (.t 12))] [0,1,13] []) (.cond (.t 13) (.seq (.reg false [.V 4 (.asg (.c (.int .i64 0))),.V 5 (.asg (.c (.int .i64 2)))] [4,5] []) .ret) .skip)) (.norm [0,1] [] impl_AfterLength_k0))) }
noncomputable def impl_AfterLength_D : List (Nat × Callee) := [(23,impl_within_c),(27,impl_divRound_c)]
def impl_AfterLength_H : List (Nat × ET) := []
noncomputable def impl_AfterLength_c : Callee := mkCallee impl_AfterLength_D impl_AfterLength_H impl_AfterLength_ir [.d (.one (.int .i64)),.d (.one (.int .i64))] [.d (.one (.int .i64)),.d (.one (.int .i64))] []
noncomputable def impl_AfterLength (a0 : Int) (a1 : Int) : Option (Int × Int) := impl_AfterLength_c.f (a0,a1,())
noncomputable def impl_AfterLength_p0  (v0 : Int) (v1 : Int) : Option (Int × Int) :=
 goL impl_AfterLength_D impl_AfterLength_H (vleave impl_AfterLength_ir [.d (.one (.int .i64)),.d (.one (.int .i64))] [.d (.one (.int .i64)),.d (.one (.int .i64))] [] []) [.c impl_AfterLength_k0]
  ⟨[(0,.int .i64 v0),(1,.int .i64 v1)],[]⟩
theorem impl_AfterLength_eq (a0 : Int) (a1 : Int) : impl_AfterLength a0 a1 =
 (impl_within a0 100 10000).bind fun x1 =>
  if (!x1) then
   some (0,2)
  else
   (impl_within a1 1 1000).bind fun x2 =>
    if (!x2) then
     some (0,2)
    else
     impl_AfterLength_p0 a0 a1 :=
 (mk_f _ _ _ _ _ _ _ 4000).trans (by kernel_rfl)
theorem impl_AfterLength_p0_eq  (v0 : Int) (v1 : Int) : impl_AfterLength_p0 v0 v1 =
 (impl_divRound (IntKind.i64.wrap (v0 * v1)) 1000).bind fun x1 =>
  some (x1,0) :=
 (goL_dn _ _ _ 4000 _ _).trans (by kernel_rfl)
def spec_l00Src_one_ir : Fn := { np := 2,io := [true,false],res := [.t 4],own := [false],body :=
 (.seq (.reg false [.V 4 (.asg (.c (.bool false)))] [0,1] [0,1000]) (.seq (.reg false [.V 5 (.mv (.t 0)),.V 6 (.mv (.t 1)),.W 7 (.call (.c (.fn 463 [])) [.t 5,.t 6]),.V 8 (.bin .eql (.t 7) (.c (.int .i64 0))),.V 4 (.asg (.t 8))] [0,4] [0,1000]) .ret)) }
noncomputable def spec_l00Src_one_D : List (Nat × Callee) := [(463,spec_l00Src_pick_c)]
def spec_l00Src_one_H : List (Nat × ET) := []
noncomputable def spec_l00Src_one_c : Callee := mkCallee spec_l00Src_one_D spec_l00Src_one_H spec_l00Src_one_ir [.box T_l00Src,.d (.one (.int .i64))] [.d (.one .bool)] [.box T_l00Src]
noncomputable def spec_l00Src_one (a0 : T_l00Src.ty) (a1 : Int) : Option (Bool × T_l00Src.ty) := spec_l00Src_one_c.f (a0,a1,())
theorem spec_l00Src_one_eq (a0 : T_l00Src.ty) (a1 : Int) : spec_l00Src_one a0 a1 =
 (spec_l00Src_pick a0 a1).bind fun x1 =>
  some ((x1.1 == 0),(x1.2.1,x1.2.2.1,x1.2.2.2.1,())) :=
 (mk_f _ _ _ _ _ _ _ 4000).trans (by kernel_rfl)
def spec_l12DrawOne_ir : Fn := { np := 2,io := [true,false],res := [.cell 4 (some 4)],own := [false],body :=
 (.seq (.reg false [.W 4 (.alloc 4 (.agg [.str [],.int .i64 0,.int .i64 0,.int .i64 0]))] [0,1,4] [0,4,1000]) (.seq (.reg false [.V 6 (.mv (.t 1)),.V 7 (.mv (.t 0)),.W 8 (.call (.c (.fn 463 [])) [.t 7,.c (.int .i64 20)]),.V 9 (.bin .add (.c (.int .i64 50)) (.t 8)),.V 10 (.mv (.t 0)),.W 11 (.call (.c (.fn 463 [])) [.t 10,.c (.int .i64 40)]),.V 12 (.bin .mul (.c (.int .i64 10)) (.t 11)),.V 13 (.bin .add (.c (.int .i64 300)) (.t 12)),.V 14 (.build [.str [],.int .i64 0,.int .i64 0,.int .i64 0] [(0,1,.t 6),(1,1,.t 9),(2,1,.t 13)]),.W 5 (.alloc 4 (.agg [.str [],.int .i64 0,.int .i64 0,.int .i64 0])),⟨none,true,.sto 4 (.t 5) (.t 14),none,false,[]⟩] [0,4,5] [0,4,5,1000]) (.seq (.reg false [.V 15 (.mv (.t 0)),.W 16 (.call (.c (.fn 463 [])) [.t 15,.c (.int .i64 5)]),.V 17 (.bin .mul (.c (.int .i64 5)) (.t 16)),.V 18 (.bin .add (.c (.int .i64 20)) (.t 17)),.V 19 (.fa 3 (.t 5)),⟨none,true,.sto 1 (.t 19) (.t 18),none,false,[]⟩] [0,4,5] [0,4,5,1000]) (.seq (.reg false [.V 20 (.ld (some 4) (.t 5)),⟨none,true,.sto 4 (.t 4) (.t 20),none,false,[]⟩] [0,4] [0,4,1000]) .ret)))) }
noncomputable def spec_l12DrawOne_D : List (Nat × Callee) := [(463,spec_l00Src_pick_c)]
def spec_l12DrawOne_H : List (Nat × ET) := []
noncomputable def spec_l12DrawOne_c : Callee := mkCallee spec_l12DrawOne_D spec_l12DrawOne_H spec_l12DrawOne_ir [.box T_l00Src,.d (.one .str)] [.d T_Peg] [.box T_l00Src]
noncomputable def spec_l12DrawOne (a0 : T_l00Src.ty) (a1 : List UInt8) : Option (T_Peg.ty × T_l00Src.ty) := spec_l12DrawOne_c.f (a0,a1,())
theorem spec_l12DrawOne_eq (a0 : T_l00Src.ty) (a1 : List UInt8) : spec_l12DrawOne a0 a1 =
 (spec_l00Src_pick a0 20).bind fun x1 =>
  (spec_l00Src_pick (x1.2.1,x1.2.2.1,x1.2.2.2.1,()) 40).bind fun x2 =>
   (spec_l00Src_pick (x2.2.1,x2.2.2.1,x2.2.2.2.1,()) 5).bind fun x3 =>
    some ((a1,IntKind.i64.wrap (50 + x1.1),IntKind.i64.wrap (300 + (IntKind.i64.wrap (10 * x2.1))),IntKind.i64.wrap (20 + (IntKind.i64.wrap (5 * x3.1))),()),(x3.2.1,x3.2.2.1,x3.2.2.2.1,())) :=
 (mk_f _ _ _ _ _ _ _ 4000).trans (by kernel_rfl)
def spec_l12Bent_ir : Fn := { np := 2,io := [true,false],res := [.cell 4 (some 4)],own := [false],body :=
 (.seq (.reg false [.W 3 (.box 4 (.t 1)),.W 4 (.alloc 4 (.agg [.str [],.int .i64 0,.int .i64 0,.int .i64 0]))] [0,3,4] [0,3,4,1000]) (.seq (.seq (.reg false [.V 5 (.mv (.t 0)),.W 6 (.call (.c (.fn 463 [])) [.t 5,.c (.int .i64 18)])] [0,3,4,6] [0,3,4,1000]) (.block 0 (.seq (.reg false [.V 8 (.bin .eql (.t 6) (.c (.int .i64 0))),.V 7 (.asg (.t 8))] [0,3,4,6,7] [0,3,4,1000]) (.cond (.t 7) (.reg false [.V 9 (.mv (.t 0)),.V 10 (.bsl 1 (.int .i64 0) 4 [(0,.c (.int .i64 19)),(1,.c (.int .i64 20)),(2,.c (.int .i64 200)),(3,.c (.int .i64 201))]),.W 11 (.call (.c (.fn 445 [])) [.t 9,.t 10]),.V 12 (.fa 1 (.t 3)),⟨none,true,.sto 1 (.t 12) (.t 11),none,false,[]⟩] [0,3,4] [0,3,4,1000]) (.seq (.reg false [.V 14 (.bin .eql (.t 6) (.c (.int .i64 1))),.V 13 (.asg (.t 14))] [0,3,4,6,13] [0,3,4,1000]) (.cond (.t 13) (.reg false [.V 15 (.mv (.t 0)),.V 16 (.bsl 1 (.int .i64 0) 4 [(0,.c (.int .i64 99)),(1,.c (.int .i64 100)),(2,.c (.int .i64 1000)),(3,.c (.int .i64 1001))]),.W 17 (.call (.c (.fn 445 [])) [.t 15,.t 16]),.V 18 (.fa 2 (.t 3)),⟨none,true,.sto 1 (.t 18) (.t 17),none,false,[]⟩] [0,3,4] [0,3,4,1000]) (.seq (.reg false [.V 20 (.bin .eql (.t 6) (.c (.int .i64 2))),.V 19 (.asg (.t 20))] [0,3,4,19] [0,3,4,1000]) (.cond (.t 19) (.reg false [.V 21 (.mv (.t 0)),.V 22 (.bsl 1 (.int .i64 0) 4 [(0,.c (.int .i64 9)),(1,.c (.int .i64 10)),(2,.c (.int .i64 100)),(3,.c (.int .i64 101))]),.W 23 (.call (.c (.fn 445 [])) [.t 21,.t 22]),.V 24 (.fa 3 (.t 3)),⟨none,true,.sto 1 (.t 24) (.t 23),none,false,[]⟩] [0,3,4] [0,3,4,1000]) .skip)))))))) (.seq (.reg false [.V 25 (.ld (some 4) (.t 3)),⟨none,true,.sto 4 (.t 4) (.t 25),none,false,[]⟩] [0,4] [0,4,1000]) .ret))) }
noncomputable def spec_l12Bent_D : List (Nat × Callee) := [(445,spec_l00Src_among_c),(463,spec_l00Src_pick_c)]
def spec_l12Bent_H : List (Nat × ET) := [(10,(.one (.int .i64))),(16,(.one (.int .i64))),(22,(.one (.int .i64)))]
noncomputable def spec_l12Bent_c : Callee := mkCallee spec_l12Bent_D spec_l12Bent_H spec_l12Bent_ir [.box T_l00Src,.d T_Peg] [.d T_Peg] [.box T_l00Src]
noncomputable def spec_l12Bent (a0 : T_l00Src.ty) (a1 : T_Peg.ty) : Option (T_Peg.ty × T_l00Src.ty) := spec_l12Bent_c.f (a0,a1,())
theorem spec_l12Bent_eq (a0 : T_l00Src.ty) (a1 : T_Peg.ty) : spec_l12Bent a0 a1 =
 (spec_l00Src_pick a0 18).bind fun x1 =>
  if (x1.1 == 0) then
   (spec_l00Src_among (x1.2.1,x1.2.2.1,x1.2.2.2.1,()) [19,20,200,201]).bind fun x2 =>
    some ((a1.1,x2.1,a1.2.2.1,a1.2.2.2.1,()),(x2.2.1,x2.2.2.1,x2.2.2.2.1,()))
  else
   if (x1.1 == 1) then
    (spec_l00Src_among (x1.2.1,x1.2.2.1,x1.2.2.2.1,()) [99,100,1000,1001]).bind fun x3 =>
     some ((a1.1,a1.2.1,x3.1,a1.2.2.2.1,()),(x3.2.1,x3.2.2.1,x3.2.2.2.1,()))
   else
    if (x1.1 == 2) then
     (spec_l00Src_among (x1.2.1,x1.2.2.1,x1.2.2.2.1,()) [9,10,100,101]).bind fun x4 =>
      some ((a1.1,a1.2.1,a1.2.2.1,x4.1,()),(x4.2.1,x4.2.2.1,x4.2.2.2.1,()))
    else
     some (a1,(x1.2.1,x1.2.2.1,x1.2.2.2.1,())) :=
 (mk_f _ _ _ _ _ _ _ 4000).trans (by kernel_rfl)
def spec_l01Dec_k0 : C :=
 .reg false [.V 22 (.mv (.t 3)),.V 23 (.mv (.t 5)),.V 24 (.bin .add (.c (.int .i64 48)) (.t 23)),.V 25 (.conv (.int .u8) (.t 24)),.V 26 (.bsl 1 (.int .u8 0) 1 [(0,.t 25)]),.W 27 (.app 1 1 (.t 22) (.t 26)),.W 3 (.asg (.t 27))] [0,3,4] [3]
def spec_l01Dec_k1 : C :=
 .reg false [.V 14 (.mv (.t 4)),.V 15 (.bin .quo (.t 14) (.c (.int .i64 10))),.V 4 (.asg (.t 15))] [0,3,4] [3]
def spec_l01Dec_k2 : C :=
 .seq (.seq (.reg false [.V 12 (.mv (.t 4)),.V 13 (.bin .neq (.t 12) (.c (.int .i64 0)))] [0,3,4,13] [3]) (.cond (.t 13) .skip (.exit 0))) (.seq (.block 1 (.seq (.reg false [.V 16 (.mv (.t 4)),.V 17 (.bin .rem (.t 16) (.c (.int .i64 10))),.V 5 (.asg (.t 17))] [0,3,4,5] [3]) (.seq (.seq (.reg false [.V 18 (.mv (.t 5)),.V 19 (.bin .lss (.t 18) (.c (.int .i64 0)))] [0,3,4,5,19] [3]) (.cond (.t 19) (.reg false [.V 20 (.mv (.t 5)),.V 21 (.un .neg (.t 20)),.V 5 (.asg (.t 21))] [0,3,4,5] [3]) .skip)) (.norm [0,3,4,5] [3] spec_l01Dec_k0)))) spec_l01Dec_k1)
def spec_l01Dec_k3 : C :=
 .norm [0,3,4] [3] spec_l01Dec_k2
def spec_l01Dec_k4 : C :=
 .seq (.seq (.reg false [.V 37 (.mv (.t 7)),.V 38 (.bin .geq (.t 37) (.c (.int .i64 0)))] [3,6,7,38] [3,6]) (.cond (.t 38) .skip (.exit 2))) (.seq (.block 3 (.reg false [.V 41 (.mv (.t 6)),.V 42 (.mv (.t 3)),.V 43 (.mv (.t 7)),.V 44 (.ia 1 (.t 42) (.t 43)),.V 45 (.ld none (.t 44)),.V 46 (.bsl 1 (.int .u8 0) 1 [(0,.t 45)]),.W 47 (.app 1 1 (.t 41) (.t 46)),.W 6 (.asg (.t 47))] [3,6,7] [3,6])) (.reg false [.V 39 (.mv (.t 7)),.V 40 (.bin .sub (.t 39) (.c (.int .i64 1))),.V 7 (.asg (.t 40))] [3,6,7] [3,6]))
def spec_l01Dec_k5 : C :=
 .norm [3,6,7] [3,6] spec_l01Dec_k4
def spec_l01Dec_k6 : C :=
 .seq (.reg false [.V 48 (.mv (.t 6)),.V 49 (.conv .bytesStr (.t 48)),.V 2 (.asg (.t 49))] [2] []) .ret
def spec_l01Dec_k7 : C :=
 .seq (.reg false [.V 33 (.bsl 1 (.int .u8 0) 0 []),.W 6 (.asg (.t 33))] [3,6] [3,6]) (.seq (.seq (.reg false [.V 34 (.mv (.t 3)),.V 35 (.len (.t 34)),.V 36 (.bin .sub (.t 35) (.c (.int .i64 1))),.V 7 (.asg (.t 36))] [3,6,7] [3,6]) (.block 2 (.loop spec_l01Dec_k5))) spec_l01Dec_k6)
def spec_l01Dec_k8 : C :=
 .seq (.seq (.reg false [.V 28 (.mv (.t 0)),.V 29 (.bin .lss (.t 28) (.c (.int .i64 0)))] [3,29] [3]) (.cond (.t 29) (.reg false [.V 30 (.mv (.t 3)),.V 31 (.bsl 1 (.int .u8 0) 1 [(0,.c (.int .u8 45))]),.W 32 (.app 1 1 (.t 30) (.t 31)),.W 3 (.asg (.t 32))] [3] [3]) .skip)) (.norm [3] [3] spec_l01Dec_k7)
def spec_l01Dec_ir : Fn := { np := 1,io := [],res := [.t 2],own := [false],body :=
 (.seq (.reg false [.V 2 (.asg (.c (.str [])))] [0] []) (.seq (.seq (.reg false [.V 8 (.mv (.t 0)),.V 9 (.bin .eql (.t 8) (.c (.int .i64 0)))] [0,9] []) (.cond (.t 9) (.seq (.reg false [.V 2 (.asg (.c (.str [48])))] [2] []) .ret) .skip)) (.seq (.reg false [.V 10 (.bsl 1 (.int .u8 0) 0 []),.W 3 (.asg (.t 10))] [0,3] [3]) (.seq (.seq (.reg false [.V 11 (.mv (.t 0)),.V 4 (.asg (.t 11))] [0,3,4] [3]) (.block 0 (.loop spec_l01Dec_k3))) spec_l01Dec_k8)))) }
noncomputable def spec_l01Dec_D : List (Nat × Callee) := []
def spec_l01Dec_H : List (Nat × ET) := [(3,(.one (.int .u8))),(6,(.one (.int .u8))),(10,(.one (.int .u8))),(22,(.one (.int .u8))),(26,(.one (.int .u8))),(27,(.one (.int .u8))),(30,(.one (.int .u8))),(31,(.one (.int .u8))),(32,(.one (.int .u8))),(33,(.one (.int .u8))),(34,(.one (.int .u8))),(41,(.one (.int .u8))),(42,(.one (.int .u8))),(46,(.one (.int .u8))),(47,(.one (.int .u8))),(48,(.one (.int .u8)))]
noncomputable def spec_l01Dec_c : Callee := mkCallee spec_l01Dec_D spec_l01Dec_H spec_l01Dec_ir [.d (.one (.int .i64))] [.d (.one .str)] []
noncomputable def spec_l01Dec (a0 : Int) : Option (List UInt8) := spec_l01Dec_c.f (a0,())
noncomputable def spec_l01Dec_p0  (v0 : Int) (v4 : Int) (r3 : List Int) : Option (List UInt8) :=
 goL spec_l01Dec_D spec_l01Dec_H (vleave spec_l01Dec_ir [.d (.one (.int .i64))] [.d (.one .str)] [] []) [.c spec_l01Dec_k2,.l spec_l01Dec_k3,.e 0,.c spec_l01Dec_k8]
  ⟨[(0,.int .i64 v0),(3,.view 3 0 r3.length),(4,.int .i64 v4)],[(3,some (.sl (.one (.int .u8)) r3))]⟩
noncomputable def spec_l01Dec_p1  (v0 : Int) (v4 : Int) (v5 : Int) (r3 : List Int) : Option (List UInt8) :=
 goL spec_l01Dec_D spec_l01Dec_H (vleave spec_l01Dec_ir [.d (.one (.int .i64))] [.d (.one .str)] [] []) [.c spec_l01Dec_k0,.e 1,.c spec_l01Dec_k1,.l spec_l01Dec_k3,.e 0,.c spec_l01Dec_k8]
  ⟨[(0,.int .i64 v0),(3,.view 3 0 r3.length),(4,.int .i64 v4),(5,.int .i64 v5)],[(3,some (.sl (.one (.int .u8)) r3))]⟩
noncomputable def spec_l01Dec_p2  (r3 : List Int) : Option (List UInt8) :=
 goL spec_l01Dec_D spec_l01Dec_H (vleave spec_l01Dec_ir [.d (.one (.int .i64))] [.d (.one .str)] [] []) [.c spec_l01Dec_k7]
  ⟨[(3,.view 3 0 r3.length)],[(3,some (.sl (.one (.int .u8)) r3))]⟩
noncomputable def spec_l01Dec_p3  (v7 : Int) (r3 : List Int) (r6 : List Int) : Option (List UInt8) :=
 goL spec_l01Dec_D spec_l01Dec_H (vleave spec_l01Dec_ir [.d (.one (.int .i64))] [.d (.one .str)] [] []) [.c spec_l01Dec_k4,.l spec_l01Dec_k5,.e 2,.c spec_l01Dec_k6]
  ⟨[(3,.view 3 0 r3.length),(6,.view 6 0 r6.length),(7,.int .i64 v7)],[(3,some (.sl (.one (.int .u8)) r3)),(6,some (.sl (.one (.int .u8)) r6))]⟩
theorem spec_l01Dec_eq (a0 : Int) : spec_l01Dec a0 =
 if (a0 == 0) then
  some [48]
 else
  spec_l01Dec_p0 a0 a0 [] :=
 (mk_f _ _ _ _ _ _ _ 4000).trans (by kernel_rfl)
theorem spec_l01Dec_p0_eq  (v0 : Int) (v4 : Int) (r3 : List Int) : spec_l01Dec_p0 v0 v4 r3 =
 if (v4 != 0) then
  if decide (v4.tmod 10 < 0) then
   spec_l01Dec_p1 v0 v4 (IntKind.i64.wrap (0 - (v4.tmod 10))) r3
  else
   spec_l01Dec_p1 v0 v4 (v4.tmod 10) r3
 else
  if decide (v0 < 0) then
   if decide (r3.length + 1 < lim) then
    spec_l01Dec_p2 ((r3.take r3.length) ++ [45])
   else
    none
  else
   spec_l01Dec_p2 r3 :=
 (goL_dn _ _ _ 4000 _ _).trans (by kernel_rfl)
theorem spec_l01Dec_p1_eq  (v0 : Int) (v4 : Int) (v5 : Int) (r3 : List Int) : spec_l01Dec_p1 v0 v4 v5 r3 =
 if decide (r3.length + 1 < lim) then
  spec_l01Dec_p0 v0 (IntKind.i64.wrap (v4.tdiv 10)) ((r3.take r3.length) ++ [IntKind.u8.wrap (IntKind.i64.wrap (48 + v5))])
 else
  none :=
 (goL_dn _ _ _ 4000 _ _).trans (by kernel_rfl)
theorem spec_l01Dec_p2_eq  (r3 : List Int) : spec_l01Dec_p2 r3 =
 spec_l01Dec_p3 (IntKind.i64.wrap ((r3.length : Int) - 1)) r3 [] :=
 (goL_dn _ _ _ 4000 _ _).trans (by kernel_rfl)
theorem spec_l01Dec_p3_eq  (v7 : Int) (r3 : List Int) (r6 : List Int) : spec_l01Dec_p3 v7 r3 r6 =
 if decide (v7 ≥ 0) then
  if decide (0 ≤ v7) && decide (v7 < (r3.length : Int)) then
   (r3[v7.toNat]?).bind fun x1 =>
    if decide (r6.length + 1 < lim) then
     spec_l01Dec_p3 (IntKind.i64.wrap (v7 - 1)) r3 ((r6.take r6.length) ++ [x1])
    else
     none
  else
   none
 else
  some ((r6.take r6.length).map vu8) :=
 (goL_dn _ _ _ 4000 _ _).trans (by kernel_rfl)
def spec_l12Draw_k0 : C :=
 .seq (.seq (.reg false [.V 10 (.mv (.t 5)),.V 11 (.mv (.t 3)),.V 12 (.len (.t 11)),.V 13 (.bin .lss (.t 10) (.t 12))] [0,3,4,5,13] [0,3,4,1000]) (.cond (.t 13) .skip (.exit 0))) (.seq (.block 1 (.seq (.reg false [.V 16 (.mv (.t 0)),.W 17 (.call (.c (.fn 642 [])) [.t 16,.c (.int .i64 4)]),.V 18 (.un .not (.t 17))] [0,3,4,5,18] [0,3,4,1000]) (.cond (.t 18) (.reg false [.V 19 (.mv (.t 4)),.V 20 (.mv (.t 0)),.V 21 (.mv (.t 3)),.V 22 (.mv (.t 5)),.V 23 (.ia 1 (.t 21) (.t 22)),.V 24 (.ld none (.t 23)),.W 25 (.call (.c (.fn 793 [])) [.t 20,.t 24]),.V 26 (.bsl 4 (.agg [.str [],.int .i64 0,.int .i64 0,.int .i64 0]) 1 [(0,.t 25)]),.W 27 (.app 4 40 (.t 19) (.t 26)),.W 4 (.asg (.t 27))] [0,3,4,5] [0,3,4,1000]) .skip))) (.reg false [.V 14 (.mv (.t 5)),.V 15 (.bin .add (.t 14) (.c (.int .i64 1))),.V 5 (.asg (.t 15))] [0,3,4,5] [0,3,4,1000]))
def spec_l12Draw_k1 : C :=
 .norm [0,3,4,5] [0,3,4,1000] spec_l12Draw_k0
def spec_l12Draw_k2 : C :=
 .seq (.seq (.reg false [.V 45 (.mv (.t 7)),.V 46 (.mv (.t 6)),.V 47 (.bin .lss (.t 45) (.t 46))] [0,4,6,7,47] [0,4,1000]) (.cond (.t 47) .skip (.exit 3))) (.seq (.block 4 (.reg false [.V 50 (.mv (.t 4)),.V 51 (.mv (.t 0)),.V 52 (.mv (.t 7)),.V 53 (.call (.c (.fn 726 [])) [.t 52]),.V 54 (.bin .add (.c (.str [110])) (.t 53)),.W 55 (.call (.c (.fn 793 [])) [.t 51,.t 54]),.V 56 (.bsl 4 (.agg [.str [],.int .i64 0,.int .i64 0,.int .i64 0]) 1 [(0,.t 55)]),.W 57 (.app 4 40 (.t 50) (.t 56)),.W 4 (.asg (.t 57))] [0,4,6,7] [0,4,1000])) (.reg false [.V 48 (.mv (.t 7)),.V 49 (.bin .add (.t 48) (.c (.int .i64 1))),.V 7 (.asg (.t 49))] [0,4,6,7] [0,4,1000]))
def spec_l12Draw_k3 : C :=
 .norm [0,4,6,7] [0,4,1000] spec_l12Draw_k2
def spec_l12Draw_k4 : C :=
 .seq (.reg false [.V 58 (.mv (.t 4)),.W 2 (.asg (.t 58))] [0,2] [0,2,4,1000]) .ret
def spec_l12Draw_k5 : C :=
 .seq (.seq (.reg false [.V 28 (.mv (.t 0)),.W 29 (.call (.c (.fn 463 [])) [.t 28,.c (.int .i64 20)])] [0,4,29] [0,4,1000]) (.block 2 (.seq (.reg false [.V 31 (.bin .eql (.t 29) (.c (.int .i64 0))),.V 30 (.asg (.t 31))] [0,4,29,30] [0,4,1000]) (.cond (.t 30) (.reg false [.V 32 (.mv (.t 4)),.V 33 (.mv (.t 0)),.V 34 (.mv (.t 0)),.W 35 (.call (.c (.fn 793 [])) [.t 34,.c (.str [122,122])]),.W 36 (.call (.c (.fn 794 [])) [.t 33,.t 35]),.V 37 (.bsl 4 (.agg [.str [],.int .i64 0,.int .i64 0,.int .i64 0]) 1 [(0,.t 36)]),.W 38 (.app 4 40 (.t 32) (.t 37)),.W 4 (.asg (.t 38))] [0,4] [0,4,1000]) (.seq (.reg false [.V 40 (.bin .eql (.t 29) (.c (.int .i64 1))),.V 39 (.asg (.t 40))] [0,4,39] [0,4,1000]) (.cond (.t 39) (.seq (.reg false [.V 41 (.mv (.t 0)),.V 42 (.bsl 1 (.int .i64 0) 2 [(0,.c (.int .i64 8)),(1,.c (.int .i64 9))]),.W 43 (.call (.c (.fn 445 [])) [.t 41,.t 42]),.V 6 (.asg (.t 43))] [0,6] [0,1000]) (.seq (.reg false [.V 44 (.bsl 4 (.agg [.str [],.int .i64 0,.int .i64 0,.int .i64 0]) 0 []),.W 4 (.asg (.t 44))] [0,4,6] [0,4,1000]) (.seq (.reg false [.V 7 (.asg (.c (.int .i64 0)))] [0,4,6,7] [0,4,1000]) (.block 3 (.loop spec_l12Draw_k3))))) .skip)))))) spec_l12Draw_k4
def spec_l12Draw_ir : Fn := { np := 1,io := [true],res := [.t 2],own := [true],body :=
 (.seq (.reg false [.W 2 (.asg (.c (.nils 4)))] [0] [0,1000]) (.seq (.reg false [.V 8 (.bsl 1 (.str []) 4 [(0,.c (.str [112,97])),(1,.c (.str [112,98])),(2,.c (.str [112,99])),(3,.c (.str [112,100]))]),.W 3 (.asg (.t 8))] [0,3] [0,3,1000]) (.seq (.reg false [.V 9 (.bsl 4 (.agg [.str [],.int .i64 0,.int .i64 0,.int .i64 0]) 0 []),.W 4 (.asg (.t 9))] [0,3,4] [0,3,4,1000]) (.seq (.seq (.reg false [.V 5 (.asg (.c (.int .i64 0)))] [0,3,4,5] [0,3,4,1000]) (.block 0 (.loop spec_l12Draw_k1))) spec_l12Draw_k5)))) }
noncomputable def spec_l12Draw_D : List (Nat × Callee) := [(445,spec_l00Src_among_c),(463,spec_l00Src_pick_c),(642,spec_l00Src_one_c),(726,spec_l01Dec_c),(793,spec_l12DrawOne_c),(794,spec_l12Bent_c)]
def spec_l12Draw_H : List (Nat × ET) := [(2,T_Peg),(3,(.one .str)),(4,T_Peg),(8,(.one .str)),(9,T_Peg),(11,(.one .str)),(19,T_Peg),(21,(.one .str)),(26,T_Peg),(27,T_Peg),(32,T_Peg),(37,T_Peg),(38,T_Peg),(42,(.one (.int .i64))),(44,T_Peg),(50,T_Peg),(56,T_Peg),(57,T_Peg),(58,T_Peg)]
noncomputable def spec_l12Draw_c : Callee := mkCallee spec_l12Draw_D spec_l12Draw_H spec_l12Draw_ir [.box T_l00Src] [.tok T_Peg] [.box T_l00Src]
noncomputable def spec_l12Draw (a0 : T_l00Src.ty) : Option (List T_Peg.ty × T_l00Src.ty) := spec_l12Draw_c.f (a0,())
noncomputable def spec_l12Draw_p0  (v5 : Int) (r0_0 : List Int) (r0_1 : Int) (r0_2 : Int) (r3 : List (List UInt8)) (r4 : List T_Peg.ty) : Option (List T_Peg.ty × T_l00Src.ty) :=
 goL spec_l12Draw_D spec_l12Draw_H (vleave spec_l12Draw_ir [.box T_l00Src] [.tok T_Peg] [.box T_l00Src] []) [.c spec_l12Draw_k0,.l spec_l12Draw_k1,.e 0,.c spec_l12Draw_k5]
  ⟨[(0,.loc 0 0 0),(3,.view 3 0 r3.length),(4,.view 4 0 r4.length),(5,.int .i64 v5)],[(0,some (.var 3 (.agg [.sl (.one (.int .u8)) r0_0,.int .i64 r0_1,.int .u64 r0_2]))),(3,some (.sl (.one .str) r3)),(4,some (.sl T_Peg r4)),(1000,none)]⟩
noncomputable def spec_l12Draw_p1  (v6 : Int) (v7 : Int) (r0_0 : List Int) (r0_1 : Int) (r0_2 : Int) (r4 : List T_Peg.ty) : Option (List T_Peg.ty × T_l00Src.ty) :=
 goL spec_l12Draw_D spec_l12Draw_H (vleave spec_l12Draw_ir [.box T_l00Src] [.tok T_Peg] [.box T_l00Src] []) [.c spec_l12Draw_k2,.l spec_l12Draw_k3,.e 3,.e 2,.c spec_l12Draw_k4]
  ⟨[(0,.loc 0 0 0),(4,.view 4 0 r4.length),(6,.int .i64 v6),(7,.int .i64 v7)],[(0,some (.var 3 (.agg [.sl (.one (.int .u8)) r0_0,.int .i64 r0_1,.int .u64 r0_2]))),(4,some (.sl T_Peg r4)),(1000,none)]⟩
theorem spec_l12Draw_eq (a0 : T_l00Src.ty) : spec_l12Draw a0 =
 spec_l12Draw_p0 0 a0.1 a0.2.1 a0.2.2.1 [[112,97],[112,98],[112,99],[112,100]] [] :=
 (mk_f _ _ _ _ _ _ _ 4000).trans (by kernel_rfl)
theorem spec_l12Draw_p0_eq  (v5 : Int) (r0_0 : List Int) (r0_1 : Int) (r0_2 : Int) (r3 : List (List UInt8)) (r4 : List T_Peg.ty) : spec_l12Draw_p0 v5 r0_0 r0_1 r0_2 r3 r4 =
 if decide (v5 < (r3.length : Int)) then
  (spec_l00Src_one (r0_0,r0_1,r0_2,()) 4).bind fun x1 =>
   if (!x1.1) then
    if decide (0 ≤ v5) && decide (v5 < (r3.length : Int)) then
     (r3[v5.toNat]?).bind fun x2 =>
      (spec_l12DrawOne (x1.2.1,x1.2.2.1,x1.2.2.2.1,()) x2).bind fun x3 =>
       if decide (r4.length + 1 < lim) then
        spec_l12Draw_p0 (IntKind.i64.wrap (v5 + 1)) x3.2.1 x3.2.2.1 x3.2.2.2.1 r3 ((r4.take r4.length) ++ [(x3.1.1,x3.1.2.1,x3.1.2.2.1,x3.1.2.2.2.1,())])
       else
        none
    else
     none
   else
    spec_l12Draw_p0 (IntKind.i64.wrap (v5 + 1)) x1.2.1 x1.2.2.1 x1.2.2.2.1 r3 r4
 else
  (spec_l00Src_pick (r0_0,r0_1,r0_2,()) 20).bind fun x4 =>
   if (x4.1 == 0) then
    (spec_l12DrawOne (x4.2.1,x4.2.2.1,x4.2.2.2.1,()) [122,122]).bind fun x5 =>
     (spec_l12Bent (x5.2.1,x5.2.2.1,x5.2.2.2.1,()) (x5.1.1,x5.1.2.1,x5.1.2.2.1,x5.1.2.2.2.1,())).bind fun x6 =>
      if decide (r4.length + 1 < lim) then
       some ((((r4.take r4.length) ++ [(x6.1.1,x6.1.2.1,x6.1.2.2.1,x6.1.2.2.2.1,())]).take (((r4.take r4.length) ++ [(x6.1.1,x6.1.2.1,x6.1.2.2.1,x6.1.2.2.2.1,())]).length)),(x6.2.1,x6.2.2.1,x6.2.2.2.1,()))
      else
       none
   else
    if (x4.1 == 1) then
     (spec_l00Src_among (x4.2.1,x4.2.2.1,x4.2.2.2.1,()) [8,9]).bind fun x7 =>
      spec_l12Draw_p1 x7.1 0 x7.2.1 x7.2.2.1 x7.2.2.2.1 []
    else
     some ((r4.take r4.length),(x4.2.1,x4.2.2.1,x4.2.2.2.1,())) :=
 (goL_dn _ _ _ 4000 _ _).trans (by kernel_rfl)
theorem spec_l12Draw_p1_eq  (v6 : Int) (v7 : Int) (r0_0 : List Int) (r0_1 : Int) (r0_2 : Int) (r4 : List T_Peg.ty) : spec_l12Draw_p1 v6 v7 r0_0 r0_1 r0_2 r4 =
 if decide (v7 < v6) then
  (spec_l01Dec v7).bind fun x1 =>
   if decide ([110].length + x1.length ≤ strMax) then
    (spec_l12DrawOne (r0_0,r0_1,r0_2,()) ([110] ++ x1)).bind fun x2 =>
     if decide (r4.length + 1 < lim) then
      spec_l12Draw_p1 v6 (IntKind.i64.wrap (v7 + 1)) x2.2.1 x2.2.2.1 x2.2.2.2.1 ((r4.take r4.length) ++ [(x2.1.1,x2.1.2.1,x2.1.2.2.1,x2.1.2.2.2.1,())])
     else
      none
   else
    none
 else
  some ((r4.take r4.length),(r0_0,r0_1,r0_2,())) :=
 (goL_dn _ _ _ 4000 _ _).trans (by kernel_rfl)
def spec_DrawWearOfPegs_ir : Fn := { np := 1,io := [],res := [.t 2,.t 3],own := [true,false],body :=
 (.seq (.reg false [.W 2 (.asg (.c (.nils 4))),.V 3 (.asg (.c (.int .i64 0)))] [0] []) (.seq (.reg false [.V 6 (.mv (.t 0)),.W 7 (.call (.c (.fn 441 [])) [.t 6]),.V 4 (.asg (.t 7))] [4] [7,8000]) (.seq (.reg false [.V 8 (.mv (.t 4)),.W 9 (.call (.c (.fn 467 [])) [.t 8]),.W 5 (.asg (.t 9))] [4,5] [5,7,8000]) (.seq (.reg false [.V 10 (.mv (.t 5)),.V 11 (.mv (.t 4)),.V 12 (.bsl 1 (.int .i64 0) 7 [(0,.c (.int .i64 0)),(1,.c (.int .i64 5)),(2,.c (.int .i64 4000)),(3,.c (.int .i64 90000)),(4,.c (.int .i64 1000000)),(5,.c (.int .i64 1000001)),(6,.c (.int .i64 (-1)))]),.W 13 (.call (.c (.fn 445 [])) [.t 11,.t 12]),.W 2 (.asg (.t 10)),.V 3 (.asg (.t 13))] [2,3] [2,5]) .ret)))) }
noncomputable def spec_DrawWearOfPegs_D : List (Nat × Callee) := [(441,spec_l00From_c),(445,spec_l00Src_among_c),(467,spec_l12Draw_c)]
def spec_DrawWearOfPegs_H : List (Nat × ET) := [(2,T_Peg),(5,T_Peg),(6,(.one (.int .u8))),(9,T_Peg),(10,T_Peg),(12,(.one (.int .i64)))]
noncomputable def spec_DrawWearOfPegs_c : Callee := mkCallee spec_DrawWearOfPegs_D spec_DrawWearOfPegs_H spec_DrawWearOfPegs_ir [.d (.one (.sl (.one (.int .u8))))] [.tok T_Peg,.d (.one (.int .i64))] []
noncomputable def spec_DrawWearOfPegs (a0 : List Int) : Option (List T_Peg.ty × Int) := spec_DrawWearOfPegs_c.f (a0,())
theorem spec_DrawWearOfPegs_eq (a0 : List Int) : spec_DrawWearOfPegs a0 =
 (spec_l00From a0).bind fun x1 =>
  (spec_l12Draw x1).bind fun x2 =>
   (spec_l00Src_among (x2.2.1,x2.2.2.1,x2.2.2.2.1,()) [0,5,4000,90000,1000000,1000001,(-1)]).bind fun x3 =>
    some ((x2.1.take x2.1.length),x3.1) :=
 (mk_f _ _ _ _ _ _ _ 4000).trans (by kernel_rfl)
def impl_isDigit_ir : Fn := { np := 1,io := [],res := [.t 2],own := [false],body :=
 (.seq (.reg false [.V 2 (.asg (.c (.bool false)))] [0] []) (.seq (.reg false [.V 3 (.mv (.t 0)),.V 4 (.bin .geq (.t 3) (.c (.int .u8 48))),.V 5 (.mv (.t 4)),.G 6 (.mv (.t 0)) 2 true,.G 7 (.bin .leq (.t 6) (.c (.int .u8 57))) 2 true,.V 8 (.pick (.t 5) (.t 7) (.c (.bool false))),.V 2 (.asg (.t 8))] [2] []) .ret)) }
noncomputable def impl_isDigit_D : List (Nat × Callee) := []
def impl_isDigit_H : List (Nat × ET) := []
noncomputable def impl_isDigit_c : Callee := mkCallee impl_isDigit_D impl_isDigit_H impl_isDigit_ir [.d (.one (.int .u8))] [.d (.one .bool)] []
noncomputable def impl_isDigit (a0 : Int) : Option (Bool) := impl_isDigit_c.f (a0,())
theorem impl_isDigit_eq (a0 : Int) : impl_isDigit a0 =
 if decide (a0 ≥ 48) then
  some (decide (a0 ≤ 57))
 else
  some false :=
 (mk_f _ _ _ _ _ _ _ 4000).trans (by kernel_rfl)
def impl_few_ir : Fn := { np := 2,io := [],res := [.t 4],own := [false],body :=
 (.seq (.reg false [.V 4 (.asg (.c (.bool false)))] [0,1] []) (.seq (.reg false [.V 5 (.mv (.t 0)),.V 6 (.mv (.t 1)),.V 7 (.bin .leq (.t 5) (.t 6)),.V 4 (.asg (.t 7))] [4] []) .ret)) }
noncomputable def impl_few_D : List (Nat × Callee) := []
def impl_few_H : List (Nat × ET) := []
noncomputable def impl_few_c : Callee := mkCallee impl_few_D impl_few_H impl_few_ir [.d (.one (.int .i64)),.d (.one (.int .i64))] [.d (.one .bool)] []
noncomputable def impl_few (a0 : Int) (a1 : Int) : Option (Bool) := impl_few_c.f (a0,a1,())
theorem impl_few_eq (a0 : Int) (a1 : Int) : impl_few a0 a1 =
 some (decide (a0 ≤ a1)) :=
 (mk_f _ _ _ _ _ _ _ 4000).trans (by kernel_rfl)
def impl_IsName_k0 : C :=
 .seq (.reg false [.V 21 (.mv (.t 4)),.V 22 (.un .not (.t 21)),.V 23 (.mv (.t 22)),.G 24 (.mv (.t 3)) 2 true,.G 25 (.bin .eql (.t 24) (.c (.int .i64 0))) 2 true,.G 26 (.mv (.t 25)) 2 true,.G 27 (.mv (.t 0)) 5 false,.G 28 (.mv (.t 3)) 5 false,.G 29 (.ix (.t 27) (.t 28)) 5 false,.G 30 (.call (.c (.fn 22 [])) [.t 29]) 5 false,.G 31 (.un .not (.t 30)) 5 false,.G 32 (.pick (.t 26) (.c (.bool true)) (.t 31)) 2 true,.V 33 (.pick (.t 23) (.t 32) (.c (.bool false)))] [0,3,33] []) (.cond (.t 33) (.seq (.reg false [.V 2 (.asg (.c (.bool false)))] [2] []) .ret) .skip)
def impl_IsName_k1 : C :=
 .reg false [.V 9 (.mv (.t 3)),.V 10 (.bin .add (.t 9) (.c (.int .i64 1))),.V 3 (.asg (.t 10))] [0,3] []
def impl_IsName_k2 : C :=
 .seq (.seq (.reg false [.V 5 (.mv (.t 3)),.V 6 (.mv (.t 0)),.V 7 (.lens (.t 6)),.V 8 (.bin .lss (.t 5) (.t 7))] [0,3,8] []) (.cond (.t 8) .skip (.exit 0))) (.seq (.block 1 (.seq (.reg false [.V 11 (.mv (.t 0)),.V 12 (.mv (.t 3)),.V 13 (.ix (.t 11) (.t 12)),.V 14 (.bin .geq (.t 13) (.c (.int .u8 97))),.V 15 (.mv (.t 14)),.G 16 (.mv (.t 0)) 4 true,.G 17 (.mv (.t 3)) 4 true,.G 18 (.ix (.t 16) (.t 17)) 4 true,.G 19 (.bin .leq (.t 18) (.c (.int .u8 122))) 4 true,.V 20 (.pick (.t 15) (.t 19) (.c (.bool false))),.V 4 (.asg (.t 20))] [0,3,4] []) (.norm [0,3,4] [] impl_IsName_k0))) impl_IsName_k1)
def impl_IsName_k3 : C :=
 .norm [0,3] [] impl_IsName_k2
def impl_IsName_k4 : C :=
 .seq (.reg false [.V 34 (.mv (.t 0)),.V 35 (.bin .neq (.t 34) (.c (.str []))),.V 36 (.mv (.t 35)),.G 37 (.mv (.t 0)) 2 true,.G 38 (.lens (.t 37)) 2 true,.G 39 (.call (.c (.fn 21 [])) [.t 38,.c (.int .i64 10)]) 2 true,.V 40 (.pick (.t 36) (.t 39) (.c (.bool false))),.V 2 (.asg (.t 40))] [2] []) .ret
def impl_IsName_ir : Fn := { np := 1,io := [],res := [.t 2],own := [false],body :=
 (.seq (.reg false [.V 2 (.asg (.c (.bool false)))] [0] []) (.seq (.seq (.reg false [.V 3 (.asg (.c (.int .i64 0)))] [0,3] []) (.block 0 (.loop impl_IsName_k3))) impl_IsName_k4)) }
noncomputable def impl_IsName_D : List (Nat × Callee) := [(21,impl_few_c),(22,impl_isDigit_c)]
def impl_IsName_H : List (Nat × ET) := []
noncomputable def impl_IsName_c : Callee := mkCallee impl_IsName_D impl_IsName_H impl_IsName_ir [.d (.one .str)] [.d (.one .bool)] []
noncomputable def impl_IsName (a0 : List UInt8) : Option (Bool) := impl_IsName_c.f (a0,())
noncomputable def impl_IsName_p0  (v0 : List UInt8) (v3 : Int) : Option (Bool) :=
 goL impl_IsName_D impl_IsName_H (vleave impl_IsName_ir [.d (.one .str)] [.d (.one .bool)] [] []) [.c impl_IsName_k2,.l impl_IsName_k3,.e 0,.c impl_IsName_k4]
  ⟨[(0,.str v0),(3,.int .i64 v3)],[]⟩
noncomputable def impl_IsName_p1  (v0 : List UInt8) (v3 : Int) (v4 : Bool) : Option (Bool) :=
 goL impl_IsName_D impl_IsName_H (vleave impl_IsName_ir [.d (.one .str)] [.d (.one .bool)] [] []) [.c impl_IsName_k0,.e 1,.c impl_IsName_k1,.l impl_IsName_k3,.e 0,.c impl_IsName_k4]
  ⟨[(0,.str v0),(3,.int .i64 v3),(4,.bool v4)],[]⟩
theorem impl_IsName_eq (a0 : List UInt8) : impl_IsName a0 =
 impl_IsName_p0 a0 0 :=
 (mk_f _ _ _ _ _ _ _ 4000).trans (by kernel_rfl)
theorem impl_IsName_p0_eq  (v0 : List UInt8) (v3 : Int) : impl_IsName_p0 v0 v3 =
 if decide (v3 < (v0.length : Int)) then
  if decide (0 ≤ v3) then
   (v0[v3.toNat]?).bind fun x1 =>
    if decide ((x1.toNat : Int) ≥ 97) then
     if decide (0 ≤ v3) then
      (v0[v3.toNat]?).bind fun x2 =>
       impl_IsName_p1 v0 v3 (decide ((x2.toNat : Int) ≤ 122))
     else
      none
    else
     impl_IsName_p1 v0 v3 false
  else
   none
 else
  if (!(v0 == [])) then
   (impl_few (v0.length : Int) 10).bind fun x3 =>
    some x3
  else
   some false :=
 (goL_dn _ _ _ 4000 _ _).trans (by kernel_rfl)
theorem impl_IsName_p1_eq  (v0 : List UInt8) (v3 : Int) (v4 : Bool) : impl_IsName_p1 v0 v3 v4 =
 if (!v4) then
  if (v3 == 0) then
   some false
  else
   if decide (0 ≤ v3) then
    (v0[v3.toNat]?).bind fun x1 =>
     (impl_isDigit (x1.toNat : Int)).bind fun x2 =>
      if (!x2) then
       some false
      else
       impl_IsName_p0 v0 (IntKind.i64.wrap (v3 + 1))
   else
    none
 else
  impl_IsName_p0 v0 (IntKind.i64.wrap (v3 + 1)) :=
 (goL_dn _ _ _ 4000 _ _).trans (by kernel_rfl)
def impl_isHole_ir : Fn := { np := 1,io := [],res := [.t 2],own := [false],body :=
 (.seq (.reg false [.V 2 (.asg (.c (.bool false)))] [0] []) (.seq (.reg false [.V 3 (.mv (.t 0)),.V 4 (.call (.c (.fn 23 [])) [.t 3,.c (.int .i64 20),.c (.int .i64 200)]),.V 2 (.asg (.t 4))] [2] []) .ret)) }
noncomputable def impl_isHole_D : List (Nat × Callee) := [(23,impl_within_c)]
def impl_isHole_H : List (Nat × ET) := []
noncomputable def impl_isHole_c : Callee := mkCallee impl_isHole_D impl_isHole_H impl_isHole_ir [.d (.one (.int .i64))] [.d (.one .bool)] []
noncomputable def impl_isHole (a0 : Int) : Option (Bool) := impl_isHole_c.f (a0,())
theorem impl_isHole_eq (a0 : Int) : impl_isHole a0 =
 (impl_within a0 20 200).bind fun x1 =>
  some x1 :=
 (mk_f _ _ _ _ _ _ _ 4000).trans (by kernel_rfl)
def impl_Peg_valid_ir : Fn := { np := 1,io := [],res := [.t 2],own := [false],body :=
 (.seq (.reg false [.W 1 (.box 4 (.t 0)),.V 2 (.asg (.c (.bool false)))] [1] [1]) (.seq (.reg false [.V 3 (.fa 0 (.t 1)),.V 4 (.ld none (.t 3)),.V 5 (.call (.c (.fn 24 [])) [.t 4]),.V 6 (.mv (.t 5)),.G 7 (.fa 1 (.t 1)) 3 true,.G 8 (.ld none (.t 7)) 3 true,.G 9 (.call (.c (.fn 500 [])) [.t 8]) 3 true,.V 10 (.pick (.t 6) (.t 9) (.c (.bool false))),.V 11 (.mv (.t 10)),.G 12 (.fa 2 (.t 1)) 8 true,.G 13 (.ld none (.t 12)) 8 true,.G 14 (.call (.c (.fn 23 [])) [.t 13,.c (.int .i64 100),.c (.int .i64 1000)]) 8 true,.V 15 (.pick (.t 11) (.t 14) (.c (.bool false))),.V 16 (.mv (.t 15)),.G 17 (.fa 3 (.t 1)) 13 true,.G 18 (.ld none (.t 17)) 13 true,.G 19 (.call (.c (.fn 23 [])) [.t 18,.c (.int .i64 10),.c (.int .i64 100)]) 13 true,.V 20 (.pick (.t 16) (.t 19) (.c (.bool false))),.V 2 (.asg (.t 20))] [2] []) .ret)) }
noncomputable def impl_Peg_valid_D : List (Nat × Callee) := [(23,impl_within_c),(24,impl_IsName_c),(500,impl_isHole_c)]
def impl_Peg_valid_H : List (Nat × ET) := []
noncomputable def impl_Peg_valid_c : Callee := mkCallee impl_Peg_valid_D impl_Peg_valid_H impl_Peg_valid_ir [.d T_Peg] [.d (.one .bool)] []
noncomputable def impl_Peg_valid (a0 : T_Peg.ty) : Option (Bool) := impl_Peg_valid_c.f (a0,())
theorem impl_Peg_valid_eq (a0 : T_Peg.ty) : impl_Peg_valid a0 =
 (impl_IsName a0.1).bind fun x1 =>
  if x1 then
   (impl_isHole a0.2.1).bind fun x2 =>
    if x2 then
     (impl_within a0.2.2.1 100 1000).bind fun x3 =>
      if x3 then
       (impl_within a0.2.2.2.1 10 100).bind fun x4 =>
        some x4
      else
       some false
    else
     some false
  else
   some false :=
 (mk_f _ _ _ _ _ _ _ 4000).trans (by kernel_rfl)
def impl_ValidPegs_k0 : C :=
 .seq (.reg false [.V 8 (.bin .lss (.t 7) (.t 6))] [0,5,6,7,8] []) (.seq (.cond (.t 8) .skip (.exit 0)) (.seq (.block 1 (.seq (.reg false [.V 9 (.mv (.t 7)),.V 10 (.ia 4 (.t 5) (.t 7)),.V 11 (.ld (some 4) (.t 10)),.W 4 (.alloc 4 (.agg [.str [],.int .i64 0,.int .i64 0,.int .i64 0])),.V 3 (.asg (.t 9)),⟨none,true,.sto 4 (.t 4) (.t 11),none,false,[]⟩] [0,3,4,5,6,7] [4]) (.seq (.reg true [.V 12 (.ld (some 4) (.t 4)),.V 13 (.call (.c (.fn 796 [])) [.t 12]),.V 14 (.un .not (.t 13)),.V 15 (.mv (.t 14)),.G 16 (.mv (.t 3)) 3 false,.G 17 (.bin .gtr (.t 16) (.c (.int .i64 0))) 3 false,.G 18 (.mv (.t 17)) 3 false,.G 19 (.mv (.t 0)) 6 true,.G 20 (.mv (.t 3)) 6 true,.G 21 (.bin .sub (.t 20) (.c (.int .i64 1))) 6 true,.G 22 (.ia 4 (.t 19) (.t 21)) 6 true,.G 23 (.fa 0 (.t 22)) 6 true,.G 24 (.ld none (.t 23)) 6 true,.G 25 (.fa 0 (.t 4)) 6 true,.G 26 (.ld none (.t 25)) 6 true,.G 27 (.bin .geq (.t 24) (.t 26)) 6 true,.G 28 (.pick (.t 18) (.t 27) (.c (.bool false))) 3 false,.V 29 (.pick (.t 15) (.c (.bool true)) (.t 28))] [0,5,6,7,29] []) (.cond (.t 29) (.seq (.reg false [.V 2 (.asg (.c (.bool false)))] [2] []) .ret) .skip)))) (.reg false [.V 30 (.bin .add (.t 7) (.c (.int .i64 1))),.V 7 (.mv (.t 30))] [0,5,6,7] [])))
def impl_ValidPegs_k1 : C :=
 .norm [0,5,6,7] [] impl_ValidPegs_k0
def impl_ValidPegs_k2 : C :=
 .seq (.reg false [.V 31 (.mv (.t 0)),.V 32 (.len (.t 31)),.V 33 (.call (.c (.fn 21 [])) [.t 32,.c (.int .i64 8)]),.V 2 (.asg (.t 33))] [2] []) .ret
def impl_ValidPegs_ir : Fn := { np := 1,io := [],res := [.t 2],own := [false],body :=
 (.seq (.reg false [.V 2 (.asg (.c (.bool false)))] [0] []) (.seq (.seq (.reg false [.V 5 (.mv (.t 0)),.V 6 (.len (.t 5)),.V 7 (.mv (.c (.int .i64 0)))] [0,5,6,7] []) (.block 0 (.loop impl_ValidPegs_k1))) impl_ValidPegs_k2)) }
noncomputable def impl_ValidPegs_D : List (Nat × Callee) := [(21,impl_few_c),(796,impl_Peg_valid_c)]
def impl_ValidPegs_H : List (Nat × ET) := [(5,T_Peg),(19,T_Peg),(31,T_Peg)]
noncomputable def impl_ValidPegs_c : Callee := mkCallee impl_ValidPegs_D impl_ValidPegs_H impl_ValidPegs_ir [.d (.one (.sl T_Peg))] [.d (.one .bool)] []
noncomputable def impl_ValidPegs (a0 : List T_Peg.ty) : Option (Bool) := impl_ValidPegs_c.f (a0,())
noncomputable def impl_ValidPegs_p0  (v0 : List T_Peg.ty) (v5 : List T_Peg.ty) (v6 : Int) (v7 : Int) : Option (Bool) :=
 goL impl_ValidPegs_D impl_ValidPegs_H (vleave impl_ValidPegs_ir [.d (.one (.sl T_Peg))] [.d (.one .bool)] [] []) [.c impl_ValidPegs_k0,.l impl_ValidPegs_k1,.e 0,.c impl_ValidPegs_k2]
  ⟨[(0,.sl T_Peg v0),(5,.sl T_Peg v5),(6,.int .i64 v6),(7,.int .i64 v7)],[]⟩
theorem impl_ValidPegs_eq (a0 : List T_Peg.ty) : impl_ValidPegs a0 =
 impl_ValidPegs_p0 a0 a0 (a0.length : Int) 0 :=
 (mk_f _ _ _ _ _ _ _ 4000).trans (by kernel_rfl)
theorem impl_ValidPegs_p0_eq  (v0 : List T_Peg.ty) (v5 : List T_Peg.ty) (v6 : Int) (v7 : Int) : impl_ValidPegs_p0 v0 v5 v6 v7 =
 if decide (v7 < v6) then
  if decide (0 ≤ v7) then
   (v5[v7.toNat]?).bind fun x1 =>
    (impl_Peg_valid x1).bind fun x2 =>
     if (!x2) then
      some false
     else
      if decide (v7 > 0) then
       if decide (0 ≤ IntKind.i64.wrap (v7 - 1)) then
        (v0[(IntKind.i64.wrap (v7 - 1)).toNat]?).bind fun x3 =>
         if (!Op.bytesLess x3.1 x1.1) then
          some false
         else
          impl_ValidPegs_p0 v0 v5 v6 (IntKind.i64.wrap (v7 + 1))
       else
        none
      else
       impl_ValidPegs_p0 v0 v5 v6 (IntKind.i64.wrap (v7 + 1))
  else
   none
 else
  (impl_few (v0.length : Int) 8).bind fun x4 =>
   some x4 :=
 (goL_dn _ _ _ 4000 _ _).trans (by kernel_rfl)
def impl_WearOfPegs_k0 : C :=
 .seq (.reg false [.V 19 (.bin .lss (.t 18) (.t 17))] [1,6,16,17,18,19] [6]) (.seq (.cond (.t 19) .skip (.exit 0)) (.seq (.block 1 (.seq (.reg false [.V 20 (.ia 4 (.t 16) (.t 18)),.V 21 (.ld (some 4) (.t 20)),.W 8 (.alloc 4 (.agg [.str [],.int .i64 0,.int .i64 0,.int .i64 0])),⟨none,true,.sto 4 (.t 8) (.t 21),none,false,[]⟩] [1,6,8,16,17,18] [6,8]) (.reg false [.V 22 (.mv (.t 6)),.V 23 (.mv (.t 1)),.V 24 (.fa 3 (.t 8)),.V 25 (.ld none (.t 24)),.V 26 (.bin .mul (.t 23) (.t 25)),.V 27 (.call (.c (.fn 27 [])) [.t 26,.c (.int .i64 10000)]),.V 28 (.bsl 1 (.int .i64 0) 1 [(0,.t 27)]),.W 29 (.app 1 8 (.t 22) (.t 28)),.W 6 (.asg (.t 29))] [1,6,16,17,18] [6]))) (.reg false [.V 30 (.bin .add (.t 18) (.c (.int .i64 1))),.V 18 (.mv (.t 30))] [1,6,16,17,18] [6])))
def impl_WearOfPegs_k1 : C :=
 .norm [1,6,16,17,18] [6] impl_WearOfPegs_k0
def impl_WearOfPegs_k2 : C :=
 .seq (.reg false [.V 31 (.mv (.t 6)),.W 4 (.asg (.t 31)),.V 5 (.asg (.c (.int .i64 0)))] [4,5] [4,6]) .ret
def impl_WearOfPegs_ir : Fn := { np := 2,io := [],res := [.t 4,.t 5],own := [true,false],body :=
 (.seq (.reg false [.W 4 (.asg (.c (.nils 1))),.V 5 (.asg (.c (.int .i64 0)))] [0,1] []) (.seq (.seq (.reg false [.V 9 (.mv (.t 0)),.V 10 (.call (.c (.fn 468 [])) [.t 9]),.V 11 (.un .not (.t 10))] [0,1,11] []) (.cond (.t 11) (.seq (.reg false [.W 4 (.asg (.c (.nils 1))),.V 5 (.asg (.c (.int .i64 1)))] [4,5] [4,6]) .ret) .skip)) (.seq (.seq (.reg false [.V 12 (.mv (.t 1)),.V 13 (.call (.c (.fn 23 [])) [.t 12,.c (.int .i64 0),.c (.int .i64 1000000)]),.V 14 (.un .not (.t 13))] [0,1,14] []) (.cond (.t 14) (.seq (.reg false [.W 4 (.asg (.c (.nils 1))),.V 5 (.asg (.c (.int .i64 2)))] [4,5] [4,6]) .ret) .skip)) (.seq (.reg false [.V 15 (.bsl 1 (.int .i64 0) 0 []),.W 6 (.asg (.t 15))] [0,1,6] [6]) (.seq (.seq (.reg false [.V 16 (.mv (.t 0)),.V 17 (.len (.t 16)),.V 18 (.mv (.c (.int .i64 0)))] [1,6,16,17,18] [6]) (.block 0 (.loop impl_WearOfPegs_k1))) impl_WearOfPegs_k2))))) }
noncomputable def impl_WearOfPegs_D : List (Nat × Callee) := [(23,impl_within_c),(27,impl_divRound_c),(468,impl_ValidPegs_c)]
def impl_WearOfPegs_H : List (Nat × ET) := [(4,(.one (.int .i64))),(6,(.one (.int .i64))),(9,T_Peg),(15,(.one (.int .i64))),(16,T_Peg),(22,(.one (.int .i64))),(28,(.one (.int .i64))),(29,(.one (.int .i64))),(31,(.one (.int .i64)))]
noncomputable def impl_WearOfPegs_c : Callee := mkCallee impl_WearOfPegs_D impl_WearOfPegs_H impl_WearOfPegs_ir [.d (.one (.sl T_Peg)),.d (.one (.int .i64))] [.tok (.one (.int .i64)),.d (.one (.int .i64))] []
noncomputable def impl_WearOfPegs (a0 : List T_Peg.ty) (a1 : Int) : Option (List Int × Int) := impl_WearOfPegs_c.f (a0,a1,())
noncomputable def impl_WearOfPegs_p0  (v1 : Int) (v16 : List T_Peg.ty) (v17 : Int) (v18 : Int) (r6 : List Int) : Option (List Int × Int) :=
 goL impl_WearOfPegs_D impl_WearOfPegs_H (vleave impl_WearOfPegs_ir [.d (.one (.sl T_Peg)),.d (.one (.int .i64))] [.tok (.one (.int .i64)),.d (.one (.int .i64))] [] []) [.c impl_WearOfPegs_k0,.l impl_WearOfPegs_k1,.e 0,.c impl_WearOfPegs_k2]
  ⟨[(1,.int .i64 v1),(6,.view 6 0 r6.length),(16,.sl T_Peg v16),(17,.int .i64 v17),(18,.int .i64 v18)],[(6,some (.sl (.one (.int .i64)) r6))]⟩
theorem impl_WearOfPegs_eq (a0 : List T_Peg.ty) (a1 : Int) : impl_WearOfPegs a0 a1 =
 (impl_ValidPegs a0).bind fun x1 =>
  if (!x1) then
   some ([],1)
  else
   (impl_within a1 0 1000000).bind fun x2 =>
    if (!x2) then
     some ([],2)
    else
     impl_WearOfPegs_p0 a1 a0 (a0.length : Int) 0 [] :=
 (mk_f _ _ _ _ _ _ _ 4000).trans (by kernel_rfl)
theorem impl_WearOfPegs_p0_eq  (v1 : Int) (v16 : List T_Peg.ty) (v17 : Int) (v18 : Int) (r6 : List Int) : impl_WearOfPegs_p0 v1 v16 v17 v18 r6 =
 if decide (v18 < v17) then
  if decide (0 ≤ v18) then
   (v16[v18.toNat]?).bind fun x1 =>
    (impl_divRound (IntKind.i64.wrap (v1 * x1.2.2.2.1)) 10000).bind fun x2 =>
     if decide (r6.length + 1 < lim) then
      impl_WearOfPegs_p0 v1 v16 v17 (IntKind.i64.wrap (v18 + 1)) ((r6.take r6.length) ++ [x2])
     else
      none
  else
   none
 else
  some ((r6.take r6.length),0) :=
 (goL_dn _ _ _ 4000 _ _).trans (by kernel_rfl)
def laws_FnPosts_k0 : C :=
 .seq (.seq (.reg false [.V 154 (.mv (.t 17)),.V 155 (.mv (.t 11)),.V 156 (.mv (.t 16)),.V 157 (.ia 1 (.t 155) (.t 156)),.V 158 (.ld none (.t 157)),.V 159 (.len (.t 158)),.V 160 (.bin .lss (.t 154) (.t 159))] [0,1,11,12,13,15,16,17,160] [11]) (.cond (.t 160) .skip (.exit 2))) (.seq (.block 3 (.seq (.reg false [.V 163 (.mv (.t 11)),.V 164 (.mv (.t 16)),.V 165 (.ia 1 (.t 163) (.t 164)),.V 166 (.ld none (.t 165)),.V 167 (.mv (.t 17)),.V 168 (.ia 1 (.t 166) (.t 167)),.V 169 (.ld none (.t 168)),.V 170 (.mv (.t 15)),.V 171 (.bin .gtr (.t 169) (.t 170)),.V 172 (.mv (.t 171)),.G 173 (.mv (.t 11)) 9 false,.G 174 (.mv (.t 16)) 9 false,.G 175 (.ia 1 (.t 173) (.t 174)) 9 false,.G 176 (.ld none (.t 175)) 9 false,.G 177 (.mv (.t 17)) 9 false,.G 178 (.ia 1 (.t 176) (.t 177)) 9 false,.G 179 (.ld none (.t 178)) 9 false,.G 180 (.mv (.t 15)) 9 false,.G 181 (.bin .eql (.t 179) (.t 180)) 9 false,.G 182 (.mv (.t 181)) 9 false,.G 183 (.mv (.t 16)) 19 true,.G 184 (.mv (.t 12)) 19 true,.G 185 (.bin .lss (.t 183) (.t 184)) 19 true,.G 186 (.mv (.t 185)) 19 true,.G 187 (.mv (.t 16)) 23 false,.G 188 (.mv (.t 12)) 23 false,.G 189 (.bin .eql (.t 187) (.t 188)) 23 false,.G 190 (.mv (.t 189)) 23 false,.G 191 (.mv (.t 17)) 27 true,.G 192 (.mv (.t 13)) 27 true,.G 193 (.bin .lss (.t 191) (.t 192)) 27 true,.G 194 (.pick (.t 190) (.t 193) (.c (.bool false))) 23 false,.G 195 (.pick (.t 186) (.c (.bool true)) (.t 194)) 19 true,.G 196 (.pick (.t 182) (.t 195) (.c (.bool false))) 9 false,.V 197 (.pick (.t 172) (.c (.bool true)) (.t 196))] [0,1,11,12,13,15,16,17,197] [11]) (.cond (.t 197) (.seq (.reg false [.V 4 (.asg (.c (.bool false)))] [4] []) .ret) .skip))) (.reg false [.V 161 (.mv (.t 17)),.V 162 (.bin .add (.t 161) (.c (.int .i64 1))),.V 17 (.asg (.t 162))] [0,1,11,12,13,15,16,17] [11]))
def laws_FnPosts_k1 : C :=
 .norm [0,1,11,12,13,15,16,17] [11] laws_FnPosts_k0
def laws_FnPosts_k2 : C :=
 .reg false [.V 152 (.mv (.t 16)),.V 153 (.bin .add (.t 152) (.c (.int .i64 1))),.V 16 (.asg (.t 153))] [0,1,11,12,13,15,16] [11]
def laws_FnPosts_k3 : C :=
 .seq (.seq (.reg false [.V 148 (.mv (.t 16)),.V 149 (.mv (.t 11)),.V 150 (.len (.t 149)),.V 151 (.bin .lss (.t 148) (.t 150))] [0,1,11,12,13,15,16,151] [11]) (.cond (.t 151) .skip (.exit 0))) (.seq (.block 1 (.seq (.reg false [.V 17 (.asg (.c (.int .i64 0)))] [0,1,11,12,13,15,16,17] [11]) (.block 2 (.loop laws_FnPosts_k1)))) laws_FnPosts_k2)
def laws_FnPosts_k4 : C :=
 .norm [0,1,11,12,13,15,16] [11] laws_FnPosts_k3
def laws_FnPosts_k5 : C :=
 .seq (.reg false [.V 141 (.mv (.t 11)),.V 142 (.mv (.t 12)),.V 143 (.ia 1 (.t 141) (.t 142)),.V 144 (.ld none (.t 143)),.V 145 (.mv (.t 13)),.V 146 (.ia 1 (.t 144) (.t 145)),.V 147 (.ld none (.t 146)),.V 15 (.asg (.t 147))] [0,1,11,12,13,15] [11]) (.seq (.reg false [.V 16 (.asg (.c (.int .i64 0)))] [0,1,11,12,13,15,16] [11]) (.block 0 (.loop laws_FnPosts_k4)))
def laws_FnPosts_k6 : C :=
 .seq (.seq (.reg false [.V 273 (.mv (.t 32)),.V 274 (.mv (.t 28)),.V 275 (.len (.t 274)),.V 276 (.bin .lss (.t 273) (.t 275))] [28,29,30,32,276] [28,30]) (.cond (.t 276) .skip (.exit 4))) (.seq (.block 5 (.seq (.reg true [.V 279 (.mv (.t 30)),.V 280 (.mv (.t 32)),.V 281 (.ia 1 (.t 279) (.t 280)),.V 282 (.ld none (.t 281)),.V 283 (.mv (.t 29)),.V 284 (.mv (.t 28)),.V 285 (.mv (.t 32)),.V 286 (.ia 4 (.t 284) (.t 285)),.V 287 (.fa 3 (.t 286)),.V 288 (.ld none (.t 287)),.V 289 (.bin .mul (.t 283) (.t 288)),.V 290 (.call (.c (.fn 90 [])) [.t 289,.c (.int .i64 10000)]),.V 291 (.bin .neq (.t 282) (.t 290))] [28,29,30,32,291] [28,30]) (.cond (.t 291) (.seq (.reg false [.V 4 (.asg (.c (.bool false)))] [4] []) .ret) .skip))) (.reg false [.V 277 (.mv (.t 32)),.V 278 (.bin .add (.t 277) (.c (.int .i64 1))),.V 32 (.asg (.t 278))] [28,29,30,32] [28,30]))
def laws_FnPosts_k7 : C :=
 .norm [28,29,30,32] [28,30] laws_FnPosts_k6
def laws_FnPosts_k8 : C :=
 .seq (.reg false [.V 4 (.asg (.c (.bool true)))] [4] []) .ret
def laws_FnPosts_k9 : C :=
 .seq (.reg false [.V 253 (.mv (.t 0)),.V 254 (.call (.c (.fn 92 [])) [.t 253]),.V 252 (.mv (.t 254)),.V 255 (.ext (.t 252) 0),.V 256 (.ext (.t 252) 1),.W 28 (.asg (.t 255)),.V 29 (.asg (.t 256))] [28,29] [28]) (.seq (.reg false [.V 258 (.mv (.t 28)),.V 259 (.mv (.t 29)),.V 260 (.call (.c (.fn 91 [])) [.t 258,.t 259]),.V 257 (.mv (.t 260)),.V 261 (.ext (.t 257) 0),.V 262 (.ext (.t 257) 1),.W 30 (.asg (.t 261)),.V 31 (.asg (.t 262))] [28,29,30,31] [28,30]) (.seq (.seq (.reg false [.V 263 (.mv (.t 31)),.V 264 (.bin .neq (.t 263) (.c (.int .i64 0)))] [28,29,30,264] [28,30]) (.cond (.t 264) (.seq (.reg false [.V 265 (.mv (.t 30)),.V 266 (.len (.t 265)),.V 267 (.bin .eql (.t 266) (.c (.int .i64 0))),.V 4 (.asg (.t 267))] [4] []) .ret) .skip)) (.seq (.seq (.reg false [.V 268 (.mv (.t 30)),.V 269 (.len (.t 268)),.V 270 (.mv (.t 28)),.V 271 (.len (.t 270)),.V 272 (.bin .neq (.t 269) (.t 271))] [28,29,30,272] [28,30]) (.cond (.t 272) (.seq (.reg false [.V 4 (.asg (.c (.bool false)))] [4] []) .ret) .skip)) (.seq (.seq (.reg false [.V 32 (.asg (.c (.int .i64 0)))] [28,29,30,32] [28,30]) (.block 4 (.loop laws_FnPosts_k7))) laws_FnPosts_k8))))
def laws_FnPosts_k10 : C :=
 .seq (.reg false [.V 232 (.mv (.t 1)),.V 233 (.call (.c (.fn 94 [])) [.t 232]),.V 231 (.mv (.t 233)),.V 234 (.ext (.t 231) 0),.V 235 (.ext (.t 231) 1),.V 24 (.asg (.t 234)),.V 25 (.asg (.t 235))] [0,24,25] []) (.seq (.reg false [.V 237 (.mv (.t 24)),.V 238 (.mv (.t 25)),.V 239 (.call (.c (.fn 93 [])) [.t 237,.t 238]),.V 236 (.mv (.t 239)),.V 240 (.ext (.t 236) 0),.V 241 (.ext (.t 236) 1),.V 26 (.asg (.t 240)),.V 27 (.asg (.t 241))] [0,24,25,26,27] []) (.seq (.seq (.reg false [.V 242 (.mv (.t 27)),.V 243 (.bin .eql (.t 242) (.c (.int .i64 0))),.V 244 (.mv (.t 243)),.G 245 (.mv (.t 26)) 2 true,.G 246 (.mv (.t 24)) 2 true,.G 247 (.mv (.t 25)) 2 true,.G 248 (.bin .mul (.t 246) (.t 247)) 2 true,.G 249 (.call (.c (.fn 90 [])) [.t 248,.c (.int .i64 1000)]) 2 true,.G 250 (.bin .neq (.t 245) (.t 249)) 2 true,.V 251 (.pick (.t 244) (.t 250) (.c (.bool false)))] [0,251] []) (.cond (.t 251) (.seq (.reg false [.V 4 (.asg (.c (.bool false)))] [4] []) .ret) .skip)) (.norm [0] [] laws_FnPosts_k9)))
def laws_FnPosts_k11 : C :=
 .seq (.reg false [.V 199 (.mv (.t 0)),.V 200 (.call (.c (.fn 96 [])) [.t 199]),.V 198 (.mv (.t 200)),.V 201 (.ext (.t 198) 0),.V 202 (.ext (.t 198) 1),.V 203 (.ext (.t 198) 2),.V 204 (.ext (.t 198) 3),.V 18 (.asg (.t 201)),.V 19 (.asg (.t 202)),.V 20 (.asg (.t 203)),.V 21 (.asg (.t 204))] [0,1,18,19,20,21] []) (.seq (.reg false [.V 206 (.mv (.t 18)),.V 207 (.mv (.t 19)),.V 208 (.mv (.t 20)),.V 209 (.mv (.t 21)),.V 210 (.call (.c (.fn 95 [])) [.t 206,.t 207,.t 208,.t 209]),.V 205 (.mv (.t 210)),.V 211 (.ext (.t 205) 0),.V 212 (.ext (.t 205) 1),.V 22 (.asg (.t 211)),.V 23 (.asg (.t 212))] [0,1,18,19,20,21,22,23] []) (.seq (.seq (.reg false [.V 213 (.mv (.t 23)),.V 214 (.bin .eql (.t 213) (.c (.int .i64 0))),.V 215 (.mv (.t 214)),.G 216 (.mv (.t 22)) 2 true,.G 217 (.bin .lss (.t 216) (.c (.int .i64 1))) 2 true,.G 218 (.mv (.t 217)) 2 true,.G 219 (.mv (.t 22)) 5 false,.G 220 (.mv (.t 18)) 5 false,.G 221 (.mv (.t 19)) 5 false,.G 222 (.mv (.t 20)) 5 false,.G 223 (.bin .mul (.t 221) (.t 222)) 5 false,.G 224 (.call (.c (.fn 90 [])) [.t 223,.c (.int .i64 1000)]) 5 false,.G 225 (.bin .add (.t 220) (.t 224)) 5 false,.G 226 (.mv (.t 21)) 5 false,.G 227 (.bin .sub (.t 225) (.t 226)) 5 false,.G 228 (.bin .neq (.t 219) (.t 227)) 5 false,.G 229 (.pick (.t 218) (.c (.bool true)) (.t 228)) 2 true,.V 230 (.pick (.t 215) (.t 229) (.c (.bool false)))] [0,1,230] []) (.cond (.t 230) (.seq (.reg false [.V 4 (.asg (.c (.bool false)))] [4] []) .ret) .skip)) (.norm [0,1] [] laws_FnPosts_k10)))
def laws_FnPosts_k12 : C :=
 .norm [0,1] [] laws_FnPosts_k11
def laws_FnPosts_k13 : C :=
 .seq (.reg false [.V 110 (.mv (.t 1)),.V 111 (.call (.c (.fn 98 [])) [.t 110]),.W 11 (.asg (.t 111))] [0,1,11] [11]) (.seq (.reg false [.V 113 (.mv (.t 11)),.V 114 (.call (.c (.fn 97 [])) [.t 113]),.V 112 (.mv (.t 114)),.V 115 (.ext (.t 112) 0),.V 116 (.ext (.t 112) 1),.V 117 (.ext (.t 112) 2),.V 12 (.asg (.t 115)),.V 13 (.asg (.t 116)),.V 14 (.asg (.t 117))] [0,1,11,12,13,14] [11]) (.seq (.seq (.reg false [.V 118 (.mv (.t 14)),.V 119 (.bin .eql (.t 118) (.c (.int .i64 0)))] [0,1,11,12,13,119] [11]) (.cond (.t 119) (.seq (.seq (.reg false [.V 120 (.mv (.t 12)),.V 121 (.bin .lss (.t 120) (.c (.int .i64 0))),.V 122 (.mv (.t 121)),.G 123 (.mv (.t 12)) 2 false,.G 124 (.mv (.t 11)) 2 false,.G 125 (.len (.t 124)) 2 false,.G 126 (.bin .geq (.t 123) (.t 125)) 2 false,.V 127 (.pick (.t 122) (.c (.bool true)) (.t 126)),.V 128 (.mv (.t 127)),.G 129 (.mv (.t 13)) 8 false,.G 130 (.bin .lss (.t 129) (.c (.int .i64 0))) 8 false,.V 131 (.pick (.t 128) (.c (.bool true)) (.t 130)),.V 132 (.mv (.t 131)),.G 133 (.mv (.t 13)) 12 false,.G 134 (.mv (.t 11)) 12 false,.G 135 (.mv (.t 12)) 12 false,.G 136 (.ia 1 (.t 134) (.t 135)) 12 false,.G 137 (.ld none (.t 136)) 12 false,.G 138 (.len (.t 137)) 12 false,.G 139 (.bin .geq (.t 133) (.t 138)) 12 false,.V 140 (.pick (.t 132) (.c (.bool true)) (.t 139))] [0,1,11,12,13,140] [11]) (.cond (.t 140) (.seq (.reg false [.V 4 (.asg (.c (.bool false)))] [4] []) .ret) .skip)) (.norm [0,1,11,12,13] [11] laws_FnPosts_k5)) .skip)) laws_FnPosts_k12))
def laws_FnPosts_k14 : C :=
 .seq (.reg false [.V 40 (.mv (.t 0)),.V 41 (.call (.c (.fn 100 [])) [.t 40]),.V 39 (.mv (.t 41)),.V 42 (.ext (.t 39) 0),.V 43 (.ext (.t 39) 1),.V 5 (.asg (.t 42)),.V 6 (.asg (.t 43))] [0,1,5,6] []) (.seq (.reg false [.V 45 (.mv (.t 5)),.V 46 (.mv (.t 6)),.V 47 (.call (.c (.fn 99 [])) [.t 45,.t 46]),.V 44 (.mv (.t 47)),.V 48 (.ext (.t 44) 0),.V 49 (.ext (.t 44) 1),.V 7 (.asg (.t 48)),.V 8 (.asg (.t 49))] [0,1,5,6,7,8] []) (.seq (.reg false [.V 51 (.mv (.t 5)),.V 52 (.bin .add (.t 51) (.c (.int .i64 1))),.V 53 (.mv (.t 6)),.V 54 (.call (.c (.fn 99 [])) [.t 52,.t 53]),.V 50 (.mv (.t 54)),.V 55 (.ext (.t 50) 0),.V 56 (.ext (.t 50) 1),.V 9 (.asg (.t 55)),.V 10 (.asg (.t 56))] [0,1,5,6,7,8,9,10] []) (.seq (.seq (.reg false [.V 57 (.mv (.t 8)),.V 58 (.bin .eql (.t 57) (.c (.int .i64 0))),.V 59 (.mv (.t 58)),.G 60 (.mv (.t 7)) 2 true,.G 61 (.bin .lss (.t 60) (.c (.int .i64 0))) 2 true,.G 62 (.mv (.t 61)) 2 true,.G 63 (.mv (.t 7)) 5 false,.G 64 (.bin .gtr (.t 63) (.c (.int .i64 999))) 5 false,.G 65 (.pick (.t 62) (.c (.bool true)) (.t 64)) 2 true,.G 66 (.mv (.t 65)) 2 true,.G 67 (.mv (.t 10)) 9 false,.G 68 (.bin .eql (.t 67) (.c (.int .i64 0))) 9 false,.G 69 (.mv (.t 68)) 9 false,.G 70 (.mv (.t 9)) 12 true,.G 71 (.mv (.t 7)) 12 true,.G 72 (.bin .gtr (.t 70) (.t 71)) 12 true,.G 73 (.mv (.t 72)) 12 true,.G 74 (.mv (.t 7)) 16 false,.G 75 (.mv (.t 9)) 16 false,.G 76 (.bin .sub (.t 74) (.t 75)) 16 false,.G 77 (.bin .gtr (.t 76) (.c (.int .i64 4))) 16 false,.G 78 (.pick (.t 73) (.c (.bool true)) (.t 77)) 12 true,.G 79 (.pick (.t 69) (.t 78) (.c (.bool false))) 9 false,.G 80 (.pick (.t 66) (.c (.bool true)) (.t 79)) 2 true,.G 81 (.mv (.t 80)) 2 true,.G 82 (.mv (.t 5)) 24 false,.G 83 (.bin .eql (.t 82) (.c (.int .i64 0))) 24 false,.G 84 (.mv (.t 83)) 24 false,.G 85 (.mv (.t 6)) 27 true,.G 86 (.bin .eql (.t 85) (.c (.int .i64 1))) 27 true,.G 87 (.pick (.t 84) (.t 86) (.c (.bool false))) 24 false,.G 88 (.mv (.t 87)) 24 false,.G 89 (.mv (.t 7)) 31 true,.G 90 (.bin .neq (.t 89) (.c (.int .i64 999))) 31 true,.G 91 (.pick (.t 88) (.t 90) (.c (.bool false))) 24 false,.G 92 (.pick (.t 81) (.c (.bool true)) (.t 91)) 2 true,.G 93 (.mv (.t 92)) 2 true,.G 94 (.mv (.t 5)) 36 false,.G 95 (.bin .eql (.t 94) (.c (.int .i64 0))) 36 false,.G 96 (.mv (.t 95)) 36 false,.G 97 (.mv (.t 6)) 39 true,.G 98 (.bin .leq (.t 97) (.c (.int .i64 20))) 39 true,.G 99 (.pick (.t 96) (.t 98) (.c (.bool false))) 36 false,.G 100 (.mv (.t 99)) 36 false,.G 101 (.mv (.t 7)) 43 true,.G 102 (.mv (.t 6)) 43 true,.G 103 (.mv (.t 6)) 43 true,.G 104 (.bin .mul (.t 102) (.t 103)) 43 true,.G 105 (.bin .sub (.c (.int .i64 1000)) (.t 104)) 43 true,.G 106 (.bin .neq (.t 101) (.t 105)) 43 true,.G 107 (.pick (.t 100) (.t 106) (.c (.bool false))) 36 false,.G 108 (.pick (.t 93) (.c (.bool true)) (.t 107)) 2 true,.V 109 (.pick (.t 59) (.t 108) (.c (.bool false)))] [0,1,109] []) (.cond (.t 109) (.seq (.reg false [.V 4 (.asg (.c (.bool false)))] [4] []) .ret) .skip)) (.norm [0,1] [] laws_FnPosts_k13))))
def laws_FnPosts_ir : Fn := { np := 2,io := [],res := [.t 4],own := [false],body :=
 (.seq (.reg false [.V 4 (.asg (.c (.bool false)))] [0,1] []) (.seq (.seq (.reg false [.V 33 (.mv (.t 0)),.V 34 (.call (.c (.fn 76 [])) [.t 33]),.V 35 (.mv (.t 34)),.G 36 (.mv (.t 1)) 2 false,.G 37 (.call (.c (.fn 76 [])) [.t 36]) 2 false,.V 38 (.pick (.t 35) (.c (.bool true)) (.t 37))] [0,1,38] []) (.cond (.t 38) (.seq (.reg false [.V 4 (.asg (.c (.bool true)))] [4] []) .ret) .skip)) (.norm [0,1] [] laws_FnPosts_k14))) }
noncomputable def laws_FnPosts_D : List (Nat × Callee) := [(76,laws_b10Long_c),(90,laws_b10Div_c),(91,impl_WearOfPegs_c),(92,spec_DrawWearOfPegs_c),(93,impl_AfterLength_c),(94,spec_DrawAfterLength_c),(95,impl_PostLength_c),(96,spec_DrawPostLength_c),(97,impl_BestPost_c),(98,spec_DrawBestPost_c),(99,impl_PostRing_c),(100,spec_DrawPostRing_c)]
def laws_FnPosts_H : List (Nat × ET) := [(11,(.one (.sl (.one (.int .i64))))),(28,T_Peg),(30,(.one (.int .i64))),(33,(.one (.int .u8))),(36,(.one (.int .u8))),(40,(.one (.int .u8))),(110,(.one (.int .u8))),(111,(.one (.sl (.one (.int .i64))))),(113,(.one (.sl (.one (.int .i64))))),(124,(.one (.sl (.one (.int .i64))))),(134,(.one (.sl (.one (.int .i64))))),(137,(.one (.int .i64))),(141,(.one (.sl (.one (.int .i64))))),(144,(.one (.int .i64))),(149,(.one (.sl (.one (.int .i64))))),(155,(.one (.sl (.one (.int .i64))))),(158,(.one (.int .i64))),(163,(.one (.sl (.one (.int .i64))))),(166,(.one (.int .i64))),(173,(.one (.sl (.one (.int .i64))))),(176,(.one (.int .i64))),(199,(.one (.int .u8))),(232,(.one (.int .u8))),(253,(.one (.int .u8))),(255,T_Peg),(258,T_Peg),(261,(.one (.int .i64))),(265,(.one (.int .i64))),(268,(.one (.int .i64))),(270,T_Peg),(274,T_Peg),(279,(.one (.int .i64))),(284,T_Peg)]
noncomputable def laws_FnPosts_c : Callee := mkCallee laws_FnPosts_D laws_FnPosts_H laws_FnPosts_ir [.d (.one (.sl (.one (.int .u8)))),.d (.one (.sl (.one (.int .u8))))] [.d (.one .bool)] []
noncomputable def laws_FnPosts (a0 : List Int) (a1 : List Int) : Option (Bool) := laws_FnPosts_c.f (a0,a1,())
noncomputable def laws_FnPosts_p0  (v0 : List Int) (v1 : List Int) : Option (Bool) :=
 goL laws_FnPosts_D laws_FnPosts_H (vleave laws_FnPosts_ir [.d (.one (.sl (.one (.int .u8)))),.d (.one (.sl (.one (.int .u8))))] [.d (.one .bool)] [] []) [.c laws_FnPosts_k14]
  ⟨[(0,.sl (.one (.int .u8)) v0),(1,.sl (.one (.int .u8)) v1)],[]⟩
noncomputable def laws_FnPosts_p1  (v0 : List Int) (v1 : List Int) : Option (Bool) :=
 goL laws_FnPosts_D laws_FnPosts_H (vleave laws_FnPosts_ir [.d (.one (.sl (.one (.int .u8)))),.d (.one (.sl (.one (.int .u8))))] [.d (.one .bool)] [] []) [.c laws_FnPosts_k13]
  ⟨[(0,.sl (.one (.int .u8)) v0),(1,.sl (.one (.int .u8)) v1)],[]⟩
noncomputable def laws_FnPosts_p2  (v0 : List Int) (v1 : List Int) (v11 : List (List Int)) (v12 : Int) (v13 : Int) : Option (Bool) :=
 goL laws_FnPosts_D laws_FnPosts_H (vleave laws_FnPosts_ir [.d (.one (.sl (.one (.int .u8)))),.d (.one (.sl (.one (.int .u8))))] [.d (.one .bool)] [] []) [.c laws_FnPosts_k5,.c laws_FnPosts_k12]
  ⟨[(0,.sl (.one (.int .u8)) v0),(1,.sl (.one (.int .u8)) v1),(11,.sl (.one (.sl (.one (.int .i64)))) v11),(12,.int .i64 v12),(13,.int .i64 v13)],[(11,none)]⟩
noncomputable def laws_FnPosts_p3  (v0 : List Int) (v1 : List Int) : Option (Bool) :=
 goL laws_FnPosts_D laws_FnPosts_H (vleave laws_FnPosts_ir [.d (.one (.sl (.one (.int .u8)))),.d (.one (.sl (.one (.int .u8))))] [.d (.one .bool)] [] []) [.c laws_FnPosts_k11]
  ⟨[(0,.sl (.one (.int .u8)) v0),(1,.sl (.one (.int .u8)) v1)],[]⟩
noncomputable def laws_FnPosts_p4  (v0 : List Int) (v1 : List Int) (v11 : List (List Int)) (v12 : Int) (v13 : Int) (v15 : Int) (v16 : Int) : Option (Bool) :=
 goL laws_FnPosts_D laws_FnPosts_H (vleave laws_FnPosts_ir [.d (.one (.sl (.one (.int .u8)))),.d (.one (.sl (.one (.int .u8))))] [.d (.one .bool)] [] []) [.c laws_FnPosts_k3,.l laws_FnPosts_k4,.e 0,.c laws_FnPosts_k12]
  ⟨[(0,.sl (.one (.int .u8)) v0),(1,.sl (.one (.int .u8)) v1),(11,.sl (.one (.sl (.one (.int .i64)))) v11),(12,.int .i64 v12),(13,.int .i64 v13),(15,.int .i64 v15),(16,.int .i64 v16)],[(11,none)]⟩
noncomputable def laws_FnPosts_p5  (v0 : List Int) (v1 : List Int) : Option (Bool) :=
 goL laws_FnPosts_D laws_FnPosts_H (vleave laws_FnPosts_ir [.d (.one (.sl (.one (.int .u8)))),.d (.one (.sl (.one (.int .u8))))] [.d (.one .bool)] [] []) [.c laws_FnPosts_k10]
  ⟨[(0,.sl (.one (.int .u8)) v0),(1,.sl (.one (.int .u8)) v1)],[]⟩
noncomputable def laws_FnPosts_p6  (v0 : List Int) (v1 : List Int) (v11 : List (List Int)) (v12 : Int) (v13 : Int) (v15 : Int) (v16 : Int) (v17 : Int) : Option (Bool) :=
 goL laws_FnPosts_D laws_FnPosts_H (vleave laws_FnPosts_ir [.d (.one (.sl (.one (.int .u8)))),.d (.one (.sl (.one (.int .u8))))] [.d (.one .bool)] [] []) [.c laws_FnPosts_k0,.l laws_FnPosts_k1,.e 2,.e 1,.c laws_FnPosts_k2,.l laws_FnPosts_k4,.e 0,.c laws_FnPosts_k12]
  ⟨[(0,.sl (.one (.int .u8)) v0),(1,.sl (.one (.int .u8)) v1),(11,.sl (.one (.sl (.one (.int .i64)))) v11),(12,.int .i64 v12),(13,.int .i64 v13),(15,.int .i64 v15),(16,.int .i64 v16),(17,.int .i64 v17)],[(11,none)]⟩
noncomputable def laws_FnPosts_p7  (v0 : List Int) : Option (Bool) :=
 goL laws_FnPosts_D laws_FnPosts_H (vleave laws_FnPosts_ir [.d (.one (.sl (.one (.int .u8)))),.d (.one (.sl (.one (.int .u8))))] [.d (.one .bool)] [] []) [.c laws_FnPosts_k9]
  ⟨[(0,.sl (.one (.int .u8)) v0)],[]⟩
noncomputable def laws_FnPosts_p8  (v29 : Int) (v32 : Int) (r28 : List T_Peg.ty) (r30 : List Int) : Option (Bool) :=
 goL laws_FnPosts_D laws_FnPosts_H (vleave laws_FnPosts_ir [.d (.one (.sl (.one (.int .u8)))),.d (.one (.sl (.one (.int .u8))))] [.d (.one .bool)] [] []) [.c laws_FnPosts_k6,.l laws_FnPosts_k7,.e 4,.c laws_FnPosts_k8]
  ⟨[(28,.view 28 0 r28.length),(29,.int .i64 v29),(30,.view 30 0 r30.length),(32,.int .i64 v32)],[(28,some (.sl T_Peg r28)),(30,some (.sl (.one (.int .i64)) r30))]⟩
theorem laws_FnPosts_eq (a0 : List Int) (a1 : List Int) : laws_FnPosts a0 a1 =
 (laws_b10Long a0).bind fun x1 =>
  if x1 then
   some true
  else
   (laws_b10Long a1).bind fun x2 =>
    if x2 then
     some true
    else
     laws_FnPosts_p0 a0 a1 :=
 (mk_f _ _ _ _ _ _ _ 4000).trans (by kernel_rfl)
theorem laws_FnPosts_p0_eq  (v0 : List Int) (v1 : List Int) : laws_FnPosts_p0 v0 v1 =
 (spec_DrawPostRing v0).bind fun x1 =>
  (impl_PostRing x1.1 x1.2).bind fun x2 =>
   (impl_PostRing (IntKind.i64.wrap (x1.1 + 1)) x1.2).bind fun x3 =>
    if (x2.2 == 0) then
     if decide (x2.1 < 0) then
      some false
     else
      if decide (x2.1 > 999) then
       some false
      else
       if (x3.2 == 0) then
        if decide (x3.1 > x2.1) then
         some false
        else
         if decide (IntKind.i64.wrap (x2.1 - x3.1) > 4) then
          some false
         else
          if (x1.1 == 0) then
           if (x1.2 == 1) then
            if (x2.1 != 999) then
             some false
            else
             if (x1.1 == 0) then
              if decide (x1.2 ≤ 20) then
               if (x2.1 != IntKind.i64.wrap (1000 - (IntKind.i64.wrap (x1.2 * x1.2)))) then
                some false
               else
                laws_FnPosts_p1 v0 v1
              else
               laws_FnPosts_p1 v0 v1
             else
              laws_FnPosts_p1 v0 v1
           else
            if (x1.1 == 0) then
             if decide (x1.2 ≤ 20) then
              if (x2.1 != IntKind.i64.wrap (1000 - (IntKind.i64.wrap (x1.2 * x1.2)))) then
               some false
              else
               laws_FnPosts_p1 v0 v1
             else
              laws_FnPosts_p1 v0 v1
            else
             laws_FnPosts_p1 v0 v1
          else
           if (x1.1 == 0) then
            if decide (x1.2 ≤ 20) then
             if (x2.1 != IntKind.i64.wrap (1000 - (IntKind.i64.wrap (x1.2 * x1.2)))) then
              some false
             else
              laws_FnPosts_p1 v0 v1
            else
             laws_FnPosts_p1 v0 v1
           else
            laws_FnPosts_p1 v0 v1
       else
        if (x1.1 == 0) then
         if (x1.2 == 1) then
          if (x2.1 != 999) then
           some false
          else
           if (x1.1 == 0) then
            if decide (x1.2 ≤ 20) then
             if (x2.1 != IntKind.i64.wrap (1000 - (IntKind.i64.wrap (x1.2 * x1.2)))) then
              some false
             else
              laws_FnPosts_p1 v0 v1
            else
             laws_FnPosts_p1 v0 v1
           else
            laws_FnPosts_p1 v0 v1
         else
          if (x1.1 == 0) then
           if decide (x1.2 ≤ 20) then
            if (x2.1 != IntKind.i64.wrap (1000 - (IntKind.i64.wrap (x1.2 * x1.2)))) then
             some false
            else
             laws_FnPosts_p1 v0 v1
           else
            laws_FnPosts_p1 v0 v1
          else
           laws_FnPosts_p1 v0 v1
        else
         if (x1.1 == 0) then
          if decide (x1.2 ≤ 20) then
           if (x2.1 != IntKind.i64.wrap (1000 - (IntKind.i64.wrap (x1.2 * x1.2)))) then
            some false
           else
            laws_FnPosts_p1 v0 v1
          else
           laws_FnPosts_p1 v0 v1
         else
          laws_FnPosts_p1 v0 v1
    else
     laws_FnPosts_p1 v0 v1 :=
 (goL_dn _ _ _ 4000 _ _).trans (by kernel_rfl)
theorem laws_FnPosts_p1_eq  (v0 : List Int) (v1 : List Int) : laws_FnPosts_p1 v0 v1 =
 (spec_DrawBestPost v1).bind fun x1 =>
  (impl_BestPost x1).bind fun x2 =>
   if (x2.2.2 == 0) then
    if decide (x2.1 < 0) then
     some false
    else
     if decide (x2.1 ≥ (x1.length : Int)) then
      some false
     else
      if decide (x2.2.1 < 0) then
       some false
      else
       if decide (0 ≤ x2.1) then
        (x1[x2.1.toNat]?).bind fun x3 =>
         if decide (x2.2.1 ≥ (x3.length : Int)) then
          some false
         else
          laws_FnPosts_p2 v0 v1 x1 x2.1 x2.2.1
       else
        none
   else
    laws_FnPosts_p3 v0 v1 :=
 (goL_dn _ _ _ 4000 _ _).trans (by kernel_rfl)
theorem laws_FnPosts_p2_eq  (v0 : List Int) (v1 : List Int) (v11 : List (List Int)) (v12 : Int) (v13 : Int) : laws_FnPosts_p2 v0 v1 v11 v12 v13 =
 if decide (0 ≤ v12) then
  (v11[v12.toNat]?).bind fun x1 =>
   if decide (0 ≤ v13) then
    (x1[v13.toNat]?).bind fun x2 =>
     laws_FnPosts_p4 v0 v1 v11 v12 v13 x2 0
   else
    none
 else
  none :=
 (goL_dn _ _ _ 4000 _ _).trans (by kernel_rfl)
theorem laws_FnPosts_p3_eq  (v0 : List Int) (v1 : List Int) : laws_FnPosts_p3 v0 v1 =
 (spec_DrawPostLength v0).bind fun x1 =>
  (impl_PostLength x1.1 x1.2.1 x1.2.2.1 x1.2.2.2).bind fun x2 =>
   if (x2.2 == 0) then
    if decide (x2.1 < 1) then
     some false
    else
     (laws_b10Div 1000 (IntKind.i64.wrap (x1.2.1 * x1.2.2.1)) 1000).bind fun x3 =>
      if (x2.1 != IntKind.i64.wrap ((IntKind.i64.wrap (x1.1 + x3)) - x1.2.2.2)) then
       some false
      else
       laws_FnPosts_p5 v0 v1
   else
    laws_FnPosts_p5 v0 v1 :=
 (goL_dn _ _ _ 4000 _ _).trans (by kernel_rfl)
theorem laws_FnPosts_p4_eq  (v0 : List Int) (v1 : List Int) (v11 : List (List Int)) (v12 : Int) (v13 : Int) (v15 : Int) (v16 : Int) : laws_FnPosts_p4 v0 v1 v11 v12 v13 v15 v16 =
 if decide (v16 < (v11.length : Int)) then
  laws_FnPosts_p6 v0 v1 v11 v12 v13 v15 v16 0
 else
  laws_FnPosts_p3 v0 v1 :=
 (goL_dn _ _ _ 4000 _ _).trans (by kernel_rfl)
theorem laws_FnPosts_p5_eq  (v0 : List Int) (v1 : List Int) : laws_FnPosts_p5 v0 v1 =
 (spec_DrawAfterLength v1).bind fun x1 =>
  (impl_AfterLength x1.1 x1.2).bind fun x2 =>
   if (x2.2 == 0) then
    (laws_b10Div 1000 (IntKind.i64.wrap (x1.1 * x1.2)) 1000).bind fun x3 =>
     if (x2.1 != x3) then
      some false
     else
      laws_FnPosts_p7 v0
   else
    laws_FnPosts_p7 v0 :=
 (goL_dn _ _ _ 4000 _ _).trans (by kernel_rfl)
theorem laws_FnPosts_p6_eq  (v0 : List Int) (v1 : List Int) (v11 : List (List Int)) (v12 : Int) (v13 : Int) (v15 : Int) (v16 : Int) (v17 : Int) : laws_FnPosts_p6 v0 v1 v11 v12 v13 v15 v16 v17 =
 if decide (0 ≤ v16) then
  (v11[v16.toNat]?).bind fun x1 =>
   if decide (v17 < (x1.length : Int)) then
    if decide (0 ≤ v16) then
     (v11[v16.toNat]?).bind fun x2 =>
      if decide (0 ≤ v17) then
       (x2[v17.toNat]?).bind fun x3 =>
        if decide (x3 > v15) then
         some false
        else
         if decide (0 ≤ v16) then
          (v11[v16.toNat]?).bind fun x4 =>
           if decide (0 ≤ v17) then
            (x4[v17.toNat]?).bind fun x5 =>
             if (x5 == v15) then
              if decide (v16 < v12) then
               some false
              else
               if (v16 == v12) then
                if decide (v17 < v13) then
                 some false
                else
                 laws_FnPosts_p6 v0 v1 v11 v12 v13 v15 v16 (IntKind.i64.wrap (v17 + 1))
               else
                laws_FnPosts_p6 v0 v1 v11 v12 v13 v15 v16 (IntKind.i64.wrap (v17 + 1))
             else
              laws_FnPosts_p6 v0 v1 v11 v12 v13 v15 v16 (IntKind.i64.wrap (v17 + 1))
           else
            none
         else
          none
      else
       none
    else
     none
   else
    laws_FnPosts_p4 v0 v1 v11 v12 v13 v15 (IntKind.i64.wrap (v16 + 1))
 else
  none :=
 (goL_dn _ _ _ 4000 _ _).trans (by kernel_rfl)
theorem laws_FnPosts_p7_eq  (v0 : List Int) : laws_FnPosts_p7 v0 =
 (spec_DrawWearOfPegs v0).bind fun x1 =>
  (impl_WearOfPegs (x1.1.take x1.1.length) x1.2).bind fun x2 =>
   if (x2.2 != 0) then
    some ((x2.1.length : Int) == 0)
   else
    if ((x2.1.length : Int) != (x1.1.length : Int)) then
     some false
    else
     laws_FnPosts_p8 x1.2 0 x1.1 x2.1 :=
 (goL_dn _ _ _ 4000 _ _).trans (by kernel_rfl)
theorem laws_FnPosts_p8_eq  (v29 : Int) (v32 : Int) (r28 : List T_Peg.ty) (r30 : List Int) : laws_FnPosts_p8 v29 v32 r28 r30 =
 if decide (v32 < (r28.length : Int)) then
  if decide (0 ≤ v32) && decide (v32 < (r30.length : Int)) then
   (r30[v32.toNat]?).bind fun x1 =>
    if decide (0 ≤ v32) && decide (v32 < (r28.length : Int)) then
     (r28[v32.toNat]?).bind fun x2 =>
      (laws_b10Div 1000 (IntKind.i64.wrap (v29 * x2.2.2.2.1)) 10000).bind fun x3 =>
       if (x1 != x3) then
        some false
       else
        laws_FnPosts_p8 v29 (IntKind.i64.wrap (v32 + 1)) r28 r30
    else
     none
  else
   none
 else
  some true :=
 (goL_dn _ _ _ 4000 _ _).trans (by kernel_rfl)
end Go.Ab.P
