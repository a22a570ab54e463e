/- Functions of the program: abstract forms, and what their runs give. Conditions: none. -/
import Derived.Test.YtnfdkcpnoolmfaaGreatDoorPFnExactPassesAudit1
set_option maxRecDepth 100000
set_option linter.unusedVariables false
namespace Go.Ab.P
open Go.Ab
/- impl.ready -/
def impl_ready_k0 : C :=
 .seq (.reg false [.V 17 (.bin .lss (.t 16) (.t 15))] [0, 1, 7, 14, 15, 16, 17] []) (.seq (.cond (.t 17) .skip (.exit 0)) (.seq (.block 1 (.seq (.reg false [.V 18 (.ia 1 (.t 14) (.t 16)), .V 19 (.ld none (.t 18)), .V 9 (.asg (.t 19))] [0, 1, 7, 9, 14, 15, 16] []) (.reg true [.V 20 (.mv (.t 7)), .V 21 (.mv (.t 1)), .V 22 (.mv (.t 9)), .V 23 (.ia 1 (.t 21) (.t 22)), .V 24 (.ld none (.t 23)), .V 25 (.mv (.t 0)), .V 26 (.mv (.t 9)), .V 27 (.ia 4 (.t 25) (.t 26)), .V 28 (.fa 1 (.t 27)), .V 29 (.ld none (.t 28)), .V 30 (.bin .add (.t 24) (.t 29)), .V 31 (.max [.t 20, .t 30]), .V 7 (.asg (.t 31))] [0, 1, 7, 14, 15, 16] []))) (.reg false [.V 32 (.bin .add (.t 16) (.c (.int .i64 1))), .V 16 (.mv (.t 32))] [0, 1, 7, 14, 15, 16] [])))
def impl_ready_k1 : C :=
 .norm [0, 1, 7, 14, 15, 16] [] impl_ready_k0
def impl_ready_k2 : C :=
 .seq (.reg false [.V 33 (.mv (.t 7)), .V 6 (.asg (.t 33))] [6] []) .ret
def impl_ready_ir : Fn := { np := 3, io := [], res := [.t 6], own := [false], body :=
 (.seq (.reg false [.V 6 (.asg (.c (.int .i64 0)))] [0, 1, 2] []) (.seq (.reg false [.V 7 (.asg (.c (.int .i64 0)))] [0, 1, 2, 7] []) (.seq (.seq (.reg false [.V 10 (.mv (.t 0)), .V 11 (.mv (.t 2)), .V 12 (.ia 4 (.t 10) (.t 11)), .V 13 (.fa 3 (.t 12)), .V 14 (.ld none (.t 13)), .V 15 (.len (.t 14)), .V 16 (.mv (.c (.int .i64 0)))] [0, 1, 7, 14, 15, 16] []) (.block 0 (.loop impl_ready_k1))) impl_ready_k2))) }
noncomputable def impl_ready_D : List (Nat × Callee) := []
def impl_ready_H : List (Nat × ET) := [(10, T_Step), (14, (.one (.int .i64))), (21, (.one (.int .i64))), (25, T_Step)]
noncomputable def impl_ready_c : Callee := mkCallee impl_ready_D impl_ready_H impl_ready_ir [.d (.one (.sl T_Step)), .d (.one (.sl (.one (.int .i64)))), .d (.one (.int .i64))] [.d (.one (.int .i64))] []
noncomputable def impl_ready (a0 : List T_Step.ty) (a1 : List Int) (a2 : Int) : Option (Int) := impl_ready_c.f (a0, a1, a2, ())
noncomputable def impl_ready_p0  (v0 : List T_Step.ty) (v1 : List Int) (v7 : Int) (v14 : List Int) (v15 : Int) (v16 : Int) : Option (Int) :=
 goL impl_ready_D impl_ready_H (vleave impl_ready_ir [.d (.one (.sl T_Step)), .d (.one (.sl (.one (.int .i64)))), .d (.one (.int .i64))] [.d (.one (.int .i64))] [] []) [.c impl_ready_k0, .l impl_ready_k1, .e 0, .c impl_ready_k2]
  ⟨[(0, .sl T_Step v0), (1, .sl (.one (.int .i64)) v1), (7, .int .i64 v7), (14, .sl (.one (.int .i64)) v14), (15, .int .i64 v15), (16, .int .i64 v16)], []⟩
theorem impl_ready_eq (a0 : List T_Step.ty) (a1 : List Int) (a2 : Int) : impl_ready a0 a1 a2 =
  if decide (0 ≤ a2) then
   (a0[a2.toNat]?).bind fun x1 =>
    impl_ready_p0 a0 a1 0 x1.2.2.2.1 (x1.2.2.2.1.length : Int) 0
  else
   none :=
 (mk_f _ _ _ _ _ _ _ 4000).trans (by kernel_rfl)
theorem impl_ready_p0_eq  (v0 : List T_Step.ty) (v1 : List Int) (v7 : Int) (v14 : List Int) (v15 : Int) (v16 : Int) : impl_ready_p0 v0 v1 v7 v14 v15 v16 =
  if decide (v16 < v15) then
   if decide (0 ≤ v16) then
    (v14[v16.toNat]?).bind fun x1 =>
     if decide (0 ≤ x1) then
      (v1[x1.toNat]?).bind fun x2 =>
       if decide (0 ≤ x1) then
        (v0[x1.toNat]?).bind fun x3 =>
         impl_ready_p0 v0 v1 (if IntKind.i64.wrap (x2 + x3.2.1) > v7 then IntKind.i64.wrap (x2 + x3.2.1) else v7) v14 v15 (IntKind.i64.wrap (v16 + 1))
       else
        none
     else
      none
   else
    none
  else
   some v7 :=
 (goL_dn _ _ _ 4000 _ _).trans (by kernel_rfl)

/- impl.WorkProblems -/
def impl_WorkProblems_k0 : C :=
 .seq (.reg false [.V 16 (.bin .lss (.t 15) (.t 14))] [1, 4, 13, 14, 15, 16] [1, 4, 2000, 2001, 2003, 2004, 2006, 2007]) (.seq (.cond (.t 16) .skip (.exit 0)) (.seq (.block 1 (.seq (.reg false [.V 17 (.mv (.t 15)), .V 18 (.ia 4 (.t 13) (.t 15)), .V 19 (.ld (some 4) (.t 18)), .W 6 (.alloc 4 (.agg [.str [], .int .i64 0, .int .i64 0, .nils 1])), .V 5 (.asg (.t 17)), ⟨none, true, .sto 4 (.t 6) (.t 19), none, false, []⟩] [1, 4, 5, 6, 13, 14, 15] [1, 4, 6, 2000, 2001, 2003, 2004, 2006, 2007, 7003]) (.seq (.reg true [.V 20 (.fa 3 (.t 1)), .V 21 (.ld none (.t 20)), .V 22 (.fa 4 (.t 1)), .V 23 (.ld none (.t 22)), .V 24 (.fa 4 (.t 1)), .V 25 (.ld none (.t 24)), .V 26 (.mv (.t 5)), .V 27 (.ia 1 (.t 25) (.t 26)), .V 28 (.ld none (.t 27)), .V 29 (.call (.c (.fn 540 [])) [.t 21, .t 23, .t 28]), .V 7 (.asg (.t 29))] [1, 4, 5, 6, 7, 13, 14, 15] [1, 4, 6, 2000, 2001, 2003, 2004, 2006, 2007, 7003]) (.block 2 (.seq (.reg true [.V 31 (.fa 4 (.t 1)), .V 32 (.ld none (.t 31)), .V 33 (.mv (.t 5)), .V 34 (.ia 1 (.t 32) (.t 33)), .V 35 (.ld none (.t 34)), .V 36 (.fa 3 (.t 1)), .V 37 (.ld none (.t 36)), .V 38 (.fa 4 (.t 1)), .V 39 (.ld none (.t 38)), .V 40 (.mv (.t 5)), .V 41 (.call (.c (.fn 539 [])) [.t 37, .t 39, .t 40]), .V 42 (.bin .lss (.t 35) (.t 41)), .V 30 (.asg (.t 42))] [1, 4, 6, 7, 13, 14, 15, 30] [1, 4, 6, 2000, 2001, 2003, 2004, 2006, 2007, 7003]) (.cond (.t 30) (.reg false [.V 43 (.mv (.t 4)), .V 44 (.fa 0 (.t 6)), .V 45 (.ld none (.t 44)), .V 46 (.build [.int .i64 0, .str [], .str []] [(0, 1, .c (.int .i64 3)), (1, 1, .t 45), (2, 1, .c (.str [101, 97, 114, 108, 121]))]), .V 47 (.bsl 3 (.agg [.int .i64 0, .str [], .str []]) 1 [(0, .t 46)]), .W 48 (.app 3 40 (.t 43) (.t 47)), .W 4 (.asg (.t 48))] [1, 4, 13, 14, 15] [1, 4, 2000, 2001, 2003, 2004, 2006, 2007]) (.seq (.reg false [.V 50 (.mv (.t 7)), .V 51 (.fa 5 (.t 1)), .V 52 (.ld none (.t 51)), .V 53 (.bin .gtr (.t 50) (.t 52)), .V 49 (.asg (.t 53))] [1, 4, 6, 7, 13, 14, 15, 49] [1, 4, 6, 2000, 2001, 2003, 2004, 2006, 2007, 7003]) (.cond (.t 49) (.reg true [.V 54 (.mv (.t 4)), .V 55 (.fa 0 (.t 6)), .V 56 (.ld none (.t 55)), .V 57 (.mv (.t 7)), .V 58 (.call (.c (.fn 524 [])) [.t 57]), .V 59 (.build [.int .i64 0, .str [], .str []] [(0, 1, .c (.int .i64 3)), (1, 1, .t 56), (2, 1, .t 58)]), .V 60 (.bsl 3 (.agg [.int .i64 0, .str [], .str []]) 1 [(0, .t 59)]), .W 61 (.app 3 40 (.t 54) (.t 60)), .W 4 (.asg (.t 61))] [1, 4, 13, 14, 15] [1, 4, 2000, 2001, 2003, 2004, 2006, 2007]) .skip)))))))) (.reg false [.V 62 (.bin .add (.t 15) (.c (.int .i64 1))), .V 15 (.mv (.t 62))] [1, 4, 13, 14, 15] [1, 4, 2000, 2001, 2003, 2004, 2006, 2007])))
def impl_WorkProblems_k1 : C :=
 .norm [1, 4, 13, 14, 15] [1, 4, 2000, 2001, 2003, 2004, 2006, 2007] impl_WorkProblems_k0
def impl_WorkProblems_k2 : C :=
 .seq (.reg false [.V 63 (.mv (.t 4)), .W 2 (.asg (.t 63)), .V 3 (.asg (.c (.int .i64 0)))] [2, 3] [2, 4]) .ret
def impl_WorkProblems_ir : Fn := { np := 1, io := [], res := [.t 2, .t 3], own := [true, false], body :=
 (.seq (.reg false [.W 1 (.box 8 (.t 0)), .W 2 (.asg (.c (.nils 3))), .V 3 (.asg (.c (.int .i64 0)))] [1] [1, 2000, 2001, 2003, 2004, 2006, 2007]) (.seq (.seq (.reg false [.V 8 (.ld (some 8) (.t 1)), .V 9 (.call (.c (.fn 201 [])) [.t 8]), .V 10 (.un .not (.t 9))] [1, 10] [1, 2000, 2001, 2003, 2004, 2006, 2007]) (.cond (.t 10) (.seq (.reg false [.W 2 (.asg (.c (.nils 3))), .V 3 (.asg (.c (.int .i64 1)))] [2, 3] [2, 4]) .ret) .skip)) (.seq (.reg false [.V 11 (.bsl 3 (.agg [.int .i64 0, .str [], .str []]) 0 []), .W 4 (.asg (.t 11))] [1, 4] [1, 4, 2000, 2001, 2003, 2004, 2006, 2007]) (.seq (.seq (.reg false [.V 12 (.fa 3 (.t 1)), .V 13 (.ld none (.t 12)), .V 14 (.len (.t 13)), .V 15 (.mv (.c (.int .i64 0)))] [1, 4, 13, 14, 15] [1, 4, 2000, 2001, 2003, 2004, 2006, 2007]) (.block 0 (.loop impl_WorkProblems_k1))) impl_WorkProblems_k2)))) }
noncomputable def impl_WorkProblems_D : List (Nat × Callee) := [(201, impl_ValidShop_c), (524, impl_Decimal_c), (539, impl_ready_c), (540, impl_used_c)]
def impl_WorkProblems_H : List (Nat × ET) := [(2, T_Problem), (4, T_Problem), (11, T_Problem), (13, T_Step), (21, T_Step), (23, (.one (.int .i64))), (25, (.one (.int .i64))), (32, (.one (.int .i64))), (37, T_Step), (39, (.one (.int .i64))), (43, T_Problem), (47, T_Problem), (48, T_Problem), (54, T_Problem), (60, T_Problem), (61, T_Problem), (63, T_Problem)]
noncomputable def impl_WorkProblems_c : Callee := mkCallee impl_WorkProblems_D impl_WorkProblems_H impl_WorkProblems_ir [.d T_Shop] [.tok T_Problem, .d (.one (.int .i64))] []
noncomputable def impl_WorkProblems (a0 : T_Shop.ty) : Option (List T_Problem.ty × Int) := impl_WorkProblems_c.f (a0, ())
noncomputable def impl_WorkProblems_p0  (v13 : List T_Step.ty) (v14 : Int) (v15 : Int) (r1_0 : List T_Arc.ty) (r1_1 : List T_Neck.ty) (r1_2 : Int) (r1_3 : List T_Step.ty) (r1_4 : List Int) (r1_5 : Int) (r1_6 : List T_Paper.ty) (r1_7 : List T_Entry.ty) (r4 : List T_Problem.ty) : Option (List T_Problem.ty × Int) :=
 goL impl_WorkProblems_D impl_WorkProblems_H (vleave impl_WorkProblems_ir [.d T_Shop] [.tok T_Problem, .d (.one (.int .i64))] [] []) [.c impl_WorkProblems_k0, .l impl_WorkProblems_k1, .e 0, .c impl_WorkProblems_k2]
  ⟨[(1, .loc 1 0 0), (4, .view 4 0 r4.length), (13, .sl T_Step v13), (14, .int .i64 v14), (15, .int .i64 v15)], [(1, some (.var 8 (.agg [.sl T_Arc r1_0, .sl T_Neck r1_1, .int .i64 r1_2, .sl T_Step r1_3, .sl (.one (.int .i64)) r1_4, .int .i64 r1_5, .sl T_Paper r1_6, .sl T_Entry r1_7]))), (4, some (.sl T_Problem r4)), (2000, none), (2001, none), (2003, none), (2004, none), (2006, none), (2007, none)]⟩
theorem impl_WorkProblems_eq (a0 : T_Shop.ty) : impl_WorkProblems a0 =
  (impl_ValidShop a0).bind fun x1 =>
   if (!x1) then
    some ([], 1)
   else
    impl_WorkProblems_p0 a0.2.2.2.1 (a0.2.2.2.1.length : Int) 0 a0.1 a0.2.1 a0.2.2.1 a0.2.2.2.1 a0.2.2.2.2.1 a0.2.2.2.2.2.1 a0.2.2.2.2.2.2.1 a0.2.2.2.2.2.2.2.1 [] :=
 (mk_f _ _ _ _ _ _ _ 4000).trans (by kernel_rfl)
theorem impl_WorkProblems_p0_eq  (v13 : List T_Step.ty) (v14 : Int) (v15 : Int) (r1_0 : List T_Arc.ty) (r1_1 : List T_Neck.ty) (r1_2 : Int) (r1_3 : List T_Step.ty) (r1_4 : List Int) (r1_5 : Int) (r1_6 : List T_Paper.ty) (r1_7 : List T_Entry.ty) (r4 : List T_Problem.ty) : impl_WorkProblems_p0 v13 v14 v15 r1_0 r1_1 r1_2 r1_3 r1_4 r1_5 r1_6 r1_7 r4 =
  if decide (v15 < v14) then
   if decide (0 ≤ v15) then
    (v13[v15.toNat]?).bind fun x1 =>
     if decide (0 ≤ v15) then
      (r1_4[v15.toNat]?).bind fun x2 =>
       (impl_used r1_3 r1_4 x2).bind fun x3 =>
        if decide (0 ≤ v15) then
         (r1_4[v15.toNat]?).bind fun x4 =>
          (impl_ready r1_3 r1_4 v15).bind fun x5 =>
           if decide (x4 < x5) then
            if decide (r4.length + 1 < lim) then
             impl_WorkProblems_p0 v13 v14 (IntKind.i64.wrap (v15 + 1)) r1_0 r1_1 r1_2 r1_3 r1_4 r1_5 r1_6 r1_7 ((r4.take r4.length) ++ [(3, x1.1, [101, 97, 114, 108, 121], ())])
            else
             none
           else
            if decide (x3 > r1_5) then
             (impl_Decimal x3).bind fun x6 =>
              if decide (r4.length + 1 < lim) then
               impl_WorkProblems_p0 v13 v14 (IntKind.i64.wrap (v15 + 1)) r1_0 r1_1 r1_2 r1_3 r1_4 r1_5 r1_6 r1_7 ((r4.take r4.length) ++ [(3, x1.1, x6, ())])
              else
               none
            else
             impl_WorkProblems_p0 v13 v14 (IntKind.i64.wrap (v15 + 1)) r1_0 r1_1 r1_2 r1_3 r1_4 r1_5 r1_6 r1_7 r4
        else
         none
     else
      none
   else
    none
  else
   some ((r4.take r4.length), 0) :=
 (goL_dn _ _ _ 4000 _ _).trans (by kernel_rfl)

/- (impl.Rental).end -/
def impl_Rental_end_ir : Fn := { np := 1, io := [], res := [.t 2], own := [false], body :=
 (.seq (.reg false [.W 1 (.box 5 (.t 0)), .V 2 (.asg (.c (.int .i64 0)))] [1] [1]) (.seq (.reg false [.V 3 (.fa 2 (.t 1)), .V 4 (.ld none (.t 3)), .V 5 (.fa 3 (.t 1)), .V 6 (.ld none (.t 5)), .V 7 (.bin .mul (.c (.int .i64 30)) (.t 6)), .V 8 (.bin .add (.t 4) (.t 7)), .V 2 (.asg (.t 8))] [2] []) .ret)) }
noncomputable def impl_Rental_end_D : List (Nat × Callee) := []
def impl_Rental_end_H : List (Nat × ET) := []
noncomputable def impl_Rental_end_c : Callee := mkCallee impl_Rental_end_D impl_Rental_end_H impl_Rental_end_ir [.d T_Paper] [.d (.one (.int .i64))] []
noncomputable def impl_Rental_end (a0 : T_Paper.ty) : Option (Int) := impl_Rental_end_c.f (a0, ())
theorem impl_Rental_end_eq (a0 : T_Paper.ty) : impl_Rental_end a0 =
  some (IntKind.i64.wrap (a0.2.2.1 + (IntKind.i64.wrap (30 * a0.2.2.2.1)))) :=
 (mk_f _ _ _ _ _ _ _ 4000).trans (by kernel_rfl)

/- (impl.Rental).clashes -/
def impl_Rental_clashes_ir : Fn := { np := 2, io := [], res := [.t 4], own := [false], body :=
 (.seq (.reg false [.W 2 (.box 5 (.t 0)), .W 3 (.box 5 (.t 1)), .V 4 (.asg (.c (.bool false)))] [2, 3] [2, 3]) (.seq (.reg true [.V 5 (.fa 1 (.t 2)), .V 6 (.ld none (.t 5)), .V 7 (.fa 1 (.t 3)), .V 8 (.ld none (.t 7)), .V 9 (.bin .eql (.t 6) (.t 8)), .V 10 (.mv (.t 9)), .G 11 (.fa 2 (.t 2)) 5 true, .G 12 (.ld none (.t 11)) 5 true, .G 13 (.fa 2 (.t 3)) 5 true, .G 14 (.ld none (.t 13)) 5 true, .G 15 (.max [.t 12, .t 14]) 5 true, .G 16 (.ld (some 5) (.t 2)) 5 true, .G 17 (.call (.c (.fn 1045 [])) [.t 16]) 5 true, .G 18 (.ld (some 5) (.t 3)) 5 true, .G 19 (.call (.c (.fn 1045 [])) [.t 18]) 5 true, .G 20 (.min [.t 17, .t 19]) 5 true, .G 21 (.bin .lss (.t 15) (.t 20)) 5 true, .V 22 (.pick (.t 10) (.t 21) (.c (.bool false))), .V 4 (.asg (.t 22))] [4] []) .ret)) }
noncomputable def impl_Rental_clashes_D : List (Nat × Callee) := [(1045, impl_Rental_end_c)]
def impl_Rental_clashes_H : List (Nat × ET) := []
noncomputable def impl_Rental_clashes_c : Callee := mkCallee impl_Rental_clashes_D impl_Rental_clashes_H impl_Rental_clashes_ir [.d T_Paper, .d T_Paper] [.d (.one .bool)] []
noncomputable def impl_Rental_clashes (a0 : T_Paper.ty) (a1 : T_Paper.ty) : Option (Bool) := impl_Rental_clashes_c.f (a0, a1, ())
theorem impl_Rental_clashes_eq (a0 : T_Paper.ty) (a1 : T_Paper.ty) : impl_Rental_clashes a0 a1 =
  if (a0.2.1 == a1.2.1) then
   (impl_Rental_end a0).bind fun x1 =>
    (impl_Rental_end a1).bind fun x2 =>
     some (decide ((if a1.2.2.1 > a0.2.2.1 then a1.2.2.1 else a0.2.2.1) < (if x2 < x1 then x2 else x1)))
  else
   some false :=
 (mk_f _ _ _ _ _ _ _ 4000).trans (by kernel_rfl)

/- impl.ClashesOf -/
def impl_ClashesOf_k0 : C :=
 .seq (.seq (.reg false [.V 21 (.mv (.t 7)), .V 22 (.mv (.t 0)), .V 23 (.len (.t 22)), .V 24 (.bin .lss (.t 21) (.t 23))] [0, 4, 5, 6, 7, 12, 13, 14, 24] [4, 6]) (.cond (.t 24) .skip (.exit 2))) (.seq (.block 3 (.seq (.reg true [.V 27 (.ld (some 5) (.t 6)), .V 28 (.mv (.t 0)), .V 29 (.mv (.t 7)), .V 30 (.ia 5 (.t 28) (.t 29)), .V 31 (.ld (some 5) (.t 30)), .V 32 (.call (.c (.fn 941 [])) [.t 27, .t 31])] [0, 4, 5, 6, 7, 12, 13, 14, 32] [4, 6]) (.cond (.t 32) (.reg false [.V 33 (.mv (.t 4)), .V 34 (.mv (.t 5)), .V 35 (.mv (.t 7)), .V 36 (.bsl 1 (.int .i64 0) 2 [(0, .t 34), (1, .t 35)]), .W 37 (.bsl 1 (.sl 1 []) 1 [(0, .t 36)]), .W 38 (.app 1 24 (.t 33) (.t 37)), .W 4 (.asg (.t 38))] [0, 4, 5, 6, 7, 12, 13, 14] [4, 6]) .skip))) (.reg false [.V 25 (.mv (.t 7)), .V 26 (.bin .add (.t 25) (.c (.int .i64 1))), .V 7 (.asg (.t 26))] [0, 4, 5, 6, 7, 12, 13, 14] [4, 6]))
def impl_ClashesOf_k1 : C :=
 .norm [0, 4, 5, 6, 7, 12, 13, 14] [4, 6] impl_ClashesOf_k0
def impl_ClashesOf_k2 : C :=
 .reg false [.V 39 (.bin .add (.t 14) (.c (.int .i64 1))), .V 14 (.mv (.t 39))] [0, 4, 12, 13, 14] [4]
def impl_ClashesOf_k3 : C :=
 .seq (.reg false [.V 15 (.bin .lss (.t 14) (.t 13))] [0, 4, 12, 13, 14, 15] [4]) (.seq (.cond (.t 15) .skip (.exit 0)) (.seq (.block 1 (.seq (.reg false [.V 16 (.mv (.t 14)), .V 17 (.ia 5 (.t 12) (.t 14)), .V 18 (.ld (some 5) (.t 17)), .W 6 (.alloc 5 (.agg [.str [], .str [], .int .i64 0, .int .i64 0, .int .i64 0])), .V 5 (.asg (.t 16)), ⟨none, true, .sto 5 (.t 6) (.t 18), none, false, []⟩] [0, 4, 5, 6, 12, 13, 14] [4, 6]) (.seq (.reg false [.V 19 (.mv (.t 5)), .V 20 (.bin .add (.t 19) (.c (.int .i64 1))), .V 7 (.asg (.t 20))] [0, 4, 5, 6, 7, 12, 13, 14] [4, 6]) (.block 2 (.loop impl_ClashesOf_k1))))) impl_ClashesOf_k2))
def impl_ClashesOf_k4 : C :=
 .norm [0, 4, 12, 13, 14] [4] impl_ClashesOf_k3
def impl_ClashesOf_k5 : C :=
 .seq (.reg false [.V 40 (.mv (.t 4)), .W 2 (.asg (.t 40)), .V 3 (.asg (.c (.int .i64 0)))] [2, 3] [2, 4]) .ret
def impl_ClashesOf_ir : Fn := { np := 1, io := [], res := [.t 2, .t 3], own := [false, false], body :=
 (.seq (.reg false [.W 2 (.asg (.c (.nils 1))), .V 3 (.asg (.c (.int .i64 0)))] [0] []) (.seq (.seq (.reg false [.V 8 (.mv (.t 0)), .V 9 (.call (.c (.fn 611 [])) [.t 8]), .V 10 (.un .not (.t 9))] [0, 10] []) (.cond (.t 10) (.seq (.reg false [.W 2 (.asg (.c (.nils 1))), .V 3 (.asg (.c (.int .i64 1)))] [2, 3] [2, 4]) .ret) .skip)) (.seq (.reg false [.V 11 (.bsl 1 (.sl 1 []) 0 []), .W 4 (.asg (.t 11))] [0, 4] [4]) (.seq (.seq (.reg false [.V 12 (.mv (.t 0)), .V 13 (.len (.t 12)), .V 14 (.mv (.c (.int .i64 0)))] [0, 4, 12, 13, 14] [4]) (.block 0 (.loop impl_ClashesOf_k4))) impl_ClashesOf_k5)))) }
noncomputable def impl_ClashesOf_D : List (Nat × Callee) := [(611, impl_ValidRentals_c), (941, impl_Rental_clashes_c)]
def impl_ClashesOf_H : List (Nat × ET) := [(2, (.one (.sl (.one (.int .i64))))), (4, (.one (.sl (.one (.int .i64))))), (8, T_Paper), (11, (.one (.sl (.one (.int .i64))))), (12, T_Paper), (22, T_Paper), (28, T_Paper), (33, (.one (.sl (.one (.int .i64))))), (36, (.one (.int .i64))), (37, (.one (.sl (.one (.int .i64))))), (38, (.one (.sl (.one (.int .i64))))), (40, (.one (.sl (.one (.int .i64)))))]
noncomputable def impl_ClashesOf_c : Callee := mkCallee impl_ClashesOf_D impl_ClashesOf_H impl_ClashesOf_ir [.d (.one (.sl T_Paper))] [.d (.one (.sl (.one (.sl (.one (.int .i64)))))), .d (.one (.int .i64))] []
noncomputable def impl_ClashesOf (a0 : List T_Paper.ty) : Option (List (List Int) × Int) := impl_ClashesOf_c.f (a0, ())
noncomputable def impl_ClashesOf_p0  (v0 : List T_Paper.ty) (v12 : List T_Paper.ty) (v13 : Int) (v14 : Int) (r4 : List (List Int)) : Option (List (List Int) × Int) :=
 goL impl_ClashesOf_D impl_ClashesOf_H (vleave impl_ClashesOf_ir [.d (.one (.sl T_Paper))] [.d (.one (.sl (.one (.sl (.one (.int .i64)))))), .d (.one (.int .i64))] [] []) [.c impl_ClashesOf_k3, .l impl_ClashesOf_k4, .e 0, .c impl_ClashesOf_k5]
  ⟨[(0, .sl T_Paper v0), (4, .view 4 0 r4.length), (12, .sl T_Paper v12), (13, .int .i64 v13), (14, .int .i64 v14)], [(4, some (.sl (.one (.sl (.one (.int .i64)))) r4))]⟩
noncomputable def impl_ClashesOf_p1  (v0 : List T_Paper.ty) (v5 : Int) (v7 : Int) (v12 : List T_Paper.ty) (v13 : Int) (v14 : Int) (r4 : List (List Int)) (r6_0 : List UInt8) (r6_1 : List UInt8) (r6_2 : Int) (r6_3 : Int) (r6_4 : Int) : Option (List (List Int) × Int) :=
 goL impl_ClashesOf_D impl_ClashesOf_H (vleave impl_ClashesOf_ir [.d (.one (.sl T_Paper))] [.d (.one (.sl (.one (.sl (.one (.int .i64)))))), .d (.one (.int .i64))] [] []) [.c impl_ClashesOf_k0, .l impl_ClashesOf_k1, .e 2, .e 1, .c impl_ClashesOf_k2, .l impl_ClashesOf_k4, .e 0, .c impl_ClashesOf_k5]
  ⟨[(0, .sl T_Paper v0), (4, .view 4 0 r4.length), (5, .int .i64 v5), (6, .loc 6 0 0), (7, .int .i64 v7), (12, .sl T_Paper v12), (13, .int .i64 v13), (14, .int .i64 v14)], [(4, some (.sl (.one (.sl (.one (.int .i64)))) r4)), (6, some (.var 5 (.agg [.str r6_0, .str r6_1, .int .i64 r6_2, .int .i64 r6_3, .int .i64 r6_4])))]⟩
theorem impl_ClashesOf_eq (a0 : List T_Paper.ty) : impl_ClashesOf a0 =
  (impl_ValidRentals a0).bind fun x1 =>
   if (!x1) then
    some ([], 1)
   else
    impl_ClashesOf_p0 a0 a0 (a0.length : Int) 0 [] :=
 (mk_f _ _ _ _ _ _ _ 4000).trans (by kernel_rfl)
theorem impl_ClashesOf_p0_eq  (v0 : List T_Paper.ty) (v12 : List T_Paper.ty) (v13 : Int) (v14 : Int) (r4 : List (List Int)) : impl_ClashesOf_p0 v0 v12 v13 v14 r4 =
  if decide (v14 < v13) then
   if decide (0 ≤ v14) then
    (v12[v14.toNat]?).bind fun x1 =>
     impl_ClashesOf_p1 v0 v14 (IntKind.i64.wrap (v14 + 1)) v12 v13 v14 r4 x1.1 x1.2.1 x1.2.2.1 x1.2.2.2.1 x1.2.2.2.2.1
   else
    none
  else
   some ((r4.take r4.length), 0) :=
 (goL_dn _ _ _ 4000 _ _).trans (by kernel_rfl)
theorem impl_ClashesOf_p1_eq  (v0 : List T_Paper.ty) (v5 : Int) (v7 : Int) (v12 : List T_Paper.ty) (v13 : Int) (v14 : Int) (r4 : List (List Int)) (r6_0 : List UInt8) (r6_1 : List UInt8) (r6_2 : Int) (r6_3 : Int) (r6_4 : Int) : impl_ClashesOf_p1 v0 v5 v7 v12 v13 v14 r4 r6_0 r6_1 r6_2 r6_3 r6_4 =
  if decide (v7 < (v0.length : Int)) then
   if decide (0 ≤ v7) then
    (v0[v7.toNat]?).bind fun x1 =>
     (impl_Rental_clashes (r6_0, r6_1, r6_2, r6_3, r6_4, ()) x1).bind fun x2 =>
      if x2 then
       if decide (r4.length + 1 < lim) then
        impl_ClashesOf_p1 v0 v5 (IntKind.i64.wrap (v7 + 1)) v12 v13 v14 ((r4.take r4.length) ++ [[v5, v7]]) r6_0 r6_1 r6_2 r6_3 r6_4
       else
        none
      else
       impl_ClashesOf_p1 v0 v5 (IntKind.i64.wrap (v7 + 1)) v12 v13 v14 r4 r6_0 r6_1 r6_2 r6_3 r6_4
   else
    none
  else
   impl_ClashesOf_p0 v0 v12 v13 (IntKind.i64.wrap (v14 + 1)) r4 :=
 (goL_dn _ _ _ 4000 _ _).trans (by kernel_rfl)

/- (impl.Entry).change -/
def impl_Entry_change_ir : Fn := { np := 2, io := [], res := [.t 4], own := [false], body :=
 (.seq (.reg false [.W 2 (.box 4 (.t 0)), .V 4 (.asg (.c (.int .i64 0)))] [1, 2] [2]) (.seq (.seq (.reg false [.V 5 (.mv (.t 1))] [2, 5] [2]) (.block 0 (.seq (.reg false [.V 7 (.fa 1 (.t 2)), .V 8 (.ld none (.t 7)), .V 9 (.bin .eql (.t 5) (.t 8)), .V 6 (.asg (.t 9))] [2, 5, 6] [2]) (.cond (.t 6) (.seq (.reg false [.V 10 (.fa 3 (.t 2)), .V 11 (.ld none (.t 10)), .V 4 (.asg (.t 11))] [4] []) .ret) (.seq (.reg false [.V 13 (.fa 2 (.t 2)), .V 14 (.ld none (.t 13)), .V 15 (.bin .eql (.t 5) (.t 14)), .V 12 (.asg (.t 15))] [2, 12] [2]) (.cond (.t 12) (.seq (.reg false [.V 16 (.fa 3 (.t 2)), .V 17 (.ld none (.t 16)), .V 18 (.un .neg (.t 17)), .V 4 (.asg (.t 18))] [4] []) .ret) .skip)))))) (.seq (.reg false [.V 4 (.asg (.c (.int .i64 0)))] [4] []) .ret))) }
noncomputable def impl_Entry_change_D : List (Nat × Callee) := []
def impl_Entry_change_H : List (Nat × ET) := []
noncomputable def impl_Entry_change_c : Callee := mkCallee impl_Entry_change_D impl_Entry_change_H impl_Entry_change_ir [.d T_Entry, .d (.one .str)] [.d (.one (.int .i64))] []
noncomputable def impl_Entry_change (a0 : T_Entry.ty) (a1 : List UInt8) : Option (Int) := impl_Entry_change_c.f (a0, a1, ())
theorem impl_Entry_change_eq (a0 : T_Entry.ty) (a1 : List UInt8) : impl_Entry_change a0 a1 =
  if (a1 == a0.2.1) then
   some a0.2.2.2.1
  else
   if (a1 == a0.2.2.1) then
    some (IntKind.i64.wrap (0 - a0.2.2.2.1))
   else
    some 0 :=
 (mk_f _ _ _ _ _ _ _ 4000).trans (by kernel_rfl)

/- impl.FirstBelow -/
def impl_FirstBelow_k0 : C :=
 .seq (.reg false [.V 20 (.bin .lss (.t 19) (.t 18))] [1, 6, 17, 18, 19, 20] []) (.seq (.cond (.t 20) .skip (.exit 0)) (.seq (.block 1 (.seq (.reg false [.V 21 (.mv (.t 19)), .V 22 (.ia 4 (.t 17) (.t 19)), .V 23 (.ld (some 4) (.t 22)), .W 8 (.alloc 4 (.agg [.int .i64 0, .str [], .str [], .int .i64 0])), .V 7 (.asg (.t 21)), ⟨none, true, .sto 4 (.t 8) (.t 23), none, false, []⟩] [1, 6, 7, 8, 17, 18, 19] [8]) (.seq (.reg false [.V 24 (.mv (.t 6)), .V 25 (.ld (some 4) (.t 8)), .V 26 (.mv (.t 1)), .V 27 (.call (.c (.fn 622 [])) [.t 25, .t 26]), .V 28 (.bin .add (.t 24) (.t 27)), .V 6 (.asg (.t 28))] [1, 6, 7, 17, 18, 19] []) (.seq (.reg false [.V 29 (.mv (.t 6)), .V 30 (.bin .lss (.t 29) (.c (.int .i64 0)))] [1, 6, 7, 17, 18, 19, 30] []) (.cond (.t 30) (.seq (.reg false [.V 31 (.mv (.t 7)), .V 4 (.asg (.t 31)), .V 5 (.asg (.c (.int .i64 0)))] [4, 5] []) .ret) .skip))))) (.reg false [.V 32 (.bin .add (.t 19) (.c (.int .i64 1))), .V 19 (.mv (.t 32))] [1, 6, 17, 18, 19] [])))
def impl_FirstBelow_k1 : C :=
 .norm [1, 6, 17, 18, 19] [] impl_FirstBelow_k0
def impl_FirstBelow_k2 : C :=
 .seq (.reg false [.V 4 (.asg (.c (.int .i64 0))), .V 5 (.asg (.c (.int .i64 3)))] [4, 5] []) .ret
def impl_FirstBelow_k3 : C :=
 .seq (.reg false [.V 6 (.asg (.c (.int .i64 0)))] [0, 1, 6] []) (.seq (.seq (.reg false [.V 17 (.mv (.t 0)), .V 18 (.len (.t 17)), .V 19 (.mv (.c (.int .i64 0)))] [1, 6, 17, 18, 19] []) (.block 0 (.loop impl_FirstBelow_k1))) impl_FirstBelow_k2)
def impl_FirstBelow_ir : Fn := { np := 2, io := [], res := [.t 4, .t 5], own := [false, false], body :=
 (.seq (.reg false [.V 4 (.asg (.c (.int .i64 0))), .V 5 (.asg (.c (.int .i64 0)))] [0, 1] []) (.seq (.seq (.reg false [.V 9 (.mv (.t 0)), .V 10 (.call (.c (.fn 213 [])) [.t 9]), .V 11 (.un .not (.t 10)), .V 12 (.mv (.t 11)), .G 13 (.mv (.t 1)) 3 false, .G 14 (.call (.c (.fn 24 [])) [.t 13]) 3 false, .G 15 (.un .not (.t 14)) 3 false, .V 16 (.pick (.t 12) (.c (.bool true)) (.t 15))] [0, 1, 16] []) (.cond (.t 16) (.seq (.reg false [.V 4 (.asg (.c (.int .i64 0))), .V 5 (.asg (.c (.int .i64 1)))] [4, 5] []) .ret) .skip)) (.norm [0, 1] [] impl_FirstBelow_k3))) }
noncomputable def impl_FirstBelow_D : List (Nat × Callee) := [(24, impl_IsName_c), (213, impl_ValidBook_c), (622, impl_Entry_change_c)]
def impl_FirstBelow_H : List (Nat × ET) := [(9, T_Entry), (17, T_Entry)]
noncomputable def impl_FirstBelow_c : Callee := mkCallee impl_FirstBelow_D impl_FirstBelow_H impl_FirstBelow_ir [.d (.one (.sl T_Entry)), .d (.one .str)] [.d (.one (.int .i64)), .d (.one (.int .i64))] []
noncomputable def impl_FirstBelow (a0 : List T_Entry.ty) (a1 : List UInt8) : Option (Int × Int) := impl_FirstBelow_c.f (a0, a1, ())
noncomputable def impl_FirstBelow_p0  (v0 : List T_Entry.ty) (v1 : List UInt8) : Option (Int × Int) :=
 goL impl_FirstBelow_D impl_FirstBelow_H (vleave impl_FirstBelow_ir [.d (.one (.sl T_Entry)), .d (.one .str)] [.d (.one (.int .i64)), .d (.one (.int .i64))] [] []) [.c impl_FirstBelow_k3]
  ⟨[(0, .sl T_Entry v0), (1, .str v1)], []⟩
noncomputable def impl_FirstBelow_p1  (v1 : List UInt8) (v6 : Int) (v17 : List T_Entry.ty) (v18 : Int) (v19 : Int) : Option (Int × Int) :=
 goL impl_FirstBelow_D impl_FirstBelow_H (vleave impl_FirstBelow_ir [.d (.one (.sl T_Entry)), .d (.one .str)] [.d (.one (.int .i64)), .d (.one (.int .i64))] [] []) [.c impl_FirstBelow_k0, .l impl_FirstBelow_k1, .e 0, .c impl_FirstBelow_k2]
  ⟨[(1, .str v1), (6, .int .i64 v6), (17, .sl T_Entry v17), (18, .int .i64 v18), (19, .int .i64 v19)], []⟩
theorem impl_FirstBelow_eq (a0 : List T_Entry.ty) (a1 : List UInt8) : impl_FirstBelow a0 a1 =
  (impl_ValidBook a0).bind fun x1 =>
   if (!x1) then
    some (0, 1)
   else
    (impl_IsName a1).bind fun x2 =>
     if (!x2) then
      some (0, 1)
     else
      impl_FirstBelow_p0 a0 a1 :=
 (mk_f _ _ _ _ _ _ _ 4000).trans (by kernel_rfl)
theorem impl_FirstBelow_p0_eq  (v0 : List T_Entry.ty) (v1 : List UInt8) : impl_FirstBelow_p0 v0 v1 =
  impl_FirstBelow_p1 v1 0 v0 (v0.length : Int) 0 :=
 (goL_dn _ _ _ 4000 _ _).trans (by kernel_rfl)
theorem impl_FirstBelow_p1_eq  (v1 : List UInt8) (v6 : Int) (v17 : List T_Entry.ty) (v18 : Int) (v19 : Int) : impl_FirstBelow_p1 v1 v6 v17 v18 v19 =
  if decide (v19 < v18) then
   if decide (0 ≤ v19) then
    (v17[v19.toNat]?).bind fun x1 =>
     (impl_Entry_change x1 v1).bind fun x2 =>
      if decide (IntKind.i64.wrap (v6 + x2) < 0) then
       some (v19, 0)
      else
       impl_FirstBelow_p1 v1 (IntKind.i64.wrap (v6 + x2)) v17 v18 (IntKind.i64.wrap (v19 + 1))
   else
    none
  else
   some (0, 3) :=
 (goL_dn _ _ _ 4000 _ _).trans (by kernel_rfl)

/- impl.TradeProblems -/
def impl_TradeProblems_k0 : C :=
 .seq (.reg false [.V 27 (.bin .lss (.t 26) (.t 25))] [1, 4, 24, 25, 26, 27] [1, 4, 5, 2000, 2001, 2003, 2004, 2006, 2007]) (.seq (.cond (.t 27) .skip (.exit 0)) (.seq (.block 1 (.seq (.reg false [.V 28 (.ia 1 (.t 24) (.t 26)), .V 29 (.ld none (.t 28)), .W 8 (.asg (.t 29))] [1, 4, 8, 24, 25, 26] [1, 4, 5, 8, 2000, 2001, 2003, 2004, 2006, 2007]) (.reg true [.V 30 (.mv (.t 4)), .V 31 (.fa 6 (.t 1)), .V 32 (.ld none (.t 31)), .V 33 (.mv (.t 8)), .V 34 (.ia 1 (.t 33) (.c (.int .i64 0))), .V 35 (.ld none (.t 34)), .V 36 (.ia 5 (.t 32) (.t 35)), .V 37 (.fa 0 (.t 36)), .V 38 (.ld none (.t 37)), .V 39 (.fa 6 (.t 1)), .V 40 (.ld none (.t 39)), .V 41 (.mv (.t 8)), .V 42 (.ia 1 (.t 41) (.c (.int .i64 1))), .V 43 (.ld none (.t 42)), .V 44 (.ia 5 (.t 40) (.t 43)), .V 45 (.fa 0 (.t 44)), .V 46 (.ld none (.t 45)), .V 47 (.build [.int .i64 0, .str [], .str []] [(0, 1, .c (.int .i64 4)), (1, 1, .t 38), (2, 1, .t 46)]), .V 48 (.bsl 3 (.agg [.int .i64 0, .str [], .str []]) 1 [(0, .t 47)]), .W 49 (.app 3 40 (.t 30) (.t 48)), .W 4 (.asg (.t 49))] [1, 4, 24, 25, 26] [1, 4, 5, 2000, 2001, 2003, 2004, 2006, 2007]))) (.reg false [.V 50 (.bin .add (.t 26) (.c (.int .i64 1))), .V 26 (.mv (.t 50))] [1, 4, 24, 25, 26] [1, 4, 5, 2000, 2001, 2003, 2004, 2006, 2007])))
def impl_TradeProblems_k1 : C :=
 .norm [1, 4, 24, 25, 26] [1, 4, 5, 2000, 2001, 2003, 2004, 2006, 2007] impl_TradeProblems_k0
def impl_TradeProblems_k2 : C :=
 .seq (.reg false [.V 66 (.bin .lss (.t 65) (.t 64))] [4, 9, 11, 63, 64, 65, 66] [4]) (.seq (.cond (.t 66) .skip (.exit 2)) (.seq (.block 3 (.seq (.reg false [.V 67 (.ia 4 (.t 63) (.t 65)), .V 68 (.ld (some 4) (.t 67)), .W 13 (.alloc 4 (.agg [.int .i64 0, .str [], .str [], .int .i64 0])), ⟨none, true, .sto 4 (.t 13) (.t 68), none, false, []⟩] [4, 9, 11, 13, 63, 64, 65] [4, 13]) (.reg false [.V 69 (.mv (.t 11)), .V 70 (.ld (some 4) (.t 13)), .V 71 (.call (.c (.fn 622 [])) [.t 70, .c (.str [99, 97, 115, 104])]), .V 72 (.bin .add (.t 69) (.t 71)), .V 11 (.asg (.t 72))] [4, 9, 11, 63, 64, 65] [4]))) (.reg false [.V 73 (.bin .add (.t 65) (.c (.int .i64 1))), .V 65 (.mv (.t 73))] [4, 9, 11, 63, 64, 65] [4])))
def impl_TradeProblems_k3 : C :=
 .norm [4, 9, 11, 63, 64, 65] [4] impl_TradeProblems_k2
def impl_TradeProblems_k4 : C :=
 .reg false [.V 74 (.mv (.t 4)), .V 75 (.mv (.t 9)), .V 76 (.call (.c (.fn 524 [])) [.t 75]), .V 77 (.mv (.t 11)), .V 78 (.call (.c (.fn 524 [])) [.t 77]), .V 79 (.build [.int .i64 0, .str [], .str []] [(0, 1, .c (.int .i64 5)), (1, 1, .t 76), (2, 1, .t 78)]), .V 80 (.bsl 3 (.agg [.int .i64 0, .str [], .str []]) 1 [(0, .t 79)]), .W 81 (.app 3 40 (.t 74) (.t 80)), .W 4 (.asg (.t 81))] [4] [4]
def impl_TradeProblems_k5 : C :=
 .seq (.reg false [.V 82 (.mv (.t 4)), .W 2 (.asg (.t 82)), .V 3 (.asg (.c (.int .i64 0)))] [2, 3] [2, 4]) .ret
def impl_TradeProblems_k6 : C :=
 .seq (.seq (.reg false [.V 52 (.fa 7 (.t 1)), .V 53 (.ld none (.t 52)), .V 54 (.call (.c (.fn 210 [])) [.t 53, .c (.str [99, 97, 115, 104])]), .V 51 (.mv (.t 54)), .V 55 (.ext (.t 51) 0), .V 56 (.ext (.t 51) 1), .V 9 (.asg (.t 55)), .V 10 (.asg (.t 56))] [1, 4, 9, 10] [1, 4, 2000, 2001, 2003, 2004, 2006, 2007]) (.seq (.reg false [.V 57 (.mv (.t 10)), .V 58 (.bin .eql (.t 57) (.c (.int .i64 0)))] [1, 4, 9, 58] [1, 4, 2000, 2001, 2003, 2004, 2006, 2007]) (.cond (.t 58) (.seq (.reg false [.V 11 (.asg (.c (.int .i64 0)))] [1, 4, 9, 11] [1, 4, 2000, 2001, 2003, 2004, 2006, 2007]) (.seq (.seq (.reg false [.V 59 (.fa 7 (.t 1)), .V 60 (.ld none (.t 59)), .V 61 (.mv (.t 9)), .V 62 (.bin .add (.t 61) (.c (.int .i64 1))), .V 63 (.slc 4 (.t 60) none (some (.t 62))), .V 64 (.len (.t 63)), .V 65 (.mv (.c (.int .i64 0)))] [4, 9, 11, 63, 64, 65] [4]) (.block 2 (.loop impl_TradeProblems_k3))) impl_TradeProblems_k4)) .skip))) impl_TradeProblems_k5
def impl_TradeProblems_ir : Fn := { np := 1, io := [], res := [.t 2, .t 3], own := [true, false], body :=
 (.seq (.reg false [.W 1 (.box 8 (.t 0)), .W 2 (.asg (.c (.nils 3))), .V 3 (.asg (.c (.int .i64 0)))] [1] [1, 2000, 2001, 2003, 2004, 2006, 2007]) (.seq (.seq (.reg false [.V 14 (.ld (some 8) (.t 1)), .V 15 (.call (.c (.fn 201 [])) [.t 14]), .V 16 (.un .not (.t 15))] [1, 16] [1, 2000, 2001, 2003, 2004, 2006, 2007]) (.cond (.t 16) (.seq (.reg false [.W 2 (.asg (.c (.nils 3))), .V 3 (.asg (.c (.int .i64 1)))] [2, 3] [2, 4]) .ret) .skip)) (.seq (.reg false [.V 17 (.bsl 3 (.agg [.int .i64 0, .str [], .str []]) 0 []), .W 4 (.asg (.t 17))] [1, 4] [1, 4, 2000, 2001, 2003, 2004, 2006, 2007]) (.seq (.reg false [.V 19 (.fa 6 (.t 1)), .V 20 (.ld none (.t 19)), .V 21 (.call (.c (.fn 711 [])) [.t 20]), .V 18 (.mv (.t 21)), .V 22 (.ext (.t 18) 0), .V 23 (.ext (.t 18) 1), .W 5 (.asg (.t 22)), .V 6 (.asg (.t 23))] [1, 4, 5] [1, 4, 5, 2000, 2001, 2003, 2004, 2006, 2007]) (.seq (.seq (.reg false [.V 24 (.mv (.t 5)), .V 25 (.len (.t 24)), .V 26 (.mv (.c (.int .i64 0)))] [1, 4, 24, 25, 26] [1, 4, 5, 2000, 2001, 2003, 2004, 2006, 2007]) (.block 0 (.loop impl_TradeProblems_k1))) impl_TradeProblems_k6))))) }
noncomputable def impl_TradeProblems_D : List (Nat × Callee) := [(201, impl_ValidShop_c), (210, impl_FirstBelow_c), (524, impl_Decimal_c), (622, impl_Entry_change_c), (711, impl_ClashesOf_c)]
def impl_TradeProblems_H : List (Nat × ET) := [(2, T_Problem), (4, T_Problem), (5, (.one (.sl (.one (.int .i64))))), (8, (.one (.int .i64))), (17, T_Problem), (20, T_Paper), (22, (.one (.sl (.one (.int .i64))))), (24, (.one (.sl (.one (.int .i64))))), (29, (.one (.int .i64))), (30, T_Problem), (32, T_Paper), (33, (.one (.int .i64))), (40, T_Paper), (41, (.one (.int .i64))), (48, T_Problem), (49, T_Problem), (53, T_Entry), (60, T_Entry), (63, T_Entry), (74, T_Problem), (80, T_Problem), (81, T_Problem), (82, T_Problem)]
noncomputable def impl_TradeProblems_c : Callee := mkCallee impl_TradeProblems_D impl_TradeProblems_H impl_TradeProblems_ir [.d T_Shop] [.tok T_Problem, .d (.one (.int .i64))] []
noncomputable def impl_TradeProblems (a0 : T_Shop.ty) : Option (List T_Problem.ty × Int) := impl_TradeProblems_c.f (a0, ())
noncomputable def impl_TradeProblems_p0  (v24 : List (List Int)) (v25 : Int) (v26 : Int) (r1_0 : List T_Arc.ty) (r1_1 : List T_Neck.ty) (r1_2 : Int) (r1_3 : List T_Step.ty) (r1_4 : List Int) (r1_5 : Int) (r1_6 : List T_Paper.ty) (r1_7 : List T_Entry.ty) (r4 : List T_Problem.ty) : Option (List T_Problem.ty × Int) :=
 goL impl_TradeProblems_D impl_TradeProblems_H (vleave impl_TradeProblems_ir [.d T_Shop] [.tok T_Problem, .d (.one (.int .i64))] [] []) [.c impl_TradeProblems_k0, .l impl_TradeProblems_k1, .e 0, .c impl_TradeProblems_k6]
  ⟨[(1, .loc 1 0 0), (4, .view 4 0 r4.length), (24, .sl (.one (.sl (.one (.int .i64)))) v24), (25, .int .i64 v25), (26, .int .i64 v26)], [(1, some (.var 8 (.agg [.sl T_Arc r1_0, .sl T_Neck r1_1, .int .i64 r1_2, .sl T_Step r1_3, .sl (.one (.int .i64)) r1_4, .int .i64 r1_5, .sl T_Paper r1_6, .sl T_Entry r1_7]))), (4, some (.sl T_Problem r4)), (5, none), (2000, none), (2001, none), (2003, none), (2004, none), (2006, none), (2007, none)]⟩
noncomputable def impl_TradeProblems_p1  (v9 : Int) (v11 : Int) (v63 : List T_Entry.ty) (v64 : Int) (v65 : Int) (r4 : List T_Problem.ty) : Option (List T_Problem.ty × Int) :=
 goL impl_TradeProblems_D impl_TradeProblems_H (vleave impl_TradeProblems_ir [.d T_Shop] [.tok T_Problem, .d (.one (.int .i64))] [] []) [.c impl_TradeProblems_k2, .l impl_TradeProblems_k3, .e 2, .c impl_TradeProblems_k4, .c impl_TradeProblems_k5]
  ⟨[(4, .view 4 0 r4.length), (9, .int .i64 v9), (11, .int .i64 v11), (63, .sl T_Entry v63), (64, .int .i64 v64), (65, .int .i64 v65)], [(4, some (.sl T_Problem r4))]⟩
theorem impl_TradeProblems_eq (a0 : T_Shop.ty) : impl_TradeProblems a0 =
  (impl_ValidShop a0).bind fun x1 =>
   if (!x1) then
    some ([], 1)
   else
    (impl_ClashesOf a0.2.2.2.2.2.2.1).bind fun x2 =>
     impl_TradeProblems_p0 x2.1 (x2.1.length : Int) 0 a0.1 a0.2.1 a0.2.2.1 a0.2.2.2.1 a0.2.2.2.2.1 a0.2.2.2.2.2.1 a0.2.2.2.2.2.2.1 a0.2.2.2.2.2.2.2.1 [] :=
 (mk_f _ _ _ _ _ _ _ 4000).trans (by kernel_rfl)
theorem impl_TradeProblems_p0_eq  (v24 : List (List Int)) (v25 : Int) (v26 : Int) (r1_0 : List T_Arc.ty) (r1_1 : List T_Neck.ty) (r1_2 : Int) (r1_3 : List T_Step.ty) (r1_4 : List Int) (r1_5 : Int) (r1_6 : List T_Paper.ty) (r1_7 : List T_Entry.ty) (r4 : List T_Problem.ty) : impl_TradeProblems_p0 v24 v25 v26 r1_0 r1_1 r1_2 r1_3 r1_4 r1_5 r1_6 r1_7 r4 =
  if decide (v26 < v25) then
   if decide (0 ≤ v26) then
    (v24[v26.toNat]?).bind fun x1 =>
     (x1[0]?).bind fun x2 =>
      if decide (0 ≤ x2) then
       (r1_6[x2.toNat]?).bind fun x3 =>
        (x1[1]?).bind fun x4 =>
         if decide (0 ≤ x4) then
          (r1_6[x4.toNat]?).bind fun x5 =>
           if decide (r4.length + 1 < lim) then
            impl_TradeProblems_p0 v24 v25 (IntKind.i64.wrap (v26 + 1)) r1_0 r1_1 r1_2 r1_3 r1_4 r1_5 r1_6 r1_7 ((r4.take r4.length) ++ [(4, x3.1, x5.1, ())])
           else
            none
         else
          none
      else
       none
   else
    none
  else
   (impl_FirstBelow r1_7 [99, 97, 115, 104]).bind fun x6 =>
    if (x6.2 == 0) then
     if decide (0 ≤ IntKind.i64.wrap (x6.1 + 1)) && decide (IntKind.i64.wrap (x6.1 + 1) ≤ (r1_7.length : Int)) then
      impl_TradeProblems_p1 x6.1 0 (r1_7.take ((IntKind.i64.wrap (x6.1 + 1)).toNat)) ((r1_7.take ((IntKind.i64.wrap (x6.1 + 1)).toNat)).length : Int) 0 r4
     else
      none
    else
     some ((r4.take r4.length), 0) :=
 (goL_dn _ _ _ 4000 _ _).trans (by kernel_rfl)
theorem impl_TradeProblems_p1_eq  (v9 : Int) (v11 : Int) (v63 : List T_Entry.ty) (v64 : Int) (v65 : Int) (r4 : List T_Problem.ty) : impl_TradeProblems_p1 v9 v11 v63 v64 v65 r4 =
  if decide (v65 < v64) then
   if decide (0 ≤ v65) then
    (v63[v65.toNat]?).bind fun x1 =>
     (impl_Entry_change x1 [99, 97, 115, 104]).bind fun x2 =>
      impl_TradeProblems_p1 v9 (IntKind.i64.wrap (v11 + x2)) v63 v64 (IntKind.i64.wrap (v65 + 1)) r4
   else
    none
  else
   (impl_Decimal v9).bind fun x3 =>
    (impl_Decimal v11).bind fun x4 =>
     if decide (r4.length + 1 < lim) then
      some ((((r4.take r4.length) ++ [(5, x3, x4, ())]).take (((r4.take r4.length) ++ [(5, x3, x4, ())]).length)), 0)
     else
      none :=
 (goL_dn _ _ _ 4000 _ _).trans (by kernel_rfl)

/- impl.AuditShop -/
def impl_AuditShop_k0 : C :=
 .seq (.reg false [.V 12 (.bin .lss (.t 11) (.c (.int .i64 3)))] [1, 4, 10, 11, 12] [1, 4, 2000, 2001, 2003, 2004, 2006, 2007]) (.seq (.cond (.t 12) .skip (.exit 0)) (.seq (.block 1 (.seq (.reg false [.V 13 (.ixa 3 1 none (.t 10) (.t 11)), .V 6 (.asg (.t 13))] [1, 4, 6, 10, 11] [1, 4, 2000, 2001, 2003, 2004, 2006, 2007]) (.seq (.reg false [.V 15 (.mv (.t 6)), .V 16 (.ld (some 8) (.t 1)), .V 17 (.call (.t 15) [.t 16]), .V 14 (.mv (.t 17)), .V 18 (.ext (.t 14) 0), .V 19 (.ext (.t 14) 1), .W 7 (.asg (.t 18)), .V 8 (.asg (.t 19))] [1, 4, 7, 8, 10, 11] [1, 4, 7, 2000, 2001, 2003, 2004, 2006, 2007]) (.seq (.seq (.reg false [.V 20 (.mv (.t 8)), .V 21 (.bin .neq (.t 20) (.c (.int .i64 0)))] [1, 4, 7, 8, 10, 11, 21] [1, 4, 7, 2000, 2001, 2003, 2004, 2006, 2007]) (.cond (.t 21) (.seq (.reg false [.V 22 (.mv (.t 8)), .W 2 (.asg (.c (.nils 3))), .V 3 (.asg (.t 22))] [2, 3] [2, 4]) .ret) .skip)) (.reg false [.V 23 (.mv (.t 4)), .V 24 (.mv (.t 7)), .W 25 (.app 3 40 (.t 23) (.t 24)), .W 4 (.asg (.t 25))] [1, 4, 10, 11] [1, 4, 2000, 2001, 2003, 2004, 2006, 2007]))))) (.reg false [.V 26 (.bin .add (.t 11) (.c (.int .i64 1))), .V 11 (.mv (.t 26))] [1, 4, 10, 11] [1, 4, 2000, 2001, 2003, 2004, 2006, 2007])))
def impl_AuditShop_k1 : C :=
 .norm [1, 4, 10, 11] [1, 4, 2000, 2001, 2003, 2004, 2006, 2007] impl_AuditShop_k0
def impl_AuditShop_k2 : C :=
 .seq (.reg false [.V 27 (.mv (.t 4)), .W 2 (.asg (.t 27)), .V 3 (.asg (.c (.int .i64 0)))] [2, 3] [2, 4]) .ret
def impl_AuditShop_ir : Fn := { np := 1, io := [], res := [.t 2, .t 3], own := [true, false], body :=
 (.seq (.reg false [.W 1 (.box 8 (.t 0)), .W 2 (.asg (.c (.nils 3))), .V 3 (.asg (.c (.int .i64 0)))] [1] [1, 2000, 2001, 2003, 2004, 2006, 2007]) (.seq (.reg false [.V 9 (.bsl 3 (.agg [.int .i64 0, .str [], .str []]) 0 []), .W 4 (.asg (.t 9))] [1, 4] [1, 4, 2000, 2001, 2003, 2004, 2006, 2007]) (.seq (.seq (.reg false [.V 10 (.build [.cst .nilFunc, .cst .nilFunc, .cst .nilFunc] [(0, 1, .c (.fn 283 [])), (1, 1, .c (.fn 285 [])), (2, 1, .c (.fn 282 []))]), .V 11 (.mv (.c (.int .i64 0)))] [1, 4, 10, 11] [1, 4, 2000, 2001, 2003, 2004, 2006, 2007]) (.block 0 (.loop impl_AuditShop_k1))) impl_AuditShop_k2))) }
noncomputable def impl_AuditShop_D : List (Nat × Callee) := [(282, impl_TradeProblems_c), (283, impl_BodyProblems_c), (285, impl_WorkProblems_c)]
def impl_AuditShop_H : List (Nat × ET) := [(2, T_Problem), (4, T_Problem), (7, T_Problem), (9, T_Problem), (18, T_Problem), (23, T_Problem), (24, T_Problem), (25, T_Problem), (27, T_Problem)]
noncomputable def impl_AuditShop_c : Callee := mkCallee impl_AuditShop_D impl_AuditShop_H impl_AuditShop_ir [.d T_Shop] [.tok T_Problem, .d (.one (.int .i64))] []
noncomputable def impl_AuditShop (a0 : T_Shop.ty) : Option (List T_Problem.ty × Int) := impl_AuditShop_c.f (a0, ())
noncomputable def impl_AuditShop_p0  (v11 : Int) (r1_0 : List T_Arc.ty) (r1_1 : List T_Neck.ty) (r1_2 : Int) (r1_3 : List T_Step.ty) (r1_4 : List Int) (r1_5 : Int) (r1_6 : List T_Paper.ty) (r1_7 : List T_Entry.ty) (r4 : List T_Problem.ty) : Option (List T_Problem.ty × Int) :=
 goL impl_AuditShop_D impl_AuditShop_H (vleave impl_AuditShop_ir [.d T_Shop] [.tok T_Problem, .d (.one (.int .i64))] [] []) [.c impl_AuditShop_k0, .l impl_AuditShop_k1, .e 0, .c impl_AuditShop_k2]
  ⟨[(1, .loc 1 0 0), (4, .view 4 0 r4.length), (10, .agg [.fn 283 [], .fn 285 [], .fn 282 []]), (11, .int .i64 v11)], [(1, some (.var 8 (.agg [.sl T_Arc r1_0, .sl T_Neck r1_1, .int .i64 r1_2, .sl T_Step r1_3, .sl (.one (.int .i64)) r1_4, .int .i64 r1_5, .sl T_Paper r1_6, .sl T_Entry r1_7]))), (4, some (.sl T_Problem r4)), (2000, none), (2001, none), (2003, none), (2004, none), (2006, none), (2007, none)]⟩
theorem impl_AuditShop_eq (a0 : T_Shop.ty) : impl_AuditShop a0 =
  impl_AuditShop_p0 0 a0.1 a0.2.1 a0.2.2.1 a0.2.2.2.1 a0.2.2.2.2.1 a0.2.2.2.2.2.1 a0.2.2.2.2.2.2.1 a0.2.2.2.2.2.2.2.1 [] :=
 (mk_f _ _ _ _ _ _ _ 4000).trans (by kernel_rfl)
theorem impl_AuditShop_p0_eq  (v11 : Int) (r1_0 : List T_Arc.ty) (r1_1 : List T_Neck.ty) (r1_2 : Int) (r1_3 : List T_Step.ty) (r1_4 : List Int) (r1_5 : Int) (r1_6 : List T_Paper.ty) (r1_7 : List T_Entry.ty) (r4 : List T_Problem.ty) : impl_AuditShop_p0 v11 r1_0 r1_1 r1_2 r1_3 r1_4 r1_5 r1_6 r1_7 r4 =
  if decide (v11 < 3) then
   if decide (v11 = 0) then
    (impl_BodyProblems (r1_0, r1_1, r1_2, r1_3, r1_4, r1_5, r1_6, r1_7, ())).bind fun x1 =>
     if (x1.2 != 0) then
      some ([], x1.2)
     else
      if decide (r4.length + (x1.1.take x1.1.length).length < lim) then
       impl_AuditShop_p0 (IntKind.i64.wrap (v11 + 1)) r1_0 r1_1 r1_2 r1_3 r1_4 r1_5 r1_6 r1_7 ((r4.take r4.length) ++ (x1.1.take x1.1.length))
      else
       none
   else
    if decide (v11 = 1) then
     (impl_WorkProblems (r1_0, r1_1, r1_2, r1_3, r1_4, r1_5, r1_6, r1_7, ())).bind fun x2 =>
      if (x2.2 != 0) then
       some ([], x2.2)
      else
       if decide (r4.length + (x2.1.take x2.1.length).length < lim) then
        impl_AuditShop_p0 (IntKind.i64.wrap (v11 + 1)) r1_0 r1_1 r1_2 r1_3 r1_4 r1_5 r1_6 r1_7 ((r4.take r4.length) ++ (x2.1.take x2.1.length))
       else
        none
    else
     if decide (v11 = 2) then
      (impl_TradeProblems (r1_0, r1_1, r1_2, r1_3, r1_4, r1_5, r1_6, r1_7, ())).bind fun x3 =>
       if (x3.2 != 0) then
        some ([], x3.2)
       else
        if decide (r4.length + (x3.1.take x3.1.length).length < lim) then
         impl_AuditShop_p0 (IntKind.i64.wrap (v11 + 1)) r1_0 r1_1 r1_2 r1_3 r1_4 r1_5 r1_6 r1_7 ((r4.take r4.length) ++ (x3.1.take x3.1.length))
        else
         none
     else
      none
  else
   some ((r4.take r4.length), 0) :=
 (goL_dn _ _ _ 4000 _ _).trans (by kernel_rfl)

/- impl.PassesAudit -/
def impl_PassesAudit_ir : Fn := { np := 1, io := [], res := [.t 2], own := [false], body :=
 (.seq (.reg false [.W 1 (.box 8 (.t 0)), .V 2 (.asg (.c (.bool false)))] [1] [1, 2000, 2001, 2003, 2004, 2006, 2007]) (.seq (.reg false [.V 6 (.ld (some 8) (.t 1)), .V 7 (.call (.c (.fn 286 [])) [.t 6]), .V 5 (.mv (.t 7)), .V 8 (.ext (.t 5) 0), .V 9 (.ext (.t 5) 1), .W 3 (.asg (.t 8)), .V 4 (.asg (.t 9))] [3, 4] [3]) (.seq (.reg false [.V 10 (.mv (.t 4)), .V 11 (.bin .eql (.t 10) (.c (.int .i64 0))), .V 12 (.mv (.t 11)), .G 13 (.mv (.t 3)) 2 true, .G 14 (.len (.t 13)) 2 true, .G 15 (.bin .eql (.t 14) (.c (.int .i64 0))) 2 true, .V 16 (.pick (.t 12) (.t 15) (.c (.bool false))), .V 2 (.asg (.t 16))] [2] []) .ret))) }
noncomputable def impl_PassesAudit_D : List (Nat × Callee) := [(286, impl_AuditShop_c)]
def impl_PassesAudit_H : List (Nat × ET) := [(3, T_Problem), (8, T_Problem), (13, T_Problem)]
noncomputable def impl_PassesAudit_c : Callee := mkCallee impl_PassesAudit_D impl_PassesAudit_H impl_PassesAudit_ir [.d T_Shop] [.d (.one .bool)] []
noncomputable def impl_PassesAudit (a0 : T_Shop.ty) : Option (Bool) := impl_PassesAudit_c.f (a0, ())
theorem impl_PassesAudit_eq (a0 : T_Shop.ty) : impl_PassesAudit a0 =
  (impl_AuditShop a0).bind fun x1 =>
   if (x1.2 == 0) then
    some ((x1.1.length : Int) == 0)
   else
    some false :=
 (mk_f _ _ _ _ _ _ _ 4000).trans (by kernel_rfl)

/- laws.eqPoint -/
def laws_eqPoint_ir : Fn := { np := 2, io := [], res := [.t 4], own := [false], body :=
 (.seq (.reg false [.W 2 (.box 2 (.t 0)), .W 3 (.box 2 (.t 1)), .V 4 (.asg (.c (.bool false)))] [2, 3] [2, 3]) (.seq (.seq (.reg false [.V 5 (.fa 0 (.t 2)), .V 6 (.ld none (.t 5)), .V 7 (.fa 0 (.t 3)), .V 8 (.ld none (.t 7)), .V 9 (.bin .neq (.t 6) (.t 8))] [2, 3, 9] [2, 3]) (.cond (.t 9) (.seq (.reg false [.V 4 (.asg (.c (.bool false)))] [4] []) .ret) .skip)) (.seq (.seq (.reg false [.V 10 (.fa 1 (.t 2)), .V 11 (.ld none (.t 10)), .V 12 (.fa 1 (.t 3)), .V 13 (.ld none (.t 12)), .V 14 (.bin .neq (.t 11) (.t 13))] [14] []) (.cond (.t 14) (.seq (.reg false [.V 4 (.asg (.c (.bool false)))] [4] []) .ret) .skip)) (.seq (.reg false [.V 4 (.asg (.c (.bool true)))] [4] []) .ret)))) }
noncomputable def laws_eqPoint_D : List (Nat × Callee) := []
def laws_eqPoint_H : List (Nat × ET) := []
noncomputable def laws_eqPoint_c : Callee := mkCallee laws_eqPoint_D laws_eqPoint_H laws_eqPoint_ir [.d T_Point, .d T_Point] [.d (.one .bool)] []
noncomputable def laws_eqPoint (a0 : T_Point.ty) (a1 : T_Point.ty) : Option (Bool) := laws_eqPoint_c.f (a0, a1, ())
theorem laws_eqPoint_eq (a0 : T_Point.ty) (a1 : T_Point.ty) : laws_eqPoint a0 a1 =
  if (a0.1 != a1.1) then
   some false
  else
   if (a0.2.1 != a1.2.1) then
    some false
   else
    some true :=
 (mk_f _ _ _ _ _ _ _ 4000).trans (by kernel_rfl)

/- laws.eqArc -/
def laws_eqArc_ir : Fn := { np := 2, io := [], res := [.t 4], own := [false], body :=
 (.seq (.reg false [.W 2 (.box 6 (.t 0)), .W 3 (.box 6 (.t 1)), .V 4 (.asg (.c (.bool false)))] [2, 3] [2, 3]) (.seq (.seq (.reg false [.V 5 (.fa 0 (.t 2)), .V 6 (.ld (some 2) (.t 5)), .V 7 (.fa 0 (.t 3)), .V 8 (.ld (some 2) (.t 7)), .V 9 (.call (.c (.fn 1034 [])) [.t 6, .t 8]), .V 10 (.un .not (.t 9))] [2, 3, 10] [2, 3]) (.cond (.t 10) (.seq (.reg false [.V 4 (.asg (.c (.bool false)))] [4] []) .ret) .skip)) (.seq (.seq (.reg false [.V 11 (.fa 2 (.t 2)), .V 12 (.ld (some 2) (.t 11)), .V 13 (.fa 2 (.t 3)), .V 14 (.ld (some 2) (.t 13)), .V 15 (.call (.c (.fn 1034 [])) [.t 12, .t 14]), .V 16 (.un .not (.t 15))] [2, 3, 16] [2, 3]) (.cond (.t 16) (.seq (.reg false [.V 4 (.asg (.c (.bool false)))] [4] []) .ret) .skip)) (.seq (.seq (.reg false [.V 17 (.fa 4 (.t 2)), .V 18 (.ld (some 2) (.t 17)), .V 19 (.fa 4 (.t 3)), .V 20 (.ld (some 2) (.t 19)), .V 21 (.call (.c (.fn 1034 [])) [.t 18, .t 20]), .V 22 (.un .not (.t 21))] [22] []) (.cond (.t 22) (.seq (.reg false [.V 4 (.asg (.c (.bool false)))] [4] []) .ret) .skip)) (.seq (.reg false [.V 4 (.asg (.c (.bool true)))] [4] []) .ret))))) }
noncomputable def laws_eqArc_D : List (Nat × Callee) := [(1034, laws_eqPoint_c)]
def laws_eqArc_H : List (Nat × ET) := []
noncomputable def laws_eqArc_c : Callee := mkCallee laws_eqArc_D laws_eqArc_H laws_eqArc_ir [.d T_Arc, .d T_Arc] [.d (.one .bool)] []
noncomputable def laws_eqArc (a0 : T_Arc.ty) (a1 : T_Arc.ty) : Option (Bool) := laws_eqArc_c.f (a0, a1, ())
theorem laws_eqArc_eq (a0 : T_Arc.ty) (a1 : T_Arc.ty) : laws_eqArc a0 a1 =
  (laws_eqPoint (a0.1, a0.2.1, ()) (a1.1, a1.2.1, ())).bind fun x1 =>
   if (!x1) then
    some false
   else
    (laws_eqPoint (a0.2.2.1, a0.2.2.2.1, ()) (a1.2.2.1, a1.2.2.2.1, ())).bind fun x2 =>
     if (!x2) then
      some false
     else
      (laws_eqPoint (a0.2.2.2.2.1, a0.2.2.2.2.2.1, ()) (a1.2.2.2.2.1, a1.2.2.2.2.2.1, ())).bind fun x3 =>
       if (!x3) then
        some false
       else
        some true :=
 (mk_f _ _ _ _ _ _ _ 4000).trans (by kernel_rfl)

/- laws.eqArcS -/
def laws_eqArcS_k0 : C :=
 .seq (.seq (.reg false [.V 11 (.mv (.t 5)), .V 12 (.mv (.t 0)), .V 13 (.len (.t 12)), .V 14 (.bin .lss (.t 11) (.t 13))] [0, 1, 5, 14] []) (.cond (.t 14) .skip (.exit 0))) (.seq (.block 1 (.seq (.reg true [.V 17 (.mv (.t 0)), .V 18 (.mv (.t 5)), .V 19 (.ia 6 (.t 17) (.t 18)), .V 20 (.ld (some 6) (.t 19)), .V 21 (.mv (.t 1)), .V 22 (.mv (.t 5)), .V 23 (.ia 6 (.t 21) (.t 22)), .V 24 (.ld (some 6) (.t 23)), .V 25 (.call (.c (.fn 901 [])) [.t 20, .t 24]), .V 26 (.un .not (.t 25))] [0, 1, 5, 26] []) (.cond (.t 26) (.seq (.reg false [.V 4 (.asg (.c (.bool false)))] [4] []) .ret) .skip))) (.reg false [.V 15 (.mv (.t 5)), .V 16 (.bin .add (.t 15) (.c (.int .i64 1))), .V 5 (.asg (.t 16))] [0, 1, 5] []))
def laws_eqArcS_k1 : C :=
 .norm [0, 1, 5] [] laws_eqArcS_k0
def laws_eqArcS_k2 : C :=
 .seq (.reg false [.V 4 (.asg (.c (.bool true)))] [4] []) .ret
def laws_eqArcS_ir : Fn := { np := 2, io := [], res := [.t 4], own := [false], body :=
 (.seq (.reg false [.V 4 (.asg (.c (.bool false)))] [0, 1] []) (.seq (.seq (.reg false [.V 6 (.mv (.t 0)), .V 7 (.len (.t 6)), .V 8 (.mv (.t 1)), .V 9 (.len (.t 8)), .V 10 (.bin .neq (.t 7) (.t 9))] [0, 1, 10] []) (.cond (.t 10) (.seq (.reg false [.V 4 (.asg (.c (.bool false)))] [4] []) .ret) .skip)) (.seq (.seq (.reg false [.V 5 (.asg (.c (.int .i64 0)))] [0, 1, 5] []) (.block 0 (.loop laws_eqArcS_k1))) laws_eqArcS_k2))) }
noncomputable def laws_eqArcS_D : List (Nat × Callee) := [(901, laws_eqArc_c)]
def laws_eqArcS_H : List (Nat × ET) := [(6, T_Arc), (8, T_Arc), (12, T_Arc), (17, T_Arc), (21, T_Arc)]
noncomputable def laws_eqArcS_c : Callee := mkCallee laws_eqArcS_D laws_eqArcS_H laws_eqArcS_ir [.d (.one (.sl T_Arc)), .d (.one (.sl T_Arc))] [.d (.one .bool)] []
noncomputable def laws_eqArcS (a0 : List T_Arc.ty) (a1 : List T_Arc.ty) : Option (Bool) := laws_eqArcS_c.f (a0, a1, ())
noncomputable def laws_eqArcS_p0  (v0 : List T_Arc.ty) (v1 : List T_Arc.ty) (v5 : Int) : Option (Bool) :=
 goL laws_eqArcS_D laws_eqArcS_H (vleave laws_eqArcS_ir [.d (.one (.sl T_Arc)), .d (.one (.sl T_Arc))] [.d (.one .bool)] [] []) [.c laws_eqArcS_k0, .l laws_eqArcS_k1, .e 0, .c laws_eqArcS_k2]
  ⟨[(0, .sl T_Arc v0), (1, .sl T_Arc v1), (5, .int .i64 v5)], []⟩
theorem laws_eqArcS_eq (a0 : List T_Arc.ty) (a1 : List T_Arc.ty) : laws_eqArcS a0 a1 =
  if ((a0.length : Int) != (a1.length : Int)) then
   some false
  else
   laws_eqArcS_p0 a0 a1 0 :=
 (mk_f _ _ _ _ _ _ _ 4000).trans (by kernel_rfl)
theorem laws_eqArcS_p0_eq  (v0 : List T_Arc.ty) (v1 : List T_Arc.ty) (v5 : Int) : laws_eqArcS_p0 v0 v1 v5 =
  if decide (v5 < (v0.length : Int)) then
   if decide (0 ≤ v5) then
    (v0[v5.toNat]?).bind fun x1 =>
     if decide (0 ≤ v5) then
      (v1[v5.toNat]?).bind fun x2 =>
       (laws_eqArc x1 x2).bind fun x3 =>
        if (!x3) then
         some false
        else
         laws_eqArcS_p0 v0 v1 (IntKind.i64.wrap (v5 + 1))
     else
      none
   else
    none
  else
   some true :=
 (goL_dn _ _ _ 4000 _ _).trans (by kernel_rfl)

/- laws.eqCord -/
def laws_eqCord_ir : Fn := { np := 2, io := [], res := [.t 4], own := [false], body :=
 (.seq (.reg false [.W 2 (.box 4 (.t 0)), .W 3 (.box 4 (.t 1)), .V 4 (.asg (.c (.bool false)))] [2, 3] [2, 3]) (.seq (.seq (.reg false [.V 5 (.fa 0 (.t 2)), .V 6 (.ld none (.t 5)), .V 7 (.fa 0 (.t 3)), .V 8 (.ld none (.t 7)), .V 9 (.bin .neq (.t 6) (.t 8))] [2, 3, 9] [2, 3]) (.cond (.t 9) (.seq (.reg false [.V 4 (.asg (.c (.bool false)))] [4] []) .ret) .skip)) (.seq (.seq (.reg false [.V 10 (.fa 1 (.t 2)), .V 11 (.ld none (.t 10)), .V 12 (.fa 1 (.t 3)), .V 13 (.ld none (.t 12)), .V 14 (.bin .neq (.t 11) (.t 13))] [2, 3, 14] [2, 3]) (.cond (.t 14) (.seq (.reg false [.V 4 (.asg (.c (.bool false)))] [4] []) .ret) .skip)) (.seq (.seq (.reg false [.V 15 (.fa 2 (.t 2)), .V 16 (.ld none (.t 15)), .V 17 (.fa 2 (.t 3)), .V 18 (.ld none (.t 17)), .V 19 (.bin .neq (.t 16) (.t 18))] [2, 3, 19] [2, 3]) (.cond (.t 19) (.seq (.reg false [.V 4 (.asg (.c (.bool false)))] [4] []) .ret) .skip)) (.seq (.seq (.reg false [.V 20 (.fa 3 (.t 2)), .V 21 (.ld none (.t 20)), .V 22 (.fa 3 (.t 3)), .V 23 (.ld none (.t 22)), .V 24 (.bin .neq (.t 21) (.t 23))] [24] []) (.cond (.t 24) (.seq (.reg false [.V 4 (.asg (.c (.bool false)))] [4] []) .ret) .skip)) (.seq (.reg false [.V 4 (.asg (.c (.bool true)))] [4] []) .ret)))))) }
noncomputable def laws_eqCord_D : List (Nat × Callee) := []
def laws_eqCord_H : List (Nat × ET) := []
noncomputable def laws_eqCord_c : Callee := mkCallee laws_eqCord_D laws_eqCord_H laws_eqCord_ir [.d T_Neck, .d T_Neck] [.d (.one .bool)] []
noncomputable def laws_eqCord (a0 : T_Neck.ty) (a1 : T_Neck.ty) : Option (Bool) := laws_eqCord_c.f (a0, a1, ())
theorem laws_eqCord_eq (a0 : T_Neck.ty) (a1 : T_Neck.ty) : laws_eqCord a0 a1 =
  if (a0.1 != a1.1) then
   some false
  else
   if (a0.2.1 != a1.2.1) then
    some false
   else
    if (a0.2.2.1 != a1.2.2.1) then
     some false
    else
     if (a0.2.2.2.1 != a1.2.2.2.1) then
      some false
     else
      some true :=
 (mk_f _ _ _ _ _ _ _ 4000).trans (by kernel_rfl)

/- laws.eqCordS -/
def laws_eqCordS_k0 : C :=
 .seq (.seq (.reg false [.V 11 (.mv (.t 5)), .V 12 (.mv (.t 0)), .V 13 (.len (.t 12)), .V 14 (.bin .lss (.t 11) (.t 13))] [0, 1, 5, 14] []) (.cond (.t 14) .skip (.exit 0))) (.seq (.block 1 (.seq (.reg true [.V 17 (.mv (.t 0)), .V 18 (.mv (.t 5)), .V 19 (.ia 4 (.t 17) (.t 18)), .V 20 (.ld (some 4) (.t 19)), .V 21 (.mv (.t 1)), .V 22 (.mv (.t 5)), .V 23 (.ia 4 (.t 21) (.t 22)), .V 24 (.ld (some 4) (.t 23)), .V 25 (.call (.c (.fn 902 [])) [.t 20, .t 24]), .V 26 (.un .not (.t 25))] [0, 1, 5, 26] []) (.cond (.t 26) (.seq (.reg false [.V 4 (.asg (.c (.bool false)))] [4] []) .ret) .skip))) (.reg false [.V 15 (.mv (.t 5)), .V 16 (.bin .add (.t 15) (.c (.int .i64 1))), .V 5 (.asg (.t 16))] [0, 1, 5] []))
def laws_eqCordS_k1 : C :=
 .norm [0, 1, 5] [] laws_eqCordS_k0
def laws_eqCordS_k2 : C :=
 .seq (.reg false [.V 4 (.asg (.c (.bool true)))] [4] []) .ret
def laws_eqCordS_ir : Fn := { np := 2, io := [], res := [.t 4], own := [false], body :=
 (.seq (.reg false [.V 4 (.asg (.c (.bool false)))] [0, 1] []) (.seq (.seq (.reg false [.V 6 (.mv (.t 0)), .V 7 (.len (.t 6)), .V 8 (.mv (.t 1)), .V 9 (.len (.t 8)), .V 10 (.bin .neq (.t 7) (.t 9))] [0, 1, 10] []) (.cond (.t 10) (.seq (.reg false [.V 4 (.asg (.c (.bool false)))] [4] []) .ret) .skip)) (.seq (.seq (.reg false [.V 5 (.asg (.c (.int .i64 0)))] [0, 1, 5] []) (.block 0 (.loop laws_eqCordS_k1))) laws_eqCordS_k2))) }
noncomputable def laws_eqCordS_D : List (Nat × Callee) := [(902, laws_eqCord_c)]
def laws_eqCordS_H : List (Nat × ET) := [(6, T_Neck), (8, T_Neck), (12, T_Neck), (17, T_Neck), (21, T_Neck)]
noncomputable def laws_eqCordS_c : Callee := mkCallee laws_eqCordS_D laws_eqCordS_H laws_eqCordS_ir [.d (.one (.sl T_Neck)), .d (.one (.sl T_Neck))] [.d (.one .bool)] []
noncomputable def laws_eqCordS (a0 : List T_Neck.ty) (a1 : List T_Neck.ty) : Option (Bool) := laws_eqCordS_c.f (a0, a1, ())
noncomputable def laws_eqCordS_p0  (v0 : List T_Neck.ty) (v1 : List T_Neck.ty) (v5 : Int) : Option (Bool) :=
 goL laws_eqCordS_D laws_eqCordS_H (vleave laws_eqCordS_ir [.d (.one (.sl T_Neck)), .d (.one (.sl T_Neck))] [.d (.one .bool)] [] []) [.c laws_eqCordS_k0, .l laws_eqCordS_k1, .e 0, .c laws_eqCordS_k2]
  ⟨[(0, .sl T_Neck v0), (1, .sl T_Neck v1), (5, .int .i64 v5)], []⟩
theorem laws_eqCordS_eq (a0 : List T_Neck.ty) (a1 : List T_Neck.ty) : laws_eqCordS a0 a1 =
  if ((a0.length : Int) != (a1.length : Int)) then
   some false
  else
   laws_eqCordS_p0 a0 a1 0 :=
 (mk_f _ _ _ _ _ _ _ 4000).trans (by kernel_rfl)
theorem laws_eqCordS_p0_eq  (v0 : List T_Neck.ty) (v1 : List T_Neck.ty) (v5 : Int) : laws_eqCordS_p0 v0 v1 v5 =
  if decide (v5 < (v0.length : Int)) then
   if decide (0 ≤ v5) then
    (v0[v5.toNat]?).bind fun x1 =>
     if decide (0 ≤ v5) then
      (v1[v5.toNat]?).bind fun x2 =>
       (laws_eqCord x1 x2).bind fun x3 =>
        if (!x3) then
         some false
        else
         laws_eqCordS_p0 v0 v1 (IntKind.i64.wrap (v5 + 1))
     else
      none
   else
    none
  else
   some true :=
 (goL_dn _ _ _ 4000 _ _).trans (by kernel_rfl)

/- laws.eqInt64S -/
def laws_eqInt64S_k0 : C :=
 .seq (.seq (.reg false [.V 11 (.mv (.t 5)), .V 12 (.mv (.t 0)), .V 13 (.len (.t 12)), .V 14 (.bin .lss (.t 11) (.t 13))] [0, 1, 5, 14] []) (.cond (.t 14) .skip (.exit 0))) (.seq (.block 1 (.seq (.reg true [.V 17 (.mv (.t 0)), .V 18 (.mv (.t 5)), .V 19 (.ia 1 (.t 17) (.t 18)), .V 20 (.ld none (.t 19)), .V 21 (.mv (.t 1)), .V 22 (.mv (.t 5)), .V 23 (.ia 1 (.t 21) (.t 22)), .V 24 (.ld none (.t 23)), .V 25 (.bin .neq (.t 20) (.t 24))] [0, 1, 5, 25] []) (.cond (.t 25) (.seq (.reg false [.V 4 (.asg (.c (.bool false)))] [4] []) .ret) .skip))) (.reg false [.V 15 (.mv (.t 5)), .V 16 (.bin .add (.t 15) (.c (.int .i64 1))), .V 5 (.asg (.t 16))] [0, 1, 5] []))
def laws_eqInt64S_k1 : C :=
 .norm [0, 1, 5] [] laws_eqInt64S_k0
def laws_eqInt64S_k2 : C :=
 .seq (.reg false [.V 4 (.asg (.c (.bool true)))] [4] []) .ret
def laws_eqInt64S_ir : Fn := { np := 2, io := [], res := [.t 4], own := [false], body :=
 (.seq (.reg false [.V 4 (.asg (.c (.bool false)))] [0, 1] []) (.seq (.seq (.reg false [.V 6 (.mv (.t 0)), .V 7 (.len (.t 6)), .V 8 (.mv (.t 1)), .V 9 (.len (.t 8)), .V 10 (.bin .neq (.t 7) (.t 9))] [0, 1, 10] []) (.cond (.t 10) (.seq (.reg false [.V 4 (.asg (.c (.bool false)))] [4] []) .ret) .skip)) (.seq (.seq (.reg false [.V 5 (.asg (.c (.int .i64 0)))] [0, 1, 5] []) (.block 0 (.loop laws_eqInt64S_k1))) laws_eqInt64S_k2))) }
noncomputable def laws_eqInt64S_D : List (Nat × Callee) := []
def laws_eqInt64S_H : List (Nat × ET) := [(6, (.one (.int .i64))), (8, (.one (.int .i64))), (12, (.one (.int .i64))), (17, (.one (.int .i64))), (21, (.one (.int .i64)))]
noncomputable def laws_eqInt64S_c : Callee := mkCallee laws_eqInt64S_D laws_eqInt64S_H laws_eqInt64S_ir [.d (.one (.sl (.one (.int .i64)))), .d (.one (.sl (.one (.int .i64))))] [.d (.one .bool)] []
noncomputable def laws_eqInt64S (a0 : List Int) (a1 : List Int) : Option (Bool) := laws_eqInt64S_c.f (a0, a1, ())
noncomputable def laws_eqInt64S_p0  (v0 : List Int) (v1 : List Int) (v5 : Int) : Option (Bool) :=
 goL laws_eqInt64S_D laws_eqInt64S_H (vleave laws_eqInt64S_ir [.d (.one (.sl (.one (.int .i64)))), .d (.one (.sl (.one (.int .i64))))] [.d (.one .bool)] [] []) [.c laws_eqInt64S_k0, .l laws_eqInt64S_k1, .e 0, .c laws_eqInt64S_k2]
  ⟨[(0, .sl (.one (.int .i64)) v0), (1, .sl (.one (.int .i64)) v1), (5, .int .i64 v5)], []⟩
theorem laws_eqInt64S_eq (a0 : List Int) (a1 : List Int) : laws_eqInt64S a0 a1 =
  if ((a0.length : Int) != (a1.length : Int)) then
   some false
  else
   laws_eqInt64S_p0 a0 a1 0 :=
 (mk_f _ _ _ _ _ _ _ 4000).trans (by kernel_rfl)
theorem laws_eqInt64S_p0_eq  (v0 : List Int) (v1 : List Int) (v5 : Int) : laws_eqInt64S_p0 v0 v1 v5 =
  if decide (v5 < (v0.length : Int)) then
   if decide (0 ≤ v5) then
    (v0[v5.toNat]?).bind fun x1 =>
     if decide (0 ≤ v5) then
      (v1[v5.toNat]?).bind fun x2 =>
       if (x1 != x2) then
        some false
       else
        laws_eqInt64S_p0 v0 v1 (IntKind.i64.wrap (v5 + 1))
     else
      none
   else
    none
  else
   some true :=
 (goL_dn _ _ _ 4000 _ _).trans (by kernel_rfl)

/- laws.eqStep -/
def laws_eqStep_ir : Fn := { np := 2, io := [], res := [.t 4], own := [false], body :=
 (.seq (.reg false [.W 2 (.box 4 (.t 0)), .W 3 (.box 4 (.t 1)), .V 4 (.asg (.c (.bool false)))] [2, 3] [2, 3, 3003, 4003]) (.seq (.seq (.reg false [.V 5 (.fa 0 (.t 2)), .V 6 (.ld none (.t 5)), .V 7 (.fa 0 (.t 3)), .V 8 (.ld none (.t 7)), .V 9 (.bin .neq (.t 6) (.t 8))] [2, 3, 9] [2, 3, 3003, 4003]) (.cond (.t 9) (.seq (.reg false [.V 4 (.asg (.c (.bool false)))] [4] []) .ret) .skip)) (.seq (.seq (.reg false [.V 10 (.fa 1 (.t 2)), .V 11 (.ld none (.t 10)), .V 12 (.fa 1 (.t 3)), .V 13 (.ld none (.t 12)), .V 14 (.bin .neq (.t 11) (.t 13))] [2, 3, 14] [2, 3, 3003, 4003]) (.cond (.t 14) (.seq (.reg false [.V 4 (.asg (.c (.bool false)))] [4] []) .ret) .skip)) (.seq (.seq (.reg false [.V 15 (.fa 2 (.t 2)), .V 16 (.ld none (.t 15)), .V 17 (.fa 2 (.t 3)), .V 18 (.ld none (.t 17)), .V 19 (.bin .neq (.t 16) (.t 18))] [2, 3, 19] [2, 3, 3003, 4003]) (.cond (.t 19) (.seq (.reg false [.V 4 (.asg (.c (.bool false)))] [4] []) .ret) .skip)) (.seq (.seq (.reg false [.V 20 (.fa 3 (.t 2)), .V 21 (.ld none (.t 20)), .V 22 (.fa 3 (.t 3)), .V 23 (.ld none (.t 22)), .V 24 (.call (.c (.fn 42 [])) [.t 21, .t 23]), .V 25 (.un .not (.t 24))] [25] []) (.cond (.t 25) (.seq (.reg false [.V 4 (.asg (.c (.bool false)))] [4] []) .ret) .skip)) (.seq (.reg false [.V 4 (.asg (.c (.bool true)))] [4] []) .ret)))))) }
noncomputable def laws_eqStep_D : List (Nat × Callee) := [(42, laws_eqInt64S_c)]
def laws_eqStep_H : List (Nat × ET) := [(21, (.one (.int .i64))), (23, (.one (.int .i64)))]
noncomputable def laws_eqStep_c : Callee := mkCallee laws_eqStep_D laws_eqStep_H laws_eqStep_ir [.d T_Step, .d T_Step] [.d (.one .bool)] []
noncomputable def laws_eqStep (a0 : T_Step.ty) (a1 : T_Step.ty) : Option (Bool) := laws_eqStep_c.f (a0, a1, ())
theorem laws_eqStep_eq (a0 : T_Step.ty) (a1 : T_Step.ty) : laws_eqStep a0 a1 =
  if (!(a0.1 == a1.1)) then
   some false
  else
   if (a0.2.1 != a1.2.1) then
    some false
   else
    if (a0.2.2.1 != a1.2.2.1) then
     some false
    else
     (laws_eqInt64S a0.2.2.2.1 a1.2.2.2.1).bind fun x1 =>
      if (!x1) then
       some false
      else
       some true :=
 (mk_f _ _ _ _ _ _ _ 4000).trans (by kernel_rfl)

/- laws.eqStepS -/
def laws_eqStepS_k0 : C :=
 .seq (.seq (.reg false [.V 11 (.mv (.t 5)), .V 12 (.mv (.t 0)), .V 13 (.len (.t 12)), .V 14 (.bin .lss (.t 11) (.t 13))] [0, 1, 5, 14] []) (.cond (.t 14) .skip (.exit 0))) (.seq (.block 1 (.seq (.reg true [.V 17 (.mv (.t 0)), .V 18 (.mv (.t 5)), .V 19 (.ia 4 (.t 17) (.t 18)), .V 20 (.ld (some 4) (.t 19)), .V 21 (.mv (.t 1)), .V 22 (.mv (.t 5)), .V 23 (.ia 4 (.t 21) (.t 22)), .V 24 (.ld (some 4) (.t 23)), .V 25 (.call (.c (.fn 903 [])) [.t 20, .t 24]), .V 26 (.un .not (.t 25))] [0, 1, 5, 26] []) (.cond (.t 26) (.seq (.reg false [.V 4 (.asg (.c (.bool false)))] [4] []) .ret) .skip))) (.reg false [.V 15 (.mv (.t 5)), .V 16 (.bin .add (.t 15) (.c (.int .i64 1))), .V 5 (.asg (.t 16))] [0, 1, 5] []))
def laws_eqStepS_k1 : C :=
 .norm [0, 1, 5] [] laws_eqStepS_k0
def laws_eqStepS_k2 : C :=
 .seq (.reg false [.V 4 (.asg (.c (.bool true)))] [4] []) .ret
def laws_eqStepS_ir : Fn := { np := 2, io := [], res := [.t 4], own := [false], body :=
 (.seq (.reg false [.V 4 (.asg (.c (.bool false)))] [0, 1] []) (.seq (.seq (.reg false [.V 6 (.mv (.t 0)), .V 7 (.len (.t 6)), .V 8 (.mv (.t 1)), .V 9 (.len (.t 8)), .V 10 (.bin .neq (.t 7) (.t 9))] [0, 1, 10] []) (.cond (.t 10) (.seq (.reg false [.V 4 (.asg (.c (.bool false)))] [4] []) .ret) .skip)) (.seq (.seq (.reg false [.V 5 (.asg (.c (.int .i64 0)))] [0, 1, 5] []) (.block 0 (.loop laws_eqStepS_k1))) laws_eqStepS_k2))) }
noncomputable def laws_eqStepS_D : List (Nat × Callee) := [(903, laws_eqStep_c)]
def laws_eqStepS_H : List (Nat × ET) := [(6, T_Step), (8, T_Step), (12, T_Step), (17, T_Step), (21, T_Step)]
noncomputable def laws_eqStepS_c : Callee := mkCallee laws_eqStepS_D laws_eqStepS_H laws_eqStepS_ir [.d (.one (.sl T_Step)), .d (.one (.sl T_Step))] [.d (.one .bool)] []
noncomputable def laws_eqStepS (a0 : List T_Step.ty) (a1 : List T_Step.ty) : Option (Bool) := laws_eqStepS_c.f (a0, a1, ())
noncomputable def laws_eqStepS_p0  (v0 : List T_Step.ty) (v1 : List T_Step.ty) (v5 : Int) : Option (Bool) :=
 goL laws_eqStepS_D laws_eqStepS_H (vleave laws_eqStepS_ir [.d (.one (.sl T_Step)), .d (.one (.sl T_Step))] [.d (.one .bool)] [] []) [.c laws_eqStepS_k0, .l laws_eqStepS_k1, .e 0, .c laws_eqStepS_k2]
  ⟨[(0, .sl T_Step v0), (1, .sl T_Step v1), (5, .int .i64 v5)], []⟩
theorem laws_eqStepS_eq (a0 : List T_Step.ty) (a1 : List T_Step.ty) : laws_eqStepS a0 a1 =
  if ((a0.length : Int) != (a1.length : Int)) then
   some false
  else
   laws_eqStepS_p0 a0 a1 0 :=
 (mk_f _ _ _ _ _ _ _ 4000).trans (by kernel_rfl)
theorem laws_eqStepS_p0_eq  (v0 : List T_Step.ty) (v1 : List T_Step.ty) (v5 : Int) : laws_eqStepS_p0 v0 v1 v5 =
  if decide (v5 < (v0.length : Int)) then
   if decide (0 ≤ v5) then
    (v0[v5.toNat]?).bind fun x1 =>
     if decide (0 ≤ v5) then
      (v1[v5.toNat]?).bind fun x2 =>
       (laws_eqStep x1 x2).bind fun x3 =>
        if (!x3) then
         some false
        else
         laws_eqStepS_p0 v0 v1 (IntKind.i64.wrap (v5 + 1))
     else
      none
   else
    none
  else
   some true :=
 (goL_dn _ _ _ 4000 _ _).trans (by kernel_rfl)

/- laws.eqRental -/
def laws_eqRental_ir : Fn := { np := 2, io := [], res := [.t 4], own := [false], body :=
 (.seq (.reg false [.W 2 (.box 5 (.t 0)), .W 3 (.box 5 (.t 1)), .V 4 (.asg (.c (.bool false)))] [2, 3] [2, 3]) (.seq (.seq (.reg false [.V 5 (.fa 0 (.t 2)), .V 6 (.ld none (.t 5)), .V 7 (.fa 0 (.t 3)), .V 8 (.ld none (.t 7)), .V 9 (.bin .neq (.t 6) (.t 8))] [2, 3, 9] [2, 3]) (.cond (.t 9) (.seq (.reg false [.V 4 (.asg (.c (.bool false)))] [4] []) .ret) .skip)) (.seq (.seq (.reg false [.V 10 (.fa 1 (.t 2)), .V 11 (.ld none (.t 10)), .V 12 (.fa 1 (.t 3)), .V 13 (.ld none (.t 12)), .V 14 (.bin .neq (.t 11) (.t 13))] [2, 3, 14] [2, 3]) (.cond (.t 14) (.seq (.reg false [.V 4 (.asg (.c (.bool false)))] [4] []) .ret) .skip)) (.seq (.seq (.reg false [.V 15 (.fa 2 (.t 2)), .V 16 (.ld none (.t 15)), .V 17 (.fa 2 (.t 3)), .V 18 (.ld none (.t 17)), .V 19 (.bin .neq (.t 16) (.t 18))] [2, 3, 19] [2, 3]) (.cond (.t 19) (.seq (.reg false [.V 4 (.asg (.c (.bool false)))] [4] []) .ret) .skip)) (.seq (.seq (.reg false [.V 20 (.fa 3 (.t 2)), .V 21 (.ld none (.t 20)), .V 22 (.fa 3 (.t 3)), .V 23 (.ld none (.t 22)), .V 24 (.bin .neq (.t 21) (.t 23))] [2, 3, 24] [2, 3]) (.cond (.t 24) (.seq (.reg false [.V 4 (.asg (.c (.bool false)))] [4] []) .ret) .skip)) (.seq (.seq (.reg false [.V 25 (.fa 4 (.t 2)), .V 26 (.ld none (.t 25)), .V 27 (.fa 4 (.t 3)), .V 28 (.ld none (.t 27)), .V 29 (.bin .neq (.t 26) (.t 28))] [29] []) (.cond (.t 29) (.seq (.reg false [.V 4 (.asg (.c (.bool false)))] [4] []) .ret) .skip)) (.seq (.reg false [.V 4 (.asg (.c (.bool true)))] [4] []) .ret))))))) }
noncomputable def laws_eqRental_D : List (Nat × Callee) := []
def laws_eqRental_H : List (Nat × ET) := []
noncomputable def laws_eqRental_c : Callee := mkCallee laws_eqRental_D laws_eqRental_H laws_eqRental_ir [.d T_Paper, .d T_Paper] [.d (.one .bool)] []
noncomputable def laws_eqRental (a0 : T_Paper.ty) (a1 : T_Paper.ty) : Option (Bool) := laws_eqRental_c.f (a0, a1, ())
theorem laws_eqRental_eq (a0 : T_Paper.ty) (a1 : T_Paper.ty) : laws_eqRental a0 a1 =
  if (!(a0.1 == a1.1)) then
   some false
  else
   if (!(a0.2.1 == a1.2.1)) then
    some false
   else
    if (a0.2.2.1 != a1.2.2.1) then
     some false
    else
     if (a0.2.2.2.1 != a1.2.2.2.1) then
      some false
     else
      if (a0.2.2.2.2.1 != a1.2.2.2.2.1) then
       some false
      else
       some true :=
 (mk_f _ _ _ _ _ _ _ 4000).trans (by kernel_rfl)

/- laws.eqRentalS -/
def laws_eqRentalS_k0 : C :=
 .seq (.seq (.reg false [.V 11 (.mv (.t 5)), .V 12 (.mv (.t 0)), .V 13 (.len (.t 12)), .V 14 (.bin .lss (.t 11) (.t 13))] [0, 1, 5, 14] []) (.cond (.t 14) .skip (.exit 0))) (.seq (.block 1 (.seq (.reg true [.V 17 (.mv (.t 0)), .V 18 (.mv (.t 5)), .V 19 (.ia 5 (.t 17) (.t 18)), .V 20 (.ld (some 5) (.t 19)), .V 21 (.mv (.t 1)), .V 22 (.mv (.t 5)), .V 23 (.ia 5 (.t 21) (.t 22)), .V 24 (.ld (some 5) (.t 23)), .V 25 (.call (.c (.fn 904 [])) [.t 20, .t 24]), .V 26 (.un .not (.t 25))] [0, 1, 5, 26] []) (.cond (.t 26) (.seq (.reg false [.V 4 (.asg (.c (.bool false)))] [4] []) .ret) .skip))) (.reg false [.V 15 (.mv (.t 5)), .V 16 (.bin .add (.t 15) (.c (.int .i64 1))), .V 5 (.asg (.t 16))] [0, 1, 5] []))
def laws_eqRentalS_k1 : C :=
 .norm [0, 1, 5] [] laws_eqRentalS_k0
def laws_eqRentalS_k2 : C :=
 .seq (.reg false [.V 4 (.asg (.c (.bool true)))] [4] []) .ret
def laws_eqRentalS_ir : Fn := { np := 2, io := [], res := [.t 4], own := [false], body :=
 (.seq (.reg false [.V 4 (.asg (.c (.bool false)))] [0, 1] []) (.seq (.seq (.reg false [.V 6 (.mv (.t 0)), .V 7 (.len (.t 6)), .V 8 (.mv (.t 1)), .V 9 (.len (.t 8)), .V 10 (.bin .neq (.t 7) (.t 9))] [0, 1, 10] []) (.cond (.t 10) (.seq (.reg false [.V 4 (.asg (.c (.bool false)))] [4] []) .ret) .skip)) (.seq (.seq (.reg false [.V 5 (.asg (.c (.int .i64 0)))] [0, 1, 5] []) (.block 0 (.loop laws_eqRentalS_k1))) laws_eqRentalS_k2))) }
noncomputable def laws_eqRentalS_D : List (Nat × Callee) := [(904, laws_eqRental_c)]
def laws_eqRentalS_H : List (Nat × ET) := [(6, T_Paper), (8, T_Paper), (12, T_Paper), (17, T_Paper), (21, T_Paper)]
noncomputable def laws_eqRentalS_c : Callee := mkCallee laws_eqRentalS_D laws_eqRentalS_H laws_eqRentalS_ir [.d (.one (.sl T_Paper)), .d (.one (.sl T_Paper))] [.d (.one .bool)] []
noncomputable def laws_eqRentalS (a0 : List T_Paper.ty) (a1 : List T_Paper.ty) : Option (Bool) := laws_eqRentalS_c.f (a0, a1, ())
noncomputable def laws_eqRentalS_p0  (v0 : List T_Paper.ty) (v1 : List T_Paper.ty) (v5 : Int) : Option (Bool) :=
 goL laws_eqRentalS_D laws_eqRentalS_H (vleave laws_eqRentalS_ir [.d (.one (.sl T_Paper)), .d (.one (.sl T_Paper))] [.d (.one .bool)] [] []) [.c laws_eqRentalS_k0, .l laws_eqRentalS_k1, .e 0, .c laws_eqRentalS_k2]
  ⟨[(0, .sl T_Paper v0), (1, .sl T_Paper v1), (5, .int .i64 v5)], []⟩
theorem laws_eqRentalS_eq (a0 : List T_Paper.ty) (a1 : List T_Paper.ty) : laws_eqRentalS a0 a1 =
  if ((a0.length : Int) != (a1.length : Int)) then
   some false
  else
   laws_eqRentalS_p0 a0 a1 0 :=
 (mk_f _ _ _ _ _ _ _ 4000).trans (by kernel_rfl)
theorem laws_eqRentalS_p0_eq  (v0 : List T_Paper.ty) (v1 : List T_Paper.ty) (v5 : Int) : laws_eqRentalS_p0 v0 v1 v5 =
  if decide (v5 < (v0.length : Int)) then
   if decide (0 ≤ v5) then
    (v0[v5.toNat]?).bind fun x1 =>
     if decide (0 ≤ v5) then
      (v1[v5.toNat]?).bind fun x2 =>
       (laws_eqRental x1 x2).bind fun x3 =>
        if (!x3) then
         some false
        else
         laws_eqRentalS_p0 v0 v1 (IntKind.i64.wrap (v5 + 1))
     else
      none
   else
    none
  else
   some true :=
 (goL_dn _ _ _ 4000 _ _).trans (by kernel_rfl)

/- laws.eqEntry -/
def laws_eqEntry_ir : Fn := { np := 2, io := [], res := [.t 4], own := [false], body :=
 (.seq (.reg false [.W 2 (.box 4 (.t 0)), .W 3 (.box 4 (.t 1)), .V 4 (.asg (.c (.bool false)))] [2, 3] [2, 3]) (.seq (.seq (.reg false [.V 5 (.fa 0 (.t 2)), .V 6 (.ld none (.t 5)), .V 7 (.fa 0 (.t 3)), .V 8 (.ld none (.t 7)), .V 9 (.bin .neq (.t 6) (.t 8))] [2, 3, 9] [2, 3]) (.cond (.t 9) (.seq (.reg false [.V 4 (.asg (.c (.bool false)))] [4] []) .ret) .skip)) (.seq (.seq (.reg false [.V 10 (.fa 1 (.t 2)), .V 11 (.ld none (.t 10)), .V 12 (.fa 1 (.t 3)), .V 13 (.ld none (.t 12)), .V 14 (.bin .neq (.t 11) (.t 13))] [2, 3, 14] [2, 3]) (.cond (.t 14) (.seq (.reg false [.V 4 (.asg (.c (.bool false)))] [4] []) .ret) .skip)) (.seq (.seq (.reg false [.V 15 (.fa 2 (.t 2)), .V 16 (.ld none (.t 15)), .V 17 (.fa 2 (.t 3)), .V 18 (.ld none (.t 17)), .V 19 (.bin .neq (.t 16) (.t 18))] [2, 3, 19] [2, 3]) (.cond (.t 19) (.seq (.reg false [.V 4 (.asg (.c (.bool false)))] [4] []) .ret) .skip)) (.seq (.seq (.reg false [.V 20 (.fa 3 (.t 2)), .V 21 (.ld none (.t 20)), .V 22 (.fa 3 (.t 3)), .V 23 (.ld none (.t 22)), .V 24 (.bin .neq (.t 21) (.t 23))] [24] []) (.cond (.t 24) (.seq (.reg false [.V 4 (.asg (.c (.bool false)))] [4] []) .ret) .skip)) (.seq (.reg false [.V 4 (.asg (.c (.bool true)))] [4] []) .ret)))))) }
noncomputable def laws_eqEntry_D : List (Nat × Callee) := []
def laws_eqEntry_H : List (Nat × ET) := []
noncomputable def laws_eqEntry_c : Callee := mkCallee laws_eqEntry_D laws_eqEntry_H laws_eqEntry_ir [.d T_Entry, .d T_Entry] [.d (.one .bool)] []
noncomputable def laws_eqEntry (a0 : T_Entry.ty) (a1 : T_Entry.ty) : Option (Bool) := laws_eqEntry_c.f (a0, a1, ())
theorem laws_eqEntry_eq (a0 : T_Entry.ty) (a1 : T_Entry.ty) : laws_eqEntry a0 a1 =
  if (a0.1 != a1.1) then
   some false
  else
   if (!(a0.2.1 == a1.2.1)) then
    some false
   else
    if (!(a0.2.2.1 == a1.2.2.1)) then
     some false
    else
     if (a0.2.2.2.1 != a1.2.2.2.1) then
      some false
     else
      some true :=
 (mk_f _ _ _ _ _ _ _ 4000).trans (by kernel_rfl)

/- laws.eqEntryS -/
def laws_eqEntryS_k0 : C :=
 .seq (.seq (.reg false [.V 11 (.mv (.t 5)), .V 12 (.mv (.t 0)), .V 13 (.len (.t 12)), .V 14 (.bin .lss (.t 11) (.t 13))] [0, 1, 5, 14] []) (.cond (.t 14) .skip (.exit 0))) (.seq (.block 1 (.seq (.reg true [.V 17 (.mv (.t 0)), .V 18 (.mv (.t 5)), .V 19 (.ia 4 (.t 17) (.t 18)), .V 20 (.ld (some 4) (.t 19)), .V 21 (.mv (.t 1)), .V 22 (.mv (.t 5)), .V 23 (.ia 4 (.t 21) (.t 22)), .V 24 (.ld (some 4) (.t 23)), .V 25 (.call (.c (.fn 905 [])) [.t 20, .t 24]), .V 26 (.un .not (.t 25))] [0, 1, 5, 26] []) (.cond (.t 26) (.seq (.reg false [.V 4 (.asg (.c (.bool false)))] [4] []) .ret) .skip))) (.reg false [.V 15 (.mv (.t 5)), .V 16 (.bin .add (.t 15) (.c (.int .i64 1))), .V 5 (.asg (.t 16))] [0, 1, 5] []))
def laws_eqEntryS_k1 : C :=
 .norm [0, 1, 5] [] laws_eqEntryS_k0
def laws_eqEntryS_k2 : C :=
 .seq (.reg false [.V 4 (.asg (.c (.bool true)))] [4] []) .ret
def laws_eqEntryS_ir : Fn := { np := 2, io := [], res := [.t 4], own := [false], body :=
 (.seq (.reg false [.V 4 (.asg (.c (.bool false)))] [0, 1] []) (.seq (.seq (.reg false [.V 6 (.mv (.t 0)), .V 7 (.len (.t 6)), .V 8 (.mv (.t 1)), .V 9 (.len (.t 8)), .V 10 (.bin .neq (.t 7) (.t 9))] [0, 1, 10] []) (.cond (.t 10) (.seq (.reg false [.V 4 (.asg (.c (.bool false)))] [4] []) .ret) .skip)) (.seq (.seq (.reg false [.V 5 (.asg (.c (.int .i64 0)))] [0, 1, 5] []) (.block 0 (.loop laws_eqEntryS_k1))) laws_eqEntryS_k2))) }
noncomputable def laws_eqEntryS_D : List (Nat × Callee) := [(905, laws_eqEntry_c)]
def laws_eqEntryS_H : List (Nat × ET) := [(6, T_Entry), (8, T_Entry), (12, T_Entry), (17, T_Entry), (21, T_Entry)]
noncomputable def laws_eqEntryS_c : Callee := mkCallee laws_eqEntryS_D laws_eqEntryS_H laws_eqEntryS_ir [.d (.one (.sl T_Entry)), .d (.one (.sl T_Entry))] [.d (.one .bool)] []
noncomputable def laws_eqEntryS (a0 : List T_Entry.ty) (a1 : List T_Entry.ty) : Option (Bool) := laws_eqEntryS_c.f (a0, a1, ())
noncomputable def laws_eqEntryS_p0  (v0 : List T_Entry.ty) (v1 : List T_Entry.ty) (v5 : Int) : Option (Bool) :=
 goL laws_eqEntryS_D laws_eqEntryS_H (vleave laws_eqEntryS_ir [.d (.one (.sl T_Entry)), .d (.one (.sl T_Entry))] [.d (.one .bool)] [] []) [.c laws_eqEntryS_k0, .l laws_eqEntryS_k1, .e 0, .c laws_eqEntryS_k2]
  ⟨[(0, .sl T_Entry v0), (1, .sl T_Entry v1), (5, .int .i64 v5)], []⟩
theorem laws_eqEntryS_eq (a0 : List T_Entry.ty) (a1 : List T_Entry.ty) : laws_eqEntryS a0 a1 =
  if ((a0.length : Int) != (a1.length : Int)) then
   some false
  else
   laws_eqEntryS_p0 a0 a1 0 :=
 (mk_f _ _ _ _ _ _ _ 4000).trans (by kernel_rfl)
theorem laws_eqEntryS_p0_eq  (v0 : List T_Entry.ty) (v1 : List T_Entry.ty) (v5 : Int) : laws_eqEntryS_p0 v0 v1 v5 =
  if decide (v5 < (v0.length : Int)) then
   if decide (0 ≤ v5) then
    (v0[v5.toNat]?).bind fun x1 =>
     if decide (0 ≤ v5) then
      (v1[v5.toNat]?).bind fun x2 =>
       (laws_eqEntry x1 x2).bind fun x3 =>
        if (!x3) then
         some false
        else
         laws_eqEntryS_p0 v0 v1 (IntKind.i64.wrap (v5 + 1))
     else
      none
   else
    none
  else
   some true :=
 (goL_dn _ _ _ 4000 _ _).trans (by kernel_rfl)

/- laws.eqShop -/
def laws_eqShop_ir : Fn := { np := 2, io := [], res := [.t 4], own := [false], body :=
 (.seq (.reg false [.W 2 (.box 8 (.t 0)), .W 3 (.box 8 (.t 1)), .V 4 (.asg (.c (.bool false)))] [2, 3] [2, 3, 3000, 3001, 3003, 3004, 3006, 3007, 4000, 4001, 4003, 4004, 4006, 4007]) (.seq (.seq (.reg false [.V 5 (.fa 0 (.t 2)), .V 6 (.ld none (.t 5)), .V 7 (.fa 0 (.t 3)), .V 8 (.ld none (.t 7)), .V 9 (.call (.c (.fn 616 [])) [.t 6, .t 8]), .V 10 (.un .not (.t 9))] [2, 3, 10] [2, 3, 3000, 3001, 3003, 3004, 3006, 3007, 4000, 4001, 4003, 4004, 4006, 4007]) (.cond (.t 10) (.seq (.reg false [.V 4 (.asg (.c (.bool false)))] [4] []) .ret) .skip)) (.seq (.seq (.reg false [.V 11 (.fa 1 (.t 2)), .V 12 (.ld none (.t 11)), .V 13 (.fa 1 (.t 3)), .V 14 (.ld none (.t 13)), .V 15 (.call (.c (.fn 615 [])) [.t 12, .t 14]), .V 16 (.un .not (.t 15))] [2, 3, 16] [2, 3, 3000, 3001, 3003, 3004, 3006, 3007, 4000, 4001, 4003, 4004, 4006, 4007]) (.cond (.t 16) (.seq (.reg false [.V 4 (.asg (.c (.bool false)))] [4] []) .ret) .skip)) (.seq (.seq (.reg false [.V 17 (.fa 2 (.t 2)), .V 18 (.ld none (.t 17)), .V 19 (.fa 2 (.t 3)), .V 20 (.ld none (.t 19)), .V 21 (.bin .neq (.t 18) (.t 20))] [2, 3, 21] [2, 3, 3000, 3001, 3003, 3004, 3006, 3007, 4000, 4001, 4003, 4004, 4006, 4007]) (.cond (.t 21) (.seq (.reg false [.V 4 (.asg (.c (.bool false)))] [4] []) .ret) .skip)) (.seq (.seq (.reg false [.V 22 (.fa 3 (.t 2)), .V 23 (.ld none (.t 22)), .V 24 (.fa 3 (.t 3)), .V 25 (.ld none (.t 24)), .V 26 (.call (.c (.fn 614 [])) [.t 23, .t 25]), .V 27 (.un .not (.t 26))] [2, 3, 27] [2, 3, 3000, 3001, 3003, 3004, 3006, 3007, 4000, 4001, 4003, 4004, 4006, 4007]) (.cond (.t 27) (.seq (.reg false [.V 4 (.asg (.c (.bool false)))] [4] []) .ret) .skip)) (.seq (.seq (.reg false [.V 28 (.fa 4 (.t 2)), .V 29 (.ld none (.t 28)), .V 30 (.fa 4 (.t 3)), .V 31 (.ld none (.t 30)), .V 32 (.call (.c (.fn 42 [])) [.t 29, .t 31]), .V 33 (.un .not (.t 32))] [2, 3, 33] [2, 3, 3000, 3001, 3003, 3004, 3006, 3007, 4000, 4001, 4003, 4004, 4006, 4007]) (.cond (.t 33) (.seq (.reg false [.V 4 (.asg (.c (.bool false)))] [4] []) .ret) .skip)) (.seq (.seq (.reg false [.V 34 (.fa 5 (.t 2)), .V 35 (.ld none (.t 34)), .V 36 (.fa 5 (.t 3)), .V 37 (.ld none (.t 36)), .V 38 (.bin .neq (.t 35) (.t 37))] [2, 3, 38] [2, 3, 3000, 3001, 3003, 3004, 3006, 3007, 4000, 4001, 4003, 4004, 4006, 4007]) (.cond (.t 38) (.seq (.reg false [.V 4 (.asg (.c (.bool false)))] [4] []) .ret) .skip)) (.seq (.seq (.reg false [.V 39 (.fa 6 (.t 2)), .V 40 (.ld none (.t 39)), .V 41 (.fa 6 (.t 3)), .V 42 (.ld none (.t 41)), .V 43 (.call (.c (.fn 613 [])) [.t 40, .t 42]), .V 44 (.un .not (.t 43))] [2, 3, 44] [2, 3, 3000, 3001, 3003, 3004, 3006, 3007, 4000, 4001, 4003, 4004, 4006, 4007]) (.cond (.t 44) (.seq (.reg false [.V 4 (.asg (.c (.bool false)))] [4] []) .ret) .skip)) (.seq (.seq (.reg false [.V 45 (.fa 7 (.t 2)), .V 46 (.ld none (.t 45)), .V 47 (.fa 7 (.t 3)), .V 48 (.ld none (.t 47)), .V 49 (.call (.c (.fn 612 [])) [.t 46, .t 48]), .V 50 (.un .not (.t 49))] [50] []) (.cond (.t 50) (.seq (.reg false [.V 4 (.asg (.c (.bool false)))] [4] []) .ret) .skip)) (.seq (.reg false [.V 4 (.asg (.c (.bool true)))] [4] []) .ret)))))))))) }
noncomputable def laws_eqShop_D : List (Nat × Callee) := [(42, laws_eqInt64S_c), (612, laws_eqEntryS_c), (613, laws_eqRentalS_c), (614, laws_eqStepS_c), (615, laws_eqCordS_c), (616, laws_eqArcS_c)]
def laws_eqShop_H : List (Nat × ET) := [(6, T_Arc), (8, T_Arc), (12, T_Neck), (14, T_Neck), (23, T_Step), (25, T_Step), (29, (.one (.int .i64))), (31, (.one (.int .i64))), (40, T_Paper), (42, T_Paper), (46, T_Entry), (48, T_Entry)]
noncomputable def laws_eqShop_c : Callee := mkCallee laws_eqShop_D laws_eqShop_H laws_eqShop_ir [.d T_Shop, .d T_Shop] [.d (.one .bool)] []
noncomputable def laws_eqShop (a0 : T_Shop.ty) (a1 : T_Shop.ty) : Option (Bool) := laws_eqShop_c.f (a0, a1, ())
theorem laws_eqShop_eq (a0 : T_Shop.ty) (a1 : T_Shop.ty) : laws_eqShop a0 a1 =
  (laws_eqArcS a0.1 a1.1).bind fun x1 =>
   if (!x1) then
    some false
   else
    (laws_eqCordS a0.2.1 a1.2.1).bind fun x2 =>
     if (!x2) then
      some false
     else
      if (a0.2.2.1 != a1.2.2.1) then
       some false
      else
       (laws_eqStepS a0.2.2.2.1 a1.2.2.2.1).bind fun x3 =>
        if (!x3) then
         some false
        else
         (laws_eqInt64S a0.2.2.2.2.1 a1.2.2.2.2.1).bind fun x4 =>
          if (!x4) then
           some false
          else
           if (a0.2.2.2.2.2.1 != a1.2.2.2.2.2.1) then
            some false
           else
            (laws_eqRentalS a0.2.2.2.2.2.2.1 a1.2.2.2.2.2.2.1).bind fun x5 =>
             if (!x5) then
              some false
             else
              (laws_eqEntryS a0.2.2.2.2.2.2.2.1 a1.2.2.2.2.2.2.2.1).bind fun x6 =>
               if (!x6) then
                some false
               else
                some true :=
 (mk_f _ _ _ _ _ _ _ 4000).trans (by kernel_rfl)

/- laws.FnExactPassesAudit -/
def laws_FnExactPassesAudit_ir : Fn := { np := 1, io := [], res := [.t 2], own := [false], body :=
 (.seq (.reg false [.W 1 (.box 8 (.t 0)), .V 2 (.asg (.c (.bool false)))] [1] [1, 2000, 2001, 2003, 2004, 2006, 2007]) (.seq (.reg false [.V 3 (.asg (.c (.int .i64 1048576)))] [1, 3] [1, 2000, 2001, 2003, 2004, 2006, 2007]) (.seq (.reg false [.V 7 (.ld (some 8) (.t 1)), .V 8 (.mv (.t 3)), .V 9 (.call (.c (.fn 203 [])) [.t 7, .t 8]), .V 3 (.asg (.t 9))] [1, 3] [1, 2000, 2001, 2003, 2004, 2006, 2007]) (.seq (.seq (.reg false [.V 10 (.mv (.t 3)), .V 11 (.bin .lss (.t 10) (.c (.int .i64 0)))] [1, 11] [1, 2000, 2001, 2003, 2004, 2006, 2007]) (.cond (.t 11) (.seq (.reg false [.V 2 (.asg (.c (.bool true)))] [2] []) .ret) .skip)) (.seq (.reg false [.V 12 (.ld (some 8) (.t 1)), .V 13 (.call (.c (.fn 199 [])) [.t 12]), .V 14 (.call (.c (.fn 351 [])) [.t 13]), .V 4 (.asg (.t 14))] [1, 4] [1, 2000, 2001, 2003, 2004, 2006, 2007]) (.seq (.reg false [.V 15 (.ld (some 8) (.t 1)), .V 16 (.call (.c (.fn 199 [])) [.t 15]), .W 5 (.alloc 8 (.agg [.nils 6, .nils 4, .int .i64 0, .nils 4, .nils 1, .int .i64 0, .nils 5, .nils 4])), ⟨none, true, .sto 8 (.t 5) (.t 16), none, false, []⟩] [1, 4, 5] [1, 5, 2000, 2001, 2003, 2004, 2006, 2007, 6000, 6001, 6003, 6004, 6006, 6007]) (.seq (.reg false [.V 17 (.ld (some 8) (.t 5)), .V 18 (.call (.c (.fn 284 [])) [.t 17]), .V 6 (.asg (.t 18))] [1, 4, 5, 6] [1, 5, 2000, 2001, 2003, 2004, 2006, 2007, 6000, 6001, 6003, 6004, 6006, 6007]) (.seq (.seq (.reg false [.V 19 (.mv (.t 6)), .V 20 (.mv (.t 4)), .V 21 (.eqb true (.t 19) (.t 20))] [1, 5, 21] [1, 5, 2000, 2001, 2003, 2004, 2006, 2007, 6000, 6001, 6003, 6004, 6006, 6007]) (.cond (.t 21) (.seq (.reg false [.V 2 (.asg (.c (.bool false)))] [2] []) .ret) .skip)) (.seq (.seq (.reg true [.V 22 (.ld (some 8) (.t 5)), .V 23 (.ld (some 8) (.t 1)), .V 24 (.call (.c (.fn 199 [])) [.t 23]), .V 25 (.call (.c (.fn 200 [])) [.t 22, .t 24]), .V 26 (.un .not (.t 25))] [26] []) (.cond (.t 26) (.seq (.reg false [.V 2 (.asg (.c (.bool false)))] [2] []) .ret) .skip)) (.seq (.reg false [.V 2 (.asg (.c (.bool true)))] [2] []) .ret)))))))))) }
noncomputable def laws_FnExactPassesAudit_D : List (Nat × Callee) := [(199, laws_toShop_c), (200, laws_eqShop_c), (203, laws_szShop_c), (284, impl_PassesAudit_c), (351, spec_PassesAudit_c)]
def laws_FnExactPassesAudit_H : List (Nat × ET) := []
noncomputable def laws_FnExactPassesAudit_c : Callee := mkCallee laws_FnExactPassesAudit_D laws_FnExactPassesAudit_H laws_FnExactPassesAudit_ir [.d T_Shop] [.d (.one .bool)] []
noncomputable def laws_FnExactPassesAudit (a0 : T_Shop.ty) : Option (Bool) := laws_FnExactPassesAudit_c.f (a0, ())
theorem laws_FnExactPassesAudit_eq (a0 : T_Shop.ty) : laws_FnExactPassesAudit a0 =
  (laws_szShop a0 1048576).bind fun x1 =>
   if decide (x1 < 0) then
    some true
   else
    (laws_toShop a0).bind fun x2 =>
     (spec_PassesAudit x2).bind fun x3 =>
      (laws_toShop a0).bind fun x4 =>
       (impl_PassesAudit x4).bind fun x5 =>
        if (!(x5 == x3)) then
         some false
        else
         (laws_toShop a0).bind fun x6 =>
          (laws_eqShop x4 x6).bind fun x7 =>
           if (!x7) then
            some false
           else
            some true :=
 (mk_f _ _ _ _ _ _ _ 4000).trans (by kernel_rfl)

end Go.Ab.P
