/- Functions of the program: abstract forms, and what their runs give. Conditions: none. -/
import Derived.Test.YtcadiimcjfakjaaGreatDoorPFnAudit1
set_option maxRecDepth 100000
set_option linter.unusedVariables false
namespace Go.Ab.P
open Go.Ab
def impl_TradeProblems_k0 : C :=
 .seq (.reg false [.V 27 (.bin .lss (.t 26) (.t 25))] [1,4,24,25,26,27] [1,4,5,2000,2001,2003,2004,2006,2007]) (.seq (.cond (.t 27) .skip (.exit 0)) (.seq (.block 1 (.seq (.reg false [.V 28 (.ia 1 (.t 24) (.t 26)),.V 29 (.ld none (.t 28)),.W 8 (.asg (.t 29))] [1,4,8,24,25,26] [1,4,5,8,2000,2001,2003,2004,2006,2007]) (.reg true [.V 30 (.mv (.t 4)),.V 31 (.fa 6 (.t 1)),.V 32 (.ld none (.t 31)),.V 33 (.mv (.t 8)),.V 34 (.ia 1 (.t 33) (.c (.int .i64 0))),.V 35 (.ld none (.t 34)),.V 36 (.ia 5 (.t 32) (.t 35)),.V 37 (.fa 0 (.t 36)),.V 38 (.ld none (.t 37)),.V 39 (.fa 6 (.t 1)),.V 40 (.ld none (.t 39)),.V 41 (.mv (.t 8)),.V 42 (.ia 1 (.t 41) (.c (.int .i64 1))),.V 43 (.ld none (.t 42)),.V 44 (.ia 5 (.t 40) (.t 43)),.V 45 (.fa 0 (.t 44)),.V 46 (.ld none (.t 45)),.V 47 (.build [.int .i64 0,.str [],.str []] [(0,1,.c (.int .i64 4)),(1,1,.t 38),(2,1,.t 46)]),.V 48 (.bsl 3 (.agg [.int .i64 0,.str [],.str []]) 1 [(0,.t 47)]),.W 49 (.app 3 40 (.t 30) (.t 48)),.W 4 (.asg (.t 49))] [1,4,24,25,26] [1,4,5,2000,2001,2003,2004,2006,2007]))) (.reg false [.V 50 (.bin .add (.t 26) (.c (.int .i64 1))),.V 26 (.mv (.t 50))] [1,4,24,25,26] [1,4,5,2000,2001,2003,2004,2006,2007])))
def impl_TradeProblems_k1 : C :=
 .norm [1,4,24,25,26] [1,4,5,2000,2001,2003,2004,2006,2007] impl_TradeProblems_k0
def impl_TradeProblems_k2 : C :=
 .seq (.reg false [.V 66 (.bin .lss (.t 65) (.t 64))] [4,9,11,63,64,65,66] [4]) (.seq (.cond (.t 66) .skip (.exit 2)) (.seq (.block 3 (.seq (.reg false [.V 67 (.ia 4 (.t 63) (.t 65)),.V 68 (.ld (some 4) (.t 67)),.W 13 (.alloc 4 (.agg [.int .i64 0,.str [],.str [],.int .i64 0])),⟨none,true,.sto 4 (.t 13) (.t 68),none,false,[]⟩] [4,9,11,13,63,64,65] [4,13]) (.reg false [.V 69 (.mv (.t 11)),.V 70 (.ld (some 4) (.t 13)),.V 71 (.call (.c (.fn 622 [])) [.t 70,.c (.str [99,97,115,104])]),.V 72 (.bin .add (.t 69) (.t 71)),.V 11 (.asg (.t 72))] [4,9,11,63,64,65] [4]))) (.reg false [.V 73 (.bin .add (.t 65) (.c (.int .i64 1))),.V 65 (.mv (.t 73))] [4,9,11,63,64,65] [4])))
def impl_TradeProblems_k3 : C :=
 .norm [4,9,11,63,64,65] [4] impl_TradeProblems_k2
def impl_TradeProblems_k4 : C :=
 .reg false [.V 74 (.mv (.t 4)),.V 75 (.mv (.t 9)),.V 76 (.call (.c (.fn 524 [])) [.t 75]),.V 77 (.mv (.t 11)),.V 78 (.call (.c (.fn 524 [])) [.t 77]),.V 79 (.build [.int .i64 0,.str [],.str []] [(0,1,.c (.int .i64 5)),(1,1,.t 76),(2,1,.t 78)]),.V 80 (.bsl 3 (.agg [.int .i64 0,.str [],.str []]) 1 [(0,.t 79)]),.W 81 (.app 3 40 (.t 74) (.t 80)),.W 4 (.asg (.t 81))] [4] [4]
def impl_TradeProblems_k5 : C :=
 .seq (.reg false [.V 82 (.mv (.t 4)),.W 2 (.asg (.t 82)),.V 3 (.asg (.c (.int .i64 0)))] [2,3] [2,4]) .ret
def impl_TradeProblems_k6 : C :=
 .seq (.seq (.reg false [.V 52 (.fa 7 (.t 1)),.V 53 (.ld none (.t 52)),.V 54 (.call (.c (.fn 210 [])) [.t 53,.c (.str [99,97,115,104])]),.V 51 (.mv (.t 54)),.V 55 (.ext (.t 51) 0),.V 56 (.ext (.t 51) 1),.V 9 (.asg (.t 55)),.V 10 (.asg (.t 56))] [1,4,9,10] [1,4,2000,2001,2003,2004,2006,2007]) (.seq (.reg false [.V 57 (.mv (.t 10)),.V 58 (.bin .eql (.t 57) (.c (.int .i64 0)))] [1,4,9,58] [1,4,2000,2001,2003,2004,2006,2007]) (.cond (.t 58) (.seq (.reg false [.V 11 (.asg (.c (.int .i64 0)))] [1,4,9,11] [1,4,2000,2001,2003,2004,2006,2007]) (.seq (.seq (.reg false [.V 59 (.fa 7 (.t 1)),.V 60 (.ld none (.t 59)),.V 61 (.mv (.t 9)),.V 62 (.bin .add (.t 61) (.c (.int .i64 1))),.V 63 (.slc 4 (.t 60) none (some (.t 62))),.V 64 (.len (.t 63)),.V 65 (.mv (.c (.int .i64 0)))] [4,9,11,63,64,65] [4]) (.block 2 (.loop impl_TradeProblems_k3))) impl_TradeProblems_k4)) .skip))) impl_TradeProblems_k5
def impl_TradeProblems_ir : Fn := { np := 1,io := [],res := [.t 2,.t 3],own := [true,false],body :=
 (.seq (.reg false [.W 1 (.box 8 (.t 0)),.W 2 (.asg (.c (.nils 3))),.V 3 (.asg (.c (.int .i64 0)))] [1] [1,2000,2001,2003,2004,2006,2007]) (.seq (.seq (.reg false [.V 14 (.ld (some 8) (.t 1)),.V 15 (.call (.c (.fn 201 [])) [.t 14]),.V 16 (.un .not (.t 15))] [1,16] [1,2000,2001,2003,2004,2006,2007]) (.cond (.t 16) (.seq (.reg false [.W 2 (.asg (.c (.nils 3))),.V 3 (.asg (.c (.int .i64 1)))] [2,3] [2,4]) .ret) .skip)) (.seq (.reg false [.V 17 (.bsl 3 (.agg [.int .i64 0,.str [],.str []]) 0 []),.W 4 (.asg (.t 17))] [1,4] [1,4,2000,2001,2003,2004,2006,2007]) (.seq (.reg false [.V 19 (.fa 6 (.t 1)),.V 20 (.ld none (.t 19)),.V 21 (.call (.c (.fn 711 [])) [.t 20]),.V 18 (.mv (.t 21)),.V 22 (.ext (.t 18) 0),.V 23 (.ext (.t 18) 1),.W 5 (.asg (.t 22)),.V 6 (.asg (.t 23))] [1,4,5] [1,4,5,2000,2001,2003,2004,2006,2007]) (.seq (.seq (.reg false [.V 24 (.mv (.t 5)),.V 25 (.len (.t 24)),.V 26 (.mv (.c (.int .i64 0)))] [1,4,24,25,26] [1,4,5,2000,2001,2003,2004,2006,2007]) (.block 0 (.loop impl_TradeProblems_k1))) impl_TradeProblems_k6))))) }
noncomputable def impl_TradeProblems_D : List (Nat × Callee) := [(201,impl_ValidShop_c),(210,impl_FirstBelow_c),(524,impl_Decimal_c),(622,impl_Entry_change_c),(711,impl_ClashesOf_c)]
def impl_TradeProblems_H : List (Nat × ET) := [(2,T_Problem),(4,T_Problem),(5,(.one (.sl (.one (.int .i64))))),(8,(.one (.int .i64))),(17,T_Problem),(20,T_Paper),(22,(.one (.sl (.one (.int .i64))))),(24,(.one (.sl (.one (.int .i64))))),(29,(.one (.int .i64))),(30,T_Problem),(32,T_Paper),(33,(.one (.int .i64))),(40,T_Paper),(41,(.one (.int .i64))),(48,T_Problem),(49,T_Problem),(53,T_Entry),(60,T_Entry),(63,T_Entry),(74,T_Problem),(80,T_Problem),(81,T_Problem),(82,T_Problem)]
noncomputable def impl_TradeProblems_c : Callee := mkCallee impl_TradeProblems_D impl_TradeProblems_H impl_TradeProblems_ir [.d T_Shop] [.tok T_Problem,.d (.one (.int .i64))] []
noncomputable def impl_TradeProblems (a0 : T_Shop.ty) : Option (List T_Problem.ty × Int) := impl_TradeProblems_c.f (a0,())
noncomputable def impl_TradeProblems_p0  (v24 : List (List Int)) (v25 : Int) (v26 : Int) (r1_0 : List T_Arc.ty) (r1_1 : List T_Neck.ty) (r1_2 : Int) (r1_3 : List T_Step.ty) (r1_4 : List Int) (r1_5 : Int) (r1_6 : List T_Paper.ty) (r1_7 : List T_Entry.ty) (r4 : List T_Problem.ty) : Option (List T_Problem.ty × Int) :=
 goL impl_TradeProblems_D impl_TradeProblems_H (vleave impl_TradeProblems_ir [.d T_Shop] [.tok T_Problem,.d (.one (.int .i64))] [] []) [.c impl_TradeProblems_k0,.l impl_TradeProblems_k1,.e 0,.c impl_TradeProblems_k6]
  ⟨[(1,.loc 1 0 0),(4,.view 4 0 r4.length),(24,.sl (.one (.sl (.one (.int .i64)))) v24),(25,.int .i64 v25),(26,.int .i64 v26)],[(1,some (.var 8 (.agg [.sl T_Arc r1_0,.sl T_Neck r1_1,.int .i64 r1_2,.sl T_Step r1_3,.sl (.one (.int .i64)) r1_4,.int .i64 r1_5,.sl T_Paper r1_6,.sl T_Entry r1_7]))),(4,some (.sl T_Problem r4)),(5,none),(2000,none),(2001,none),(2003,none),(2004,none),(2006,none),(2007,none)]⟩
noncomputable def impl_TradeProblems_p1  (v9 : Int) (v11 : Int) (v63 : List T_Entry.ty) (v64 : Int) (v65 : Int) (r4 : List T_Problem.ty) : Option (List T_Problem.ty × Int) :=
 goL impl_TradeProblems_D impl_TradeProblems_H (vleave impl_TradeProblems_ir [.d T_Shop] [.tok T_Problem,.d (.one (.int .i64))] [] []) [.c impl_TradeProblems_k2,.l impl_TradeProblems_k3,.e 2,.c impl_TradeProblems_k4,.c impl_TradeProblems_k5]
  ⟨[(4,.view 4 0 r4.length),(9,.int .i64 v9),(11,.int .i64 v11),(63,.sl T_Entry v63),(64,.int .i64 v64),(65,.int .i64 v65)],[(4,some (.sl T_Problem r4))]⟩
theorem impl_TradeProblems_eq (a0 : T_Shop.ty) : impl_TradeProblems a0 =
 (impl_ValidShop a0).bind fun x1 =>
  if (!x1) then
   some ([],1)
  else
   (impl_ClashesOf a0.2.2.2.2.2.2.1).bind fun x2 =>
    impl_TradeProblems_p0 x2.1 (x2.1.length : Int) 0 a0.1 a0.2.1 a0.2.2.1 a0.2.2.2.1 a0.2.2.2.2.1 a0.2.2.2.2.2.1 a0.2.2.2.2.2.2.1 a0.2.2.2.2.2.2.2.1 [] :=
 (mk_f _ _ _ _ _ _ _ 4000).trans (by kernel_rfl)
theorem impl_TradeProblems_p0_eq  (v24 : List (List Int)) (v25 : Int) (v26 : Int) (r1_0 : List T_Arc.ty) (r1_1 : List T_Neck.ty) (r1_2 : Int) (r1_3 : List T_Step.ty) (r1_4 : List Int) (r1_5 : Int) (r1_6 : List T_Paper.ty) (r1_7 : List T_Entry.ty) (r4 : List T_Problem.ty) : impl_TradeProblems_p0 v24 v25 v26 r1_0 r1_1 r1_2 r1_3 r1_4 r1_5 r1_6 r1_7 r4 =
 if decide (v26 < v25) then
  if decide (0 ≤ v26) then
   (v24[v26.toNat]?).bind fun x1 =>
    (x1[0]?).bind fun x2 =>
     if decide (0 ≤ x2) then
      (r1_6[x2.toNat]?).bind fun x3 =>
       (x1[1]?).bind fun x4 =>
        if decide (0 ≤ x4) then
         (r1_6[x4.toNat]?).bind fun x5 =>
          if decide (r4.length + 1 < lim) then
           impl_TradeProblems_p0 v24 v25 (IntKind.i64.wrap (v26 + 1)) r1_0 r1_1 r1_2 r1_3 r1_4 r1_5 r1_6 r1_7 ((r4.take r4.length) ++ [(4,x3.1,x5.1,())])
          else
           none
        else
         none
     else
      none
  else
   none
 else
  (impl_FirstBelow r1_7 [99,97,115,104]).bind fun x6 =>
   if (x6.2 == 0) then
    if decide (0 ≤ IntKind.i64.wrap (x6.1 + 1)) && decide (IntKind.i64.wrap (x6.1 + 1) ≤ (r1_7.length : Int)) then
     impl_TradeProblems_p1 x6.1 0 (r1_7.take ((IntKind.i64.wrap (x6.1 + 1)).toNat)) ((r1_7.take ((IntKind.i64.wrap (x6.1 + 1)).toNat)).length : Int) 0 r4
    else
     none
   else
    some ((r4.take r4.length),0) :=
 (goL_dn _ _ _ 4000 _ _).trans (by kernel_rfl)
theorem impl_TradeProblems_p1_eq  (v9 : Int) (v11 : Int) (v63 : List T_Entry.ty) (v64 : Int) (v65 : Int) (r4 : List T_Problem.ty) : impl_TradeProblems_p1 v9 v11 v63 v64 v65 r4 =
 if decide (v65 < v64) then
  if decide (0 ≤ v65) then
   (v63[v65.toNat]?).bind fun x1 =>
    (impl_Entry_change x1 [99,97,115,104]).bind fun x2 =>
     impl_TradeProblems_p1 v9 (IntKind.i64.wrap (v11 + x2)) v63 v64 (IntKind.i64.wrap (v65 + 1)) r4
  else
   none
 else
  (impl_Decimal v9).bind fun x3 =>
   (impl_Decimal v11).bind fun x4 =>
    if decide (r4.length + 1 < lim) then
     some ((((r4.take r4.length) ++ [(5,x3,x4,())]).take (((r4.take r4.length) ++ [(5,x3,x4,())]).length)),0)
    else
     none :=
 (goL_dn _ _ _ 4000 _ _).trans (by kernel_rfl)
def impl_AuditShop_k0 : C :=
 .seq (.reg false [.V 12 (.bin .lss (.t 11) (.c (.int .i64 3)))] [1,4,10,11,12] [1,4,2000,2001,2003,2004,2006,2007]) (.seq (.cond (.t 12) .skip (.exit 0)) (.seq (.block 1 (.seq (.reg false [.V 13 (.ixa 3 1 none (.t 10) (.t 11)),.V 6 (.asg (.t 13))] [1,4,6,10,11] [1,4,2000,2001,2003,2004,2006,2007]) (.seq (.reg false [.V 15 (.mv (.t 6)),.V 16 (.ld (some 8) (.t 1)),.V 17 (.call (.t 15) [.t 16]),.V 14 (.mv (.t 17)),.V 18 (.ext (.t 14) 0),.V 19 (.ext (.t 14) 1),.W 7 (.asg (.t 18)),.V 8 (.asg (.t 19))] [1,4,7,8,10,11] [1,4,7,2000,2001,2003,2004,2006,2007]) (.seq (.seq (.reg false [.V 20 (.mv (.t 8)),.V 21 (.bin .neq (.t 20) (.c (.int .i64 0)))] [1,4,7,8,10,11,21] [1,4,7,2000,2001,2003,2004,2006,2007]) (.cond (.t 21) (.seq (.reg false [.V 22 (.mv (.t 8)),.W 2 (.asg (.c (.nils 3))),.V 3 (.asg (.t 22))] [2,3] [2,4]) .ret) .skip)) (.reg false [.V 23 (.mv (.t 4)),.V 24 (.mv (.t 7)),.W 25 (.app 3 40 (.t 23) (.t 24)),.W 4 (.asg (.t 25))] [1,4,10,11] [1,4,2000,2001,2003,2004,2006,2007]))))) (.reg false [.V 26 (.bin .add (.t 11) (.c (.int .i64 1))),.V 11 (.mv (.t 26))] [1,4,10,11] [1,4,2000,2001,2003,2004,2006,2007])))
def impl_AuditShop_k1 : C :=
 .norm [1,4,10,11] [1,4,2000,2001,2003,2004,2006,2007] impl_AuditShop_k0
def impl_AuditShop_k2 : C :=
 .seq (.reg false [.V 27 (.mv (.t 4)),.W 2 (.asg (.t 27)),.V 3 (.asg (.c (.int .i64 0)))] [2,3] [2,4]) .ret
def impl_AuditShop_ir : Fn := { np := 1,io := [],res := [.t 2,.t 3],own := [true,false],body :=
 (.seq (.reg false [.W 1 (.box 8 (.t 0)),.W 2 (.asg (.c (.nils 3))),.V 3 (.asg (.c (.int .i64 0)))] [1] [1,2000,2001,2003,2004,2006,2007]) (.seq (.reg false [.V 9 (.bsl 3 (.agg [.int .i64 0,.str [],.str []]) 0 []),.W 4 (.asg (.t 9))] [1,4] [1,4,2000,2001,2003,2004,2006,2007]) (.seq (.seq (.reg false [.V 10 (.build [.cst .nilFunc,.cst .nilFunc,.cst .nilFunc] [(0,1,.c (.fn 283 [])),(1,1,.c (.fn 285 [])),(2,1,.c (.fn 282 []))]),.V 11 (.mv (.c (.int .i64 0)))] [1,4,10,11] [1,4,2000,2001,2003,2004,2006,2007]) (.block 0 (.loop impl_AuditShop_k1))) impl_AuditShop_k2))) }
noncomputable def impl_AuditShop_D : List (Nat × Callee) := [(282,impl_TradeProblems_c),(283,impl_BodyProblems_c),(285,impl_WorkProblems_c)]
def impl_AuditShop_H : List (Nat × ET) := [(2,T_Problem),(4,T_Problem),(7,T_Problem),(9,T_Problem),(18,T_Problem),(23,T_Problem),(24,T_Problem),(25,T_Problem),(27,T_Problem)]
noncomputable def impl_AuditShop_c : Callee := mkCallee impl_AuditShop_D impl_AuditShop_H impl_AuditShop_ir [.d T_Shop] [.tok T_Problem,.d (.one (.int .i64))] []
noncomputable def impl_AuditShop (a0 : T_Shop.ty) : Option (List T_Problem.ty × Int) := impl_AuditShop_c.f (a0,())
noncomputable def impl_AuditShop_p0  (v11 : Int) (r1_0 : List T_Arc.ty) (r1_1 : List T_Neck.ty) (r1_2 : Int) (r1_3 : List T_Step.ty) (r1_4 : List Int) (r1_5 : Int) (r1_6 : List T_Paper.ty) (r1_7 : List T_Entry.ty) (r4 : List T_Problem.ty) : Option (List T_Problem.ty × Int) :=
 goL impl_AuditShop_D impl_AuditShop_H (vleave impl_AuditShop_ir [.d T_Shop] [.tok T_Problem,.d (.one (.int .i64))] [] []) [.c impl_AuditShop_k0,.l impl_AuditShop_k1,.e 0,.c impl_AuditShop_k2]
  ⟨[(1,.loc 1 0 0),(4,.view 4 0 r4.length),(10,.agg [.fn 283 [],.fn 285 [],.fn 282 []]),(11,.int .i64 v11)],[(1,some (.var 8 (.agg [.sl T_Arc r1_0,.sl T_Neck r1_1,.int .i64 r1_2,.sl T_Step r1_3,.sl (.one (.int .i64)) r1_4,.int .i64 r1_5,.sl T_Paper r1_6,.sl T_Entry r1_7]))),(4,some (.sl T_Problem r4)),(2000,none),(2001,none),(2003,none),(2004,none),(2006,none),(2007,none)]⟩
theorem impl_AuditShop_eq (a0 : T_Shop.ty) : impl_AuditShop a0 =
 impl_AuditShop_p0 0 a0.1 a0.2.1 a0.2.2.1 a0.2.2.2.1 a0.2.2.2.2.1 a0.2.2.2.2.2.1 a0.2.2.2.2.2.2.1 a0.2.2.2.2.2.2.2.1 [] :=
 (mk_f _ _ _ _ _ _ _ 4000).trans (by kernel_rfl)
theorem impl_AuditShop_p0_eq  (v11 : Int) (r1_0 : List T_Arc.ty) (r1_1 : List T_Neck.ty) (r1_2 : Int) (r1_3 : List T_Step.ty) (r1_4 : List Int) (r1_5 : Int) (r1_6 : List T_Paper.ty) (r1_7 : List T_Entry.ty) (r4 : List T_Problem.ty) : impl_AuditShop_p0 v11 r1_0 r1_1 r1_2 r1_3 r1_4 r1_5 r1_6 r1_7 r4 =
 if decide (v11 < 3) then
  if decide (v11 = 0) then
   (impl_BodyProblems (r1_0,r1_1,r1_2,r1_3,r1_4,r1_5,r1_6,r1_7,())).bind fun x1 =>
    if (x1.2 != 0) then
     some ([],x1.2)
    else
     if decide (r4.length + (x1.1.take x1.1.length).length < lim) then
      impl_AuditShop_p0 (IntKind.i64.wrap (v11 + 1)) r1_0 r1_1 r1_2 r1_3 r1_4 r1_5 r1_6 r1_7 ((r4.take r4.length) ++ (x1.1.take x1.1.length))
     else
      none
  else
   if decide (v11 = 1) then
    (impl_WorkProblems (r1_0,r1_1,r1_2,r1_3,r1_4,r1_5,r1_6,r1_7,())).bind fun x2 =>
     if (x2.2 != 0) then
      some ([],x2.2)
     else
      if decide (r4.length + (x2.1.take x2.1.length).length < lim) then
       impl_AuditShop_p0 (IntKind.i64.wrap (v11 + 1)) r1_0 r1_1 r1_2 r1_3 r1_4 r1_5 r1_6 r1_7 ((r4.take r4.length) ++ (x2.1.take x2.1.length))
      else
       none
   else
    if decide (v11 = 2) then
     (impl_TradeProblems (r1_0,r1_1,r1_2,r1_3,r1_4,r1_5,r1_6,r1_7,())).bind fun x3 =>
      if (x3.2 != 0) then
       some ([],x3.2)
      else
       if decide (r4.length + (x3.1.take x3.1.length).length < lim) then
        impl_AuditShop_p0 (IntKind.i64.wrap (v11 + 1)) r1_0 r1_1 r1_2 r1_3 r1_4 r1_5 r1_6 r1_7 ((r4.take r4.length) ++ (x3.1.take x3.1.length))
       else
        none
    else
     none
 else
  some ((r4.take r4.length),0) :=
 (goL_dn _ _ _ 4000 _ _).trans (by kernel_rfl)
def impl_PassesAudit_ir : Fn := { np := 1,io := [],res := [.t 2],own := [false],body :=
 (.seq (.reg false [.W 1 (.box 8 (.t 0)),.V 2 (.asg (.c (.bool false)))] [1] [1,2000,2001,2003,2004,2006,2007]) (.seq (.reg false [.V 6 (.ld (some 8) (.t 1)),.V 7 (.call (.c (.fn 286 [])) [.t 6]),.V 5 (.mv (.t 7)),.V 8 (.ext (.t 5) 0),.V 9 (.ext (.t 5) 1),.W 3 (.asg (.t 8)),.V 4 (.asg (.t 9))] [3,4] [3]) (.seq (.reg false [.V 10 (.mv (.t 4)),.V 11 (.bin .eql (.t 10) (.c (.int .i64 0))),.V 12 (.mv (.t 11)),.G 13 (.mv (.t 3)) 2 true,.G 14 (.len (.t 13)) 2 true,.G 15 (.bin .eql (.t 14) (.c (.int .i64 0))) 2 true,.V 16 (.pick (.t 12) (.t 15) (.c (.bool false))),.V 2 (.asg (.t 16))] [2] []) .ret))) }
noncomputable def impl_PassesAudit_D : List (Nat × Callee) := [(286,impl_AuditShop_c)]
def impl_PassesAudit_H : List (Nat × ET) := [(3,T_Problem),(8,T_Problem),(13,T_Problem)]
noncomputable def impl_PassesAudit_c : Callee := mkCallee impl_PassesAudit_D impl_PassesAudit_H impl_PassesAudit_ir [.d T_Shop] [.d (.one .bool)] []
noncomputable def impl_PassesAudit (a0 : T_Shop.ty) : Option (Bool) := impl_PassesAudit_c.f (a0,())
theorem impl_PassesAudit_eq (a0 : T_Shop.ty) : impl_PassesAudit a0 =
 (impl_AuditShop a0).bind fun x1 =>
  if (x1.2 == 0) then
   some ((x1.1.length : Int) == 0)
  else
   some false :=
 (mk_f _ _ _ _ _ _ _ 4000).trans (by kernel_rfl)
def impl_CountProblems_k0 : C :=
 .seq (.reg false [.V 10 (.bin .lss (.t 9) (.t 8))] [3,7,8,9,10] [3]) (.seq (.cond (.t 10) .skip (.exit 0)) (.seq (.block 1 (.seq (.reg false [.V 11 (.ia 3 (.t 7) (.t 9)),.V 12 (.ld (some 3) (.t 11)),.W 5 (.alloc 3 (.agg [.int .i64 0,.str [],.str []])),⟨none,true,.sto 3 (.t 5) (.t 12),none,false,[]⟩] [3,5,7,8,9] [3,5]) (.seq (.reg false [.V 13 (.fa 0 (.t 5)),.V 14 (.ld none (.t 13)),.V 15 (.call (.c (.fn 23 [])) [.t 14,.c (.int .i64 1),.c (.int .i64 5)])] [3,5,7,8,9,15] [3,5]) (.cond (.t 15) (.seq (.reg false [.V 16 (.mv (.t 3)),.V 17 (.ia 1 (.t 16) (.c (.int .i64 0))),.V 18 (.ld none (.t 17)),.V 19 (.bin .add (.t 18) (.c (.int .i64 1))),.V 20 (.ia 1 (.t 16) (.c (.int .i64 0))),⟨none,true,.sto 1 (.t 20) (.t 19),none,false,[]⟩] [3,5,7,8,9] [3,5]) (.reg false [.V 21 (.mv (.t 3)),.V 22 (.fa 0 (.t 5)),.V 23 (.ld none (.t 22)),.V 24 (.ia 1 (.t 21) (.t 23)),.V 25 (.ld none (.t 24)),.V 26 (.bin .add (.t 25) (.c (.int .i64 1))),.V 27 (.ia 1 (.t 21) (.t 23)),⟨none,true,.sto 1 (.t 27) (.t 26),none,false,[]⟩] [3,7,8,9] [3])) .skip)))) (.reg false [.V 28 (.bin .add (.t 9) (.c (.int .i64 1))),.V 9 (.mv (.t 28))] [3,7,8,9] [3])))
def impl_CountProblems_k1 : C :=
 .norm [3,7,8,9] [3] impl_CountProblems_k0
def impl_CountProblems_k2 : C :=
 .seq (.reg false [.V 29 (.mv (.t 3)),.W 2 (.asg (.t 29))] [2] [2,3]) .ret
def impl_CountProblems_ir : Fn := { np := 1,io := [],res := [.t 2],own := [true],body :=
 (.seq (.reg false [.W 2 (.asg (.c (.nils 1)))] [0] []) (.seq (.reg false [.V 6 (.mks 1 8 (.int .i64 0) (.c (.int .i64 6)) (.c (.int .i64 6))),.W 3 (.asg (.t 6))] [0,3] [3]) (.seq (.seq (.reg false [.V 7 (.mv (.t 0)),.V 8 (.len (.t 7)),.V 9 (.mv (.c (.int .i64 0)))] [3,7,8,9] [3]) (.block 0 (.loop impl_CountProblems_k1))) impl_CountProblems_k2))) }
noncomputable def impl_CountProblems_D : List (Nat × Callee) := [(23,impl_within_c)]
def impl_CountProblems_H : List (Nat × ET) := [(2,(.one (.int .i64))),(3,(.one (.int .i64))),(6,(.one (.int .i64))),(7,T_Problem),(16,(.one (.int .i64))),(21,(.one (.int .i64))),(29,(.one (.int .i64)))]
noncomputable def impl_CountProblems_c : Callee := mkCallee impl_CountProblems_D impl_CountProblems_H impl_CountProblems_ir [.d (.one (.sl T_Problem))] [.tok (.one (.int .i64))] []
noncomputable def impl_CountProblems (a0 : List T_Problem.ty) : Option (List Int) := impl_CountProblems_c.f (a0,())
noncomputable def impl_CountProblems_p0  (v3n : Nat) (v7 : List T_Problem.ty) (v8 : Int) (v9 : Int) (r3 : List Int) : Option (List Int) :=
 goL impl_CountProblems_D impl_CountProblems_H (vleave impl_CountProblems_ir [.d (.one (.sl T_Problem))] [.tok (.one (.int .i64))] [] []) [.c impl_CountProblems_k0,.l impl_CountProblems_k1,.e 0,.c impl_CountProblems_k2]
  ⟨[(3,.view 3 0 v3n),(7,.sl T_Problem v7),(8,.int .i64 v8),(9,.int .i64 v9)],[(3,some (.sl (.one (.int .i64)) r3))]⟩
theorem impl_CountProblems_eq (a0 : List T_Problem.ty) : impl_CountProblems a0 =
 impl_CountProblems_p0 6 a0 (a0.length : Int) 0 [0,0,0,0,0,0] :=
 (mk_f _ _ _ _ _ _ _ 4000).trans (by kernel_rfl)
theorem impl_CountProblems_p0_eq  (v3n : Nat) (v7 : List T_Problem.ty) (v8 : Int) (v9 : Int) (r3 : List Int) : impl_CountProblems_p0 v3n v7 v8 v9 r3 =
 if decide (v9 < v8) then
  if decide (0 ≤ v9) then
   (v7[v9.toNat]?).bind fun x1 =>
    (impl_within x1.1 1 5).bind fun x2 =>
     if x2 then
      if decide (0 < (v3n : Int)) then
       (r3[0]?).bind fun x3 =>
        if decide (0 < (v3n : Int)) then
         (r3[0]?).bind fun x4 =>
          if decide (0 ≤ x1.1) && decide (x1.1 < (v3n : Int)) then
           ((r3.set 0 (IntKind.i64.wrap (x3 + 1)))[x1.1.toNat]?).bind fun x5 =>
            if decide (0 ≤ x1.1) && decide (x1.1 < (v3n : Int)) then
             ((r3.set 0 (IntKind.i64.wrap (x3 + 1)))[x1.1.toNat]?).bind fun x6 =>
              impl_CountProblems_p0 v3n v7 v8 (IntKind.i64.wrap (v9 + 1)) ((r3.set 0 (IntKind.i64.wrap (x3 + 1))).set x1.1.toNat (IntKind.i64.wrap (x5 + 1)))
            else
             none
          else
           none
        else
         none
      else
       none
     else
      impl_CountProblems_p0 v3n v7 v8 (IntKind.i64.wrap (v9 + 1)) r3
  else
   none
 else
  some (r3.take v3n) :=
 (goL_dn _ _ _ 4000 _ _).trans (by kernel_rfl)
def impl_at_ir : Fn := { np := 2,io := [],res := [.t 4],own := [false],body :=
 (.seq (.reg false [.V 4 (.asg (.c (.bool false)))] [0,1] []) (.seq (.reg false [.V 5 (.mv (.t 0)),.V 6 (.bin .geq (.t 5) (.c (.int .i64 0))),.V 7 (.mv (.t 6)),.G 8 (.mv (.t 0)) 2 true,.G 9 (.mv (.t 1)) 2 true,.G 10 (.bin .lss (.t 8) (.t 9)) 2 true,.V 11 (.pick (.t 7) (.t 10) (.c (.bool false))),.V 4 (.asg (.t 11))] [4] []) .ret)) }
noncomputable def impl_at_D : List (Nat × Callee) := []
def impl_at_H : List (Nat × ET) := []
noncomputable def impl_at_c : Callee := mkCallee impl_at_D impl_at_H impl_at_ir [.d (.one (.int .i64)),.d (.one (.int .i64))] [.d (.one .bool)] []
noncomputable def impl_at (a0 : Int) (a1 : Int) : Option (Bool) := impl_at_c.f (a0,a1,())
theorem impl_at_eq (a0 : Int) (a1 : Int) : impl_at a0 a1 =
 if decide (a0 ≥ 0) then
  some (decide (a0 < a1))
 else
  some false :=
 (mk_f _ _ _ _ _ _ _ 4000).trans (by kernel_rfl)
def impl_pick_ir : Fn := { np := 2,io := [],res := [.t 4],own := [false],body :=
 (.seq (.reg false [.V 4 (.asg (.c (.str [])))] [0,1] []) (.seq (.seq (.reg false [.V 5 (.mv (.t 0)),.V 6 (.mv (.t 1)),.V 7 (.len (.t 6)),.V 8 (.call (.c (.fn 4 [])) [.t 5,.t 7]),.V 9 (.un .not (.t 8))] [0,1,9] []) (.cond (.t 9) (.seq (.reg false [.V 4 (.asg (.c (.str [])))] [4] []) .ret) .skip)) (.seq (.reg false [.V 10 (.mv (.t 1)),.V 11 (.mv (.t 0)),.V 12 (.ia 1 (.t 10) (.t 11)),.V 13 (.ld none (.t 12)),.V 4 (.asg (.t 13))] [4] []) .ret))) }
noncomputable def impl_pick_D : List (Nat × Callee) := [(4,impl_at_c)]
def impl_pick_H : List (Nat × ET) := [(6,(.one .str)),(10,(.one .str))]
noncomputable def impl_pick_c : Callee := mkCallee impl_pick_D impl_pick_H impl_pick_ir [.d (.one (.int .i64)),.d (.one (.sl (.one .str)))] [.d (.one .str)] []
noncomputable def impl_pick (a0 : Int) (a1 : List (List UInt8)) : Option (List UInt8) := impl_pick_c.f (a0,a1,())
theorem impl_pick_eq (a0 : Int) (a1 : List (List UInt8)) : impl_pick a0 a1 =
 (impl_at a0 (a1.length : Int)).bind fun x1 =>
  if (!x1) then
   some []
  else
   if decide (0 ≤ a0) then
    (a1[a0.toNat]?).bind fun x2 =>
     some x2
   else
    none :=
 (mk_f _ _ _ _ _ _ _ 4000).trans (by kernel_rfl)
def impl_ProblemName_ir : Fn := { np := 1,io := [],res := [.t 2],own := [false],body :=
 (.seq (.reg false [.V 2 (.asg (.c (.str [])))] [0] []) (.seq (.reg false [.V 3 (.mv (.t 0)),.V 4 (.bsl 1 (.str []) 6 [(0,.c (.str [])),(1,.c (.str [111,117,116,108,105,110,101])),(2,.c (.str [115,116,114,105,110,103])),(3,.c (.str [99,108,97,109,112])),(4,.c (.str [114,101,110,116,97,108])),(5,.c (.str [99,97,115,104]))]),.V 5 (.call (.c (.fn 5 [])) [.t 3,.t 4]),.V 2 (.asg (.t 5))] [2] []) .ret)) }
noncomputable def impl_ProblemName_D : List (Nat × Callee) := [(5,impl_pick_c)]
def impl_ProblemName_H : List (Nat × ET) := [(4,(.one .str))]
noncomputable def impl_ProblemName_c : Callee := mkCallee impl_ProblemName_D impl_ProblemName_H impl_ProblemName_ir [.d (.one (.int .i64))] [.d (.one .str)] []
noncomputable def impl_ProblemName (a0 : Int) : Option (List UInt8) := impl_ProblemName_c.f (a0,())
theorem impl_ProblemName_eq (a0 : Int) : impl_ProblemName a0 =
 (impl_pick a0 [[],[111,117,116,108,105,110,101],[115,116,114,105,110,103],[99,108,97,109,112],[114,101,110,116,97,108],[99,97,115,104]]).bind fun x1 =>
  some x1 :=
 (mk_f _ _ _ _ _ _ _ 4000).trans (by kernel_rfl)
def impl_ProblemText_ir : Fn := { np := 1,io := [],res := [.t 2],own := [false],body :=
 (.seq (.reg false [.W 1 (.box 3 (.t 0)),.V 2 (.asg (.c (.str [])))] [1] [1]) (.seq (.reg false [.V 4 (.fa 0 (.t 1)),.V 5 (.ld none (.t 4)),.V 6 (.call (.c (.fn 6 [])) [.t 5]),.V 3 (.asg (.t 6))] [1,3] [1]) (.seq (.seq (.reg false [.V 7 (.mv (.t 3)),.V 8 (.bin .eql (.t 7) (.c (.str [])))] [1,3,8] [1]) (.cond (.t 8) (.seq (.reg false [.V 2 (.asg (.c (.str [])))] [2] []) .ret) .skip)) (.seq (.reg false [.V 9 (.mv (.t 3)),.V 10 (.bin .add (.t 9) (.c (.str [32]))),.V 11 (.fa 1 (.t 1)),.V 12 (.ld none (.t 11)),.V 13 (.bin .add (.t 10) (.t 12)),.V 14 (.bin .add (.t 13) (.c (.str [32]))),.V 15 (.fa 2 (.t 1)),.V 16 (.ld none (.t 15)),.V 17 (.bin .add (.t 14) (.t 16)),.V 2 (.asg (.t 17))] [2] []) .ret)))) }
noncomputable def impl_ProblemText_D : List (Nat × Callee) := [(6,impl_ProblemName_c)]
def impl_ProblemText_H : List (Nat × ET) := []
noncomputable def impl_ProblemText_c : Callee := mkCallee impl_ProblemText_D impl_ProblemText_H impl_ProblemText_ir [.d T_Problem] [.d (.one .str)] []
noncomputable def impl_ProblemText (a0 : T_Problem.ty) : Option (List UInt8) := impl_ProblemText_c.f (a0,())
theorem impl_ProblemText_eq (a0 : T_Problem.ty) : impl_ProblemText a0 =
 (impl_ProblemName a0.1).bind fun x1 =>
  if (x1 == []) then
   some []
  else
   if decide (x1.length + [32].length ≤ strMax) then
    if decide ((x1 ++ [32]).length + a0.2.1.length ≤ strMax) then
     if decide (((x1 ++ [32]) ++ a0.2.1).length + [32].length ≤ strMax) then
      if decide ((((x1 ++ [32]) ++ a0.2.1) ++ [32]).length + a0.2.2.1.length ≤ strMax) then
       some ((((x1 ++ [32]) ++ a0.2.1) ++ [32]) ++ a0.2.2.1)
      else
       none
     else
      none
    else
     none
   else
    none :=
 (mk_f _ _ _ _ _ _ _ 4000).trans (by kernel_rfl)
def laws_FnAudit_k0 : C :=
 .seq (.seq (.reg false [.V 102 (.mv (.t 13)),.V 103 (.mv (.t 4)),.V 104 (.len (.t 103)),.V 105 (.bin .lss (.t 102) (.t 104))] [3,4,13,105] [3,4,4000,4001,4003,4004,4006,4007]) (.cond (.t 105) .skip (.exit 0))) (.seq (.block 1 (.seq (.reg false [.V 108 (.mv (.t 4)),.V 109 (.mv (.t 13)),.V 110 (.ia 3 (.t 108) (.t 109)),.V 111 (.ld (some 3) (.t 110)),.V 112 (.call (.c (.fn 8 [])) [.t 111]),.V 113 (.bin .eql (.t 112) (.c (.str []))),.V 114 (.mv (.t 113)),.G 115 (.mv (.t 4)) 6 false,.G 116 (.mv (.t 13)) 6 false,.G 117 (.ia 3 (.t 115) (.t 116)) 6 false,.G 118 (.fa 0 (.t 117)) 6 false,.G 119 (.ld none (.t 118)) 6 false,.G 120 (.call (.c (.fn 6 [])) [.t 119]) 6 false,.G 121 (.bin .eql (.t 120) (.c (.str []))) 6 false,.V 122 (.pick (.t 114) (.c (.bool true)) (.t 121))] [3,4,13,122] [3,4,4000,4001,4003,4004,4006,4007]) (.cond (.t 122) (.seq (.reg false [.V 2 (.asg (.c (.bool false)))] [2] []) .ret) .skip))) (.reg false [.V 106 (.mv (.t 13)),.V 107 (.bin .add (.t 106) (.c (.int .i64 1))),.V 13 (.asg (.t 107))] [3,4,13] [3,4,4000,4001,4003,4004,4006,4007]))
def laws_FnAudit_k1 : C :=
 .norm [3,4,13] [3,4,4000,4001,4003,4004,4006,4007] laws_FnAudit_k0
def laws_FnAudit_k2 : C :=
 .seq (.reg true [.V 151 (.mv (.t 16)),.V 152 (.bin .eql (.t 151) (.c (.int .i64 0))),.V 153 (.mv (.t 152)),.G 154 (.mv (.t 17)) 2 true,.G 155 (.len (.t 154)) 2 true,.G 156 (.bin .eql (.t 155) (.c (.int .i64 6))) 2 true,.V 157 (.pick (.t 153) (.t 156) (.c (.bool false))),.V 158 (.mv (.t 157)),.G 159 (.mv (.t 17)) 7 true,.G 160 (.ia 1 (.t 159) (.c (.int .i64 2))) 7 true,.G 161 (.ld none (.t 160)) 7 true,.G 162 (.fa 1 (.t 3)) 7 true,.G 163 (.ld none (.t 162)) 7 true,.G 164 (.len (.t 163)) 7 true,.G 165 (.bin .eql (.t 161) (.t 164)) 7 true,.V 166 (.pick (.t 158) (.t 165) (.c (.bool false))),.V 167 (.mv (.t 166)),.G 168 (.mv (.t 19)) 16 true,.G 169 (.ia 3 (.t 168) (.c (.int .i64 0))) 16 true,.G 170 (.fa 0 (.t 169)) 16 true,.G 171 (.ld none (.t 170)) 16 true,.G 172 (.bin .eql (.t 171) (.c (.int .i64 4))) 16 true,.V 173 (.pick (.t 167) (.t 172) (.c (.bool false))),.V 174 (.mv (.t 173)),.G 175 (.mv (.t 19)) 23 true,.G 176 (.ia 3 (.t 175) (.c (.int .i64 0))) 23 true,.G 177 (.fa 1 (.t 176)) 23 true,.G 178 (.ld none (.t 177)) 23 true,.G 179 (.bin .eql (.t 178) (.c (.str [97]))) 23 true,.V 180 (.pick (.t 174) (.t 179) (.c (.bool false))),.V 181 (.mv (.t 180)),.G 182 (.mv (.t 19)) 30 true,.G 183 (.ia 3 (.t 182) (.c (.int .i64 0))) 30 true,.G 184 (.fa 2 (.t 183)) 30 true,.G 185 (.ld none (.t 184)) 30 true,.G 186 (.bin .eql (.t 185) (.c (.str [98]))) 30 true,.V 187 (.pick (.t 181) (.t 186) (.c (.bool false))),.V 2 (.asg (.t 187))] [2] []) .ret
def laws_FnAudit_k3 : C :=
 .seq (.reg false [.V 123 (.ld (some 8) (.t 3)),.W 14 (.alloc 8 (.agg [.nils 6,.nils 4,.int .i64 0,.nils 4,.nils 1,.int .i64 0,.nils 5,.nils 4])),⟨none,true,.sto 8 (.t 14) (.t 123),none,false,[]⟩] [3,14] [3,14,4000,4001,4003,4004,4006,4007,15000,15001,15003,15004,15006,15007]) (.seq (.reg false [.V 124 (.fa 2 (.t 14)),⟨none,true,.sto 1 (.t 124) (.c (.int .i64 0)),none,false,[]⟩] [3,14] [3,14,4000,4001,4003,4004,4006,4007,15000,15001,15003,15004,15006,15007]) (.seq (.reg false [.V 126 (.ld (some 8) (.t 14)),.V 127 (.call (.c (.fn 283 [])) [.t 126]),.V 125 (.mv (.t 127)),.V 128 (.ext (.t 125) 0),.V 129 (.ext (.t 125) 1),.W 15 (.asg (.t 128)),.V 16 (.asg (.t 129))] [3,15,16] [3,15,4000,4001,4003,4004,4006,4007]) (.seq (.reg false [.V 130 (.mv (.t 15)),.V 131 (.call (.c (.fn 44 [])) [.t 130]),.W 17 (.asg (.t 131))] [3,16,17] [3,17,4000,4001,4003,4004,4006,4007]) (.seq (.reg false [.V 132 (.ld (some 8) (.t 3)),.W 18 (.alloc 8 (.agg [.nils 6,.nils 4,.int .i64 0,.nils 4,.nils 1,.int .i64 0,.nils 5,.nils 4])),⟨none,true,.sto 8 (.t 18) (.t 132),none,false,[]⟩] [3,16,17,18] [3,17,18,4000,4001,4003,4004,4006,4007,19000,19001,19003,19004,19006,19007]) (.seq (.reg false [.V 133 (.bsl 5 (.agg [.str [],.str [],.int .i64 0,.int .i64 0,.int .i64 0]) 0 []),.V 134 (.build [.str [],.str [],.int .i64 0,.int .i64 0,.int .i64 0] [(0,1,.c (.str [97])),(1,1,.c (.str [118,105,111,108,97])),(3,1,.c (.int .i64 2))]),.V 135 (.build [.str [],.str [],.int .i64 0,.int .i64 0,.int .i64 0] [(0,1,.c (.str [98])),(1,1,.c (.str [118,105,111,108,97])),(2,1,.c (.int .i64 40)),(3,1,.c (.int .i64 1))]),.V 136 (.bsl 5 (.agg [.str [],.str [],.int .i64 0,.int .i64 0,.int .i64 0]) 2 [(0,.t 134),(1,.t 135)]),.W 137 (.app 5 56 (.t 133) (.t 136)),.V 138 (.fa 6 (.t 18)),⟨none,true,.sto 1 (.t 138) (.t 137),none,false,[]⟩] [3,16,17,18] [3,17,18,4000,4001,4003,4004,4006,4007,19000,19001,19003,19004,19006,19007]) (.seq (.reg false [.V 140 (.ld (some 8) (.t 18)),.V 141 (.call (.c (.fn 282 [])) [.t 140]),.V 139 (.mv (.t 141)),.V 142 (.ext (.t 139) 0),.V 143 (.ext (.t 139) 1),.W 19 (.asg (.t 142)),.V 20 (.asg (.t 143))] [3,16,17,19,20] [3,17,19,4000,4001,4003,4004,4006,4007]) (.seq (.seq (.reg false [.V 144 (.mv (.t 20)),.V 145 (.bin .neq (.t 144) (.c (.int .i64 0))),.V 146 (.mv (.t 145)),.G 147 (.mv (.t 19)) 2 false,.G 148 (.len (.t 147)) 2 false,.G 149 (.bin .eql (.t 148) (.c (.int .i64 0))) 2 false,.V 150 (.pick (.t 146) (.c (.bool true)) (.t 149))] [3,16,17,19,150] [3,17,19,4000,4001,4003,4004,4006,4007]) (.cond (.t 150) (.seq (.reg false [.V 2 (.asg (.c (.bool false)))] [2] []) .ret) .skip)) (.norm [3,16,17,19] [3,17,19,4000,4001,4003,4004,4006,4007] laws_FnAudit_k2))))))))
def laws_FnAudit_k4 : C :=
 .seq (.seq (.reg false [.V 13 (.asg (.c (.int .i64 0)))] [3,4,13] [3,4,4000,4001,4003,4004,4006,4007]) (.block 0 (.loop laws_FnAudit_k1))) laws_FnAudit_k3
def laws_FnAudit_ir : Fn := { np := 1,io := [],res := [.t 2],own := [false],body :=
 (.seq (.reg false [.V 2 (.asg (.c (.bool false)))] [0] []) (.seq (.seq (.reg false [.V 21 (.mv (.t 0)),.V 22 (.len (.t 21)),.V 23 (.bin .gtr (.t 22) (.c (.int .i64 1048576)))] [0,23] []) (.cond (.t 23) (.seq (.reg false [.V 2 (.asg (.c (.bool true)))] [2] []) .ret) .skip)) (.seq (.reg false [.V 24 (.mv (.t 0)),.V 25 (.call (.c (.fn 287 [])) [.t 24]),.W 3 (.alloc 8 (.agg [.nils 6,.nils 4,.int .i64 0,.nils 4,.nils 1,.int .i64 0,.nils 5,.nils 4])),⟨none,true,.sto 8 (.t 3) (.t 25),none,false,[]⟩] [3] [3,4000,4001,4003,4004,4006,4007]) (.seq (.seq (.reg false [.V 26 (.ld (some 8) (.t 3)),.V 27 (.call (.c (.fn 202 [])) [.t 26]),.V 28 (.un .not (.t 27))] [3,28] [3,4000,4001,4003,4004,4006,4007]) (.cond (.t 28) (.seq (.reg false [.V 29 (.ld (some 8) (.t 3)),.V 30 (.call (.c (.fn 284 [])) [.t 29]),.V 31 (.un .not (.t 30)),.V 2 (.asg (.t 31))] [2] []) .ret) .skip)) (.seq (.reg false [.V 33 (.ld (some 8) (.t 3)),.V 34 (.call (.c (.fn 286 [])) [.t 33]),.V 32 (.mv (.t 34)),.V 35 (.ext (.t 32) 0),.V 36 (.ext (.t 32) 1),.W 4 (.asg (.t 35)),.V 5 (.asg (.t 36))] [3,4,5] [3,4,4000,4001,4003,4004,4006,4007]) (.seq (.reg false [.V 38 (.ld (some 8) (.t 3)),.V 39 (.call (.c (.fn 283 [])) [.t 38]),.V 37 (.mv (.t 39)),.V 40 (.ext (.t 37) 0),.V 41 (.ext (.t 37) 1),.W 6 (.asg (.t 40)),.V 7 (.asg (.t 41))] [3,4,5,6,7] [3,4,6,4000,4001,4003,4004,4006,4007]) (.seq (.reg false [.V 43 (.ld (some 8) (.t 3)),.V 44 (.call (.c (.fn 285 [])) [.t 43]),.V 42 (.mv (.t 44)),.V 45 (.ext (.t 42) 0),.V 46 (.ext (.t 42) 1),.W 8 (.asg (.t 45)),.V 9 (.asg (.t 46))] [3,4,5,6,7,8,9] [3,4,6,8,4000,4001,4003,4004,4006,4007]) (.seq (.reg false [.V 48 (.ld (some 8) (.t 3)),.V 49 (.call (.c (.fn 282 [])) [.t 48]),.V 47 (.mv (.t 49)),.V 50 (.ext (.t 47) 0),.V 51 (.ext (.t 47) 1),.W 10 (.asg (.t 50)),.V 11 (.asg (.t 51))] [3,4,5,6,7,8,9,10,11] [3,4,6,8,10,4000,4001,4003,4004,4006,4007]) (.seq (.reg false [.V 52 (.mv (.t 4)),.V 53 (.call (.c (.fn 44 [])) [.t 52]),.W 12 (.asg (.t 53))] [3,4,5,6,7,8,9,10,11,12] [3,4,6,8,10,12,4000,4001,4003,4004,4006,4007]) (.seq (.seq (.reg false [.V 54 (.mv (.t 5)),.V 55 (.bin .neq (.t 54) (.c (.int .i64 0))),.V 56 (.mv (.t 55)),.G 57 (.mv (.t 7)) 2 false,.G 58 (.bin .neq (.t 57) (.c (.int .i64 0))) 2 false,.V 59 (.pick (.t 56) (.c (.bool true)) (.t 58)),.V 60 (.mv (.t 59)),.G 61 (.mv (.t 9)) 6 false,.G 62 (.bin .neq (.t 61) (.c (.int .i64 0))) 6 false,.V 63 (.pick (.t 60) (.c (.bool true)) (.t 62)),.V 64 (.mv (.t 63)),.G 65 (.mv (.t 11)) 10 false,.G 66 (.bin .neq (.t 65) (.c (.int .i64 0))) 10 false,.V 67 (.pick (.t 64) (.c (.bool true)) (.t 66)),.V 68 (.mv (.t 67)),.G 69 (.mv (.t 6)) 14 false,.G 70 (.len (.t 69)) 14 false,.G 71 (.mv (.t 8)) 14 false,.G 72 (.len (.t 71)) 14 false,.G 73 (.bin .add (.t 70) (.t 72)) 14 false,.G 74 (.mv (.t 10)) 14 false,.G 75 (.len (.t 74)) 14 false,.G 76 (.bin .add (.t 73) (.t 75)) 14 false,.G 77 (.mv (.t 4)) 14 false,.G 78 (.len (.t 77)) 14 false,.G 79 (.bin .neq (.t 76) (.t 78)) 14 false,.V 80 (.pick (.t 68) (.c (.bool true)) (.t 79)),.V 81 (.mv (.t 80)),.G 82 (.mv (.t 12)) 27 false,.G 83 (.len (.t 82)) 27 false,.G 84 (.bin .neq (.t 83) (.c (.int .i64 6))) 27 false,.V 85 (.pick (.t 81) (.c (.bool true)) (.t 84)),.V 86 (.mv (.t 85)),.G 87 (.mv (.t 12)) 32 false,.G 88 (.ia 1 (.t 87) (.c (.int .i64 0))) 32 false,.G 89 (.ld none (.t 88)) 32 false,.G 90 (.mv (.t 4)) 32 false,.G 91 (.len (.t 90)) 32 false,.G 92 (.bin .neq (.t 89) (.t 91)) 32 false,.V 93 (.pick (.t 86) (.c (.bool true)) (.t 92)),.V 94 (.mv (.t 93)),.G 95 (.ld (some 8) (.t 3)) 40 false,.G 96 (.call (.c (.fn 284 [])) [.t 95]) 40 false,.G 97 (.mv (.t 4)) 40 false,.G 98 (.len (.t 97)) 40 false,.G 99 (.bin .eql (.t 98) (.c (.int .i64 0))) 40 false,.G 100 (.eqb true (.t 96) (.t 99)) 40 false,.V 101 (.pick (.t 94) (.c (.bool true)) (.t 100))] [3,4,101] [3,4,4000,4001,4003,4004,4006,4007]) (.cond (.t 101) (.seq (.reg false [.V 2 (.asg (.c (.bool false)))] [2] []) .ret) .skip)) (.norm [3,4] [3,4,4000,4001,4003,4004,4006,4007] laws_FnAudit_k4))))))))))) }
noncomputable def laws_FnAudit_D : List (Nat × Callee) := [(6,impl_ProblemName_c),(8,impl_ProblemText_c),(44,impl_CountProblems_c),(202,spec_ValidShop_c),(282,impl_TradeProblems_c),(283,impl_BodyProblems_c),(284,impl_PassesAudit_c),(285,impl_WorkProblems_c),(286,impl_AuditShop_c),(287,spec_R8Shop_c)]
def laws_FnAudit_H : List (Nat × ET) := [(4,T_Problem),(6,T_Problem),(8,T_Problem),(10,T_Problem),(12,(.one (.int .i64))),(15,T_Problem),(17,(.one (.int .i64))),(19,T_Problem),(21,(.one (.int .u8))),(24,(.one (.int .u8))),(35,T_Problem),(40,T_Problem),(45,T_Problem),(50,T_Problem),(52,T_Problem),(53,(.one (.int .i64))),(69,T_Problem),(71,T_Problem),(74,T_Problem),(77,T_Problem),(82,(.one (.int .i64))),(87,(.one (.int .i64))),(90,T_Problem),(97,T_Problem),(103,T_Problem),(108,T_Problem),(115,T_Problem),(128,T_Problem),(130,T_Problem),(131,(.one (.int .i64))),(133,T_Paper),(136,T_Paper),(137,T_Paper),(142,T_Problem),(147,T_Problem),(154,(.one (.int .i64))),(159,(.one (.int .i64))),(163,T_Neck),(168,T_Problem),(175,T_Problem),(182,T_Problem)]
noncomputable def laws_FnAudit_c : Callee := mkCallee laws_FnAudit_D laws_FnAudit_H laws_FnAudit_ir [.d (.one (.sl (.one (.int .u8))))] [.d (.one .bool)] []
noncomputable def laws_FnAudit (a0 : List Int) : Option (Bool) := laws_FnAudit_c.f (a0,())
noncomputable def laws_FnAudit_p0  (r3_0 : List T_Arc.ty) (r3_1 : List T_Neck.ty) (r3_2 : Int) (r3_3 : List T_Step.ty) (r3_4 : List Int) (r3_5 : Int) (r3_6 : List T_Paper.ty) (r3_7 : List T_Entry.ty) (r4 : List T_Problem.ty) : Option (Bool) :=
 goL laws_FnAudit_D laws_FnAudit_H (vleave laws_FnAudit_ir [.d (.one (.sl (.one (.int .u8))))] [.d (.one .bool)] [] []) [.c laws_FnAudit_k4]
  ⟨[(3,.loc 3 0 0),(4,.view 4 0 r4.length)],[(3,some (.var 8 (.agg [.sl T_Arc r3_0,.sl T_Neck r3_1,.int .i64 r3_2,.sl T_Step r3_3,.sl (.one (.int .i64)) r3_4,.int .i64 r3_5,.sl T_Paper r3_6,.sl T_Entry r3_7]))),(4,some (.sl T_Problem r4)),(4000,none),(4001,none),(4003,none),(4004,none),(4006,none),(4007,none)]⟩
noncomputable def laws_FnAudit_p1  (v13 : Int) (r3_0 : List T_Arc.ty) (r3_1 : List T_Neck.ty) (r3_2 : Int) (r3_3 : List T_Step.ty) (r3_4 : List Int) (r3_5 : Int) (r3_6 : List T_Paper.ty) (r3_7 : List T_Entry.ty) (r4 : List T_Problem.ty) : Option (Bool) :=
 goL laws_FnAudit_D laws_FnAudit_H (vleave laws_FnAudit_ir [.d (.one (.sl (.one (.int .u8))))] [.d (.one .bool)] [] []) [.c laws_FnAudit_k0,.l laws_FnAudit_k1,.e 0,.c laws_FnAudit_k3]
  ⟨[(3,.loc 3 0 0),(4,.view 4 0 r4.length),(13,.int .i64 v13)],[(3,some (.var 8 (.agg [.sl T_Arc r3_0,.sl T_Neck r3_1,.int .i64 r3_2,.sl T_Step r3_3,.sl (.one (.int .i64)) r3_4,.int .i64 r3_5,.sl T_Paper r3_6,.sl T_Entry r3_7]))),(4,some (.sl T_Problem r4)),(4000,none),(4001,none),(4003,none),(4004,none),(4006,none),(4007,none)]⟩
noncomputable def laws_FnAudit_p2  (v16 : Int) (r3_0 : List T_Arc.ty) (r3_1 : List T_Neck.ty) (r3_2 : Int) (r3_3 : List T_Step.ty) (r3_4 : List Int) (r3_5 : Int) (r3_6 : List T_Paper.ty) (r3_7 : List T_Entry.ty) (r17 : List Int) (r19 : List T_Problem.ty) : Option (Bool) :=
 goL laws_FnAudit_D laws_FnAudit_H (vleave laws_FnAudit_ir [.d (.one (.sl (.one (.int .u8))))] [.d (.one .bool)] [] []) [.c laws_FnAudit_k2]
  ⟨[(3,.loc 3 0 0),(16,.int .i64 v16),(17,.view 17 0 r17.length),(19,.view 19 0 r19.length)],[(3,some (.var 8 (.agg [.sl T_Arc r3_0,.sl T_Neck r3_1,.int .i64 r3_2,.sl T_Step r3_3,.sl (.one (.int .i64)) r3_4,.int .i64 r3_5,.sl T_Paper r3_6,.sl T_Entry r3_7]))),(17,some (.sl (.one (.int .i64)) r17)),(19,some (.sl T_Problem r19)),(4000,none),(4001,none),(4003,none),(4004,none),(4006,none),(4007,none)]⟩
theorem laws_FnAudit_eq (a0 : List Int) : laws_FnAudit a0 =
 if decide ((a0.length : Int) > 1048576) then
  some true
 else
  (spec_R8Shop a0).bind fun x1 =>
   (spec_ValidShop x1).bind fun x2 =>
    if (!x2) then
     (impl_PassesAudit x1).bind fun x3 =>
      some (!x3)
    else
     (impl_AuditShop x1).bind fun x4 =>
      (impl_BodyProblems x1).bind fun x5 =>
       (impl_WorkProblems x1).bind fun x6 =>
        (impl_TradeProblems x1).bind fun x7 =>
         (impl_CountProblems (x4.1.take x4.1.length)).bind fun x8 =>
          if (x4.2 != 0) then
           some false
          else
           if (x5.2 != 0) then
            some false
           else
            if (x6.2 != 0) then
             some false
            else
             if (x7.2 != 0) then
              some false
             else
              if (IntKind.i64.wrap ((IntKind.i64.wrap ((x5.1.length : Int) + (x6.1.length : Int))) + (x7.1.length : Int)) != (x4.1.length : Int)) then
               some false
              else
               if ((x8.length : Int) != 6) then
                some false
               else
                if decide (0 < (x8.length : Int)) then
                 (x8[0]?).bind fun x9 =>
                  if (x9 != (x4.1.length : Int)) then
                   some false
                  else
                   (impl_PassesAudit x1).bind fun x10 =>
                    if (!(x10 == ((x4.1.length : Int) == 0))) then
                     some false
                    else
                     laws_FnAudit_p0 x1.1 x1.2.1 x1.2.2.1 x1.2.2.2.1 x1.2.2.2.2.1 x1.2.2.2.2.2.1 x1.2.2.2.2.2.2.1 x1.2.2.2.2.2.2.2.1 x4.1
                else
                 none :=
 (mk_f _ _ _ _ _ _ _ 4000).trans (by kernel_rfl)
theorem laws_FnAudit_p0_eq  (r3_0 : List T_Arc.ty) (r3_1 : List T_Neck.ty) (r3_2 : Int) (r3_3 : List T_Step.ty) (r3_4 : List Int) (r3_5 : Int) (r3_6 : List T_Paper.ty) (r3_7 : List T_Entry.ty) (r4 : List T_Problem.ty) : laws_FnAudit_p0 r3_0 r3_1 r3_2 r3_3 r3_4 r3_5 r3_6 r3_7 r4 =
 laws_FnAudit_p1 0 r3_0 r3_1 r3_2 r3_3 r3_4 r3_5 r3_6 r3_7 r4 :=
 (goL_dn _ _ _ 4000 _ _).trans (by kernel_rfl)
theorem laws_FnAudit_p1_eq  (v13 : Int) (r3_0 : List T_Arc.ty) (r3_1 : List T_Neck.ty) (r3_2 : Int) (r3_3 : List T_Step.ty) (r3_4 : List Int) (r3_5 : Int) (r3_6 : List T_Paper.ty) (r3_7 : List T_Entry.ty) (r4 : List T_Problem.ty) : laws_FnAudit_p1 v13 r3_0 r3_1 r3_2 r3_3 r3_4 r3_5 r3_6 r3_7 r4 =
 if decide (v13 < (r4.length : Int)) then
  if decide (0 ≤ v13) && decide (v13 < (r4.length : Int)) then
   (r4[v13.toNat]?).bind fun x1 =>
    (impl_ProblemText x1).bind fun x2 =>
     if (x2 == []) then
      some false
     else
      if decide (0 ≤ v13) && decide (v13 < (r4.length : Int)) then
       (r4[v13.toNat]?).bind fun x3 =>
        (impl_ProblemName x3.1).bind fun x4 =>
         if (x4 == []) then
          some false
         else
          laws_FnAudit_p1 (IntKind.i64.wrap (v13 + 1)) r3_0 r3_1 r3_2 r3_3 r3_4 r3_5 r3_6 r3_7 r4
      else
       none
  else
   none
 else
  (impl_BodyProblems (r3_0,r3_1,0,r3_3,r3_4,r3_5,r3_6,r3_7,())).bind fun x5 =>
   (impl_CountProblems (x5.1.take x5.1.length)).bind fun x6 =>
    (impl_TradeProblems (r3_0,r3_1,r3_2,r3_3,r3_4,r3_5,[([97],[118,105,111,108,97],0,2,0,()),([98],[118,105,111,108,97],40,1,0,())],r3_7,())).bind fun x7 =>
     if (x7.2 != 0) then
      some false
     else
      if ((x7.1.length : Int) == 0) then
       some false
      else
       laws_FnAudit_p2 x5.2 r3_0 r3_1 r3_2 r3_3 r3_4 r3_5 r3_6 r3_7 x6 x7.1 :=
 (goL_dn _ _ _ 4000 _ _).trans (by kernel_rfl)
theorem laws_FnAudit_p2_eq  (v16 : Int) (r3_0 : List T_Arc.ty) (r3_1 : List T_Neck.ty) (r3_2 : Int) (r3_3 : List T_Step.ty) (r3_4 : List Int) (r3_5 : Int) (r3_6 : List T_Paper.ty) (r3_7 : List T_Entry.ty) (r17 : List Int) (r19 : List T_Problem.ty) : laws_FnAudit_p2 v16 r3_0 r3_1 r3_2 r3_3 r3_4 r3_5 r3_6 r3_7 r17 r19 =
 if (v16 == 0) then
  if ((r17.length : Int) == 6) then
   if decide (2 < (r17.length : Int)) then
    (r17[2]?).bind fun x1 =>
     if (x1 == (r3_1.length : Int)) then
      if decide (0 < (r19.length : Int)) then
       (r19[0]?).bind fun x2 =>
        if (x2.1 == 4) then
         if decide (0 < (r19.length : Int)) then
          (r19[0]?).bind fun x3 =>
           if (x3.2.1 == [97]) then
            if decide (0 < (r19.length : Int)) then
             (r19[0]?).bind fun x4 =>
              some (x4.2.2.1 == [98])
            else
             none
           else
            some false
         else
          none
        else
         some false
      else
       none
     else
      some false
   else
    none
  else
   some false
 else
  some false :=
 (goL_dn _ _ _ 4000 _ _).trans (by kernel_rfl)
end Go.Ab.P
