/- Functions of the program: abstract forms, and what their runs give. Conditions: none. -/
import Derived.Test.YtcadiimcjfakjaaGreatDoorPFnTop1
set_option maxRecDepth 100000
set_option linter.unusedVariables false
namespace Go.Ab.P
open Go.Ab
def impl_TradeProblems_k0 : C :=
 .seq (.reg false [.V 27 (.bin .lss (.t 26) (.t 25))] [1,4,24,25,26,27] [1,4,5,2000,2001,2003,2004,2006,2007]) (.seq (.cond (.t 27) .skip (.exit 0)) (.seq (.block 1 (.seq (.reg false [.V 28 (.ia 1 (.t 24) (.t 26)),.V 29 (.ld none (.t 28)),.W 8 (.asg (.t 29))] [1,4,8,24,25,26] [1,4,5,8,2000,2001,2003,2004,2006,2007]) (.reg true [.V 30 (.mv (.t 4)),.V 31 (.fa 6 (.t 1)),.V 32 (.ld none (.t 31)),.V 33 (.mv (.t 8)),.V 34 (.ia 1 (.t 33) (.c (.int .i64 0))),.V 35 (.ld none (.t 34)),.V 36 (.ia 5 (.t 32) (.t 35)),.V 37 (.fa 0 (.t 36)),.V 38 (.ld none (.t 37)),.V 39 (.fa 6 (.t 1)),.V 40 (.ld none (.t 39)),.V 41 (.mv (.t 8)),.V 42 (.ia 1 (.t 41) (.c (.int .i64 1))),.V 43 (.ld none (.t 42)),.V 44 (.ia 5 (.t 40) (.t 43)),.V 45 (.fa 0 (.t 44)),.V 46 (.ld none (.t 45)),.V 47 (.build [.int .i64 0,.str [],.str []] [(0,1,.c (.int .i64 4)),(1,1,.t 38),(2,1,.t 46)]),.V 48 (.bsl 3 (.agg [.int .i64 0,.str [],.str []]) 1 [(0,.t 47)]),.W 49 (.app 3 40 (.t 30) (.t 48)),.W 4 (.asg (.t 49))] [1,4,24,25,26] [1,4,5,2000,2001,2003,2004,2006,2007]))) (.reg false [.V 50 (.bin .add (.t 26) (.c (.int .i64 1))),.V 26 (.mv (.t 50))] [1,4,24,25,26] [1,4,5,2000,2001,2003,2004,2006,2007])))
def impl_TradeProblems_k1 : C :=
 .norm [1,4,24,25,26] [1,4,5,2000,2001,2003,2004,2006,2007] impl_TradeProblems_k0
def impl_TradeProblems_k2 : C :=
 .seq (.reg false [.V 66 (.bin .lss (.t 65) (.t 64))] [4,9,11,63,64,65,66] [4]) (.seq (.cond (.t 66) .skip (.exit 2)) (.seq (.block 3 (.seq (.reg false [.V 67 (.ia 4 (.t 63) (.t 65)),.V 68 (.ld (some 4) (.t 67)),.W 13 (.alloc 4 (.agg [.int .i64 0,.str [],.str [],.int .i64 0])),⟨none,true,.sto 4 (.t 13) (.t 68),none,false,[]⟩] [4,9,11,13,63,64,65] [4,13]) (.reg false [.V 69 (.mv (.t 11)),.V 70 (.ld (some 4) (.t 13)),.V 71 (.call (.c (.fn 622 [])) [.t 70,.c (.str [99,97,115,104])]),.V 72 (.bin .add (.t 69) (.t 71)),.V 11 (.asg (.t 72))] [4,9,11,63,64,65] [4]))) (.reg false [.V 73 (.bin .add (.t 65) (.c (.int .i64 1))),.V 65 (.mv (.t 73))] [4,9,11,63,64,65] [4])))
def impl_TradeProblems_k3 : C :=
 .norm [4,9,11,63,64,65] [4] impl_TradeProblems_k2
def impl_TradeProblems_k4 : C :=
 .reg false [.V 74 (.mv (.t 4)),.V 75 (.mv (.t 9)),.V 76 (.call (.c (.fn 524 [])) [.t 75]),.V 77 (.mv (.t 11)),.V 78 (.call (.c (.fn 524 [])) [.t 77]),.V 79 (.build [.int .i64 0,.str [],.str []] [(0,1,.c (.int .i64 5)),(1,1,.t 76),(2,1,.t 78)]),.V 80 (.bsl 3 (.agg [.int .i64 0,.str [],.str []]) 1 [(0,.t 79)]),.W 81 (.app 3 40 (.t 74) (.t 80)),.W 4 (.asg (.t 81))] [4] [4]
def impl_TradeProblems_k5 : C :=
 .seq (.reg false [.V 82 (.mv (.t 4)),.W 2 (.asg (.t 82)),.V 3 (.asg (.c (.int .i64 0)))] [2,3] [2,4]) .ret
def impl_TradeProblems_k6 : C :=
 .seq (.seq (.reg false [.V 52 (.fa 7 (.t 1)),.V 53 (.ld none (.t 52)),.V 54 (.call (.c (.fn 210 [])) [.t 53,.c (.str [99,97,115,104])]),.V 51 (.mv (.t 54)),.V 55 (.ext (.t 51) 0),.V 56 (.ext (.t 51) 1),.V 9 (.asg (.t 55)),.V 10 (.asg (.t 56))] [1,4,9,10] [1,4,2000,2001,2003,2004,2006,2007]) (.seq (.reg false [.V 57 (.mv (.t 10)),.V 58 (.bin .eql (.t 57) (.c (.int .i64 0)))] [1,4,9,58] [1,4,2000,2001,2003,2004,2006,2007]) (.cond (.t 58) (.seq (.reg false [.V 11 (.asg (.c (.int .i64 0)))] [1,4,9,11] [1,4,2000,2001,2003,2004,2006,2007]) (.seq (.seq (.reg false [.V 59 (.fa 7 (.t 1)),.V 60 (.ld none (.t 59)),.V 61 (.mv (.t 9)),.V 62 (.bin .add (.t 61) (.c (.int .i64 1))),.V 63 (.slc 4 (.t 60) none (some (.t 62))),.V 64 (.len (.t 63)),.V 65 (.mv (.c (.int .i64 0)))] [4,9,11,63,64,65] [4]) (.block 2 (.loop impl_TradeProblems_k3))) impl_TradeProblems_k4)) .skip))) impl_TradeProblems_k5
def impl_TradeProblems_ir : Fn := { np := 1,io := [],res := [.t 2,.t 3],own := [true,false],body :=
 (.seq (.reg false [.W 1 (.box 8 (.t 0)),.W 2 (.asg (.c (.nils 3))),.V 3 (.asg (.c (.int .i64 0)))] [1] [1,2000,2001,2003,2004,2006,2007]) (.seq (.seq (.reg false [.V 14 (.ld (some 8) (.t 1)),.V 15 (.call (.c (.fn 201 [])) [.t 14]),.V 16 (.un .not (.t 15))] [1,16] [1,2000,2001,2003,2004,2006,2007]) (.cond (.t 16) (.seq (.reg false [.W 2 (.asg (.c (.nils 3))),.V 3 (.asg (.c (.int .i64 1)))] [2,3] [2,4]) .ret) .skip)) (.seq (.reg false [.V 17 (.bsl 3 (.agg [.int .i64 0,.str [],.str []]) 0 []),.W 4 (.asg (.t 17))] [1,4] [1,4,2000,2001,2003,2004,2006,2007]) (.seq (.reg false [.V 19 (.fa 6 (.t 1)),.V 20 (.ld none (.t 19)),.V 21 (.call (.c (.fn 711 [])) [.t 20]),.V 18 (.mv (.t 21)),.V 22 (.ext (.t 18) 0),.V 23 (.ext (.t 18) 1),.W 5 (.asg (.t 22)),.V 6 (.asg (.t 23))] [1,4,5] [1,4,5,2000,2001,2003,2004,2006,2007]) (.seq (.seq (.reg false [.V 24 (.mv (.t 5)),.V 25 (.len (.t 24)),.V 26 (.mv (.c (.int .i64 0)))] [1,4,24,25,26] [1,4,5,2000,2001,2003,2004,2006,2007]) (.block 0 (.loop impl_TradeProblems_k1))) impl_TradeProblems_k6))))) }
noncomputable def impl_TradeProblems_D : List (Nat × Callee) := [(201,impl_ValidShop_c),(210,impl_FirstBelow_c),(524,impl_Decimal_c),(622,impl_Entry_change_c),(711,impl_ClashesOf_c)]
def impl_TradeProblems_H : List (Nat × ET) := [(2,T_Problem),(4,T_Problem),(5,(.one (.sl (.one (.int .i64))))),(8,(.one (.int .i64))),(17,T_Problem),(20,T_Paper),(22,(.one (.sl (.one (.int .i64))))),(24,(.one (.sl (.one (.int .i64))))),(29,(.one (.int .i64))),(30,T_Problem),(32,T_Paper),(33,(.one (.int .i64))),(40,T_Paper),(41,(.one (.int .i64))),(48,T_Problem),(49,T_Problem),(53,T_Entry),(60,T_Entry),(63,T_Entry),(74,T_Problem),(80,T_Problem),(81,T_Problem),(82,T_Problem)]
noncomputable def impl_TradeProblems_c : Callee := mkCallee impl_TradeProblems_D impl_TradeProblems_H impl_TradeProblems_ir [.d T_Shop] [.tok T_Problem,.d (.one (.int .i64))] []
noncomputable def impl_TradeProblems (a0 : T_Shop.ty) : Option (List T_Problem.ty × Int) := impl_TradeProblems_c.f (a0,())
noncomputable def impl_TradeProblems_p0  (v24 : List (List Int)) (v25 : Int) (v26 : Int) (r1_0 : List T_Arc.ty) (r1_1 : List T_Neck.ty) (r1_2 : Int) (r1_3 : List T_Step.ty) (r1_4 : List Int) (r1_5 : Int) (r1_6 : List T_Paper.ty) (r1_7 : List T_Entry.ty) (r4 : List T_Problem.ty) : Option (List T_Problem.ty × Int) :=
 goL impl_TradeProblems_D impl_TradeProblems_H (vleave impl_TradeProblems_ir [.d T_Shop] [.tok T_Problem,.d (.one (.int .i64))] [] []) [.c impl_TradeProblems_k0,.l impl_TradeProblems_k1,.e 0,.c impl_TradeProblems_k6]
  ⟨[(1,.loc 1 0 0),(4,.view 4 0 r4.length),(24,.sl (.one (.sl (.one (.int .i64)))) v24),(25,.int .i64 v25),(26,.int .i64 v26)],[(1,some (.var 8 (.agg [.sl T_Arc r1_0,.sl T_Neck r1_1,.int .i64 r1_2,.sl T_Step r1_3,.sl (.one (.int .i64)) r1_4,.int .i64 r1_5,.sl T_Paper r1_6,.sl T_Entry r1_7]))),(4,some (.sl T_Problem r4)),(5,none),(2000,none),(2001,none),(2003,none),(2004,none),(2006,none),(2007,none)]⟩
noncomputable def impl_TradeProblems_p1  (v9 : Int) (v11 : Int) (v63 : List T_Entry.ty) (v64 : Int) (v65 : Int) (r4 : List T_Problem.ty) : Option (List T_Problem.ty × Int) :=
 goL impl_TradeProblems_D impl_TradeProblems_H (vleave impl_TradeProblems_ir [.d T_Shop] [.tok T_Problem,.d (.one (.int .i64))] [] []) [.c impl_TradeProblems_k2,.l impl_TradeProblems_k3,.e 2,.c impl_TradeProblems_k4,.c impl_TradeProblems_k5]
  ⟨[(4,.view 4 0 r4.length),(9,.int .i64 v9),(11,.int .i64 v11),(63,.sl T_Entry v63),(64,.int .i64 v64),(65,.int .i64 v65)],[(4,some (.sl T_Problem r4))]⟩
theorem impl_TradeProblems_eq (a0 : T_Shop.ty) : impl_TradeProblems a0 =
 (impl_ValidShop a0).bind fun x1 =>
  if (!x1) then
   some ([],1)
  else
   (impl_ClashesOf a0.2.2.2.2.2.2.1).bind fun x2 =>
    impl_TradeProblems_p0 x2.1 (x2.1.length : Int) 0 a0.1 a0.2.1 a0.2.2.1 a0.2.2.2.1 a0.2.2.2.2.1 a0.2.2.2.2.2.1 a0.2.2.2.2.2.2.1 a0.2.2.2.2.2.2.2.1 [] :=
 (mk_f _ _ _ _ _ _ _ 4000).trans (by kernel_rfl)
theorem impl_TradeProblems_p0_eq  (v24 : List (List Int)) (v25 : Int) (v26 : Int) (r1_0 : List T_Arc.ty) (r1_1 : List T_Neck.ty) (r1_2 : Int) (r1_3 : List T_Step.ty) (r1_4 : List Int) (r1_5 : Int) (r1_6 : List T_Paper.ty) (r1_7 : List T_Entry.ty) (r4 : List T_Problem.ty) : impl_TradeProblems_p0 v24 v25 v26 r1_0 r1_1 r1_2 r1_3 r1_4 r1_5 r1_6 r1_7 r4 =
 if decide (v26 < v25) then
  if decide (0 ≤ v26) then
   (v24[v26.toNat]?).bind fun x1 =>
    (x1[0]?).bind fun x2 =>
     if decide (0 ≤ x2) then
      (r1_6[x2.toNat]?).bind fun x3 =>
       (x1[1]?).bind fun x4 =>
        if decide (0 ≤ x4) then
         (r1_6[x4.toNat]?).bind fun x5 =>
          if decide (r4.length + 1 < lim) then
           impl_TradeProblems_p0 v24 v25 (IntKind.i64.wrap (v26 + 1)) r1_0 r1_1 r1_2 r1_3 r1_4 r1_5 r1_6 r1_7 ((r4.take r4.length) ++ [(4,x3.1,x5.1,())])
          else
           none
        else
         none
     else
      none
  else
   none
 else
  (impl_FirstBelow r1_7 [99,97,115,104]).bind fun x6 =>
   if (x6.2 == 0) then
    if decide (0 ≤ IntKind.i64.wrap (x6.1 + 1)) && decide (IntKind.i64.wrap (x6.1 + 1) ≤ (r1_7.length : Int)) then
     impl_TradeProblems_p1 x6.1 0 (r1_7.take ((IntKind.i64.wrap (x6.1 + 1)).toNat)) ((r1_7.take ((IntKind.i64.wrap (x6.1 + 1)).toNat)).length : Int) 0 r4
    else
     none
   else
    some ((r4.take r4.length),0) :=
 (goL_dn _ _ _ 4000 _ _).trans (by kernel_rfl)
theorem impl_TradeProblems_p1_eq  (v9 : Int) (v11 : Int) (v63 : List T_Entry.ty) (v64 : Int) (v65 : Int) (r4 : List T_Problem.ty) : impl_TradeProblems_p1 v9 v11 v63 v64 v65 r4 =
 if decide (v65 < v64) then
  if decide (0 ≤ v65) then
   (v63[v65.toNat]?).bind fun x1 =>
    (impl_Entry_change x1 [99,97,115,104]).bind fun x2 =>
     impl_TradeProblems_p1 v9 (IntKind.i64.wrap (v11 + x2)) v63 v64 (IntKind.i64.wrap (v65 + 1)) r4
  else
   none
 else
  (impl_Decimal v9).bind fun x3 =>
   (impl_Decimal v11).bind fun x4 =>
    if decide (r4.length + 1 < lim) then
     some ((((r4.take r4.length) ++ [(5,x3,x4,())]).take (((r4.take r4.length) ++ [(5,x3,x4,())]).length)),0)
    else
     none :=
 (goL_dn _ _ _ 4000 _ _).trans (by kernel_rfl)
def impl_AuditShop_k0 : C :=
 .seq (.reg false [.V 12 (.bin .lss (.t 11) (.c (.int .i64 3)))] [1,4,10,11,12] [1,4,2000,2001,2003,2004,2006,2007]) (.seq (.cond (.t 12) .skip (.exit 0)) (.seq (.block 1 (.seq (.reg false [.V 13 (.ixa 3 1 none (.t 10) (.t 11)),.V 6 (.asg (.t 13))] [1,4,6,10,11] [1,4,2000,2001,2003,2004,2006,2007]) (.seq (.reg false [.V 15 (.mv (.t 6)),.V 16 (.ld (some 8) (.t 1)),.V 17 (.call (.t 15) [.t 16]),.V 14 (.mv (.t 17)),.V 18 (.ext (.t 14) 0),.V 19 (.ext (.t 14) 1),.W 7 (.asg (.t 18)),.V 8 (.asg (.t 19))] [1,4,7,8,10,11] [1,4,7,2000,2001,2003,2004,2006,2007]) (.seq (.seq (.reg false [.V 20 (.mv (.t 8)),.V 21 (.bin .neq (.t 20) (.c (.int .i64 0)))] [1,4,7,8,10,11,21] [1,4,7,2000,2001,2003,2004,2006,2007]) (.cond (.t 21) (.seq (.reg false [.V 22 (.mv (.t 8)),.W 2 (.asg (.c (.nils 3))),.V 3 (.asg (.t 22))] [2,3] [2,4]) .ret) .skip)) (.reg false [.V 23 (.mv (.t 4)),.V 24 (.mv (.t 7)),.W 25 (.app 3 40 (.t 23) (.t 24)),.W 4 (.asg (.t 25))] [1,4,10,11] [1,4,2000,2001,2003,2004,2006,2007]))))) (.reg false [.V 26 (.bin .add (.t 11) (.c (.int .i64 1))),.V 11 (.mv (.t 26))] [1,4,10,11] [1,4,2000,2001,2003,2004,2006,2007])))
def impl_AuditShop_k1 : C :=
 .norm [1,4,10,11] [1,4,2000,2001,2003,2004,2006,2007] impl_AuditShop_k0
def impl_AuditShop_k2 : C :=
 .seq (.reg false [.V 27 (.mv (.t 4)),.W 2 (.asg (.t 27)),.V 3 (.asg (.c (.int .i64 0)))] [2,3] [2,4]) .ret
def impl_AuditShop_ir : Fn := { np := 1,io := [],res := [.t 2,.t 3],own := [true,false],body :=
 (.seq (.reg false [.W 1 (.box 8 (.t 0)),.W 2 (.asg (.c (.nils 3))),.V 3 (.asg (.c (.int .i64 0)))] [1] [1,2000,2001,2003,2004,2006,2007]) (.seq (.reg false [.V 9 (.bsl 3 (.agg [.int .i64 0,.str [],.str []]) 0 []),.W 4 (.asg (.t 9))] [1,4] [1,4,2000,2001,2003,2004,2006,2007]) (.seq (.seq (.reg false [.V 10 (.build [.cst .nilFunc,.cst .nilFunc,.cst .nilFunc] [(0,1,.c (.fn 283 [])),(1,1,.c (.fn 285 [])),(2,1,.c (.fn 282 []))]),.V 11 (.mv (.c (.int .i64 0)))] [1,4,10,11] [1,4,2000,2001,2003,2004,2006,2007]) (.block 0 (.loop impl_AuditShop_k1))) impl_AuditShop_k2))) }
noncomputable def impl_AuditShop_D : List (Nat × Callee) := [(282,impl_TradeProblems_c),(283,impl_BodyProblems_c),(285,impl_WorkProblems_c)]
def impl_AuditShop_H : List (Nat × ET) := [(2,T_Problem),(4,T_Problem),(7,T_Problem),(9,T_Problem),(18,T_Problem),(23,T_Problem),(24,T_Problem),(25,T_Problem),(27,T_Problem)]
noncomputable def impl_AuditShop_c : Callee := mkCallee impl_AuditShop_D impl_AuditShop_H impl_AuditShop_ir [.d T_Shop] [.tok T_Problem,.d (.one (.int .i64))] []
noncomputable def impl_AuditShop (a0 : T_Shop.ty) : Option (List T_Problem.ty × Int) := impl_AuditShop_c.f (a0,())
noncomputable def impl_AuditShop_p0  (v11 : Int) (r1_0 : List T_Arc.ty) (r1_1 : List T_Neck.ty) (r1_2 : Int) (r1_3 : List T_Step.ty) (r1_4 : List Int) (r1_5 : Int) (r1_6 : List T_Paper.ty) (r1_7 : List T_Entry.ty) (r4 : List T_Problem.ty) : Option (List T_Problem.ty × Int) :=
 goL impl_AuditShop_D impl_AuditShop_H (vleave impl_AuditShop_ir [.d T_Shop] [.tok T_Problem,.d (.one (.int .i64))] [] []) [.c impl_AuditShop_k0,.l impl_AuditShop_k1,.e 0,.c impl_AuditShop_k2]
  ⟨[(1,.loc 1 0 0),(4,.view 4 0 r4.length),(10,.agg [.fn 283 [],.fn 285 [],.fn 282 []]),(11,.int .i64 v11)],[(1,some (.var 8 (.agg [.sl T_Arc r1_0,.sl T_Neck r1_1,.int .i64 r1_2,.sl T_Step r1_3,.sl (.one (.int .i64)) r1_4,.int .i64 r1_5,.sl T_Paper r1_6,.sl T_Entry r1_7]))),(4,some (.sl T_Problem r4)),(2000,none),(2001,none),(2003,none),(2004,none),(2006,none),(2007,none)]⟩
theorem impl_AuditShop_eq (a0 : T_Shop.ty) : impl_AuditShop a0 =
 impl_AuditShop_p0 0 a0.1 a0.2.1 a0.2.2.1 a0.2.2.2.1 a0.2.2.2.2.1 a0.2.2.2.2.2.1 a0.2.2.2.2.2.2.1 a0.2.2.2.2.2.2.2.1 [] :=
 (mk_f _ _ _ _ _ _ _ 4000).trans (by kernel_rfl)
theorem impl_AuditShop_p0_eq  (v11 : Int) (r1_0 : List T_Arc.ty) (r1_1 : List T_Neck.ty) (r1_2 : Int) (r1_3 : List T_Step.ty) (r1_4 : List Int) (r1_5 : Int) (r1_6 : List T_Paper.ty) (r1_7 : List T_Entry.ty) (r4 : List T_Problem.ty) : impl_AuditShop_p0 v11 r1_0 r1_1 r1_2 r1_3 r1_4 r1_5 r1_6 r1_7 r4 =
 if decide (v11 < 3) then
  if decide (v11 = 0) then
   (impl_BodyProblems (r1_0,r1_1,r1_2,r1_3,r1_4,r1_5,r1_6,r1_7,())).bind fun x1 =>
    if (x1.2 != 0) then
     some ([],x1.2)
    else
     if decide (r4.length + (x1.1.take x1.1.length).length < lim) then
      impl_AuditShop_p0 (IntKind.i64.wrap (v11 + 1)) r1_0 r1_1 r1_2 r1_3 r1_4 r1_5 r1_6 r1_7 ((r4.take r4.length) ++ (x1.1.take x1.1.length))
     else
      none
  else
   if decide (v11 = 1) then
    (impl_WorkProblems (r1_0,r1_1,r1_2,r1_3,r1_4,r1_5,r1_6,r1_7,())).bind fun x2 =>
     if (x2.2 != 0) then
      some ([],x2.2)
     else
      if decide (r4.length + (x2.1.take x2.1.length).length < lim) then
       impl_AuditShop_p0 (IntKind.i64.wrap (v11 + 1)) r1_0 r1_1 r1_2 r1_3 r1_4 r1_5 r1_6 r1_7 ((r4.take r4.length) ++ (x2.1.take x2.1.length))
      else
       none
   else
    if decide (v11 = 2) then
     (impl_TradeProblems (r1_0,r1_1,r1_2,r1_3,r1_4,r1_5,r1_6,r1_7,())).bind fun x3 =>
      if (x3.2 != 0) then
       some ([],x3.2)
      else
       if decide (r4.length + (x3.1.take x3.1.length).length < lim) then
        impl_AuditShop_p0 (IntKind.i64.wrap (v11 + 1)) r1_0 r1_1 r1_2 r1_3 r1_4 r1_5 r1_6 r1_7 ((r4.take r4.length) ++ (x3.1.take x3.1.length))
       else
        none
    else
     none
 else
  some ((r4.take r4.length),0) :=
 (goL_dn _ _ _ 4000 _ _).trans (by kernel_rfl)
def impl_PassesAudit_ir : Fn := { np := 1,io := [],res := [.t 2],own := [false],body :=
 (.seq (.reg false [.W 1 (.box 8 (.t 0)),.V 2 (.asg (.c (.bool false)))] [1] [1,2000,2001,2003,2004,2006,2007]) (.seq (.reg false [.V 6 (.ld (some 8) (.t 1)),.V 7 (.call (.c (.fn 286 [])) [.t 6]),.V 5 (.mv (.t 7)),.V 8 (.ext (.t 5) 0),.V 9 (.ext (.t 5) 1),.W 3 (.asg (.t 8)),.V 4 (.asg (.t 9))] [3,4] [3]) (.seq (.reg false [.V 10 (.mv (.t 4)),.V 11 (.bin .eql (.t 10) (.c (.int .i64 0))),.V 12 (.mv (.t 11)),.G 13 (.mv (.t 3)) 2 true,.G 14 (.len (.t 13)) 2 true,.G 15 (.bin .eql (.t 14) (.c (.int .i64 0))) 2 true,.V 16 (.pick (.t 12) (.t 15) (.c (.bool false))),.V 2 (.asg (.t 16))] [2] []) .ret))) }
noncomputable def impl_PassesAudit_D : List (Nat × Callee) := [(286,impl_AuditShop_c)]
def impl_PassesAudit_H : List (Nat × ET) := [(3,T_Problem),(8,T_Problem),(13,T_Problem)]
noncomputable def impl_PassesAudit_c : Callee := mkCallee impl_PassesAudit_D impl_PassesAudit_H impl_PassesAudit_ir [.d T_Shop] [.d (.one .bool)] []
noncomputable def impl_PassesAudit (a0 : T_Shop.ty) : Option (Bool) := impl_PassesAudit_c.f (a0,())
theorem impl_PassesAudit_eq (a0 : T_Shop.ty) : impl_PassesAudit a0 =
 (impl_AuditShop a0).bind fun x1 =>
  if (x1.2 == 0) then
   some ((x1.1.length : Int) == 0)
  else
   some false :=
 (mk_f _ _ _ _ _ _ _ 4000).trans (by kernel_rfl)
def spec_l05Smooth_ir : Fn := { np := 2,io := [],res := [.t 4],own := [false],body :=
 (.seq (.reg false [.V 4 (.asg (.c (.bool false)))] [0,1] []) (.seq (.reg false [.V 10 (.mv (.t 0)),.V 11 (.nilck (.t 10)),.V 12 (.fa 4 (.t 11)),.V 13 (.ld (some 2) (.t 12)),.W 5 (.alloc 2 (.agg [.int .i64 0,.int .i64 0])),⟨none,true,.sto 2 (.t 5) (.t 13),none,false,[]⟩] [0,1,5] [5]) (.seq (.reg true [.V 14 (.mv (.t 0)),.V 15 (.nilck (.t 14)),.V 16 (.fa 0 (.t 15)),.V 17 (.fa 0 (.t 16)),.V 18 (.ld none (.t 17)),.V 19 (.fa 0 (.t 5)),.V 20 (.ld none (.t 19)),.V 21 (.bin .sub (.t 18) (.t 20)),.V 6 (.asg (.t 21))] [0,1,5,6] [5]) (.seq (.reg true [.V 22 (.mv (.t 0)),.V 23 (.nilck (.t 22)),.V 24 (.fa 0 (.t 23)),.V 25 (.fa 1 (.t 24)),.V 26 (.ld none (.t 25)),.V 27 (.fa 1 (.t 5)),.V 28 (.ld none (.t 27)),.V 29 (.bin .sub (.t 26) (.t 28)),.V 7 (.asg (.t 29))] [1,5,6,7] [5]) (.seq (.reg true [.V 30 (.mv (.t 1)),.V 31 (.nilck (.t 30)),.V 32 (.fa 0 (.t 31)),.V 33 (.fa 0 (.t 32)),.V 34 (.ld none (.t 33)),.V 35 (.fa 0 (.t 5)),.V 36 (.ld none (.t 35)),.V 37 (.bin .sub (.t 34) (.t 36)),.V 8 (.asg (.t 37))] [1,5,6,7,8] [5]) (.seq (.reg true [.V 38 (.mv (.t 1)),.V 39 (.nilck (.t 38)),.V 40 (.fa 0 (.t 39)),.V 41 (.fa 1 (.t 40)),.V 42 (.ld none (.t 41)),.V 43 (.fa 1 (.t 5)),.V 44 (.ld none (.t 43)),.V 45 (.bin .sub (.t 42) (.t 44)),.V 9 (.asg (.t 45))] [6,7,8,9] []) (.seq (.reg false [.V 46 (.mv (.t 6)),.V 47 (.mv (.t 9)),.V 48 (.bin .mul (.t 46) (.t 47)),.V 49 (.mv (.t 7)),.V 50 (.mv (.t 8)),.V 51 (.bin .mul (.t 49) (.t 50)),.V 52 (.bin .eql (.t 48) (.t 51)),.V 4 (.asg (.t 52))] [4] []) .ret))))))) }
noncomputable def spec_l05Smooth_D : List (Nat × Callee) := []
def spec_l05Smooth_H : List (Nat × ET) := []
noncomputable def spec_l05Smooth_c : Callee := mkCallee spec_l05Smooth_D spec_l05Smooth_H spec_l05Smooth_ir [.p T_Arc,.p T_Arc] [.d (.one .bool)] []
noncomputable def spec_l05Smooth (a0 : T_Arc.ty) (a1 : T_Arc.ty) : Option (Bool) := spec_l05Smooth_c.f (a0,a1,())
theorem spec_l05Smooth_eq (a0 : T_Arc.ty) (a1 : T_Arc.ty) : spec_l05Smooth a0 a1 =
 some (IntKind.i64.wrap ((IntKind.i64.wrap (a0.1 - a0.2.2.2.2.1)) * (IntKind.i64.wrap (a1.2.1 - a0.2.2.2.2.2.1))) == IntKind.i64.wrap ((IntKind.i64.wrap (a0.2.1 - a0.2.2.2.2.2.1)) * (IntKind.i64.wrap (a1.1 - a0.2.2.2.2.1)))) :=
 (mk_f _ _ _ _ _ _ _ 4000).trans (by kernel_rfl)
def spec_IsSmoothJoint_ir : Fn := { np := 2,io := [],res := [.t 4],own := [false],body :=
 (.seq (.reg false [.W 2 (.box 6 (.t 0)),.W 3 (.box 6 (.t 1)),.V 4 (.asg (.c (.bool false)))] [2,3] [2,3]) (.seq (.reg false [.V 5 (.call (.c (.fn 716 [])) [.t 2]),.V 6 (.mv (.t 5)),.G 7 (.call (.c (.fn 716 [])) [.t 3]) 1 true,.V 8 (.pick (.t 6) (.t 7) (.c (.bool false))),.V 9 (.mv (.t 8)),.G 10 (.fa 4 (.t 2)) 4 true,.G 11 (.ld (some 2) (.t 10)) 4 true,.G 12 (.fa 2 (.t 3)) 4 true,.G 13 (.ld (some 2) (.t 12)) 4 true,.G 14 (.eqs false [.i,.i] (.t 11) (.t 13)) 4 true,.V 15 (.pick (.t 9) (.t 14) (.c (.bool false))),.V 16 (.mv (.t 15)),.G 17 (.call (.c (.fn 717 [])) [.t 2,.t 3]) 11 true,.V 18 (.pick (.t 16) (.t 17) (.c (.bool false))),.V 4 (.asg (.t 18))] [4] []) .ret)) }
noncomputable def spec_IsSmoothJoint_D : List (Nat × Callee) := [(716,spec_l05One_c),(717,spec_l05Smooth_c)]
def spec_IsSmoothJoint_H : List (Nat × ET) := []
noncomputable def spec_IsSmoothJoint_c : Callee := mkCallee spec_IsSmoothJoint_D spec_IsSmoothJoint_H spec_IsSmoothJoint_ir [.d T_Arc,.d T_Arc] [.d (.one .bool)] []
noncomputable def spec_IsSmoothJoint (a0 : T_Arc.ty) (a1 : T_Arc.ty) : Option (Bool) := spec_IsSmoothJoint_c.f (a0,a1,())
theorem spec_IsSmoothJoint_eq (a0 : T_Arc.ty) (a1 : T_Arc.ty) : spec_IsSmoothJoint a0 a1 =
 (spec_l05One a0).bind fun x1 =>
  if x1 then
   (spec_l05One a1).bind fun x2 =>
    if x2 then
     if ((a0.2.2.2.2.1 == a1.2.2.1) && (a0.2.2.2.2.2.1 == a1.2.2.2.1)) then
      (spec_l05Smooth a0 a1).bind fun x3 =>
       some x3
     else
      some false
    else
     some false
  else
   some false :=
 (mk_f _ _ _ _ _ _ _ 4000).trans (by kernel_rfl)
def spec_l01Div_k0 : C :=
 .seq (.seq (.reg false [.V 11 (.mv (.t 0)),.V 12 (.bin .lss (.t 11) (.c (.int .i64 0)))] [0,1,12] []) (.cond (.t 12) (.seq (.reg false [.V 13 (.mv (.t 1)),.V 14 (.mv (.t 0)),.V 15 (.bin .mul (.c (.int .i64 2)) (.t 14)),.V 16 (.bin .sub (.t 13) (.t 15)),.V 17 (.mv (.t 1)),.V 18 (.bin .mul (.c (.int .i64 2)) (.t 17)),.V 19 (.bin .quo (.t 16) (.t 18)),.V 20 (.un .neg (.t 19)),.V 4 (.asg (.t 20))] [4] []) .ret) .skip)) (.seq (.reg false [.V 21 (.mv (.t 0)),.V 22 (.bin .mul (.c (.int .i64 2)) (.t 21)),.V 23 (.mv (.t 1)),.V 24 (.bin .add (.t 22) (.t 23)),.V 25 (.mv (.t 1)),.V 26 (.bin .mul (.c (.int .i64 2)) (.t 25)),.V 27 (.bin .quo (.t 24) (.t 26)),.V 4 (.asg (.t 27))] [4] []) .ret)
def spec_l01Div_ir : Fn := { np := 2,io := [],res := [.t 4],own := [false],body :=
 (.seq (.reg false [.V 4 (.asg (.c (.int .i64 0)))] [0,1] []) (.seq (.seq (.reg false [.V 5 (.mv (.t 1)),.V 6 (.bin .lss (.t 5) (.c (.int .i64 0)))] [0,1,6] []) (.cond (.t 6) (.seq (.reg false [.V 7 (.mv (.t 0)),.V 8 (.un .neg (.t 7)),.V 0 (.asg (.t 8))] [0,1] []) (.reg false [.V 9 (.mv (.t 1)),.V 10 (.un .neg (.t 9)),.V 1 (.asg (.t 10))] [0,1] [])) .skip)) (.norm [0,1] [] spec_l01Div_k0))) }
noncomputable def spec_l01Div_D : List (Nat × Callee) := []
def spec_l01Div_H : List (Nat × ET) := []
noncomputable def spec_l01Div_c : Callee := mkCallee spec_l01Div_D spec_l01Div_H spec_l01Div_ir [.d (.one (.int .i64)),.d (.one (.int .i64))] [.d (.one (.int .i64))] []
noncomputable def spec_l01Div (a0 : Int) (a1 : Int) : Option (Int) := spec_l01Div_c.f (a0,a1,())
noncomputable def spec_l01Div_p0  (v0 : Int) (v1 : Int) : Option (Int) :=
 goL spec_l01Div_D spec_l01Div_H (vleave spec_l01Div_ir [.d (.one (.int .i64)),.d (.one (.int .i64))] [.d (.one (.int .i64))] [] []) [.c spec_l01Div_k0]
  ⟨[(0,.int .i64 v0),(1,.int .i64 v1)],[]⟩
theorem spec_l01Div_eq (a0 : Int) (a1 : Int) : spec_l01Div a0 a1 =
 if decide (a1 < 0) then
  spec_l01Div_p0 (IntKind.i64.wrap (0 - a0)) (IntKind.i64.wrap (0 - a1))
 else
  spec_l01Div_p0 a0 a1 :=
 (mk_f _ _ _ _ _ _ _ 4000).trans (by kernel_rfl)
theorem spec_l01Div_p0_eq  (v0 : Int) (v1 : Int) : spec_l01Div_p0 v0 v1 =
 if decide (v0 < 0) then
  if decide (IntKind.i64.wrap (2 * v1) = 0) then
   none
  else
   some (IntKind.i64.wrap (0 - (IntKind.i64.wrap ((IntKind.i64.wrap (v1 - (IntKind.i64.wrap (2 * v0)))).tdiv (IntKind.i64.wrap (2 * v1))))))
 else
  if decide (IntKind.i64.wrap (2 * v1) = 0) then
   none
  else
   some (IntKind.i64.wrap ((IntKind.i64.wrap ((IntKind.i64.wrap (2 * v0)) + v1)).tdiv (IntKind.i64.wrap (2 * v1)))) :=
 (goL_dn _ _ _ 4000 _ _).trans (by kernel_rfl)
def spec_l09Tension_ir : Fn := { np := 1,io := [],res := [.t 2],own := [false],body :=
 (.seq (.reg false [.V 2 (.asg (.c (.int .i64 0)))] [0] []) (.seq (.reg true [.V 3 (.mv (.t 0)),.V 4 (.nilck (.t 3)),.V 5 (.fa 0 (.t 4)),.V 6 (.ld none (.t 5)),.V 7 (.bin .mul (.c (.int .i64 4)) (.t 6)),.V 8 (.mv (.t 0)),.V 9 (.nilck (.t 8)),.V 10 (.fa 0 (.t 9)),.V 11 (.ld none (.t 10)),.V 12 (.bin .mul (.t 7) (.t 11)),.V 13 (.mv (.t 0)),.V 14 (.nilck (.t 13)),.V 15 (.fa 1 (.t 14)),.V 16 (.ld none (.t 15)),.V 17 (.bin .mul (.t 12) (.t 16)),.V 18 (.mv (.t 0)),.V 19 (.nilck (.t 18)),.V 20 (.fa 1 (.t 19)),.V 21 (.ld none (.t 20)),.V 22 (.bin .mul (.t 17) (.t 21)),.V 23 (.mv (.t 0)),.V 24 (.nilck (.t 23)),.V 25 (.fa 2 (.t 24)),.V 26 (.ld none (.t 25)),.V 27 (.bin .mul (.t 22) (.t 26)),.V 28 (.call (.c (.fn 16 [])) [.t 27,.c (.int .i64 100000000000)]),.V 2 (.asg (.t 28))] [2] []) .ret)) }
noncomputable def spec_l09Tension_D : List (Nat × Callee) := [(16,spec_l01Div_c)]
def spec_l09Tension_H : List (Nat × ET) := []
noncomputable def spec_l09Tension_c : Callee := mkCallee spec_l09Tension_D spec_l09Tension_H spec_l09Tension_ir [.p T_Neck] [.d (.one (.int .i64))] []
noncomputable def spec_l09Tension (a0 : T_Neck.ty) : Option (Int) := spec_l09Tension_c.f (a0,())
theorem spec_l09Tension_eq (a0 : T_Neck.ty) : spec_l09Tension a0 =
 (spec_l01Div (IntKind.i64.wrap ((IntKind.i64.wrap ((IntKind.i64.wrap ((IntKind.i64.wrap ((IntKind.i64.wrap (4 * a0.1)) * a0.1)) * a0.2.1)) * a0.2.1)) * a0.2.2.1)) 100000000000).bind fun x1 =>
  some x1 :=
 (mk_f _ _ _ _ _ _ _ 4000).trans (by kernel_rfl)
def spec_TensionOf_ir : Fn := { np := 1,io := [],res := [.t 2,.t 3],own := [false,false],body :=
 (.seq (.reg false [.W 1 (.box 4 (.t 0)),.V 2 (.asg (.c (.int .i64 0))),.V 3 (.asg (.c (.int .i64 0)))] [1] [1]) (.seq (.seq (.reg false [.V 4 (.call (.c (.fn 719 [])) [.t 1]),.V 5 (.un .not (.t 4))] [1,5] [1]) (.cond (.t 5) (.seq (.reg false [.V 2 (.asg (.c (.int .i64 0))),.V 3 (.asg (.c (.int .i64 1)))] [2,3] []) .ret) .skip)) (.seq (.reg false [.V 6 (.call (.c (.fn 718 [])) [.t 1]),.V 2 (.asg (.t 6)),.V 3 (.asg (.c (.int .i64 0)))] [2,3] []) .ret))) }
noncomputable def spec_TensionOf_D : List (Nat × Callee) := [(718,spec_l09Tension_c),(719,spec_l09One_c)]
def spec_TensionOf_H : List (Nat × ET) := []
noncomputable def spec_TensionOf_c : Callee := mkCallee spec_TensionOf_D spec_TensionOf_H spec_TensionOf_ir [.d T_Neck] [.d (.one (.int .i64)),.d (.one (.int .i64))] []
noncomputable def spec_TensionOf (a0 : T_Neck.ty) : Option (Int × Int) := spec_TensionOf_c.f (a0,())
theorem spec_TensionOf_eq (a0 : T_Neck.ty) : spec_TensionOf a0 =
 (spec_l09One a0).bind fun x1 =>
  if (!x1) then
   some (0,1)
  else
   (spec_l09Tension a0).bind fun x2 =>
    some (x2,0) :=
 (mk_f _ _ _ _ _ _ _ 4000).trans (by kernel_rfl)
def spec_ClampsUsed_ir : Fn := { np := 3,io := [],res := [.t 6,.t 7],own := [false,false],body :=
 (.seq (.reg false [.V 6 (.asg (.c (.int .i64 0))),.V 7 (.asg (.c (.int .i64 0)))] [0,1,2] []) (.seq (.seq (.reg false [.V 8 (.mv (.t 0)),.V 9 (.call (.c (.fn 462 [])) [.t 8]),.V 10 (.un .not (.t 9))] [0,1,2,10] []) (.cond (.t 10) (.seq (.reg false [.V 6 (.asg (.c (.int .i64 0))),.V 7 (.asg (.c (.int .i64 1)))] [6,7] []) .ret) .skip)) (.seq (.seq (.reg false [.V 11 (.mv (.t 2)),.V 12 (.call (.c (.fn 1 [])) [.t 11,.c (.int .i64 0),.c (.int .i64 1000000000000)]),.V 13 (.un .not (.t 12))] [0,1,2,13] []) (.cond (.t 13) (.seq (.reg false [.V 6 (.asg (.c (.int .i64 0))),.V 7 (.asg (.c (.int .i64 2)))] [6,7] []) .ret) .skip)) (.seq (.seq (.reg false [.V 14 (.mv (.t 0)),.V 15 (.mv (.t 1)),.V 16 (.call (.c (.fn 537 [])) [.t 14,.t 15]),.V 17 (.un .not (.t 16))] [0,1,2,17] []) (.cond (.t 17) (.seq (.reg false [.V 6 (.asg (.c (.int .i64 0))),.V 7 (.asg (.c (.int .i64 7)))] [6,7] []) .ret) .skip)) (.seq (.reg false [.V 18 (.mv (.t 0)),.V 19 (.mv (.t 1)),.V 20 (.mv (.t 2)),.V 21 (.call (.c (.fn 720 [])) [.t 18,.t 19,.t 20]),.V 6 (.asg (.t 21)),.V 7 (.asg (.c (.int .i64 0)))] [6,7] []) .ret))))) }
noncomputable def spec_ClampsUsed_D : List (Nat × Callee) := [(1,spec_l00In_c),(462,spec_l17Ok_c),(537,spec_l17Starts_c),(720,spec_l17Used_c)]
def spec_ClampsUsed_H : List (Nat × ET) := [(8,T_Step),(14,T_Step),(15,(.one (.int .i64))),(18,T_Step),(19,(.one (.int .i64)))]
noncomputable def spec_ClampsUsed_c : Callee := mkCallee spec_ClampsUsed_D spec_ClampsUsed_H spec_ClampsUsed_ir [.d (.one (.sl T_Step)),.d (.one (.sl (.one (.int .i64)))),.d (.one (.int .i64))] [.d (.one (.int .i64)),.d (.one (.int .i64))] []
noncomputable def spec_ClampsUsed (a0 : List T_Step.ty) (a1 : List Int) (a2 : Int) : Option (Int × Int) := spec_ClampsUsed_c.f (a0,a1,a2,())
theorem spec_ClampsUsed_eq (a0 : List T_Step.ty) (a1 : List Int) (a2 : Int) : spec_ClampsUsed a0 a1 a2 =
 (spec_l17Ok a0).bind fun x1 =>
  if (!x1) then
   some (0,1)
  else
   (spec_l00In a2 0 1000000000000).bind fun x2 =>
    if (!x2) then
     some (0,2)
    else
     (spec_l17Starts a0 a1).bind fun x3 =>
      if (!x3) then
       some (0,7)
      else
       (spec_l17Used a0 a1 a2).bind fun x4 =>
        some (x4,0) :=
 (mk_f _ _ _ _ _ _ _ 4000).trans (by kernel_rfl)
def spec_l21End_ir : Fn := { np := 1,io := [],res := [.t 2],own := [false],body :=
 (.seq (.reg false [.V 2 (.asg (.c (.int .i64 0)))] [0] []) (.seq (.reg true [.V 3 (.mv (.t 0)),.V 4 (.nilck (.t 3)),.V 5 (.fa 2 (.t 4)),.V 6 (.ld none (.t 5)),.V 7 (.mv (.t 0)),.V 8 (.nilck (.t 7)),.V 9 (.fa 3 (.t 8)),.V 10 (.ld none (.t 9)),.V 11 (.bin .mul (.c (.int .i64 30)) (.t 10)),.V 12 (.bin .add (.t 6) (.t 11)),.V 2 (.asg (.t 12))] [2] []) .ret)) }
noncomputable def spec_l21End_D : List (Nat × Callee) := []
def spec_l21End_H : List (Nat × ET) := []
noncomputable def spec_l21End_c : Callee := mkCallee spec_l21End_D spec_l21End_H spec_l21End_ir [.p T_Paper] [.d (.one (.int .i64))] []
noncomputable def spec_l21End (a0 : T_Paper.ty) : Option (Int) := spec_l21End_c.f (a0,())
theorem spec_l21End_eq (a0 : T_Paper.ty) : spec_l21End a0 =
 some (IntKind.i64.wrap (a0.2.2.1 + (IntKind.i64.wrap (30 * a0.2.2.2.1)))) :=
 (mk_f _ _ _ _ _ _ _ 4000).trans (by kernel_rfl)
def spec_l21Clash_ir : Fn := { np := 2,io := [],res := [.t 4],own := [false],body :=
 (.seq (.reg false [.V 4 (.asg (.c (.bool false)))] [0,1] []) (.seq (.reg true [.V 5 (.mv (.t 0)),.V 6 (.nilck (.t 5)),.V 7 (.fa 1 (.t 6)),.V 8 (.ld none (.t 7)),.V 9 (.mv (.t 1)),.V 10 (.nilck (.t 9)),.V 11 (.fa 1 (.t 10)),.V 12 (.ld none (.t 11)),.V 13 (.bin .eql (.t 8) (.t 12)),.V 14 (.mv (.t 13)),.G 15 (.mv (.t 0)) 9 true,.G 16 (.nilck (.t 15)) 9 true,.G 17 (.fa 2 (.t 16)) 9 true,.G 18 (.ld none (.t 17)) 9 true,.G 19 (.mv (.t 1)) 9 true,.G 20 (.call (.c (.fn 1046 [])) [.t 19]) 9 true,.G 21 (.bin .lss (.t 18) (.t 20)) 9 true,.V 22 (.pick (.t 14) (.t 21) (.c (.bool false))),.V 23 (.mv (.t 22)),.G 24 (.mv (.t 1)) 18 true,.G 25 (.nilck (.t 24)) 18 true,.G 26 (.fa 2 (.t 25)) 18 true,.G 27 (.ld none (.t 26)) 18 true,.G 28 (.mv (.t 0)) 18 true,.G 29 (.call (.c (.fn 1046 [])) [.t 28]) 18 true,.G 30 (.bin .lss (.t 27) (.t 29)) 18 true,.V 31 (.pick (.t 23) (.t 30) (.c (.bool false))),.V 4 (.asg (.t 31))] [4] []) .ret)) }
noncomputable def spec_l21Clash_D : List (Nat × Callee) := [(1046,spec_l21End_c)]
def spec_l21Clash_H : List (Nat × ET) := []
noncomputable def spec_l21Clash_c : Callee := mkCallee spec_l21Clash_D spec_l21Clash_H spec_l21Clash_ir [.p T_Paper,.p T_Paper] [.d (.one .bool)] []
noncomputable def spec_l21Clash (a0 : T_Paper.ty) (a1 : T_Paper.ty) : Option (Bool) := spec_l21Clash_c.f (a0,a1,())
theorem spec_l21Clash_eq (a0 : T_Paper.ty) (a1 : T_Paper.ty) : spec_l21Clash a0 a1 =
 if (a0.2.1 == a1.2.1) then
  (spec_l21End a1).bind fun x1 =>
   if decide (a0.2.2.1 < x1) then
    (spec_l21End a0).bind fun x2 =>
     some (decide (a1.2.2.1 < x2))
   else
    some false
 else
  some false :=
 (mk_f _ _ _ _ _ _ _ 4000).trans (by kernel_rfl)
def spec_l21Clashes_k0 : C :=
 .seq (.seq (.reg false [.V 15 (.mv (.t 5)),.V 16 (.mv (.t 0)),.V 17 (.len (.t 16)),.V 18 (.bin .lss (.t 15) (.t 17))] [0,3,4,5,18] [3]) (.cond (.t 18) .skip (.exit 2))) (.seq (.block 3 (.seq (.reg true [.V 21 (.mv (.t 0)),.V 22 (.mv (.t 4)),.V 23 (.ia 5 (.t 21) (.t 22)),.V 24 (.mv (.t 0)),.V 25 (.mv (.t 5)),.V 26 (.ia 5 (.t 24) (.t 25)),.V 27 (.call (.c (.fn 947 [])) [.t 23,.t 26])] [0,3,4,5,27] [3]) (.cond (.t 27) (.reg false [.V 28 (.mv (.t 3)),.V 29 (.mv (.t 4)),.V 30 (.mv (.t 5)),.V 31 (.bsl 1 (.int .i64 0) 2 [(0,.t 29),(1,.t 30)]),.W 32 (.bsl 1 (.sl 1 []) 1 [(0,.t 31)]),.W 33 (.app 1 24 (.t 28) (.t 32)),.W 3 (.asg (.t 33))] [0,3,4,5] [3]) .skip))) (.reg false [.V 19 (.mv (.t 5)),.V 20 (.bin .add (.t 19) (.c (.int .i64 1))),.V 5 (.asg (.t 20))] [0,3,4,5] [3]))
def spec_l21Clashes_k1 : C :=
 .norm [0,3,4,5] [3] spec_l21Clashes_k0
def spec_l21Clashes_k2 : C :=
 .reg false [.V 11 (.mv (.t 4)),.V 12 (.bin .add (.t 11) (.c (.int .i64 1))),.V 4 (.asg (.t 12))] [0,3,4] [3]
def spec_l21Clashes_k3 : C :=
 .seq (.seq (.reg false [.V 7 (.mv (.t 4)),.V 8 (.mv (.t 0)),.V 9 (.len (.t 8)),.V 10 (.bin .lss (.t 7) (.t 9))] [0,3,4,10] [3]) (.cond (.t 10) .skip (.exit 0))) (.seq (.block 1 (.seq (.reg false [.V 13 (.mv (.t 4)),.V 14 (.bin .add (.t 13) (.c (.int .i64 1))),.V 5 (.asg (.t 14))] [0,3,4,5] [3]) (.block 2 (.loop spec_l21Clashes_k1)))) spec_l21Clashes_k2)
def spec_l21Clashes_k4 : C :=
 .norm [0,3,4] [3] spec_l21Clashes_k3
def spec_l21Clashes_k5 : C :=
 .seq (.reg false [.V 34 (.mv (.t 3)),.W 2 (.asg (.t 34))] [2] [2,3]) .ret
def spec_l21Clashes_ir : Fn := { np := 1,io := [],res := [.t 2],own := [false],body :=
 (.seq (.reg false [.W 2 (.asg (.c (.nils 1)))] [0] []) (.seq (.reg false [.V 6 (.bsl 1 (.sl 1 []) 0 []),.W 3 (.asg (.t 6))] [0,3] [3]) (.seq (.seq (.reg false [.V 4 (.asg (.c (.int .i64 0)))] [0,3,4] [3]) (.block 0 (.loop spec_l21Clashes_k4))) spec_l21Clashes_k5))) }
noncomputable def spec_l21Clashes_D : List (Nat × Callee) := [(947,spec_l21Clash_c)]
def spec_l21Clashes_H : List (Nat × ET) := [(2,(.one (.sl (.one (.int .i64))))),(3,(.one (.sl (.one (.int .i64))))),(6,(.one (.sl (.one (.int .i64))))),(8,T_Paper),(16,T_Paper),(21,T_Paper),(24,T_Paper),(28,(.one (.sl (.one (.int .i64))))),(31,(.one (.int .i64))),(32,(.one (.sl (.one (.int .i64))))),(33,(.one (.sl (.one (.int .i64))))),(34,(.one (.sl (.one (.int .i64)))))]
noncomputable def spec_l21Clashes_c : Callee := mkCallee spec_l21Clashes_D spec_l21Clashes_H spec_l21Clashes_ir [.d (.one (.sl T_Paper))] [.d (.one (.sl (.one (.sl (.one (.int .i64))))))] []
noncomputable def spec_l21Clashes (a0 : List T_Paper.ty) : Option (List (List Int)) := spec_l21Clashes_c.f (a0,())
noncomputable def spec_l21Clashes_p0  (v0 : List T_Paper.ty) (v4 : Int) (r3 : List (List Int)) : Option (List (List Int)) :=
 goL spec_l21Clashes_D spec_l21Clashes_H (vleave spec_l21Clashes_ir [.d (.one (.sl T_Paper))] [.d (.one (.sl (.one (.sl (.one (.int .i64))))))] [] []) [.c spec_l21Clashes_k3,.l spec_l21Clashes_k4,.e 0,.c spec_l21Clashes_k5]
  ⟨[(0,.sl T_Paper v0),(3,.view 3 0 r3.length),(4,.int .i64 v4)],[(3,some (.sl (.one (.sl (.one (.int .i64)))) r3))]⟩
noncomputable def spec_l21Clashes_p1  (v0 : List T_Paper.ty) (v4 : Int) (v5 : Int) (r3 : List (List Int)) : Option (List (List Int)) :=
 goL spec_l21Clashes_D spec_l21Clashes_H (vleave spec_l21Clashes_ir [.d (.one (.sl T_Paper))] [.d (.one (.sl (.one (.sl (.one (.int .i64))))))] [] []) [.c spec_l21Clashes_k0,.l spec_l21Clashes_k1,.e 2,.e 1,.c spec_l21Clashes_k2,.l spec_l21Clashes_k4,.e 0,.c spec_l21Clashes_k5]
  ⟨[(0,.sl T_Paper v0),(3,.view 3 0 r3.length),(4,.int .i64 v4),(5,.int .i64 v5)],[(3,some (.sl (.one (.sl (.one (.int .i64)))) r3))]⟩
theorem spec_l21Clashes_eq (a0 : List T_Paper.ty) : spec_l21Clashes a0 =
 spec_l21Clashes_p0 a0 0 [] :=
 (mk_f _ _ _ _ _ _ _ 4000).trans (by kernel_rfl)
theorem spec_l21Clashes_p0_eq  (v0 : List T_Paper.ty) (v4 : Int) (r3 : List (List Int)) : spec_l21Clashes_p0 v0 v4 r3 =
 if decide (v4 < (v0.length : Int)) then
  spec_l21Clashes_p1 v0 v4 (IntKind.i64.wrap (v4 + 1)) r3
 else
  some (r3.take r3.length) :=
 (goL_dn _ _ _ 4000 _ _).trans (by kernel_rfl)
theorem spec_l21Clashes_p1_eq  (v0 : List T_Paper.ty) (v4 : Int) (v5 : Int) (r3 : List (List Int)) : spec_l21Clashes_p1 v0 v4 v5 r3 =
 if decide (v5 < (v0.length : Int)) then
  if decide (0 ≤ v4) then
   (v0[v4.toNat]?).bind fun x1 =>
    if decide (0 ≤ v5) then
     (v0[v5.toNat]?).bind fun x2 =>
      (spec_l21Clash x1 x2).bind fun x3 =>
       if x3 then
        if decide (r3.length + 1 < lim) then
         spec_l21Clashes_p1 v0 v4 (IntKind.i64.wrap (v5 + 1)) ((r3.take r3.length) ++ [[v4,v5]])
        else
         none
       else
        spec_l21Clashes_p1 v0 v4 (IntKind.i64.wrap (v5 + 1)) r3
    else
     none
  else
   none
 else
  spec_l21Clashes_p0 v0 (IntKind.i64.wrap (v4 + 1)) r3 :=
 (goL_dn _ _ _ 4000 _ _).trans (by kernel_rfl)
def spec_ClashesOf_ir : Fn := { np := 1,io := [],res := [.t 2,.t 3],own := [false,false],body :=
 (.seq (.reg false [.W 2 (.asg (.c (.nils 1))),.V 3 (.asg (.c (.int .i64 0)))] [0] []) (.seq (.seq (.reg false [.V 4 (.mv (.t 0)),.V 5 (.call (.c (.fn 722 [])) [.t 4]),.V 6 (.un .not (.t 5))] [0,6] []) (.cond (.t 6) (.seq (.reg false [.W 2 (.asg (.c (.nils 1))),.V 3 (.asg (.c (.int .i64 1)))] [2,3] [2]) .ret) .skip)) (.seq (.reg false [.V 7 (.mv (.t 0)),.V 8 (.call (.c (.fn 721 [])) [.t 7]),.W 2 (.asg (.t 8)),.V 3 (.asg (.c (.int .i64 0)))] [2,3] [2]) .ret))) }
noncomputable def spec_ClashesOf_D : List (Nat × Callee) := [(721,spec_l21Clashes_c),(722,spec_l21Ok_c)]
def spec_ClashesOf_H : List (Nat × ET) := [(2,(.one (.sl (.one (.int .i64))))),(4,T_Paper),(7,T_Paper),(8,(.one (.sl (.one (.int .i64)))))]
noncomputable def spec_ClashesOf_c : Callee := mkCallee spec_ClashesOf_D spec_ClashesOf_H spec_ClashesOf_ir [.d (.one (.sl T_Paper))] [.d (.one (.sl (.one (.sl (.one (.int .i64)))))),.d (.one (.int .i64))] []
noncomputable def spec_ClashesOf (a0 : List T_Paper.ty) : Option (List (List Int) × Int) := spec_ClashesOf_c.f (a0,())
theorem spec_ClashesOf_eq (a0 : List T_Paper.ty) : spec_ClashesOf a0 =
 (spec_l21Ok a0).bind fun x1 =>
  if (!x1) then
   some ([],1)
  else
   (spec_l21Clashes a0).bind fun x2 =>
    some (x2,0) :=
 (mk_f _ _ _ _ _ _ _ 4000).trans (by kernel_rfl)
def spec_l25Ask_ir : Fn := { np := 2,io := [],res := [.t 4],own := [false],body :=
 (.seq (.reg false [.V 4 (.asg (.c (.int .i64 0)))] [0,1] []) (.seq (.seq (.reg false [.V 5 (.mv (.t 0)),.V 6 (.call (.c (.fn 888 [])) [.t 5]),.V 7 (.un .not (.t 6)),.V 8 (.mv (.t 7)),.G 9 (.mv (.t 1)) 3 false,.G 10 (.call (.c (.fn 13 [])) [.t 9]) 3 false,.G 11 (.un .not (.t 10)) 3 false,.V 12 (.pick (.t 8) (.c (.bool true)) (.t 11))] [12] []) (.cond (.t 12) (.seq (.reg false [.V 4 (.asg (.c (.int .i64 1)))] [4] []) .ret) .skip)) (.seq (.reg false [.V 4 (.asg (.c (.int .i64 0)))] [4] []) .ret))) }
noncomputable def spec_l25Ask_D : List (Nat × Callee) := [(13,spec_l01Name_c),(888,spec_l25Ok_c)]
def spec_l25Ask_H : List (Nat × ET) := [(5,T_Entry)]
noncomputable def spec_l25Ask_c : Callee := mkCallee spec_l25Ask_D spec_l25Ask_H spec_l25Ask_ir [.d (.one (.sl T_Entry)),.d (.one .str)] [.d (.one (.int .i64))] []
noncomputable def spec_l25Ask (a0 : List T_Entry.ty) (a1 : List UInt8) : Option (Int) := spec_l25Ask_c.f (a0,a1,())
theorem spec_l25Ask_eq (a0 : List T_Entry.ty) (a1 : List UInt8) : spec_l25Ask a0 a1 =
 (spec_l25Ok a0).bind fun x1 =>
  if (!x1) then
   some 1
  else
   (spec_l01Name a1).bind fun x2 =>
    if (!x2) then
     some 1
    else
     some 0 :=
 (mk_f _ _ _ _ _ _ _ 4000).trans (by kernel_rfl)
def spec_l25Change_ir : Fn := { np := 2,io := [],res := [.t 4],own := [false],body :=
 (.seq (.reg false [.V 4 (.asg (.c (.int .i64 0)))] [0,1] []) (.seq (.seq (.reg false [.V 5 (.mv (.t 0)),.V 6 (.nilck (.t 5)),.V 7 (.fa 1 (.t 6)),.V 8 (.ld none (.t 7)),.V 9 (.mv (.t 1)),.V 10 (.bin .eql (.t 8) (.t 9))] [0,1,10] []) (.cond (.t 10) (.seq (.reg false [.V 11 (.mv (.t 0)),.V 12 (.nilck (.t 11)),.V 13 (.fa 3 (.t 12)),.V 14 (.ld none (.t 13)),.V 4 (.asg (.t 14))] [4] []) .ret) .skip)) (.seq (.seq (.reg false [.V 15 (.mv (.t 0)),.V 16 (.nilck (.t 15)),.V 17 (.fa 2 (.t 16)),.V 18 (.ld none (.t 17)),.V 19 (.mv (.t 1)),.V 20 (.bin .eql (.t 18) (.t 19))] [0,20] []) (.cond (.t 20) (.seq (.reg false [.V 21 (.mv (.t 0)),.V 22 (.nilck (.t 21)),.V 23 (.fa 3 (.t 22)),.V 24 (.ld none (.t 23)),.V 25 (.un .neg (.t 24)),.V 4 (.asg (.t 25))] [4] []) .ret) .skip)) (.seq (.reg false [.V 4 (.asg (.c (.int .i64 0)))] [4] []) .ret)))) }
noncomputable def spec_l25Change_D : List (Nat × Callee) := []
def spec_l25Change_H : List (Nat × ET) := []
noncomputable def spec_l25Change_c : Callee := mkCallee spec_l25Change_D spec_l25Change_H spec_l25Change_ir [.p T_Entry,.d (.one .str)] [.d (.one (.int .i64))] []
noncomputable def spec_l25Change (a0 : T_Entry.ty) (a1 : List UInt8) : Option (Int) := spec_l25Change_c.f (a0,a1,())
theorem spec_l25Change_eq (a0 : T_Entry.ty) (a1 : List UInt8) : spec_l25Change a0 a1 =
 if (a0.2.1 == a1) then
  some a0.2.2.2.1
 else
  if (a0.2.2.1 == a1) then
   some (IntKind.i64.wrap (0 - a0.2.2.2.1))
  else
   some 0 :=
 (mk_f _ _ _ _ _ _ _ 4000).trans (by kernel_rfl)
def spec_FirstBelow_k0 : C :=
 .seq (.seq (.reg false [.V 15 (.mv (.t 8)),.V 16 (.mv (.t 0)),.V 17 (.len (.t 16)),.V 18 (.bin .lss (.t 15) (.t 17))] [0,1,7,8,18] []) (.cond (.t 18) .skip (.exit 0))) (.seq (.block 1 (.seq (.reg false [.V 21 (.mv (.t 7)),.V 22 (.mv (.t 0)),.V 23 (.mv (.t 8)),.V 24 (.ia 4 (.t 22) (.t 23)),.V 25 (.mv (.t 1)),.V 26 (.call (.c (.fn 723 [])) [.t 24,.t 25]),.V 27 (.bin .add (.t 21) (.t 26)),.V 7 (.asg (.t 27))] [0,1,7,8] []) (.seq (.reg false [.V 28 (.mv (.t 7)),.V 29 (.bin .lss (.t 28) (.c (.int .i64 0)))] [0,1,7,8,29] []) (.cond (.t 29) (.seq (.reg false [.V 30 (.mv (.t 8)),.V 4 (.asg (.t 30)),.V 5 (.asg (.c (.int .i64 0)))] [4,5] []) .ret) .skip)))) (.reg false [.V 19 (.mv (.t 8)),.V 20 (.bin .add (.t 19) (.c (.int .i64 1))),.V 8 (.asg (.t 20))] [0,1,7,8] []))
def spec_FirstBelow_k1 : C :=
 .norm [0,1,7,8] [] spec_FirstBelow_k0
def spec_FirstBelow_k2 : C :=
 .seq (.reg false [.V 4 (.asg (.c (.int .i64 0))),.V 5 (.asg (.c (.int .i64 3)))] [4,5] []) .ret
def spec_FirstBelow_ir : Fn := { np := 2,io := [],res := [.t 4,.t 5],own := [false,false],body :=
 (.seq (.reg false [.V 4 (.asg (.c (.int .i64 0))),.V 5 (.asg (.c (.int .i64 0)))] [0,1] []) (.seq (.reg false [.V 9 (.mv (.t 0)),.V 10 (.mv (.t 1)),.V 11 (.call (.c (.fn 724 [])) [.t 9,.t 10]),.V 6 (.asg (.t 11))] [0,1,6] []) (.seq (.seq (.reg false [.V 12 (.mv (.t 6)),.V 13 (.bin .neq (.t 12) (.c (.int .i64 0)))] [0,1,6,13] []) (.cond (.t 13) (.seq (.reg false [.V 14 (.mv (.t 6)),.V 4 (.asg (.c (.int .i64 0))),.V 5 (.asg (.t 14))] [4,5] []) .ret) .skip)) (.seq (.reg false [.V 7 (.asg (.c (.int .i64 0)))] [0,1,7] []) (.seq (.seq (.reg false [.V 8 (.asg (.c (.int .i64 0)))] [0,1,7,8] []) (.block 0 (.loop spec_FirstBelow_k1))) spec_FirstBelow_k2))))) }
noncomputable def spec_FirstBelow_D : List (Nat × Callee) := [(723,spec_l25Change_c),(724,spec_l25Ask_c)]
def spec_FirstBelow_H : List (Nat × ET) := [(9,T_Entry),(16,T_Entry),(22,T_Entry)]
noncomputable def spec_FirstBelow_c : Callee := mkCallee spec_FirstBelow_D spec_FirstBelow_H spec_FirstBelow_ir [.d (.one (.sl T_Entry)),.d (.one .str)] [.d (.one (.int .i64)),.d (.one (.int .i64))] []
noncomputable def spec_FirstBelow (a0 : List T_Entry.ty) (a1 : List UInt8) : Option (Int × Int) := spec_FirstBelow_c.f (a0,a1,())
noncomputable def spec_FirstBelow_p0  (v0 : List T_Entry.ty) (v1 : List UInt8) (v7 : Int) (v8 : Int) : Option (Int × Int) :=
 goL spec_FirstBelow_D spec_FirstBelow_H (vleave spec_FirstBelow_ir [.d (.one (.sl T_Entry)),.d (.one .str)] [.d (.one (.int .i64)),.d (.one (.int .i64))] [] []) [.c spec_FirstBelow_k0,.l spec_FirstBelow_k1,.e 0,.c spec_FirstBelow_k2]
  ⟨[(0,.sl T_Entry v0),(1,.str v1),(7,.int .i64 v7),(8,.int .i64 v8)],[]⟩
theorem spec_FirstBelow_eq (a0 : List T_Entry.ty) (a1 : List UInt8) : spec_FirstBelow a0 a1 =
 (spec_l25Ask a0 a1).bind fun x1 =>
  if (x1 != 0) then
   some (0,x1)
  else
   spec_FirstBelow_p0 a0 a1 0 0 :=
 (mk_f _ _ _ _ _ _ _ 4000).trans (by kernel_rfl)
theorem spec_FirstBelow_p0_eq  (v0 : List T_Entry.ty) (v1 : List UInt8) (v7 : Int) (v8 : Int) : spec_FirstBelow_p0 v0 v1 v7 v8 =
 if decide (v8 < (v0.length : Int)) then
  if decide (0 ≤ v8) then
   (v0[v8.toNat]?).bind fun x1 =>
    (spec_l25Change x1 v1).bind fun x2 =>
     if decide (IntKind.i64.wrap (v7 + x2) < 0) then
      some (v8,0)
     else
      spec_FirstBelow_p0 v0 v1 (IntKind.i64.wrap (v7 + x2)) (IntKind.i64.wrap (v8 + 1))
  else
   none
 else
  some (0,3) :=
 (goL_dn _ _ _ 4000 _ _).trans (by kernel_rfl)
def spec_l17Keeps_k0 : C :=
 .seq (.seq (.reg false [.V 16 (.mv (.t 8)),.V 17 (.mv (.t 0)),.V 18 (.mv (.t 7)),.V 19 (.ia 4 (.t 17) (.t 18)),.V 20 (.fa 3 (.t 19)),.V 21 (.ld none (.t 20)),.V 22 (.len (.t 21)),.V 23 (.bin .lss (.t 16) (.t 22))] [0,1,2,7,8,23] []) (.cond (.t 23) .skip (.exit 2))) (.seq (.block 3 (.seq (.reg false [.V 26 (.mv (.t 0)),.V 27 (.mv (.t 7)),.V 28 (.ia 4 (.t 26) (.t 27)),.V 29 (.fa 3 (.t 28)),.V 30 (.ld none (.t 29)),.V 31 (.mv (.t 8)),.V 32 (.ia 1 (.t 30) (.t 31)),.V 33 (.ld none (.t 32)),.V 9 (.asg (.t 33))] [0,1,2,7,8,9] []) (.seq (.reg true [.V 34 (.mv (.t 1)),.V 35 (.mv (.t 7)),.V 36 (.ia 1 (.t 34) (.t 35)),.V 37 (.ld none (.t 36)),.V 38 (.mv (.t 1)),.V 39 (.mv (.t 9)),.V 40 (.ia 1 (.t 38) (.t 39)),.V 41 (.ld none (.t 40)),.V 42 (.mv (.t 0)),.V 43 (.mv (.t 9)),.V 44 (.ia 4 (.t 42) (.t 43)),.V 45 (.fa 1 (.t 44)),.V 46 (.ld none (.t 45)),.V 47 (.bin .add (.t 41) (.t 46)),.V 48 (.bin .lss (.t 37) (.t 47))] [0,1,2,7,8,48] []) (.cond (.t 48) (.seq (.reg false [.V 6 (.asg (.c (.bool false)))] [6] []) .ret) .skip)))) (.reg false [.V 24 (.mv (.t 8)),.V 25 (.bin .add (.t 24) (.c (.int .i64 1))),.V 8 (.asg (.t 25))] [0,1,2,7,8] []))
def spec_l17Keeps_k1 : C :=
 .norm [0,1,2,7,8] [] spec_l17Keeps_k0
def spec_l17Keeps_k2 : C :=
 .seq (.reg false [.V 49 (.mv (.t 0)),.V 50 (.mv (.t 1)),.V 51 (.mv (.t 1)),.V 52 (.mv (.t 7)),.V 53 (.ia 1 (.t 51) (.t 52)),.V 54 (.ld none (.t 53)),.V 55 (.call (.c (.fn 720 [])) [.t 49,.t 50,.t 54]),.V 56 (.mv (.t 2)),.V 57 (.bin .gtr (.t 55) (.t 56))] [0,1,2,7,57] []) (.cond (.t 57) (.seq (.reg false [.V 6 (.asg (.c (.bool false)))] [6] []) .ret) .skip)
def spec_l17Keeps_k3 : C :=
 .reg false [.V 14 (.mv (.t 7)),.V 15 (.bin .add (.t 14) (.c (.int .i64 1))),.V 7 (.asg (.t 15))] [0,1,2,7] []
def spec_l17Keeps_k4 : C :=
 .seq (.seq (.reg false [.V 10 (.mv (.t 7)),.V 11 (.mv (.t 0)),.V 12 (.len (.t 11)),.V 13 (.bin .lss (.t 10) (.t 12))] [0,1,2,7,13] []) (.cond (.t 13) .skip (.exit 0))) (.seq (.block 1 (.seq (.seq (.reg false [.V 8 (.asg (.c (.int .i64 0)))] [0,1,2,7,8] []) (.block 2 (.loop spec_l17Keeps_k1))) spec_l17Keeps_k2)) spec_l17Keeps_k3)
def spec_l17Keeps_k5 : C :=
 .norm [0,1,2,7] [] spec_l17Keeps_k4
def spec_l17Keeps_k6 : C :=
 .seq (.reg false [.V 6 (.asg (.c (.bool true)))] [6] []) .ret
def spec_l17Keeps_ir : Fn := { np := 3,io := [],res := [.t 6],own := [false],body :=
 (.seq (.reg false [.V 6 (.asg (.c (.bool false)))] [0,1,2] []) (.seq (.seq (.reg false [.V 7 (.asg (.c (.int .i64 0)))] [0,1,2,7] []) (.block 0 (.loop spec_l17Keeps_k5))) spec_l17Keeps_k6)) }
noncomputable def spec_l17Keeps_D : List (Nat × Callee) := [(720,spec_l17Used_c)]
def spec_l17Keeps_H : List (Nat × ET) := [(11,T_Step),(17,T_Step),(21,(.one (.int .i64))),(26,T_Step),(30,(.one (.int .i64))),(34,(.one (.int .i64))),(38,(.one (.int .i64))),(42,T_Step),(49,T_Step),(50,(.one (.int .i64))),(51,(.one (.int .i64)))]
noncomputable def spec_l17Keeps_c : Callee := mkCallee spec_l17Keeps_D spec_l17Keeps_H spec_l17Keeps_ir [.d (.one (.sl T_Step)),.d (.one (.sl (.one (.int .i64)))),.d (.one (.int .i64))] [.d (.one .bool)] []
noncomputable def spec_l17Keeps (a0 : List T_Step.ty) (a1 : List Int) (a2 : Int) : Option (Bool) := spec_l17Keeps_c.f (a0,a1,a2,())
noncomputable def spec_l17Keeps_p0  (v0 : List T_Step.ty) (v1 : List Int) (v2 : Int) (v7 : Int) : Option (Bool) :=
 goL spec_l17Keeps_D spec_l17Keeps_H (vleave spec_l17Keeps_ir [.d (.one (.sl T_Step)),.d (.one (.sl (.one (.int .i64)))),.d (.one (.int .i64))] [.d (.one .bool)] [] []) [.c spec_l17Keeps_k4,.l spec_l17Keeps_k5,.e 0,.c spec_l17Keeps_k6]
  ⟨[(0,.sl T_Step v0),(1,.sl (.one (.int .i64)) v1),(2,.int .i64 v2),(7,.int .i64 v7)],[]⟩
noncomputable def spec_l17Keeps_p1  (v0 : List T_Step.ty) (v1 : List Int) (v2 : Int) (v7 : Int) (v8 : Int) : Option (Bool) :=
 goL spec_l17Keeps_D spec_l17Keeps_H (vleave spec_l17Keeps_ir [.d (.one (.sl T_Step)),.d (.one (.sl (.one (.int .i64)))),.d (.one (.int .i64))] [.d (.one .bool)] [] []) [.c spec_l17Keeps_k0,.l spec_l17Keeps_k1,.e 2,.c spec_l17Keeps_k2,.e 1,.c spec_l17Keeps_k3,.l spec_l17Keeps_k5,.e 0,.c spec_l17Keeps_k6]
  ⟨[(0,.sl T_Step v0),(1,.sl (.one (.int .i64)) v1),(2,.int .i64 v2),(7,.int .i64 v7),(8,.int .i64 v8)],[]⟩
theorem spec_l17Keeps_eq (a0 : List T_Step.ty) (a1 : List Int) (a2 : Int) : spec_l17Keeps a0 a1 a2 =
 spec_l17Keeps_p0 a0 a1 a2 0 :=
 (mk_f _ _ _ _ _ _ _ 4000).trans (by kernel_rfl)
theorem spec_l17Keeps_p0_eq  (v0 : List T_Step.ty) (v1 : List Int) (v2 : Int) (v7 : Int) : spec_l17Keeps_p0 v0 v1 v2 v7 =
 if decide (v7 < (v0.length : Int)) then
  spec_l17Keeps_p1 v0 v1 v2 v7 0
 else
  some true :=
 (goL_dn _ _ _ 4000 _ _).trans (by kernel_rfl)
theorem spec_l17Keeps_p1_eq  (v0 : List T_Step.ty) (v1 : List Int) (v2 : Int) (v7 : Int) (v8 : Int) : spec_l17Keeps_p1 v0 v1 v2 v7 v8 =
 if decide (0 ≤ v7) then
  (v0[v7.toNat]?).bind fun x1 =>
   if decide (v8 < (x1.2.2.2.1.length : Int)) then
    if decide (0 ≤ v7) then
     (v0[v7.toNat]?).bind fun x2 =>
      if decide (0 ≤ v8) then
       (x2.2.2.2.1[v8.toNat]?).bind fun x3 =>
        if decide (0 ≤ v7) then
         (v1[v7.toNat]?).bind fun x4 =>
          if decide (0 ≤ x3) then
           (v1[x3.toNat]?).bind fun x5 =>
            if decide (0 ≤ x3) then
             (v0[x3.toNat]?).bind fun x6 =>
              if decide (x4 < IntKind.i64.wrap (x5 + x6.2.1)) then
               some false
              else
               spec_l17Keeps_p1 v0 v1 v2 v7 (IntKind.i64.wrap (v8 + 1))
            else
             none
          else
           none
        else
         none
      else
       none
    else
     none
   else
    if decide (0 ≤ v7) then
     (v1[v7.toNat]?).bind fun x7 =>
      (spec_l17Used v0 v1 x7).bind fun x8 =>
       if decide (x8 > v2) then
        some false
       else
        spec_l17Keeps_p0 v0 v1 v2 (IntKind.i64.wrap (v7 + 1))
    else
     none
 else
  none :=
 (goL_dn _ _ _ 4000 _ _).trans (by kernel_rfl)
def spec_KeepsClamps_ir : Fn := { np := 3,io := [],res := [.t 6],own := [false],body :=
 (.seq (.reg false [.V 6 (.asg (.c (.bool false)))] [0,1,2] []) (.seq (.reg false [.V 7 (.mv (.t 0)),.V 8 (.call (.c (.fn 462 [])) [.t 7]),.V 9 (.mv (.t 8)),.G 10 (.mv (.t 0)) 2 true,.G 11 (.mv (.t 1)) 2 true,.G 12 (.call (.c (.fn 537 [])) [.t 10,.t 11]) 2 true,.V 13 (.pick (.t 9) (.t 12) (.c (.bool false))),.V 14 (.mv (.t 13)),.G 15 (.mv (.t 2)) 7 true,.G 16 (.call (.c (.fn 1 [])) [.t 15,.c (.int .i64 0),.c (.int .i64 240)]) 7 true,.V 17 (.pick (.t 14) (.t 16) (.c (.bool false))),.V 18 (.mv (.t 17)),.G 19 (.mv (.t 0)) 11 true,.G 20 (.mv (.t 1)) 11 true,.G 21 (.mv (.t 2)) 11 true,.G 22 (.call (.c (.fn 538 [])) [.t 19,.t 20,.t 21]) 11 true,.V 23 (.pick (.t 18) (.t 22) (.c (.bool false))),.V 6 (.asg (.t 23))] [6] []) .ret)) }
noncomputable def spec_KeepsClamps_D : List (Nat × Callee) := [(1,spec_l00In_c),(462,spec_l17Ok_c),(537,spec_l17Starts_c),(538,spec_l17Keeps_c)]
def spec_KeepsClamps_H : List (Nat × ET) := [(7,T_Step),(10,T_Step),(11,(.one (.int .i64))),(19,T_Step),(20,(.one (.int .i64)))]
noncomputable def spec_KeepsClamps_c : Callee := mkCallee spec_KeepsClamps_D spec_KeepsClamps_H spec_KeepsClamps_ir [.d (.one (.sl T_Step)),.d (.one (.sl (.one (.int .i64)))),.d (.one (.int .i64))] [.d (.one .bool)] []
noncomputable def spec_KeepsClamps (a0 : List T_Step.ty) (a1 : List Int) (a2 : Int) : Option (Bool) := spec_KeepsClamps_c.f (a0,a1,a2,())
theorem spec_KeepsClamps_eq (a0 : List T_Step.ty) (a1 : List Int) (a2 : Int) : spec_KeepsClamps a0 a1 a2 =
 (spec_l17Ok a0).bind fun x1 =>
  if x1 then
   (spec_l17Starts a0 a1).bind fun x2 =>
    if x2 then
     (spec_l00In a2 0 240).bind fun x3 =>
      if x3 then
       (spec_l17Keeps a0 a1 a2).bind fun x4 =>
        some x4
      else
       some false
    else
     some false
  else
   some false :=
 (mk_f _ _ _ _ _ _ _ 4000).trans (by kernel_rfl)
def laws_FnTop_k0 : C :=
 .seq (.seq (.reg false [.V 47 (.mv (.t 7)),.V 48 (.mv (.t 6)),.V 49 (.bin .lss (.t 47) (.t 48))] [3,6,7,49] [3,4000,4001,4003,4004,4006,4007]) (.cond (.t 49) .skip (.exit 0))) (.seq (.block 1 (.seq (.reg true [.V 52 (.fa 0 (.t 3)),.V 53 (.ld none (.t 52)),.V 54 (.mv (.t 7)),.V 55 (.ia 6 (.t 53) (.t 54)),.V 56 (.ld (some 6) (.t 55)),.V 57 (.fa 0 (.t 3)),.V 58 (.ld none (.t 57)),.V 59 (.mv (.t 7)),.V 60 (.bin .add (.t 59) (.c (.int .i64 1))),.V 61 (.mv (.t 6)),.V 62 (.bin .rem (.t 60) (.t 61)),.V 63 (.ia 6 (.t 58) (.t 62)),.V 64 (.ld (some 6) (.t 63)),.V 65 (.call (.c (.fn 294 [])) [.t 56,.t 64]),.V 66 (.un .not (.t 65))] [3,6,7,66] [3,4000,4001,4003,4004,4006,4007]) (.cond (.t 66) (.seq (.reg false [.V 2 (.asg (.c (.bool false)))] [2] []) .ret) .skip))) (.reg false [.V 50 (.mv (.t 7)),.V 51 (.bin .add (.t 50) (.c (.int .i64 1))),.V 7 (.asg (.t 51))] [3,6,7] [3,4000,4001,4003,4004,4006,4007]))
def laws_FnTop_k1 : C :=
 .norm [3,6,7] [3,4000,4001,4003,4004,4006,4007] laws_FnTop_k0
def laws_FnTop_k2 : C :=
 .seq (.seq (.reg false [.V 67 (.mv (.t 8)),.V 68 (.fa 1 (.t 3)),.V 69 (.ld none (.t 68)),.V 70 (.len (.t 69)),.V 71 (.bin .lss (.t 67) (.t 70))] [3,8,71] [3,4000,4001,4003,4004,4006,4007]) (.cond (.t 71) .skip (.exit 2))) (.seq (.block 3 (.seq (.reg false [.V 75 (.fa 1 (.t 3)),.V 76 (.ld none (.t 75)),.V 77 (.mv (.t 8)),.V 78 (.ia 4 (.t 76) (.t 77)),.V 79 (.ld (some 4) (.t 78)),.V 80 (.call (.c (.fn 293 [])) [.t 79]),.V 74 (.mv (.t 80)),.V 81 (.ext (.t 74) 0),.V 82 (.ext (.t 74) 1),.V 9 (.asg (.t 81)),.V 10 (.asg (.t 82))] [3,8,9,10] [3,4000,4001,4003,4004,4006,4007]) (.seq (.reg true [.V 83 (.mv (.t 10)),.V 84 (.bin .neq (.t 83) (.c (.int .i64 0))),.V 85 (.mv (.t 84)),.G 86 (.mv (.t 9)) 2 false,.G 87 (.bin .mul (.c (.int .i64 1000)) (.t 86)) 2 false,.G 88 (.fa 2 (.t 3)) 2 false,.G 89 (.ld none (.t 88)) 2 false,.G 90 (.fa 1 (.t 3)) 2 false,.G 91 (.ld none (.t 90)) 2 false,.G 92 (.mv (.t 8)) 2 false,.G 93 (.ia 4 (.t 91) (.t 92)) 2 false,.G 94 (.fa 3 (.t 93)) 2 false,.G 95 (.ld none (.t 94)) 2 false,.G 96 (.bin .mul (.t 89) (.t 95)) 2 false,.G 97 (.bin .gtr (.t 87) (.t 96)) 2 false,.V 98 (.pick (.t 85) (.c (.bool true)) (.t 97))] [3,8,98] [3,4000,4001,4003,4004,4006,4007]) (.cond (.t 98) (.seq (.reg false [.V 2 (.asg (.c (.bool false)))] [2] []) .ret) .skip)))) (.reg false [.V 72 (.mv (.t 8)),.V 73 (.bin .add (.t 72) (.c (.int .i64 1))),.V 8 (.asg (.t 73))] [3,8] [3,4000,4001,4003,4004,4006,4007]))
def laws_FnTop_k3 : C :=
 .norm [3,8] [3,4000,4001,4003,4004,4006,4007] laws_FnTop_k2
def laws_FnTop_k4 : C :=
 .seq (.seq (.reg false [.V 99 (.mv (.t 11)),.V 100 (.bin .lss (.t 99) (.c (.int .i64 40)))] [3,11,100] [3,4000,4001,4003,4004,4006,4007]) (.cond (.t 100) .skip (.exit 4))) (.seq (.block 5 (.seq (.reg false [.V 104 (.fa 3 (.t 3)),.V 105 (.ld none (.t 104)),.V 106 (.fa 4 (.t 3)),.V 107 (.ld none (.t 106)),.V 108 (.mv (.t 11)),.V 109 (.call (.c (.fn 292 [])) [.t 105,.t 107,.t 108]),.V 103 (.mv (.t 109)),.V 110 (.ext (.t 103) 0),.V 111 (.ext (.t 103) 1),.V 12 (.asg (.t 110)),.V 13 (.asg (.t 111))] [3,11,12,13] [3,4000,4001,4003,4004,4006,4007]) (.seq (.reg false [.V 112 (.mv (.t 13)),.V 113 (.bin .neq (.t 112) (.c (.int .i64 0))),.V 114 (.mv (.t 113)),.G 115 (.mv (.t 12)) 2 false,.G 116 (.fa 5 (.t 3)) 2 false,.G 117 (.ld none (.t 116)) 2 false,.G 118 (.bin .gtr (.t 115) (.t 117)) 2 false,.V 119 (.pick (.t 114) (.c (.bool true)) (.t 118))] [3,11,119] [3,4000,4001,4003,4004,4006,4007]) (.cond (.t 119) (.seq (.reg false [.V 2 (.asg (.c (.bool false)))] [2] []) .ret) .skip)))) (.reg false [.V 101 (.mv (.t 11)),.V 102 (.bin .add (.t 101) (.c (.int .i64 1))),.V 11 (.asg (.t 102))] [3,11] [3,4000,4001,4003,4004,4006,4007]))
def laws_FnTop_k5 : C :=
 .norm [3,11] [3,4000,4001,4003,4004,4006,4007] laws_FnTop_k4
def laws_FnTop_k6 : C :=
 .seq (.reg false [.V 121 (.fa 6 (.t 3)),.V 122 (.ld none (.t 121)),.V 123 (.call (.c (.fn 291 [])) [.t 122]),.V 120 (.mv (.t 123)),.V 124 (.ext (.t 120) 0),.V 125 (.ext (.t 120) 1),.W 14 (.asg (.t 124)),.V 15 (.asg (.t 125))] [3,14,15] [3,14,4000,4001,4003,4004,4006,4007]) (.seq (.reg false [.V 127 (.fa 7 (.t 3)),.V 128 (.ld none (.t 127)),.V 129 (.call (.c (.fn 290 [])) [.t 128,.c (.str [99,97,115,104])]),.V 126 (.mv (.t 129)),.V 130 (.ext (.t 126) 0),.V 131 (.ext (.t 126) 1),.V 16 (.asg (.t 130)),.V 17 (.asg (.t 131))] [3,14,15,17] [3,14,4000,4001,4003,4004,4006,4007]) (.seq (.reg false [.V 132 (.fa 3 (.t 3)),.V 133 (.ld none (.t 132)),.V 134 (.fa 4 (.t 3)),.V 135 (.ld none (.t 134)),.V 136 (.fa 5 (.t 3)),.V 137 (.ld none (.t 136)),.V 138 (.call (.c (.fn 160 [])) [.t 133,.t 135,.t 137]),.V 139 (.mv (.t 138)),.G 140 (.mv (.t 15)) 7 true,.G 141 (.bin .eql (.t 140) (.c (.int .i64 0))) 7 true,.V 142 (.pick (.t 139) (.t 141) (.c (.bool false))),.V 143 (.mv (.t 142)),.G 144 (.mv (.t 14)) 11 true,.G 145 (.len (.t 144)) 11 true,.G 146 (.bin .eql (.t 145) (.c (.int .i64 0))) 11 true,.V 147 (.pick (.t 143) (.t 146) (.c (.bool false))),.V 148 (.mv (.t 147)),.G 149 (.mv (.t 17)) 16 true,.G 150 (.bin .eql (.t 149) (.c (.int .i64 3))) 16 true,.V 151 (.pick (.t 148) (.t 150) (.c (.bool false))),.V 2 (.asg (.t 151))] [2] []) .ret))
def laws_FnTop_k7 : C :=
 .seq (.seq (.reg false [.V 11 (.asg (.c (.int .i64 0)))] [3,11] [3,4000,4001,4003,4004,4006,4007]) (.block 4 (.loop laws_FnTop_k5))) laws_FnTop_k6
def laws_FnTop_k8 : C :=
 .seq (.seq (.reg false [.V 8 (.asg (.c (.int .i64 0)))] [3,8] [3,4000,4001,4003,4004,4006,4007]) (.block 2 (.loop laws_FnTop_k3))) laws_FnTop_k7
def laws_FnTop_ir : Fn := { np := 1,io := [],res := [.t 2],own := [false],body :=
 (.seq (.reg false [.V 2 (.asg (.c (.bool false)))] [0] []) (.seq (.seq (.reg false [.V 18 (.mv (.t 0)),.V 19 (.len (.t 18)),.V 20 (.bin .gtr (.t 19) (.c (.int .i64 1048576)))] [0,20] []) (.cond (.t 20) (.seq (.reg false [.V 2 (.asg (.c (.bool true)))] [2] []) .ret) .skip)) (.seq (.reg false [.V 21 (.mv (.t 0)),.V 22 (.call (.c (.fn 287 [])) [.t 21]),.W 3 (.alloc 8 (.agg [.nils 6,.nils 4,.int .i64 0,.nils 4,.nils 1,.int .i64 0,.nils 5,.nils 4])),⟨none,true,.sto 8 (.t 3) (.t 22),none,false,[]⟩] [3] [3,4000,4001,4003,4004,4006,4007]) (.seq (.seq (.reg false [.V 23 (.ld (some 8) (.t 3)),.V 24 (.call (.c (.fn 202 [])) [.t 23]),.V 25 (.un .not (.t 24))] [3,25] [3,4000,4001,4003,4004,4006,4007]) (.cond (.t 25) (.seq (.reg false [.V 26 (.ld (some 8) (.t 3)),.V 27 (.call (.c (.fn 284 [])) [.t 26]),.V 28 (.un .not (.t 27)),.V 2 (.asg (.t 28))] [2] []) .ret) .skip)) (.seq (.seq (.reg false [.V 29 (.ld (some 8) (.t 3)),.V 30 (.call (.c (.fn 284 [])) [.t 29]),.V 31 (.un .not (.t 30))] [3,31] [3,4000,4001,4003,4004,4006,4007]) (.cond (.t 31) (.seq (.reg false [.V 33 (.ld (some 8) (.t 3)),.V 34 (.call (.c (.fn 286 [])) [.t 33]),.V 32 (.mv (.t 34)),.V 35 (.ext (.t 32) 0),.V 36 (.ext (.t 32) 1),.W 4 (.asg (.t 35)),.V 5 (.asg (.t 36))] [4,5] [4]) (.seq (.reg false [.V 37 (.mv (.t 5)),.V 38 (.bin .eql (.t 37) (.c (.int .i64 0))),.V 39 (.mv (.t 38)),.G 40 (.mv (.t 4)) 2 true,.G 41 (.len (.t 40)) 2 true,.G 42 (.bin .gtr (.t 41) (.c (.int .i64 0))) 2 true,.V 43 (.pick (.t 39) (.t 42) (.c (.bool false))),.V 2 (.asg (.t 43))] [2] []) .ret)) .skip)) (.seq (.reg false [.V 44 (.fa 0 (.t 3)),.V 45 (.ld none (.t 44)),.V 46 (.len (.t 45)),.V 6 (.asg (.t 46))] [3,6] [3,4000,4001,4003,4004,4006,4007]) (.seq (.seq (.reg false [.V 7 (.asg (.c (.int .i64 0)))] [3,6,7] [3,4000,4001,4003,4004,4006,4007]) (.block 0 (.loop laws_FnTop_k1))) laws_FnTop_k8))))))) }
noncomputable def laws_FnTop_D : List (Nat × Callee) := [(160,spec_KeepsClamps_c),(202,spec_ValidShop_c),(284,impl_PassesAudit_c),(286,impl_AuditShop_c),(287,spec_R8Shop_c),(290,spec_FirstBelow_c),(291,spec_ClashesOf_c),(292,spec_ClampsUsed_c),(293,spec_TensionOf_c),(294,spec_IsSmoothJoint_c)]
def laws_FnTop_H : List (Nat × ET) := [(4,T_Problem),(14,(.one (.sl (.one (.int .i64))))),(18,(.one (.int .u8))),(21,(.one (.int .u8))),(35,T_Problem),(40,T_Problem),(45,T_Arc),(53,T_Arc),(58,T_Arc),(69,T_Neck),(76,T_Neck),(91,T_Neck),(105,T_Step),(107,(.one (.int .i64))),(122,T_Paper),(124,(.one (.sl (.one (.int .i64))))),(128,T_Entry),(133,T_Step),(135,(.one (.int .i64))),(144,(.one (.sl (.one (.int .i64)))))]
noncomputable def laws_FnTop_c : Callee := mkCallee laws_FnTop_D laws_FnTop_H laws_FnTop_ir [.d (.one (.sl (.one (.int .u8))))] [.d (.one .bool)] []
noncomputable def laws_FnTop (a0 : List Int) : Option (Bool) := laws_FnTop_c.f (a0,())
noncomputable def laws_FnTop_p0  (v6 : Int) (v7 : Int) (r3_0 : List T_Arc.ty) (r3_1 : List T_Neck.ty) (r3_2 : Int) (r3_3 : List T_Step.ty) (r3_4 : List Int) (r3_5 : Int) (r3_6 : List T_Paper.ty) (r3_7 : List T_Entry.ty) : Option (Bool) :=
 goL laws_FnTop_D laws_FnTop_H (vleave laws_FnTop_ir [.d (.one (.sl (.one (.int .u8))))] [.d (.one .bool)] [] []) [.c laws_FnTop_k0,.l laws_FnTop_k1,.e 0,.c laws_FnTop_k8]
  ⟨[(3,.loc 3 0 0),(6,.int .i64 v6),(7,.int .i64 v7)],[(3,some (.var 8 (.agg [.sl T_Arc r3_0,.sl T_Neck r3_1,.int .i64 r3_2,.sl T_Step r3_3,.sl (.one (.int .i64)) r3_4,.int .i64 r3_5,.sl T_Paper r3_6,.sl T_Entry r3_7]))),(4000,none),(4001,none),(4003,none),(4004,none),(4006,none),(4007,none)]⟩
noncomputable def laws_FnTop_p1  (v8 : Int) (r3_0 : List T_Arc.ty) (r3_1 : List T_Neck.ty) (r3_2 : Int) (r3_3 : List T_Step.ty) (r3_4 : List Int) (r3_5 : Int) (r3_6 : List T_Paper.ty) (r3_7 : List T_Entry.ty) : Option (Bool) :=
 goL laws_FnTop_D laws_FnTop_H (vleave laws_FnTop_ir [.d (.one (.sl (.one (.int .u8))))] [.d (.one .bool)] [] []) [.c laws_FnTop_k2,.l laws_FnTop_k3,.e 2,.c laws_FnTop_k7]
  ⟨[(3,.loc 3 0 0),(8,.int .i64 v8)],[(3,some (.var 8 (.agg [.sl T_Arc r3_0,.sl T_Neck r3_1,.int .i64 r3_2,.sl T_Step r3_3,.sl (.one (.int .i64)) r3_4,.int .i64 r3_5,.sl T_Paper r3_6,.sl T_Entry r3_7]))),(4000,none),(4001,none),(4003,none),(4004,none),(4006,none),(4007,none)]⟩
noncomputable def laws_FnTop_p2  (v11 : Int) (r3_0 : List T_Arc.ty) (r3_1 : List T_Neck.ty) (r3_2 : Int) (r3_3 : List T_Step.ty) (r3_4 : List Int) (r3_5 : Int) (r3_6 : List T_Paper.ty) (r3_7 : List T_Entry.ty) : Option (Bool) :=
 goL laws_FnTop_D laws_FnTop_H (vleave laws_FnTop_ir [.d (.one (.sl (.one (.int .u8))))] [.d (.one .bool)] [] []) [.c laws_FnTop_k4,.l laws_FnTop_k5,.e 4,.c laws_FnTop_k6]
  ⟨[(3,.loc 3 0 0),(11,.int .i64 v11)],[(3,some (.var 8 (.agg [.sl T_Arc r3_0,.sl T_Neck r3_1,.int .i64 r3_2,.sl T_Step r3_3,.sl (.one (.int .i64)) r3_4,.int .i64 r3_5,.sl T_Paper r3_6,.sl T_Entry r3_7]))),(4000,none),(4001,none),(4003,none),(4004,none),(4006,none),(4007,none)]⟩
theorem laws_FnTop_eq (a0 : List Int) : laws_FnTop a0 =
 if decide ((a0.length : Int) > 1048576) then
  some true
 else
  (spec_R8Shop a0).bind fun x1 =>
   (spec_ValidShop x1).bind fun x2 =>
    if (!x2) then
     (impl_PassesAudit x1).bind fun x3 =>
      some (!x3)
    else
     (impl_PassesAudit x1).bind fun x4 =>
      if (!x4) then
       (impl_AuditShop x1).bind fun x5 =>
        if (x5.2 == 0) then
         some (decide ((x5.1.length : Int) > 0))
        else
         some false
      else
       laws_FnTop_p0 (x1.1.length : Int) 0 x1.1 x1.2.1 x1.2.2.1 x1.2.2.2.1 x1.2.2.2.2.1 x1.2.2.2.2.2.1 x1.2.2.2.2.2.2.1 x1.2.2.2.2.2.2.2.1 :=
 (mk_f _ _ _ _ _ _ _ 4000).trans (by kernel_rfl)
theorem laws_FnTop_p0_eq  (v6 : Int) (v7 : Int) (r3_0 : List T_Arc.ty) (r3_1 : List T_Neck.ty) (r3_2 : Int) (r3_3 : List T_Step.ty) (r3_4 : List Int) (r3_5 : Int) (r3_6 : List T_Paper.ty) (r3_7 : List T_Entry.ty) : laws_FnTop_p0 v6 v7 r3_0 r3_1 r3_2 r3_3 r3_4 r3_5 r3_6 r3_7 =
 if decide (v7 < v6) then
  if decide (0 ≤ v7) then
   (r3_0[v7.toNat]?).bind fun x1 =>
    if decide (v6 = 0) then
     none
    else
     if decide (0 ≤ (IntKind.i64.wrap (v7 + 1)).tmod v6) then
      (r3_0[((IntKind.i64.wrap (v7 + 1)).tmod v6).toNat]?).bind fun x2 =>
       (spec_IsSmoothJoint x1 x2).bind fun x3 =>
        if (!x3) then
         some false
        else
         laws_FnTop_p0 v6 (IntKind.i64.wrap (v7 + 1)) r3_0 r3_1 r3_2 r3_3 r3_4 r3_5 r3_6 r3_7
     else
      none
  else
   none
 else
  laws_FnTop_p1 0 r3_0 r3_1 r3_2 r3_3 r3_4 r3_5 r3_6 r3_7 :=
 (goL_dn _ _ _ 4000 _ _).trans (by kernel_rfl)
theorem laws_FnTop_p1_eq  (v8 : Int) (r3_0 : List T_Arc.ty) (r3_1 : List T_Neck.ty) (r3_2 : Int) (r3_3 : List T_Step.ty) (r3_4 : List Int) (r3_5 : Int) (r3_6 : List T_Paper.ty) (r3_7 : List T_Entry.ty) : laws_FnTop_p1 v8 r3_0 r3_1 r3_2 r3_3 r3_4 r3_5 r3_6 r3_7 =
 if decide (v8 < (r3_1.length : Int)) then
  if decide (0 ≤ v8) then
   (r3_1[v8.toNat]?).bind fun x1 =>
    (spec_TensionOf x1).bind fun x2 =>
     if (x2.2 != 0) then
      some false
     else
      if decide (0 ≤ v8) then
       (r3_1[v8.toNat]?).bind fun x3 =>
        if decide (IntKind.i64.wrap (1000 * x2.1) > IntKind.i64.wrap (r3_2 * x3.2.2.2.1)) then
         some false
        else
         laws_FnTop_p1 (IntKind.i64.wrap (v8 + 1)) r3_0 r3_1 r3_2 r3_3 r3_4 r3_5 r3_6 r3_7
      else
       none
  else
   none
 else
  laws_FnTop_p2 0 r3_0 r3_1 r3_2 r3_3 r3_4 r3_5 r3_6 r3_7 :=
 (goL_dn _ _ _ 4000 _ _).trans (by kernel_rfl)
theorem laws_FnTop_p2_eq  (v11 : Int) (r3_0 : List T_Arc.ty) (r3_1 : List T_Neck.ty) (r3_2 : Int) (r3_3 : List T_Step.ty) (r3_4 : List Int) (r3_5 : Int) (r3_6 : List T_Paper.ty) (r3_7 : List T_Entry.ty) : laws_FnTop_p2 v11 r3_0 r3_1 r3_2 r3_3 r3_4 r3_5 r3_6 r3_7 =
 if decide (v11 < 40) then
  (spec_ClampsUsed r3_3 r3_4 v11).bind fun x1 =>
   if (x1.2 != 0) then
    some false
   else
    if decide (x1.1 > r3_5) then
     some false
    else
     laws_FnTop_p2 (IntKind.i64.wrap (v11 + 1)) r3_0 r3_1 r3_2 r3_3 r3_4 r3_5 r3_6 r3_7
 else
  (spec_ClashesOf r3_6).bind fun x2 =>
   (spec_FirstBelow r3_7 [99,97,115,104]).bind fun x3 =>
    (spec_KeepsClamps r3_3 r3_4 r3_5).bind fun x4 =>
     if x4 then
      if (x2.2 == 0) then
       if ((x2.1.length : Int) == 0) then
        some (x3.2 == 3)
       else
        some false
      else
       some false
     else
      some false :=
 (goL_dn _ _ _ 4000 _ _).trans (by kernel_rfl)
end Go.Ab.P
