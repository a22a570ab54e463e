/- Functions of the program: abstract forms, and what their runs give. Conditions: none. -/
import Derived.Test.YtmmlhpfodamdgaaGreatDoorPFnExactAuditShop1
set_option maxRecDepth 100000
set_option linter.unusedVariables false
namespace Go.Ab.P
open Go.Ab
def impl_TradeProblems_k0 : C :=
 .seq (.reg false [.V 27 (.bin .lss (.t 26) (.t 25))] [1,4,24,25,26,27] [1,4,5,2000,2001,2003,2004,2006,2007]) (.seq (.cond (.t 27) .skip (.exit 0)) (.seq (.block 1 (.seq (.reg false [.V 28 (.ia 1 (.t 24) (.t 26)),.V 29 (.ld none (.t 28)),.W 8 (.asg (.t 29))] [1,4,8,24,25,26] [1,4,5,8,2000,2001,2003,2004,2006,2007]) (.reg true [.V 30 (.mv (.t 4)),.V 31 (.fa 6 (.t 1)),.V 32 (.ld none (.t 31)),.V 33 (.mv (.t 8)),.V 34 (.ia 1 (.t 33) (.c (.int .i64 0))),.V 35 (.ld none (.t 34)),.V 36 (.ia 5 (.t 32) (.t 35)),.V 37 (.fa 0 (.t 36)),.V 38 (.ld none (.t 37)),.V 39 (.fa 6 (.t 1)),.V 40 (.ld none (.t 39)),.V 41 (.mv (.t 8)),.V 42 (.ia 1 (.t 41) (.c (.int .i64 1))),.V 43 (.ld none (.t 42)),.V 44 (.ia 5 (.t 40) (.t 43)),.V 45 (.fa 0 (.t 44)),.V 46 (.ld none (.t 45)),.V 47 (.build [.int .i64 0,.str [],.str []] [(0,1,.c (.int .i64 4)),(1,1,.t 38),(2,1,.t 46)]),.V 48 (.bsl 3 (.agg [.int .i64 0,.str [],.str []]) 1 [(0,.t 47)]),.W 49 (.app 3 40 (.t 30) (.t 48)),.W 4 (.asg (.t 49))] [1,4,24,25,26] [1,4,5,2000,2001,2003,2004,2006,2007]))) (.reg false [.V 50 (.bin .add (.t 26) (.c (.int .i64 1))),.V 26 (.mv (.t 50))] [1,4,24,25,26] [1,4,5,2000,2001,2003,2004,2006,2007])))
def impl_TradeProblems_k1 : C :=
 .norm [1,4,24,25,26] [1,4,5,2000,2001,2003,2004,2006,2007] impl_TradeProblems_k0
def impl_TradeProblems_k2 : C :=
 .seq (.reg false [.V 66 (.bin .lss (.t 65) (.t 64))] [4,9,11,63,64,65,66] [4]) (.seq (.cond (.t 66) .skip (.exit 2)) (.seq (.block 3 (.seq (.reg false [.V 67 (.ia 4 (.t 63) (.t 65)),.V 68 (.ld (some 4) (.t 67)),.W 13 (.alloc 4 (.agg [.int .i64 0,.str [],.str [],.int .i64 0])),⟨none,true,.sto 4 (.t 13) (.t 68),none,false,[]⟩] [4,9,11,13,63,64,65] [4,13]) (.reg false [.V 69 (.mv (.t 11)),.V 70 (.ld (some 4) (.t 13)),.V 71 (.call (.c (.fn 622 [])) [.t 70,.c (.str [99,97,115,104])]),.V 72 (.bin .add (.t 69) (.t 71)),.V 11 (.asg (.t 72))] [4,9,11,63,64,65] [4]))) (.reg false [.V 73 (.bin .add (.t 65) (.c (.int .i64 1))),.V 65 (.mv (.t 73))] [4,9,11,63,64,65] [4])))
def impl_TradeProblems_k3 : C :=
 .norm [4,9,11,63,64,65] [4] impl_TradeProblems_k2
def impl_TradeProblems_k4 : C :=
 .reg false [.V 74 (.mv (.t 4)),.V 75 (.mv (.t 9)),.V 76 (.call (.c (.fn 524 [])) [.t 75]),.V 77 (.mv (.t 11)),.V 78 (.call (.c (.fn 524 [])) [.t 77]),.V 79 (.build [.int .i64 0,.str [],.str []] [(0,1,.c (.int .i64 5)),(1,1,.t 76),(2,1,.t 78)]),.V 80 (.bsl 3 (.agg [.int .i64 0,.str [],.str []]) 1 [(0,.t 79)]),.W 81 (.app 3 40 (.t 74) (.t 80)),.W 4 (.asg (.t 81))] [4] [4]
def impl_TradeProblems_k5 : C :=
 .seq (.reg false [.V 82 (.mv (.t 4)),.W 2 (.asg (.t 82)),.V 3 (.asg (.c (.int .i64 0)))] [2,3] [2,4]) .ret
def impl_TradeProblems_k6 : C :=
 .seq (.seq (.reg false [.V 52 (.fa 7 (.t 1)),.V 53 (.ld none (.t 52)),.V 54 (.call (.c (.fn 210 [])) [.t 53,.c (.str [99,97,115,104])]),.V 51 (.mv (.t 54)),.V 55 (.ext (.t 51) 0),.V 56 (.ext (.t 51) 1),.V 9 (.asg (.t 55)),.V 10 (.asg (.t 56))] [1,4,9,10] [1,4,2000,2001,2003,2004,2006,2007]) (.seq (.reg false [.V 57 (.mv (.t 10)),.V 58 (.bin .eql (.t 57) (.c (.int .i64 0)))] [1,4,9,58] [1,4,2000,2001,2003,2004,2006,2007]) (.cond (.t 58) (.seq (.reg false [.V 11 (.asg (.c (.int .i64 0)))] [1,4,9,11] [1,4,2000,2001,2003,2004,2006,2007]) (.seq (.seq (.reg false [.V 59 (.fa 7 (.t 1)),.V 60 (.ld none (.t 59)),.V 61 (.mv (.t 9)),.V 62 (.bin .add (.t 61) (.c (.int .i64 1))),.V 63 (.slc 4 (.t 60) none (some (.t 62))),.V 64 (.len (.t 63)),.V 65 (.mv (.c (.int .i64 0)))] [4,9,11,63,64,65] [4]) (.block 2 (.loop impl_TradeProblems_k3))) impl_TradeProblems_k4)) .skip))) impl_TradeProblems_k5
def impl_TradeProblems_ir : Fn := { np := 1,io := [],res := [.t 2,.t 3],own := [true,false],body :=
 (.seq (.reg false [.W 1 (.box 8 (.t 0)),.W 2 (.asg (.c (.nils 3))),.V 3 (.asg (.c (.int .i64 0)))] [1] [1,2000,2001,2003,2004,2006,2007]) (.seq (.seq (.reg false [.V 14 (.ld (some 8) (.t 1)),.V 15 (.call (.c (.fn 201 [])) [.t 14]),.V 16 (.un .not (.t 15))] [1,16] [1,2000,2001,2003,2004,2006,2007]) (.cond (.t 16) (.seq (.reg false [.W 2 (.asg (.c (.nils 3))),.V 3 (.asg (.c (.int .i64 1)))] [2,3] [2,4]) .ret) .skip)) (.seq (.reg false [.V 17 (.bsl 3 (.agg [.int .i64 0,.str [],.str []]) 0 []),.W 4 (.asg (.t 17))] [1,4] [1,4,2000,2001,2003,2004,2006,2007]) (.seq (.reg false [.V 19 (.fa 6 (.t 1)),.V 20 (.ld none (.t 19)),.V 21 (.call (.c (.fn 711 [])) [.t 20]),.V 18 (.mv (.t 21)),.V 22 (.ext (.t 18) 0),.V 23 (.ext (.t 18) 1),.W 5 (.asg (.t 22)),.V 6 (.asg (.t 23))] [1,4,5] [1,4,5,2000,2001,2003,2004,2006,2007]) (.seq (.seq (.reg false [.V 24 (.mv (.t 5)),.V 25 (.len (.t 24)),.V 26 (.mv (.c (.int .i64 0)))] [1,4,24,25,26] [1,4,5,2000,2001,2003,2004,2006,2007]) (.block 0 (.loop impl_TradeProblems_k1))) impl_TradeProblems_k6))))) }
noncomputable def impl_TradeProblems_D : List (Nat × Callee) := [(201,impl_ValidShop_c),(210,impl_FirstBelow_c),(524,impl_Decimal_c),(622,impl_Entry_change_c),(711,impl_ClashesOf_c)]
def impl_TradeProblems_H : List (Nat × ET) := [(2,T_Problem),(4,T_Problem),(5,(.one (.sl (.one (.int .i64))))),(8,(.one (.int .i64))),(17,T_Problem),(20,T_Paper),(22,(.one (.sl (.one (.int .i64))))),(24,(.one (.sl (.one (.int .i64))))),(29,(.one (.int .i64))),(30,T_Problem),(32,T_Paper),(33,(.one (.int .i64))),(40,T_Paper),(41,(.one (.int .i64))),(48,T_Problem),(49,T_Problem),(53,T_Entry),(60,T_Entry),(63,T_Entry),(74,T_Problem),(80,T_Problem),(81,T_Problem),(82,T_Problem)]
noncomputable def impl_TradeProblems_c : Callee := mkCallee impl_TradeProblems_D impl_TradeProblems_H impl_TradeProblems_ir [.d T_Shop] [.tok T_Problem,.d (.one (.int .i64))] []
noncomputable def impl_TradeProblems (a0 : T_Shop.ty) : Option (List T_Problem.ty × Int) := impl_TradeProblems_c.f (a0,())
noncomputable def impl_TradeProblems_p0  (v24 : List (List Int)) (v25 : Int) (v26 : Int) (r1_0 : List T_Arc.ty) (r1_1 : List T_Neck.ty) (r1_2 : Int) (r1_3 : List T_Step.ty) (r1_4 : List Int) (r1_5 : Int) (r1_6 : List T_Paper.ty) (r1_7 : List T_Entry.ty) (r4 : List T_Problem.ty) : Option (List T_Problem.ty × Int) :=
 goL impl_TradeProblems_D impl_TradeProblems_H (vleave impl_TradeProblems_ir [.d T_Shop] [.tok T_Problem,.d (.one (.int .i64))] [] []) [.c impl_TradeProblems_k0,.l impl_TradeProblems_k1,.e 0,.c impl_TradeProblems_k6]
  ⟨[(1,.loc 1 0 0),(4,.view 4 0 r4.length),(24,.sl (.one (.sl (.one (.int .i64)))) v24),(25,.int .i64 v25),(26,.int .i64 v26)],[(1,some (.var 8 (.agg [.sl T_Arc r1_0,.sl T_Neck r1_1,.int .i64 r1_2,.sl T_Step r1_3,.sl (.one (.int .i64)) r1_4,.int .i64 r1_5,.sl T_Paper r1_6,.sl T_Entry r1_7]))),(4,some (.sl T_Problem r4)),(5,none),(2000,none),(2001,none),(2003,none),(2004,none),(2006,none),(2007,none)]⟩
noncomputable def impl_TradeProblems_p1  (v9 : Int) (v11 : Int) (v63 : List T_Entry.ty) (v64 : Int) (v65 : Int) (r4 : List T_Problem.ty) : Option (List T_Problem.ty × Int) :=
 goL impl_TradeProblems_D impl_TradeProblems_H (vleave impl_TradeProblems_ir [.d T_Shop] [.tok T_Problem,.d (.one (.int .i64))] [] []) [.c impl_TradeProblems_k2,.l impl_TradeProblems_k3,.e 2,.c impl_TradeProblems_k4,.c impl_TradeProblems_k5]
  ⟨[(4,.view 4 0 r4.length),(9,.int .i64 v9),(11,.int .i64 v11),(63,.sl T_Entry v63),(64,.int .i64 v64),(65,.int .i64 v65)],[(4,some (.sl T_Problem r4))]⟩
theorem impl_TradeProblems_eq (a0 : T_Shop.ty) : impl_TradeProblems a0 =
 (impl_ValidShop a0).bind fun x1 =>
  if (!x1) then
   some ([],1)
  else
   (impl_ClashesOf a0.2.2.2.2.2.2.1).bind fun x2 =>
    impl_TradeProblems_p0 x2.1 (x2.1.length : Int) 0 a0.1 a0.2.1 a0.2.2.1 a0.2.2.2.1 a0.2.2.2.2.1 a0.2.2.2.2.2.1 a0.2.2.2.2.2.2.1 a0.2.2.2.2.2.2.2.1 [] :=
 (mk_f _ _ _ _ _ _ _ 4000).trans (by kernel_rfl)
theorem impl_TradeProblems_p0_eq  (v24 : List (List Int)) (v25 : Int) (v26 : Int) (r1_0 : List T_Arc.ty) (r1_1 : List T_Neck.ty) (r1_2 : Int) (r1_3 : List T_Step.ty) (r1_4 : List Int) (r1_5 : Int) (r1_6 : List T_Paper.ty) (r1_7 : List T_Entry.ty) (r4 : List T_Problem.ty) : impl_TradeProblems_p0 v24 v25 v26 r1_0 r1_1 r1_2 r1_3 r1_4 r1_5 r1_6 r1_7 r4 =
 if decide (v26 < v25) then
  if decide (0 ≤ v26) then
   (v24[v26.toNat]?).bind fun x1 =>
    (x1[0]?).bind fun x2 =>
     if decide (0 ≤ x2) then
      (r1_6[x2.toNat]?).bind fun x3 =>
       (x1[1]?).bind fun x4 =>
        if decide (0 ≤ x4) then
         (r1_6[x4.toNat]?).bind fun x5 =>
          if decide (r4.length + 1 < lim) then
           impl_TradeProblems_p0 v24 v25 (IntKind.i64.wrap (v26 + 1)) r1_0 r1_1 r1_2 r1_3 r1_4 r1_5 r1_6 r1_7 ((r4.take r4.length) ++ [(4,x3.1,x5.1,())])
          else
           none
        else
         none
     else
      none
  else
   none
 else
  (impl_FirstBelow r1_7 [99,97,115,104]).bind fun x6 =>
   if (x6.2 == 0) then
    if decide (0 ≤ IntKind.i64.wrap (x6.1 + 1)) && decide (IntKind.i64.wrap (x6.1 + 1) ≤ (r1_7.length : Int)) then
     impl_TradeProblems_p1 x6.1 0 (r1_7.take ((IntKind.i64.wrap (x6.1 + 1)).toNat)) ((r1_7.take ((IntKind.i64.wrap (x6.1 + 1)).toNat)).length : Int) 0 r4
    else
     none
   else
    some ((r4.take r4.length),0) :=
 (goL_dn _ _ _ 4000 _ _).trans (by kernel_rfl)
theorem impl_TradeProblems_p1_eq  (v9 : Int) (v11 : Int) (v63 : List T_Entry.ty) (v64 : Int) (v65 : Int) (r4 : List T_Problem.ty) : impl_TradeProblems_p1 v9 v11 v63 v64 v65 r4 =
 if decide (v65 < v64) then
  if decide (0 ≤ v65) then
   (v63[v65.toNat]?).bind fun x1 =>
    (impl_Entry_change x1 [99,97,115,104]).bind fun x2 =>
     impl_TradeProblems_p1 v9 (IntKind.i64.wrap (v11 + x2)) v63 v64 (IntKind.i64.wrap (v65 + 1)) r4
  else
   none
 else
  (impl_Decimal v9).bind fun x3 =>
   (impl_Decimal v11).bind fun x4 =>
    if decide (r4.length + 1 < lim) then
     some ((((r4.take r4.length) ++ [(5,x3,x4,())]).take (((r4.take r4.length) ++ [(5,x3,x4,())]).length)),0)
    else
     none :=
 (goL_dn _ _ _ 4000 _ _).trans (by kernel_rfl)
def impl_AuditShop_k0 : C :=
 .seq (.reg false [.V 12 (.bin .lss (.t 11) (.c (.int .i64 3)))] [1,4,10,11,12] [1,4,2000,2001,2003,2004,2006,2007]) (.seq (.cond (.t 12) .skip (.exit 0)) (.seq (.block 1 (.seq (.reg false [.V 13 (.ixa 3 1 none (.t 10) (.t 11)),.V 6 (.asg (.t 13))] [1,4,6,10,11] [1,4,2000,2001,2003,2004,2006,2007]) (.seq (.reg false [.V 15 (.mv (.t 6)),.V 16 (.ld (some 8) (.t 1)),.V 17 (.call (.t 15) [.t 16]),.V 14 (.mv (.t 17)),.V 18 (.ext (.t 14) 0),.V 19 (.ext (.t 14) 1),.W 7 (.asg (.t 18)),.V 8 (.asg (.t 19))] [1,4,7,8,10,11] [1,4,7,2000,2001,2003,2004,2006,2007]) (.seq (.seq (.reg false [.V 20 (.mv (.t 8)),.V 21 (.bin .neq (.t 20) (.c (.int .i64 0)))] [1,4,7,8,10,11,21] [1,4,7,2000,2001,2003,2004,2006,2007]) (.cond (.t 21) (.seq (.reg false [.V 22 (.mv (.t 8)),.W 2 (.asg (.c (.nils 3))),.V 3 (.asg (.t 22))] [2,3] [2,4]) .ret) .skip)) (.reg false [.V 23 (.mv (.t 4)),.V 24 (.mv (.t 7)),.W 25 (.app 3 40 (.t 23) (.t 24)),.W 4 (.asg (.t 25))] [1,4,10,11] [1,4,2000,2001,2003,2004,2006,2007]))))) (.reg false [.V 26 (.bin .add (.t 11) (.c (.int .i64 1))),.V 11 (.mv (.t 26))] [1,4,10,11] [1,4,2000,2001,2003,2004,2006,2007])))
def impl_AuditShop_k1 : C :=
 .norm [1,4,10,11] [1,4,2000,2001,2003,2004,2006,2007] impl_AuditShop_k0
def impl_AuditShop_k2 : C :=
 .seq (.reg false [.V 27 (.mv (.t 4)),.W 2 (.asg (.t 27)),.V 3 (.asg (.c (.int .i64 0)))] [2,3] [2,4]) .ret
def impl_AuditShop_ir : Fn := { np := 1,io := [],res := [.t 2,.t 3],own := [true,false],body :=
 (.seq (.reg false [.W 1 (.box 8 (.t 0)),.W 2 (.asg (.c (.nils 3))),.V 3 (.asg (.c (.int .i64 0)))] [1] [1,2000,2001,2003,2004,2006,2007]) (.seq (.reg false [.V 9 (.bsl 3 (.agg [.int .i64 0,.str [],.str []]) 0 []),.W 4 (.asg (.t 9))] [1,4] [1,4,2000,2001,2003,2004,2006,2007]) (.seq (.seq (.reg false [.V 10 (.build [.cst .nilFunc,.cst .nilFunc,.cst .nilFunc] [(0,1,.c (.fn 283 [])),(1,1,.c (.fn 285 [])),(2,1,.c (.fn 282 []))]),.V 11 (.mv (.c (.int .i64 0)))] [1,4,10,11] [1,4,2000,2001,2003,2004,2006,2007]) (.block 0 (.loop impl_AuditShop_k1))) impl_AuditShop_k2))) }
noncomputable def impl_AuditShop_D : List (Nat × Callee) := [(282,impl_TradeProblems_c),(283,impl_BodyProblems_c),(285,impl_WorkProblems_c)]
def impl_AuditShop_H : List (Nat × ET) := [(2,T_Problem),(4,T_Problem),(7,T_Problem),(9,T_Problem),(18,T_Problem),(23,T_Problem),(24,T_Problem),(25,T_Problem),(27,T_Problem)]
noncomputable def impl_AuditShop_c : Callee := mkCallee impl_AuditShop_D impl_AuditShop_H impl_AuditShop_ir [.d T_Shop] [.tok T_Problem,.d (.one (.int .i64))] []
noncomputable def impl_AuditShop (a0 : T_Shop.ty) : Option (List T_Problem.ty × Int) := impl_AuditShop_c.f (a0,())
noncomputable def impl_AuditShop_p0  (v11 : Int) (r1_0 : List T_Arc.ty) (r1_1 : List T_Neck.ty) (r1_2 : Int) (r1_3 : List T_Step.ty) (r1_4 : List Int) (r1_5 : Int) (r1_6 : List T_Paper.ty) (r1_7 : List T_Entry.ty) (r4 : List T_Problem.ty) : Option (List T_Problem.ty × Int) :=
 goL impl_AuditShop_D impl_AuditShop_H (vleave impl_AuditShop_ir [.d T_Shop] [.tok T_Problem,.d (.one (.int .i64))] [] []) [.c impl_AuditShop_k0,.l impl_AuditShop_k1,.e 0,.c impl_AuditShop_k2]
  ⟨[(1,.loc 1 0 0),(4,.view 4 0 r4.length),(10,.agg [.fn 283 [],.fn 285 [],.fn 282 []]),(11,.int .i64 v11)],[(1,some (.var 8 (.agg [.sl T_Arc r1_0,.sl T_Neck r1_1,.int .i64 r1_2,.sl T_Step r1_3,.sl (.one (.int .i64)) r1_4,.int .i64 r1_5,.sl T_Paper r1_6,.sl T_Entry r1_7]))),(4,some (.sl T_Problem r4)),(2000,none),(2001,none),(2003,none),(2004,none),(2006,none),(2007,none)]⟩
theorem impl_AuditShop_eq (a0 : T_Shop.ty) : impl_AuditShop a0 =
 impl_AuditShop_p0 0 a0.1 a0.2.1 a0.2.2.1 a0.2.2.2.1 a0.2.2.2.2.1 a0.2.2.2.2.2.1 a0.2.2.2.2.2.2.1 a0.2.2.2.2.2.2.2.1 [] :=
 (mk_f _ _ _ _ _ _ _ 4000).trans (by kernel_rfl)
theorem impl_AuditShop_p0_eq  (v11 : Int) (r1_0 : List T_Arc.ty) (r1_1 : List T_Neck.ty) (r1_2 : Int) (r1_3 : List T_Step.ty) (r1_4 : List Int) (r1_5 : Int) (r1_6 : List T_Paper.ty) (r1_7 : List T_Entry.ty) (r4 : List T_Problem.ty) : impl_AuditShop_p0 v11 r1_0 r1_1 r1_2 r1_3 r1_4 r1_5 r1_6 r1_7 r4 =
 if decide (v11 < 3) then
  if decide (v11 = 0) then
   (impl_BodyProblems (r1_0,r1_1,r1_2,r1_3,r1_4,r1_5,r1_6,r1_7,())).bind fun x1 =>
    if (x1.2 != 0) then
     some ([],x1.2)
    else
     if decide (r4.length + (x1.1.take x1.1.length).length < lim) then
      impl_AuditShop_p0 (IntKind.i64.wrap (v11 + 1)) r1_0 r1_1 r1_2 r1_3 r1_4 r1_5 r1_6 r1_7 ((r4.take r4.length) ++ (x1.1.take x1.1.length))
     else
      none
  else
   if decide (v11 = 1) then
    (impl_WorkProblems (r1_0,r1_1,r1_2,r1_3,r1_4,r1_5,r1_6,r1_7,())).bind fun x2 =>
     if (x2.2 != 0) then
      some ([],x2.2)
     else
      if decide (r4.length + (x2.1.take x2.1.length).length < lim) then
       impl_AuditShop_p0 (IntKind.i64.wrap (v11 + 1)) r1_0 r1_1 r1_2 r1_3 r1_4 r1_5 r1_6 r1_7 ((r4.take r4.length) ++ (x2.1.take x2.1.length))
      else
       none
   else
    if decide (v11 = 2) then
     (impl_TradeProblems (r1_0,r1_1,r1_2,r1_3,r1_4,r1_5,r1_6,r1_7,())).bind fun x3 =>
      if (x3.2 != 0) then
       some ([],x3.2)
      else
       if decide (r4.length + (x3.1.take x3.1.length).length < lim) then
        impl_AuditShop_p0 (IntKind.i64.wrap (v11 + 1)) r1_0 r1_1 r1_2 r1_3 r1_4 r1_5 r1_6 r1_7 ((r4.take r4.length) ++ (x3.1.take x3.1.length))
       else
        none
    else
     none
 else
  some ((r4.take r4.length),0) :=
 (goL_dn _ _ _ 4000 _ _).trans (by kernel_rfl)
def laws_eqProblem_ir : Fn := { np := 2,io := [],res := [.t 4],own := [false],body :=
 (.seq (.reg false [.W 2 (.box 3 (.t 0)),.W 3 (.box 3 (.t 1)),.V 4 (.asg (.c (.bool false)))] [2,3] [2,3]) (.seq (.seq (.reg false [.V 5 (.fa 0 (.t 2)),.V 6 (.ld none (.t 5)),.V 7 (.fa 0 (.t 3)),.V 8 (.ld none (.t 7)),.V 9 (.bin .neq (.t 6) (.t 8))] [2,3,9] [2,3]) (.cond (.t 9) (.seq (.reg false [.V 4 (.asg (.c (.bool false)))] [4] []) .ret) .skip)) (.seq (.seq (.reg false [.V 10 (.fa 1 (.t 2)),.V 11 (.ld none (.t 10)),.V 12 (.fa 1 (.t 3)),.V 13 (.ld none (.t 12)),.V 14 (.bin .neq (.t 11) (.t 13))] [2,3,14] [2,3]) (.cond (.t 14) (.seq (.reg false [.V 4 (.asg (.c (.bool false)))] [4] []) .ret) .skip)) (.seq (.seq (.reg false [.V 15 (.fa 2 (.t 2)),.V 16 (.ld none (.t 15)),.V 17 (.fa 2 (.t 3)),.V 18 (.ld none (.t 17)),.V 19 (.bin .neq (.t 16) (.t 18))] [19] []) (.cond (.t 19) (.seq (.reg false [.V 4 (.asg (.c (.bool false)))] [4] []) .ret) .skip)) (.seq (.reg false [.V 4 (.asg (.c (.bool true)))] [4] []) .ret))))) }
noncomputable def laws_eqProblem_D : List (Nat × Callee) := []
def laws_eqProblem_H : List (Nat × ET) := []
noncomputable def laws_eqProblem_c : Callee := mkCallee laws_eqProblem_D laws_eqProblem_H laws_eqProblem_ir [.d T_Problem,.d T_Problem] [.d (.one .bool)] []
noncomputable def laws_eqProblem (a0 : T_Problem.ty) (a1 : T_Problem.ty) : Option (Bool) := laws_eqProblem_c.f (a0,a1,())
theorem laws_eqProblem_eq (a0 : T_Problem.ty) (a1 : T_Problem.ty) : laws_eqProblem a0 a1 =
 if (a0.1 != a1.1) then
  some false
 else
  if (!(a0.2.1 == a1.2.1)) then
   some false
  else
   if (!(a0.2.2.1 == a1.2.2.1)) then
    some false
   else
    some true :=
 (mk_f _ _ _ _ _ _ _ 4000).trans (by kernel_rfl)
def laws_eqProblemS_k0 : C :=
 .seq (.seq (.reg false [.V 11 (.mv (.t 5)),.V 12 (.mv (.t 0)),.V 13 (.len (.t 12)),.V 14 (.bin .lss (.t 11) (.t 13))] [0,1,5,14] []) (.cond (.t 14) .skip (.exit 0))) (.seq (.block 1 (.seq (.reg true [.V 17 (.mv (.t 0)),.V 18 (.mv (.t 5)),.V 19 (.ia 3 (.t 17) (.t 18)),.V 20 (.ld (some 3) (.t 19)),.V 21 (.mv (.t 1)),.V 22 (.mv (.t 5)),.V 23 (.ia 3 (.t 21) (.t 22)),.V 24 (.ld (some 3) (.t 23)),.V 25 (.call (.c (.fn 39 [])) [.t 20,.t 24]),.V 26 (.un .not (.t 25))] [0,1,5,26] []) (.cond (.t 26) (.seq (.reg false [.V 4 (.asg (.c (.bool false)))] [4] []) .ret) .skip))) (.reg false [.V 15 (.mv (.t 5)),.V 16 (.bin .add (.t 15) (.c (.int .i64 1))),.V 5 (.asg (.t 16))] [0,1,5] []))
def laws_eqProblemS_k1 : C :=
 .norm [0,1,5] [] laws_eqProblemS_k0
def laws_eqProblemS_k2 : C :=
 .seq (.reg false [.V 4 (.asg (.c (.bool true)))] [4] []) .ret
def laws_eqProblemS_ir : Fn := { np := 2,io := [],res := [.t 4],own := [false],body :=
 (.seq (.reg false [.V 4 (.asg (.c (.bool false)))] [0,1] []) (.seq (.seq (.reg false [.V 6 (.mv (.t 0)),.V 7 (.len (.t 6)),.V 8 (.mv (.t 1)),.V 9 (.len (.t 8)),.V 10 (.bin .neq (.t 7) (.t 9))] [0,1,10] []) (.cond (.t 10) (.seq (.reg false [.V 4 (.asg (.c (.bool false)))] [4] []) .ret) .skip)) (.seq (.seq (.reg false [.V 5 (.asg (.c (.int .i64 0)))] [0,1,5] []) (.block 0 (.loop laws_eqProblemS_k1))) laws_eqProblemS_k2))) }
noncomputable def laws_eqProblemS_D : List (Nat × Callee) := [(39,laws_eqProblem_c)]
def laws_eqProblemS_H : List (Nat × ET) := [(6,T_Problem),(8,T_Problem),(12,T_Problem),(17,T_Problem),(21,T_Problem)]
noncomputable def laws_eqProblemS_c : Callee := mkCallee laws_eqProblemS_D laws_eqProblemS_H laws_eqProblemS_ir [.d (.one (.sl T_Problem)),.d (.one (.sl T_Problem))] [.d (.one .bool)] []
noncomputable def laws_eqProblemS (a0 : List T_Problem.ty) (a1 : List T_Problem.ty) : Option (Bool) := laws_eqProblemS_c.f (a0,a1,())
noncomputable def laws_eqProblemS_p0  (v0 : List T_Problem.ty) (v1 : List T_Problem.ty) (v5 : Int) : Option (Bool) :=
 goL laws_eqProblemS_D laws_eqProblemS_H (vleave laws_eqProblemS_ir [.d (.one (.sl T_Problem)),.d (.one (.sl T_Problem))] [.d (.one .bool)] [] []) [.c laws_eqProblemS_k0,.l laws_eqProblemS_k1,.e 0,.c laws_eqProblemS_k2]
  ⟨[(0,.sl T_Problem v0),(1,.sl T_Problem v1),(5,.int .i64 v5)],[]⟩
theorem laws_eqProblemS_eq (a0 : List T_Problem.ty) (a1 : List T_Problem.ty) : laws_eqProblemS a0 a1 =
 if ((a0.length : Int) != (a1.length : Int)) then
  some false
 else
  laws_eqProblemS_p0 a0 a1 0 :=
 (mk_f _ _ _ _ _ _ _ 4000).trans (by kernel_rfl)
theorem laws_eqProblemS_p0_eq  (v0 : List T_Problem.ty) (v1 : List T_Problem.ty) (v5 : Int) : laws_eqProblemS_p0 v0 v1 v5 =
 if decide (v5 < (v0.length : Int)) then
  if decide (0 ≤ v5) then
   (v0[v5.toNat]?).bind fun x1 =>
    if decide (0 ≤ v5) then
     (v1[v5.toNat]?).bind fun x2 =>
      (laws_eqProblem x1 x2).bind fun x3 =>
       if (!x3) then
        some false
       else
        laws_eqProblemS_p0 v0 v1 (IntKind.i64.wrap (v5 + 1))
    else
     none
  else
   none
 else
  some true :=
 (goL_dn _ _ _ 4000 _ _).trans (by kernel_rfl)
def laws_eqPoint_ir : Fn := { np := 2,io := [],res := [.t 4],own := [false],body :=
 (.seq (.reg false [.W 2 (.box 2 (.t 0)),.W 3 (.box 2 (.t 1)),.V 4 (.asg (.c (.bool false)))] [2,3] [2,3]) (.seq (.seq (.reg false [.V 5 (.fa 0 (.t 2)),.V 6 (.ld none (.t 5)),.V 7 (.fa 0 (.t 3)),.V 8 (.ld none (.t 7)),.V 9 (.bin .neq (.t 6) (.t 8))] [2,3,9] [2,3]) (.cond (.t 9) (.seq (.reg false [.V 4 (.asg (.c (.bool false)))] [4] []) .ret) .skip)) (.seq (.seq (.reg false [.V 10 (.fa 1 (.t 2)),.V 11 (.ld none (.t 10)),.V 12 (.fa 1 (.t 3)),.V 13 (.ld none (.t 12)),.V 14 (.bin .neq (.t 11) (.t 13))] [14] []) (.cond (.t 14) (.seq (.reg false [.V 4 (.asg (.c (.bool false)))] [4] []) .ret) .skip)) (.seq (.reg false [.V 4 (.asg (.c (.bool true)))] [4] []) .ret)))) }
noncomputable def laws_eqPoint_D : List (Nat × Callee) := []
def laws_eqPoint_H : List (Nat × ET) := []
noncomputable def laws_eqPoint_c : Callee := mkCallee laws_eqPoint_D laws_eqPoint_H laws_eqPoint_ir [.d T_Point,.d T_Point] [.d (.one .bool)] []
noncomputable def laws_eqPoint (a0 : T_Point.ty) (a1 : T_Point.ty) : Option (Bool) := laws_eqPoint_c.f (a0,a1,())
theorem laws_eqPoint_eq (a0 : T_Point.ty) (a1 : T_Point.ty) : laws_eqPoint a0 a1 =
 if (a0.1 != a1.1) then
  some false
 else
  if (a0.2.1 != a1.2.1) then
   some false
  else
   some true :=
 (mk_f _ _ _ _ _ _ _ 4000).trans (by kernel_rfl)
def laws_eqArc_ir : Fn := { np := 2,io := [],res := [.t 4],own := [false],body :=
 (.seq (.reg false [.W 2 (.box 6 (.t 0)),.W 3 (.box 6 (.t 1)),.V 4 (.asg (.c (.bool false)))] [2,3] [2,3]) (.seq (.seq (.reg false [.V 5 (.fa 0 (.t 2)),.V 6 (.ld (some 2) (.t 5)),.V 7 (.fa 0 (.t 3)),.V 8 (.ld (some 2) (.t 7)),.V 9 (.call (.c (.fn 1034 [])) [.t 6,.t 8]),.V 10 (.un .not (.t 9))] [2,3,10] [2,3]) (.cond (.t 10) (.seq (.reg false [.V 4 (.asg (.c (.bool false)))] [4] []) .ret) .skip)) (.seq (.seq (.reg false [.V 11 (.fa 2 (.t 2)),.V 12 (.ld (some 2) (.t 11)),.V 13 (.fa 2 (.t 3)),.V 14 (.ld (some 2) (.t 13)),.V 15 (.call (.c (.fn 1034 [])) [.t 12,.t 14]),.V 16 (.un .not (.t 15))] [2,3,16] [2,3]) (.cond (.t 16) (.seq (.reg false [.V 4 (.asg (.c (.bool false)))] [4] []) .ret) .skip)) (.seq (.seq (.reg false [.V 17 (.fa 4 (.t 2)),.V 18 (.ld (some 2) (.t 17)),.V 19 (.fa 4 (.t 3)),.V 20 (.ld (some 2) (.t 19)),.V 21 (.call (.c (.fn 1034 [])) [.t 18,.t 20]),.V 22 (.un .not (.t 21))] [22] []) (.cond (.t 22) (.seq (.reg false [.V 4 (.asg (.c (.bool false)))] [4] []) .ret) .skip)) (.seq (.reg false [.V 4 (.asg (.c (.bool true)))] [4] []) .ret))))) }
noncomputable def laws_eqArc_D : List (Nat × Callee) := [(1034,laws_eqPoint_c)]
def laws_eqArc_H : List (Nat × ET) := []
noncomputable def laws_eqArc_c : Callee := mkCallee laws_eqArc_D laws_eqArc_H laws_eqArc_ir [.d T_Arc,.d T_Arc] [.d (.one .bool)] []
noncomputable def laws_eqArc (a0 : T_Arc.ty) (a1 : T_Arc.ty) : Option (Bool) := laws_eqArc_c.f (a0,a1,())
theorem laws_eqArc_eq (a0 : T_Arc.ty) (a1 : T_Arc.ty) : laws_eqArc a0 a1 =
 (laws_eqPoint (a0.1,a0.2.1,()) (a1.1,a1.2.1,())).bind fun x1 =>
  if (!x1) then
   some false
  else
   (laws_eqPoint (a0.2.2.1,a0.2.2.2.1,()) (a1.2.2.1,a1.2.2.2.1,())).bind fun x2 =>
    if (!x2) then
     some false
    else
     (laws_eqPoint (a0.2.2.2.2.1,a0.2.2.2.2.2.1,()) (a1.2.2.2.2.1,a1.2.2.2.2.2.1,())).bind fun x3 =>
      if (!x3) then
       some false
      else
       some true :=
 (mk_f _ _ _ _ _ _ _ 4000).trans (by kernel_rfl)
def laws_eqArcS_k0 : C :=
 .seq (.seq (.reg false [.V 11 (.mv (.t 5)),.V 12 (.mv (.t 0)),.V 13 (.len (.t 12)),.V 14 (.bin .lss (.t 11) (.t 13))] [0,1,5,14] []) (.cond (.t 14) .skip (.exit 0))) (.seq (.block 1 (.seq (.reg true [.V 17 (.mv (.t 0)),.V 18 (.mv (.t 5)),.V 19 (.ia 6 (.t 17) (.t 18)),.V 20 (.ld (some 6) (.t 19)),.V 21 (.mv (.t 1)),.V 22 (.mv (.t 5)),.V 23 (.ia 6 (.t 21) (.t 22)),.V 24 (.ld (some 6) (.t 23)),.V 25 (.call (.c (.fn 901 [])) [.t 20,.t 24]),.V 26 (.un .not (.t 25))] [0,1,5,26] []) (.cond (.t 26) (.seq (.reg false [.V 4 (.asg (.c (.bool false)))] [4] []) .ret) .skip))) (.reg false [.V 15 (.mv (.t 5)),.V 16 (.bin .add (.t 15) (.c (.int .i64 1))),.V 5 (.asg (.t 16))] [0,1,5] []))
def laws_eqArcS_k1 : C :=
 .norm [0,1,5] [] laws_eqArcS_k0
def laws_eqArcS_k2 : C :=
 .seq (.reg false [.V 4 (.asg (.c (.bool true)))] [4] []) .ret
def laws_eqArcS_ir : Fn := { np := 2,io := [],res := [.t 4],own := [false],body :=
 (.seq (.reg false [.V 4 (.asg (.c (.bool false)))] [0,1] []) (.seq (.seq (.reg false [.V 6 (.mv (.t 0)),.V 7 (.len (.t 6)),.V 8 (.mv (.t 1)),.V 9 (.len (.t 8)),.V 10 (.bin .neq (.t 7) (.t 9))] [0,1,10] []) (.cond (.t 10) (.seq (.reg false [.V 4 (.asg (.c (.bool false)))] [4] []) .ret) .skip)) (.seq (.seq (.reg false [.V 5 (.asg (.c (.int .i64 0)))] [0,1,5] []) (.block 0 (.loop laws_eqArcS_k1))) laws_eqArcS_k2))) }
noncomputable def laws_eqArcS_D : List (Nat × Callee) := [(901,laws_eqArc_c)]
def laws_eqArcS_H : List (Nat × ET) := [(6,T_Arc),(8,T_Arc),(12,T_Arc),(17,T_Arc),(21,T_Arc)]
noncomputable def laws_eqArcS_c : Callee := mkCallee laws_eqArcS_D laws_eqArcS_H laws_eqArcS_ir [.d (.one (.sl T_Arc)),.d (.one (.sl T_Arc))] [.d (.one .bool)] []
noncomputable def laws_eqArcS (a0 : List T_Arc.ty) (a1 : List T_Arc.ty) : Option (Bool) := laws_eqArcS_c.f (a0,a1,())
noncomputable def laws_eqArcS_p0  (v0 : List T_Arc.ty) (v1 : List T_Arc.ty) (v5 : Int) : Option (Bool) :=
 goL laws_eqArcS_D laws_eqArcS_H (vleave laws_eqArcS_ir [.d (.one (.sl T_Arc)),.d (.one (.sl T_Arc))] [.d (.one .bool)] [] []) [.c laws_eqArcS_k0,.l laws_eqArcS_k1,.e 0,.c laws_eqArcS_k2]
  ⟨[(0,.sl T_Arc v0),(1,.sl T_Arc v1),(5,.int .i64 v5)],[]⟩
theorem laws_eqArcS_eq (a0 : List T_Arc.ty) (a1 : List T_Arc.ty) : laws_eqArcS a0 a1 =
 if ((a0.length : Int) != (a1.length : Int)) then
  some false
 else
  laws_eqArcS_p0 a0 a1 0 :=
 (mk_f _ _ _ _ _ _ _ 4000).trans (by kernel_rfl)
theorem laws_eqArcS_p0_eq  (v0 : List T_Arc.ty) (v1 : List T_Arc.ty) (v5 : Int) : laws_eqArcS_p0 v0 v1 v5 =
 if decide (v5 < (v0.length : Int)) then
  if decide (0 ≤ v5) then
   (v0[v5.toNat]?).bind fun x1 =>
    if decide (0 ≤ v5) then
     (v1[v5.toNat]?).bind fun x2 =>
      (laws_eqArc x1 x2).bind fun x3 =>
       if (!x3) then
        some false
       else
        laws_eqArcS_p0 v0 v1 (IntKind.i64.wrap (v5 + 1))
    else
     none
  else
   none
 else
  some true :=
 (goL_dn _ _ _ 4000 _ _).trans (by kernel_rfl)
def laws_eqCord_ir : Fn := { np := 2,io := [],res := [.t 4],own := [false],body :=
 (.seq (.reg false [.W 2 (.box 4 (.t 0)),.W 3 (.box 4 (.t 1)),.V 4 (.asg (.c (.bool false)))] [2,3] [2,3]) (.seq (.seq (.reg false [.V 5 (.fa 0 (.t 2)),.V 6 (.ld none (.t 5)),.V 7 (.fa 0 (.t 3)),.V 8 (.ld none (.t 7)),.V 9 (.bin .neq (.t 6) (.t 8))] [2,3,9] [2,3]) (.cond (.t 9) (.seq (.reg false [.V 4 (.asg (.c (.bool false)))] [4] []) .ret) .skip)) (.seq (.seq (.reg false [.V 10 (.fa 1 (.t 2)),.V 11 (.ld none (.t 10)),.V 12 (.fa 1 (.t 3)),.V 13 (.ld none (.t 12)),.V 14 (.bin .neq (.t 11) (.t 13))] [2,3,14] [2,3]) (.cond (.t 14) (.seq (.reg false [.V 4 (.asg (.c (.bool false)))] [4] []) .ret) .skip)) (.seq (.seq (.reg false [.V 15 (.fa 2 (.t 2)),.V 16 (.ld none (.t 15)),.V 17 (.fa 2 (.t 3)),.V 18 (.ld none (.t 17)),.V 19 (.bin .neq (.t 16) (.t 18))] [2,3,19] [2,3]) (.cond (.t 19) (.seq (.reg false [.V 4 (.asg (.c (.bool false)))] [4] []) .ret) .skip)) (.seq (.seq (.reg false [.V 20 (.fa 3 (.t 2)),.V 21 (.ld none (.t 20)),.V 22 (.fa 3 (.t 3)),.V 23 (.ld none (.t 22)),.V 24 (.bin .neq (.t 21) (.t 23))] [24] []) (.cond (.t 24) (.seq (.reg false [.V 4 (.asg (.c (.bool false)))] [4] []) .ret) .skip)) (.seq (.reg false [.V 4 (.asg (.c (.bool true)))] [4] []) .ret)))))) }
noncomputable def laws_eqCord_D : List (Nat × Callee) := []
def laws_eqCord_H : List (Nat × ET) := []
noncomputable def laws_eqCord_c : Callee := mkCallee laws_eqCord_D laws_eqCord_H laws_eqCord_ir [.d T_Neck,.d T_Neck] [.d (.one .bool)] []
noncomputable def laws_eqCord (a0 : T_Neck.ty) (a1 : T_Neck.ty) : Option (Bool) := laws_eqCord_c.f (a0,a1,())
theorem laws_eqCord_eq (a0 : T_Neck.ty) (a1 : T_Neck.ty) : laws_eqCord a0 a1 =
 if (a0.1 != a1.1) then
  some false
 else
  if (a0.2.1 != a1.2.1) then
   some false
  else
   if (a0.2.2.1 != a1.2.2.1) then
    some false
   else
    if (a0.2.2.2.1 != a1.2.2.2.1) then
     some false
    else
     some true :=
 (mk_f _ _ _ _ _ _ _ 4000).trans (by kernel_rfl)
def laws_eqCordS_k0 : C :=
 .seq (.seq (.reg false [.V 11 (.mv (.t 5)),.V 12 (.mv (.t 0)),.V 13 (.len (.t 12)),.V 14 (.bin .lss (.t 11) (.t 13))] [0,1,5,14] []) (.cond (.t 14) .skip (.exit 0))) (.seq (.block 1 (.seq (.reg true [.V 17 (.mv (.t 0)),.V 18 (.mv (.t 5)),.V 19 (.ia 4 (.t 17) (.t 18)),.V 20 (.ld (some 4) (.t 19)),.V 21 (.mv (.t 1)),.V 22 (.mv (.t 5)),.V 23 (.ia 4 (.t 21) (.t 22)),.V 24 (.ld (some 4) (.t 23)),.V 25 (.call (.c (.fn 902 [])) [.t 20,.t 24]),.V 26 (.un .not (.t 25))] [0,1,5,26] []) (.cond (.t 26) (.seq (.reg false [.V 4 (.asg (.c (.bool false)))] [4] []) .ret) .skip))) (.reg false [.V 15 (.mv (.t 5)),.V 16 (.bin .add (.t 15) (.c (.int .i64 1))),.V 5 (.asg (.t 16))] [0,1,5] []))
def laws_eqCordS_k1 : C :=
 .norm [0,1,5] [] laws_eqCordS_k0
def laws_eqCordS_k2 : C :=
 .seq (.reg false [.V 4 (.asg (.c (.bool true)))] [4] []) .ret
def laws_eqCordS_ir : Fn := { np := 2,io := [],res := [.t 4],own := [false],body :=
 (.seq (.reg false [.V 4 (.asg (.c (.bool false)))] [0,1] []) (.seq (.seq (.reg false [.V 6 (.mv (.t 0)),.V 7 (.len (.t 6)),.V 8 (.mv (.t 1)),.V 9 (.len (.t 8)),.V 10 (.bin .neq (.t 7) (.t 9))] [0,1,10] []) (.cond (.t 10) (.seq (.reg false [.V 4 (.asg (.c (.bool false)))] [4] []) .ret) .skip)) (.seq (.seq (.reg false [.V 5 (.asg (.c (.int .i64 0)))] [0,1,5] []) (.block 0 (.loop laws_eqCordS_k1))) laws_eqCordS_k2))) }
noncomputable def laws_eqCordS_D : List (Nat × Callee) := [(902,laws_eqCord_c)]
def laws_eqCordS_H : List (Nat × ET) := [(6,T_Neck),(8,T_Neck),(12,T_Neck),(17,T_Neck),(21,T_Neck)]
noncomputable def laws_eqCordS_c : Callee := mkCallee laws_eqCordS_D laws_eqCordS_H laws_eqCordS_ir [.d (.one (.sl T_Neck)),.d (.one (.sl T_Neck))] [.d (.one .bool)] []
noncomputable def laws_eqCordS (a0 : List T_Neck.ty) (a1 : List T_Neck.ty) : Option (Bool) := laws_eqCordS_c.f (a0,a1,())
noncomputable def laws_eqCordS_p0  (v0 : List T_Neck.ty) (v1 : List T_Neck.ty) (v5 : Int) : Option (Bool) :=
 goL laws_eqCordS_D laws_eqCordS_H (vleave laws_eqCordS_ir [.d (.one (.sl T_Neck)),.d (.one (.sl T_Neck))] [.d (.one .bool)] [] []) [.c laws_eqCordS_k0,.l laws_eqCordS_k1,.e 0,.c laws_eqCordS_k2]
  ⟨[(0,.sl T_Neck v0),(1,.sl T_Neck v1),(5,.int .i64 v5)],[]⟩
theorem laws_eqCordS_eq (a0 : List T_Neck.ty) (a1 : List T_Neck.ty) : laws_eqCordS a0 a1 =
 if ((a0.length : Int) != (a1.length : Int)) then
  some false
 else
  laws_eqCordS_p0 a0 a1 0 :=
 (mk_f _ _ _ _ _ _ _ 4000).trans (by kernel_rfl)
theorem laws_eqCordS_p0_eq  (v0 : List T_Neck.ty) (v1 : List T_Neck.ty) (v5 : Int) : laws_eqCordS_p0 v0 v1 v5 =
 if decide (v5 < (v0.length : Int)) then
  if decide (0 ≤ v5) then
   (v0[v5.toNat]?).bind fun x1 =>
    if decide (0 ≤ v5) then
     (v1[v5.toNat]?).bind fun x2 =>
      (laws_eqCord x1 x2).bind fun x3 =>
       if (!x3) then
        some false
       else
        laws_eqCordS_p0 v0 v1 (IntKind.i64.wrap (v5 + 1))
    else
     none
  else
   none
 else
  some true :=
 (goL_dn _ _ _ 4000 _ _).trans (by kernel_rfl)
def laws_eqInt64S_k0 : C :=
 .seq (.seq (.reg false [.V 11 (.mv (.t 5)),.V 12 (.mv (.t 0)),.V 13 (.len (.t 12)),.V 14 (.bin .lss (.t 11) (.t 13))] [0,1,5,14] []) (.cond (.t 14) .skip (.exit 0))) (.seq (.block 1 (.seq (.reg true [.V 17 (.mv (.t 0)),.V 18 (.mv (.t 5)),.V 19 (.ia 1 (.t 17) (.t 18)),.V 20 (.ld none (.t 19)),.V 21 (.mv (.t 1)),.V 22 (.mv (.t 5)),.V 23 (.ia 1 (.t 21) (.t 22)),.V 24 (.ld none (.t 23)),.V 25 (.bin .neq (.t 20) (.t 24))] [0,1,5,25] []) (.cond (.t 25) (.seq (.reg false [.V 4 (.asg (.c (.bool false)))] [4] []) .ret) .skip))) (.reg false [.V 15 (.mv (.t 5)),.V 16 (.bin .add (.t 15) (.c (.int .i64 1))),.V 5 (.asg (.t 16))] [0,1,5] []))
def laws_eqInt64S_k1 : C :=
 .norm [0,1,5] [] laws_eqInt64S_k0
def laws_eqInt64S_k2 : C :=
 .seq (.reg false [.V 4 (.asg (.c (.bool true)))] [4] []) .ret
def laws_eqInt64S_ir : Fn := { np := 2,io := [],res := [.t 4],own := [false],body :=
 (.seq (.reg false [.V 4 (.asg (.c (.bool false)))] [0,1] []) (.seq (.seq (.reg false [.V 6 (.mv (.t 0)),.V 7 (.len (.t 6)),.V 8 (.mv (.t 1)),.V 9 (.len (.t 8)),.V 10 (.bin .neq (.t 7) (.t 9))] [0,1,10] []) (.cond (.t 10) (.seq (.reg false [.V 4 (.asg (.c (.bool false)))] [4] []) .ret) .skip)) (.seq (.seq (.reg false [.V 5 (.asg (.c (.int .i64 0)))] [0,1,5] []) (.block 0 (.loop laws_eqInt64S_k1))) laws_eqInt64S_k2))) }
noncomputable def laws_eqInt64S_D : List (Nat × Callee) := []
def laws_eqInt64S_H : List (Nat × ET) := [(6,(.one (.int .i64))),(8,(.one (.int .i64))),(12,(.one (.int .i64))),(17,(.one (.int .i64))),(21,(.one (.int .i64)))]
noncomputable def laws_eqInt64S_c : Callee := mkCallee laws_eqInt64S_D laws_eqInt64S_H laws_eqInt64S_ir [.d (.one (.sl (.one (.int .i64)))),.d (.one (.sl (.one (.int .i64))))] [.d (.one .bool)] []
noncomputable def laws_eqInt64S (a0 : List Int) (a1 : List Int) : Option (Bool) := laws_eqInt64S_c.f (a0,a1,())
noncomputable def laws_eqInt64S_p0  (v0 : List Int) (v1 : List Int) (v5 : Int) : Option (Bool) :=
 goL laws_eqInt64S_D laws_eqInt64S_H (vleave laws_eqInt64S_ir [.d (.one (.sl (.one (.int .i64)))),.d (.one (.sl (.one (.int .i64))))] [.d (.one .bool)] [] []) [.c laws_eqInt64S_k0,.l laws_eqInt64S_k1,.e 0,.c laws_eqInt64S_k2]
  ⟨[(0,.sl (.one (.int .i64)) v0),(1,.sl (.one (.int .i64)) v1),(5,.int .i64 v5)],[]⟩
theorem laws_eqInt64S_eq (a0 : List Int) (a1 : List Int) : laws_eqInt64S a0 a1 =
 if ((a0.length : Int) != (a1.length : Int)) then
  some false
 else
  laws_eqInt64S_p0 a0 a1 0 :=
 (mk_f _ _ _ _ _ _ _ 4000).trans (by kernel_rfl)
theorem laws_eqInt64S_p0_eq  (v0 : List Int) (v1 : List Int) (v5 : Int) : laws_eqInt64S_p0 v0 v1 v5 =
 if decide (v5 < (v0.length : Int)) then
  if decide (0 ≤ v5) then
   (v0[v5.toNat]?).bind fun x1 =>
    if decide (0 ≤ v5) then
     (v1[v5.toNat]?).bind fun x2 =>
      if (x1 != x2) then
       some false
      else
       laws_eqInt64S_p0 v0 v1 (IntKind.i64.wrap (v5 + 1))
    else
     none
  else
   none
 else
  some true :=
 (goL_dn _ _ _ 4000 _ _).trans (by kernel_rfl)
def laws_eqStep_ir : Fn := { np := 2,io := [],res := [.t 4],own := [false],body :=
 (.seq (.reg false [.W 2 (.box 4 (.t 0)),.W 3 (.box 4 (.t 1)),.V 4 (.asg (.c (.bool false)))] [2,3] [2,3,3003,4003]) (.seq (.seq (.reg false [.V 5 (.fa 0 (.t 2)),.V 6 (.ld none (.t 5)),.V 7 (.fa 0 (.t 3)),.V 8 (.ld none (.t 7)),.V 9 (.bin .neq (.t 6) (.t 8))] [2,3,9] [2,3,3003,4003]) (.cond (.t 9) (.seq (.reg false [.V 4 (.asg (.c (.bool false)))] [4] []) .ret) .skip)) (.seq (.seq (.reg false [.V 10 (.fa 1 (.t 2)),.V 11 (.ld none (.t 10)),.V 12 (.fa 1 (.t 3)),.V 13 (.ld none (.t 12)),.V 14 (.bin .neq (.t 11) (.t 13))] [2,3,14] [2,3,3003,4003]) (.cond (.t 14) (.seq (.reg false [.V 4 (.asg (.c (.bool false)))] [4] []) .ret) .skip)) (.seq (.seq (.reg false [.V 15 (.fa 2 (.t 2)),.V 16 (.ld none (.t 15)),.V 17 (.fa 2 (.t 3)),.V 18 (.ld none (.t 17)),.V 19 (.bin .neq (.t 16) (.t 18))] [2,3,19] [2,3,3003,4003]) (.cond (.t 19) (.seq (.reg false [.V 4 (.asg (.c (.bool false)))] [4] []) .ret) .skip)) (.seq (.seq (.reg false [.V 20 (.fa 3 (.t 2)),.V 21 (.ld none (.t 20)),.V 22 (.fa 3 (.t 3)),.V 23 (.ld none (.t 22)),.V 24 (.call (.c (.fn 42 [])) [.t 21,.t 23]),.V 25 (.un .not (.t 24))] [25] []) (.cond (.t 25) (.seq (.reg false [.V 4 (.asg (.c (.bool false)))] [4] []) .ret) .skip)) (.seq (.reg false [.V 4 (.asg (.c (.bool true)))] [4] []) .ret)))))) }
noncomputable def laws_eqStep_D : List (Nat × Callee) := [(42,laws_eqInt64S_c)]
def laws_eqStep_H : List (Nat × ET) := [(21,(.one (.int .i64))),(23,(.one (.int .i64)))]
noncomputable def laws_eqStep_c : Callee := mkCallee laws_eqStep_D laws_eqStep_H laws_eqStep_ir [.d T_Step,.d T_Step] [.d (.one .bool)] []
noncomputable def laws_eqStep (a0 : T_Step.ty) (a1 : T_Step.ty) : Option (Bool) := laws_eqStep_c.f (a0,a1,())
theorem laws_eqStep_eq (a0 : T_Step.ty) (a1 : T_Step.ty) : laws_eqStep a0 a1 =
 if (!(a0.1 == a1.1)) then
  some false
 else
  if (a0.2.1 != a1.2.1) then
   some false
  else
   if (a0.2.2.1 != a1.2.2.1) then
    some false
   else
    (laws_eqInt64S a0.2.2.2.1 a1.2.2.2.1).bind fun x1 =>
     if (!x1) then
      some false
     else
      some true :=
 (mk_f _ _ _ _ _ _ _ 4000).trans (by kernel_rfl)
def laws_eqStepS_k0 : C :=
 .seq (.seq (.reg false [.V 11 (.mv (.t 5)),.V 12 (.mv (.t 0)),.V 13 (.len (.t 12)),.V 14 (.bin .lss (.t 11) (.t 13))] [0,1,5,14] []) (.cond (.t 14) .skip (.exit 0))) (.seq (.block 1 (.seq (.reg true [.V 17 (.mv (.t 0)),.V 18 (.mv (.t 5)),.V 19 (.ia 4 (.t 17) (.t 18)),.V 20 (.ld (some 4) (.t 19)),.V 21 (.mv (.t 1)),.V 22 (.mv (.t 5)),.V 23 (.ia 4 (.t 21) (.t 22)),.V 24 (.ld (some 4) (.t 23)),.V 25 (.call (.c (.fn 903 [])) [.t 20,.t 24]),.V 26 (.un .not (.t 25))] [0,1,5,26] []) (.cond (.t 26) (.seq (.reg false [.V 4 (.asg (.c (.bool false)))] [4] []) .ret) .skip))) (.reg false [.V 15 (.mv (.t 5)),.V 16 (.bin .add (.t 15) (.c (.int .i64 1))),.V 5 (.asg (.t 16))] [0,1,5] []))
def laws_eqStepS_k1 : C :=
 .norm [0,1,5] [] laws_eqStepS_k0
def laws_eqStepS_k2 : C :=
 .seq (.reg false [.V 4 (.asg (.c (.bool true)))] [4] []) .ret
def laws_eqStepS_ir : Fn := { np := 2,io := [],res := [.t 4],own := [false],body :=
 (.seq (.reg false [.V 4 (.asg (.c (.bool false)))] [0,1] []) (.seq (.seq (.reg false [.V 6 (.mv (.t 0)),.V 7 (.len (.t 6)),.V 8 (.mv (.t 1)),.V 9 (.len (.t 8)),.V 10 (.bin .neq (.t 7) (.t 9))] [0,1,10] []) (.cond (.t 10) (.seq (.reg false [.V 4 (.asg (.c (.bool false)))] [4] []) .ret) .skip)) (.seq (.seq (.reg false [.V 5 (.asg (.c (.int .i64 0)))] [0,1,5] []) (.block 0 (.loop laws_eqStepS_k1))) laws_eqStepS_k2))) }
noncomputable def laws_eqStepS_D : List (Nat × Callee) := [(903,laws_eqStep_c)]
def laws_eqStepS_H : List (Nat × ET) := [(6,T_Step),(8,T_Step),(12,T_Step),(17,T_Step),(21,T_Step)]
noncomputable def laws_eqStepS_c : Callee := mkCallee laws_eqStepS_D laws_eqStepS_H laws_eqStepS_ir [.d (.one (.sl T_Step)),.d (.one (.sl T_Step))] [.d (.one .bool)] []
noncomputable def laws_eqStepS (a0 : List T_Step.ty) (a1 : List T_Step.ty) : Option (Bool) := laws_eqStepS_c.f (a0,a1,())
noncomputable def laws_eqStepS_p0  (v0 : List T_Step.ty) (v1 : List T_Step.ty) (v5 : Int) : Option (Bool) :=
 goL laws_eqStepS_D laws_eqStepS_H (vleave laws_eqStepS_ir [.d (.one (.sl T_Step)),.d (.one (.sl T_Step))] [.d (.one .bool)] [] []) [.c laws_eqStepS_k0,.l laws_eqStepS_k1,.e 0,.c laws_eqStepS_k2]
  ⟨[(0,.sl T_Step v0),(1,.sl T_Step v1),(5,.int .i64 v5)],[]⟩
theorem laws_eqStepS_eq (a0 : List T_Step.ty) (a1 : List T_Step.ty) : laws_eqStepS a0 a1 =
 if ((a0.length : Int) != (a1.length : Int)) then
  some false
 else
  laws_eqStepS_p0 a0 a1 0 :=
 (mk_f _ _ _ _ _ _ _ 4000).trans (by kernel_rfl)
theorem laws_eqStepS_p0_eq  (v0 : List T_Step.ty) (v1 : List T_Step.ty) (v5 : Int) : laws_eqStepS_p0 v0 v1 v5 =
 if decide (v5 < (v0.length : Int)) then
  if decide (0 ≤ v5) then
   (v0[v5.toNat]?).bind fun x1 =>
    if decide (0 ≤ v5) then
     (v1[v5.toNat]?).bind fun x2 =>
      (laws_eqStep x1 x2).bind fun x3 =>
       if (!x3) then
        some false
       else
        laws_eqStepS_p0 v0 v1 (IntKind.i64.wrap (v5 + 1))
    else
     none
  else
   none
 else
  some true :=
 (goL_dn _ _ _ 4000 _ _).trans (by kernel_rfl)
def laws_eqRental_ir : Fn := { np := 2,io := [],res := [.t 4],own := [false],body :=
 (.seq (.reg false [.W 2 (.box 5 (.t 0)),.W 3 (.box 5 (.t 1)),.V 4 (.asg (.c (.bool false)))] [2,3] [2,3]) (.seq (.seq (.reg false [.V 5 (.fa 0 (.t 2)),.V 6 (.ld none (.t 5)),.V 7 (.fa 0 (.t 3)),.V 8 (.ld none (.t 7)),.V 9 (.bin .neq (.t 6) (.t 8))] [2,3,9] [2,3]) (.cond (.t 9) (.seq (.reg false [.V 4 (.asg (.c (.bool false)))] [4] []) .ret) .skip)) (.seq (.seq (.reg false [.V 10 (.fa 1 (.t 2)),.V 11 (.ld none (.t 10)),.V 12 (.fa 1 (.t 3)),.V 13 (.ld none (.t 12)),.V 14 (.bin .neq (.t 11) (.t 13))] [2,3,14] [2,3]) (.cond (.t 14) (.seq (.reg false [.V 4 (.asg (.c (.bool false)))] [4] []) .ret) .skip)) (.seq (.seq (.reg false [.V 15 (.fa 2 (.t 2)),.V 16 (.ld none (.t 15)),.V 17 (.fa 2 (.t 3)),.V 18 (.ld none (.t 17)),.V 19 (.bin .neq (.t 16) (.t 18))] [2,3,19] [2,3]) (.cond (.t 19) (.seq (.reg false [.V 4 (.asg (.c (.bool false)))] [4] []) .ret) .skip)) (.seq (.seq (.reg false [.V 20 (.fa 3 (.t 2)),.V 21 (.ld none (.t 20)),.V 22 (.fa 3 (.t 3)),.V 23 (.ld none (.t 22)),.V 24 (.bin .neq (.t 21) (.t 23))] [2,3,24] [2,3]) (.cond (.t 24) (.seq (.reg false [.V 4 (.asg (.c (.bool false)))] [4] []) .ret) .skip)) (.seq (.seq (.reg false [.V 25 (.fa 4 (.t 2)),.V 26 (.ld none (.t 25)),.V 27 (.fa 4 (.t 3)),.V 28 (.ld none (.t 27)),.V 29 (.bin .neq (.t 26) (.t 28))] [29] []) (.cond (.t 29) (.seq (.reg false [.V 4 (.asg (.c (.bool false)))] [4] []) .ret) .skip)) (.seq (.reg false [.V 4 (.asg (.c (.bool true)))] [4] []) .ret))))))) }
noncomputable def laws_eqRental_D : List (Nat × Callee) := []
def laws_eqRental_H : List (Nat × ET) := []
noncomputable def laws_eqRental_c : Callee := mkCallee laws_eqRental_D laws_eqRental_H laws_eqRental_ir [.d T_Paper,.d T_Paper] [.d (.one .bool)] []
noncomputable def laws_eqRental (a0 : T_Paper.ty) (a1 : T_Paper.ty) : Option (Bool) := laws_eqRental_c.f (a0,a1,())
theorem laws_eqRental_eq (a0 : T_Paper.ty) (a1 : T_Paper.ty) : laws_eqRental a0 a1 =
 if (!(a0.1 == a1.1)) then
  some false
 else
  if (!(a0.2.1 == a1.2.1)) then
   some false
  else
   if (a0.2.2.1 != a1.2.2.1) then
    some false
   else
    if (a0.2.2.2.1 != a1.2.2.2.1) then
     some false
    else
     if (a0.2.2.2.2.1 != a1.2.2.2.2.1) then
      some false
     else
      some true :=
 (mk_f _ _ _ _ _ _ _ 4000).trans (by kernel_rfl)
def laws_eqRentalS_k0 : C :=
 .seq (.seq (.reg false [.V 11 (.mv (.t 5)),.V 12 (.mv (.t 0)),.V 13 (.len (.t 12)),.V 14 (.bin .lss (.t 11) (.t 13))] [0,1,5,14] []) (.cond (.t 14) .skip (.exit 0))) (.seq (.block 1 (.seq (.reg true [.V 17 (.mv (.t 0)),.V 18 (.mv (.t 5)),.V 19 (.ia 5 (.t 17) (.t 18)),.V 20 (.ld (some 5) (.t 19)),.V 21 (.mv (.t 1)),.V 22 (.mv (.t 5)),.V 23 (.ia 5 (.t 21) (.t 22)),.V 24 (.ld (some 5) (.t 23)),.V 25 (.call (.c (.fn 904 [])) [.t 20,.t 24]),.V 26 (.un .not (.t 25))] [0,1,5,26] []) (.cond (.t 26) (.seq (.reg false [.V 4 (.asg (.c (.bool false)))] [4] []) .ret) .skip))) (.reg false [.V 15 (.mv (.t 5)),.V 16 (.bin .add (.t 15) (.c (.int .i64 1))),.V 5 (.asg (.t 16))] [0,1,5] []))
def laws_eqRentalS_k1 : C :=
 .norm [0,1,5] [] laws_eqRentalS_k0
def laws_eqRentalS_k2 : C :=
 .seq (.reg false [.V 4 (.asg (.c (.bool true)))] [4] []) .ret
def laws_eqRentalS_ir : Fn := { np := 2,io := [],res := [.t 4],own := [false],body :=
 (.seq (.reg false [.V 4 (.asg (.c (.bool false)))] [0,1] []) (.seq (.seq (.reg false [.V 6 (.mv (.t 0)),.V 7 (.len (.t 6)),.V 8 (.mv (.t 1)),.V 9 (.len (.t 8)),.V 10 (.bin .neq (.t 7) (.t 9))] [0,1,10] []) (.cond (.t 10) (.seq (.reg false [.V 4 (.asg (.c (.bool false)))] [4] []) .ret) .skip)) (.seq (.seq (.reg false [.V 5 (.asg (.c (.int .i64 0)))] [0,1,5] []) (.block 0 (.loop laws_eqRentalS_k1))) laws_eqRentalS_k2))) }
noncomputable def laws_eqRentalS_D : List (Nat × Callee) := [(904,laws_eqRental_c)]
def laws_eqRentalS_H : List (Nat × ET) := [(6,T_Paper),(8,T_Paper),(12,T_Paper),(17,T_Paper),(21,T_Paper)]
noncomputable def laws_eqRentalS_c : Callee := mkCallee laws_eqRentalS_D laws_eqRentalS_H laws_eqRentalS_ir [.d (.one (.sl T_Paper)),.d (.one (.sl T_Paper))] [.d (.one .bool)] []
noncomputable def laws_eqRentalS (a0 : List T_Paper.ty) (a1 : List T_Paper.ty) : Option (Bool) := laws_eqRentalS_c.f (a0,a1,())
noncomputable def laws_eqRentalS_p0  (v0 : List T_Paper.ty) (v1 : List T_Paper.ty) (v5 : Int) : Option (Bool) :=
 goL laws_eqRentalS_D laws_eqRentalS_H (vleave laws_eqRentalS_ir [.d (.one (.sl T_Paper)),.d (.one (.sl T_Paper))] [.d (.one .bool)] [] []) [.c laws_eqRentalS_k0,.l laws_eqRentalS_k1,.e 0,.c laws_eqRentalS_k2]
  ⟨[(0,.sl T_Paper v0),(1,.sl T_Paper v1),(5,.int .i64 v5)],[]⟩
theorem laws_eqRentalS_eq (a0 : List T_Paper.ty) (a1 : List T_Paper.ty) : laws_eqRentalS a0 a1 =
 if ((a0.length : Int) != (a1.length : Int)) then
  some false
 else
  laws_eqRentalS_p0 a0 a1 0 :=
 (mk_f _ _ _ _ _ _ _ 4000).trans (by kernel_rfl)
theorem laws_eqRentalS_p0_eq  (v0 : List T_Paper.ty) (v1 : List T_Paper.ty) (v5 : Int) : laws_eqRentalS_p0 v0 v1 v5 =
 if decide (v5 < (v0.length : Int)) then
  if decide (0 ≤ v5) then
   (v0[v5.toNat]?).bind fun x1 =>
    if decide (0 ≤ v5) then
     (v1[v5.toNat]?).bind fun x2 =>
      (laws_eqRental x1 x2).bind fun x3 =>
       if (!x3) then
        some false
       else
        laws_eqRentalS_p0 v0 v1 (IntKind.i64.wrap (v5 + 1))
    else
     none
  else
   none
 else
  some true :=
 (goL_dn _ _ _ 4000 _ _).trans (by kernel_rfl)
def laws_eqEntry_ir : Fn := { np := 2,io := [],res := [.t 4],own := [false],body :=
 (.seq (.reg false [.W 2 (.box 4 (.t 0)),.W 3 (.box 4 (.t 1)),.V 4 (.asg (.c (.bool false)))] [2,3] [2,3]) (.seq (.seq (.reg false [.V 5 (.fa 0 (.t 2)),.V 6 (.ld none (.t 5)),.V 7 (.fa 0 (.t 3)),.V 8 (.ld none (.t 7)),.V 9 (.bin .neq (.t 6) (.t 8))] [2,3,9] [2,3]) (.cond (.t 9) (.seq (.reg false [.V 4 (.asg (.c (.bool false)))] [4] []) .ret) .skip)) (.seq (.seq (.reg false [.V 10 (.fa 1 (.t 2)),.V 11 (.ld none (.t 10)),.V 12 (.fa 1 (.t 3)),.V 13 (.ld none (.t 12)),.V 14 (.bin .neq (.t 11) (.t 13))] [2,3,14] [2,3]) (.cond (.t 14) (.seq (.reg false [.V 4 (.asg (.c (.bool false)))] [4] []) .ret) .skip)) (.seq (.seq (.reg false [.V 15 (.fa 2 (.t 2)),.V 16 (.ld none (.t 15)),.V 17 (.fa 2 (.t 3)),.V 18 (.ld none (.t 17)),.V 19 (.bin .neq (.t 16) (.t 18))] [2,3,19] [2,3]) (.cond (.t 19) (.seq (.reg false [.V 4 (.asg (.c (.bool false)))] [4] []) .ret) .skip)) (.seq (.seq (.reg false [.V 20 (.fa 3 (.t 2)),.V 21 (.ld none (.t 20)),.V 22 (.fa 3 (.t 3)),.V 23 (.ld none (.t 22)),.V 24 (.bin .neq (.t 21) (.t 23))] [24] []) (.cond (.t 24) (.seq (.reg false [.V 4 (.asg (.c (.bool false)))] [4] []) .ret) .skip)) (.seq (.reg false [.V 4 (.asg (.c (.bool true)))] [4] []) .ret)))))) }
noncomputable def laws_eqEntry_D : List (Nat × Callee) := []
def laws_eqEntry_H : List (Nat × ET) := []
noncomputable def laws_eqEntry_c : Callee := mkCallee laws_eqEntry_D laws_eqEntry_H laws_eqEntry_ir [.d T_Entry,.d T_Entry] [.d (.one .bool)] []
noncomputable def laws_eqEntry (a0 : T_Entry.ty) (a1 : T_Entry.ty) : Option (Bool) := laws_eqEntry_c.f (a0,a1,())
theorem laws_eqEntry_eq (a0 : T_Entry.ty) (a1 : T_Entry.ty) : laws_eqEntry a0 a1 =
 if (a0.1 != a1.1) then
  some false
 else
  if (!(a0.2.1 == a1.2.1)) then
   some false
  else
   if (!(a0.2.2.1 == a1.2.2.1)) then
    some false
   else
    if (a0.2.2.2.1 != a1.2.2.2.1) then
     some false
    else
     some true :=
 (mk_f _ _ _ _ _ _ _ 4000).trans (by kernel_rfl)
def laws_eqEntryS_k0 : C :=
 .seq (.seq (.reg false [.V 11 (.mv (.t 5)),.V 12 (.mv (.t 0)),.V 13 (.len (.t 12)),.V 14 (.bin .lss (.t 11) (.t 13))] [0,1,5,14] []) (.cond (.t 14) .skip (.exit 0))) (.seq (.block 1 (.seq (.reg true [.V 17 (.mv (.t 0)),.V 18 (.mv (.t 5)),.V 19 (.ia 4 (.t 17) (.t 18)),.V 20 (.ld (some 4) (.t 19)),.V 21 (.mv (.t 1)),.V 22 (.mv (.t 5)),.V 23 (.ia 4 (.t 21) (.t 22)),.V 24 (.ld (some 4) (.t 23)),.V 25 (.call (.c (.fn 905 [])) [.t 20,.t 24]),.V 26 (.un .not (.t 25))] [0,1,5,26] []) (.cond (.t 26) (.seq (.reg false [.V 4 (.asg (.c (.bool false)))] [4] []) .ret) .skip))) (.reg false [.V 15 (.mv (.t 5)),.V 16 (.bin .add (.t 15) (.c (.int .i64 1))),.V 5 (.asg (.t 16))] [0,1,5] []))
def laws_eqEntryS_k1 : C :=
 .norm [0,1,5] [] laws_eqEntryS_k0
def laws_eqEntryS_k2 : C :=
 .seq (.reg false [.V 4 (.asg (.c (.bool true)))] [4] []) .ret
def laws_eqEntryS_ir : Fn := { np := 2,io := [],res := [.t 4],own := [false],body :=
 (.seq (.reg false [.V 4 (.asg (.c (.bool false)))] [0,1] []) (.seq (.seq (.reg false [.V 6 (.mv (.t 0)),.V 7 (.len (.t 6)),.V 8 (.mv (.t 1)),.V 9 (.len (.t 8)),.V 10 (.bin .neq (.t 7) (.t 9))] [0,1,10] []) (.cond (.t 10) (.seq (.reg false [.V 4 (.asg (.c (.bool false)))] [4] []) .ret) .skip)) (.seq (.seq (.reg false [.V 5 (.asg (.c (.int .i64 0)))] [0,1,5] []) (.block 0 (.loop laws_eqEntryS_k1))) laws_eqEntryS_k2))) }
noncomputable def laws_eqEntryS_D : List (Nat × Callee) := [(905,laws_eqEntry_c)]
def laws_eqEntryS_H : List (Nat × ET) := [(6,T_Entry),(8,T_Entry),(12,T_Entry),(17,T_Entry),(21,T_Entry)]
noncomputable def laws_eqEntryS_c : Callee := mkCallee laws_eqEntryS_D laws_eqEntryS_H laws_eqEntryS_ir [.d (.one (.sl T_Entry)),.d (.one (.sl T_Entry))] [.d (.one .bool)] []
noncomputable def laws_eqEntryS (a0 : List T_Entry.ty) (a1 : List T_Entry.ty) : Option (Bool) := laws_eqEntryS_c.f (a0,a1,())
noncomputable def laws_eqEntryS_p0  (v0 : List T_Entry.ty) (v1 : List T_Entry.ty) (v5 : Int) : Option (Bool) :=
 goL laws_eqEntryS_D laws_eqEntryS_H (vleave laws_eqEntryS_ir [.d (.one (.sl T_Entry)),.d (.one (.sl T_Entry))] [.d (.one .bool)] [] []) [.c laws_eqEntryS_k0,.l laws_eqEntryS_k1,.e 0,.c laws_eqEntryS_k2]
  ⟨[(0,.sl T_Entry v0),(1,.sl T_Entry v1),(5,.int .i64 v5)],[]⟩
theorem laws_eqEntryS_eq (a0 : List T_Entry.ty) (a1 : List T_Entry.ty) : laws_eqEntryS a0 a1 =
 if ((a0.length : Int) != (a1.length : Int)) then
  some false
 else
  laws_eqEntryS_p0 a0 a1 0 :=
 (mk_f _ _ _ _ _ _ _ 4000).trans (by kernel_rfl)
theorem laws_eqEntryS_p0_eq  (v0 : List T_Entry.ty) (v1 : List T_Entry.ty) (v5 : Int) : laws_eqEntryS_p0 v0 v1 v5 =
 if decide (v5 < (v0.length : Int)) then
  if decide (0 ≤ v5) then
   (v0[v5.toNat]?).bind fun x1 =>
    if decide (0 ≤ v5) then
     (v1[v5.toNat]?).bind fun x2 =>
      (laws_eqEntry x1 x2).bind fun x3 =>
       if (!x3) then
        some false
       else
        laws_eqEntryS_p0 v0 v1 (IntKind.i64.wrap (v5 + 1))
    else
     none
  else
   none
 else
  some true :=
 (goL_dn _ _ _ 4000 _ _).trans (by kernel_rfl)
def laws_eqShop_ir : Fn := { np := 2,io := [],res := [.t 4],own := [false],body :=
 (.seq (.reg false [.W 2 (.box 8 (.t 0)),.W 3 (.box 8 (.t 1)),.V 4 (.asg (.c (.bool false)))] [2,3] [2,3,3000,3001,3003,3004,3006,3007,4000,4001,4003,4004,4006,4007]) (.seq (.seq (.reg false [.V 5 (.fa 0 (.t 2)),.V 6 (.ld none (.t 5)),.V 7 (.fa 0 (.t 3)),.V 8 (.ld none (.t 7)),.V 9 (.call (.c (.fn 616 [])) [.t 6,.t 8]),.V 10 (.un .not (.t 9))] [2,3,10] [2,3,3000,3001,3003,3004,3006,3007,4000,4001,4003,4004,4006,4007]) (.cond (.t 10) (.seq (.reg false [.V 4 (.asg (.c (.bool false)))] [4] []) .ret) .skip)) (.seq (.seq (.reg false [.V 11 (.fa 1 (.t 2)),.V 12 (.ld none (.t 11)),.V 13 (.fa 1 (.t 3)),.V 14 (.ld none (.t 13)),.V 15 (.call (.c (.fn 615 [])) [.t 12,.t 14]),.V 16 (.un .not (.t 15))] [2,3,16] [2,3,3000,3001,3003,3004,3006,3007,4000,4001,4003,4004,4006,4007]) (.cond (.t 16) (.seq (.reg false [.V 4 (.asg (.c (.bool false)))] [4] []) .ret) .skip)) (.seq (.seq (.reg false [.V 17 (.fa 2 (.t 2)),.V 18 (.ld none (.t 17)),.V 19 (.fa 2 (.t 3)),.V 20 (.ld none (.t 19)),.V 21 (.bin .neq (.t 18) (.t 20))] [2,3,21] [2,3,3000,3001,3003,3004,3006,3007,4000,4001,4003,4004,4006,4007]) (.cond (.t 21) (.seq (.reg false [.V 4 (.asg (.c (.bool false)))] [4] []) .ret) .skip)) (.seq (.seq (.reg false [.V 22 (.fa 3 (.t 2)),.V 23 (.ld none (.t 22)),.V 24 (.fa 3 (.t 3)),.V 25 (.ld none (.t 24)),.V 26 (.call (.c (.fn 614 [])) [.t 23,.t 25]),.V 27 (.un .not (.t 26))] [2,3,27] [2,3,3000,3001,3003,3004,3006,3007,4000,4001,4003,4004,4006,4007]) (.cond (.t 27) (.seq (.reg false [.V 4 (.asg (.c (.bool false)))] [4] []) .ret) .skip)) (.seq (.seq (.reg false [.V 28 (.fa 4 (.t 2)),.V 29 (.ld none (.t 28)),.V 30 (.fa 4 (.t 3)),.V 31 (.ld none (.t 30)),.V 32 (.call (.c (.fn 42 [])) [.t 29,.t 31]),.V 33 (.un .not (.t 32))] [2,3,33] [2,3,3000,3001,3003,3004,3006,3007,4000,4001,4003,4004,4006,4007]) (.cond (.t 33) (.seq (.reg false [.V 4 (.asg (.c (.bool false)))] [4] []) .ret) .skip)) (.seq (.seq (.reg false [.V 34 (.fa 5 (.t 2)),.V 35 (.ld none (.t 34)),.V 36 (.fa 5 (.t 3)),.V 37 (.ld none (.t 36)),.V 38 (.bin .neq (.t 35) (.t 37))] [2,3,38] [2,3,3000,3001,3003,3004,3006,3007,4000,4001,4003,4004,4006,4007]) (.cond (.t 38) (.seq (.reg false [.V 4 (.asg (.c (.bool false)))] [4] []) .ret) .skip)) (.seq (.seq (.reg false [.V 39 (.fa 6 (.t 2)),.V 40 (.ld none (.t 39)),.V 41 (.fa 6 (.t 3)),.V 42 (.ld none (.t 41)),.V 43 (.call (.c (.fn 613 [])) [.t 40,.t 42]),.V 44 (.un .not (.t 43))] [2,3,44] [2,3,3000,3001,3003,3004,3006,3007,4000,4001,4003,4004,4006,4007]) (.cond (.t 44) (.seq (.reg false [.V 4 (.asg (.c (.bool false)))] [4] []) .ret) .skip)) (.seq (.seq (.reg false [.V 45 (.fa 7 (.t 2)),.V 46 (.ld none (.t 45)),.V 47 (.fa 7 (.t 3)),.V 48 (.ld none (.t 47)),.V 49 (.call (.c (.fn 612 [])) [.t 46,.t 48]),.V 50 (.un .not (.t 49))] [50] []) (.cond (.t 50) (.seq (.reg false [.V 4 (.asg (.c (.bool false)))] [4] []) .ret) .skip)) (.seq (.reg false [.V 4 (.asg (.c (.bool true)))] [4] []) .ret)))))))))) }
noncomputable def laws_eqShop_D : List (Nat × Callee) := [(42,laws_eqInt64S_c),(612,laws_eqEntryS_c),(613,laws_eqRentalS_c),(614,laws_eqStepS_c),(615,laws_eqCordS_c),(616,laws_eqArcS_c)]
def laws_eqShop_H : List (Nat × ET) := [(6,T_Arc),(8,T_Arc),(12,T_Neck),(14,T_Neck),(23,T_Step),(25,T_Step),(29,(.one (.int .i64))),(31,(.one (.int .i64))),(40,T_Paper),(42,T_Paper),(46,T_Entry),(48,T_Entry)]
noncomputable def laws_eqShop_c : Callee := mkCallee laws_eqShop_D laws_eqShop_H laws_eqShop_ir [.d T_Shop,.d T_Shop] [.d (.one .bool)] []
noncomputable def laws_eqShop (a0 : T_Shop.ty) (a1 : T_Shop.ty) : Option (Bool) := laws_eqShop_c.f (a0,a1,())
theorem laws_eqShop_eq (a0 : T_Shop.ty) (a1 : T_Shop.ty) : laws_eqShop a0 a1 =
 (laws_eqArcS a0.1 a1.1).bind fun x1 =>
  if (!x1) then
   some false
  else
   (laws_eqCordS a0.2.1 a1.2.1).bind fun x2 =>
    if (!x2) then
     some false
    else
     if (a0.2.2.1 != a1.2.2.1) then
      some false
     else
      (laws_eqStepS a0.2.2.2.1 a1.2.2.2.1).bind fun x3 =>
       if (!x3) then
        some false
       else
        (laws_eqInt64S a0.2.2.2.2.1 a1.2.2.2.2.1).bind fun x4 =>
         if (!x4) then
          some false
         else
          if (a0.2.2.2.2.2.1 != a1.2.2.2.2.2.1) then
           some false
          else
           (laws_eqRentalS a0.2.2.2.2.2.2.1 a1.2.2.2.2.2.2.1).bind fun x5 =>
            if (!x5) then
             some false
            else
             (laws_eqEntryS a0.2.2.2.2.2.2.2.1 a1.2.2.2.2.2.2.2.1).bind fun x6 =>
              if (!x6) then
               some false
              else
               some true :=
 (mk_f _ _ _ _ _ _ _ 4000).trans (by kernel_rfl)
def laws_toPoint_ir : Fn := { np := 1,io := [],res := [.cell 2 (some 2)],own := [false],body :=
 (.seq (.reg false [.W 1 (.box 2 (.t 0)),.W 2 (.alloc 2 (.agg [.int .i64 0,.int .i64 0]))] [1,2] [1,2]) (.seq (.reg false [.W 3 (.alloc 2 (.agg [.int .i64 0,.int .i64 0]))] [1,2,3] [1,2,3]) (.seq (.reg false [.V 4 (.fa 0 (.t 1)),.V 5 (.ld none (.t 4)),.V 6 (.fa 0 (.t 3)),⟨none,true,.sto 1 (.t 6) (.t 5),none,false,[]⟩] [1,2,3] [1,2,3]) (.seq (.reg false [.V 7 (.fa 1 (.t 1)),.V 8 (.ld none (.t 7)),.V 9 (.fa 1 (.t 3)),⟨none,true,.sto 1 (.t 9) (.t 8),none,false,[]⟩] [2,3] [2,3]) (.seq (.reg false [.V 10 (.ld (some 2) (.t 3)),⟨none,true,.sto 2 (.t 2) (.t 10),none,false,[]⟩] [2] [2]) .ret))))) }
noncomputable def laws_toPoint_D : List (Nat × Callee) := []
def laws_toPoint_H : List (Nat × ET) := []
noncomputable def laws_toPoint_c : Callee := mkCallee laws_toPoint_D laws_toPoint_H laws_toPoint_ir [.d T_Point] [.d T_Point] []
noncomputable def laws_toPoint (a0 : T_Point.ty) : Option (T_Point.ty) := laws_toPoint_c.f (a0,())
theorem laws_toPoint_eq (a0 : T_Point.ty) : laws_toPoint a0 =
 some a0 :=
 (mk_f _ _ _ _ _ _ _ 4000).trans (by kernel_rfl)
def laws_toArc_ir : Fn := { np := 1,io := [],res := [.cell 2 (some 6)],own := [false],body :=
 (.seq (.reg false [.W 1 (.box 6 (.t 0)),.W 2 (.alloc 6 (.agg [.int .i64 0,.int .i64 0,.int .i64 0,.int .i64 0,.int .i64 0,.int .i64 0]))] [1,2] [1,2]) (.seq (.reg false [.W 3 (.alloc 6 (.agg [.int .i64 0,.int .i64 0,.int .i64 0,.int .i64 0,.int .i64 0,.int .i64 0]))] [1,2,3] [1,2,3]) (.seq (.reg false [.V 4 (.fa 0 (.t 1)),.V 5 (.ld (some 2) (.t 4)),.V 6 (.call (.c (.fn 1029 [])) [.t 5]),.V 7 (.fa 0 (.t 3)),⟨none,true,.sto 2 (.t 7) (.t 6),none,false,[]⟩] [1,2,3] [1,2,3]) (.seq (.reg false [.V 8 (.fa 2 (.t 1)),.V 9 (.ld (some 2) (.t 8)),.V 10 (.call (.c (.fn 1029 [])) [.t 9]),.V 11 (.fa 2 (.t 3)),⟨none,true,.sto 2 (.t 11) (.t 10),none,false,[]⟩] [1,2,3] [1,2,3]) (.seq (.reg false [.V 12 (.fa 4 (.t 1)),.V 13 (.ld (some 2) (.t 12)),.V 14 (.call (.c (.fn 1029 [])) [.t 13]),.V 15 (.fa 4 (.t 3)),⟨none,true,.sto 2 (.t 15) (.t 14),none,false,[]⟩] [2,3] [2,3]) (.seq (.reg false [.V 16 (.ld (some 6) (.t 3)),⟨none,true,.sto 6 (.t 2) (.t 16),none,false,[]⟩] [2] [2]) .ret)))))) }
noncomputable def laws_toArc_D : List (Nat × Callee) := [(1029,laws_toPoint_c)]
def laws_toArc_H : List (Nat × ET) := []
noncomputable def laws_toArc_c : Callee := mkCallee laws_toArc_D laws_toArc_H laws_toArc_ir [.d T_Arc] [.d T_Arc] []
noncomputable def laws_toArc (a0 : T_Arc.ty) : Option (T_Arc.ty) := laws_toArc_c.f (a0,())
theorem laws_toArc_eq (a0 : T_Arc.ty) : laws_toArc a0 =
 (laws_toPoint (a0.1,a0.2.1,())).bind fun x1 =>
  (laws_toPoint (a0.2.2.1,a0.2.2.2.1,())).bind fun x2 =>
   (laws_toPoint (a0.2.2.2.2.1,a0.2.2.2.2.2.1,())).bind fun x3 =>
    some (x1.1,x1.2.1,x2.1,x2.2.1,x3.1,x3.2.1,()) :=
 (mk_f _ _ _ _ _ _ _ 4000).trans (by kernel_rfl)
def laws_toArcS_k0 : C :=
 .seq (.seq (.reg false [.V 8 (.mv (.t 4)),.V 9 (.mv (.t 0)),.V 10 (.len (.t 9)),.V 11 (.bin .lss (.t 8) (.t 10))] [0,3,4,11] [3]) (.cond (.t 11) .skip (.exit 0))) (.seq (.block 1 (.reg false [.V 14 (.mv (.t 3)),.V 15 (.mv (.t 4)),.V 16 (.mv (.t 0)),.V 17 (.mv (.t 4)),.V 18 (.ia 6 (.t 16) (.t 17)),.V 19 (.ld (some 6) (.t 18)),.V 20 (.call (.c (.fn 892 [])) [.t 19]),.V 21 (.ia 6 (.t 14) (.t 15)),⟨none,true,.sto 6 (.t 21) (.t 20),none,false,[]⟩] [0,3,4] [3])) (.reg false [.V 12 (.mv (.t 4)),.V 13 (.bin .add (.t 12) (.c (.int .i64 1))),.V 4 (.asg (.t 13))] [0,3,4] [3]))
def laws_toArcS_k1 : C :=
 .norm [0,3,4] [3] laws_toArcS_k0
def laws_toArcS_k2 : C :=
 .seq (.reg false [.V 22 (.mv (.t 3)),.W 2 (.asg (.t 22))] [2] [2,3]) .ret
def laws_toArcS_ir : Fn := { np := 1,io := [],res := [.t 2],own := [true],body :=
 (.seq (.reg false [.W 2 (.asg (.c (.nils 6)))] [0] []) (.seq (.reg false [.V 5 (.mv (.t 0)),.V 6 (.len (.t 5)),.V 7 (.mks 6 48 (.agg [.int .i64 0,.int .i64 0,.int .i64 0,.int .i64 0,.int .i64 0,.int .i64 0]) (.t 6) (.t 6)),.W 3 (.asg (.t 7))] [0,3] [3]) (.seq (.seq (.reg false [.V 4 (.asg (.c (.int .i64 0)))] [0,3,4] [3]) (.block 0 (.loop laws_toArcS_k1))) laws_toArcS_k2))) }
noncomputable def laws_toArcS_D : List (Nat × Callee) := [(892,laws_toArc_c)]
def laws_toArcS_H : List (Nat × ET) := [(2,T_Arc),(3,T_Arc),(5,T_Arc),(7,T_Arc),(9,T_Arc),(14,T_Arc),(16,T_Arc),(22,T_Arc)]
noncomputable def laws_toArcS_c : Callee := mkCallee laws_toArcS_D laws_toArcS_H laws_toArcS_ir [.d (.one (.sl T_Arc))] [.tok T_Arc] []
noncomputable def laws_toArcS (a0 : List T_Arc.ty) : Option (List T_Arc.ty) := laws_toArcS_c.f (a0,())
noncomputable def laws_toArcS_p0  (v0 : List T_Arc.ty) (v3n : Nat) (v4 : Int) (r3 : List T_Arc.ty) : Option (List T_Arc.ty) :=
 goL laws_toArcS_D laws_toArcS_H (vleave laws_toArcS_ir [.d (.one (.sl T_Arc))] [.tok T_Arc] [] []) [.c laws_toArcS_k0,.l laws_toArcS_k1,.e 0,.c laws_toArcS_k2]
  ⟨[(0,.sl T_Arc v0),(3,.view 3 0 v3n),(4,.int .i64 v4)],[(3,some (.sl T_Arc r3))]⟩
theorem laws_toArcS_eq (a0 : List T_Arc.ty) : laws_toArcS a0 =
 if decide (0 ≤ (a0.length : Int)) && decide ((a0.length : Int) ≤ (a0.length : Int)) && decide ((a0.length : Int).toNat < lim) then
  laws_toArcS_p0 a0 ((List.replicate ((a0.length : Int).toNat) ((0,0,0,0,0,0,()) : T_Arc.ty)).length) 0 (List.replicate ((a0.length : Int).toNat) ((0,0,0,0,0,0,()) : T_Arc.ty))
 else
  none :=
 (mk_f _ _ _ _ _ _ _ 4000).trans (by kernel_rfl)
theorem laws_toArcS_p0_eq  (v0 : List T_Arc.ty) (v3n : Nat) (v4 : Int) (r3 : List T_Arc.ty) : laws_toArcS_p0 v0 v3n v4 r3 =
 if decide (v4 < (v0.length : Int)) then
  if decide (0 ≤ v4) then
   (v0[v4.toNat]?).bind fun x1 =>
    (laws_toArc x1).bind fun x2 =>
     if decide (0 ≤ v4) && decide (v4 < (v3n : Int)) then
      (r3[v4.toNat]?).bind fun x3 =>
       laws_toArcS_p0 v0 v3n (IntKind.i64.wrap (v4 + 1)) (r3.set v4.toNat x2)
     else
      none
  else
   none
 else
  some (r3.take v3n) :=
 (goL_dn _ _ _ 4000 _ _).trans (by kernel_rfl)
def laws_toCord_ir : Fn := { np := 1,io := [],res := [.cell 2 (some 4)],own := [false],body :=
 (.seq (.reg false [.W 1 (.box 4 (.t 0)),.W 2 (.alloc 4 (.agg [.int .i64 0,.int .i64 0,.int .i64 0,.int .i64 0]))] [1,2] [1,2]) (.seq (.reg false [.W 3 (.alloc 4 (.agg [.int .i64 0,.int .i64 0,.int .i64 0,.int .i64 0]))] [1,2,3] [1,2,3]) (.seq (.reg false [.V 4 (.fa 0 (.t 1)),.V 5 (.ld none (.t 4)),.V 6 (.fa 0 (.t 3)),⟨none,true,.sto 1 (.t 6) (.t 5),none,false,[]⟩] [1,2,3] [1,2,3]) (.seq (.reg false [.V 7 (.fa 1 (.t 1)),.V 8 (.ld none (.t 7)),.V 9 (.fa 1 (.t 3)),⟨none,true,.sto 1 (.t 9) (.t 8),none,false,[]⟩] [1,2,3] [1,2,3]) (.seq (.reg false [.V 10 (.fa 2 (.t 1)),.V 11 (.ld none (.t 10)),.V 12 (.fa 2 (.t 3)),⟨none,true,.sto 1 (.t 12) (.t 11),none,false,[]⟩] [1,2,3] [1,2,3]) (.seq (.reg false [.V 13 (.fa 3 (.t 1)),.V 14 (.ld none (.t 13)),.V 15 (.fa 3 (.t 3)),⟨none,true,.sto 1 (.t 15) (.t 14),none,false,[]⟩] [2,3] [2,3]) (.seq (.reg false [.V 16 (.ld (some 4) (.t 3)),⟨none,true,.sto 4 (.t 2) (.t 16),none,false,[]⟩] [2] [2]) .ret))))))) }
noncomputable def laws_toCord_D : List (Nat × Callee) := []
def laws_toCord_H : List (Nat × ET) := []
noncomputable def laws_toCord_c : Callee := mkCallee laws_toCord_D laws_toCord_H laws_toCord_ir [.d T_Neck] [.d T_Neck] []
noncomputable def laws_toCord (a0 : T_Neck.ty) : Option (T_Neck.ty) := laws_toCord_c.f (a0,())
theorem laws_toCord_eq (a0 : T_Neck.ty) : laws_toCord a0 =
 some a0 :=
 (mk_f _ _ _ _ _ _ _ 4000).trans (by kernel_rfl)
def laws_toCordS_k0 : C :=
 .seq (.seq (.reg false [.V 8 (.mv (.t 4)),.V 9 (.mv (.t 0)),.V 10 (.len (.t 9)),.V 11 (.bin .lss (.t 8) (.t 10))] [0,3,4,11] [3]) (.cond (.t 11) .skip (.exit 0))) (.seq (.block 1 (.reg false [.V 14 (.mv (.t 3)),.V 15 (.mv (.t 4)),.V 16 (.mv (.t 0)),.V 17 (.mv (.t 4)),.V 18 (.ia 4 (.t 16) (.t 17)),.V 19 (.ld (some 4) (.t 18)),.V 20 (.call (.c (.fn 893 [])) [.t 19]),.V 21 (.ia 4 (.t 14) (.t 15)),⟨none,true,.sto 4 (.t 21) (.t 20),none,false,[]⟩] [0,3,4] [3])) (.reg false [.V 12 (.mv (.t 4)),.V 13 (.bin .add (.t 12) (.c (.int .i64 1))),.V 4 (.asg (.t 13))] [0,3,4] [3]))
def laws_toCordS_k1 : C :=
 .norm [0,3,4] [3] laws_toCordS_k0
def laws_toCordS_k2 : C :=
 .seq (.reg false [.V 22 (.mv (.t 3)),.W 2 (.asg (.t 22))] [2] [2,3]) .ret
def laws_toCordS_ir : Fn := { np := 1,io := [],res := [.t 2],own := [true],body :=
 (.seq (.reg false [.W 2 (.asg (.c (.nils 4)))] [0] []) (.seq (.reg false [.V 5 (.mv (.t 0)),.V 6 (.len (.t 5)),.V 7 (.mks 4 32 (.agg [.int .i64 0,.int .i64 0,.int .i64 0,.int .i64 0]) (.t 6) (.t 6)),.W 3 (.asg (.t 7))] [0,3] [3]) (.seq (.seq (.reg false [.V 4 (.asg (.c (.int .i64 0)))] [0,3,4] [3]) (.block 0 (.loop laws_toCordS_k1))) laws_toCordS_k2))) }
noncomputable def laws_toCordS_D : List (Nat × Callee) := [(893,laws_toCord_c)]
def laws_toCordS_H : List (Nat × ET) := [(2,T_Neck),(3,T_Neck),(5,T_Neck),(7,T_Neck),(9,T_Neck),(14,T_Neck),(16,T_Neck),(22,T_Neck)]
noncomputable def laws_toCordS_c : Callee := mkCallee laws_toCordS_D laws_toCordS_H laws_toCordS_ir [.d (.one (.sl T_Neck))] [.tok T_Neck] []
noncomputable def laws_toCordS (a0 : List T_Neck.ty) : Option (List T_Neck.ty) := laws_toCordS_c.f (a0,())
noncomputable def laws_toCordS_p0  (v0 : List T_Neck.ty) (v3n : Nat) (v4 : Int) (r3 : List T_Neck.ty) : Option (List T_Neck.ty) :=
 goL laws_toCordS_D laws_toCordS_H (vleave laws_toCordS_ir [.d (.one (.sl T_Neck))] [.tok T_Neck] [] []) [.c laws_toCordS_k0,.l laws_toCordS_k1,.e 0,.c laws_toCordS_k2]
  ⟨[(0,.sl T_Neck v0),(3,.view 3 0 v3n),(4,.int .i64 v4)],[(3,some (.sl T_Neck r3))]⟩
theorem laws_toCordS_eq (a0 : List T_Neck.ty) : laws_toCordS a0 =
 if decide (0 ≤ (a0.length : Int)) && decide ((a0.length : Int) ≤ (a0.length : Int)) && decide ((a0.length : Int).toNat < lim) then
  laws_toCordS_p0 a0 ((List.replicate ((a0.length : Int).toNat) ((0,0,0,0,()) : T_Neck.ty)).length) 0 (List.replicate ((a0.length : Int).toNat) ((0,0,0,0,()) : T_Neck.ty))
 else
  none :=
 (mk_f _ _ _ _ _ _ _ 4000).trans (by kernel_rfl)
theorem laws_toCordS_p0_eq  (v0 : List T_Neck.ty) (v3n : Nat) (v4 : Int) (r3 : List T_Neck.ty) : laws_toCordS_p0 v0 v3n v4 r3 =
 if decide (v4 < (v0.length : Int)) then
  if decide (0 ≤ v4) then
   (v0[v4.toNat]?).bind fun x1 =>
    (laws_toCord x1).bind fun x2 =>
     if decide (0 ≤ v4) && decide (v4 < (v3n : Int)) then
      (r3[v4.toNat]?).bind fun x3 =>
       laws_toCordS_p0 v0 v3n (IntKind.i64.wrap (v4 + 1)) (r3.set v4.toNat x2)
     else
      none
  else
   none
 else
  some (r3.take v3n) :=
 (goL_dn _ _ _ 4000 _ _).trans (by kernel_rfl)
def laws_toInt64S_k0 : C :=
 .seq (.seq (.reg false [.V 8 (.mv (.t 4)),.V 9 (.mv (.t 0)),.V 10 (.len (.t 9)),.V 11 (.bin .lss (.t 8) (.t 10))] [0,3,4,11] [3]) (.cond (.t 11) .skip (.exit 0))) (.seq (.block 1 (.reg false [.V 14 (.mv (.t 3)),.V 15 (.mv (.t 4)),.V 16 (.mv (.t 0)),.V 17 (.mv (.t 4)),.V 18 (.ia 1 (.t 16) (.t 17)),.V 19 (.ld none (.t 18)),.V 20 (.ia 1 (.t 14) (.t 15)),⟨none,true,.sto 1 (.t 20) (.t 19),none,false,[]⟩] [0,3,4] [3])) (.reg false [.V 12 (.mv (.t 4)),.V 13 (.bin .add (.t 12) (.c (.int .i64 1))),.V 4 (.asg (.t 13))] [0,3,4] [3]))
def laws_toInt64S_k1 : C :=
 .norm [0,3,4] [3] laws_toInt64S_k0
def laws_toInt64S_k2 : C :=
 .seq (.reg false [.V 21 (.mv (.t 3)),.W 2 (.asg (.t 21))] [2] [2,3]) .ret
def laws_toInt64S_ir : Fn := { np := 1,io := [],res := [.t 2],own := [true],body :=
 (.seq (.reg false [.W 2 (.asg (.c (.nils 1)))] [0] []) (.seq (.reg false [.V 5 (.mv (.t 0)),.V 6 (.len (.t 5)),.V 7 (.mks 1 8 (.int .i64 0) (.t 6) (.t 6)),.W 3 (.asg (.t 7))] [0,3] [3]) (.seq (.seq (.reg false [.V 4 (.asg (.c (.int .i64 0)))] [0,3,4] [3]) (.block 0 (.loop laws_toInt64S_k1))) laws_toInt64S_k2))) }
noncomputable def laws_toInt64S_D : List (Nat × Callee) := []
def laws_toInt64S_H : List (Nat × ET) := [(2,(.one (.int .i64))),(3,(.one (.int .i64))),(5,(.one (.int .i64))),(7,(.one (.int .i64))),(9,(.one (.int .i64))),(14,(.one (.int .i64))),(16,(.one (.int .i64))),(21,(.one (.int .i64)))]
noncomputable def laws_toInt64S_c : Callee := mkCallee laws_toInt64S_D laws_toInt64S_H laws_toInt64S_ir [.d (.one (.sl (.one (.int .i64))))] [.tok (.one (.int .i64))] []
noncomputable def laws_toInt64S (a0 : List Int) : Option (List Int) := laws_toInt64S_c.f (a0,())
noncomputable def laws_toInt64S_p0  (v0 : List Int) (v3n : Nat) (v4 : Int) (r3 : List Int) : Option (List Int) :=
 goL laws_toInt64S_D laws_toInt64S_H (vleave laws_toInt64S_ir [.d (.one (.sl (.one (.int .i64))))] [.tok (.one (.int .i64))] [] []) [.c laws_toInt64S_k0,.l laws_toInt64S_k1,.e 0,.c laws_toInt64S_k2]
  ⟨[(0,.sl (.one (.int .i64)) v0),(3,.view 3 0 v3n),(4,.int .i64 v4)],[(3,some (.sl (.one (.int .i64)) r3))]⟩
theorem laws_toInt64S_eq (a0 : List Int) : laws_toInt64S a0 =
 if decide (0 ≤ (a0.length : Int)) && decide ((a0.length : Int) ≤ (a0.length : Int)) && decide ((a0.length : Int).toNat < lim) then
  laws_toInt64S_p0 a0 ((List.replicate ((a0.length : Int).toNat) (0 : Int)).length) 0 (List.replicate ((a0.length : Int).toNat) (0 : Int))
 else
  none :=
 (mk_f _ _ _ _ _ _ _ 4000).trans (by kernel_rfl)
theorem laws_toInt64S_p0_eq  (v0 : List Int) (v3n : Nat) (v4 : Int) (r3 : List Int) : laws_toInt64S_p0 v0 v3n v4 r3 =
 if decide (v4 < (v0.length : Int)) then
  if decide (0 ≤ v4) then
   (v0[v4.toNat]?).bind fun x1 =>
    if decide (0 ≤ v4) && decide (v4 < (v3n : Int)) then
     (r3[v4.toNat]?).bind fun x2 =>
      laws_toInt64S_p0 v0 v3n (IntKind.i64.wrap (v4 + 1)) (r3.set v4.toNat x1)
    else
     none
  else
   none
 else
  some (r3.take v3n) :=
 (goL_dn _ _ _ 4000 _ _).trans (by kernel_rfl)
def laws_toRental_ir : Fn := { np := 1,io := [],res := [.cell 2 (some 5)],own := [false],body :=
 (.seq (.reg false [.W 1 (.box 5 (.t 0)),.W 2 (.alloc 5 (.agg [.str [],.str [],.int .i64 0,.int .i64 0,.int .i64 0]))] [1,2] [1,2]) (.seq (.reg false [.W 3 (.alloc 5 (.agg [.str [],.str [],.int .i64 0,.int .i64 0,.int .i64 0]))] [1,2,3] [1,2,3]) (.seq (.reg false [.V 4 (.fa 0 (.t 1)),.V 5 (.ld none (.t 4)),.V 6 (.fa 0 (.t 3)),⟨none,true,.sto 1 (.t 6) (.t 5),none,false,[]⟩] [1,2,3] [1,2,3]) (.seq (.reg false [.V 7 (.fa 1 (.t 1)),.V 8 (.ld none (.t 7)),.V 9 (.fa 1 (.t 3)),⟨none,true,.sto 1 (.t 9) (.t 8),none,false,[]⟩] [1,2,3] [1,2,3]) (.seq (.reg false [.V 10 (.fa 2 (.t 1)),.V 11 (.ld none (.t 10)),.V 12 (.fa 2 (.t 3)),⟨none,true,.sto 1 (.t 12) (.t 11),none,false,[]⟩] [1,2,3] [1,2,3]) (.seq (.reg false [.V 13 (.fa 3 (.t 1)),.V 14 (.ld none (.t 13)),.V 15 (.fa 3 (.t 3)),⟨none,true,.sto 1 (.t 15) (.t 14),none,false,[]⟩] [1,2,3] [1,2,3]) (.seq (.reg false [.V 16 (.fa 4 (.t 1)),.V 17 (.ld none (.t 16)),.V 18 (.fa 4 (.t 3)),⟨none,true,.sto 1 (.t 18) (.t 17),none,false,[]⟩] [2,3] [2,3]) (.seq (.reg false [.V 19 (.ld (some 5) (.t 3)),⟨none,true,.sto 5 (.t 2) (.t 19),none,false,[]⟩] [2] [2]) .ret)))))))) }
noncomputable def laws_toRental_D : List (Nat × Callee) := []
def laws_toRental_H : List (Nat × ET) := []
noncomputable def laws_toRental_c : Callee := mkCallee laws_toRental_D laws_toRental_H laws_toRental_ir [.d T_Paper] [.d T_Paper] []
noncomputable def laws_toRental (a0 : T_Paper.ty) : Option (T_Paper.ty) := laws_toRental_c.f (a0,())
theorem laws_toRental_eq (a0 : T_Paper.ty) : laws_toRental a0 =
 some a0 :=
 (mk_f _ _ _ _ _ _ _ 4000).trans (by kernel_rfl)
def laws_toRentalS_k0 : C :=
 .seq (.seq (.reg false [.V 8 (.mv (.t 4)),.V 9 (.mv (.t 0)),.V 10 (.len (.t 9)),.V 11 (.bin .lss (.t 8) (.t 10))] [0,3,4,11] [3]) (.cond (.t 11) .skip (.exit 0))) (.seq (.block 1 (.reg false [.V 14 (.mv (.t 3)),.V 15 (.mv (.t 4)),.V 16 (.mv (.t 0)),.V 17 (.mv (.t 4)),.V 18 (.ia 5 (.t 16) (.t 17)),.V 19 (.ld (some 5) (.t 18)),.V 20 (.call (.c (.fn 895 [])) [.t 19]),.V 21 (.ia 5 (.t 14) (.t 15)),⟨none,true,.sto 5 (.t 21) (.t 20),none,false,[]⟩] [0,3,4] [3])) (.reg false [.V 12 (.mv (.t 4)),.V 13 (.bin .add (.t 12) (.c (.int .i64 1))),.V 4 (.asg (.t 13))] [0,3,4] [3]))
def laws_toRentalS_k1 : C :=
 .norm [0,3,4] [3] laws_toRentalS_k0
def laws_toRentalS_k2 : C :=
 .seq (.reg false [.V 22 (.mv (.t 3)),.W 2 (.asg (.t 22))] [2] [2,3]) .ret
def laws_toRentalS_ir : Fn := { np := 1,io := [],res := [.t 2],own := [true],body :=
 (.seq (.reg false [.W 2 (.asg (.c (.nils 5)))] [0] []) (.seq (.reg false [.V 5 (.mv (.t 0)),.V 6 (.len (.t 5)),.V 7 (.mks 5 56 (.agg [.str [],.str [],.int .i64 0,.int .i64 0,.int .i64 0]) (.t 6) (.t 6)),.W 3 (.asg (.t 7))] [0,3] [3]) (.seq (.seq (.reg false [.V 4 (.asg (.c (.int .i64 0)))] [0,3,4] [3]) (.block 0 (.loop laws_toRentalS_k1))) laws_toRentalS_k2))) }
noncomputable def laws_toRentalS_D : List (Nat × Callee) := [(895,laws_toRental_c)]
def laws_toRentalS_H : List (Nat × ET) := [(2,T_Paper),(3,T_Paper),(5,T_Paper),(7,T_Paper),(9,T_Paper),(14,T_Paper),(16,T_Paper),(22,T_Paper)]
noncomputable def laws_toRentalS_c : Callee := mkCallee laws_toRentalS_D laws_toRentalS_H laws_toRentalS_ir [.d (.one (.sl T_Paper))] [.tok T_Paper] []
noncomputable def laws_toRentalS (a0 : List T_Paper.ty) : Option (List T_Paper.ty) := laws_toRentalS_c.f (a0,())
noncomputable def laws_toRentalS_p0  (v0 : List T_Paper.ty) (v3n : Nat) (v4 : Int) (r3 : List T_Paper.ty) : Option (List T_Paper.ty) :=
 goL laws_toRentalS_D laws_toRentalS_H (vleave laws_toRentalS_ir [.d (.one (.sl T_Paper))] [.tok T_Paper] [] []) [.c laws_toRentalS_k0,.l laws_toRentalS_k1,.e 0,.c laws_toRentalS_k2]
  ⟨[(0,.sl T_Paper v0),(3,.view 3 0 v3n),(4,.int .i64 v4)],[(3,some (.sl T_Paper r3))]⟩
theorem laws_toRentalS_eq (a0 : List T_Paper.ty) : laws_toRentalS a0 =
 if decide (0 ≤ (a0.length : Int)) && decide ((a0.length : Int) ≤ (a0.length : Int)) && decide ((a0.length : Int).toNat < lim) then
  laws_toRentalS_p0 a0 ((List.replicate ((a0.length : Int).toNat) (([],[],0,0,0,()) : T_Paper.ty)).length) 0 (List.replicate ((a0.length : Int).toNat) (([],[],0,0,0,()) : T_Paper.ty))
 else
  none :=
 (mk_f _ _ _ _ _ _ _ 4000).trans (by kernel_rfl)
theorem laws_toRentalS_p0_eq  (v0 : List T_Paper.ty) (v3n : Nat) (v4 : Int) (r3 : List T_Paper.ty) : laws_toRentalS_p0 v0 v3n v4 r3 =
 if decide (v4 < (v0.length : Int)) then
  if decide (0 ≤ v4) then
   (v0[v4.toNat]?).bind fun x1 =>
    (laws_toRental x1).bind fun x2 =>
     if decide (0 ≤ v4) && decide (v4 < (v3n : Int)) then
      (r3[v4.toNat]?).bind fun x3 =>
       laws_toRentalS_p0 v0 v3n (IntKind.i64.wrap (v4 + 1)) (r3.set v4.toNat x2)
     else
      none
  else
   none
 else
  some (r3.take v3n) :=
 (goL_dn _ _ _ 4000 _ _).trans (by kernel_rfl)
def laws_toEntry_ir : Fn := { np := 1,io := [],res := [.cell 2 (some 4)],own := [false],body :=
 (.seq (.reg false [.W 1 (.box 4 (.t 0)),.W 2 (.alloc 4 (.agg [.int .i64 0,.str [],.str [],.int .i64 0]))] [1,2] [1,2]) (.seq (.reg false [.W 3 (.alloc 4 (.agg [.int .i64 0,.str [],.str [],.int .i64 0]))] [1,2,3] [1,2,3]) (.seq (.reg false [.V 4 (.fa 0 (.t 1)),.V 5 (.ld none (.t 4)),.V 6 (.fa 0 (.t 3)),⟨none,true,.sto 1 (.t 6) (.t 5),none,false,[]⟩] [1,2,3] [1,2,3]) (.seq (.reg false [.V 7 (.fa 1 (.t 1)),.V 8 (.ld none (.t 7)),.V 9 (.fa 1 (.t 3)),⟨none,true,.sto 1 (.t 9) (.t 8),none,false,[]⟩] [1,2,3] [1,2,3]) (.seq (.reg false [.V 10 (.fa 2 (.t 1)),.V 11 (.ld none (.t 10)),.V 12 (.fa 2 (.t 3)),⟨none,true,.sto 1 (.t 12) (.t 11),none,false,[]⟩] [1,2,3] [1,2,3]) (.seq (.reg false [.V 13 (.fa 3 (.t 1)),.V 14 (.ld none (.t 13)),.V 15 (.fa 3 (.t 3)),⟨none,true,.sto 1 (.t 15) (.t 14),none,false,[]⟩] [2,3] [2,3]) (.seq (.reg false [.V 16 (.ld (some 4) (.t 3)),⟨none,true,.sto 4 (.t 2) (.t 16),none,false,[]⟩] [2] [2]) .ret))))))) }
noncomputable def laws_toEntry_D : List (Nat × Callee) := []
def laws_toEntry_H : List (Nat × ET) := []
noncomputable def laws_toEntry_c : Callee := mkCallee laws_toEntry_D laws_toEntry_H laws_toEntry_ir [.d T_Entry] [.d T_Entry] []
noncomputable def laws_toEntry (a0 : T_Entry.ty) : Option (T_Entry.ty) := laws_toEntry_c.f (a0,())
theorem laws_toEntry_eq (a0 : T_Entry.ty) : laws_toEntry a0 =
 some a0 :=
 (mk_f _ _ _ _ _ _ _ 4000).trans (by kernel_rfl)
def laws_toEntryS_k0 : C :=
 .seq (.seq (.reg false [.V 8 (.mv (.t 4)),.V 9 (.mv (.t 0)),.V 10 (.len (.t 9)),.V 11 (.bin .lss (.t 8) (.t 10))] [0,3,4,11] [3]) (.cond (.t 11) .skip (.exit 0))) (.seq (.block 1 (.reg false [.V 14 (.mv (.t 3)),.V 15 (.mv (.t 4)),.V 16 (.mv (.t 0)),.V 17 (.mv (.t 4)),.V 18 (.ia 4 (.t 16) (.t 17)),.V 19 (.ld (some 4) (.t 18)),.V 20 (.call (.c (.fn 896 [])) [.t 19]),.V 21 (.ia 4 (.t 14) (.t 15)),⟨none,true,.sto 4 (.t 21) (.t 20),none,false,[]⟩] [0,3,4] [3])) (.reg false [.V 12 (.mv (.t 4)),.V 13 (.bin .add (.t 12) (.c (.int .i64 1))),.V 4 (.asg (.t 13))] [0,3,4] [3]))
def laws_toEntryS_k1 : C :=
 .norm [0,3,4] [3] laws_toEntryS_k0
def laws_toEntryS_k2 : C :=
 .seq (.reg false [.V 22 (.mv (.t 3)),.W 2 (.asg (.t 22))] [2] [2,3]) .ret
def laws_toEntryS_ir : Fn := { np := 1,io := [],res := [.t 2],own := [true],body :=
 (.seq (.reg false [.W 2 (.asg (.c (.nils 4)))] [0] []) (.seq (.reg false [.V 5 (.mv (.t 0)),.V 6 (.len (.t 5)),.V 7 (.mks 4 48 (.agg [.int .i64 0,.str [],.str [],.int .i64 0]) (.t 6) (.t 6)),.W 3 (.asg (.t 7))] [0,3] [3]) (.seq (.seq (.reg false [.V 4 (.asg (.c (.int .i64 0)))] [0,3,4] [3]) (.block 0 (.loop laws_toEntryS_k1))) laws_toEntryS_k2))) }
noncomputable def laws_toEntryS_D : List (Nat × Callee) := [(896,laws_toEntry_c)]
def laws_toEntryS_H : List (Nat × ET) := [(2,T_Entry),(3,T_Entry),(5,T_Entry),(7,T_Entry),(9,T_Entry),(14,T_Entry),(16,T_Entry),(22,T_Entry)]
noncomputable def laws_toEntryS_c : Callee := mkCallee laws_toEntryS_D laws_toEntryS_H laws_toEntryS_ir [.d (.one (.sl T_Entry))] [.tok T_Entry] []
noncomputable def laws_toEntryS (a0 : List T_Entry.ty) : Option (List T_Entry.ty) := laws_toEntryS_c.f (a0,())
noncomputable def laws_toEntryS_p0  (v0 : List T_Entry.ty) (v3n : Nat) (v4 : Int) (r3 : List T_Entry.ty) : Option (List T_Entry.ty) :=
 goL laws_toEntryS_D laws_toEntryS_H (vleave laws_toEntryS_ir [.d (.one (.sl T_Entry))] [.tok T_Entry] [] []) [.c laws_toEntryS_k0,.l laws_toEntryS_k1,.e 0,.c laws_toEntryS_k2]
  ⟨[(0,.sl T_Entry v0),(3,.view 3 0 v3n),(4,.int .i64 v4)],[(3,some (.sl T_Entry r3))]⟩
theorem laws_toEntryS_eq (a0 : List T_Entry.ty) : laws_toEntryS a0 =
 if decide (0 ≤ (a0.length : Int)) && decide ((a0.length : Int) ≤ (a0.length : Int)) && decide ((a0.length : Int).toNat < lim) then
  laws_toEntryS_p0 a0 ((List.replicate ((a0.length : Int).toNat) ((0,[],[],0,()) : T_Entry.ty)).length) 0 (List.replicate ((a0.length : Int).toNat) ((0,[],[],0,()) : T_Entry.ty))
 else
  none :=
 (mk_f _ _ _ _ _ _ _ 4000).trans (by kernel_rfl)
theorem laws_toEntryS_p0_eq  (v0 : List T_Entry.ty) (v3n : Nat) (v4 : Int) (r3 : List T_Entry.ty) : laws_toEntryS_p0 v0 v3n v4 r3 =
 if decide (v4 < (v0.length : Int)) then
  if decide (0 ≤ v4) then
   (v0[v4.toNat]?).bind fun x1 =>
    (laws_toEntry x1).bind fun x2 =>
     if decide (0 ≤ v4) && decide (v4 < (v3n : Int)) then
      (r3[v4.toNat]?).bind fun x3 =>
       laws_toEntryS_p0 v0 v3n (IntKind.i64.wrap (v4 + 1)) (r3.set v4.toNat x2)
     else
      none
  else
   none
 else
  some (r3.take v3n) :=
 (goL_dn _ _ _ 4000 _ _).trans (by kernel_rfl)
def laws_markArcS_k0 : C :=
 .seq (.seq (.reg false [.V 6 (.mv (.t 5)),.V 7 (.mv (.t 0)),.V 8 (.len (.t 7)),.V 9 (.bin .lss (.t 6) (.t 8))] [0,1,5,9] [0]) (.cond (.t 9) .skip (.exit 0))) (.seq (.block 1 (.seq (.reg false [.V 12 (.mv (.t 0)),.V 13 (.mv (.t 5)),.V 14 (.mv (.t 1)),.V 15 (.ia 6 (.t 12) (.t 13)),.V 16 (.fa 0 (.t 15)),.V 17 (.fa 0 (.t 16)),⟨none,true,.sto 1 (.t 17) (.t 14),none,false,[]⟩] [0,1,5] [0]) (.seq (.reg false [.V 18 (.mv (.t 1)),.V 19 (.bin .add (.t 18) (.c (.int .i64 1))),.V 1 (.asg (.t 19))] [0,1,5] [0]) (.seq (.reg false [.V 20 (.mv (.t 0)),.V 21 (.mv (.t 5)),.V 22 (.mv (.t 1)),.V 23 (.ia 6 (.t 20) (.t 21)),.V 24 (.fa 0 (.t 23)),.V 25 (.fa 1 (.t 24)),⟨none,true,.sto 1 (.t 25) (.t 22),none,false,[]⟩] [0,1,5] [0]) (.seq (.reg false [.V 26 (.mv (.t 1)),.V 27 (.bin .add (.t 26) (.c (.int .i64 1))),.V 1 (.asg (.t 27))] [0,1,5] [0]) (.seq (.reg false [.V 28 (.mv (.t 0)),.V 29 (.mv (.t 5)),.V 30 (.mv (.t 1)),.V 31 (.ia 6 (.t 28) (.t 29)),.V 32 (.fa 2 (.t 31)),.V 33 (.fa 0 (.t 32)),⟨none,true,.sto 1 (.t 33) (.t 30),none,false,[]⟩] [0,1,5] [0]) (.seq (.reg false [.V 34 (.mv (.t 1)),.V 35 (.bin .add (.t 34) (.c (.int .i64 1))),.V 1 (.asg (.t 35))] [0,1,5] [0]) (.seq (.reg false [.V 36 (.mv (.t 0)),.V 37 (.mv (.t 5)),.V 38 (.mv (.t 1)),.V 39 (.ia 6 (.t 36) (.t 37)),.V 40 (.fa 2 (.t 39)),.V 41 (.fa 1 (.t 40)),⟨none,true,.sto 1 (.t 41) (.t 38),none,false,[]⟩] [0,1,5] [0]) (.seq (.reg false [.V 42 (.mv (.t 1)),.V 43 (.bin .add (.t 42) (.c (.int .i64 1))),.V 1 (.asg (.t 43))] [0,1,5] [0]) (.seq (.reg false [.V 44 (.mv (.t 0)),.V 45 (.mv (.t 5)),.V 46 (.mv (.t 1)),.V 47 (.ia 6 (.t 44) (.t 45)),.V 48 (.fa 4 (.t 47)),.V 49 (.fa 0 (.t 48)),⟨none,true,.sto 1 (.t 49) (.t 46),none,false,[]⟩] [0,1,5] [0]) (.seq (.reg false [.V 50 (.mv (.t 1)),.V 51 (.bin .add (.t 50) (.c (.int .i64 1))),.V 1 (.asg (.t 51))] [0,1,5] [0]) (.seq (.reg false [.V 52 (.mv (.t 0)),.V 53 (.mv (.t 5)),.V 54 (.mv (.t 1)),.V 55 (.ia 6 (.t 52) (.t 53)),.V 56 (.fa 4 (.t 55)),.V 57 (.fa 1 (.t 56)),⟨none,true,.sto 1 (.t 57) (.t 54),none,false,[]⟩] [0,1,5] [0]) (.reg false [.V 58 (.mv (.t 1)),.V 59 (.bin .add (.t 58) (.c (.int .i64 1))),.V 1 (.asg (.t 59))] [0,1,5] [0]))))))))))))) (.reg false [.V 10 (.mv (.t 5)),.V 11 (.bin .add (.t 10) (.c (.int .i64 1))),.V 5 (.asg (.t 11))] [0,1,5] [0]))
def laws_markArcS_k1 : C :=
 .norm [0,1,5] [0] laws_markArcS_k0
def laws_markArcS_k2 : C :=
 .seq (.reg false [.V 60 (.mv (.t 1)),.V 4 (.asg (.t 60))] [0,4] [0]) .ret
def laws_markArcS_ir : Fn := { np := 2,io := [true,false],res := [.t 4],own := [false],body :=
 (.seq (.reg false [.V 4 (.asg (.c (.int .i64 0)))] [0,1] [0]) (.seq (.seq (.reg false [.V 5 (.asg (.c (.int .i64 0)))] [0,1,5] [0]) (.block 0 (.loop laws_markArcS_k1))) laws_markArcS_k2)) }
noncomputable def laws_markArcS_D : List (Nat × Callee) := []
def laws_markArcS_H : List (Nat × ET) := [(7,T_Arc),(12,T_Arc),(20,T_Arc),(28,T_Arc),(36,T_Arc),(44,T_Arc),(52,T_Arc)]
noncomputable def laws_markArcS_c : Callee := mkCallee laws_markArcS_D laws_markArcS_H laws_markArcS_ir [.ios T_Arc,.d (.one (.int .i64))] [.d (.one (.int .i64))] [.ios T_Arc]
noncomputable def laws_markArcS (a0 : List T_Arc.ty) (a1 : Int) : Option (Int × List T_Arc.ty) := laws_markArcS_c.f (a0,a1,())
noncomputable def laws_markArcS_p0 (l0 : Nat) (v0n : Nat) (v1 : Int) (v5 : Int) (r0 : List T_Arc.ty) : Option (Int × List T_Arc.ty) :=
 goL laws_markArcS_D laws_markArcS_H (vleave laws_markArcS_ir [.ios T_Arc,.d (.one (.int .i64))] [.d (.one (.int .i64))] [.ios T_Arc] [l0]) [.c laws_markArcS_k0,.l laws_markArcS_k1,.e 0,.c laws_markArcS_k2]
  ⟨[(0,.view 0 0 v0n),(1,.int .i64 v1),(5,.int .i64 v5)],[(0,some (.sl T_Arc r0))]⟩
theorem laws_markArcS_eq (a0 : List T_Arc.ty) (a1 : Int) : laws_markArcS a0 a1 =
 laws_markArcS_p0 a0.length a0.length a1 0 a0 :=
 (mk_f _ _ _ _ _ _ _ 4000).trans (by kernel_rfl)
theorem laws_markArcS_p0_eq (l0 : Nat) (v0n : Nat) (v1 : Int) (v5 : Int) (r0 : List T_Arc.ty) : laws_markArcS_p0 l0 v0n v1 v5 r0 =
 if decide (v5 < (v0n : Int)) then
  if decide (0 ≤ v5) && decide (v5 < (v0n : Int)) then
   (r0[v5.toNat]?).bind fun x1 =>
    if decide (0 ≤ v5) && decide (v5 < (v0n : Int)) then
     ((r0.set v5.toNat (v1,x1.2.1,x1.2.2.1,x1.2.2.2.1,x1.2.2.2.2.1,x1.2.2.2.2.2.1,()))[v5.toNat]?).bind fun x2 =>
      if decide (0 ≤ v5) && decide (v5 < (v0n : Int)) then
       (((r0.set v5.toNat (v1,x1.2.1,x1.2.2.1,x1.2.2.2.1,x1.2.2.2.2.1,x1.2.2.2.2.2.1,())).set v5.toNat (x2.1,IntKind.i64.wrap (v1 + 1),x2.2.2.1,x2.2.2.2.1,x2.2.2.2.2.1,x2.2.2.2.2.2.1,()))[v5.toNat]?).bind fun x3 =>
        if decide (0 ≤ v5) && decide (v5 < (v0n : Int)) then
         ((((r0.set v5.toNat (v1,x1.2.1,x1.2.2.1,x1.2.2.2.1,x1.2.2.2.2.1,x1.2.2.2.2.2.1,())).set v5.toNat (x2.1,IntKind.i64.wrap (v1 + 1),x2.2.2.1,x2.2.2.2.1,x2.2.2.2.2.1,x2.2.2.2.2.2.1,())).set v5.toNat (x3.1,x3.2.1,IntKind.i64.wrap ((IntKind.i64.wrap (v1 + 1)) + 1),x3.2.2.2.1,x3.2.2.2.2.1,x3.2.2.2.2.2.1,()))[v5.toNat]?).bind fun x4 =>
          if decide (0 ≤ v5) && decide (v5 < (v0n : Int)) then
           (((((r0.set v5.toNat (v1,x1.2.1,x1.2.2.1,x1.2.2.2.1,x1.2.2.2.2.1,x1.2.2.2.2.2.1,())).set v5.toNat (x2.1,IntKind.i64.wrap (v1 + 1),x2.2.2.1,x2.2.2.2.1,x2.2.2.2.2.1,x2.2.2.2.2.2.1,())).set v5.toNat (x3.1,x3.2.1,IntKind.i64.wrap ((IntKind.i64.wrap (v1 + 1)) + 1),x3.2.2.2.1,x3.2.2.2.2.1,x3.2.2.2.2.2.1,())).set v5.toNat (x4.1,x4.2.1,x4.2.2.1,IntKind.i64.wrap ((IntKind.i64.wrap ((IntKind.i64.wrap (v1 + 1)) + 1)) + 1),x4.2.2.2.2.1,x4.2.2.2.2.2.1,()))[v5.toNat]?).bind fun x5 =>
            if decide (0 ≤ v5) && decide (v5 < (v0n : Int)) then
             ((((((r0.set v5.toNat (v1,x1.2.1,x1.2.2.1,x1.2.2.2.1,x1.2.2.2.2.1,x1.2.2.2.2.2.1,())).set v5.toNat (x2.1,IntKind.i64.wrap (v1 + 1),x2.2.2.1,x2.2.2.2.1,x2.2.2.2.2.1,x2.2.2.2.2.2.1,())).set v5.toNat (x3.1,x3.2.1,IntKind.i64.wrap ((IntKind.i64.wrap (v1 + 1)) + 1),x3.2.2.2.1,x3.2.2.2.2.1,x3.2.2.2.2.2.1,())).set v5.toNat (x4.1,x4.2.1,x4.2.2.1,IntKind.i64.wrap ((IntKind.i64.wrap ((IntKind.i64.wrap (v1 + 1)) + 1)) + 1),x4.2.2.2.2.1,x4.2.2.2.2.2.1,())).set v5.toNat (x5.1,x5.2.1,x5.2.2.1,x5.2.2.2.1,IntKind.i64.wrap ((IntKind.i64.wrap ((IntKind.i64.wrap ((IntKind.i64.wrap (v1 + 1)) + 1)) + 1)) + 1),x5.2.2.2.2.2.1,()))[v5.toNat]?).bind fun x6 =>
              laws_markArcS_p0 l0 v0n (IntKind.i64.wrap ((IntKind.i64.wrap ((IntKind.i64.wrap ((IntKind.i64.wrap ((IntKind.i64.wrap ((IntKind.i64.wrap (v1 + 1)) + 1)) + 1)) + 1)) + 1)) + 1)) (IntKind.i64.wrap (v5 + 1)) ((((((r0.set v5.toNat (v1,x1.2.1,x1.2.2.1,x1.2.2.2.1,x1.2.2.2.2.1,x1.2.2.2.2.2.1,())).set v5.toNat (x2.1,IntKind.i64.wrap (v1 + 1),x2.2.2.1,x2.2.2.2.1,x2.2.2.2.2.1,x2.2.2.2.2.2.1,())).set v5.toNat (x3.1,x3.2.1,IntKind.i64.wrap ((IntKind.i64.wrap (v1 + 1)) + 1),x3.2.2.2.1,x3.2.2.2.2.1,x3.2.2.2.2.2.1,())).set v5.toNat (x4.1,x4.2.1,x4.2.2.1,IntKind.i64.wrap ((IntKind.i64.wrap ((IntKind.i64.wrap (v1 + 1)) + 1)) + 1),x4.2.2.2.2.1,x4.2.2.2.2.2.1,())).set v5.toNat (x5.1,x5.2.1,x5.2.2.1,x5.2.2.2.1,IntKind.i64.wrap ((IntKind.i64.wrap ((IntKind.i64.wrap ((IntKind.i64.wrap (v1 + 1)) + 1)) + 1)) + 1),x5.2.2.2.2.2.1,())).set v5.toNat (x6.1,x6.2.1,x6.2.2.1,x6.2.2.2.1,x6.2.2.2.2.1,IntKind.i64.wrap ((IntKind.i64.wrap ((IntKind.i64.wrap ((IntKind.i64.wrap ((IntKind.i64.wrap (v1 + 1)) + 1)) + 1)) + 1)) + 1),()))
            else
             none
          else
           none
        else
         none
      else
       none
    else
     none
  else
   none
 else
  if decide (r0.length = l0) then
   some (v1,r0)
  else
   none :=
 (goL_dn _ _ _ 4000 _ _).trans (by kernel_rfl)
def laws_markCordS_k0 : C :=
 .seq (.seq (.reg false [.V 6 (.mv (.t 5)),.V 7 (.mv (.t 0)),.V 8 (.len (.t 7)),.V 9 (.bin .lss (.t 6) (.t 8))] [0,1,5,9] [0]) (.cond (.t 9) .skip (.exit 0))) (.seq (.block 1 (.seq (.reg false [.V 12 (.mv (.t 0)),.V 13 (.mv (.t 5)),.V 14 (.mv (.t 1)),.V 15 (.ia 4 (.t 12) (.t 13)),.V 16 (.fa 0 (.t 15)),⟨none,true,.sto 1 (.t 16) (.t 14),none,false,[]⟩] [0,1,5] [0]) (.seq (.reg false [.V 17 (.mv (.t 1)),.V 18 (.bin .add (.t 17) (.c (.int .i64 1))),.V 1 (.asg (.t 18))] [0,1,5] [0]) (.seq (.reg false [.V 19 (.mv (.t 0)),.V 20 (.mv (.t 5)),.V 21 (.mv (.t 1)),.V 22 (.ia 4 (.t 19) (.t 20)),.V 23 (.fa 1 (.t 22)),⟨none,true,.sto 1 (.t 23) (.t 21),none,false,[]⟩] [0,1,5] [0]) (.seq (.reg false [.V 24 (.mv (.t 1)),.V 25 (.bin .add (.t 24) (.c (.int .i64 1))),.V 1 (.asg (.t 25))] [0,1,5] [0]) (.seq (.reg false [.V 26 (.mv (.t 0)),.V 27 (.mv (.t 5)),.V 28 (.mv (.t 1)),.V 29 (.ia 4 (.t 26) (.t 27)),.V 30 (.fa 2 (.t 29)),⟨none,true,.sto 1 (.t 30) (.t 28),none,false,[]⟩] [0,1,5] [0]) (.seq (.reg false [.V 31 (.mv (.t 1)),.V 32 (.bin .add (.t 31) (.c (.int .i64 1))),.V 1 (.asg (.t 32))] [0,1,5] [0]) (.seq (.reg false [.V 33 (.mv (.t 0)),.V 34 (.mv (.t 5)),.V 35 (.mv (.t 1)),.V 36 (.ia 4 (.t 33) (.t 34)),.V 37 (.fa 3 (.t 36)),⟨none,true,.sto 1 (.t 37) (.t 35),none,false,[]⟩] [0,1,5] [0]) (.reg false [.V 38 (.mv (.t 1)),.V 39 (.bin .add (.t 38) (.c (.int .i64 1))),.V 1 (.asg (.t 39))] [0,1,5] [0]))))))))) (.reg false [.V 10 (.mv (.t 5)),.V 11 (.bin .add (.t 10) (.c (.int .i64 1))),.V 5 (.asg (.t 11))] [0,1,5] [0]))
def laws_markCordS_k1 : C :=
 .norm [0,1,5] [0] laws_markCordS_k0
def laws_markCordS_k2 : C :=
 .seq (.reg false [.V 40 (.mv (.t 1)),.V 4 (.asg (.t 40))] [0,4] [0]) .ret
def laws_markCordS_ir : Fn := { np := 2,io := [true,false],res := [.t 4],own := [false],body :=
 (.seq (.reg false [.V 4 (.asg (.c (.int .i64 0)))] [0,1] [0]) (.seq (.seq (.reg false [.V 5 (.asg (.c (.int .i64 0)))] [0,1,5] [0]) (.block 0 (.loop laws_markCordS_k1))) laws_markCordS_k2)) }
noncomputable def laws_markCordS_D : List (Nat × Callee) := []
def laws_markCordS_H : List (Nat × ET) := [(7,T_Neck),(12,T_Neck),(19,T_Neck),(26,T_Neck),(33,T_Neck)]
noncomputable def laws_markCordS_c : Callee := mkCallee laws_markCordS_D laws_markCordS_H laws_markCordS_ir [.ios T_Neck,.d (.one (.int .i64))] [.d (.one (.int .i64))] [.ios T_Neck]
noncomputable def laws_markCordS (a0 : List T_Neck.ty) (a1 : Int) : Option (Int × List T_Neck.ty) := laws_markCordS_c.f (a0,a1,())
noncomputable def laws_markCordS_p0 (l0 : Nat) (v0n : Nat) (v1 : Int) (v5 : Int) (r0 : List T_Neck.ty) : Option (Int × List T_Neck.ty) :=
 goL laws_markCordS_D laws_markCordS_H (vleave laws_markCordS_ir [.ios T_Neck,.d (.one (.int .i64))] [.d (.one (.int .i64))] [.ios T_Neck] [l0]) [.c laws_markCordS_k0,.l laws_markCordS_k1,.e 0,.c laws_markCordS_k2]
  ⟨[(0,.view 0 0 v0n),(1,.int .i64 v1),(5,.int .i64 v5)],[(0,some (.sl T_Neck r0))]⟩
theorem laws_markCordS_eq (a0 : List T_Neck.ty) (a1 : Int) : laws_markCordS a0 a1 =
 laws_markCordS_p0 a0.length a0.length a1 0 a0 :=
 (mk_f _ _ _ _ _ _ _ 4000).trans (by kernel_rfl)
theorem laws_markCordS_p0_eq (l0 : Nat) (v0n : Nat) (v1 : Int) (v5 : Int) (r0 : List T_Neck.ty) : laws_markCordS_p0 l0 v0n v1 v5 r0 =
 if decide (v5 < (v0n : Int)) then
  if decide (0 ≤ v5) && decide (v5 < (v0n : Int)) then
   (r0[v5.toNat]?).bind fun x1 =>
    if decide (0 ≤ v5) && decide (v5 < (v0n : Int)) then
     ((r0.set v5.toNat (v1,x1.2.1,x1.2.2.1,x1.2.2.2.1,()))[v5.toNat]?).bind fun x2 =>
      if decide (0 ≤ v5) && decide (v5 < (v0n : Int)) then
       (((r0.set v5.toNat (v1,x1.2.1,x1.2.2.1,x1.2.2.2.1,())).set v5.toNat (x2.1,IntKind.i64.wrap (v1 + 1),x2.2.2.1,x2.2.2.2.1,()))[v5.toNat]?).bind fun x3 =>
        if decide (0 ≤ v5) && decide (v5 < (v0n : Int)) then
         ((((r0.set v5.toNat (v1,x1.2.1,x1.2.2.1,x1.2.2.2.1,())).set v5.toNat (x2.1,IntKind.i64.wrap (v1 + 1),x2.2.2.1,x2.2.2.2.1,())).set v5.toNat (x3.1,x3.2.1,IntKind.i64.wrap ((IntKind.i64.wrap (v1 + 1)) + 1),x3.2.2.2.1,()))[v5.toNat]?).bind fun x4 =>
          laws_markCordS_p0 l0 v0n (IntKind.i64.wrap ((IntKind.i64.wrap ((IntKind.i64.wrap ((IntKind.i64.wrap (v1 + 1)) + 1)) + 1)) + 1)) (IntKind.i64.wrap (v5 + 1)) ((((r0.set v5.toNat (v1,x1.2.1,x1.2.2.1,x1.2.2.2.1,())).set v5.toNat (x2.1,IntKind.i64.wrap (v1 + 1),x2.2.2.1,x2.2.2.2.1,())).set v5.toNat (x3.1,x3.2.1,IntKind.i64.wrap ((IntKind.i64.wrap (v1 + 1)) + 1),x3.2.2.2.1,())).set v5.toNat (x4.1,x4.2.1,x4.2.2.1,IntKind.i64.wrap ((IntKind.i64.wrap ((IntKind.i64.wrap (v1 + 1)) + 1)) + 1),()))
        else
         none
      else
       none
    else
     none
  else
   none
 else
  if decide (r0.length = l0) then
   some (v1,r0)
  else
   none :=
 (goL_dn _ _ _ 4000 _ _).trans (by kernel_rfl)
def laws_markInt64S_k0 : C :=
 .seq (.seq (.reg false [.V 6 (.mv (.t 5)),.V 7 (.mv (.t 0)),.V 8 (.len (.t 7)),.V 9 (.bin .lss (.t 6) (.t 8))] [0,1,5,9] [0]) (.cond (.t 9) .skip (.exit 0))) (.seq (.block 1 (.seq (.reg false [.V 12 (.mv (.t 0)),.V 13 (.mv (.t 5)),.V 14 (.mv (.t 1)),.V 15 (.ia 1 (.t 12) (.t 13)),⟨none,true,.sto 1 (.t 15) (.t 14),none,false,[]⟩] [0,1,5] [0]) (.reg false [.V 16 (.mv (.t 1)),.V 17 (.bin .add (.t 16) (.c (.int .i64 1))),.V 1 (.asg (.t 17))] [0,1,5] [0]))) (.reg false [.V 10 (.mv (.t 5)),.V 11 (.bin .add (.t 10) (.c (.int .i64 1))),.V 5 (.asg (.t 11))] [0,1,5] [0]))
def laws_markInt64S_k1 : C :=
 .norm [0,1,5] [0] laws_markInt64S_k0
def laws_markInt64S_k2 : C :=
 .seq (.reg false [.V 18 (.mv (.t 1)),.V 4 (.asg (.t 18))] [0,4] [0]) .ret
def laws_markInt64S_ir : Fn := { np := 2,io := [true,false],res := [.t 4],own := [false],body :=
 (.seq (.reg false [.V 4 (.asg (.c (.int .i64 0)))] [0,1] [0]) (.seq (.seq (.reg false [.V 5 (.asg (.c (.int .i64 0)))] [0,1,5] [0]) (.block 0 (.loop laws_markInt64S_k1))) laws_markInt64S_k2)) }
noncomputable def laws_markInt64S_D : List (Nat × Callee) := []
def laws_markInt64S_H : List (Nat × ET) := [(7,(.one (.int .i64))),(12,(.one (.int .i64)))]
noncomputable def laws_markInt64S_c : Callee := mkCallee laws_markInt64S_D laws_markInt64S_H laws_markInt64S_ir [.ios (.one (.int .i64)),.d (.one (.int .i64))] [.d (.one (.int .i64))] [.ios (.one (.int .i64))]
noncomputable def laws_markInt64S (a0 : List Int) (a1 : Int) : Option (Int × List Int) := laws_markInt64S_c.f (a0,a1,())
noncomputable def laws_markInt64S_p0 (l0 : Nat) (v0n : Nat) (v1 : Int) (v5 : Int) (r0 : List Int) : Option (Int × List Int) :=
 goL laws_markInt64S_D laws_markInt64S_H (vleave laws_markInt64S_ir [.ios (.one (.int .i64)),.d (.one (.int .i64))] [.d (.one (.int .i64))] [.ios (.one (.int .i64))] [l0]) [.c laws_markInt64S_k0,.l laws_markInt64S_k1,.e 0,.c laws_markInt64S_k2]
  ⟨[(0,.view 0 0 v0n),(1,.int .i64 v1),(5,.int .i64 v5)],[(0,some (.sl (.one (.int .i64)) r0))]⟩
theorem laws_markInt64S_eq (a0 : List Int) (a1 : Int) : laws_markInt64S a0 a1 =
 laws_markInt64S_p0 a0.length a0.length a1 0 a0 :=
 (mk_f _ _ _ _ _ _ _ 4000).trans (by kernel_rfl)
theorem laws_markInt64S_p0_eq (l0 : Nat) (v0n : Nat) (v1 : Int) (v5 : Int) (r0 : List Int) : laws_markInt64S_p0 l0 v0n v1 v5 r0 =
 if decide (v5 < (v0n : Int)) then
  if decide (0 ≤ v5) && decide (v5 < (v0n : Int)) then
   (r0[v5.toNat]?).bind fun x1 =>
    laws_markInt64S_p0 l0 v0n (IntKind.i64.wrap (v1 + 1)) (IntKind.i64.wrap (v5 + 1)) (r0.set v5.toNat v1)
  else
   none
 else
  if decide (r0.length = l0) then
   some (v1,r0)
  else
   none :=
 (goL_dn _ _ _ 4000 _ _).trans (by kernel_rfl)
def laws_markText_k0 : C :=
 .seq (.seq (.reg false [.V 6 (.mv (.t 0)),.V 7 (.bin .gtr (.t 6) (.c (.int .i64 0)))] [0,3,7] []) (.cond (.t 7) .skip (.exit 0))) (.block 1 (.seq (.reg false [.V 8 (.mv (.t 0)),.V 9 (.bin .rem (.t 8) (.c (.int .i64 10))),.V 10 (.bin .add (.c (.int .i64 48)) (.t 9)),.V 11 (.conv (.int .u8) (.t 10)),.V 12 (.bsl 1 (.int .u8 0) 1 [(0,.t 11)]),.V 13 (.conv .bytesStr (.t 12)),.V 14 (.mv (.t 3)),.V 15 (.bin .add (.t 13) (.t 14)),.V 3 (.asg (.t 15))] [0,3] []) (.reg false [.V 16 (.mv (.t 0)),.V 17 (.bin .quo (.t 16) (.c (.int .i64 10))),.V 0 (.asg (.t 17))] [0,3] [])))
def laws_markText_k1 : C :=
 .norm [0,3] [] laws_markText_k0
def laws_markText_k2 : C :=
 .seq (.reg false [.V 18 (.mv (.t 3)),.V 19 (.bin .add (.c (.str [109])) (.t 18)),.V 2 (.asg (.t 19))] [2] []) .ret
def laws_markText_ir : Fn := { np := 1,io := [],res := [.t 2],own := [false],body :=
 (.seq (.reg false [.V 2 (.asg (.c (.str [])))] [0] []) (.seq (.seq (.reg false [.V 4 (.mv (.t 0)),.V 5 (.bin .leq (.t 4) (.c (.int .i64 0)))] [0,5] []) (.cond (.t 5) (.seq (.reg false [.V 2 (.asg (.c (.str [109,48])))] [2] []) .ret) .skip)) (.seq (.reg false [.V 3 (.asg (.c (.str [])))] [0,3] []) (.seq (.block 0 (.loop laws_markText_k1)) laws_markText_k2)))) }
noncomputable def laws_markText_D : List (Nat × Callee) := []
def laws_markText_H : List (Nat × ET) := [(12,(.one (.int .u8)))]
noncomputable def laws_markText_c : Callee := mkCallee laws_markText_D laws_markText_H laws_markText_ir [.d (.one (.int .i64))] [.d (.one .str)] []
noncomputable def laws_markText (a0 : Int) : Option (List UInt8) := laws_markText_c.f (a0,())
noncomputable def laws_markText_p0  (v0 : Int) (v3 : List UInt8) : Option (List UInt8) :=
 goL laws_markText_D laws_markText_H (vleave laws_markText_ir [.d (.one (.int .i64))] [.d (.one .str)] [] []) [.c laws_markText_k0,.l laws_markText_k1,.e 0,.c laws_markText_k2]
  ⟨[(0,.int .i64 v0),(3,.str v3)],[]⟩
theorem laws_markText_eq (a0 : Int) : laws_markText a0 =
 if decide (a0 ≤ 0) then
  some [109,48]
 else
  laws_markText_p0 a0 [] :=
 (mk_f _ _ _ _ _ _ _ 4000).trans (by kernel_rfl)
theorem laws_markText_p0_eq  (v0 : Int) (v3 : List UInt8) : laws_markText_p0 v0 v3 =
 if decide (v0 > 0) then
  if decide (([IntKind.u8.wrap (IntKind.i64.wrap (48 + (v0.tmod 10)))].map vu8).length + v3.length ≤ strMax) then
   laws_markText_p0 (IntKind.i64.wrap (v0.tdiv 10)) (([IntKind.u8.wrap (IntKind.i64.wrap (48 + (v0.tmod 10)))].map vu8) ++ v3)
  else
   none
 else
  if decide ([109].length + v3.length ≤ strMax) then
   some ([109] ++ v3)
  else
   none :=
 (goL_dn _ _ _ 4000 _ _).trans (by kernel_rfl)
def laws_markRentalS_k0 : C :=
 .seq (.seq (.reg false [.V 6 (.mv (.t 5)),.V 7 (.mv (.t 0)),.V 8 (.len (.t 7)),.V 9 (.bin .lss (.t 6) (.t 8))] [0,1,5,9] [0]) (.cond (.t 9) .skip (.exit 0))) (.seq (.block 1 (.seq (.reg false [.V 12 (.mv (.t 0)),.V 13 (.mv (.t 5)),.V 14 (.mv (.t 1)),.V 15 (.call (.c (.fn 40 [])) [.t 14]),.V 16 (.ia 5 (.t 12) (.t 13)),.V 17 (.fa 0 (.t 16)),⟨none,true,.sto 1 (.t 17) (.t 15),none,false,[]⟩] [0,1,5] [0]) (.seq (.reg false [.V 18 (.mv (.t 1)),.V 19 (.bin .add (.t 18) (.c (.int .i64 1))),.V 1 (.asg (.t 19))] [0,1,5] [0]) (.seq (.reg false [.V 20 (.mv (.t 0)),.V 21 (.mv (.t 5)),.V 22 (.mv (.t 1)),.V 23 (.call (.c (.fn 40 [])) [.t 22]),.V 24 (.ia 5 (.t 20) (.t 21)),.V 25 (.fa 1 (.t 24)),⟨none,true,.sto 1 (.t 25) (.t 23),none,false,[]⟩] [0,1,5] [0]) (.seq (.reg false [.V 26 (.mv (.t 1)),.V 27 (.bin .add (.t 26) (.c (.int .i64 1))),.V 1 (.asg (.t 27))] [0,1,5] [0]) (.seq (.reg false [.V 28 (.mv (.t 0)),.V 29 (.mv (.t 5)),.V 30 (.mv (.t 1)),.V 31 (.ia 5 (.t 28) (.t 29)),.V 32 (.fa 2 (.t 31)),⟨none,true,.sto 1 (.t 32) (.t 30),none,false,[]⟩] [0,1,5] [0]) (.seq (.reg false [.V 33 (.mv (.t 1)),.V 34 (.bin .add (.t 33) (.c (.int .i64 1))),.V 1 (.asg (.t 34))] [0,1,5] [0]) (.seq (.reg false [.V 35 (.mv (.t 0)),.V 36 (.mv (.t 5)),.V 37 (.mv (.t 1)),.V 38 (.ia 5 (.t 35) (.t 36)),.V 39 (.fa 3 (.t 38)),⟨none,true,.sto 1 (.t 39) (.t 37),none,false,[]⟩] [0,1,5] [0]) (.seq (.reg false [.V 40 (.mv (.t 1)),.V 41 (.bin .add (.t 40) (.c (.int .i64 1))),.V 1 (.asg (.t 41))] [0,1,5] [0]) (.seq (.reg false [.V 42 (.mv (.t 0)),.V 43 (.mv (.t 5)),.V 44 (.mv (.t 1)),.V 45 (.ia 5 (.t 42) (.t 43)),.V 46 (.fa 4 (.t 45)),⟨none,true,.sto 1 (.t 46) (.t 44),none,false,[]⟩] [0,1,5] [0]) (.reg false [.V 47 (.mv (.t 1)),.V 48 (.bin .add (.t 47) (.c (.int .i64 1))),.V 1 (.asg (.t 48))] [0,1,5] [0]))))))))))) (.reg false [.V 10 (.mv (.t 5)),.V 11 (.bin .add (.t 10) (.c (.int .i64 1))),.V 5 (.asg (.t 11))] [0,1,5] [0]))
def laws_markRentalS_k1 : C :=
 .norm [0,1,5] [0] laws_markRentalS_k0
def laws_markRentalS_k2 : C :=
 .seq (.reg false [.V 49 (.mv (.t 1)),.V 4 (.asg (.t 49))] [0,4] [0]) .ret
def laws_markRentalS_ir : Fn := { np := 2,io := [true,false],res := [.t 4],own := [false],body :=
 (.seq (.reg false [.V 4 (.asg (.c (.int .i64 0)))] [0,1] [0]) (.seq (.seq (.reg false [.V 5 (.asg (.c (.int .i64 0)))] [0,1,5] [0]) (.block 0 (.loop laws_markRentalS_k1))) laws_markRentalS_k2)) }
noncomputable def laws_markRentalS_D : List (Nat × Callee) := [(40,laws_markText_c)]
def laws_markRentalS_H : List (Nat × ET) := [(7,T_Paper),(12,T_Paper),(20,T_Paper),(28,T_Paper),(35,T_Paper),(42,T_Paper)]
noncomputable def laws_markRentalS_c : Callee := mkCallee laws_markRentalS_D laws_markRentalS_H laws_markRentalS_ir [.ios T_Paper,.d (.one (.int .i64))] [.d (.one (.int .i64))] [.ios T_Paper]
noncomputable def laws_markRentalS (a0 : List T_Paper.ty) (a1 : Int) : Option (Int × List T_Paper.ty) := laws_markRentalS_c.f (a0,a1,())
noncomputable def laws_markRentalS_p0 (l0 : Nat) (v0n : Nat) (v1 : Int) (v5 : Int) (r0 : List T_Paper.ty) : Option (Int × List T_Paper.ty) :=
 goL laws_markRentalS_D laws_markRentalS_H (vleave laws_markRentalS_ir [.ios T_Paper,.d (.one (.int .i64))] [.d (.one (.int .i64))] [.ios T_Paper] [l0]) [.c laws_markRentalS_k0,.l laws_markRentalS_k1,.e 0,.c laws_markRentalS_k2]
  ⟨[(0,.view 0 0 v0n),(1,.int .i64 v1),(5,.int .i64 v5)],[(0,some (.sl T_Paper r0))]⟩
theorem laws_markRentalS_eq (a0 : List T_Paper.ty) (a1 : Int) : laws_markRentalS a0 a1 =
 laws_markRentalS_p0 a0.length a0.length a1 0 a0 :=
 (mk_f _ _ _ _ _ _ _ 4000).trans (by kernel_rfl)
theorem laws_markRentalS_p0_eq (l0 : Nat) (v0n : Nat) (v1 : Int) (v5 : Int) (r0 : List T_Paper.ty) : laws_markRentalS_p0 l0 v0n v1 v5 r0 =
 if decide (v5 < (v0n : Int)) then
  (laws_markText v1).bind fun x1 =>
   if decide (0 ≤ v5) && decide (v5 < (v0n : Int)) then
    (r0[v5.toNat]?).bind fun x2 =>
     (laws_markText (IntKind.i64.wrap (v1 + 1))).bind fun x3 =>
      if decide (0 ≤ v5) && decide (v5 < (v0n : Int)) then
       ((r0.set v5.toNat (x1,x2.2.1,x2.2.2.1,x2.2.2.2.1,x2.2.2.2.2.1,()))[v5.toNat]?).bind fun x4 =>
        if decide (0 ≤ v5) && decide (v5 < (v0n : Int)) then
         (((r0.set v5.toNat (x1,x2.2.1,x2.2.2.1,x2.2.2.2.1,x2.2.2.2.2.1,())).set v5.toNat (x4.1,x3,x4.2.2.1,x4.2.2.2.1,x4.2.2.2.2.1,()))[v5.toNat]?).bind fun x5 =>
          if decide (0 ≤ v5) && decide (v5 < (v0n : Int)) then
           ((((r0.set v5.toNat (x1,x2.2.1,x2.2.2.1,x2.2.2.2.1,x2.2.2.2.2.1,())).set v5.toNat (x4.1,x3,x4.2.2.1,x4.2.2.2.1,x4.2.2.2.2.1,())).set v5.toNat (x5.1,x5.2.1,IntKind.i64.wrap ((IntKind.i64.wrap (v1 + 1)) + 1),x5.2.2.2.1,x5.2.2.2.2.1,()))[v5.toNat]?).bind fun x6 =>
            if decide (0 ≤ v5) && decide (v5 < (v0n : Int)) then
             (((((r0.set v5.toNat (x1,x2.2.1,x2.2.2.1,x2.2.2.2.1,x2.2.2.2.2.1,())).set v5.toNat (x4.1,x3,x4.2.2.1,x4.2.2.2.1,x4.2.2.2.2.1,())).set v5.toNat (x5.1,x5.2.1,IntKind.i64.wrap ((IntKind.i64.wrap (v1 + 1)) + 1),x5.2.2.2.1,x5.2.2.2.2.1,())).set v5.toNat (x6.1,x6.2.1,x6.2.2.1,IntKind.i64.wrap ((IntKind.i64.wrap ((IntKind.i64.wrap (v1 + 1)) + 1)) + 1),x6.2.2.2.2.1,()))[v5.toNat]?).bind fun x7 =>
              laws_markRentalS_p0 l0 v0n (IntKind.i64.wrap ((IntKind.i64.wrap ((IntKind.i64.wrap ((IntKind.i64.wrap ((IntKind.i64.wrap (v1 + 1)) + 1)) + 1)) + 1)) + 1)) (IntKind.i64.wrap (v5 + 1)) (((((r0.set v5.toNat (x1,x2.2.1,x2.2.2.1,x2.2.2.2.1,x2.2.2.2.2.1,())).set v5.toNat (x4.1,x3,x4.2.2.1,x4.2.2.2.1,x4.2.2.2.2.1,())).set v5.toNat (x5.1,x5.2.1,IntKind.i64.wrap ((IntKind.i64.wrap (v1 + 1)) + 1),x5.2.2.2.1,x5.2.2.2.2.1,())).set v5.toNat (x6.1,x6.2.1,x6.2.2.1,IntKind.i64.wrap ((IntKind.i64.wrap ((IntKind.i64.wrap (v1 + 1)) + 1)) + 1),x6.2.2.2.2.1,())).set v5.toNat (x7.1,x7.2.1,x7.2.2.1,x7.2.2.2.1,IntKind.i64.wrap ((IntKind.i64.wrap ((IntKind.i64.wrap ((IntKind.i64.wrap (v1 + 1)) + 1)) + 1)) + 1),()))
            else
             none
          else
           none
        else
         none
      else
       none
   else
    none
 else
  if decide (r0.length = l0) then
   some (v1,r0)
  else
   none :=
 (goL_dn _ _ _ 4000 _ _).trans (by kernel_rfl)
def laws_markEntryS_k0 : C :=
 .seq (.seq (.reg false [.V 6 (.mv (.t 5)),.V 7 (.mv (.t 0)),.V 8 (.len (.t 7)),.V 9 (.bin .lss (.t 6) (.t 8))] [0,1,5,9] [0]) (.cond (.t 9) .skip (.exit 0))) (.seq (.block 1 (.seq (.reg false [.V 12 (.mv (.t 0)),.V 13 (.mv (.t 5)),.V 14 (.mv (.t 1)),.V 15 (.ia 4 (.t 12) (.t 13)),.V 16 (.fa 0 (.t 15)),⟨none,true,.sto 1 (.t 16) (.t 14),none,false,[]⟩] [0,1,5] [0]) (.seq (.reg false [.V 17 (.mv (.t 1)),.V 18 (.bin .add (.t 17) (.c (.int .i64 1))),.V 1 (.asg (.t 18))] [0,1,5] [0]) (.seq (.reg false [.V 19 (.mv (.t 0)),.V 20 (.mv (.t 5)),.V 21 (.mv (.t 1)),.V 22 (.call (.c (.fn 40 [])) [.t 21]),.V 23 (.ia 4 (.t 19) (.t 20)),.V 24 (.fa 1 (.t 23)),⟨none,true,.sto 1 (.t 24) (.t 22),none,false,[]⟩] [0,1,5] [0]) (.seq (.reg false [.V 25 (.mv (.t 1)),.V 26 (.bin .add (.t 25) (.c (.int .i64 1))),.V 1 (.asg (.t 26))] [0,1,5] [0]) (.seq (.reg false [.V 27 (.mv (.t 0)),.V 28 (.mv (.t 5)),.V 29 (.mv (.t 1)),.V 30 (.call (.c (.fn 40 [])) [.t 29]),.V 31 (.ia 4 (.t 27) (.t 28)),.V 32 (.fa 2 (.t 31)),⟨none,true,.sto 1 (.t 32) (.t 30),none,false,[]⟩] [0,1,5] [0]) (.seq (.reg false [.V 33 (.mv (.t 1)),.V 34 (.bin .add (.t 33) (.c (.int .i64 1))),.V 1 (.asg (.t 34))] [0,1,5] [0]) (.seq (.reg false [.V 35 (.mv (.t 0)),.V 36 (.mv (.t 5)),.V 37 (.mv (.t 1)),.V 38 (.ia 4 (.t 35) (.t 36)),.V 39 (.fa 3 (.t 38)),⟨none,true,.sto 1 (.t 39) (.t 37),none,false,[]⟩] [0,1,5] [0]) (.reg false [.V 40 (.mv (.t 1)),.V 41 (.bin .add (.t 40) (.c (.int .i64 1))),.V 1 (.asg (.t 41))] [0,1,5] [0]))))))))) (.reg false [.V 10 (.mv (.t 5)),.V 11 (.bin .add (.t 10) (.c (.int .i64 1))),.V 5 (.asg (.t 11))] [0,1,5] [0]))
def laws_markEntryS_k1 : C :=
 .norm [0,1,5] [0] laws_markEntryS_k0
def laws_markEntryS_k2 : C :=
 .seq (.reg false [.V 42 (.mv (.t 1)),.V 4 (.asg (.t 42))] [0,4] [0]) .ret
def laws_markEntryS_ir : Fn := { np := 2,io := [true,false],res := [.t 4],own := [false],body :=
 (.seq (.reg false [.V 4 (.asg (.c (.int .i64 0)))] [0,1] [0]) (.seq (.seq (.reg false [.V 5 (.asg (.c (.int .i64 0)))] [0,1,5] [0]) (.block 0 (.loop laws_markEntryS_k1))) laws_markEntryS_k2)) }
noncomputable def laws_markEntryS_D : List (Nat × Callee) := [(40,laws_markText_c)]
def laws_markEntryS_H : List (Nat × ET) := [(7,T_Entry),(12,T_Entry),(19,T_Entry),(27,T_Entry),(35,T_Entry)]
noncomputable def laws_markEntryS_c : Callee := mkCallee laws_markEntryS_D laws_markEntryS_H laws_markEntryS_ir [.ios T_Entry,.d (.one (.int .i64))] [.d (.one (.int .i64))] [.ios T_Entry]
noncomputable def laws_markEntryS (a0 : List T_Entry.ty) (a1 : Int) : Option (Int × List T_Entry.ty) := laws_markEntryS_c.f (a0,a1,())
noncomputable def laws_markEntryS_p0 (l0 : Nat) (v0n : Nat) (v1 : Int) (v5 : Int) (r0 : List T_Entry.ty) : Option (Int × List T_Entry.ty) :=
 goL laws_markEntryS_D laws_markEntryS_H (vleave laws_markEntryS_ir [.ios T_Entry,.d (.one (.int .i64))] [.d (.one (.int .i64))] [.ios T_Entry] [l0]) [.c laws_markEntryS_k0,.l laws_markEntryS_k1,.e 0,.c laws_markEntryS_k2]
  ⟨[(0,.view 0 0 v0n),(1,.int .i64 v1),(5,.int .i64 v5)],[(0,some (.sl T_Entry r0))]⟩
theorem laws_markEntryS_eq (a0 : List T_Entry.ty) (a1 : Int) : laws_markEntryS a0 a1 =
 laws_markEntryS_p0 a0.length a0.length a1 0 a0 :=
 (mk_f _ _ _ _ _ _ _ 4000).trans (by kernel_rfl)
theorem laws_markEntryS_p0_eq (l0 : Nat) (v0n : Nat) (v1 : Int) (v5 : Int) (r0 : List T_Entry.ty) : laws_markEntryS_p0 l0 v0n v1 v5 r0 =
 if decide (v5 < (v0n : Int)) then
  if decide (0 ≤ v5) && decide (v5 < (v0n : Int)) then
   (r0[v5.toNat]?).bind fun x1 =>
    (laws_markText (IntKind.i64.wrap (v1 + 1))).bind fun x2 =>
     if decide (0 ≤ v5) && decide (v5 < (v0n : Int)) then
      ((r0.set v5.toNat (v1,x1.2.1,x1.2.2.1,x1.2.2.2.1,()))[v5.toNat]?).bind fun x3 =>
       (laws_markText (IntKind.i64.wrap ((IntKind.i64.wrap (v1 + 1)) + 1))).bind fun x4 =>
        if decide (0 ≤ v5) && decide (v5 < (v0n : Int)) then
         (((r0.set v5.toNat (v1,x1.2.1,x1.2.2.1,x1.2.2.2.1,())).set v5.toNat (x3.1,x2,x3.2.2.1,x3.2.2.2.1,()))[v5.toNat]?).bind fun x5 =>
          if decide (0 ≤ v5) && decide (v5 < (v0n : Int)) then
           ((((r0.set v5.toNat (v1,x1.2.1,x1.2.2.1,x1.2.2.2.1,())).set v5.toNat (x3.1,x2,x3.2.2.1,x3.2.2.2.1,())).set v5.toNat (x5.1,x5.2.1,x4,x5.2.2.2.1,()))[v5.toNat]?).bind fun x6 =>
            laws_markEntryS_p0 l0 v0n (IntKind.i64.wrap ((IntKind.i64.wrap ((IntKind.i64.wrap ((IntKind.i64.wrap (v1 + 1)) + 1)) + 1)) + 1)) (IntKind.i64.wrap (v5 + 1)) ((((r0.set v5.toNat (v1,x1.2.1,x1.2.2.1,x1.2.2.2.1,())).set v5.toNat (x3.1,x2,x3.2.2.1,x3.2.2.2.1,())).set v5.toNat (x5.1,x5.2.1,x4,x5.2.2.2.1,())).set v5.toNat (x6.1,x6.2.1,x6.2.2.1,IntKind.i64.wrap ((IntKind.i64.wrap ((IntKind.i64.wrap (v1 + 1)) + 1)) + 1),()))
          else
           none
        else
         none
     else
      none
  else
   none
 else
  if decide (r0.length = l0) then
   some (v1,r0)
  else
   none :=
 (goL_dn _ _ _ 4000 _ _).trans (by kernel_rfl)
def laws_markProblemS_k0 : C :=
 .seq (.seq (.reg false [.V 6 (.mv (.t 5)),.V 7 (.mv (.t 0)),.V 8 (.len (.t 7)),.V 9 (.bin .lss (.t 6) (.t 8))] [0,1,5,9] [0]) (.cond (.t 9) .skip (.exit 0))) (.seq (.block 1 (.seq (.reg false [.V 12 (.mv (.t 0)),.V 13 (.mv (.t 5)),.V 14 (.mv (.t 1)),.V 15 (.ia 3 (.t 12) (.t 13)),.V 16 (.fa 0 (.t 15)),⟨none,true,.sto 1 (.t 16) (.t 14),none,false,[]⟩] [0,1,5] [0]) (.seq (.reg false [.V 17 (.mv (.t 1)),.V 18 (.bin .add (.t 17) (.c (.int .i64 1))),.V 1 (.asg (.t 18))] [0,1,5] [0]) (.seq (.reg false [.V 19 (.mv (.t 0)),.V 20 (.mv (.t 5)),.V 21 (.mv (.t 1)),.V 22 (.call (.c (.fn 40 [])) [.t 21]),.V 23 (.ia 3 (.t 19) (.t 20)),.V 24 (.fa 1 (.t 23)),⟨none,true,.sto 1 (.t 24) (.t 22),none,false,[]⟩] [0,1,5] [0]) (.seq (.reg false [.V 25 (.mv (.t 1)),.V 26 (.bin .add (.t 25) (.c (.int .i64 1))),.V 1 (.asg (.t 26))] [0,1,5] [0]) (.seq (.reg false [.V 27 (.mv (.t 0)),.V 28 (.mv (.t 5)),.V 29 (.mv (.t 1)),.V 30 (.call (.c (.fn 40 [])) [.t 29]),.V 31 (.ia 3 (.t 27) (.t 28)),.V 32 (.fa 2 (.t 31)),⟨none,true,.sto 1 (.t 32) (.t 30),none,false,[]⟩] [0,1,5] [0]) (.reg false [.V 33 (.mv (.t 1)),.V 34 (.bin .add (.t 33) (.c (.int .i64 1))),.V 1 (.asg (.t 34))] [0,1,5] [0]))))))) (.reg false [.V 10 (.mv (.t 5)),.V 11 (.bin .add (.t 10) (.c (.int .i64 1))),.V 5 (.asg (.t 11))] [0,1,5] [0]))
def laws_markProblemS_k1 : C :=
 .norm [0,1,5] [0] laws_markProblemS_k0
def laws_markProblemS_k2 : C :=
 .seq (.reg false [.V 35 (.mv (.t 1)),.V 4 (.asg (.t 35))] [0,4] [0]) .ret
def laws_markProblemS_ir : Fn := { np := 2,io := [true,false],res := [.t 4],own := [false],body :=
 (.seq (.reg false [.V 4 (.asg (.c (.int .i64 0)))] [0,1] [0]) (.seq (.seq (.reg false [.V 5 (.asg (.c (.int .i64 0)))] [0,1,5] [0]) (.block 0 (.loop laws_markProblemS_k1))) laws_markProblemS_k2)) }
noncomputable def laws_markProblemS_D : List (Nat × Callee) := [(40,laws_markText_c)]
def laws_markProblemS_H : List (Nat × ET) := [(7,T_Problem),(12,T_Problem),(19,T_Problem),(27,T_Problem)]
noncomputable def laws_markProblemS_c : Callee := mkCallee laws_markProblemS_D laws_markProblemS_H laws_markProblemS_ir [.ios T_Problem,.d (.one (.int .i64))] [.d (.one (.int .i64))] [.ios T_Problem]
noncomputable def laws_markProblemS (a0 : List T_Problem.ty) (a1 : Int) : Option (Int × List T_Problem.ty) := laws_markProblemS_c.f (a0,a1,())
noncomputable def laws_markProblemS_p0 (l0 : Nat) (v0n : Nat) (v1 : Int) (v5 : Int) (r0 : List T_Problem.ty) : Option (Int × List T_Problem.ty) :=
 goL laws_markProblemS_D laws_markProblemS_H (vleave laws_markProblemS_ir [.ios T_Problem,.d (.one (.int .i64))] [.d (.one (.int .i64))] [.ios T_Problem] [l0]) [.c laws_markProblemS_k0,.l laws_markProblemS_k1,.e 0,.c laws_markProblemS_k2]
  ⟨[(0,.view 0 0 v0n),(1,.int .i64 v1),(5,.int .i64 v5)],[(0,some (.sl T_Problem r0))]⟩
theorem laws_markProblemS_eq (a0 : List T_Problem.ty) (a1 : Int) : laws_markProblemS a0 a1 =
 laws_markProblemS_p0 a0.length a0.length a1 0 a0 :=
 (mk_f _ _ _ _ _ _ _ 4000).trans (by kernel_rfl)
theorem laws_markProblemS_p0_eq (l0 : Nat) (v0n : Nat) (v1 : Int) (v5 : Int) (r0 : List T_Problem.ty) : laws_markProblemS_p0 l0 v0n v1 v5 r0 =
 if decide (v5 < (v0n : Int)) then
  if decide (0 ≤ v5) && decide (v5 < (v0n : Int)) then
   (r0[v5.toNat]?).bind fun x1 =>
    (laws_markText (IntKind.i64.wrap (v1 + 1))).bind fun x2 =>
     if decide (0 ≤ v5) && decide (v5 < (v0n : Int)) then
      ((r0.set v5.toNat (v1,x1.2.1,x1.2.2.1,()))[v5.toNat]?).bind fun x3 =>
       (laws_markText (IntKind.i64.wrap ((IntKind.i64.wrap (v1 + 1)) + 1))).bind fun x4 =>
        if decide (0 ≤ v5) && decide (v5 < (v0n : Int)) then
         (((r0.set v5.toNat (v1,x1.2.1,x1.2.2.1,())).set v5.toNat (x3.1,x2,x3.2.2.1,()))[v5.toNat]?).bind fun x5 =>
          laws_markProblemS_p0 l0 v0n (IntKind.i64.wrap ((IntKind.i64.wrap ((IntKind.i64.wrap (v1 + 1)) + 1)) + 1)) (IntKind.i64.wrap (v5 + 1)) (((r0.set v5.toNat (v1,x1.2.1,x1.2.2.1,())).set v5.toNat (x3.1,x2,x3.2.2.1,())).set v5.toNat (x5.1,x5.2.1,x4,()))
        else
         none
     else
      none
  else
   none
 else
  if decide (r0.length = l0) then
   some (v1,r0)
  else
   none :=
 (goL_dn _ _ _ 4000 _ _).trans (by kernel_rfl)
def laws_heldProblemS_k0 : C :=
 .seq (.seq (.reg false [.V 6 (.mv (.t 5)),.V 7 (.mv (.t 0)),.V 8 (.len (.t 7)),.V 9 (.bin .lss (.t 6) (.t 8))] [0,1,5,9] []) (.cond (.t 9) .skip (.exit 0))) (.seq (.block 1 (.seq (.seq (.reg false [.V 12 (.mv (.t 0)),.V 13 (.mv (.t 5)),.V 14 (.ia 3 (.t 12) (.t 13)),.V 15 (.fa 0 (.t 14)),.V 16 (.ld none (.t 15)),.V 17 (.mv (.t 1)),.V 18 (.bin .neq (.t 16) (.t 17))] [0,1,5,18] []) (.cond (.t 18) (.seq (.reg false [.V 4 (.asg (.c (.int .i64 (-1))))] [4] []) .ret) .skip)) (.seq (.reg false [.V 19 (.mv (.t 1)),.V 20 (.bin .add (.t 19) (.c (.int .i64 1))),.V 1 (.asg (.t 20))] [0,1,5] []) (.seq (.seq (.reg true [.V 21 (.mv (.t 0)),.V 22 (.mv (.t 5)),.V 23 (.ia 3 (.t 21) (.t 22)),.V 24 (.fa 1 (.t 23)),.V 25 (.ld none (.t 24)),.V 26 (.mv (.t 1)),.V 27 (.call (.c (.fn 40 [])) [.t 26]),.V 28 (.bin .neq (.t 25) (.t 27))] [0,1,5,28] []) (.cond (.t 28) (.seq (.reg false [.V 4 (.asg (.c (.int .i64 (-1))))] [4] []) .ret) .skip)) (.seq (.reg false [.V 29 (.mv (.t 1)),.V 30 (.bin .add (.t 29) (.c (.int .i64 1))),.V 1 (.asg (.t 30))] [0,1,5] []) (.seq (.seq (.reg true [.V 31 (.mv (.t 0)),.V 32 (.mv (.t 5)),.V 33 (.ia 3 (.t 31) (.t 32)),.V 34 (.fa 2 (.t 33)),.V 35 (.ld none (.t 34)),.V 36 (.mv (.t 1)),.V 37 (.call (.c (.fn 40 [])) [.t 36]),.V 38 (.bin .neq (.t 35) (.t 37))] [0,1,5,38] []) (.cond (.t 38) (.seq (.reg false [.V 4 (.asg (.c (.int .i64 (-1))))] [4] []) .ret) .skip)) (.reg false [.V 39 (.mv (.t 1)),.V 40 (.bin .add (.t 39) (.c (.int .i64 1))),.V 1 (.asg (.t 40))] [0,1,5] []))))))) (.reg false [.V 10 (.mv (.t 5)),.V 11 (.bin .add (.t 10) (.c (.int .i64 1))),.V 5 (.asg (.t 11))] [0,1,5] []))
def laws_heldProblemS_k1 : C :=
 .norm [0,1,5] [] laws_heldProblemS_k0
def laws_heldProblemS_k2 : C :=
 .seq (.reg false [.V 41 (.mv (.t 1)),.V 4 (.asg (.t 41))] [4] []) .ret
def laws_heldProblemS_ir : Fn := { np := 2,io := [],res := [.t 4],own := [false],body :=
 (.seq (.reg false [.V 4 (.asg (.c (.int .i64 0)))] [0,1] []) (.seq (.seq (.reg false [.V 5 (.asg (.c (.int .i64 0)))] [0,1,5] []) (.block 0 (.loop laws_heldProblemS_k1))) laws_heldProblemS_k2)) }
noncomputable def laws_heldProblemS_D : List (Nat × Callee) := [(40,laws_markText_c)]
def laws_heldProblemS_H : List (Nat × ET) := [(7,T_Problem),(12,T_Problem),(21,T_Problem),(31,T_Problem)]
noncomputable def laws_heldProblemS_c : Callee := mkCallee laws_heldProblemS_D laws_heldProblemS_H laws_heldProblemS_ir [.d (.one (.sl T_Problem)),.d (.one (.int .i64))] [.d (.one (.int .i64))] []
noncomputable def laws_heldProblemS (a0 : List T_Problem.ty) (a1 : Int) : Option (Int) := laws_heldProblemS_c.f (a0,a1,())
noncomputable def laws_heldProblemS_p0  (v0 : List T_Problem.ty) (v1 : Int) (v5 : Int) : Option (Int) :=
 goL laws_heldProblemS_D laws_heldProblemS_H (vleave laws_heldProblemS_ir [.d (.one (.sl T_Problem)),.d (.one (.int .i64))] [.d (.one (.int .i64))] [] []) [.c laws_heldProblemS_k0,.l laws_heldProblemS_k1,.e 0,.c laws_heldProblemS_k2]
  ⟨[(0,.sl T_Problem v0),(1,.int .i64 v1),(5,.int .i64 v5)],[]⟩
theorem laws_heldProblemS_eq (a0 : List T_Problem.ty) (a1 : Int) : laws_heldProblemS a0 a1 =
 laws_heldProblemS_p0 a0 a1 0 :=
 (mk_f _ _ _ _ _ _ _ 4000).trans (by kernel_rfl)
theorem laws_heldProblemS_p0_eq  (v0 : List T_Problem.ty) (v1 : Int) (v5 : Int) : laws_heldProblemS_p0 v0 v1 v5 =
 if decide (v5 < (v0.length : Int)) then
  if decide (0 ≤ v5) then
   (v0[v5.toNat]?).bind fun x1 =>
    if (x1.1 != v1) then
     some (-1)
    else
     if decide (0 ≤ v5) then
      (v0[v5.toNat]?).bind fun x2 =>
       (laws_markText (IntKind.i64.wrap (v1 + 1))).bind fun x3 =>
        if (!(x2.2.1 == x3)) then
         some (-1)
        else
         if decide (0 ≤ v5) then
          (v0[v5.toNat]?).bind fun x4 =>
           (laws_markText (IntKind.i64.wrap ((IntKind.i64.wrap (v1 + 1)) + 1))).bind fun x5 =>
            if (!(x4.2.2.1 == x5)) then
             some (-1)
            else
             laws_heldProblemS_p0 v0 (IntKind.i64.wrap ((IntKind.i64.wrap ((IntKind.i64.wrap (v1 + 1)) + 1)) + 1)) (IntKind.i64.wrap (v5 + 1))
         else
          none
     else
      none
  else
   none
 else
  some v1 :=
 (goL_dn _ _ _ 4000 _ _).trans (by kernel_rfl)
noncomputable def laws_FnExactAuditShop_F : ShopF := { sz := laws_szShop,sp := spec_AuditShop,im := impl_AuditShop,ep := laws_eqProblemS,es := laws_eqShop,t0 := laws_toArcS,t1 := laws_toCordS,tI := laws_toInt64S,t6 := laws_toRentalS,t7 := laws_toEntryS,k0 := laws_markArcS,k1 := laws_markCordS,kI := laws_markInt64S,k6 := laws_markRentalS,k7 := laws_markEntryS,kT := laws_markText,mp := laws_markProblemS,hp := laws_heldProblemS }
noncomputable def laws_FnExactAuditShop_c : Callee := lawC shopE laws_FnExactAuditShop_F.Cond
end Go.Ab.P
